import Derived.Test.YtgklikkddckgbaaGreatDoorHWG
import Derived.Test.YtgklikkddckgbaaGreatDoorHWH
import Derived.Deep.CutRange
set_option linter.all false
namespace Go.Proofs.YtgklikkddckgbaaGreatDoor.Mo
open Go.RowKit
def markL (D:Nat):Deferred:={target:=.collected D,args:=#[]}
theorem leaves_marksL {F:Fence} {n:Nat} {P:Program} {fn:Func} {tmps:Array Value} {R:Ending→World→Prop}:∀(Ds:List Nat) (W:World),Ds.Nodup→(∀D∈Ds,W.heap[D]?=some (.deferred (some [])))→
    (∀W',(∀k,k∉Ds→W'.heap[k]?=W.heap[k]?)→(∀B,(∀D∈Ds,B≤D)→B≤W.heap.size→Below B W W')→LeavesIn F n P fn tmps R [] .returning W')→LeavesInM F n P fn tmps R (Ds.map markL) .returning W
  |[],W,_,_,h=>h W (fun _ _=>rfl) (fun B _ _=>qb B W)
  |D::Ds,W,hnd,hd,h=>by
   refine⟨by simp,.inl ⟨D,_,rfl,run_takeDeferred (hd D (by simp)),?_⟩⟩;rw[List.nodup_cons] at hnd;refine leaves_marksL Ds _ hnd.2 (fun D' hD'=>?_) (fun W' h1 h2=>h W' (fun k hk=>?_) (fun B hB hs=>?_))
   · exact(World.putObj_heap_other (fun e:D'=D=>hnd.1 (by rw[←e];exact hD'))).trans (hd D' (by simp[hD']))
   · exact(h1 k (fun hk'=>hk (by simp[hk']))).trans (World.putObj_heap_other (fun e=>hk (by simp[e])))
   · have:=h2 B (fun D' hD'=>hB D' (by simp[hD'])) (by simpa using hs)
     refine Below.trans ?_ this;exact(qb B W).grown (grownBy_putObj' W D _) hs (fun k e=>by cases e;exact hB D (by simp))
def LnsPost (w:World):Exit→Act→World→Prop
  |.ret,a,W=>∃Ds:List Nat,a.defers=Ds.map markL∧Ds.Nodup∧(∀D∈Ds,w.heap.size<D∧W.heap[D]?=some (.deferred (some [])))∧a.tmps[4]?=some (.pointer (some ⟨w.heap.size,0,none⟩))∧
      W.heap[w.heap.size]?=some (.cells #[.bool true] 4 (0,0))∧Below w.heap.size w W
  |_,_,_=>False
theorem scheme_off (B fb:Nat) (f:Fm) (vl vm vs:Value) (n:Int) (w:World) (h:FmM w B fb f vl vm vs) (hn:n<f.least∨f.most<n):
    Calls Tryz.prog 24 #[.pointer (some ⟨fb,0,none⟩),.int .i64 n] w fun e w'=>e=.returned (.tuple #[.agg #[.slice none 0 0,.slice none 0 0],.int .i64 5])∧Below w.heap.size w w':=by
  obtain⟨W0,hW0⟩:∃W0,w.alloc (.cells #[.slice none 0 0,.slice none 0 0] 60)=W0:=⟨_,rfl⟩;have hb0:Below w.heap.size w W0:=by rw[←hW0];exact(qb _ _).alloc (ql _) _
  have hr0:W0.heap[w.heap.size]?=some (.cells #[.slice none 0 0,.slice none 0 0] 60 (0,0)):=by rw[←hW0];exact qn w _
  have Hc:=check_form B fb f vl vm vs n W0 (h.below hb0);rw[if_pos hn] at Hc;have HC:=qh Hc;have HW0:=qh hW0;have Hb0:=qh hb0;have r0:=qc _ _ 0 _ _ (0,0) hr0;have r1:=qc _ _ 1 _ _ (0,0) hr0;have z0:=qf _ _ 0 _ _ hr0;have z1:=qf _ _ 1 _ _ hr0;have s1:=qs _ _ 0 _ _ (.slice none 0 0) hr0;have s2:=qs _ _ 1 _ _ (.slice none 0 0) s1;have d0:((W0.setCell ⟨w.heap.size,0,none⟩ (.slice none 0 0)).setCell ⟨w.heap.size,1,none⟩ (.slice none 0 0)).cell? ⟨w.heap.size,0,none⟩=some (.slice none 0 0):=qc _ _ 0 _ _ (0,0) s2;have d1:((W0.setCell ⟨w.heap.size,0,none⟩ (.slice none 0 0)).setCell ⟨w.heap.size,1,none⟩ (.slice none 0 0)).cell? ⟨w.heap.size,1,none⟩=some (.slice none 0 0):=qc _ _ 1 _ _ (0,0) s2;have HD:=qh (And.intro d0 d1);clear Hc h hn hW0 hb0 hr0 s1 s2 d0 d1;go_enter Tryz.func24,Tryz.ntmps24;go_wp2_with fail;rw[HW0.out];refine HC.out.mono ?_;rintro e w2 ⟨rfl,rfl⟩;go_wp2_with fail;obtain⟨d0,d1⟩:=HD.out;refine bodyPost_ret (v:=.tuple #[.agg #[.slice none 0 0,.slice none 0 0],.int .i64 5]) ?_ rfl ⟨rfl,(Hb0.out.setCell (p:=⟨w.heap.size,0,none⟩) (ql _) _).setCell (p:=⟨w.heap.size,1,none⟩) (ql _) _⟩;simp[results,Tryz.f24,go_sem,d0,d1,Tryz.isAgg60,Tryz.sizeOf60]
theorem own_set_any {W:World} {B g k n:Nat} {v u:Value} {ys:List Value} (h:W.ownsRow B 3 1 v n ys):∃ys',(W.setCell ⟨g,k,none⟩ u).ownsRow B 3 1 v n ys':=by
  obtain⟨A,c,rfl⟩:=zab h;by_cases e:(Value.slice A n c).ownBlock=some g
  · rcases h.2 with⟨e2,_⟩|⟨g',cap,cur,e2,_⟩
    · cases e2;cases e
    · cases e2
      have:g'=g:=(by simpa [Value.ownBlock] using e);subst this;exact⟨_,(h.stored k u).1⟩
  · exact⟨ys,ownsRow_setCell_other h e u⟩
structure SpM (S E:Nat) (xs:List YD) (W W':World):Prop where
  b:Below S W W'
  k:∀i,(E≤i∨∃cs t,W.heap[i]?=some (.cells cs t (0,0))∧t≠3)→i<W.heap.size→W'.heap[i]?=W.heap[i]?
  h:∀x∈xs,∃ys,W'.ownsRow S 3 1 x.v x.d.has.length ys
theorem SpM.start {S E B:Nat} {xs:List YD} {W:World} {v:Value} (h:DmsM W B v xs) (hB:S≤B):SpM S E xs W W:=⟨qb _ _,fun _ _ _=>rfl,fun x hx=>⟨_,zaT (h.h x hx).1 hB⟩⟩
theorem SpM.put {S E:Nat} {xs:List YD} {W W':World} {x:YD} {g c:Nat} (h:SpM S E xs W W') (hx:x∈xs) (hv:x.v=.slice (some ⟨g,0,none⟩) x.d.has.length c) (hE:g<E) (h3:∀cs t,W.heap[g]?=some (.cells cs t (0,0))→t=3) (k:Nat) (u:Value):SpM S E xs W (W'.setCell ⟨g,k,none⟩ u):=by
  obtain⟨ys,hy⟩:=h.h x hx;rw[hv] at hy;have hg:=own_at hy rfl;refine⟨h.b.setCell (p:=⟨g,k,none⟩) hg _,fun i hi hw=>?_,fun y hy=>?_⟩
  · refine(qT _ _ _ _ (fun e=>?_)).trans (h.k i hi hw)
    have e2:i=g:=e;subst e2;rcases hi with hi|⟨cs,t,hc,ht⟩
    · omega
    · exact ht (h3 cs t hc)
  · obtain⟨zs,hz⟩:=h.h y hy
    exact own_set_any hz
theorem SpM.own {S E B e z n:Nat} {xs:List YD} {W W':World} {v:Value} {l:List Value} (h:SpM S E xs W W') (ho:W.ownsRow B e z v n l) (hB:E≤B∨e≠3):W'.ownsRow B e z v n l:=by
  refine⟨ho.1,ho.2.imp id ?_⟩;rintro⟨g,cap,cur,h1,h2,h3,h4⟩;exact⟨g,cap,cur,h1,h2,(h.k g (by rcases hB with hB|hB;exact .inl (qm hB h2);exact .inr ⟨_,_,h3,hB⟩) (qg h3).1).trans h3,h4⟩
theorem SpM.row {S E i t:Nat} {xs:List YD} {W W':World} {cs:Array Value} (h:SpM S E xs W W') (hr:W.heap[i]?=some (.cells cs t (0,0))) (hi:E≤i∨i<S∨t≠3):W'.heap[i]?=some (.cells cs t (0,0)):=by
  rcases hi with hi|hi|hi
  · exact(h.k i (.inl hi) (qg hr).1).trans hr
  · exact(h.b.block i hi).trans hr
  · exact(h.k i (.inr ⟨_,_,hr,hi⟩) (qg hr).1).trans hr
theorem DmsM.sp {S E B:Nat} {xs ys:List YD} {W W':World} {v:Value} (h:DmsM W B v ys) (hs:SpM S E xs W W') (hB:E≤B):DmsM W' B v ys:=⟨hs.own h.o (.inl hB),fun x hx=>⟨hs.own (h.h x hx).1 (.inl hB),(h.h x hx).2⟩⟩
theorem sp_at {w:World} {B n c:Nat} {A:Option Addr} {xs:List YD} (h:DmsM w B (.slice A n c) xs) (hn:xs.length=n) {i:Nat} (hi:i<n):
    ∃(g:Nat) (x:YD) (Ah:Option Addr) (ch:Nat),A=some ⟨g,0,none⟩∧x∈xs∧x.v=.slice Ah x.d.has.length ch∧x.d.has.length≤4∧∀S E W',SpM S E xs w W'→W'.cell? ⟨g,i*9+7,none⟩=some (.slice Ah x.d.has.length ch):=by
  have hix:i<xs.length:=by omega
  have hget:xs.getD i YD0=xs[i]:=by simp[List.getD_eq_getElem?_getD,hix]
  have hmem:xs.getD i YD0∈xs:=by rw[hget];exact qM _
  have hm:=h.h _ hmem;obtain⟨Ah,ch,hv⟩:=zab hm.1;rcases h.o.2 with⟨_,e0⟩|⟨g,cap,cur,e,_,hg,hcap,_⟩
  · omega
  · cases e
    refine⟨g,xs.getD i YD0,Ah,ch,rfl,hmem,hv,hm.2,fun S E W' hs=>?_⟩;rw[World.cell?_of_block (hs.k g (.inr ⟨_,_,hg,by decide⟩) (Array.getElem?_eq_some_iff.1 hg).1),h.get hn hi 7 (by decide)];show some (xs.getD i YD0).v=_;rw[hv]
theorem sp_in {w7 w W':World} {S B j ch:Nat} {Ah:Option Addr} {v:Value} {xs:List YD} {x:YD} (h:DmsM w7 B v xs) (hb:Below w7.heap.size w7 w) (hs:SpM S w7.heap.size xs w W') (hx:x∈xs) (hv:x.v=.slice Ah x.d.has.length ch) (hj:j<x.d.has.length):
    ∃(g:Nat) (u:Value),Ah=some ⟨g,0,none⟩∧W'.cell? ⟨g,j,none⟩=some u∧W'.frozen? ⟨g,j,none⟩=false∧∀z,SpM S w7.heap.size xs w (W'.setCell ⟨g,j,none⟩ z):=by
  have hm:=(h.h x hx).1;rw[hv] at hm;obtain⟨g,cap,he⟩:=zak hm (by omega);cases he;obtain⟨ys,hy⟩:=hs.h x hx;rw[hv] at hy;have hlen:=hy.1;have hyl:j<ys.length:=by omega
  refine⟨g,ys[j],rfl,by rw[hy.cellAt j (by omega)];simp,hy.frozenAt j,fun z=>hs.put hx hv (hm.lt g rfl).2 (fun cs t ht=>?_) j z⟩;obtain⟨c,fz,hk⟩:=Lib.ownsRow_kind hm g rfl;rw[(hb.block g (hm.lt g rfl).2),hk] at ht;cases ht;rfl

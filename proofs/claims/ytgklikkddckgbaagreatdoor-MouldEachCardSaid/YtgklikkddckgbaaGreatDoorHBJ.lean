import Derived.Test.YtgklikkddckgbaaGreatDoorHBH
import Derived.Test.YtgklikkddckgbaaGreatDoorHBI
import Derived.Test.YtgklikkddckgbaaGreatDoorHBK
/- Lemmas of the claim. -/
set_option linter.all false
namespace Go.Proofs.YtgklikkddckgbaaGreatDoor.Mo
open Go Go.RowKit
end Go.Proofs.YtgklikkddckgbaaGreatDoor.Mo
namespace Go.Proofs.YtgklikkddckgbaaGreatDoor
open Go
def noDefer (l:List Oper):Bool:=l.all fun o=>match o.op with|.defer _=>false|_=>true
section
variable {P:Program} {ops:Array Oper} {C:World→Prop} {l n:Nat} {md:Region.Mode}
theorem opIn_of_wp {o:Oper} {a:Act} {K:Act→World→Prop} {Q:Exit→Act→World→Prop} {w:World} (hnd:∀c,o.op≠.defer c) (h:o.wp P a w K Q):o.wpIn (Fence.wide.inRound l) n P a w K Q:=by
  unfold Oper.wpIn;unfold Oper.wp at h;refine⟨fun _ _=>trivial,?_⟩;rw[Fence.inRound_round,Oper.semAt_some _ _ _ hnd];generalize (execOp a.eval o).run P w=r at*;cases r with
  |ok nx w'=>
   cases nx<;>simp only[Oper.upon] at h<;>simp only[Oper.uponIn]
   case value u=>exact h
   case skip=>exact h
   case defer d=>exact h
   case enter f args=>exact⟨fun hd=>by simp[Fence.wide] at hd,CallsIn.inRound l ((callsIn_wide (n:=n-1)).2 h)⟩
   case row f args=>exact⟨fun hd=>by simp[Fence.wide] at hd,fun c cs _=>let ⟨v,w',r,s⟩:=h c cs;⟨v,w',r,by rw[fenced_inRound];exact stepsIn_wide.2 s⟩⟩
  |halt x w'=>cases x<;>simp only[Oper.upon] at h<;>simp only[Oper.uponIn]<;>exact h
theorem wpAnyIn_of_held {S:World→Prop} {Q:Exit→Act→World→Prop} (hnd:noDefer ops.toList=true) (hlo:¬LetsOut Q):∀(fuel:Nat) (listed:Array Bool) (a:Act) (w:World),wpAnyH P md ops Q S fuel listed a w→wpAnyIn (Fence.wide.inRound l) n P md ops Q fuel listed a w
  |0,_,_,_,h=>h
  |fuel+1,_,a,w,h=>⟨h.1,fun i hi=>by
   have h2:=h.2 i hi;have ih:=fun listed a' w' (h':wpAnyH P md ops Q S fuel listed a' w')=>wpAnyIn_of_held hnd hlo fuel listed a' w' h';unfold wpOp at h2;unfold wpOpIn;split
   · rename_i ho;simp only[ho] at h2;exact ih _ _ _ h2.2
   · rename_i o ho
     simp only[ho] at h2;split
     · rename_i hw
       simp only[hw,if_true] at h2;rcases h2 with h2|h2
       · refine Oper.wpIn_mono (fun a' w' h'=>ih _ a' w' h'.2) (opIn_of_wp (fun c hc=>?_) h2)
         have hm:o∈ops.toList:=by
           have:=Array.mem_of_getElem? ho;simpa using this
         have:=List.all_eq_true.1 hnd o hm;rw[hc] at this;cases this
       · exact absurd h2.2 hlo
     · rename_i hw;simp only[hw] at h2;exact⟨fun _ _=>trivial,ih _ _ _ h2.2⟩⟩
theorem wpIn_region_held_round {id:Nat} {S:World→Prop} {Q:Exit→Act→World→Prop} {a:Act} {w:World} (hnd:noDefer ops.toList=true) (hm:P.follows .mixedOrders=true) (hlo:¬LetsOut Q) (hS:S w.drew)
    (h:S w.drew→wpAnyH P .any ops Q S ops.size (Array.replicate ops.size false) a w.drew):(Code.region id ops true).wpIn (Fence.wide.inRound l) n P Q a w:=
  wpIn_region_any hm (wpAnyIn_of_held hnd hlo _ _ _ _ (h hS))
end
end Go.Proofs.YtgklikkddckgbaaGreatDoor
namespace Go.Proofs.YtgklikkddckgbaaGreatDoor.Mo
open Go Go.RowKit
attribute [local go_sem] Oper.semAt_some
def markE (D:Nat):Deferred:={target:=.collected D,args:=#[]}
theorem leaves_marksE {F:Fence} {n:Nat} {P:Program} {fn:Func} {tmps:Array Value} {R:Ending→World→Prop}:∀(Ds:List Nat) (W:World),Ds.Nodup→(∀D∈Ds,W.heap[D]?=some (.deferred (some [])))→
    (∀W',(∀k,k∉Ds→W'.heap[k]?=W.heap[k]?)→(∀B,(∀D∈Ds,B≤D)→B≤W.heap.size→Below B W W')→LeavesIn F n P fn tmps R [] .returning W')→LeavesInM F n P fn tmps R (Ds.map markE) .returning W
  |[],W,_,_,h=>h W (fun _ _=>rfl) (fun B _ _=>qb B W)
  |D::Ds,W,hnd,hd,h=>by
   refine⟨by simp,.inl ⟨D,_,rfl,run_takeDeferred (hd D (by simp)),?_⟩⟩;rw[List.nodup_cons] at hnd;refine leaves_marksE Ds _ hnd.2 (fun D' hD'=>?_) (fun W' h1 h2=>h W' (fun k hk=>?_) (fun B hB hs=>?_))
   · exact(World.putObj_heap_other (fun e:D'=D=>hnd.1 (by rw[←e];exact hD'))).trans (hd D' (by simp[hD']))
   · exact(h1 k (fun hk'=>hk (by simp[hk']))).trans (World.putObj_heap_other (fun e=>hk (by simp[e])))
   · have:=h2 B (fun D' hD'=>hB D' (by simp[hD'])) (by simpa using hs)
     refine Below.trans ?_ this;exact(qb B W).grown (grownBy_putObj' W D _) hs (fun k e=>by cases e;exact hB D (by simp))
set_option maxRecDepth 100000 in
theorem arr_FrE (f:Nat→Value):#[f 0,f 1,f 2,f 3,f 4,f 5,f 6,f 7,f 8,f 9,f 10,f 11,f 12,f 13,f 14,f 15,f 16,f 17,f 18,f 19,f 20,f 21,f 22,f 23,f 24,f 25,f 26,f 27,f 28,f 29,f 30,f 31,f 32,f 33,f 34,f 35,f 36,f 37,f 38,f 39,f 40,f 41,f 42,f 43,f 44,f 45,f 46,f 47,f 48,f 49,f 50,f 51,f 52,f 53,f 54,f 55,f 56,f 57,f 58,f 59,f 60,f 61,f 62,f 63,f 64,f 65,f 66,f 67,f 68,f 69,f 70,f 71,f 72,f 73,f 74,f 75,f 76,f 77,f 78,f 79,f 80,f 81,f 82,f 83,f 84,f 85,f 86,f 87,f 88,f 89,f 90,f 91,f 92,f 93,f 94,f 95,f 96,f 97,f 98,f 99,f 100,f 101]=((List.range 102).map f).toArray:=rfl
theorem arrOf_FrE (t:Array Value) (h:t.size=102):t=((List.range 102).map fun n=>t.getD n undef).toArray:=by
  apply Array.ext
  · simp[h]
  · intro i h1 h2
    simp[Array.getD,h1]
def FrE (sb ob rbx ib bp k:Nat) (a:Act):Prop:=∃f:Nat→Value,a={tmps:=#[f 0,f 1,f 2,f 3,f 4,.pointer (some ⟨sb,0,none⟩),.pointer (some ⟨(sb+1),0,none⟩),f 7,f 8,f 9,f 10,.pointer (some ⟨ob,0,none⟩),f 12,.pointer (some ⟨rbx,0,none⟩),.pointer (some ⟨ib,0,none⟩),.int .i64 (k:Int),.pointer (some ⟨bp,0,none⟩),f 17,f 18,f 19,f 20,f 21,f 22,f 23,f 24,f 25,f 26,f 27,f 28,f 29,f 30,f 31,f 32,f 33,f 34,f 35,f 36,f 37,f 38,f 39,f 40,f 41,f 42,f 43,f 44,f 45,f 46,f 47,f 48,f 49,f 50,f 51,f 52,f 53,f 54,f 55,f 56,f 57,f 58,f 59,f 60,f 61,f 62,f 63,f 64,f 65,f 66,f 67,f 68,f 69,f 70,f 71,f 72,f 73,f 74,f 75,f 76,f 77,f 78,f 79,f 80,f 81,f 82,f 83,f 84,f 85,f 86,f 87,f 88,f 89,f 90,f 91,f 92,f 93,f 94,f 95,f 96,f 97,f 98,f 99,f 100,f 101],defers:=[]}
set_option maxRecDepth 100000 in
theorem FrE.of {sb ob rbx ib bp k:Nat} {a:Act} (hd:a.defers=[]) (hs:a.tmps.size=102) (h5:a.tmps.getD 5 undef=.pointer (some ⟨sb,0,none⟩)) (h6:a.tmps.getD 6 undef=.pointer (some ⟨(sb+1),0,none⟩)) (h11:a.tmps.getD 11 undef=.pointer (some ⟨ob,0,none⟩)) (h13:a.tmps.getD 13 undef=.pointer (some ⟨rbx,0,none⟩)) (h14:a.tmps.getD 14 undef=.pointer (some ⟨ib,0,none⟩)) (h15:a.tmps.getD 15 undef=.int .i64 (k:Int)) (h16:a.tmps.getD 16 undef=.pointer (some ⟨bp,0,none⟩)):FrE sb ob rbx ib bp k a:=by
  refine⟨fun n=>a.tmps.getD n undef,?_⟩;have e:=(arrOf_FrE a.tmps hs).trans (arr_FrE fun n=>a.tmps.getD n undef).symm;obtain⟨t,d⟩:=a;simp only[] at*;rw[h5,h6,h11,h13,h14,h15,h16] at e;rw[hd,←e]
set_option maxRecDepth 100000 in
theorem arr_FrL (f:Nat→Value):#[f 0,f 1,f 2,f 3,f 4,f 5,f 6,f 7,f 8,f 9,f 10,f 11,f 12,f 13,f 14,f 15,f 16,f 17,f 18,f 19,f 20,f 21,f 22,f 23,f 24,f 25,f 26,f 27,f 28,f 29,f 30,f 31,f 32,f 33,f 34,f 35,f 36,f 37,f 38,f 39,f 40,f 41,f 42,f 43,f 44,f 45,f 46,f 47,f 48,f 49,f 50,f 51,f 52,f 53,f 54,f 55,f 56,f 57,f 58,f 59,f 60,f 61,f 62,f 63,f 64,f 65,f 66,f 67,f 68,f 69,f 70,f 71,f 72,f 73,f 74,f 75,f 76,f 77,f 78,f 79,f 80,f 81,f 82,f 83,f 84,f 85,f 86,f 87,f 88,f 89,f 90,f 91,f 92,f 93,f 94,f 95,f 96,f 97,f 98,f 99,f 100,f 101]=((List.range 102).map f).toArray:=rfl
theorem arrOf_FrL (t:Array Value) (h:t.size=102):t=((List.range 102).map fun n=>t.getD n undef).toArray:=by
  apply Array.ext
  · simp[h]
  · intro i h1 h2
    simp[Array.getD,h1]
def FrL (sb ob fx rx rb:Nat) (ds:List Deferred) (a:Act):Prop:=∃f:Nat→Value,a={tmps:=#[f 0,f 1,f 2,f 3,f 4,.pointer (some ⟨sb,0,none⟩),.pointer (some ⟨(sb+1),0,none⟩),f 7,f 8,f 9,f 10,.pointer (some ⟨ob,0,none⟩),.func (.func 37) #[] #[.pointer (some ⟨fx,0,none⟩),.pointer (some ⟨rx,0,none⟩)],.pointer (some ⟨rb,0,none⟩),f 14,f 15,f 16,f 17,f 18,f 19,f 20,f 21,f 22,f 23,f 24,f 25,f 26,f 27,f 28,f 29,f 30,f 31,f 32,f 33,f 34,f 35,f 36,f 37,f 38,f 39,f 40,f 41,f 42,f 43,f 44,f 45,f 46,f 47,f 48,f 49,f 50,f 51,f 52,f 53,f 54,f 55,f 56,f 57,f 58,f 59,f 60,f 61,f 62,f 63,f 64,f 65,f 66,f 67,f 68,f 69,f 70,f 71,f 72,f 73,f 74,f 75,f 76,f 77,f 78,f 79,f 80,f 81,f 82,f 83,f 84,f 85,f 86,f 87,f 88,f 89,f 90,f 91,f 92,f 93,f 94,f 95,f 96,f 97,f 98,f 99,f 100,f 101],defers:=ds}
set_option maxRecDepth 100000 in
theorem FrL.of {sb ob fx rx rb:Nat} {ds:List Deferred} {a:Act} (hd:a.defers=ds) (hs:a.tmps.size=102) (h5:a.tmps.getD 5 undef=.pointer (some ⟨sb,0,none⟩)) (h6:a.tmps.getD 6 undef=.pointer (some ⟨(sb+1),0,none⟩)) (h11:a.tmps.getD 11 undef=.pointer (some ⟨ob,0,none⟩)) (h12:a.tmps.getD 12 undef=.func (.func 37) #[] #[.pointer (some ⟨fx,0,none⟩),.pointer (some ⟨rx,0,none⟩)]) (h13:a.tmps.getD 13 undef=.pointer (some ⟨rb,0,none⟩)):FrL sb ob fx rx rb ds a:=by
  refine⟨fun n=>a.tmps.getD n undef,?_⟩;have e:=(arrOf_FrL a.tmps hs).trans (arr_FrL fun n=>a.tmps.getD n undef).symm;obtain⟨t,d⟩:=a;simp only[] at*;rw[h5,h6,h11,h12,h13] at e;rw[hd,←e]
theorem below_on {A W2 W3:World} (h:Below A.heap.size A W2) (h2:Below W2.heap.size W2 W3):Below A.heap.size A W3:=h.trans (h2.mono h.size)
theorem row_on {w w':World} {b:Nat} {o:Obj} (h:w.heap[b]?=some o) (hb:Below w.heap.size w w'):w'.heap[b]?=some o:=(hb.block b (qg h).1).trans h
theorem row_on' {w w':World} {b:Nat} {o:Obj} (h:w.heap[b]?=some o) (hb:Below w.heap.size w w'):w'.heap[b]?=some o:=(hb.block b (qg h).1).trans h
def EachPost (w:World):Exit→Act→World→Prop
  |.ret,a,W=>∃Ds:List Nat,a.defers=Ds.map markE∧Ds.Nodup∧(∀D∈Ds,w.heap.size+1<D∧W.heap[D]?=some (.deferred (some [])))∧a.tmps[6]?=some (.pointer (some ⟨w.heap.size+1,0,none⟩))∧
      W.heap[w.heap.size+1]?=some (.cells #[.bool true] 4 (0,0))∧Below w.heap.size w W
  |_,_,_=>False
theorem eql_each (fx rx:Nat) (w:World):Sem.run Tryz.prog (binOp .eql 39 (.func (.func 37) #[] #[.pointer (some ⟨fx,0,none⟩),.pointer (some ⟨rx,0,none⟩)]) .nilFunc) w=.ok (.bool false) w:=by
  kernel_rfl
structure EM (w:World) (stop n:Int) (B fb fx rx ob:Nat) (f:Fm) (vl vm vs:Value) (vis:List Value) (vhss:Nat→List Value) (Bw:Nat) (vw:Value) (xw:List YD) (V:World):Prop where
  b:Below w.heap.size w V
  s:V.heap[w.heap.size]?=some (.cells #[.int .i64 stop] 3 (0,0))
  r:V.heap[w.heap.size+1]?=some (.cells #[.bool false] 4 (0,0))
  e:EachM B fb fx rx f vl vm vs n vis vhss V
  o:V.heap[ob]?=some (.cells #[vw] 36 (0,0))
  d:DmsM V Bw vw xw
theorem EM.below {w V V':World} {stop n:Int} {B fb fx rx ob:Nat} {f:Fm} {vl vm vs:Value} {vis:List Value} {vhss:Nat→List Value} {Bw:Nat} {vw:Value} {xw:List YD} (h:EM w stop n B fb fx rx ob f vl vm vs vis vhss Bw vw xw V) (hb:Below V.heap.size V V'):EM w stop n B fb fx rx ob f vl vm vs vis vhss Bw vw xw V':=
  ⟨h.b.trans (hb.mono h.b.size),(hb.block _ (qg h.s).1).trans h.s,(hb.block _ (qg h.r).1).trans h.r,h.e.below hb,(hb.block _ (qg h.o).1).trans h.o,h.d.kT (KeepT.of_below [] hb) (by simp) (by simp)⟩
structure LEM (w:World) (stop n:Int) (B fb fx rx ob:Nat) (f:Fm) (vl vm vs:Value) (vis:List Value) (vhss:Nat→List Value) (Bw:Nat) (vw:Value) (xw:List YD) (q rb:Nat) (Ds:List Nat) (V:World):Prop where
  e:EM w stop n B fb fx rx ob f vl vm vs vis vhss Bw vw xw V
  t:V.heap[rb]?=some (.cells #[.int .i64 (q:Int)] 3 (0,0))
  nd:Ds.Nodup
  ds:∀D∈Ds,w.heap.size+1<D∧V.heap[D]?=some (.deferred (some []))
def ptrOf:Value→Nat
  |.pointer (some a)=>a.block
  |_=>0
theorem heap_setCell_other (W:World) (b o D:Nat) (v:Value) (h:D≠b):(W.setCell ⟨b,o,none⟩ v).heap[D]?=W.heap[D]?:=qT W ⟨b,o,none⟩ v D h
theorem cell_lt {W:World} {a:Addr} {v:Value} (h:W.cell? a=some v):a.block<W.heap.size:=by
  obtain⟨o,ho,_⟩:=cells_of_cell h;exact(qg ho).1
theorem demE_len (f:Fm) (n:Int) (i:Nat) (hk:FmOk f i) (hi:i≤65536):(demandsE f n).length≤33554432:=by
  by_cases hn:n<f.least∨f.most<n
  · have e:demandsE f n=[]:=by unfold demandsE;rw[if_pos hn]
    rw[e];exact Nat.zero_le _
  · have e0:demandsE f n=demandsP f n:=by unfold demandsE;rw[if_neg hn]
    rw[e0];clear e0;obtain⟨N,rfl⟩:∃N:Nat,n=(N:Int):=⟨n.toNat,by have:=hk.l0;omega⟩;have m0:=hk.m0;have l0:=hk.l0;have h:=zhp f.rows N (by omega) (by omega) f.rows.length (ql _);rw[List.take_length] at h;have e:=demands_len f N (by omega);have:=hk.le;have h2:((demandsP f N).length:Int)≤33554432:=(by rw[e];omega);exact Int.ofNat_le.1 h2
def EI (Wb:World) (pre:List YD) (V:World):Prop:=Below Wb.heap.size Wb V∧V.heap[Wb.heap.size]?=some (.cells #[.int .i64 (pre.length:Int)] 3 (0,0))
theorem EI.kept {Wb V V':World} {pre:List YD} (h:EI Wb pre V) (hb:Below Wb.heap.size V V') (hk:KeepsFor 0 V V'):EI Wb pre V':=⟨h.1.trans hb,hk.2 _ _ (Nat.zero_le _) h.2 (.inl rfl)⟩
set_option maxRecDepth 100000 in
set_option maxHeartbeats 8000000 in
theorem eachL_any (s:ByteArray) (n stop:Int) (w:World) (hv:Vars w) (hm:MaxV w) (hs:s.size≤4611686018427387904):
    Calls Tryz.prog 4 #[.string s,.int .i64 n,.int .i64 stop] w fun e w'=>e=.returned (.bool true)∧Below w.heap.size w w':=by
  have h9:=hv.six;obtain⟨W1,hW1⟩:∃W1,(w.alloc (.cells #[.int .i64 stop] 3)).alloc (.cells #[.bool false] 4)=W1:=⟨_,rfl⟩;have hb1:Below w.heap.size w W1:=by rw[←hW1];exact((qb _ _).alloc (ql _) _).alloc (by simp) _
  have hS1:W1.heap[w.heap.size]?=some (.cells #[.int .i64 stop] 3 (0,0)):=by rw[←hW1];exact(qa _ _ _ (by simp)).trans (qn w _)
  have hR1:W1.heap[w.heap.size+1]?=some (.cells #[.bool false] 4 (0,0)):=by
    rw[←hW1];have:=qn (w.alloc (.cells #[.int .i64 stop] 3)) (.cells #[.bool false] 4);rw[World.size_alloc] at this;exact this
  obtain⟨mx,hmx⟩:=hm;have Hw:=qh (zmA W1 (Vars.below hv hb1 h9) ⟨mx,(qw (hb1.block 0 (by omega))).trans hmx⟩);have Hl:=qh (fun W=>zmC s W hs);have Hv:=qh hv;have HW1:=qh hW1;have Hb1:=qh hb1;have HS1:=qh hS1;have HR1:=qh hR1;clear hv hmx hW1 hb1 hS1 hR1;refine(callsIn_wide (n:=8)).1 ?_;refine callsIn_of_wp_marks Tryz.func4 rfl trivial ?_ rfl;simp only[Tryz.ntmps4,List.size_toArray,List.length_cons,List.length_nil,Nat.reduceAdd,Nat.reduceSub,Array.replicate_succ,Array.replicate_zero,List.push_toArray,List.append_toArray,List.nil_append,List.cons_append];refine wpIn_wide.2 (Code.wp_mono (Q:=EachPost w) ?_ ?_)
  · rintro e a W hq
    cases e<;>try exact hq.elim
    obtain⟨Ds,hd,hnd,hds,h2,hc,hb⟩:=hq;obtain⟨T,df⟩:=a;simp only[] at hd h2;subst hd;have h2':T[6]?.getD undef=.pointer (some ⟨w.heap.size+1,0,none⟩):=(by rw[h2];rfl);refine leaves_marksE Ds W hnd (fun D hD=>(hds D hD).2) (fun W' h3 h4=>?_);have hc':W'.cell? ⟨w.heap.size+1,0,none⟩=some (.bool true):=qc _ _ _ _ 4 (0,0) ((h3 _ (fun hD=>by have:=(hds _ hD).1;omega)).trans hc);refine⟨.bool true,?_,rfl,hb.trans (h4 w.heap.size (fun D hD=>by have:=(hds D hD).1;omega) hb.size)⟩;simp[results,Tryz.f4,go_sem,h2',hc']
  by_cases hlong:8000<s.size
  · have d1:decide (8000<s.size)=true:=qt hlong
    rw[d1] at Hl;clear d1;go_wp2_with fail;rw[HW1.out];refine Hw.out.mono ?_;rintro e w2 ⟨rfl,hb2⟩;have Hb2:=qh (below_on Hb1.out hb2);have HR2:=qh (row_on HR1.out hb2);clear hb2;go_wp2_with fail;refine(Hl.out _).mono ?_;rintro e w3 ⟨rfl,rfl⟩;have r0:=qc _ _ 0 _ _ (0,0) HR2.out;have rz:=qf _ _ 0 _ _ HR2.out;go_wp2_with fail;exact⟨[],rfl,List.nodup_nil,fun D hD=>(by cases hD),rfl,qs _ _ 0 _ _ _ HR2.out,Hb2.out.setCell (p:=⟨w.heap.size+1,0,none⟩) (by show w.heap.size≤w.heap.size+1;omega) _⟩
  have d1:decide (8000<s.size)=false:=qd hlong;rw[d1] at Hl;clear d1;go_wp2_with fail;rw[HW1.out];refine Hw.out.mono ?_;rintro e w2 ⟨rfl,hb2⟩;have Hb2:=qh (below_on Hb1.out hb2);have HR2:=qh (row_on HR1.out hb2);have HS2:=qh (row_on HS1.out hb2);have Hrd:=qh (zmB s w2 (Vars.below Hv.out Hb2.out h9) hs);clear hb2;go_wp2_with fail;refine(Hl.out _).mono ?_;rintro e w3 ⟨rfl,rfl⟩;go_wp2_with fail;refine Hrd.out.mono ?_;rintro e w4 ⟨hb4,hr4⟩;have Hb4:=qh (below_on Hb2.out hb4);have HR4:=qh (row_on HR2.out hb4);have HS4:=qh (row_on HS2.out hb4);have hsz24:=hb4.size;clear hb4;cases hf:zbO s with
  |error cp=>
   rw[hf] at hr4;subst hr4;have hagg:RF0.agg=.agg #[.string ⟨#[]⟩,.slice none 0 0,.slice none 0 0,.slice none 0 0,.bool false,.int .i64 0,.int .i64 0,.int .i64 0]:=rfl;rw[hagg];have HX:=qh (fun o=>(And.intro (row_on HR4.out ((qb w4.heap.size w4).alloc (ql _) o)) (below_on Hb4.out ((qb w4.heap.size w4).alloc (ql _) o))));have r0:=qc _ _ 0 _ _ (0,0) (HX.out (.cells #[.string ⟨#[]⟩,.slice none 0 0,.slice none 0 0,.slice none 0 0,.bool false,.int .i64 0,.int .i64 0,.int .i64 0] 29)).1;have rz:=qf _ _ 0 _ _ (HX.out (.cells #[.string ⟨#[]⟩,.slice none 0 0,.slice none 0 0,.slice none 0 0,.bool false,.int .i64 0,.int .i64 0,.int .i64 0] 29)).1;clear hf hagg;go_wp2_with fail;exact⟨[],rfl,List.nodup_nil,fun D hD=>(by cases hD),rfl,qs _ _ 0 _ _ _ (HX.out _).1,(HX.out _).2.setCell (p:=⟨w.heap.size+1,0,none⟩) (by show w.heap.size≤w.heap.size+1;omega) _⟩
  |ok f=>
   rw[hf] at hr4;obtain⟨fb,vl,vm,vs,F,rfl,hm4,hk4,hf4⟩:=hr4;obtain⟨Al,cl,hvl⟩:=zab hf4.l;obtain⟨cs,hcs⟩:=hf4.m;obtain⟨Am,cm,hvm⟩:=zab hcs.o;obtain⟨Ar,cr,hvr⟩:=hf4.len;have hagg:RF.agg F=.agg #[.string ⟨f.name.toArray⟩,.slice Al f.letters.length cl,.slice Am f.metres.length cm,.slice Ar f.rows.length cr,.bool F.rd,.int .i64 f.least,.int .i64 f.most,.int .i64 f.shift]:=(by unfold RF.agg;rw[hf4.nm,hvl,hvm,hvr,hf4.a,hf4.b,hf4.c]);rw[hagg];obtain⟨W5,hW5⟩:∃W5,(w4.alloc (.cells #[.string ⟨f.name.toArray⟩,.slice Al f.letters.length cl,.slice Am f.metres.length cm,.slice Ar f.rows.length cr,.bool F.rd,.int .i64 f.least,.int .i64 f.most,.int .i64 f.shift] 29)).alloc (.cells #[.slice none 0 0] 36)=W5:=⟨_,rfl⟩;have hb5:Below w4.heap.size w4 W5:=(by rw[←hW5];exact((qb _ _).alloc (ql _) _).alloc (by simp) _);have hw5:W5.heap[w4.heap.size]?=some (.cells #[.string ⟨f.name.toArray⟩,.slice Al f.letters.length cl,.slice Am f.metres.length cm,.slice Ar f.rows.length cr,.bool F.rd,.int .i64 f.least,.int .i64 f.most,.int .i64 f.shift] 29 (0,0)):=by rw[←hW5];exact(qa _ _ _ (by simp)).trans (qn w4 _)
   have ho5:W5.heap[w4.heap.size+1]?=some (.cells #[.slice none 0 0] 36 (0,0)):=by
     rw[←hW5];have:=qn (w4.alloc (.cells #[.string ⟨f.name.toArray⟩,.slice Al f.letters.length cl,.slice Am f.metres.length cm,.slice Ar f.rows.length cr,.bool F.rd,.int .i64 f.least,.int .i64 f.most,.int .i64 f.shift] 29)) (.cells #[.slice none 0 0] 36);rw[World.size_alloc] at this;exact this
   have hs16:s.size≤65536:=(by omega);have Hk:=qh hk4;have HW5:=qh hW5;have Hb5:=qh (below_on Hb4.out hb5);have HR5:=qh (row_on HR4.out hb5);have HS5:=qh (row_on HS4.out hb5);have HF5:=qh (hm4.below hb5);have hl5:=(Off.of_below hb5 (ql _) []).own hf4.l (by simp);rw[hvl] at hl5;have HL5:=qh hl5;obtain⟨visR,hrr⟩:=hf4.r;rw[hvr] at hrr;have HRR:=qh (hrr.off (T:=[]) (Off.of_below hb5 (ql _) []) TyAt.nil (by simp) (by simp) (by simp));have w5c:=qc _ _ 5 _ _ (0,0) hw5;have w6c:=qc _ _ 6 _ _ (0,0) hw5;have Hw5:=qh hw5;have Ho5:=qh ho5;clear hf hagg hm4 hk4 hf4 hcs hvl hvm hvr hW5 hb5 hw5 ho5 hl5 hrr;go_upto_region 9 with(fail)
   rw[HW5.out];obtain⟨bb,hbb⟩:∃bb:Bool,bb=decide (f.least≤n∧n≤f.most):=⟨_,rfl⟩;have Hbb:=qh hbb;clear hbb;go_cut [44] from 35 to 44 (fun v44 wx=>v44=.bool bb∧wx=W5)
   case first=>
     by_cases hc1:f.least≤n
     · have g1:decide (n≥f.least)=true:=qt hc1
       by_cases hc2:n≤f.most
       · have g2:decide (n≤f.most)=true:=qt hc2
         have HD:=qh (show decide (f.least≤n∧n≤f.most)=true from qt ⟨hc1,hc2⟩);go_wp2_with fail;go_meet
         exact⟨by rw[Hbb.out,HD.out],rfl⟩
       · have g2:decide (n≤f.most)=false:=qd hc2
         have HD:=qh (show decide (f.least≤n∧n≤f.most)=false from qd (fun h=>hc2 h.2));go_wp2_with fail;go_meet
         exact⟨by rw[Hbb.out,HD.out],rfl⟩
     · have g1:decide (n≥f.least)=false:=qd (by omega)
       have HD:=qh (show decide (f.least≤n∧n≤f.most)=false from qd (fun h=>hc1 h.1));go_wp2_with fail;go_meet
       exact⟨by rw[Hbb.out,HD.out],rfl⟩
   case rest=>
   obtain⟨rfl,rfl⟩:=hcut;go_upto_if 44 with(fail)
   go_cut [47] from 44 to 47 (fun v47 wx=>Hid (Below w.heap.size w wx∧wx.heap[w.heap.size]?=some (.cells #[.int .i64 stop] 3 (0,0))∧wx.heap[w.heap.size+1]?=some (.cells #[.bool false] 4 (0,0))∧FmM wx w2.heap.size fb f vl vm vs∧∃Bw vw xw,wx.heap[w4.heap.size+1]?=some (.cells #[vw] 36 (0,0))∧DmsM wx Bw vw xw∧xw.map YD.d=demandsE f n))
   case first=>
     cases hb44:bb with
     |true=>
      have hin:f.least≤n∧n≤f.most:=of_decide_eq_true (by rw[←Hbb.out,hb44]);obtain⟨N,hN⟩:∃N:Nat,n=(N:Int):=⟨n.toNat,by have:=Hk.out.l0;omega⟩;have HE:=qh (show demandsE f n=demandsP f n by unfold demandsE;rw[if_neg (by omega)]);have Hrl:=qh (rlines_any w2.heap.size f ⟨f.name.toArray⟩ Al Am Ar cl f.metres.length cm cr F.rd f.least f.most visR N s.size wc HL5.out HRR.out Hk.out hs16 (by omega) (by omega));rw[←hN] at Hrl;have q0:=qc _ _ 0 _ _ (0,0) Hw5.out;have q1:=qc _ _ 1 _ _ (0,0) Hw5.out;have q2:=qc _ _ 2 _ _ (0,0) Hw5.out;have q3:=qc _ _ 3 _ _ (0,0) Hw5.out;have q4:=qc _ _ 4 _ _ (0,0) Hw5.out;have q7:=qc _ _ 7 _ _ (0,0) Hw5.out;clear hin hN;go_wp2_with fail;refine Hrl.out.mono ?_;rintro e w6 ⟨hb6,v,xs,rfl,hxs,hd6⟩;obtain⟨A6,c6,hv6⟩:=zab hd6.o;subst hv6;have ho6:=row_on Ho5.out hb6;have o0:=qc _ _ 0 _ _ (0,0) ho6;have oz:=qf _ _ 0 _ _ ho6;have k2:KeepT [36] w6 (w6.setCell ⟨w4.heap.size+1,0,none⟩ (.slice A6 xs.length c6)):=KeepT.set ho6 0 _
      have HX:Hid (Below w.heap.size w (w6.setCell ⟨w4.heap.size+1,0,none⟩ (.slice A6 xs.length c6))∧(w6.setCell ⟨w4.heap.size+1,0,none⟩ (.slice A6 xs.length c6)).heap[w.heap.size]?=some (.cells #[.int .i64 stop] 3 (0,0))∧(w6.setCell ⟨w4.heap.size+1,0,none⟩ (.slice A6 xs.length c6)).heap[w.heap.size+1]?=some (.cells #[.bool false] 4 (0,0))∧FmM (w6.setCell ⟨w4.heap.size+1,0,none⟩ (.slice A6 xs.length c6)) w2.heap.size fb f vl vm vs∧∃Bw vw xw,(w6.setCell ⟨w4.heap.size+1,0,none⟩ (.slice A6 xs.length c6)).heap[w4.heap.size+1]?=some (.cells #[vw] 36 (0,0))∧DmsM (w6.setCell ⟨w4.heap.size+1,0,none⟩ (.slice A6 xs.length c6)) Bw vw xw∧xw.map YD.d=demandsE f n):=qh
        ⟨(below_on Hb5.out hb6).setCell (p:=⟨w4.heap.size+1,0,none⟩) (by have:=Hb4.out.size;show w.heap.size≤w4.heap.size+1;omega) _,k2.2 _ _ _ (row_on HS5.out hb6) (by decide),k2.2 _ _ _ (row_on HR5.out hb6) (by decide),(HF5.out.below hb6).kT k2 ⟨by decide,by decide,by decide,by decide,by decide,by decide,by decide,by decide,by decide,by decide⟩,_,_,xs,qs w6 (w4.heap.size+1) 0 _ _ _ ho6,hd6.kT k2 (by decide) (by decide),by rw[HE.out];exact hxs⟩
      clear hb6 hxs hd6 ho6 k2 q0 q1 q2 q3 q4 q7;go_wp2_with fail;go_meet
      exact HX
     |false=>
      have hin:¬(f.least≤n∧n≤f.most):=of_decide_eq_false (by rw[←Hbb.out,hb44])
      have HX:Hid (Below w.heap.size w wc∧wc.heap[w.heap.size]?=some (.cells #[.int .i64 stop] 3 (0,0))∧wc.heap[w.heap.size+1]?=some (.cells #[.bool false] 4 (0,0))∧FmM wc w2.heap.size fb f vl vm vs∧∃Bw vw xw,wc.heap[w4.heap.size+1]?=some (.cells #[vw] 36 (0,0))∧DmsM wc Bw vw xw∧xw.map YD.d=demandsE f n):=qh
        ⟨Hb5.out,HS5.out,HR5.out,HF5.out,0,_,[],Ho5.out,⟨⟨rfl,.inl ⟨rfl,rfl⟩⟩,fun x hx=>by cases hx⟩,by unfold demandsE;rw[if_pos (by omega)];rfl⟩
      clear hin;go_wp2_with fail;go_meet
      exact HX
   case rest=>
   obtain⟨hb8,hs8,hr8,hf8,Bw,vw,xw,ho8,hd8,hxw⟩:=hcut.out;clear hcut HL5 HRR Hw5 Ho5 HW5 HR5 HS5 HF5 Hb5 w5c w6c;rename World=>W8
   obtain⟨vis,vhss,hrw,hits⟩:=hf8.parts;have Heach:=qh (each_any (.pointer (some ⟨fb,0,none⟩)) n W8 (.inr ⟨fb,rfl⟩));obtain⟨Wa,hWa⟩:∃Wa,((W8.alloc (.cells #[.pointer (some ⟨fb,0,none⟩)] 24)).alloc (.cells #[.int .i64 n] 3)).alloc (.cells #[.int .i64 0] 3)=Wa:=⟨_,rfl⟩;have hba:Below W8.heap.size W8 Wa:=(by rw[←hWa];exact(((qb _ _).alloc (ql _) _).alloc (by simp) _).alloc (by simp;omega) _);have hfa:Wa.heap[W8.heap.size]?=some (.cells #[.pointer (some ⟨fb,0,none⟩)] 24 (0,0)):=by rw[←hWa];exact(qa _ _ _ (by simp;omega)).trans ((qa _ _ _ (by simp)).trans (qn W8 _))
   have hra:Wa.heap[W8.heap.size+1]?=some (.cells #[.int .i64 n] 3 (0,0)):=by
     rw[←hWa];refine(qa _ _ _ (by simp)).trans ?_;have:=qn (W8.alloc (.cells #[.pointer (some ⟨fb,0,none⟩)] 24)) (.cells #[.int .i64 n] 3);rw[World.size_alloc] at this;exact this
   have hta:Wa.heap[W8.heap.size+2]?=some (.cells #[.int .i64 0] 3 (0,0)):=by
     rw[←hWa];have:=qn ((W8.alloc (.cells #[.pointer (some ⟨fb,0,none⟩)] 24)).alloc (.cells #[.int .i64 n] 3)) (.cells #[.int .i64 0] 3);rw[World.size_alloc,World.size_alloc] at this;exact this
   have ka:=KeepT.of_below [] hba
   have hEM:EM w stop n w2.heap.size fb W8.heap.size (W8.heap.size+1) (w4.heap.size+1) f vl vm vs vis vhss Bw vw xw Wa:=
     ⟨below_on hb8 hba,row_on hs8 hba,row_on hr8 hba,⟨hf8.below hba,hfa,hra,hrw.kT ka OffForm.nil,fun q hq=>(hits q hq).kT ka OffForm.nil⟩,row_on ho8 hba,hd8.kT ka (by simp) (by simp)⟩
   have HEM1:=qh hEM;have HT1:=qh hta;have hsW:Wa.heap.size=W8.heap.size+1+1+1:=(by rw[←hWa];simp);have HWa:=qh hWa;have hdl:=demE_len f n s.size Hk.out hs16;have Hxw:=qh hxw;clear hb8 hs8 hr8 hf8 ho8 hd8 hxw hrw hits hWa hba hfa hra hta ka hEM;go_wp2_with fail;refine Heach.out.mono ?_;rintro e w9 ⟨rfl,rfl⟩;have heq:=eql_each W8.heap.size (W8.heap.size+1);go_wp2_with fail;refine wp_loop (fun a V=>∃(q rb:Nat) (Ds:List Nat),q≤2∧FrL w.heap.size (w4.heap.size+1) W8.heap.size (W8.heap.size+1) rb (Ds.map markE) a∧Hid (LEM w stop n w2.heap.size fb W8.heap.size (W8.heap.size+1) (w4.heap.size+1) f vl vm vs vis vhss Bw vw xw q rb Ds V)) (fun a V=>2-(intOf ((V.cell? ⟨ptrOf (a.tmps[13]?.getD undef),0,none⟩).getD undef)).toNat) ?h0 ?round
   case h0=>
     rw[HWa.out];refine⟨0,_,[],by omega,FrL.of rfl rfl rfl rfl rfl rfl rfl,qh ⟨HEM1.out,HT1.out,List.nodup_nil,fun D hD=>by cases hD⟩⟩
   case round=>
   rintro a V ⟨q,rb,Ds,hq,⟨fr,rfl⟩,hLM⟩;have t0:=qc _ _ 0 _ _ (0,0) hLM.out.t
   have hmu:2-(intOf ((V.cell? ⟨ptrOf ((Value.pointer (some ⟨rb,0,none⟩))),0,none⟩).getD undef)).toNat=2-q:=by
     show 2-(intOf ((V.cell? ⟨rb,0,none⟩).getD undef)).toNat=2-q;rw[t0];simp[intOf]
   have Hmu:=qh hmu;clear hmu;by_cases hq2:2≤q
   · obtain rfl:q=2:=by omega
     have r0:=qc _ _ 0 _ _ (0,0) hLM.out.e.r;have rz:=qf _ _ 0 _ _ hLM.out.e.r;go_wp2_with fail;exact⟨Ds,rfl,hLM.out.nd,fun D hD=>⟨(hLM.out.ds D hD).1,(heap_setCell_other _ _ _ _ _ (by have:=(hLM.out.ds D hD).1;omega)).trans (hLM.out.ds D hD).2⟩,rfl,qs _ _ 0 _ _ _ hLM.out.e.r,hLM.out.e.b.setCell (p:=⟨w.heap.size+1,0,none⟩) (by show w.heap.size≤w.heap.size+1;omega) _⟩
   have hq1:decide ((q:Int)<2)=true:=qt (by omega);go_wp2_with fail;obtain⟨X,hX⟩:∃X,V.alloc (.cells #[.int .i64 0] 3)=X:=⟨_,rfl⟩;rw[hX];have hEI:EI V [] X:=(by rw[←hX];exact⟨(qb _ _).alloc (ql _) _,qn V _⟩);have hszX:X.heap.size=V.heap.size+1:=(by rw[←hX];simp);have hseq:=each_all 7 (by omega) w2.heap.size fb W8.heap.size (W8.heap.size+1) f vl vm vs n vis vhss s.size X Hk.out hs16;clear hX
   refine wpIn_wide.1 (range_r (F:=Fence.wide) (n:=8) (R:=KeepsSt) (Base:=EachM w2.heap.size fb W8.heap.size (W8.heap.size+1) f vl vm vs n vis vhss) (fun A B C=>KeepsSt.trans) KeepsSt.put rfl (by decide) (gf:=37) (lb:=#[.pointer (some ⟨W8.heap.size,0,none⟩),.pointer (some ⟨W8.heap.size+1,0,none⟩)]) rfl trivial (enters_of Tryz.func37 (by kernel_rfl) rfl) hseq (fun _=>rfl)
     (fun pre V2=>EI V pre V2) (fun c pre V2=>c=.exit 2∧EI V pre V2∧q=0∧(pre.length:Int)=stop) ?hI ?hIx (fun pre V2 h=>(hLM.out.e.below h.1).e) hEI (fun pre x a' V2=>∃bp,FrE w.heap.size (w4.heap.size+1) rb V.heap.size bp x.k a'∧V2.heap[bp]?=some (.cells (dmC x.d x.v) 45 (0,0))∧V2.ownsRow w.heap.size 3 1 x.v x.d.has.length (intC x.d.has)∧x.d.has.length≤4∧x.k=pre.length∧(demandsE f n)[pre.length]?=some x.d) ?assign ?body ?hAx ?done ?stop)
   case hI=>exact fun s A A' h hb hk=>h.kept (hb.mono (by omega)) hk
   case hIx=>exact fun c s A A2 h hb hk=>⟨h.1,h.2.1.kept (hb.mono (by omega)) hk,h.2.2⟩
   case hAx=>
     rintro pre x a' V2 l o o' ⟨bp,h1,h2,h3,h4,h5,h6⟩ ho hc hw;have k:=KeepT.of_for [] (KeepsFor.put V2 l o o' ho hc hw);exact⟨bp,h1,k.2 _ _ _ h2 (by simp),own_kT h3 k (by simp),h4,h5,h6⟩
   case assign=>
     rintro l pre ⟨xk,xd,xv⟩ V2 K hi hfit hsz hK;obtain⟨Ax,cx,hxv⟩:=zab hfit.1;simp only[] at hxv;subst hxv;have HK:=qh hK;have Hfit:=qh hfit;have Hi:=qh hi;clear hK hfit hi;simp only[ydEncs,dmC];gi_wp2;have hb:Below V2.heap.size V2 (V2.alloc (.cells (dmC xd (.slice Ax xd.has.length cx)) 45)):=(qb _ V2).alloc (ql _) _;have k:=KeepT.of_below [] hb;refine HK.out _ _ (others_of_below hb) (KeepsSt.of_below hb) (Hi.out.kept (hb.mono (by omega)) (keeps_of_below hb)) ⟨V2.heap.size,?_,qn V2 _,own_kT (zaT Hfit.out.1 (by have:=hLM.out.e.b.size;omega)) k (by simp),Hfit.out.2⟩;exact FrE.of (sb:=w.heap.size) (ob:=w4.heap.size+1) (rbx:=rb) (ib:=V.heap.size) (bp:=V2.heap.size) (k:=xk) rfl rfl rfl rfl rfl rfl rfl rfl rfl
   case body=>
     rintro l pre ⟨xk,xd,xv⟩ a' V2 hi hlen ⟨bp,⟨fr2,rfl⟩,hbp,hown,h4,hxk,hgt⟩ hsz;obtain⟨Ax,cx,hxv⟩:=zab hown;simp only[] at hxv hbp hlen hxk hgt h4;subst hxv;subst hxk;have hEMV:=hLM.out.e.below hi.1;have i0:=qc _ _ 0 _ _ (0,0) hi.2;have iz:=qf _ _ 0 _ _ hi.2;have t2:=qc _ _ 0 _ _ (0,0) (row_on hLM.out.t hi.1);have s0:=qc _ _ 0 _ _ (0,0) hEMV.s;have hlw:xw.length=(demandsE f n).length:=(by rw[←Hxw.out,List.length_map]);have hxl:xw.length≤33554432:=(by omega);obtain⟨gw,capw,hvw⟩:=zak hEMV.d.o (by omega);have o0:V2.cell? ⟨w4.heap.size+1,0,none⟩=some (.slice (some ⟨gw,0,none⟩) xw.length capw):=(qc _ _ 0 _ _ (0,0) hEMV.o).trans (by rw[hvw];rfl);have hdw:=hEMV.d;rw[hvw] at hdw;have hgetw:=fun o (ho:o<9)=>hdw.get rfl (k:=pre.length) (by omega) o ho
     have hyd:(xw.getD pre.length YD0).d=xd:=by
       have h:=congrArg (fun(l:List Dm)=>l[pre.length]?) Hxw.out;simp only[List.getElem?_map,hgt] at h;rw[List.getD_eq_getElem?_getD];cases hq:xw[pre.length]? with
       |none=>rw[hq] at h;cases h
       |some y=>rw[hq] at h;simpa using h
     have hym:xw.getD pre.length YD0∈xw:=(by rw[List.getD_eq_getElem?_getD,List.getElem?_eq_getElem (by omega)];exact qM _);have hyo:=(hdw.h _ hym).1;rw[hyd] at hyo;obtain⟨Ay,cy,hyv⟩:=zab hyo;have u0:V2.cell? ⟨gw,pre.length*9,none⟩=some (.int .i64 xd.stz):=(hgetw 0 (by decide)).trans (by rw[hyd,hyv];rfl);have u1:V2.cell? ⟨gw,pre.length*9+1,none⟩=some (.int .i64 xd.cls):=(hgetw 1 (by decide)).trans (by rw[hyd,hyv];rfl);have u2:V2.cell? ⟨gw,pre.length*9+2,none⟩=some (.int .i64 xd.ref):=(hgetw 2 (by decide)).trans (by rw[hyd,hyv];rfl);have u3:V2.cell? ⟨gw,pre.length*9+3,none⟩=some (.int .i64 xd.met):=(hgetw 3 (by decide)).trans (by rw[hyd,hyv];rfl);have u4:V2.cell? ⟨gw,pre.length*9+4,none⟩=some (.int .i64 xd.syl):=(hgetw 4 (by decide)).trans (by rw[hyd,hyv];rfl);have u5:V2.cell? ⟨gw,pre.length*9+5,none⟩=some (.int .i64 xd.same):=(hgetw 5 (by decide)).trans (by rw[hyd,hyv];rfl);have u6:V2.cell? ⟨gw,pre.length*9+6,none⟩=some (.int .i64 xd.ends):=(hgetw 6 (by decide)).trans (by rw[hyd,hyv];rfl);have u7:V2.cell? ⟨gw,pre.length*9+7,none⟩=some (.slice Ay xd.has.length cy):=(hgetw 7 (by decide)).trans (by rw[hyd,hyv];rfl);have u8:V2.cell? ⟨gw,pre.length*9+8,none⟩=some (.int .i32 xd.beg):=(hgetw 8 (by decide)).trans (by rw[hyd,hyv];rfl);unfold dmC at hbp;have b0:=qc _ _ 0 _ _ (0,0) hbp;have b1:=qc _ _ 1 _ _ (0,0) hbp;have b2:=qc _ _ 2 _ _ (0,0) hbp;have b3:=qc _ _ 3 _ _ (0,0) hbp;have b4:=qc _ _ 4 _ _ (0,0) hbp;have b5:=qc _ _ 5 _ _ (0,0) hbp;have b6:=qc _ _ 6 _ _ (0,0) hbp;have b7:=qc _ _ 7 _ _ (0,0) hbp;have b8:=qc _ _ 8 _ _ (0,0) hbp;rw[hyv] at hyo;have Hsame:=qh (fun(V3:World) (hb:Below V2.heap.size V2 V3)=>same_any _ _ xd (.slice Ax xd.has.length cx) (.slice Ay xd.has.length cy) V3 ((Off.of_below hb (ql _) []).own hown (by simp)) ((Off.of_below hb (ql _) []).own hyo (by simp)) h4);have g1:decide ((pre.length:Int)≥(xw.length:Int))=false:=qd (by omega);have g2:decide (xw.length≤pre.length)=false:=qd (by omega);have g3:xw.length≤pre.length↔False:=iff_false_intro (by omega);have g4:(pre.length:Int)≥(xw.length:Int)↔False:=iff_false_intro (by omega);have g5:pre.length<xw.length:=(by omega);have Hi:=qh hi;clear hi hbp hgetw hyd hym hyv hyo hdw hEMV hown hlw;gi_wp2;have HSw:∀W2,Below V2.heap.size V2 W2→W2.cell? ⟨V.heap.size,0,none⟩=some (.int .i64 (pre.length:Int))∧W2.cell? ⟨w4.heap.size+1,0,none⟩=some (.slice (some ⟨gw,0,none⟩) xw.length capw)∧W2.cell? ⟨bp,0,none⟩=some (.int .i64 xd.stz)∧W2.cell? ⟨bp,1,none⟩=some (.int .i64 xd.cls)∧W2.cell? ⟨bp,2,none⟩=some (.int .i64 xd.ref)∧W2.cell? ⟨bp,3,none⟩=some (.int .i64 xd.met)∧W2.cell? ⟨bp,4,none⟩=some (.int .i64 xd.syl)∧W2.cell? ⟨bp,5,none⟩=some (.int .i64 xd.same)∧W2.cell? ⟨bp,6,none⟩=some (.int .i64 xd.ends)∧W2.cell? ⟨bp,7,none⟩=some (.slice Ax xd.has.length cx)∧W2.cell? ⟨bp,8,none⟩=some (.int .i32 xd.beg)∧W2.cell? ⟨gw,pre.length*9,none⟩=some (.int .i64 xd.stz)∧W2.cell? ⟨gw,pre.length*9+1,none⟩=some (.int .i64 xd.cls)∧W2.cell? ⟨gw,pre.length*9+2,none⟩=some (.int .i64 xd.ref)∧W2.cell? ⟨gw,pre.length*9+3,none⟩=some (.int .i64 xd.met)∧W2.cell? ⟨gw,pre.length*9+4,none⟩=some (.int .i64 xd.syl)∧W2.cell? ⟨gw,pre.length*9+5,none⟩=some (.int .i64 xd.same)∧W2.cell? ⟨gw,pre.length*9+6,none⟩=some (.int .i64 xd.ends)∧W2.cell? ⟨gw,pre.length*9+7,none⟩=some (.slice Ay xd.has.length cy)∧W2.cell? ⟨gw,pre.length*9+8,none⟩=some (.int .i32 xd.beg):=fun W2 hb=>⟨(hb.cell (by exact cell_lt i0)).trans i0,(hb.cell (by exact cell_lt o0)).trans o0,(hb.cell (by exact cell_lt b0)).trans b0,(hb.cell (by exact cell_lt b1)).trans b1,(hb.cell (by exact cell_lt b2)).trans b2,(hb.cell (by exact cell_lt b3)).trans b3,(hb.cell (by exact cell_lt b4)).trans b4,(hb.cell (by exact cell_lt b5)).trans b5,(hb.cell (by exact cell_lt b6)).trans b6,(hb.cell (by exact cell_lt b7)).trans b7,(hb.cell (by exact cell_lt b8)).trans b8,(hb.cell (by exact cell_lt u0)).trans u0,(hb.cell (by exact cell_lt u1)).trans u1,(hb.cell (by exact cell_lt u2)).trans u2,(hb.cell (by exact cell_lt u3)).trans u3,(hb.cell (by exact cell_lt u4)).trans u4,(hb.cell (by exact cell_lt u5)).trans u5,(hb.cell (by exact cell_lt u6)).trans u6,(hb.cell (by exact cell_lt u7)).trans u7,(hb.cell (by exact cell_lt u8)).trans u8⟩;refine wpIn_region_held_round (S:=fun W2=>W2.cell? ⟨V.heap.size,0,none⟩=some (.int .i64 (pre.length:Int))∧W2.cell? ⟨w4.heap.size+1,0,none⟩=some (.slice (some ⟨gw,0,none⟩) xw.length capw)∧W2.cell? ⟨bp,0,none⟩=some (.int .i64 xd.stz)∧W2.cell? ⟨bp,1,none⟩=some (.int .i64 xd.cls)∧W2.cell? ⟨bp,2,none⟩=some (.int .i64 xd.ref)∧W2.cell? ⟨bp,3,none⟩=some (.int .i64 xd.met)∧W2.cell? ⟨bp,4,none⟩=some (.int .i64 xd.syl)∧W2.cell? ⟨bp,5,none⟩=some (.int .i64 xd.same)∧W2.cell? ⟨bp,6,none⟩=some (.int .i64 xd.ends)∧W2.cell? ⟨bp,7,none⟩=some (.slice Ax xd.has.length cx)∧W2.cell? ⟨bp,8,none⟩=some (.int .i32 xd.beg)∧W2.cell? ⟨gw,pre.length*9,none⟩=some (.int .i64 xd.stz)∧W2.cell? ⟨gw,pre.length*9+1,none⟩=some (.int .i64 xd.cls)∧W2.cell? ⟨gw,pre.length*9+2,none⟩=some (.int .i64 xd.ref)∧W2.cell? ⟨gw,pre.length*9+3,none⟩=some (.int .i64 xd.met)∧W2.cell? ⟨gw,pre.length*9+4,none⟩=some (.int .i64 xd.syl)∧W2.cell? ⟨gw,pre.length*9+5,none⟩=some (.int .i64 xd.same)∧W2.cell? ⟨gw,pre.length*9+6,none⟩=some (.int .i64 xd.ends)∧W2.cell? ⟨gw,pre.length*9+7,none⟩=some (.slice Ay xd.has.length cy)∧W2.cell? ⟨gw,pre.length*9+8,none⟩=some (.int .i32 xd.beg)) (by kernel_rfl) (by kernel_rfl) (fun⟨_,_,h⟩=>h) ⟨i0,o0,b0,b1,b2,b3,b4,b5,b6,b7,b8,u0,u1,u2,u3,u4,u5,u6,u7,u8⟩ (fun hHeld=>?_);clear i0 o0 b0 b1 b2 b3 b4 b5 b6 b7 b8 u0 u1 u2 u3 u4 u5 u6 u7 u8;refine wpAnyH_take (i:=0) (v:=?_) rfl (by kernel_rfl) (by kernel_rfl) (by kernel_rfl) (fun _ _ _ h=>h) (Or.inl ⟨by rfl,?_⟩) (by assumption) ?_;rotate_left
     · intro w hSw
       obtain⟨hS0,hS1,hS2,hS3,hS4,hS5,hS6,hS7,hS8,hS9,hS10,hS11,hS12,hS13,hS14,hS15,hS16,hS17,hS18,hS19⟩:=hSw;go_simp;try with_reducible rfl
     simp only[Act.put,List.getElem_toArray,List.getElem_cons_zero,List.getElem_cons_succ,List.setIfInBounds_toArray,List.set_cons_zero,List.set_cons_succ];refine wpAnyH_take (i:=1) (v:=?_) rfl (by kernel_rfl) (by kernel_rfl) (by kernel_rfl) (fun _ _ _ h=>h) (Or.inl ⟨by rfl,?_⟩) (by assumption) ?_;rotate_left
     · intro w hSw
       obtain⟨hS0,hS1,hS2,hS3,hS4,hS5,hS6,hS7,hS8,hS9,hS10,hS11,hS12,hS13,hS14,hS15,hS16,hS17,hS18,hS19⟩:=hSw;go_simp;try with_reducible rfl
     simp only[Act.put,List.getElem_toArray,List.getElem_cons_zero,List.getElem_cons_succ,List.setIfInBounds_toArray,List.set_cons_zero,List.set_cons_succ];refine wpAnyH_take (i:=2) (v:=?_) rfl (by kernel_rfl) (by kernel_rfl) (by kernel_rfl) (fun _ _ _ h=>h) (Or.inl ⟨by rfl,?_⟩) (by assumption) ?_;rotate_left
     · intro w hSw
       obtain⟨hS0,hS1,hS2,hS3,hS4,hS5,hS6,hS7,hS8,hS9,hS10,hS11,hS12,hS13,hS14,hS15,hS16,hS17,hS18,hS19⟩:=hSw;go_simp;try with_reducible rfl
     simp only[Act.put,List.getElem_toArray,List.getElem_cons_zero,List.getElem_cons_succ,List.setIfInBounds_toArray,List.set_cons_zero,List.set_cons_succ];refine wpAnyH_take (i:=3) (v:=?_) rfl (by kernel_rfl) (by kernel_rfl) (by kernel_rfl) (fun _ _ _ h=>h) (Or.inl ⟨by rfl,?_⟩) (by assumption) ?_;rotate_left
     · intro w hSw
       obtain⟨hS0,hS1,hS2,hS3,hS4,hS5,hS6,hS7,hS8,hS9,hS10,hS11,hS12,hS13,hS14,hS15,hS16,hS17,hS18,hS19⟩:=hSw;go_simp;try with_reducible rfl
     simp only[Act.put,List.getElem_toArray,List.getElem_cons_zero,List.getElem_cons_succ,List.setIfInBounds_toArray,List.set_cons_zero,List.set_cons_succ];refine wpAnyH_take (i:=4) (v:=?_) rfl (by kernel_rfl) (by kernel_rfl) (by kernel_rfl) (fun _ _ _ h=>h) (Or.inl ⟨by rfl,?_⟩) (by assumption) ?_;rotate_left
     · intro w hSw
       obtain⟨hS0,hS1,hS2,hS3,hS4,hS5,hS6,hS7,hS8,hS9,hS10,hS11,hS12,hS13,hS14,hS15,hS16,hS17,hS18,hS19⟩:=hSw;go_simp;try with_reducible rfl
     simp only[Act.put,List.getElem_toArray,List.getElem_cons_zero,List.getElem_cons_succ,List.setIfInBounds_toArray,List.set_cons_zero,List.set_cons_succ];refine wpAnyH_take (i:=5) (v:=?_) rfl (by kernel_rfl) (by kernel_rfl) (by kernel_rfl) (fun _ _ _ h=>h) (Or.inl ⟨by rfl,?_⟩) (by assumption) ?_;rotate_left
     · intro w hSw
       obtain⟨hS0,hS1,hS2,hS3,hS4,hS5,hS6,hS7,hS8,hS9,hS10,hS11,hS12,hS13,hS14,hS15,hS16,hS17,hS18,hS19⟩:=hSw;go_simp;try with_reducible rfl
     simp only[Act.put,List.getElem_toArray,List.getElem_cons_zero,List.getElem_cons_succ,List.setIfInBounds_toArray,List.set_cons_zero,List.set_cons_succ];refine wpAnyH_take (i:=6) (v:=?_) rfl (by kernel_rfl) (by kernel_rfl) (by kernel_rfl) (fun _ _ _ h=>h) (Or.inl ⟨by rfl,?_⟩) (by assumption) ?_;rotate_left
     · intro w hSw
       obtain⟨hS0,hS1,hS2,hS3,hS4,hS5,hS6,hS7,hS8,hS9,hS10,hS11,hS12,hS13,hS14,hS15,hS16,hS17,hS18,hS19⟩:=hSw;go_simp;try with_reducible rfl
     simp only[Act.put,List.getElem_toArray,List.getElem_cons_zero,List.getElem_cons_succ,List.setIfInBounds_toArray,List.set_cons_zero,List.set_cons_succ];refine wpAnyH_take (i:=7) (v:=?_) rfl (by kernel_rfl) (by kernel_rfl) (by kernel_rfl) (fun _ _ _ h=>h) (Or.inl ⟨by rfl,?_⟩) (by assumption) ?_;rotate_left
     · intro w hSw
       obtain⟨hS0,hS1,hS2,hS3,hS4,hS5,hS6,hS7,hS8,hS9,hS10,hS11,hS12,hS13,hS14,hS15,hS16,hS17,hS18,hS19⟩:=hSw;go_simp;try with_reducible rfl
     simp only[Act.put,List.getElem_toArray,List.getElem_cons_zero,List.getElem_cons_succ,List.setIfInBounds_toArray,List.set_cons_zero,List.set_cons_succ];refine wpAnyH_take (i:=8) (v:=?_) rfl (by kernel_rfl) (by kernel_rfl) (by kernel_rfl) (fun _ _ _ h=>h) (Or.inl ⟨by rfl,?_⟩) (by assumption) ?_;rotate_left
     · intro w hSw
       obtain⟨hS0,hS1,hS2,hS3,hS4,hS5,hS6,hS7,hS8,hS9,hS10,hS11,hS12,hS13,hS14,hS15,hS16,hS17,hS18,hS19⟩:=hSw;go_simp;try with_reducible rfl
     simp only[Act.put,List.getElem_toArray,List.getElem_cons_zero,List.getElem_cons_succ,List.setIfInBounds_toArray,List.set_cons_zero,List.set_cons_succ];refine wpAnyH_take (i:=9) (v:=?_) rfl (by kernel_rfl) (by kernel_rfl) (by kernel_rfl) (fun _ _ _ h=>h) (Or.inl ⟨by rfl,?_⟩) (by assumption) ?_;rotate_left
     · intro w hSw
       obtain⟨hS0,hS1,hS2,hS3,hS4,hS5,hS6,hS7,hS8,hS9,hS10,hS11,hS12,hS13,hS14,hS15,hS16,hS17,hS18,hS19⟩:=hSw;go_simp;try with_reducible rfl
     simp only[Act.put,List.getElem_toArray,List.getElem_cons_zero,List.getElem_cons_succ,List.setIfInBounds_toArray,List.set_cons_zero,List.set_cons_succ];refine wpAnyH_take (i:=10) (v:=?_) rfl (by kernel_rfl) (by kernel_rfl) (by kernel_rfl) (fun _ _ _ h=>h) (Or.inl ⟨by rfl,?_⟩) (by assumption) ?_;rotate_left
     · intro w hSw
       obtain⟨hS0,hS1,hS2,hS3,hS4,hS5,hS6,hS7,hS8,hS9,hS10,hS11,hS12,hS13,hS14,hS15,hS16,hS17,hS18,hS19⟩:=hSw;go_simp;try with_reducible rfl
     simp only[Act.put,List.getElem_toArray,List.getElem_cons_zero,List.getElem_cons_succ,List.setIfInBounds_toArray,List.set_cons_zero,List.set_cons_succ];refine wpAnyH_take (i:=11) (v:=?_) rfl (by kernel_rfl) (by kernel_rfl) (by kernel_rfl) (fun _ _ _ h=>h) (Or.inl ⟨by rfl,?_⟩) (by assumption) ?_;rotate_left
     · intro w hSw
       obtain⟨hS0,hS1,hS2,hS3,hS4,hS5,hS6,hS7,hS8,hS9,hS10,hS11,hS12,hS13,hS14,hS15,hS16,hS17,hS18,hS19⟩:=hSw;go_simp;try with_reducible rfl
     simp only[Act.put,List.getElem_toArray,List.getElem_cons_zero,List.getElem_cons_succ,List.setIfInBounds_toArray,List.set_cons_zero,List.set_cons_succ];refine wpAnyH_take (i:=12) (v:=?_) rfl (by kernel_rfl) (by kernel_rfl) (by kernel_rfl) (fun _ _ _ h=>h) (Or.inl ⟨by rfl,?_⟩) (by assumption) ?_;rotate_left
     · intro w hSw
       obtain⟨hS0,hS1,hS2,hS3,hS4,hS5,hS6,hS7,hS8,hS9,hS10,hS11,hS12,hS13,hS14,hS15,hS16,hS17,hS18,hS19⟩:=hSw;go_simp;try with_reducible rfl
     simp only[Act.put,List.getElem_toArray,List.getElem_cons_zero,List.getElem_cons_succ,List.setIfInBounds_toArray,List.set_cons_zero,List.set_cons_succ];refine wpAnyH_take (i:=13) (v:=?_) rfl (by kernel_rfl) (by kernel_rfl) (by kernel_rfl) (fun _ _ _ h=>h) (Or.inl ⟨by rfl,?_⟩) (by assumption) ?_;rotate_left
     · intro w hSw
       obtain⟨hS0,hS1,hS2,hS3,hS4,hS5,hS6,hS7,hS8,hS9,hS10,hS11,hS12,hS13,hS14,hS15,hS16,hS17,hS18,hS19⟩:=hSw;go_simp;try with_reducible rfl
     simp only[Act.put,List.getElem_toArray,List.getElem_cons_zero,List.getElem_cons_succ,List.setIfInBounds_toArray,List.set_cons_zero,List.set_cons_succ];refine wpAnyH_take (i:=14) (v:=?_) rfl (by kernel_rfl) (by kernel_rfl) (by kernel_rfl) (fun _ _ _ h=>h) (Or.inl ⟨by rfl,?_⟩) (by assumption) ?_;rotate_left
     · intro w hSw
       obtain⟨hS0,hS1,hS2,hS3,hS4,hS5,hS6,hS7,hS8,hS9,hS10,hS11,hS12,hS13,hS14,hS15,hS16,hS17,hS18,hS19⟩:=hSw;go_simp;try with_reducible rfl
     simp only[Act.put,List.getElem_toArray,List.getElem_cons_zero,List.getElem_cons_succ,List.setIfInBounds_toArray,List.set_cons_zero,List.set_cons_succ];refine wpAnyH_ready (rs:=[15]) (by kernel_rfl) (by simp) (AllReadyH.cons rfl (fun K hK=>?_) AllReadyH.nil);go_simp;refine(Hsame.out _ (zc3 (qb _ _) 1)).mono ?_;rintro e w9 ⟨rfl,hb9⟩;have hb9':Below V2.heap.size V2 w9:=(zc3 (qb _ _) 1).trans hb9;go_simp;refine hK.out _ _ (HSw w9 hb9') (fun hHeld2=>?_);clear hK K hHeld;refine wpAnyH_take (i:=16) (v:=?_) rfl (by kernel_rfl) (by kernel_rfl) (by kernel_rfl) (fun _ _ _ h=>h) (Or.inl ⟨by rfl,?_⟩) (by assumption) ?_;rotate_left
     · intro w hSw
       obtain⟨hS0,hS1,hS2,hS3,hS4,hS5,hS6,hS7,hS8,hS9,hS10,hS11,hS12,hS13,hS14,hS15,hS16,hS17,hS18,hS19⟩:=hSw;go_simp;try with_reducible rfl
     simp only[Act.put,List.getElem_toArray,List.getElem_cons_zero,List.getElem_cons_succ,List.setIfInBounds_toArray,List.set_cons_zero,List.set_cons_succ];refine wpAnyH_take (i:=17) (v:=?_) rfl (by kernel_rfl) (by kernel_rfl) (by kernel_rfl) (fun _ _ _ h=>h) (Or.inl ⟨by rfl,?_⟩) (by assumption) ?_;rotate_left
     · intro w hSw
       obtain⟨hS0,hS1,hS2,hS3,hS4,hS5,hS6,hS7,hS8,hS9,hS10,hS11,hS12,hS13,hS14,hS15,hS16,hS17,hS18,hS19⟩:=hSw;go_simp;try with_reducible rfl
     simp only[Act.put,List.getElem_toArray,List.getElem_cons_zero,List.getElem_cons_succ,List.setIfInBounds_toArray,List.set_cons_zero,List.set_cons_succ];refine wpAnyH_done (by kernel_rfl) ?_ _;have hi9:=row_on Hi.out.2 hb9';have hi9b:=Hi.out.1.trans (hb9'.mono Hi.out.1.size);have i9:=qc _ _ 0 _ _ (0,0) hi9;have iz9:=qf _ _ 0 _ _ hi9;have t9:=qc _ _ 0 _ _ (0,0) (row_on hLM.out.t hi9b);have s9:=qc _ _ 0 _ _ (0,0) (hLM.out.e.below hi9b).s;have hwi:IntKind.i64.wrap ((pre.length:Int)+1)=(pre.length:Int)+1:=qi _ (by omega)
     have HK:Hid (KeepsOthers V2 (w9.setCell ⟨V.heap.size,0,none⟩ (.int .i64 ((pre.length:Int)+1)))∧KeepsSt V2 (w9.setCell ⟨V.heap.size,0,none⟩ (.int .i64 ((pre.length:Int)+1)))∧EI V (pre++[⟨pre.length,xd,.slice Ax xd.has.length cx⟩]) (w9.setCell ⟨V.heap.size,0,none⟩ (.int .i64 ((pre.length:Int)+1)))):=qh
       ⟨(others_of_below hb9').trans (KeepsOthers.setCell _ _ _),KeepsSt.trans (KeepsSt.of_below hb9') ((KeepT.set hi9 0 (.int .i64 ((pre.length:Int)+1))).st (by decide)),hi9b.setCell (p:=⟨V.heap.size,0,none⟩) (ql _) _,by rw[List.length_append,List.length_singleton];exact qs w9 V.heap.size 0 _ _ _ hi9⟩
     have nrb:rb≠V.heap.size:=(by have:=(qg hLM.out.t).1;omega);have nsb:w.heap.size≠V.heap.size:=(by have:=(qg hLM.out.e.s).1;omega);have t10:(w9.setCell ⟨V.heap.size,0,none⟩ (.int .i64 ((pre.length:Int)+1))).cell? ⟨rb,0,none⟩=some (.int .i64 (q:Int)):=(qo _ _ _ _ (fun e=>nrb (congrArg Addr.block e).symm)).trans t9;have s10:(w9.setCell ⟨V.heap.size,0,none⟩ (.int .i64 ((pre.length:Int)+1))).cell? ⟨w.heap.size,0,none⟩=some (.int .i64 stop):=(qo _ _ _ _ (fun e=>nsb (congrArg Addr.block e).symm)).trans s9;clear hi9 hi9b hb9 hb9' HSw Hsame Hi hHeld2 iz t2 s0;by_cases hq0:q=0
     · have gq:((q:Int)==0)=true:=by simpa using hq0
       by_cases hst:(pre.length:Int)+1=stop
       · have gs:(((pre.length:Int)+1)==stop)=true:=by simpa using hst
         have Hst:=qh hst;clear hst;gi_wp2;exact⟨HK.out.1,rfl,HK.out.2.2,hq0,by rw[List.length_append,List.length_singleton];push_cast;exact Hst.out⟩
       · have gs:(((pre.length:Int)+1)==stop)=false:=by simpa using hst
         clear hst;gi_wp2;exact HK.out
     · have gq:((q:Int)==0)=false:=by simpa using hq0
       gi_wp2;exact HK.out
   case done=>
     rintro D xs V2 hD hS hi hDd;have hxn:xs.length=xw.length:=(by rw[hS.len,←Hxw.out,List.length_map]);have hEMV:=hLM.out.e.below hi.1;obtain⟨Aw,cw,hvw⟩:=zab hEMV.d.o;have o2:V2.cell? ⟨w4.heap.size+1,0,none⟩=some (.slice Aw xw.length cw):=(qc _ _ 0 _ _ (0,0) hEMV.o).trans (by rw[hvw];rfl);have t2:=qc _ _ 0 _ _ (0,0) (row_on hLM.out.t hi.1);have s2:=qc _ _ 0 _ _ (0,0) hEMV.s;have Hb':Hid (Below V2.heap.size V2 (V2.alloc (.cells #[.int .i64 ((q:Int)+1)] 3))):=qh ((qb _ _).alloc (ql _) _);have hsb:=(qg hLM.out.e.r).1
     have Hn:Hid (LEM w stop n w2.heap.size fb W8.heap.size (W8.heap.size+1) (w4.heap.size+1) f vl vm vs vis vhss Bw vw xw (q+1) V2.heap.size (D::Ds) (V2.alloc (.cells #[.int .i64 ((q:Int)+1)] 3))):=qh ⟨hEMV.below Hb'.out,qn V2 _,List.nodup_cons.2 ⟨fun hm=>by have:=(qg (hLM.out.ds D hm).2).1;omega,hLM.out.nd⟩,fun D' hD'=>by
       rcases List.mem_cons.1 hD' with rfl|hD'
       · exact⟨by omega,row_on' hDd Hb'.out⟩
       · exact⟨(hLM.out.ds D' hD').1,row_on' (row_on' (hLM.out.ds D' hD').2 hi.1) Hb'.out⟩⟩
     have tn:=qc _ _ 0 _ _ (0,0) Hn.out.t
     have hmes:2-(intOf (((V2.alloc (.cells #[.int .i64 ((q:Int)+1)] 3)).cell? ⟨V2.heap.size,0,none⟩).getD undef)).toNat<2-(intOf ((V.cell? ⟨rb,0,none⟩).getD undef)).toNat:=by
       have tn2:(V2.alloc (.cells #[.int .i64 ((q:Int)+1)] 3)).cell? ⟨V2.heap.size,0,none⟩=some (.int .i64 ((q:Int)+1)):=tn;rw[tn2,t0];simp[intOf];try omega
     have Hmes:=qh hmes;have hwq:IntKind.i64.wrap ((q:Int)+1)=(q:Int)+1:=qi _ (by omega);clear hEMV hvw tn hmes Hb';have i2:V2.cell? ⟨V.heap.size,0,none⟩=some (.int .i64 (xw.length:Int)):=(qc _ _ 0 _ _ (0,0) hi.2).trans (by rw[hxn];rfl);clear hi hS hxn hDd;go_wp2_with fail;exact⟨⟨q+1,V2.heap.size,D::Ds,by omega,FrL.of rfl rfl rfl rfl rfl rfl rfl,Hn⟩,Hmes.out⟩
   case stop=>
     rintro D c pre V2 hD hSp ⟨rfl,hi,rfl,hst⟩ hDd;subst hst;have hEMV:=hLM.out.e.below hi.1;obtain⟨Aw,cw,hvw⟩:=zab hEMV.d.o;have o2:V2.cell? ⟨w4.heap.size+1,0,none⟩=some (.slice Aw xw.length cw):=(qc _ _ 0 _ _ (0,0) hEMV.o).trans (by rw[hvw];rfl);have t2:=qc _ _ 0 _ _ (0,0) (row_on hLM.out.t hi.1);have s2:=qc _ _ 0 _ _ (0,0) hEMV.s;have Hb':Hid (Below V2.heap.size V2 (V2.alloc (.cells #[.int .i64 (((0:Nat):Int)+1)] 3))):=qh ((qb _ _).alloc (ql _) _);have hsb:=(qg hLM.out.e.r).1
     have Hn:Hid (LEM w (pre.length:Int) n w2.heap.size fb W8.heap.size (W8.heap.size+1) (w4.heap.size+1) f vl vm vs vis vhss Bw vw xw (0+1) V2.heap.size (D::Ds) (V2.alloc (.cells #[.int .i64 (((0:Nat):Int)+1)] 3))):=qh ⟨hEMV.below Hb'.out,qn V2 _,List.nodup_cons.2 ⟨fun hm=>by have:=(qg (hLM.out.ds D hm).2).1;omega,hLM.out.nd⟩,fun D' hD'=>by
       rcases List.mem_cons.1 hD' with rfl|hD'
       · exact⟨by omega,row_on' hDd Hb'.out⟩
       · exact⟨(hLM.out.ds D' hD').1,row_on' (row_on' (hLM.out.ds D' hD').2 hi.1) Hb'.out⟩⟩
     have tn:=qc _ _ 0 _ _ (0,0) Hn.out.t
     have hmes:2-(intOf (((V2.alloc (.cells #[.int .i64 (((0:Nat):Int)+1)] 3)).cell? ⟨V2.heap.size,0,none⟩).getD undef)).toNat<2-(intOf ((V.cell? ⟨rb,0,none⟩).getD undef)).toNat:=by
       have tn2:(V2.alloc (.cells #[.int .i64 (((0:Nat):Int)+1)] 3)).cell? ⟨V2.heap.size,0,none⟩=some (.int .i64 (((0:Nat):Int)+1)):=tn;rw[tn2,t0];simp[intOf];try omega
     have Hmes:=qh hmes;have hwq:IntKind.i64.wrap (((0:Nat):Int)+1)=((0:Nat):Int)+1:=qi _ (by omega);clear hEMV hvw tn hmes Hb';have i2:V2.cell? ⟨V.heap.size,0,none⟩=some (.int .i64 (pre.length:Int)):=qc _ _ 0 _ _ (0,0) hi.2;clear hi hSp hDd;refine wpIn_wide.2 ?_;by_cases hpl:pre.length=xw.length
     · have gl:((pre.length:Int) !=(xw.length:Int))=false:=by simp[hpl]
       have Hpl:=qh hpl;clear hpl;go_wp2_with fail;exact⟨⟨0+1,V2.heap.size,D::Ds,by omega,FrL.of rfl rfl rfl rfl rfl rfl rfl,Hn⟩,Hmes.out⟩
     · have gl:((pre.length:Int) !=(xw.length:Int))=true:=by simp;omega
       have Hpl:=qh hpl;go_wp2_with fail;exact⟨⟨0+1,V2.heap.size,D::Ds,by omega,FrL.of rfl rfl rfl rfl rfl rfl rfl,Hn⟩,Hmes.out⟩
end Go.Proofs.YtgklikkddckgbaaGreatDoor.Mo

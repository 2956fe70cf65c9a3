import Derived.Test.YtgklikkddckgbaaGreatDoorHBC
import Derived.Test.YtgklikkddckgbaaGreatDoorHBD
import Derived.Test.YtgklikkddckgbaaGreatDoorHYB
/- Lemmas of the claim. -/
set_option linter.all false
namespace Go.Proofs.YtgklikkddckgbaaGreatDoor.Mo
open Go.RowKit
theorem others_of_below {W W':World} (h:Below W.heap.size W W'):KeepsOthers W W':=⟨h.size,fun k o hk _=>(h.block k (qg hk).1).trans hk⟩
theorem wpListIn_append_boxg {F:Fence} {m:Nat} {P:Program} {ops:Array Oper} {rest:List Oper} {o:Oper} {a:Act} {Q:Exit→Act→World→Prop} (w0:World) (hgd:o.guard=none) (s x:Operand) (t:TypeId)
    (ho:o.op=.call {callee:=.builtin .append,args:=#[s,x],argTypes:=#[t,t]})
    (base:Nat) (e:TypeId) (i:TypeInfo) (z:Value) (size bytes:Nat) (ht:P.underlying t=some (.slice e)) (hi:P.info? e=some i) (hz:i.zero=some z)
    (hsize:i.size=size) (hby:i.bytes=bytes) (hzs:z.cells.size=size) (hsz:0<size)
    (v:Value) (n:Nat) (xs:List Value) (nw:Array Value) (g:Nat) (hs:a.eval s=v) (hx:a.eval x=.slice (some ⟨g,0,none⟩) 1 1) (hg:g=w0.heap.size) (hown:w0.ownsRow base e size v n xs)
    (hl:nw.size=size) (h1:∀u∈nw.toList,u.oneCell'=true)
    (h63:n+1≤maxLen) (hbytes:(n+1)*bytes≤140737488355328) (hbase:base≤w0.heap.size)
    (h:∀v' w',w'.ownsRow base e size v' (n+1) (xs++nw.toList)→w0.grownBy w' v.ownBlock→wpListIn F m P ops Q rest (a.put o.dst v') w'):wpListIn F m P ops Q (o::rest) a (w0.alloc (.cells nw e)):=by
  subst hg;refine wpListIn_append_own (w0.alloc (.cells nw e)) hgd s x t ho base e i z size bytes ht hi hz hsize hby hzs hsz v n xs hs (hown.alloc _) ⟨w0.heap.size,0,none⟩ 1 1 nw.toList hx (by simp[hl]) ?_ h1 h63 hbytes (by simp;omega) ?_
  · intro j u hu
    have e1:(⟨w0.heap.size,0,none⟩:Addr).add j=⟨w0.heap.size,j,none⟩:=by
      unfold Addr.add;by_cases hj:j=0
      · simp[hj]
      · simp[hj]
    rw[e1,cell_of_row (w0.alloc (.cells nw e)) w0.heap.size j nw e (0,0) (heap_alloc_new w0 _)];simpa using hu
  · intro v' w' h2 h3 _
    exact h v' w' h2 (zc4 h3)
structure LI (w:World) (B fb fx rx:Nat) (f:Fm) (vl vm vs:Value) (n:Int) (vis:List Value) (vhss:Nat→List Value) (ob:Nat) (pre:List YD) (W:World):Prop where
  e:EachM B fb fx rx f vl vm vs n vis vhss W
  b:Below w.heap.size w W
  hob:w.heap.size≤ob
  v:∃v,W.heap[ob]?=some (.cells #[v] 36 (0,0))∧DmsM W w.heap.size v pre
theorem LI.kept {w:World} {B fb fx rx:Nat} {f:Fm} {vl vm vs:Value} {n:Int} {vis:List Value} {vhss:Nat→List Value} {ob:Nat} {pre:List YD} {W W':World} (h:LI w B fb fx rx f vl vm vs n vis vhss ob pre W) (hb:Below w.heap.size W W') (hk:KeepsFor 0 W W'):LI w B fb fx rx f vl vm vs n vis vhss ob pre W':=by
  have k:=KeepT.of_for [] hk;obtain⟨v,h1,h2⟩:=h.v;exact⟨h.e.kT k OffForm.nil,h.b.trans hb,h.hob,v,k.2 _ _ _ h1 (by simp),h2.kT k (by simp) (by simp)⟩
theorem LI.step {w:World} {B fb fx rx:Nat} {f:Fm} {vl vm vs:Value} {n:Int} {vis:List Value} {vhss:Nat→List Value} {ob:Nat} {pre:List YD} {V w5:World} {v v5:Value} {x:YD} (h:LI w B fb fx rx f vl vm vs n vis vhss ob pre V)
    (hv:V.heap[ob]?=some (.cells #[v] 36 (0,0))) (hd:DmsM V w.heap.size v pre) (hx:V.ownsRow w.heap.size 3 1 x.v x.d.has.length (intC x.d.has)∧x.d.has.length≤4)
    (ho:w5.ownsRow w.heap.size 45 9 v5 (pre.length+1) (ydC pre++(dmC x.d x.v).toList)) (hg:V.grownBy w5 v.ownBlock):
    w5.cell? ⟨ob,0,none⟩=some v∧w5.frozen? ⟨ob,0,none⟩=false∧Hid (LI w B fb fx rx f vl vm vs n vis vhss ob (pre++[x]) (w5.setCell ⟨ob,0,none⟩ v5)∧KeepsOthers V (w5.setCell ⟨ob,0,none⟩ v5)∧KeepsSt V (w5.setCell ⟨ob,0,none⟩ v5)):=by
  have k1:KeepT [45] V w5:=KeepT.grown hd.o hg;have hv5:=k1.2 _ _ _ hv (by decide);have k2:KeepT [36] w5 (w5.setCell ⟨ob,0,none⟩ v5):=KeepT.set hv5 0 v5;have k:KeepT [45,36] V (w5.setCell ⟨ob,0,none⟩ v5):=(k1.sub (by simp)).trans (k2.sub (by simp));refine⟨qc _ _ 0 _ _ (0,0) hv5,qf _ _ 0 _ _ hv5,qh ⟨⟨h.e.kT k ⟨by decide,by decide,by decide,by decide,by decide,by decide,by decide,by decide,by decide,by decide⟩,(h.b.grown hg h.b.size (fun b e=>(hd.o.lt b e).1)).setCell (p:=⟨ob,0,none⟩) h.hob _,h.hob,v5,qs w5 ob 0 _ _ v5 hv5,?_,?_⟩,?_,k.st (by decide)⟩⟩
  · rw[List.length_append,List.length_singleton,ydC_snoc]
    exact own_kT ho k2 (by decide)
  · intro y hy
    rcases List.mem_append.1 hy with hy|hy
    · exact⟨own_kT (hd.h y hy).1 k (by decide),(hd.h y hy).2⟩
    · obtain rfl:y=x:=by simpa using hy
      exact⟨own_kT hx.1 k (by decide),hx.2⟩
  · refine(KeepsOthers.of_grownBy hg (fun j o hj hjo=>?_)).trans (KeepsOthers.setCell _ _ _)
    obtain⟨c,fz,h1⟩:=Lib.ownsRow_kind hd.o j hj;rw[h1] at hjo;cases hjo;rfl
def LA (fb N ob c:Nat) (x:YD) (bp:Nat) (a:Act):Prop:=a={tmps:=#[.pointer (some ⟨fb,0,none⟩),.int .i64 (N:Int),undef,undef,.slice none 0 0,.int .i64 0,.int .i64 0,.pointer (some ⟨ob,0,none⟩),undef,.pointer (some ⟨bp,0,none⟩),.pointer (some ⟨fb,0,none⟩),.int .i64 (N:Int),.int .i64 0,.int .i64 0,.bool false,undef,.pointer (some ⟨fb,0,none⟩),.int .i64 (N:Int),.func (.func 37) #[] #[.pointer (some ⟨c,0,none⟩),.pointer (some ⟨c+1,0,none⟩)],.int .i64 (x.k:Int),.agg (dmC x.d x.v),undef,undef,undef,undef,undef],defers:=[]}
def LnPost (f:Fm) (n:Int) (w:World) (e:Exit) (a:Act) (W:World):Prop:=
  match e with
  |.ret=>∃D v xs,a.defers=[{target:=.collected D,args:=#[]}]∧a.tmps.getD 4 undef=v∧a.tmps.getD 5 undef=.int .i64 0∧W.heap[D]?=some (.deferred (some []))∧w.heap.size≤D∧
      Enum xs (demandsP f n)∧DmsM W w.heap.size v xs∧Below w.heap.size w W
  |_=>False
def LnOk (f:Fm) (n:Int) (w:World) (e:Ending) (w':World):Prop:=Below w.heap.size w w'∧∃v xs,e=.returned (.tuple #[v,.int .i64 0])∧Enum xs (demandsP f n)∧DmsM w' w.heap.size v xs
attribute [local go_sem] Oper.semAt_some
set_option maxRecDepth 100000 in
set_option maxHeartbeats 4000000 in
theorem lines_form (B fb:Nat) (f:Fm) (vl vm vs:Value) (N:Nat) (i:Nat) (w:World) (h:FmM w B fb f vl vm vs) (hk:FmOk f i) (hi:i≤65536) (hn1:f.least≤N) (hn2:(N:Int)≤f.most):
    Calls Tryz.prog 21 #[.pointer (some ⟨fb,0,none⟩),.int .i64 (N:Int)] w (LnOk f N w):=by
  have Hc:=check_form B fb f vl vm vs N w h;rw[if_neg (by omega)] at Hc;have HC:=qh Hc;obtain⟨vis,vhss,hrw,hits⟩:=h.parts;obtain⟨W1,hW1⟩:∃W1,w.alloc (.cells #[.slice none 0 0] 36)=W1:=⟨_,rfl⟩;have hb1:Below w.heap.size w W1:=by rw[←hW1];exact(qb _ _).alloc (ql _) _
  have ho1:W1.heap[w.heap.size]?=some (.cells #[.slice none 0 0] 36 (0,0)):=by rw[←hW1];exact qn w _
  have hb3:Below W1.heap.size W1 ((W1.alloc (.cells #[.pointer (some ⟨fb,0,none⟩)] 24)).alloc (.cells #[.int .i64 (N:Int)] 3)):=((qb _ _).alloc (ql _) _).alloc (by simp) _;have hF3:((W1.alloc (.cells #[.pointer (some ⟨fb,0,none⟩)] 24)).alloc (.cells #[.int .i64 (N:Int)] 3)).heap[W1.heap.size]?=some (.cells #[.pointer (some ⟨fb,0,none⟩)] 24 (0,0)):=(qa _ _ _ (by simp)).trans (qn W1 _)
  have hr3:((W1.alloc (.cells #[.pointer (some ⟨fb,0,none⟩)] 24)).alloc (.cells #[.int .i64 (N:Int)] 3)).heap[W1.heap.size+1]?=some (.cells #[.int .i64 (N:Int)] 3 (0,0)):=by
    have:=qn (W1.alloc (.cells #[.pointer (some ⟨fb,0,none⟩)] 24)) (.cells #[.int .i64 (N:Int)] 3);rw[World.size_alloc] at this;exact this
  have Heach:=qh (each_any (.pointer (some ⟨fb,0,none⟩)) (N:Int) W1 (.inr ⟨fb,rfl⟩));have k1:=KeepT.of_below [] (hb1:Below w.heap.size w W1);have k3:=KeepT.of_below [] hb3;generalize hW3:((W1.alloc (.cells #[.pointer (some ⟨fb,0,none⟩)] 24)).alloc (.cells #[.int .i64 (N:Int)] 3))=W3 at hb3 hF3 hr3 k3 Heach
  have hE3:EachM B fb W1.heap.size (W1.heap.size+1) f vl vm vs N vis vhss W3:=
    ⟨(h.kT k1 OffForm.nil).kT k3 OffForm.nil,hF3,hr3,(hrw.kT k1 OffForm.nil).kT k3 OffForm.nil,fun q hq=>((hits q hq).kT k1 OffForm.nil).kT k3 OffForm.nil⟩
  have hbw3:Below w.heap.size w W3:=hb1.trans (hb3.mono hb1.size)
  have hLI:LI w B fb W1.heap.size (W1.heap.size+1) f vl vm vs N vis vhss w.heap.size [] W3:=
    ⟨hE3,hbw3,ql _,_,k3.2 _ _ _ ho1 (by simp),⟨rfl,.inl ⟨rfl,rfl⟩⟩,fun x hx=>by cases hx⟩
  have hseq:=each_seq 5 (by omega) B fb W1.heap.size (W1.heap.size+1) f vl vm vs N vis vhss i W3 hk hi hn1 hn2
  have Htot:Hid (((demandsP f N).length:Int)≤33554432):=qh (by
    have m0:=hk.m0;have l0:=hk.l0;have h:=zhp f.rows N (by omega) (by omega) f.rows.length (ql _);rw[List.take_length] at h;rw[demands_len f N (by omega)];have:=hk.le;omega)
  have HLI:=qh hLI;have HW1:=qh hW1;have Hw3:=qh hbw3.size;clear hLI hW1 hbw3 hE3 k1 k3 hb1 hb3 ho1 hF3 hr3 Hc h hk hrw hits hW3;refine(callsIn_wide (n:=6)).1 ?_;refine callsIn_of_wp_marks Tryz.func21 rfl trivial ?_ rfl;simp only[Tryz.ntmps21,List.size_toArray,List.length_cons,List.length_nil,Nat.reduceAdd,Nat.reduceSub,Array.replicate_succ,Array.replicate_zero,List.push_toArray,List.append_toArray,List.nil_append,List.cons_append];refine wpIn_wide.2 (Code.wp_mono (Q:=LnPost f N w) ?_ ?_)
  · rintro e a W hq
    cases e<;>try exact hq.elim
    obtain⟨D,v,xs,hd,h4,h5,hK,hD,hen,hdm,hb⟩:=hq;obtain⟨T,df⟩:=a;simp only[] at hd h4 h5;subst hd;have h4':T[4]?.getD undef=v:=(by simpa using h4);have h5':T[5]?.getD undef=.int .i64 0:=(by simpa using h5);refine⟨by simp,.inl ⟨_,_,rfl,run_takeDeferred hK,?_⟩⟩;refine⟨.tuple #[v,.int .i64 0],?_,⟨hb.os,hb.tape,hb.output,by rw[World.putObj_size];exact hb.size,fun k hk=>(World.putObj_heap_other (by omega)).trans (hb.block k hk)⟩,v,xs,rfl,hen,hdm.kT (KeepT.of_for [] (KeepsFor.put W D _ _ hK rfl rfl)) (by simp) (by simp)⟩;simp[results,Tryz.f21,go_sem,h4',h5']
  go_wp2_with fail;refine HC.out.mono ?_;rintro e w2 ⟨rfl,rfl⟩;go_wp2_with fail;rw[HW1.out];refine Heach.out.mono ?_;rintro e w4 ⟨rfl,rfl⟩;go_wp2_with fail
  refine wpIn_wide.1 (range_r (F:=Fence.wide) (n:=6) (R:=KeepsSt) (Base:=EachM B fb W1.heap.size (W1.heap.size+1) f vl vm vs N vis vhss) (fun A B C=>KeepsSt.trans) KeepsSt.put rfl (by decide) (gf:=37) (lb:=#[.pointer (some ⟨W1.heap.size,0,none⟩),.pointer (some ⟨W1.heap.size+1,0,none⟩)]) rfl trivial (enters_of Tryz.func37 (by kernel_rfl) rfl) hseq (fun _=>rfl)
    (fun pre W=>LI w B fb W1.heap.size (W1.heap.size+1) f vl vm vs N vis vhss w.heap.size pre W) (fun _ _ _=>False) ?hI ?hIx (fun pre W h=>h.e) HLI.out (fun pre x a' W'=>∃bp,LA fb N w.heap.size W1.heap.size x bp a'∧W'.heap[bp]?=some (.cells (dmC x.d x.v) 45 (0,0))∧W'.ownsRow w.heap.size 3 1 x.v x.d.has.length (intC x.d.has)∧x.d.has.length≤4) ?assign ?body ?hAx ?done ?stop)
  case hI=>exact fun s A A' h hb hk=>h.kept (hb.mono Hw3.out) hk
  case hIx=>exact fun c s A A' h _ _=>h
  case stop=>exact fun D c pre W _ _ h _=>h.elim
  case hAx=>
    rintro pre x a' W l o o' ⟨bp,h1,h2,h3,h4⟩ ho hc hw;have k:=KeepT.of_for [] (KeepsFor.put W l o o' ho hc hw);exact⟨bp,h1,k.2 _ _ _ h2 (by simp),own_kT h3 k (by simp),h4⟩
  case assign=>
    rintro l pre ⟨xk,xd,xv⟩ V K hi hfit hsz hK;obtain⟨Ax,cx,hxv⟩:=zab hfit.1;simp only[] at hxv;subst hxv;have HK:=qh hK;have Hfit:=qh hfit;have Hi:=qh hi;clear hK hfit hi;simp only[ydEncs,dmC];gi_wp2;have hb:Below V.heap.size V (V.alloc (.cells (dmC xd (.slice Ax xd.has.length cx)) 45)):=(qb _ V).alloc (ql _) _;have k:=KeepT.of_below [] hb;exact HK.out _ _ (others_of_below hb) (KeepsSt.of_below hb) (Hi.out.kept (hb.mono Hi.out.b.size) (keeps_of_below hb)) ⟨V.heap.size,rfl,qn V _,own_kT (zaT Hfit.out.1 Hw3.out) k (by simp),Hfit.out.2.1⟩
  case body=>
    rintro l pre ⟨xk,xd,xv⟩ a' V hi hlen ⟨bp,rfl,hbp,hown,hfour⟩ hsz;obtain⟨Ax,cx,hxv⟩:=zab hown;simp only[] at hxv hbp hlen;subst hxv;obtain⟨v,hv,hd⟩:=hi.v;obtain⟨Av,cv,hvv⟩:=zab hd.o;subst hvv;have c7:=qc _ _ 0 _ _ (0,0) hv;unfold dmC at hbp;have b0:=qc _ _ 0 _ _ (0,0) hbp;have b1:=qc _ _ 1 _ _ (0,0) hbp;have b2:=qc _ _ 2 _ _ (0,0) hbp;have b3:=qc _ _ 3 _ _ (0,0) hbp;have b4:=qc _ _ 4 _ _ (0,0) hbp;have b5:=qc _ _ 5 _ _ (0,0) hbp;have b6:=qc _ _ 6 _ _ (0,0) hbp;have b7:=qc _ _ 7 _ _ (0,0) hbp;have b8:=qc _ _ 8 _ _ (0,0) hbp;have Hst:=qh (fun v5 w5=>hi.step (v5:=v5) (w5:=w5) (x:=⟨xk,xd,.slice Ax xd.has.length cx⟩) hv hd ⟨hown,hfour⟩);have htot:=Htot.out;have hbV:=hi.b.size;have Hd:=qh hd.o;clear hi hbp hown hv hd;simp only[dmC] at Hst⊢;gi_wp2_with (gi_at_builtin;refine wpListIn_append_boxg V rfl _ _ 36 rfl w.heap.size 45 _ _ 9 88 Tryz.underlying36 infoDm zeroDm sizeDm bytesDm rfl (by decide) (.slice Av pre.length cv) pre.length (ydC pre) #[.int .i64 xd.stz,.int .i64 xd.cls,.int .i64 xd.ref,.int .i64 xd.met,.int .i64 xd.syl,.int .i64 xd.same,.int .i64 xd.ends,.slice Ax xd.has.length cx,.int .i32 xd.beg] V.heap.size rfl rfl rfl Hd.out rfl (by intro u hu;simp at hu;rcases hu with rfl|rfl|rfl|rfl|rfl|rfl|rfl|rfl|rfl<;>rfl) (by unfold maxLen;omega) (by omega) hbV ?_;intro v5 w5 hown5 hgr5;obtain⟨d5,f5,HF5⟩:=Hst.out v5 w5 hown5 hgr5;obtain⟨g5,cap5,rfl⟩:=zak hown5 (by omega);clear hown5 hgr5)
    exact⟨HF5.out.2.1,HF5.out.2.2,HF5.out.1⟩
  case done=>
    rintro D xs W hD hen hi hK;obtain⟨v,hv,hd⟩:=hi.v;obtain⟨Av,cv,hvv⟩:=zab hd.o;subst hvv;have c7:=qc _ _ 0 _ _ (0,0) hv;have Hfin:=qh (And.intro hen (And.intro hd (And.intro hi.b (And.intro hD hK))));clear hen hd hi hD hK hv hseq;go_wp2_with fail;exact⟨D,_,xs,rfl,rfl,rfl,Hfin.out.2.2.2.2,qm Hw3.out Hfin.out.2.2.2.1,Hfin.out.1,Hfin.out.2.1,Hfin.out.2.2.1⟩

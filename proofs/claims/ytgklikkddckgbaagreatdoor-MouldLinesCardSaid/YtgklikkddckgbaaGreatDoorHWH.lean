import Derived.Test.YtgklikkddckgbaaGreatDoorHWF
set_option linter.all false
namespace Go.Proofs.YtgklikkddckgbaaGreatDoor.Mo
open Go.RowKit
theorem infoR:Tryz.prog.info? 42=some Tryz.t42:=by kernel_rfl
theorem zeroR:Tryz.t42.zero=some (.agg #[.int .i64 0,.int .i64 0]):=by kernel_rfl
theorem sizeR2:Tryz.t42.size=2:=by kernel_rfl
theorem bytesR:Tryz.t42.bytes=16:=by kernel_rfl
structure SJ (w:World) (S ob fx rx fb:Nat) (n:Int) (ds:List Dm) (zs:List Int) (W:World):Prop where
  b:Below w.heap.size w W
  z:S≤W.heap.size
  lo:w.heap.size≤ob∧ob<S∧w.heap.size≠ob
  fx:fx<S∧W.heap[fx]?=some (.cells #[.pointer (some ⟨fb,0,none⟩)] 24 (0,0))
  rx:rx<S∧W.heap[rx]?=some (.cells #[.int .i64 n] 3 (0,0))
  r:W.heap[w.heap.size]?=some (.cells #[.slice none 0 0,.slice none 0 0] 60 (0,0))
  v:∃vl vz,W.heap[ob]?=some (.cells #[vl,vz] 60 (0,0))∧SchM W S vl vz ds zs
theorem SJ.kept {w:World} {S ob fx rx fb:Nat} {n:Int} {ds:List Dm} {zs:List Int} {W W':World} (h:SJ w S ob fx rx fb n ds zs W) (hb:Below w.heap.size W W') (hk:KeepsFor 0 W W'):SJ w S ob fx rx fb n ds zs W':=by
  have k:=KeepT.of_for [] hk;obtain⟨vl,vz,h1,h2⟩:=h.v;exact⟨h.b.trans hb,qm h.z hb.size,h.lo,⟨h.fx.1,k.2 _ _ _ h.fx.2 (by simp)⟩,⟨h.rx.1,k.2 _ _ _ h.rx.2 (by simp)⟩,k.2 _ _ _ h.r (by simp),vl,vz,k.2 _ _ _ h1 (by simp),⟨own_kT h2.l k (by simp),own_kT h2.z k (by simp)⟩⟩
structure SK (V W:World):Prop where
  t:KeepT [42,60,3] V W
  o:KeepsOthers V W
theorem SK.refl (V:World):SK V V:=⟨KeepT.of_below _ (qb _ _),others_of_below (qb _ _)⟩
theorem SK.trans {A B C:World} (h:SK A B) (h2:SK B C):SK A C:=⟨h.t.trans h2.t,h.o.trans h2.o⟩
theorem SK.box {V W:World} (h:SK V W) {i:Nat} {cs:Array Value} (hi:V.heap[i]?=some (.cells cs 45 (0,0))):W.heap[i]?=some (.cells cs 45 (0,0)):=h.t.2 i cs _ hi (by decide)
theorem own_at {w:World} {B e z n:Nat} {v:Value} {x:List Value} (h:w.ownsRow B e z v n x) {b:Nat} (hb:v.ownBlock=some b):B≤b:=(h.lt b hb).1
theorem SJ.line {w:World} {S ob fx rx fb:Nat} {n:Int} {ds:List Dm} {zs:List Int} {V w5:World} {vl vz v5:Value} (d:Dm) (h:SJ w S ob fx rx fb n ds zs V) (hv:V.heap[ob]?=some (.cells #[vl,vz] 60 (0,0))) (hs:SchM V S vl vz ds zs)
    (ho:w5.ownsRow S 42 2 v5 (ds.length+1) (rhC ds++[.int .i64 d.cls,.int .i64 d.ref])) (hg:V.grownBy w5 vl.ownBlock):
    w5.cell? ⟨ob,0,none⟩=some vl∧w5.frozen? ⟨ob,0,none⟩=false∧Hid (SJ w S ob fx rx fb n (ds++[d]) zs (w5.setCell ⟨ob,0,none⟩ v5)∧SK V (w5.setCell ⟨ob,0,none⟩ v5)∧(w5.setCell ⟨ob,0,none⟩ v5).heap[ob]?=some (.cells #[v5,vz] 60 (0,0))∧SchM (w5.setCell ⟨ob,0,none⟩ v5) S v5 vz (ds++[d]) zs):=by
  have k1:KeepT [42] V w5:=KeepT.grown hs.l hg;have hv5:=k1.2 _ _ _ hv (by decide);have hv6:=qs w5 ob 0 _ _ v5 hv5;have k2:KeepT [60] w5 (w5.setCell ⟨ob,0,none⟩ v5):=KeepT.set hv5 0 v5;have k:KeepT [42,60] V (w5.setCell ⟨ob,0,none⟩ v5):=(k1.sub (by simp)).trans (k2.sub (by simp));have hsch:SchM (w5.setCell ⟨ob,0,none⟩ v5) S v5 vz (ds++[d]) zs:=⟨by rw[List.length_append,List.length_singleton,rhC_snoc];exact own_kT ho k2 (by decide),own_kT hs.z k (by decide)⟩;have hB:=h.b.size;have hz:=h.z;refine⟨qc _ _ 0 _ _ (0,0) hv5,qf _ _ 0 _ _ hv5,qh ⟨⟨(h.b.grown hg h.b.size (fun b e=>by have:=own_at hs.l e;have:=h.lo;omega)).setCell (p:=⟨ob,0,none⟩) h.lo.1 _,qm h.z k.1,h.lo,⟨h.fx.1,k.2 _ _ _ h.fx.2 (by decide)⟩,⟨h.rx.1,k.2 _ _ _ h.rx.2 (by decide)⟩,?_,v5,vz,hv6,hsch⟩,⟨k.sub (by simp),?_⟩,hv6,hsch⟩⟩
  · refine(qT _ _ _ _ (fun e=>h.lo.2.2 e)).trans (k1.2 _ _ _ h.r (by decide))
  · refine(KeepsOthers.of_grownBy hg (fun j o hj hjo=>?_)).trans (KeepsOthers.setCell _ _ _)
    obtain⟨c,fz,h1⟩:=Lib.ownsRow_kind hs.l j hj;rw[h1] at hjo;cases hjo;rfl
theorem SJ.more {w:World} {S ob fx rx fb:Nat} {n:Int} {ds:List Dm} {zs:List Int} {V w5:World} {vl vz v5:Value} (y:Int) (h:SJ w S ob fx rx fb n ds zs V) (hv:V.heap[ob]?=some (.cells #[vl,vz] 60 (0,0))) (hs:SchM V S vl vz ds zs)
    (ho:w5.ownsRow S 3 1 v5 (zs.length+1) (intC zs++[.int .i64 y])) (hg:V.grownBy w5 vz.ownBlock):
    w5.cell? ⟨ob,1,none⟩=some vz∧w5.frozen? ⟨ob,1,none⟩=false∧Hid (SJ w S ob fx rx fb n ds (zs++[y]) (w5.setCell ⟨ob,1,none⟩ v5)∧SK V (w5.setCell ⟨ob,1,none⟩ v5)∧(w5.setCell ⟨ob,1,none⟩ v5).heap[ob]?=some (.cells #[vl,v5] 60 (0,0))∧SchM (w5.setCell ⟨ob,1,none⟩ v5) S vl v5 ds (zs++[y])):=by
  have k1:KeepT [3] V w5:=KeepT.grown hs.z hg;have hv5:=k1.2 _ _ _ hv (by decide);have hv6:=qs w5 ob 1 _ _ v5 hv5;have k2:KeepT [60] w5 (w5.setCell ⟨ob,1,none⟩ v5):=KeepT.set hv5 1 v5;have k:KeepT [3,60] V (w5.setCell ⟨ob,1,none⟩ v5):=(k1.sub (by simp)).trans (k2.sub (by simp));have hsch:SchM (w5.setCell ⟨ob,1,none⟩ v5) S vl v5 ds (zs++[y]):=⟨own_kT hs.l k (by decide),by rw[List.length_append,List.length_singleton,show intC (zs++[y])=intC zs++[.int .i64 y] by unfold intC;simp];exact own_kT ho k2 (by decide)⟩;have hB:=h.b.size;have hz:=h.z;have hrx:=h.rx.1;have hlo:=h.lo;refine⟨qc _ _ 1 _ _ (0,0) hv5,qf _ _ 1 _ _ hv5,qh ⟨⟨(h.b.grown hg h.b.size (fun b e=>by have:=own_at hs.z e;omega)).setCell (p:=⟨ob,1,none⟩) h.lo.1 _,qm h.z k.1,h.lo,⟨h.fx.1,k.2 _ _ _ h.fx.2 (by decide)⟩,⟨h.rx.1,?_⟩,?_,vl,v5,hv6,hsch⟩,⟨k.sub (by simp),?_⟩,hv6,hsch⟩⟩
  · refine(qT _ _ _ _ (fun e=>?_)).trans ((hg.block rx (qg h.rx.2).1 (fun q=>?_)).trans h.rx.2)
    · have e2:rx=ob:=e
      subst e2;have:=h.rx.2;rw[hv] at this;cases this
    · have:=own_at hs.z q.symm
      omega
  · refine(qT _ _ _ _ (fun e=>h.lo.2.2 e)).trans (k1.2 _ _ _ h.r (by decide))
  · refine(KeepsOthers.of_grownBy hg (fun j o hj hjo=>?_)).trans (KeepsOthers.setCell _ _ _)
    obtain⟨c,fz,h1⟩:=Lib.ownsRow_kind hs.z j hj;rw[h1] at hjo;cases hjo;rfl
theorem SJ.inc {w:World} {S ob fx rx fb g c:Nat} {n:Int} {ds:List Dm} {zs:List Int} {V:World} {vl:Value} (k:Nat) (y:Int) (h:SJ w S ob fx rx fb n ds zs V) (hv:V.heap[ob]?=some (.cells #[vl,.slice (some ⟨g,0,none⟩) zs.length c] 60 (0,0))) (hs:SchM V S vl (.slice (some ⟨g,0,none⟩) zs.length c) ds zs) (hk:k<zs.length):
    V.frozen? ⟨g,k,none⟩=false∧Hid (SJ w S ob fx rx fb n ds (zs.set k y) (V.setCell ⟨g,k,none⟩ (.int .i64 y))∧SK V (V.setCell ⟨g,k,none⟩ (.int .i64 y))):=by
  have hz:=hs.z;rcases hz.2 with⟨e,_⟩|⟨g',cap,cur,e,h0,hg,hcap,hcs⟩
  · cases e
  · cases e
    have k2:KeepT [3] V (V.setCell ⟨g,k,none⟩ (.int .i64 y)):=KeepT.set hg k _;have hlo:=h.lo;have hne:g≠ob:=fun e=>by omega
    have hsch:SchM (V.setCell ⟨g,k,none⟩ (.int .i64 y)) S vl (.slice (some ⟨g,0,none⟩) zs.length c) ds (zs.set k y):=⟨own_kT hs.l k2 (by decide),by
      have h2:=(hz.stored k (.int .i64 y)).1;rw[show(intC zs).set k (.int .i64 y)=intC (zs.set k y) by unfold intC;rw[List.map_set]] at h2;rw[List.length_set];exact h2⟩
    refine⟨qf _ _ k _ _ hg,qh ⟨⟨h.b.setCell (p:=⟨g,k,none⟩) (by show w.heap.size≤g;omega) _,qm h.z k2.1,h.lo,⟨h.fx.1,k2.2 _ _ _ h.fx.2 (by decide)⟩,⟨h.rx.1,(qT _ _ _ _ (fun e=>?_)).trans h.rx.2⟩,(qT _ _ _ _ (fun e=>?_)).trans h.r,vl,_,(qT _ _ _ _ (fun e=>hne e.symm)).trans hv,hsch⟩,⟨k2.sub (by simp),KeepsOthers.setCell _ _ _⟩⟩⟩
    · have e2:rx=g:=e
      have:=h.rx.1;omega
    · have e2:w.heap.size=g:=e
      omega
def ZA (fb N r ob c:Nat) (x:YD) (bp:Nat) (a:Act):Prop:=a={tmps:=#[.pointer (some ⟨fb,0,none⟩),.int .i64 (N:Int),undef,undef,.pointer (some ⟨r,0,none⟩),.int .i64 0,.int .i64 0,.pointer (some ⟨ob,0,none⟩),undef,.pointer (some ⟨bp,0,none⟩),.pointer (some ⟨fb,0,none⟩),.int .i64 (N:Int),.int .i64 0,.int .i64 0,.bool false,undef,undef,.pointer (some ⟨fb,0,none⟩),.int .i64 (N:Int),.func (.func 37) #[] #[.pointer (some ⟨c,0,none⟩),.pointer (some ⟨c+1,0,none⟩)],.int .i64 (x.k:Int),.agg (dmC x.d x.v),undef,undef,undef,undef,undef,undef,undef,undef,undef,undef,undef,undef,undef,undef,undef,undef,undef,undef,undef,undef,undef,undef,undef,undef,undef,undef,undef,undef,undef],defers:=[]}
def ScPost (ds:List Dm) (w:World) (e:Exit) (a:Act) (W:World):Prop:=
  match e with
  |.ret=>∃D vl vz,a.defers=[{target:=.collected D,args:=#[]}]∧a.tmps.getD 4 undef=.pointer (some ⟨w.heap.size,0,none⟩)∧a.tmps.getD 5 undef=.int .i64 0∧W.heap[D]?=some (.deferred (some []))∧w.heap.size≤D∧
      W.heap[w.heap.size]?=some (.cells #[vl,vz] 60 (0,0))∧SchM W w.heap.size vl vz ds (zsP ds)∧Below w.heap.size w W
  |_=>False
def ScOk (ds:List Dm) (w:World) (e:Ending) (w':World):Prop:=Below w.heap.size w w'∧∃vl vz,e=.returned (.tuple #[.agg #[vl,vz],.int .i64 0])∧SchM w' w.heap.size vl vz ds (zsP ds)
theorem SchM.kT {T:List Nat} {w w':World} {B:Nat} {vl vz:Value} {ds:List Dm} {zs:List Int} (h:SchM w B vl vz ds zs) (hk:KeepT T w w') (h1:42∉T) (h2:3∉T):SchM w' B vl vz ds zs:=⟨own_kT h.l hk h1,own_kT h.z hk h2⟩
theorem SchM.mono {w:World} {B C:Nat} {vl vz:Value} {ds:List Dm} {zs:List Int} (h:SchM w B vl vz ds zs) (hC:C≤B):SchM w C vl vz ds zs:=⟨zaT h.l hC,zaT h.z hC⟩
def lenOf:Option Value→Nat
  |some (.slice _ n _)=>n
  |_=>0
theorem last_in2:∀{l:List Dm} {i p:Int},LinesG i p l→∀j,lastZ p (l.take j)≤p+j∧lastZ p (l.take j)≤p+l.length
  |[],i,p,_,j=>by simp[lastZ];omega
  |d::ds,i,p,h,0=>by simp[lastZ];omega
  |d::ds,i,p,h,j+1=>by
   have ih:=last_in2 h.2.2 j;have h1:=h.1;show lastZ d.stz (ds.take j)≤p+((j+1:Nat):Int)∧lastZ d.stz (ds.take j)≤p+(((d::ds).length:Nat):Int);simp only[List.length_cons];omega
attribute [local go_sem] Oper.semAt_some
set_option maxRecDepth 100000 in
set_option maxHeartbeats 8000000 in
theorem scheme_form (B fb:Nat) (f:Fm) (vl vm vs:Value) (N:Nat) (i:Nat) (w:World) (h:FmM w B fb f vl vm vs) (hk:FmOk f i) (hg:GrO f) (hr:RefF f) (hi:i≤65536) (hn1:f.least≤N) (hn2:(N:Int)≤f.most):
    Calls Tryz.prog 24 #[.pointer (some ⟨fb,0,none⟩),.int .i64 (N:Int)] w (ScOk (demandsP f N) w):=by
  obtain⟨W0,hW0⟩:∃W0,w.alloc (.cells #[.slice none 0 0,.slice none 0 0] 60)=W0:=⟨_,rfl⟩;have hb0:Below w.heap.size w W0:=by rw[←hW0];exact(qb _ _).alloc (ql _) _
  have hs0:W0.heap.size=w.heap.size+1:=by rw[←hW0];simp
  have hr0:W0.heap[w.heap.size]?=some (.cells #[.slice none 0 0,.slice none 0 0] 60 (0,0)):=by rw[←hW0];exact qn w _
  have Hc:=check_form B fb f vl vm vs N W0 (h.below hb0);rw[if_neg (by omega)] at Hc;have HC:=qh Hc;obtain⟨vis,vhss,hrw,hits⟩:=h.parts;obtain⟨W1,hW1⟩:∃W1,W0.alloc (.cells #[.slice none 0 0,.slice none 0 0] 60)=W1:=⟨_,rfl⟩;have hb1:Below W0.heap.size W0 W1:=by rw[←hW1];exact(qb _ _).alloc (ql _) _
  have hs1:W1.heap.size=w.heap.size+2:=by rw[←hW1,World.size_alloc,hs0]
  have ho1:W1.heap[w.heap.size+1]?=some (.cells #[.slice none 0 0,.slice none 0 0] 60 (0,0)):=by rw[←hW1,←hs0];exact qn W0 _
  have hb3:Below W1.heap.size W1 ((W1.alloc (.cells #[.pointer (some ⟨fb,0,none⟩)] 24)).alloc (.cells #[.int .i64 (N:Int)] 3)):=((qb _ _).alloc (ql _) _).alloc (by simp) _;have hF3:((W1.alloc (.cells #[.pointer (some ⟨fb,0,none⟩)] 24)).alloc (.cells #[.int .i64 (N:Int)] 3)).heap[W1.heap.size]?=some (.cells #[.pointer (some ⟨fb,0,none⟩)] 24 (0,0)):=(qa _ _ _ (by simp)).trans (qn W1 _)
  have hr3:((W1.alloc (.cells #[.pointer (some ⟨fb,0,none⟩)] 24)).alloc (.cells #[.int .i64 (N:Int)] 3)).heap[W1.heap.size+1]?=some (.cells #[.int .i64 (N:Int)] 3 (0,0)):=by
    have:=qn (W1.alloc (.cells #[.pointer (some ⟨fb,0,none⟩)] 24)) (.cells #[.int .i64 (N:Int)] 3);rw[World.size_alloc] at this;exact this
  have hs3:((W1.alloc (.cells #[.pointer (some ⟨fb,0,none⟩)] 24)).alloc (.cells #[.int .i64 (N:Int)] 3)).heap.size=w.heap.size+4:=by rw[World.size_alloc,World.size_alloc,hs1]
  have Heach:=qh (each_any (.pointer (some ⟨fb,0,none⟩)) (N:Int) W1 (.inr ⟨fb,rfl⟩));generalize hW3:((W1.alloc (.cells #[.pointer (some ⟨fb,0,none⟩)] 24)).alloc (.cells #[.int .i64 (N:Int)] 3))=W3 at hb3 hF3 hr3 hs3 Heach;rw[hs1] at hF3 hr3 Heach;have hbw1:Below w.heap.size w W1:=bel_on hb0 hb1;have hbw3:Below w.heap.size w W3:=bel_on hbw1 hb3
  have HE:Hid (∀W,Below w.heap.size w W→W.heap[w.heap.size+2]?=some (.cells #[.pointer (some ⟨fb,0,none⟩)] 24 (0,0))→W.heap[w.heap.size+3]?=some (.cells #[.int .i64 (N:Int)] 3 (0,0))→EachM B fb (w.heap.size+2) (w.heap.size+3) f vl vm vs N vis vhss W):=
    qh (fun W hb h1 h2=>by
      have k:=KeepT.of_below [] hb;exact⟨h.kT k OffForm.nil,h1,h2,hrw.kT k OffForm.nil,fun q hq=>(hits q hq).kT k OffForm.nil⟩)
  have hSJ:SJ w (w.heap.size+4) (w.heap.size+1) (w.heap.size+2) (w.heap.size+3) fb N [] [] W3:=
    ⟨hbw3,by omega,⟨by omega,by omega,by omega⟩,⟨by omega,hF3⟩,⟨by omega,hr3⟩,row_at (row_at hr0 hb1) hb3,_,_,row_at ho1 hb3,⟨rfl,.inl ⟨rfl,rfl⟩⟩,⟨rfl,.inl ⟨rfl,rfl⟩⟩⟩
  have hseq:=each_seq 5 (by omega) B fb (w.heap.size+2) (w.heap.size+3) f vl vm vs N vis vhss i W3 hk hi hn1 hn2;have hfew:=demands_few hr N hn2;have HR:=qh (demands_ref hg hk hr N hn1 hn2);have HLG:=qh (lines_good hg hk N hn1 hn2);have HSJ:=qh hSJ;have Hs0:=qh hs0;have HW0:=qh hW0;have HW1:=qh hW1;have Hw3:=qh hs3;clear hSJ hW0 hW1 hbw1 hbw3 hb0 hb1 hb3 ho1 hr0 hF3 hr3 Hc h hk hg hr hrw hits hW3 hs0 hs1;refine(callsIn_wide (n:=6)).1 ?_;refine callsIn_of_wp_marks Tryz.func24 rfl trivial ?_ rfl;simp only[Tryz.ntmps24,List.size_toArray,List.length_cons,List.length_nil,Nat.reduceAdd,Nat.reduceSub,Array.replicate_succ,Array.replicate_zero,List.push_toArray,List.append_toArray,List.nil_append,List.cons_append];refine wpIn_wide.2 (Code.wp_mono (Q:=ScPost (demandsP f N) w) ?_ ?_)
  · rintro e a W hq
    cases e<;>try exact hq.elim
    obtain⟨D,vl',vz',hd,h4,h5,hK,hD,hrow,hsch,hb⟩:=hq;obtain⟨T,df⟩:=a;simp only[] at hd h4 h5;subst hd;have h4':T[4]?.getD undef=.pointer (some ⟨w.heap.size,0,none⟩):=(by simpa using h4);have h5':T[5]?.getD undef=.int .i64 0:=(by simpa using h5);have hkp:=KeepT.of_for [] (KeepsFor.put W D _ (.deferred none) hK rfl rfl);have hrow2:=hkp.2 _ _ _ hrow (by simp);have d0:=qc _ _ 0 _ _ (0,0) hrow2;have d1:=qc _ _ 1 _ _ (0,0) hrow2;have d0':(W.putObj D (.deferred none)).cell? ⟨w.heap.size,0,none⟩=some vl':=d0;have d1':(W.putObj D (.deferred none)).cell? ⟨w.heap.size,1,none⟩=some vz':=d1;refine⟨by simp,.inl ⟨_,_,rfl,run_takeDeferred hK,?_⟩⟩;refine⟨.tuple #[.agg #[vl',vz'],.int .i64 0],?_,⟨hb.os,hb.tape,hb.output,by rw[World.putObj_size];exact hb.size,fun k hk=>(World.putObj_heap_other (by omega)).trans (hb.block k hk)⟩,vl',vz',rfl,hsch.kT hkp (by simp) (by simp)⟩;simp[results,Tryz.f24,go_sem,h4',h5',d0',d1',Tryz.isAgg60,Tryz.sizeOf60]
  go_wp2_with fail;rw[HW0.out];refine HC.out.mono ?_;rintro e w2 ⟨rfl,rfl⟩;go_wp2_with fail;rw[HW1.out,Hs0.out];refine Heach.out.mono ?_;rintro e w4 ⟨rfl,rfl⟩;go_wp2_with fail
  refine wpIn_wide.1 (range_r (F:=Fence.wide) (n:=6) (R:=KeepsSt) (Base:=EachM B fb (w.heap.size+2) (w.heap.size+3) f vl vm vs N vis vhss) (fun A B C=>KeepsSt.trans) KeepsSt.put rfl (by decide) (gf:=37) (lb:=#[.pointer (some ⟨w.heap.size+2,0,none⟩),.pointer (some ⟨w.heap.size+3,0,none⟩)]) rfl trivial (enters_of Tryz.func37 (by kernel_rfl) rfl) hseq (fun _=>rfl)
    (fun pre W=>SJ w (w.heap.size+4) (w.heap.size+1) (w.heap.size+2) (w.heap.size+3) fb N (pre.map YD.d) (zsP (pre.map YD.d)) W∧pre.map YD.d<+:demandsP f N) (fun _ _ _=>False) ?hI ?hIx (fun pre W h=>HE.out W h.1.b h.1.fx.2 h.1.rx.2) ⟨HSJ.out,List.nil_prefix⟩ (fun pre x a' W'=>∃bp,ZA fb N w.heap.size (w.heap.size+1) (w.heap.size+2) x bp a'∧W'.heap[bp]?=some (.cells (dmC x.d x.v) 45 (0,0))∧(demandsP f N)[pre.length]?=some x.d∧(∃A c,x.v=.slice A x.d.has.length c)) ?assign ?body ?hAx ?done ?stop)
  case hI=>exact fun s A A' h hb hk=>⟨h.1.kept (hb.mono (by rw[Hw3.out];omega)) hk,h.2⟩
  case hIx=>exact fun c s A A' h _ _=>h
  case stop=>exact fun D c pre W _ _ h _=>h.elim
  case hAx=>
    rintro pre x a' W l o o' ⟨bp,h1,h2,h3,h4⟩ ho hc hw;have k:=KeepT.of_for [] (KeepsFor.put W l o o' ho hc hw);exact⟨bp,h1,k.2 _ _ _ h2 (by simp),h3,h4⟩
  case assign=>
    rintro l pre ⟨xk,xd,xv⟩ V K hi hfit hsz hK;obtain⟨Ax,cx,hxv⟩:=zab hfit.1;simp only[] at hxv;subst hxv;have HK:=qh hK;have Hfit:=qh hfit;have Hi:=qh hi;clear hK hfit hi;simp only[ydEncs,dmC];gi_wp2;have hb:Below V.heap.size V (V.alloc (.cells (dmC xd (.slice Ax xd.has.length cx)) 45)):=(qb _ V).alloc (ql _) _;have k:=KeepT.of_below [] hb;exact HK.out _ _ (others_of_below hb) (KeepsSt.of_below hb) ⟨Hi.out.1.kept (hb.mono Hi.out.1.b.size) (keeps_of_below hb),Hi.out.2⟩ ⟨V.heap.size,rfl,qn V _,Hfit.out.2.2.2,_,_,rfl⟩
  case body=>
    rintro l pre ⟨xk,xd,xv⟩ a' V hi hlen ⟨bp,rfl,hbp,hds,Ax,cx,hxv⟩ hsz;simp only[] at hxv hbp hlen hds;subst hxv;obtain⟨hi,hpre⟩:=hi;have hdl:(pre.map YD.d).length=pre.length:=List.length_map ..;have hdm:(pre++[(⟨xk,xd,.slice Ax xd.has.length cx⟩:YD)]).map YD.d=pre.map YD.d++[xd]:=(by simp);rw[←hdl] at hds;have Hend:=qh hdm;clear hdm hdl
    have hpre2:pre.map YD.d++[xd]<+:demandsP f N:=by
      obtain⟨tl,htl⟩:=hpre;rw[←htl,List.getElem?_append_right (Nat.le_refl _),Nat.sub_self] at hds;cases tl with
      |nil=>simp at hds
      |cons y tl=>
       simp at hds;subst hds;exact⟨tl,by rw[←htl];simp⟩
    have Hpre2:=qh hpre2;generalize pre.map YD.d=ds at*;have hll:=hpre2.length_le;simp only[List.length_append,List.length_singleton] at hll;have hxr:=HR.out xd (hpre2.subset (by simp));have hzg:=zg_all HLG.out (fun d hd=>(HR.out d hd).z) ds.length (by omega);rw[←List.prefix_iff_eq_take.1 hpre] at hzg
    obtain⟨hzg2,hkl⟩:=hzg.snoc hxr.z (by
      have h1:=lines_at HLG.out ds.length xd hds;rw[←List.prefix_iff_eq_take.1 hpre] at h1;exact h1.2)
    have hxz:=hxr.z;obtain⟨k,hk⟩:∃k:Nat,xd.stz=(k:Int):=⟨xd.stz.toNat,by omega⟩;have Hzs:=qh (zsP_snoc ds xd);rw[hk,Int.toNat_natCast] at hkl hzg2 Hzs
    have hsum:∀z∈zsP ds,1≤z∧z≤512:=fun z hz=>by
      have h1:=expZ_len (zsP ds) 0 (fun y hy=>by have:=hzg.p y hy;omega);rw[←hzg.e,List.length_map] at h1
      have h2:∀l:List Int,(∀y∈l,1≤y)→z∈l→z≤l.sum:=fun l=>by
        induction l with
        |nil=>simp
        |cons y ys ih=>
         intro hy hz
         have hn:∀l:List Int,(∀y∈l,1≤y)→0≤l.sum:=fun l=>by
           induction l with
           |nil=>simp
           |cons y ys ih=>intro hy;have:=hy y (by simp);have:=ih (fun q hq=>hy q (by simp[hq]));simp;omega
         have h0:=hn ys (fun q hq=>hy q (by simp[hq]));have h1:=hy y (by simp);rw[List.sum_cons];rcases List.mem_cons.1 hz with rfl|hz
         · omega
         · have:=ih (fun q hq=>hy q (by simp[hq])) hz;omega
      have:=h2 (zsP ds) hzg.p hz;have:=hzg.p z hz;omega
    have Hsum:=qh hsum
    have hzl:(zsP ds).length≤512:=by
      have h1:=last_in2 HLG.out ds.length;rw[←List.prefix_iff_eq_take.1 hpre] at h1;have:=hzg.l;omega
    have HV:=hi.b.size;obtain⟨vl0,vz0,hv,hs⟩:=hi.v;obtain⟨Al,cl,rfl⟩:=zab hs.l;obtain⟨Az,cz,rfl⟩:=zab hs.z;have hSV:=hi.z;have c0:=qc _ _ 0 _ _ (0,0) hv;have hbp':=hbp;unfold dmC at hbp;have b0:=qc _ _ 0 _ _ (0,0) hbp;have b1:=qc _ _ 1 _ _ (0,0) hbp;have b2:=qc _ _ 2 _ _ (0,0) hbp;have Hbp:=qh hbp;have Hsl:=qh hs.l;have Hst:=qh (fun v5 w5=>SJ.line (v5:=v5) (w5:=w5) xd hi hv hs);clear hi hbp hbp' hs hv hds hpre hpre2 hxr hzg hzg2 hxz hsum;generalize zsP ds=zs at*;simp only[dmC];gi_wp2_with (gi_at_builtin;refine wpListIn_append_boxg V rfl _ _ 58 rfl (w.heap.size+4) 42 _ _ 2 16 Tryz.underlying58 infoR zeroR sizeR2 bytesR rfl (by decide) (.slice Al ds.length cl) ds.length (rhC ds) #[.int .i64 xd.cls,.int .i64 xd.ref] V.heap.size rfl rfl rfl Hsl.out rfl (by intro u hu;simp at hu;rcases hu with rfl|rfl<;>rfl) (by unfold maxLen;omega) (by omega) hSV ?_;intro v5 w5 hown5 hgr5;obtain⟨d5,f5,HF5⟩:=Hst.out v5 w5 hown5 hgr5;obtain⟨g5,cap5,rfl⟩:=zak hown5 (by omega);clear hown5 hgr5)
    obtain⟨hF1,hF2,_,_⟩:=HF5.out;have HF1:=qh hF1;have HF2:=qh hF2;clear hF1 hF2 HF5 Hst Hsl d5 f5 b0 b1 b2 c0;generalize hW6:World.setCell _ _ _=W6 at HF1 HF2⊢;clear hW6;gi_loopw [31] (fun _ W=>∃zs',(zs'=zs∨(zs'=zs++[0]∧zs.length=k))∧Hid (SJ w (w.heap.size+4) (w.heap.size+1) (w.heap.size+2) (w.heap.size+3) fb N (ds++[xd]) zs' W)∧Hid (SK V W)) (fun _ W=>k+1-lenOf (W.cell? ⟨w.heap.size+1,1,none⟩))
    case atStart=>exact⟨zs,.inl rfl,HF1,HF2⟩
    case round=>
      rename World=>wr
      obtain⟨zs',hz',hJ,hK⟩:=hrel;obtain⟨vl1,vz1,hv1,hs1⟩:=hJ.out.v;obtain⟨Al1,cl1,rfl⟩:=zab hs1.l;obtain⟨Az1,cz1,rfl⟩:=zab hs1.z;have c1:wr.cell? ⟨w.heap.size+1,1,none⟩=some (.slice Az1 zs'.length cz1):=qc _ _ 1 _ _ (0,0) hv1;have hbq:=hK.out.box Hbp.out;have b0:=qc _ _ 0 _ _ (0,0) hbq;rw[hk] at b0;clear hbq;by_cases hle:zs'.length≤k
      · obtain rfl:zs'=zs:=by
          rcases hz' with rfl|⟨rfl,e⟩
          · rfl
          · simp at hle;omega
        have Hlk:=qh (show zs'.length=k by omega);have g1:decide ((zs'.length:Int)≤(k:Int))=true:=qt (by omega);have hSW:=hJ.out.z;have Hsz1:=qh hs1.z;have Hst:=qh (fun v5 w5=>SJ.more (v5:=v5) (w5:=w5) 0 hJ.out hv1 hs1);clear hs1 hv1;gi_wp2_with (gi_at_builtin;go_loud (refine wpListIn_append_boxg wr rfl _ _ 43 rfl (w.heap.size+4) 3 _ _ 1 8 Tryz.underlying43 zlM zlN zlO zjx rfl (by decide) (.slice Az1 zs'.length cz1) zs'.length (intC zs') #[.int .i64 0] wr.heap.size rfl rfl rfl Hsz1.out rfl (by intro u hu;simp at hu;subst hu;rfl) (by unfold maxLen;omega) (by omega) hSW ?_;intro v5 w5 hown5 hgr5;obtain⟨d5,f5,HF5⟩:=Hst.out v5 w5 hown5 hgr5;obtain⟨g5,cap5,rfl⟩:=zak hown5 (by omega);clear hown5 hgr5))
        obtain⟨hF1,hF2,hF3,_⟩:=HF5.out;have HG1:=qh hF1;have HG2:=qh (hK.out.trans hF2);have HG3:=qh (show World.cell? _ ⟨w.heap.size+1,1,none⟩=some (.slice (some ⟨g5,0,none⟩) (zs'.length+1) cap5) from qc _ _ 1 _ _ (0,0) hF3);clear hF1 hF2 hF3 HF5 Hst d5 f5 hle;go_roundw
        case rel=>exact⟨zs'++[0],.inr ⟨rfl,Hlk.out⟩,HG1,HG2⟩
        case measure=>rw[HG3.out,c1];simp only[lenOf];have:=Hlk.out;omega
      · have g1:decide ((zs'.length:Int)≤(k:Int))=false:=qd (by omega)
        have hupd:zs'.set k (zs'.getD k 0+1)=updZ zs k∧zs'.getD k 0≤512∧-512≤zs'.getD k 0:=by
          rcases hz' with rfl|⟨rfl,e⟩
          · have hm:zs'.getD k 0∈zs':=by
              rw[List.getD_eq_getElem?_getD,List.getElem?_eq_getElem (by omega)];exact qM _
            have h1:=Hsum.out _ hm;refine⟨by unfold updZ;rw[if_pos (by omega)],h1.2,by omega⟩
          · subst e
            rw[getD_snoc_len];refine⟨?_,by omega,by omega⟩;unfold updZ;rw[if_neg (by omega)];simp
        obtain⟨g,rfl,hg,cz0⟩:=SchM.stz hs1 rfl (k:=k) (by omega);obtain⟨fz,Hin⟩:=SJ.inc k (zs'.getD k 0+1) hJ.out hv1 hs1 (by omega);have HU:=qh hupd.1;have hy:=hupd.2;clear hupd hs1 hv1;generalize zs'.getD k 0=y at*;have hw1:IntKind.i64.wrap (y+1)=y+1:=qi _ (by omega);gi_wp2;obtain⟨hI1,hI2⟩:=Hin.out;have hI3:=hK.out.trans hI2;refine⟨hI3.o,hI3.t.st (by decide),?_,?_⟩
        · rw[Hend.out,Hzs.out,←HU.out]
          exact hI1
        · rw[Hend.out]
          exact Hpre2.out
  case done=>
    rintro D xs W hD hen ⟨hi,hpre⟩ hK;obtain⟨vl0,vz0,hv,hs⟩:=hi.v;obtain⟨Al,cl,rfl⟩:=zab hs.l;obtain⟨Az,cz,rfl⟩:=zab hs.z;have hall:xs.map YD.d=demandsP f N:=hen.1;rw[hall] at hs hv hi;have hzg:=zg_all HLG.out (fun d hd=>(HR.out d hd).z) (demandsP f N).length (ql _);rw[List.take_length] at hzg
    have hsm:(zsP (demandsP f N)).sum=((demandsP f N).length:Int):=by
      have:=expZ_len (zsP (demandsP f N)) 0 (fun y hy=>by have:=hzg.p y hy;omega);rw[←hzg.e,List.length_map] at this;exact this.symm
    have Hck:Hid (∀W',Below W.heap.size W W'→Calls Tryz.prog 43 #[.agg #[.slice Al (demandsP f N).length cl,.slice Az (zsP (demandsP f N)).length cz]] W' fun e w'=>e=.returned (.int .i64 0)∧Below W'.heap.size W' w'):=
      qh (fun W' hb=>check_any _ _ cl _ cz Al Az (demandsP f N) (zsP (demandsP f N)) W' (hs.kT (KeepT.of_below [] hb) (by simp) (by simp)) rfl rfl HR.out hzg.p hsm hfew)
    have c0:=qc _ _ 0 _ _ (0,0) hv;have c1:=qc _ _ 1 _ _ (0,0) hv;have r0:=qc _ _ 0 _ _ (0,0) hi.r;have r1:=qc _ _ 1 _ _ (0,0) hi.r;have z0:=qf _ _ 0 _ _ hi.r;have z1:=qf _ _ 1 _ _ hi.r
    have Hr:Hid (∀W',Below W.heap.size W W'→W'.cell? ⟨w.heap.size,0,none⟩=some (.slice none 0 0)∧W'.cell? ⟨w.heap.size,1,none⟩=some (.slice none 0 0)∧W'.frozen? ⟨w.heap.size,0,none⟩=false∧W'.frozen? ⟨w.heap.size,1,none⟩=false∧
        W'.cell? ⟨w.heap.size+1,0,none⟩=some (.slice Al (demandsP f N).length cl)∧W'.cell? ⟨w.heap.size+1,1,none⟩=some (.slice Az (zsP (demandsP f N)).length cz)):=
      qh (fun W' hb=>by
        have h1:=row_at hi.r hb;have h2:=row_at hv hb;exact⟨qc _ _ 0 _ _ (0,0) h1,qc _ _ 1 _ _ (0,0) h1,qf _ _ 0 _ _ h1,qf _ _ 1 _ _ h1,qc _ _ 0 _ _ (0,0) h2,qc _ _ 1 _ _ (0,0) h2⟩)
    have Hfin:=qh (And.intro hi (And.intro hs (And.intro hD hK)));clear hzg hsm hen hi hpre hv hs hD hK hseq hall;go_wp2_with fail;go_region_with (go_at_call 43;refine(Hck.out _ (by first|exact qb _ _|exact zc3 (qb _ _) 1)).mono ?_;rintro e w9 ⟨rfl,hb9⟩;have hb8:Below W.heap.size W w9:=(by first|exact hb9|exact bel_on (zc3 (qb _ _) 1) hb9);obtain⟨t0,t1,u0,u1,s0,s1⟩:=Hr.out w9 hb8)
    all_goals
      have Hb8:=qh hb8;clear hb8 hb9 t0 t1 u0 u1 s0 s1 c0 c1 r0 r1 z0 z1;go_wp2_with fail;obtain⟨hi,hs,hD,hK⟩:=Hfin.out;have hb8:=Hb8.out;have hlo:=hi.b.size;have r9:=row_at hi.r hb8;have s1:=qs _ _ 0 _ _ (.slice Al (demandsP f N).length cl) r9;have s2:=qs _ _ 1 _ _ (.slice Az (zsP (demandsP f N)).length cz) s1;have hK9:w9.heap[D]?=some (.deferred (some [])):=(hb8.block D (qg hK).1).trans hK;have hne:D≠w.heap.size:=fun e=>by rw[e,hi.r] at hK;cases hK
      have k9:KeepT [60] W _:=((KeepT.of_below [60] hb8).trans (KeepT.set r9 0 (.slice Al (demandsP f N).length cl))).trans (KeepT.set s1 1 (.slice Az (zsP (demandsP f N)).length cz));have hb9:=hi.b.trans (hb8.mono hlo);exact⟨D,_,_,rfl,rfl,rfl,(qT _ _ _ _ hne).trans ((qT _ _ _ _ hne).trans hK9),by rw[Hw3.out] at hD;omega,s2,(hs.kT k9 (by decide) (by decide)).mono (by omega),((hb9.setCell (p:=⟨w.heap.size,0,none⟩) (ql _) _).setCell (p:=⟨w.heap.size,1,none⟩) (ql _) _)⟩

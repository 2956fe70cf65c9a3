import Derived.Test.YtgklikkddckgbaaGreatDoorHBB
/- Lemmas of the claim. -/
set_option linter.all false
namespace Go.Proofs.YtgklikkddckgbaaGreatDoor.Mo
open Go.RowKit
def KeepT (T:List Nat) (W W':World):Prop:=W.heap.size≤W'.heap.size∧∀(i:Nat) (cs:Array Value) (t:Nat),W.heap[i]?=some (.cells cs t (0,0))→t∉T→W'.heap[i]?=some (.cells cs t (0,0))
theorem KeepT.of_for {W W':World} (T:List Nat) (h:KeepsFor 0 W W'):KeepT T W W':=⟨h.1,fun i cs t hi _=>h.2 i _ (Nat.zero_le _) hi (.inl rfl)⟩
theorem KeepT.of_below {W W':World} (T:List Nat) (h:Below W.heap.size W W'):KeepT T W W':=KeepT.of_for T (keeps_of_below h)
theorem KeepT.trans {T:List Nat} {A B C:World} (h:KeepT T A B) (h2:KeepT T B C):KeepT T A C:=⟨qm h.1 h2.1,fun i cs t hi ht=>h2.2 i cs t (h.2 i cs t hi ht) ht⟩
theorem KeepT.sub {T T':List Nat} {A B:World} (h:KeepT T A B) (hs:∀t,t∈T→t∈T'):KeepT T' A B:=⟨h.1,fun i cs t hi ht=>h.2 i cs t hi (fun hm=>ht (hs t hm))⟩
theorem KeepT.set {W:World} {b t:Nat} {cs:Array Value} (hb:W.heap[b]?=some (.cells cs t (0,0))) (o:Nat) (v:Value):KeepT [t] W (W.setCell ⟨b,o,none⟩ v):=by
  refine⟨by simp,fun i cs' t' hi ht=>(qT _ _ _ _ (fun e=>?_)).trans hi⟩;have e2:i=b:=e;subst e2;rw[hb] at hi;cases hi;exact ht (by simp)
theorem KeepT.grown {W W':World} {B e z n:Nat} {v:Value} {xs:List Value} (ho:W.ownsRow B e z v n xs) (hg:W.grownBy W' v.ownBlock):KeepT [e] W W':=by
  refine⟨hg.size,fun i cs t hi ht=>(hg.block i (qg hi).1 (fun q=>?_)).trans hi⟩;rcases zac ho hi (fun q2=>ht (by simp[q2])) with h0|h0
  · rw[h0] at q;cases q
  · exact h0 q.symm
theorem own_kT {T:List Nat} {w w':World} {B e z n:Nat} {v:Value} {xs:List Value} (h:w.ownsRow B e z v n xs) (hk:KeepT T w w') (he:e∉T):w'.ownsRow B e z v n xs:=by
  refine⟨h.1,h.2.imp id ?_⟩;rintro⟨g,cap,cur,h1,h2,h3,h4⟩;exact⟨g,cap,cur,h1,h2,hk.2 g _ _ h3 he,h4⟩
theorem KeepT.st {T:List Nat} {A B:World} (h:KeepT T A B) (ht:106∉T):KeepsSt A B:=⟨h.1,fun i cs hi=>h.2 i cs _ hi ht⟩
structure OffForm (T:List Nat):Prop where
  a:92∉T
  b:5∉T
  c:79∉T
  d:81∉T
  e:83∉T
  f:85∉T
  g:106∉T
  h:108∉T
  i:3∉T
  j:24∉T
theorem OffForm.nil:OffForm []:=⟨by simp,by simp,by simp,by simp,by simp,by simp,by simp,by simp,by simp,by simp⟩
theorem ItsM.kT {T:List Nat} {w w':World} {B:Nat} {letters:List UInt8} {v:Value} {l:List It} {vhs:List Value} (h:ItsM w B letters v l vhs) (hk:KeepT T w w') (hT:OffForm T):ItsM w' B letters v l vhs:=⟨h.n,own_kT h.o hk hT.h,fun k hk'=>own_kT (h.h k hk') hk hT.i⟩
theorem RwM.kT {T:List Nat} {w w':World} {B:Nat} {vs:Value} {rows:List Rw} {vis:List Value} (h:RwM w B vs rows vis) (hk:KeepT T w w') (hT:OffForm T):RwM w' B vs rows vis:=⟨h.n,own_kT h.o hk hT.g,h.it⟩
theorem FmM.kT {T:List Nat} {w w':World} {B fb:Nat} {f:Fm} {vl vm vs:Value} (h:FmM w B fb f vl vm vs) (hk:KeepT T w w') (hT:OffForm T):FmM w' B fb f vl vm vs:=by
  obtain⟨cs,hm⟩:=h.m;obtain⟨vis,hr,hi⟩:=h.r;refine⟨hk.2 _ _ _ h.x hT.a,h.hB,own_kT h.l hk hT.b,⟨cs,hm.n,own_kT hm.o hk hT.c,fun k hk'=>?_⟩,⟨vis,hr.kT hk hT,fun k hk'=>?_⟩⟩
  · obtain⟨a,vs,b⟩:=hm.m k hk'
    exact⟨a,vs,b.vl,own_kT b.feet hk hT.d,fun q hq=>own_kT (b.ways q hq) hk hT.e,own_kT b.ends hk hT.e,own_kT b.brks hk hT.f,b.apart⟩
  · obtain⟨vhs,h2⟩:=hi k hk'
    exact⟨vhs,h2.kT hk hT⟩
theorem EachM.kT {T:List Nat} {B fb fx rx:Nat} {f:Fm} {vl vm vs:Value} {n:Int} {vis:List Value} {vhss:Nat→List Value} {W W':World} (h:EachM B fb fx rx f vl vm vs n vis vhss W) (hk:KeepT T W W') (hT:OffForm T):EachM B fb fx rx f vl vm vs n vis vhss W':=
  ⟨h.fm.kT hk hT,hk.2 _ _ _ h.x hT.j,hk.2 _ _ _ h.r hT.i,h.rw.kT hk hT,fun k hk'=>(h.its k hk').kT hk hT⟩
theorem infoDm:Tryz.prog.info? 45=some Tryz.t45:=by kernel_rfl
theorem zeroDm:Tryz.t45.zero=some (.agg zD):=by kernel_rfl
theorem sizeDm:Tryz.t45.size=9:=by kernel_rfl
theorem bytesDm:Tryz.t45.bytes=88:=by kernel_rfl
def ydC (xs:List YD):List Value:=xs.flatMap fun x=>(dmC x.d x.v).toList
theorem ydC_snoc (xs:List YD) (x:YD):ydC (xs++[x])=ydC xs++(dmC x.d x.v).toList:=by unfold ydC;simp
structure DmsM (w:World) (B:Nat) (v:Value) (xs:List YD):Prop where
  o:w.ownsRow B 45 9 v xs.length (ydC xs)
  h:∀x∈xs,w.ownsRow B 3 1 x.v x.d.has.length (intC x.d.has)∧x.d.has.length≤4
theorem DmsM.kT {T:List Nat} {w w':World} {B:Nat} {v:Value} {xs:List YD} (h:DmsM w B v xs) (hk:KeepT T w w') (h1:45∉T) (h2:3∉T):DmsM w' B v xs:=
  ⟨own_kT h.o hk h1,fun x hx=>⟨own_kT (h.h x hx).1 hk h2,(h.h x hx).2⟩⟩
theorem lines_off (B fb:Nat) (f:Fm) (vl vm vs:Value) (n:Int) (w:World) (h:FmM w B fb f vl vm vs) (hn:n<f.least∨f.most<n):
    Calls Tryz.prog 21 #[.pointer (some ⟨fb,0,none⟩),.int .i64 n] w fun e w'=>e=.returned (.tuple #[.slice none 0 0,.int .i64 5])∧w=w':=by
  have Hc:=check_form B fb f vl vm vs n w h;rw[if_pos hn] at Hc;have HC:=qh Hc;clear Hc h hn;go_enter Tryz.func21,Tryz.ntmps21;go_wp2_with fail;refine HC.out.mono ?_;rintro e w2 ⟨rfl,rfl⟩;go_wp2_with fail;go_ret2;exact⟨rfl,rfl⟩
theorem size_form (B fb:Nat) (f:Fm) (vl vm vs:Value) (n:Int) (i:Nat) (w:World) (h:FmM w B fb f vl vm vs) (hk:FmOk f i) (hi:i≤65536):
    Calls Tryz.prog 23 #[.pointer (some ⟨fb,0,none⟩),.int .i64 n] w fun e w'=>e=.returned (if n<f.least∨f.most<n then .tuple #[.int .i64 0,.int .i64 5] else .tuple #[.int .i64 (za6 f.rows n),.int .i64 0])∧Below w.heap.size w w':=by
  have Hc:=check_form B fb f vl vm vs n w h;by_cases hn:n<f.least∨f.most<n
  · rw[if_pos hn] at Hc⊢
    have HC:=qh Hc;clear Hc h hn;go_enter Tryz.func23,Tryz.ntmps23;go_wp2_with fail;refine HC.out.mono ?_;rintro e w2 ⟨rfl,rfl⟩;go_wp2_with fail;go_ret2;exact⟨rfl,qb _ _⟩
  · rw[if_neg hn] at Hc⊢
    have l0:=hk.l0;have m0:=hk.m0;have HL:=qh (h.linesC hk hi n (by omega) (by omega));have HC:=qh Hc;clear Hc h hn;go_enter Tryz.func23,Tryz.ntmps23;go_wp2_with fail;refine HC.out.mono ?_;rintro e w2 ⟨rfl,rfl⟩;go_wp2_with fail;refine HL.out.mono ?_;rintro e w3 ⟨rfl,hb3⟩;go_wp2_with fail;go_ret2;exact⟨rfl,hb3⟩

import Derived.Test.YtgklikkddckgbaaGreatDoorLZL
import Derived.Deep.CutBlock
/- Lemmas. -/
set_option linter.all false
set_option maxRecDepth 100000
set_option maxHeartbeats 16000000
namespace Go.Proofs.YtgklikkddckgbaaGreatDoor
open Go Go.RowKit
section
variable {P:Program} {ops:Array Oper} {Q:Exit->Act->World->Prop} {md:Region.Mode} {S:World->Prop}
theorem yT {i:Nat} {oi:Oper} {v:Value} {fuel:Nat} {listed:Array Bool} {a:Act} {w:World} (hi:ops[i]?=some oi)
    (hb:(Region.noSelect ops&&Region.free md ops listed i&&(Region.ready md ops listed).contains i)=true)
    (hQ:∀c a w,Q (.panic c) (a.put oi.dst v) w->Q (.panic c) a w) (hw:Region.wanted oi (yielded ops a.tmps)=true) (hy:∀w,S w->(execOp a.eval oi).run P w=.ok (.value v) w) (hS:S w)
    (h:wpAnyH P md ops Q S fuel (listed.setIfInBounds i true) (a.put oi.dst v) w):wpAnyH P md ops Q S (fuel+1) listed a w:=by
  simp only[qA] at hb;exact zo hi hb.1.1 hb.1.2 hb.2 hQ (zl ⟨hw,hy⟩) hS h
theorem zpE {fuel:Nat} {listed:Array Bool} {a:Act} {w:World} (h:∀a0,a0=a->wpAnyH P md ops Q S fuel listed a0 w):wpAnyH P md ops Q S fuel listed a w:=h a rfl
theorem vA {rs:List Nat} {fuel:Nat} {listed:Array Bool} {a:Act} {w:World} (hr:Region.ready md ops listed=rs) (hne:rs≠[])
    (h:∀i∈rs,wpOp P ops Q i (λa' w'=>S w'/\wpAnyH P md ops Q S fuel (listed.setIfInBounds i true) a' w') a w):wpAnyH P md ops Q S (fuel+1) listed a w:=wpAnyH_all hr hne h
theorem zoC (keep:∀W W',S W->Below W.heap.size W W'->S W') {fuel i4 i5 i8:Nat} {L:Array Bool} {lc:Array Value} {e:Nat} {n:Nat} {R:Value} {Z9:Value->Prop} (fr:Value->Value->Value->Act)
    (h48:i4≠i8) (JV:i5≠i8)
    (r0:Region.ready md ops L=[i4,i8]) (r4:Region.ready md ops (L.setIfInBounds i4 true)=[i5,i8]) (r8:Region.ready md ops (L.setIfInBounds i8 true)=[i4]) (r45:Region.ready md ops ((L.setIfInBounds i4 true).setIfInBounds i5 true)=[i8]) (r48:Region.ready md ops ((L.setIfInBounds i4 true).setIfInBounds i8 true)=[i5])
    (s4:∀(x4 x5 x8:Value) (W:World) (K:Act->World->Prop),S W->K (fr (.slice (some ⟨W.heap.size,0,none⟩) n n) x5 x8) (W.alloc (.cells lc e))->wpOp P ops Q i4 K (fr x4 x5 x8) W)
    (s5:∀(g:Nat) (x5 x8:Value) (W:World) (K:Act->World->Prop),W.heap[g]?=some (.cells lc e (0,0))->K (fr (.slice (some ⟨g,0,none⟩) n n) R x8) W->wpOp P ops Q i5 K (fr (.slice (some ⟨g,0,none⟩) n n) x5 x8) W)
    (s8:∀(x4 x5 x8:Value) (W:World) (K:Act->World->Prop),S W->(∀v W',Z9 v->Below W.heap.size W W'->K (fr x4 x5 v) W')->wpOp P ops Q i8 K (fr x4 x5 x8) W)
    {x4 x5 x8:Value} {a:Act} {w:World} (ha:a=fr x4 x5 x8) (hS:S w) (hend:∀x4 v W',Z9 v->S W'->wpAnyH P md ops Q S fuel (((L.setIfInBounds i4 true).setIfInBounds i5 true).setIfInBounds i8 true) (fr x4 R v) W'):wpAnyH P md ops Q S (fuel+3) L a w:=by
  subst ha;have hal:∀W:World,S W->S (W.alloc (.cells lc e)):=λW h=>keep W _ h ((qb _ _).alloc (ql _) _);refine vA r0 (by simp) λi hi=>?_;simp only[zi,xj,or_false] at hi;rcases hi with rfl|rfl
  · refine s4 _ _ _ _ _ hS ⟨hal _ hS,?_⟩
    have hg:(w.alloc (.cells lc e)).heap[w.heap.size]?=some (.cells lc e (0,0)):=qn w _;refine vA r4 (by simp) λi hi=>?_;simp only[zi,xj,or_false] at hi;rcases hi with rfl|rfl
    · refine s5 _ _ _ _ _ hg ⟨hal _ hS,?_⟩
      refine vA r45 (by simp) λi hi=>?_;obtain rfl:=zj.1 hi;refine s8 _ _ _ _ _ (hal _ hS) λv W' hv hb=>⟨keep _ _ (hal _ hS) hb,?_⟩;exact hend _ v W' hv (keep _ _ (hal _ hS) hb)
    · refine s8 _ _ _ _ _ (hal _ hS) λv W' hv hb=>⟨keep _ _ (hal _ hS) hb,?_⟩
      refine vA r48 (by simp) λi hi=>?_;obtain rfl:=zj.1 hi;refine s5 _ _ _ _ _ ((hb.block _ (by simp)).trans hg) ⟨keep _ _ (hal _ hS) hb,?_⟩;rw[zJ _ _ JV.symm];exact hend _ v W' hv (keep _ _ (hal _ hS) hb)
  · refine s8 _ _ _ _ _ hS λv W' hv hb=>⟨keep _ _ hS hb,?_⟩
    refine vA r8 (by simp) λi hi=>?_;obtain rfl:=zj.1 hi;refine s4 _ _ _ _ _ (keep _ _ hS hb) ⟨hal _ (keep _ _ hS hb),?_⟩;rw[zJ _ _ h48.symm];refine vA r48 (by simp) λi hi=>?_;obtain rfl:=zj.1 hi;refine s5 _ _ _ _ _ (qn W' _) ⟨hal _ (keep _ _ hS hb),?_⟩;rw[zJ _ _ JV.symm];exact hend _ v _ hv (hal _ (keep _ _ hS hb))
theorem zne (keep:∀W W',S W->Below W.heap.size W W'->S W') {fuel d i4 i5 i8:Nat} {L LJ LJ8:Array Bool} {lc:Array Value} {e:Nat} {n:Nat} {R:Value} {Z9:Value->Prop} (fr:Value->Value->Value->Act) (frJ:Value->Value->Act)
    (h48:i4≠i8) (JV:i5≠i8)
    (r0:Region.ready md ops L=[i4,i8]) (r4:Region.ready md ops (L.setIfInBounds i4 true)=[i5,i8]) (r8:Region.ready md ops (L.setIfInBounds i8 true)=[i4]) (r48:Region.ready md ops ((L.setIfInBounds i4 true).setIfInBounds i8 true)=[i5]) (rJ:Region.ready md ops LJ=[i8]) (lJ:LJ.setIfInBounds i8 true=LJ8)
    (s4:∀(x4 x5 x8:Value) (W:World) (K:Act->World->Prop),S W->K (fr (.slice (some ⟨W.heap.size,0,none⟩) n n) x5 x8) (W.alloc (.cells lc e))->wpOp P ops Q i4 K (fr x4 x5 x8) W)
    (s5:∀(g:Nat) (x5 x8:Value) (W:World) (K:Act->World->Prop),W.heap[g]?=some (.cells lc e (0,0))->K (fr (.slice (some ⟨g,0,none⟩) n n) R x8) W->wpOp P ops Q i5 K (fr (.slice (some ⟨g,0,none⟩) n n) x5 x8) W)
    (s8:∀(x4 x5 x8:Value) (W:World) (K:Act->World->Prop),S W->(∀v W',Z9 v->Below W.heap.size W W'->K (fr x4 x5 v) W')->wpOp P ops Q i8 K (fr x4 x5 x8) W)
    (s8J:∀(x4 x8:Value) (W:World) (K:Act->World->Prop),S W->(∀v W',Z9 v->Below W.heap.size W W'->K (frJ x4 v) W')->wpOp P ops Q i8 K (frJ x4 x8) W)
    (t1:∀(x4 x8:Value) (W:World),S W->wpAnyH P md ops Q S (fuel+1) LJ (frJ x4 x8) W->wpAnyH P md ops Q S (fuel+d+1) ((L.setIfInBounds i4 true).setIfInBounds i5 true) (fr x4 R x8) W)
    (t2:∀(x4 x8:Value) (W:World),S W->wpAnyH P md ops Q S fuel LJ8 (frJ x4 x8) W->wpAnyH P md ops Q S (fuel+d) (((L.setIfInBounds i4 true).setIfInBounds i5 true).setIfInBounds i8 true) (fr x4 R x8) W)
    {x4 x5 x8:Value} {a:Act} {w:World} (ha:a=fr x4 x5 x8) (hS:S w) (hend:∀x4 v W',Z9 v->S W'->wpAnyH P md ops Q S fuel LJ8 (frJ x4 v) W'):wpAnyH P md ops Q S (fuel+d+3) L a w:=by
  subst ha;have hal:∀W:World,S W->S (W.alloc (.cells lc e)):=λW h=>keep W _ h ((qb _ _).alloc (ql _) _);refine vA r0 (by simp) λi hi=>?_;simp only[zi,xj,or_false] at hi;rcases hi with rfl|rfl
  · refine s4 _ _ _ _ _ hS ⟨hal _ hS,?_⟩
    have hg:(w.alloc (.cells lc e)).heap[w.heap.size]?=some (.cells lc e (0,0)):=qn w _;refine vA r4 (by simp) λi hi=>?_;simp only[zi,xj,or_false] at hi;rcases hi with rfl|rfl
    · refine s5 _ _ _ _ _ hg ⟨hal _ hS,?_⟩
      refine t1 _ _ _ (hal _ hS) ?_;refine vA rJ (by simp) λi hi=>?_;obtain rfl:=zj.1 hi;refine s8J _ _ _ _ (hal _ hS) λv W' hv hb=>⟨keep _ _ (hal _ hS) hb,?_⟩;rw[lJ];exact hend _ v W' hv (keep _ _ (hal _ hS) hb)
    · refine s8 _ _ _ _ _ (hal _ hS) λv W' hv hb=>⟨keep _ _ (hal _ hS) hb,?_⟩
      refine vA r48 (by simp) λi hi=>?_;obtain rfl:=zj.1 hi;refine s5 _ _ _ _ _ ((hb.block _ (by simp)).trans hg) ⟨keep _ _ (hal _ hS) hb,?_⟩;rw[zJ _ _ JV.symm];exact t2 _ _ _ (keep _ _ (hal _ hS) hb) (hend _ v W' hv (keep _ _ (hal _ hS) hb))
  · refine s8 _ _ _ _ _ hS λv W' hv hb=>⟨keep _ _ hS hb,?_⟩
    refine vA r8 (by simp) λi hi=>?_;obtain rfl:=zj.1 hi;refine s4 _ _ _ _ _ (keep _ _ hS hb) ⟨hal _ (keep _ _ hS hb),?_⟩;rw[zJ _ _ h48.symm];refine vA r48 (by simp) λi hi=>?_;obtain rfl:=zj.1 hi;refine s5 _ _ _ _ _ (qn W' _) ⟨hal _ (keep _ _ hS hb),?_⟩;rw[zJ _ _ JV.symm];exact t2 _ _ _ (hal _ (keep _ _ hS hb)) (hend _ v _ hv (hal _ (keep _ _ hS hb)))
end
end Go.Proofs.YtgklikkddckgbaaGreatDoor
namespace Go.Proofs.YtgklikkddckgbaaGreatDoor.Mo
open Go.RowKit
theorem zoL (w:World) (a b:UInt8) (x y:Int) (hx:(a.toNat:Int)=x) (hy:(b.toNat:Int)=y):Sem.run Tryz.prog (convert 25 9 (.slice (some ⟨w.heap.size,0,none⟩) 2 2)) (w.alloc (.cells #[.int .u8 x,.int .u8 y] 5))=.ok (.string ⟨#[a,b]⟩) (w.alloc (.cells #[.int .u8 x,.int .u8 y] 5)):=by
  subst hx hy;refine zz _ _ _ _ ⟨w.heap.size,0,none⟩ 2 [a,b] qX qV qN (λj hj=>?_);match j,hj with
  |0,_=>exact qc _ _ 0 _ _ (0,0) (qn w _)
  |1,_=>exact qc _ _ 1 _ _ (0,0) (qn w _)
theorem zpF (w:World) (b:UInt8) (x:Int) (hx:(b.toNat:Int)=x):Sem.run Tryz.prog (convert 25 9 (.slice (some ⟨w.heap.size,0,none⟩) 1 1)) (w.alloc (.cells #[.int .u8 x] 5)).drew=.ok (.string ⟨#[b]⟩) (w.alloc (.cells #[.int .u8 x] 5)).drew:=by
  subst hx;refine zz _ _ _ _ ⟨w.heap.size,0,none⟩ 1 [b] qX qV qN (λj hj=>?_);obtain rfl:j=0:=by simpa using hj
  exact qc _ _ 0 _ _ (0,0) (qn w _)
theorem zmS:∀c:Nat,c<25->((Lib.upperB (vO (c:Int))).toNat:Int)=IntKind.u8.wrap (IntKind.u8.wrap ((vO (c:Int)).toNat-97)+65):=by decide+kernel
theorem zpU:∀n:Nat,n<128->IntKind.u8.wrap (n:Int)=n:=by decide+kernel
theorem zti:Hid (∀(i:Nat) (h:i<(⟨#[58,47,94,64,126,39]⟩:ByteArray).size),(((⟨#[58,47,94,64,126,39]⟩:ByteArray)[i]).toNat:Int)=Ul.getD i 0):=qh (by
  intro i h;have h6:i<6:=h;match i,h6 with
  |0,_=>rfl
  |1,_=>rfl
  |2,_=>rfl
  |3,_=>rfl
  |4,_=>rfl
  |5,_=>rfl)
theorem zoD (x:It) (B:Nat) (vm:Value) (w:World) (hx:uy x) (hre:x.cls<0->x.ref=0) (hm:Qy w B vm x.gP):
    Calls Tryz.prog 55 #[.agg #[.int .i64 x.cls,.int .i64 x.ref,vm,.int .i64 x.at_]] w λe w'=>∃T:ByteArray,e=.returned (.string T)/\T.data.toList=zm9 x/\Below w.heap.size w w':=by
  have hn9:=zoz hx;obtain⟨cls,ref,ms,at_⟩:=x;have hcl:=hx.cl;have hrf:=hx.rf;have hmk:=hx.mks;simp only[] at hcl hrf hmk hm hn9 hre|-;obtain⟨Am,cm,rfl⟩:=pJ (show w.ownsRow B 101 3 vm ms.length (uz ms) from hm);have KF:=qh (λ(k:Nat) (hk:k<ms.length)=>Qy.row hm hk);obtain⟨W1,hW1⟩:∃W1,w.alloc (.cells #[.int .i64 cls,.int .i64 ref,.slice Am ms.length cm,.int .i64 at_] 99)=W1:=⟨_,rfl⟩;have hb1:Below w.heap.size w W1:=by rw[<-hW1];exact(qb _ _).alloc (ql _) _
  have hx1:W1.heap[w.heap.size]?=some (.cells #[.int .i64 cls,.int .i64 ref,.slice Am ms.length cm,.int .i64 at_] 99 (0,0)):=by rw[<-hW1];exact qn w _
  have HW1:=qh hW1;have Hb1:=qh hb1;have Hx1:=qh hx1;have VM:=qh hmk;have Hre:=qh hre;have q0:W1.cell? ⟨w.heap.size,0,none⟩=some (.int .i64 cls):=qc _ _ 0 _ _ (0,0) hx1;have q1:W1.cell? ⟨w.heap.size,1,none⟩=some (.int .i64 ref):=qc _ _ 1 _ _ (0,0) hx1;have hwb:w.heap.size<W1.heap.size:=(qg hx1).1;clear hm hx1 hx hW1 hb1 hmk hre;go_enter Tryz.func55,Tryz.ntmps55;go_upto_region 2 with(fail)
  rw[HW1.out];go_upto_if 10 with(fail)
  go_cut [3] from 10 to 16 (λv3 wx=>∃S:ByteArray,v3=.string S/\Hid (S.data.toList=(if 0<=cls then [vO cls] else [120]))/\W1=wx)
  case first=>
   by_cases h0:0<=cls
   · have g0:decide (cls>=0)=true:=qt h0
     obtain⟨c,rfl⟩:∃c:Nat,cls=(c:Int):=⟨cls.toNat,by omega⟩;have Hl:=qh (zn7 c (by omega)).1;have H0:=qh h0;have c25:c<25:=(by omega);clear h0 hcl;go_wp2_with fail;go_meet
     exact⟨_,rfl,qh (by rw[qy H0.out];exact Hl.out),rfl⟩
   · have g0:decide (cls>=0)=false:=qd h0
     have H0:=qh h0;clear h0;go_wp2_with fail;go_meet
     exact⟨_,rfl,qh (by rw[qx (by have:=H0.out;omega)]),rfl⟩
  obtain⟨S0,rfl,hS0,rfl⟩:=hcut;go_upto_if 19 with(fail)
  have hS1:S0.size=1:=by rw[uu hS0.out];split<;>rfl
  have HI:Hid (∀(n:Nat) W,n<=1000000->Calls Tryz.prog 54 #[.int .i64 (n:Int)] W λe w'=>∃T:ByteArray,e=.returned (.string T)/\T.data.toList=Lib.itoa (n:Int)/\T.size<=22/\Below W.heap.size W w'):=qh (λn W h=>gG n W h);go_cut [3] from 17 to 29 (λv3 wx=>∃S:ByteArray,v3=.string S/\Hid (S.data.toList=gj ⟨cls,ref,ms,at_⟩/\S.size<=30)/\Hid (Below W1.heap.size W1 wx))
  case first=>
   by_cases h0:0<ref
   · have g0:decide (ref>0)=true:=qt h0
     obtain⟨r,rfl⟩:∃r:Nat,ref=(r:Int):=⟨ref.toNat,by omega⟩;by_cases h1:0<=cls
     · obtain⟨c,rfl⟩:∃c:Nat,cls=(c:Int):=⟨cls.toNat,by omega⟩
       have e0:S0=⟨#[vO (c:Int)]⟩:=by
         apply kN;apply xh.1;rw[hS0.out,qy h1]
       subst e0;have hC:∀W:World,Sem.run Tryz.prog (convert 25 9 (.slice (some ⟨W.heap.size,0,none⟩) 1 1)) (W.alloc (.cells #[.int .u8 (IntKind.u8.wrap (IntKind.u8.wrap ((⟨#[vO (c:Int)]⟩:ByteArray)[0].toNat-97)+65))] 5))=.ok (.string ⟨#[Lib.upperB (vO (c:Int))]⟩) (W.alloc (.cells #[.int .u8 (IntKind.u8.wrap (IntKind.u8.wrap ((⟨#[vO (c:Int)]⟩:ByteArray)[0].toNat-97)+65))] 5)):=λW=>zmQ W _ _ (zmS c (by omega));have hD:∀W:World,Sem.run Tryz.prog (convert 25 9 (.slice (some ⟨W.heap.size,0,none⟩) 1 1)) (W.alloc (.cells #[.int .u8 (IntKind.u8.wrap (IntKind.u8.wrap ((⟨#[vO (c:Int)]⟩:ByteArray)[0].toNat-97)+65))] 5)).drew=.ok (.string ⟨#[Lib.upperB (vO (c:Int))]⟩) (W.alloc (.cells #[.int .u8 (IntKind.u8.wrap (IntKind.u8.wrap ((⟨#[vO (c:Int)]⟩:ByteArray)[0].toNat-97)+65))] 5)).drew:=λW=>zpF W _ _ (zmS c (by omega))
       have HE:Hid (∀W:World,W.cell? ⟨W1.heap.size,0,none⟩=some (.int .u8 (IntKind.u8.wrap (IntKind.u8.wrap ((⟨#[vO (c:Int)]⟩:ByteArray)[0].toNat-97)+65)))->Sem.run Tryz.prog (convert 25 9 (.slice (some ⟨W1.heap.size,0,none⟩) 1 1)) W=.ok (.string ⟨#[Lib.upperB (vO (c:Int))]⟩) W):=qh (λW hW=>by
         refine zz _ _ _ _ ⟨W1.heap.size,0,none⟩ 1 [Lib.upperB (vO (c:Int))] qX qV qN (λj hj=>?_);obtain rfl:j=0:=by simpa using hj
         exact hW.trans (congrArg (λv=>some (Value.int .u8 v)) (zmS c (by omega)).symm))
       have HIr:Hid (∀W,Calls Tryz.prog 54 #[.int .i64 (r:Int)] W λe w'=>∃T:ByteArray,e=.returned (.string T)/\T.data.toList=Lib.itoa (r:Int)/\T.size<=22/\Below W.heap.size W w'):=qh (λW=>HI.out r W (by omega));go_upto_region 5 with(fail)
       refine js (S:=λw'=>Below W1.heap.size W1 w'/\∀b o,b<W1.heap.size->w'.cell? ⟨b,o,none⟩=W1.cell? ⟨b,o,none⟩) (by kernel_rfl) pa (λhHeld=>?_);refine yT (i:=0) (v:=?_) rfl (by kernel_rfl) (λ_ _ _ h=>h) (by rfl) ?_ hHeld ?_;rotate_left
       · intro w hSw
         obtain⟨hS1,hS2⟩:=hSw;go_simp;try with_reducible rfl
       simp only[Act.put,qu,qr,qq,qe,qp,qk];refine yT (i:=1) (v:=?_) rfl (by kernel_rfl) (λ_ _ _ h=>h) (by rfl) ?_ hHeld ?_;rotate_left
       · intro w hSw
         obtain⟨hS1,hS2⟩:=hSw;go_simp;try with_reducible rfl
       simp only[Act.put,qu,qr,qq,qe,qp,qk];refine yT (i:=2) (v:=?_) rfl (by kernel_rfl) (λ_ _ _ h=>h) (by rfl) ?_ hHeld ?_;rotate_left
       · intro w hSw
         obtain⟨hS1,hS2⟩:=hSw;go_simp;try with_reducible rfl
       simp only[Act.put,qu,qr,qq,qe,qp,qk];refine yT (i:=3) (v:=?_) rfl (by kernel_rfl) (λ_ _ _ h=>h) (by rfl) ?_ hHeld ?_;rotate_left
       · intro w hSw
         obtain⟨hS1,hS2⟩:=hSw;go_simp;try with_reducible rfl
       simp only[Act.put,qu,qr,qq,qe,qp,qk];refine yT (i:=6) (v:=?_) rfl (by kernel_rfl) (λ_ _ _ h=>h) (by rfl) ?_ hHeld ?_;rotate_left
       · intro w hSw
         obtain⟨hS1,hS2⟩:=hSw;go_simp;try with_reducible rfl
       simp only[Act.put,qu,qr,qq,qe,qp,qk];refine yT (i:=7) (v:=?_) rfl (by kernel_rfl) (λ_ _ _ h=>h) (by rfl) ?_ hHeld ?_;rotate_left
       · intro w hSw
         obtain⟨hS1,hS2⟩:=hSw;go_simp;try with_reducible rfl
       simp only[Act.put,qu,qr,qq,qe,qp,qk];refine zpE λa0 ha0=>?_
       refine zoC (i4:=4) (i5:=5) (i8:=8) (e:=5) (n:=1) (lc:=#[.int .u8 (IntKind.u8.wrap (IntKind.u8.wrap ((⟨#[vO (c:Int)]⟩:ByteArray)[0].toNat-97)+65))]) (R:=.string ⟨#[Lib.upperB (vO (c:Int))]⟩) (Z9:=λv=>∃T:ByteArray,v=.string T/\T.data.toList=Lib.itoa (r:Int)/\T.size<=22)
         (λW W' h hb=>JK hb h) (λx4 x5 x8=>{a0 with tmps:=((a0.tmps.setIfInBounds 24 x4).setIfInBounds 25 x5).setIfInBounds 28 x8}) (by decide) (by decide) (by kernel_rfl) (by kernel_rfl) (by kernel_rfl) (by kernel_rfl) (by kernel_rfl) ?s4 ?s5 ?s8 (x4:=undef) (x5:=undef) (x8:=undef) (by subst ha0;rfl) hHeld ?hend
       case s4=>
         intro x4 x5 x8 W K hS hK;subst ha0;simp only[qe,qp,qk] at hK|-;refine Kf rfl rfl (VZ (v:=.slice (some ⟨W.heap.size,0,none⟩) 1 1) (w':=W.alloc (.cells #[.int .u8 (IntKind.u8.wrap (IntKind.u8.wrap ((⟨#[vO (c:Int)]⟩:ByteArray)[0].toNat-97)+65))] 5)) (by go_simp;try rfl) ?_);simp only[Act.put,qe,qp,qk];exact hK
       case s5=>
         intro g x5 x8 W K hg hK;subst ha0;simp only[qe,qp,qk] at hK|-
         have hc:Sem.run Tryz.prog (convert 25 9 (.slice (some ⟨g,0,none⟩) 1 1)) W=.ok (.string ⟨#[Lib.upperB (vO (c:Int))]⟩) W:=by
           refine zz _ _ _ _ ⟨g,0,none⟩ 1 [Lib.upperB (vO (c:Int))] qX qV qN (λj hj=>?_);obtain rfl:j=0:=by simpa using hj
           exact(qc _ _ 0 _ _ (0,0) hg).trans (congrArg (λv=>some (Value.int .u8 v)) (zmS c (by omega)).symm)
         refine Kf rfl rfl (VZ (v:=.string ⟨#[Lib.upperB (vO (c:Int))]⟩) (w':=W) (by go_simp;try rfl) ?_);simp only[Act.put,qe,qp,qk];exact hK
       case s8=>
         intro x4 x5 x8 W K hS hK;subst ha0;simp only[qe,qp,qk] at hK|-;refine Kf rfl rfl ?_;go_simp;go_at_call 54
         refine(HIr.out _).mono ?_;rintro e w9 ⟨T,rfl,hT,hTs,pb⟩;have hK2:=hK _ _ ⟨T,rfl,hT,hTs⟩ pb;simp only[Act.put,qe,qp,qk] at hK2|-;have g9:decide (0<r)=true:=qt (by omega);have g8:decide ((0:Int)<(r:Int))=true:=qt (by omega);simp only[g8,g9] at hK2|-;exact hK2
       case hend=>
         rintro x4 v W' ⟨T,rfl,hT,hTs⟩ hHeld;subst ha0;have hUT:¬(9223372036854775807<1+T.size):=(by omega);simp only[qe,qp,qk];refine yT (i:=9) (v:=?_) rfl (by kernel_rfl) (λ_ _ _ h=>h) (by rfl) ?_ hHeld ?_;rotate_left
         · intro w hSw
           obtain⟨hS1,hS2⟩:=hSw;go_simp;try with_reducible rfl
         simp only[Act.put,qu,qr,qq,qe,qp,qk];refine yT (i:=10) (v:=?_) rfl (by kernel_rfl) (λ_ _ _ h=>h) (by rfl) ?_ hHeld ?_;rotate_left
         · intro w hSw
           obtain⟨hS1,hS2⟩:=hSw;go_simp;try with_reducible rfl
         simp only[Act.put,qu,qr,qq,qe,qp,qk];refine yH (by kernel_rfl) ?_ _;have Va:=qh hHeld.1;have HT9:=qh (qY hT hTs);clear hHeld hT hTs;go_wp2_with fail;go_meet
         exact⟨_,rfl,qh ⟨by rw[qH,qL,HT9.out.1];unfold gj;simp only[];rw[qy h1,qy h0];rfl,by rw[qR];have:=HT9.out.2;show 1+T.size<=30;omega⟩,Va⟩
     · exact absurd (Hre.out (by omega)) (by omega)
   · have g0:decide (ref>0)=false:=qd h0
     have H0:=qh h0;clear h0;go_wp2_with fail;go_meet
     exact⟨_,rfl,qh ⟨by rw[hS0.out];unfold gj;simp only[];rw[qx (show¬0<ref by have:=H0.out;omega)],by omega⟩,qh (qb _ _)⟩
  obtain⟨S1,rfl,hS,hb⟩:=hcut;obtain⟨wA,hwA⟩:∃W:World,W=wc:=⟨_,rfl⟩;subst hwA;clear q0 q1;have Hsg:=zti;go_upto_block 0 with fail
  generalize hSB:(⟨#[58,47,94,64,126,39]⟩:ByteArray)=SB at*;have hSz:SB.size=6:=by rw[<-hSB];rfl
  clear hSB;go_wp2_with fail;go_loopw [3,5,6,7] (λv3 v5 v6 v7 wr=>∃(i:Nat) (S:ByteArray),i<=6/\v5=.int .i64 i/\v3=.string S/\Hid (S.data.toList=uJ ⟨cls,ref,ms,at_⟩ i 0/\S.size<=30+300*i)/\Hid (Below W1.heap.size W1 wr)) (λ_ v5 _ _ _=>6-(intOf v5).toNat)
  case atStart=>exact⟨0,S1,by omega,rfl,rfl,qh ⟨by rw[zoy];exact hS.out.1,by have:=hS.out.2;omega⟩,hb⟩
  case round=>
   obtain⟨wo,hwo⟩:∃W:World,W=wr:=⟨_,rfl⟩;subst hwo;obtain⟨i,S,hi,rfl,rfl,hSi,hbo⟩:=hrel;by_cases hlt:i<6
   · have hi1:i<SB.size:=by omega
     have d1:decide ((i:Int)<6)=true:=qt (by omega);go_wp2_with fail;try simp only[d1]
     go_loopw [3,6,7] (λv3 v6 v7 wr=>∃(k:Nat) (S2:ByteArray),k<=ms.length/\v6=.int .i64 k/\v3=.string S2/\Hid (S2.data.toList=uJ ⟨cls,ref,ms,at_⟩ i k/\S2.size<=30+300*i+30*k)/\Hid (Below W1.heap.size W1 wr)) (λ_ v6 _ _=>ms.length-(intOf v6).toNat)
     case atStart=>exact⟨0,S,by omega,rfl,rfl,qh ⟨hSi.out.1,by have:=hSi.out.2;omega⟩,hbo⟩
     case round=>
       obtain⟨wi,hwi⟩:∃W:World,W=wr:=⟨_,rfl⟩;subst hwi;obtain⟨k,S2,hk,rfl,rfl,hS2,hbi⟩:=hrel;have q2:wi.cell? ⟨w.heap.size,2,none⟩=some (.slice Am ms.length cm):=qc _ _ 2 _ _ (0,0) (ub Hx1.out hbi.out);by_cases hkl:k<ms.length
       · obtain⟨g,rfl,hg,hc0,hc1,hc2⟩:=KF.out k hkl
         have hbw:=yU Hb1.out hbi.out;have r0:=(hbw.cell (p:=⟨g,k*3,none⟩) hg).trans hc0;have r1:=(hbw.cell (p:=⟨g,k*3+1,none⟩) hg).trans hc1;have r2:=(hbw.cell (p:=⟨g,k*3+2,none⟩) hg).trans hc2;have hmk:=VM.out (ms.getD k ZQ) (by rw[qj,qz hkl];exact qM hkl);have Zk:=qh (zo1 ⟨cls,ref,ms,at_⟩ i k hkl);have hsg:=Hsg.out i hi1;have hsm:Hid (S2.size<=30+300*i+30*k):=qh hS2.out.2;clear hc0 hc1 hc2 hbw;simp only[] at Zk;generalize ms.getD k ZQ=m at*;obtain⟨sg,n,a1⟩:=m;have HMk:=qh hmk;simp only[] at r0 r1 r2 hmk;go_upto_region 14 with(fail)
         obtain⟨Wm,hWm⟩:∃Wm,wi.alloc (.cells #[.int .u8 sg,.int .i64 n,.int .i64 a1] 101)=Wm:=⟨_,rfl⟩;rw[hWm];have hbm:Below W1.heap.size W1 Wm:=(by rw[<-hWm];exact hbi.out.alloc hbi.out.size _);have hxm:Wm.heap[wi.heap.size]?=some (.cells #[.int .u8 sg,.int .i64 n,.int .i64 a1] 101 (0,0)):=(by rw[<-hWm];exact qn wi _);have m0:Wm.cell? ⟨wi.heap.size,0,none⟩=some (.int .u8 sg):=qc _ _ 0 _ _ (0,0) hxm;have m1:Wm.cell? ⟨wi.heap.size,1,none⟩=some (.int .i64 n):=qc _ _ 1 _ _ (0,0) hxm;have hwm:wi.heap.size<Wm.heap.size:=(qg hxm).1;have Hbm:=qh hbm;clear q2 r0 r1 r2 hWm hbm hxm;have i1:(0:Int)<=(i:Int):=(by omega);have i2:(i:Int)<(SB.size:Int):=(by omega);have i3:(i:Int)<6:=(by omega);clear d1;by_cases he:sg=Ul.getD i 0
         · have e1:(sg !=((SB[i]'hi1).toNat:Int))=false:=by rw[hsg];simpa using he
           have e0:(sg==((SB[i]'hi1).toNat:Int))=true:=(by rw[hsg];simpa using he);have Un:Hid (uJ ⟨cls,ref,ms,at_⟩ i (k+1)=uJ ⟨cls,ref,ms,at_⟩ i k++mkT ⟨sg,n,a1⟩):=qh (by rw[Zk.out,qy he]);clear he hsg;go_wp2_with fail;go_quiet (fail)
           have n0:(Wm.drewN nq).cell? ⟨wi.heap.size,0,none⟩=some (.int .u8 sg):=m0;have n1:(Wm.drewN nq).cell? ⟨wi.heap.size,1,none⟩=some (.int .i64 n):=m1;have hbq:=Xg Hbm.out nq;obtain⟨Wq,hWq⟩:∃Wq,Wm.drewN nq=Wq:=⟨_,rfl⟩;rw[hWq] at n0 n1 hbq|-;have hwq:wi.heap.size<Wq.heap.size:=(by rw[<-hWq];exact hwm);have Hbq:=qh hbq;clear hWq m0 m1 e0 e1 hbq;by_cases hl:sg=58∨sg=39
           · have hlt2:97<=n/\n<=122:=hmk.lt hl
             have hw8:IntKind.u8.wrap n=n:=by
               obtain⟨n',rfl⟩:∃n':Nat,n=(n':Int):=⟨n.toNat,by omega⟩;exact zpU n' (by omega)
             have hz:¬(9223372036854775807<S2.size+2):=by have:=hsm.out;omega
             have hn8:((UInt8.ofNat n.toNat).toNat:Int)=n:=by
               have:(UInt8.ofNat n.toNat).toNat=n.toNat%256:=rfl;rw[this];omega
             rcases hl with rfl|rfl
             · have hC:∀W:World,Sem.run Tryz.prog (convert 25 9 (.slice (some ⟨W.heap.size,0,none⟩) 2 2)) (W.alloc (.cells #[.int .u8 58,.int .u8 n] 5))=.ok (.string ⟨#[58,UInt8.ofNat n.toNat]⟩) (W.alloc (.cells #[.int .u8 58,.int .u8 n] 5)):=λW=>zoL W 58 _ _ _ rfl hn8
               go_wp2_with fail;go_roundw
               case rel=>exact⟨k+1,S2++⟨#[58,UInt8.ofNat n.toNat]⟩,by omega,by go_num,rfl,qh ⟨by rw[Un.out,qH,qL,hS2.out.1];rfl,by rw[qR];have:=hsm.out;show S2.size+2<=_;omega⟩,qh (Hbq.out.alloc Hbq.out.size _)⟩
               case measure=>simp[intOf];omega
             · have hC:∀W:World,Sem.run Tryz.prog (convert 25 9 (.slice (some ⟨W.heap.size,0,none⟩) 2 2)) (W.alloc (.cells #[.int .u8 39,.int .u8 n] 5))=.ok (.string ⟨#[39,UInt8.ofNat n.toNat]⟩) (W.alloc (.cells #[.int .u8 39,.int .u8 n] 5)):=λW=>zoL W 39 _ _ _ rfl hn8
               go_wp2_with fail;go_roundw
               case rel=>exact⟨k+1,S2++⟨#[39,UInt8.ofNat n.toNat]⟩,by omega,by go_num,rfl,qh ⟨by rw[Un.out,qH,qL,hS2.out.1];rfl,by rw[qR];have:=hsm.out;show S2.size+2<=_;omega⟩,qh (Hbq.out.alloc Hbq.out.size _)⟩
               case measure=>simp[intOf];omega
           · have f58:(sg==58)=false:=by simp;omega
             have f39:(sg==39)=false:=(by simp;omega);have hnm:1<=n/\n<=512:=hmk.nm (λe=>hl (.inl e)) (λe=>hl (.inr e));obtain⟨n,rfl⟩:∃n':Nat,n=(n':Int):=⟨n.toNat,by omega⟩
             obtain⟨sb,hsb⟩:∃b:UInt8,((b.toNat:Nat):Int)=sg:=⟨UInt8.ofNat sg.toNat,by
               have:(UInt8.ofNat sg.toNat).toNat=sg.toNat%256:=rfl;have:sg=58∨sg=47∨sg=94∨sg=64∨sg=126∨sg=39:=hmk.sg;omega⟩
             have HIr:Hid (∀W,Calls Tryz.prog 54 #[.int .i64 (n:Int)] W λe w'=>∃T:ByteArray,e=.returned (.string T)/\T.data.toList=Lib.itoa (n:Int)/\T.size<=22/\Below W.heap.size W w'):=qh (λW=>HI.out n W (by omega));have Hsb:=qh hsb;have hz1:¬(9223372036854775807<S2.size+1):=(by have:=hsm.out;omega);go_upto_region 17 with(fail)
             refine js (S:=λw'=>Below Wq.heap.size Wq w'/\∀b o,b<Wq.heap.size->w'.cell? ⟨b,o,none⟩=Wq.cell? ⟨b,o,none⟩) (by kernel_rfl) pa (λhHeld=>?_);refine yT (i:=0) (v:=?_) rfl (by kernel_rfl) (λ_ _ _ h=>h) (by rfl) ?_ hHeld ?_;rotate_left
             · intro w hSw
               obtain⟨hS1,hS2⟩:=hSw;go_simp;try with_reducible rfl
             simp only[Act.put,qu,qr,qq,qe,qp,qk];refine yT (i:=1) (v:=?_) rfl (by kernel_rfl) (λ_ _ _ h=>h) (by rfl) ?_ hHeld ?_;rotate_left
             · intro w hSw
               obtain⟨hS1,hS2⟩:=hSw;go_simp;try with_reducible rfl
             simp only[Act.put,qu,qr,qq,qe,qp,qk];refine yT (i:=2) (v:=?_) rfl (by kernel_rfl) (λ_ _ _ h=>h) (by rfl) ?_ hHeld ?_;rotate_left
             · intro w hSw
               obtain⟨hS1,hS2⟩:=hSw;go_simp;try with_reducible rfl
             simp only[Act.put,qu,qr,qq,qe,qp,qk];refine yT (i:=6) (v:=?_) rfl (by kernel_rfl) (λ_ _ _ h=>h) (by rfl) ?_ hHeld ?_;rotate_left
             · intro w hSw
               obtain⟨hS1,hS2⟩:=hSw;go_simp;try with_reducible rfl
             simp only[Act.put,qu,qr,qq,qe,qp,qk];refine yT (i:=7) (v:=?_) rfl (by kernel_rfl) (λ_ _ _ h=>h) (by rfl) ?_ hHeld ?_;rotate_left
             · intro w hSw
               obtain⟨hS1,hS2⟩:=hSw;go_simp;try with_reducible rfl
             simp only[Act.put,qu,qr,qq,qe,qp,qk];refine zpE λa0 ha0=>?_
             refine zne (fuel:=2) (d:=1) (i4:=3) (i5:=4) (i8:=8) (LJ:=#[true,true,true,true,true,true,true,true,false,false,false]) (LJ8:=#[true,true,true,true,true,true,true,true,true,false,false]) (e:=5) (n:=1) (lc:=#[.int .u8 sg]) (R:=.string ⟨#[sb]⟩) (Z9:=λv=>∃T:ByteArray,v=.string T/\T.data.toList=Lib.itoa (n:Int)/\T.size<=22)
               (λW W' h hb=>JK hb h) (λx4 x5 x8=>{a0 with tmps:=((a0.tmps.setIfInBounds 74 x4).setIfInBounds 75 x5).setIfInBounds 79 x8}) (λx4 x8=>{a0 with tmps:=(((a0.tmps.setIfInBounds 74 x4).setIfInBounds 75 (.string ⟨#[sb]⟩)).setIfInBounds 76 (.string (S2++⟨#[sb]⟩))).setIfInBounds 79 x8}) (by decide) (by decide) (by kernel_rfl) (by kernel_rfl) (by kernel_rfl) (by kernel_rfl) (by kernel_rfl) (by kernel_rfl) ?s4 ?s5 ?s8 ?s8J ?t1 ?t2 (x4:=a0.tmps.getD 74 undef) (x5:=a0.tmps.getD 75 undef) (x8:=a0.tmps.getD 79 undef) (by subst ha0;rfl) hHeld ?hend
             case s4=>
               intro x4 x5 x8 W K hS hK;subst ha0;simp only[qe,qp,qk] at hK|-;refine Kf rfl rfl (VZ (v:=.slice (some ⟨W.heap.size,0,none⟩) 1 1) (w':=W.alloc (.cells #[.int .u8 sg] 5)) (by go_simp;try rfl) ?_);simp only[Act.put,qe,qp,qk];exact hK
             case s5=>
               intro g x5 x8 W K hg hK;subst ha0;simp only[qe,qp,qk] at hK|-
               have hc:Sem.run Tryz.prog (convert 25 9 (.slice (some ⟨g,0,none⟩) 1 1)) W=.ok (.string ⟨#[sb]⟩) W:=by
                 refine zz _ _ _ _ ⟨g,0,none⟩ 1 [sb] qX qV qN (λj hj=>?_);obtain rfl:j=0:=by simpa using hj
                 exact(qc _ _ 0 _ _ (0,0) hg).trans (congrArg (λv=>some (Value.int .u8 v)) Hsb.out.symm)
               refine Kf rfl rfl (VZ (v:=.string ⟨#[sb]⟩) (w':=W) (by go_simp;try rfl) ?_);simp only[Act.put,qe,qp,qk];exact hK
             case s8=>
               intro x4 x5 x8 W K hS hK;subst ha0;simp only[qe,qp,qk] at hK|-;refine Kf rfl rfl ?_;go_simp;go_at_call 54
               refine(HIr.out _).mono ?_;rintro e w9 ⟨T,rfl,hT,hTs,pb⟩;have hK2:=hK _ _ ⟨T,rfl,hT,hTs⟩ pb;simp only[Act.put,qe,qp,qk] at hK2|-;exact hK2
             case s8J=>
               intro x4 x8 W K hS hK;subst ha0;simp only[qe,qp,qk] at hK|-;refine Kf rfl rfl ?_;go_simp;go_at_call 54
               refine(HIr.out _).mono ?_;rintro e w9 ⟨T,rfl,hT,hTs,pb⟩;have hK2:=hK _ _ ⟨T,rfl,hT,hTs⟩ pb;simp only[Act.put,qe,qp,qk] at hK2|-;exact hK2
             case t1=>
               intro x4 x8 W hHeld hk;subst ha0;simp only[qe,qp,qk] at hk|-;refine yT (i:=5) (v:=?_) rfl (by kernel_rfl) (λ_ _ _ h=>h) (by rfl) ?_ hHeld ?_;rotate_left
               · intro w hSw
                 obtain⟨hS1,hS2⟩:=hSw;go_simp;try with_reducible rfl
               simp only[Act.put,qu,qr,qq,qe,qp,qk];exact hk
             case t2=>
               intro x4 x8 W hHeld hk;subst ha0;simp only[qe,qp,qk] at hk|-;refine yT (i:=5) (v:=?_) rfl (by kernel_rfl) (λ_ _ _ h=>h) (by rfl) ?_ hHeld ?_;rotate_left
               · intro w hSw
                 obtain⟨hS1,hS2⟩:=hSw;go_simp;try with_reducible rfl
               simp only[Act.put,qu,qr,qq,qe,qp,qk];exact hk
             case hend=>
               rintro x4 v W' ⟨T,rfl,hT,hTs⟩ hHeld;subst ha0;have hUT:¬(9223372036854775807<S2.size+1+T.size):=(by have:=hsm.out;omega);simp only[qe,qp,qk];refine yT (i:=9) (v:=?_) rfl (by kernel_rfl) (λ_ _ _ h=>h) (by rfl) ?_ hHeld ?_;rotate_left
               · intro w hSw
                 obtain⟨hS1,hS2⟩:=hSw;go_simp;try with_reducible rfl
               simp only[Act.put,qu,qr,qq,qe,qp,qk];refine yT (i:=10) (v:=?_) rfl (by kernel_rfl) (λ_ _ _ h=>h) (by rfl) ?_ hHeld ?_;rotate_left
               · intro w hSw
                 obtain⟨hS1,hS2⟩:=hSw;go_simp;try with_reducible rfl
               simp only[Act.put,qu,qr,qq,qe,qp,qk];refine yH (by kernel_rfl) ?_ _;have Va:=qh (yU Hbq.out hHeld.1);have HT9:=qh (qY hT hTs);clear hHeld hT hTs;go_wp2_with fail;go_roundw
               case rel=>exact⟨k+1,S2++⟨#[sb]⟩++T,by omega,by go_num,rfl,qh ⟨by
                 rw[Un.out];simp only[qH,qL,hS2.out.1,HT9.out.1]
                 have e:mkT ⟨sg,(n:Int),a1⟩=sb::Lib.itoa (n:Int):=by
                   unfold mkT;rw[qx (by simpa using hl)];congr 1
                   rw[<-Hsb.out];simp
                 rw[e];simp,by simp only[qR];have:=hsm.out;have:=HT9.out.2;show S2.size+1+T.size<=_;omega⟩,Va⟩
               case measure=>simp[intOf];omega
         · have e1:(sg !=((SB[i]'hi1).toNat:Int))=true:=by rw[hsg];simpa using he
           have e0:(sg==((SB[i]'hi1).toNat:Int))=false:=(by rw[hsg];simpa using he);have Un:Hid (uJ ⟨cls,ref,ms,at_⟩ i (k+1)=uJ ⟨cls,ref,ms,at_⟩ i k):=qh (by rw[Zk.out,qx he,ku]);clear he hsg;go_wp2_with fail;go_quiet (fail)
           go_wp2_with fail;go_roundw
           case rel=>exact⟨k+1,S2,by omega,by go_num,rfl,qh ⟨by rw[Un.out];exact hS2.out.1,by have:=hsm.out;omega⟩,qh (Xg Hbm.out nq)⟩
           case measure=>simp[intOf];omega
       · obtain rfl:k=ms.length:=by omega
         go_wp2_with fail;go_roundw
         case rel=>exact⟨i+1,S2,by omega,by go_num,rfl,qh ⟨by rw[hS2.out.1];exact zoZ ⟨cls,ref,ms,at_⟩ i hlt,by have:=hS2.out.2;omega⟩,hbi⟩
         case measure=>simp[intOf];omega
   · obtain rfl:i=6:=by omega
     have d1:decide ((6:Int)<(SB.size:Int))=false:=qd (by omega);go_wp2_with fail;go_ret;exact⟨S,rfl,by rw[hSi.out.1];exact zo0 _,yU Hb1.out hbo.out⟩
theorem p4.at4 {w:World} {B:Nat} {A:Option Addr} {n c:Nat} {l:List It} {p5:List Value} (h:p4 w B (.slice A n c) l p5) {k:Nat} (hk:k<l.length):
    ∃g,A=some ⟨g,0,none⟩/\w.cell? ⟨g,k*4,none⟩=some (.int .i64 (l.getD k px).cls)/\w.cell? ⟨g,k*4+1,none⟩=some (.int .i64 (l.getD k px).ref)/\w.cell? ⟨g,k*4+2,none⟩=some (p5.getD k .nilFunc)/\w.cell? ⟨g,k*4+3,none⟩=some (.int .i64 (l.getD k px).at_):=by
  have hlen:=zin l p5 h.n;have hget:=zio l p5 k h.n hk;rcases h.o.2 with⟨e,e0⟩|⟨g,cap,cur,e,_,hg,_⟩
  · omega
  · have ho:=h.o
    simp only[jl] at e;obtain⟨rfl,rfl,rfl⟩:=e;exact⟨g,rfl,(ho.cellAt (k*4) (by omega)).trans hget.1,(ho.cellAt (k*4+1) (by omega)).trans hget.2.1,(ho.cellAt (k*4+2) (by omega)).trans hget.2.2.1,(ho.cellAt (k*4+3) (by omega)).trans hget.2.2.2⟩
theorem zoE (B:Nat) (f:Fm) (F:RF) (n0:Nat) (s:ByteArray) (w:World) (hv:Vars w) (h:Qc w B f F) (hk:pq f n0) (hn0:n0<=65536) (hl:znm f) (hn:NmF s f) (hs:s.size<=65536):
    Calls Tryz.prog 30 #[RF.agg F] w λe w'=>∃T:ByteArray,e=.returned (.string T)/\T.data.toList=gn f/\Below w.heap.size w w':=by
  obtain⟨cs,hcs⟩:=h.m;obtain⟨Am,cm,XN,hat⟩:=hcs.at hn.met;obtain⟨Al,cl,hvl,hcl,hlet⟩:=znA h.l;obtain⟨vis,hrw⟩:=h.r;obtain⟨Ar,cr,Zg,hrow⟩:=hrw.row;obtain⟨nm,Um⟩:∃nm:ByteArray,nm=⟨f.name.toArray⟩:=⟨_,rfl⟩;have hagg:RF.agg F=.agg #[.string nm,.slice Al f.gN.length cl,.slice Am f.gQ.length cm,.slice Ar f.rows.length cr,.bool F.rd,.int .i64 f.least,.int .i64 f.most,.int .i64 f.shift]:=by unfold RF.agg;rw[h.nm,hvl,XN,Zg,h.a,h.b,h.c,Um]
  rw[hagg];obtain⟨W1,hW1⟩:∃W1,w.alloc (.cells #[.string nm,.slice Al f.gN.length cl,.slice Am f.gQ.length cm,.slice Ar f.rows.length cr,.bool F.rd,.int .i64 f.least,.int .i64 f.most,.int .i64 f.shift] 29)=W1:=⟨_,rfl⟩;have hb1:Below w.heap.size w W1:=by rw[<-hW1];exact(qb _ _).alloc (ql _) _
  have hx1:W1.heap[w.heap.size]?=some (.cells #[.string nm,.slice Al f.gN.length cl,.slice Am f.gQ.length cm,.slice Ar f.rows.length cr,.bool F.rd,.int .i64 f.least,.int .i64 f.most,.int .i64 f.shift] 29 (0,0)):=by rw[<-hW1];exact qn w _
  have HW1:=qh hW1;have Hb1:=qh hb1;have Hx:=qh λ(wx:World) (hb:Below W1.heap.size W1 wx)=>ub hx1 hb;have HM:=qh hat;have HL:=qh hlet;have HR:=qh hrow;have HRW:=qh hrw;have HK:=qh hk;have HLF:=qh hl;have VD:=qh λ(wx:World) (hb:Below W1.heap.size W1 wx)=>Vars.below hv (yU hb1 hb) hv.six;have hnm:=hn.nm;have Hml:=qh (gz (gN:=f.gN) hn.met);have Hrl:=qh (gB hk);have Hll:=qh hk.ll;have VA:=qh hk.le;have JG:=qh (show nm.data.toList=f.name by rw[Um]);have hnz:nm.size<=65536:=by rw[uu JG.out];omega
  have q0:W1.cell? ⟨w.heap.size,0,none⟩=some (.string nm):=qc _ _ 0 _ _ (0,0) hx1;have z1:¬(9223372036854775807<5+nm.size):=by omega
  have z2:¬(9223372036854775807<5+nm.size+1):=by omega
  clear h hcs hat hlet hrw hrow hk hv hn hl hW1 hb1 hx1 Um hagg XN hvl Zg;go_enter Tryz.func30,Tryz.ntmps30;go_upto_region 1 with(fail)
  rw[HW1.out];go_wp2_with fail;clear q0;go_loopw [3,4] (λv3 v4 wr=>∃(k:Nat) (S:ByteArray),k<=f.gQ.length/\v4=.int .i64 k/\v3=.string S/\Hid (S.data.toList=gv f++ud f.gN f.gQ k/\S.size<=70000+16020*k)/\Hid (Below W1.heap.size W1 wr)) (λ_ v4 _=>f.gQ.length-(intOf v4).toNat)
  case atStart=>exact⟨0,_,qF _,rfl,rfl,qh ⟨by simp only[qH,qL,JG.out,gv,ud,qP];simp[zoI],by simp only[qR];show 5+nm.size+1<=_;omega⟩,qh (qb _ _)⟩
  case round=>
   obtain⟨wi,hwi⟩:∃W:World,W=wr:=⟨_,rfl⟩;subst hwi;obtain⟨k,S,hk,rfl,rfl,hS,hbi⟩:=hrel;have hxi:=Hx.out _ hbi.out;have q2:wi.cell? ⟨w.heap.size,2,none⟩=some (.slice Am f.gQ.length cm):=qc _ _ 2 _ _ (0,0) hxi;by_cases hlt:k<f.gQ.length
   · obtain⟨g,rfl,hg,Af,Ae,Ab,cf,ce,cb,a0,a1,a2,hM,hmay⟩:=HM.out k hlt
     obtain⟨gl,rfl,hgl,hl0⟩:=HL.out k (by have:=Hll.out;omega);have hbw:=yU Hb1.out hbi.out;have r0:=(hbw.cell (p:=⟨g,k*3,none⟩) hg).trans a0;have r1:=(hbw.cell (p:=⟨g,k*3+1,none⟩) hg).trans a1;have r2:=(hbw.cell (p:=⟨g,k*3+2,none⟩) hg).trans a2;have r3:=(hbw.cell (p:=⟨gl,k,none⟩) hgl).trans hl0;have q1:wi.cell? ⟨w.heap.size,1,none⟩=some (.slice (some ⟨gl,0,none⟩) f.gN.length cl):=qc _ _ 1 _ _ (0,0) hxi;have hpl:=uV hmay;have Un:=qh (uT f.gN f.gQ k);have hllk:(k:Int)<(f.gN.length:Int):=(by have:=Hll.out;omega);have hmet:f.gQ.length<=65536:=(by have:=Hll.out;omega);have n1:w.heap.size<wi.heap.size:=(qg hxi).1;have n2:g<wi.heap.size:=qD hg hbw.size;have n3:gl<wi.heap.size:=qD hgl hbw.size;clear a0 a1 a2 hl0;generalize f.gQ.getD k yO=m at*;generalize f.gN.getD k 0=lb at*;obtain⟨Pb,hPb⟩:∃Pb:ByteArray,Pb=⟨(vV m).toArray⟩:=⟨_,rfl⟩;have HPb:=qh (show Pb.data.toList=vV m by rw[hPb]);have hPs:Pb.size<=16000:=by rw[uu HPb.out];exact hpl
     have HPr:Hid (∀W,Below wi.heap.size wi W->Calls Tryz.prog 53 #[.agg #[.slice Af m.gO.length cf,.slice Ae m.ends.length ce,.slice Ab m.gS.length cb]] W λe w'=>e=.returned (.string Pb)/\Below W.heap.size W w'):=qh (λW hb=>by
       rw[hPb];exact znE Af Ae Ab cf ce cb m W (VD.out W (hbi.out.trans (hb.mono hbi.out.size))) (hM.on (hbw.trans (hb.mono hbw.size))) hmay)
     have hsz:S.size<=70000+16020*k:=hS.out.2;have HS:=qh hS.out.1;have i1:(0:Int)<=(k:Int):=(by omega);have i2:(k:Int)<(f.gQ.length:Int):=(by omega);have z1:¬(9223372036854775807<S.size+6):=(by omega);have z2:¬(9223372036854775807<S.size+6+1):=(by omega);have z3:¬(9223372036854775807<S.size+6+1+1):=(by omega);have z4:¬(9223372036854775807<S.size+6+1+1+Pb.size):=(by omega);have z5:¬(9223372036854775807<S.size+6+1+1+Pb.size+1):=(by omega);clear hxi hbw hPb hS hM hpl;go_upto_region 5 with(fail)
     refine js (S:=λw'=>Below wi.heap.size wi w'/\∀b o,b<wi.heap.size->w'.cell? ⟨b,o,none⟩=wi.cell? ⟨b,o,none⟩) (by kernel_rfl) pa (λhHeld=>?_);refine yT (i:=0) (v:=?_) rfl (by kernel_rfl) (λ_ _ _ h=>h) (by rfl) ?_ hHeld ?_;rotate_left
     · intro w hSw
       obtain⟨hS1,hS2⟩:=hSw;go_simp;try with_reducible rfl
     simp only[Act.put,qu,qr,qq,qe,qp,qk];refine yT (i:=1) (v:=?_) rfl (by kernel_rfl) (λ_ _ _ h=>h) (by rfl) ?_ hHeld ?_;rotate_left
     · intro w hSw
       obtain⟨hS1,hS2⟩:=hSw;go_simp;try with_reducible rfl
     simp only[Act.put,qu,qr,qq,qe,qp,qk];refine yT (i:=2) (v:=?_) rfl (by kernel_rfl) (λ_ _ _ h=>h) (by rfl) ?_ hHeld ?_;rotate_left
     · intro w hSw
       obtain⟨hS1,hS2⟩:=hSw;go_simp;try with_reducible rfl
     simp only[Act.put,qu,qr,qq,qe,qp,qk];refine yT (i:=3) (v:=?_) rfl (by kernel_rfl) (λ_ _ _ h=>h) (by rfl) ?_ hHeld ?_;rotate_left
     · intro w hSw
       obtain⟨hS1,hS2⟩:=hSw;go_simp;try with_reducible rfl
     simp only[Act.put,qu,qr,qq,qe,qp,qk];refine yT (i:=4) (v:=?_) rfl (by kernel_rfl) (λ_ _ _ h=>h) (by rfl) ?_ hHeld ?_;rotate_left
     · intro w hSw
       obtain⟨hS1,hS2⟩:=hSw;go_simp;try with_reducible rfl
     simp only[Act.put,qu,qr,qq,qe,qp,qk];refine yT (i:=5) (v:=?_) rfl (by kernel_rfl) (λ_ _ _ h=>h) (by rfl) ?_ hHeld ?_;rotate_left
     · intro w hSw
       obtain⟨hS1,hS2⟩:=hSw;go_simp;try with_reducible rfl
     simp only[Act.put,qu,qr,qq,qe,qp,qk];refine yT (i:=6) (v:=?_) rfl (by kernel_rfl) (λ_ _ _ h=>h) (by rfl) ?_ hHeld ?_;rotate_left
     · intro w hSw
       obtain⟨hS1,hS2⟩:=hSw;go_simp;try with_reducible rfl
     simp only[Act.put,qu,qr,qq,qe,qp,qk];refine yT (i:=11) (v:=?_) rfl (by kernel_rfl) (λ_ _ _ h=>h) (by rfl) ?_ hHeld ?_;rotate_left
     · intro w hSw
       obtain⟨hS1,hS2⟩:=hSw;go_simp;try with_reducible rfl
     simp only[Act.put,qu,qr,qq,qe,qp,qk];refine yT (i:=12) (v:=?_) rfl (by kernel_rfl) (λ_ _ _ h=>h) (by rfl) ?_ hHeld ?_;rotate_left
     · intro w hSw
       obtain⟨hS1,hS2⟩:=hSw;go_simp;try with_reducible rfl
     simp only[Act.put,qu,qr,qq,qe,qp,qk];refine yT (i:=13) (v:=?_) rfl (by kernel_rfl) (λ_ _ _ h=>h) (by rfl) ?_ hHeld ?_;rotate_left
     · intro w hSw
       obtain⟨hS1,hS2⟩:=hSw;go_simp;try with_reducible rfl
     simp only[Act.put,qu,qr,qq,qe,qp,qk];refine yT (i:=14) (v:=?_) rfl (by kernel_rfl) (λ_ _ _ h=>h) (by rfl) ?_ hHeld ?_;rotate_left
     · intro w hSw
       obtain⟨hS1,hS2⟩:=hSw;go_simp;try with_reducible rfl
     simp only[Act.put,qu,qr,qq,qe,qp,qk];refine yT (i:=15) (v:=?_) rfl (by kernel_rfl) (λ_ _ _ h=>h) (by rfl) ?_ hHeld ?_;rotate_left
     · intro w hSw
       obtain⟨hS1,hS2⟩:=hSw;go_simp;try with_reducible rfl
     simp only[Act.put,qu,qr,qq,qe,qp,qk];refine zpE λa0 ha0=>?_
     refine zne (fuel:=3) (d:=2) (i4:=7) (i5:=8) (i8:=16) (LJ:=#[true,true,true,true,true,true,true,true,true,true,true,true,true,true,true,true,false,false,false,false]) (LJ8:=#[true,true,true,true,true,true,true,true,true,true,true,true,true,true,true,true,true,false,false,false]) (e:=5) (n:=1) (lc:=#[.int .u8 (lb.toNat:Int)]) (R:=.string ⟨#[lb]⟩) (Z9:=λv=>v=.string Pb)
       (λW W' h hb=>JK hb h) (λx4 x5 x8=>{a0 with tmps:=((a0.tmps.setIfInBounds 25 x4).setIfInBounds 26 x5).setIfInBounds 34 x8}) (λx4 x8=>{a0 with tmps:=((((a0.tmps.setIfInBounds 25 x4).setIfInBounds 26 (.string ⟨#[lb]⟩)).setIfInBounds 27 (.string (S++⟨#[109,101,116,114,101,32]⟩++⟨#[lb]⟩))).setIfInBounds 28 (.string (S++⟨#[109,101,116,114,101,32]⟩++⟨#[lb]⟩++⟨#[32]⟩))).setIfInBounds 34 x8}) (by decide) (by decide) (by kernel_rfl) (by kernel_rfl) (by kernel_rfl) (by kernel_rfl) (by kernel_rfl) (by kernel_rfl) ?s4 ?s5 ?s8 ?s8J ?t1 ?t2 (x4:=a0.tmps.getD 25 undef) (x5:=a0.tmps.getD 26 undef) (x8:=a0.tmps.getD 34 undef) (by subst ha0;rfl) hHeld ?hend
     case s4=>
       intro x4 x5 x8 W K hS hK;subst ha0;simp only[qe,qp,qk] at hK|-;refine Kf rfl rfl (VZ (v:=.slice (some ⟨W.heap.size,0,none⟩) 1 1) (w':=W.alloc (.cells #[.int .u8 (lb.toNat:Int)] 5)) (by go_simp;try rfl) ?_);simp only[Act.put,qe,qp,qk];exact hK
     case s5=>
       intro g x5 x8 W K hg hK;subst ha0;simp only[qe,qp,qk] at hK|-
       have hc:Sem.run Tryz.prog (convert 25 9 (.slice (some ⟨g,0,none⟩) 1 1)) W=.ok (.string ⟨#[lb]⟩) W:=by
         refine zz _ _ _ _ ⟨g,0,none⟩ 1 [lb] qX qV qN (λj hj=>?_);obtain rfl:j=0:=by simpa using hj
         exact qc _ _ 0 _ _ (0,0) hg
       refine Kf rfl rfl (VZ (v:=.string ⟨#[lb]⟩) (w':=W) (by go_simp;try rfl) ?_);simp only[Act.put,qe,qp,qk];exact hK
     case s8=>
       intro x4 x5 x8 W K hS hK;subst ha0;simp only[qe,qp,qk] at hK|-;refine Kf rfl rfl ?_;go_simp;go_at_call 53
       refine(HPr.out _ hS.1).mono ?_;rintro e w9 ⟨rfl,pb⟩;have hK2:=hK _ _ rfl pb;simp only[Act.put,qe,qp,qk] at hK2|-;exact hK2
     case s8J=>
       intro x4 x8 W K hS hK;subst ha0;simp only[qe,qp,qk] at hK|-;refine Kf rfl rfl ?_;go_simp;go_at_call 53
       refine(HPr.out _ hS.1).mono ?_;rintro e w9 ⟨rfl,pb⟩;have hK2:=hK _ _ rfl pb;simp only[Act.put,qe,qp,qk] at hK2|-;exact hK2
     case t1=>
       intro x4 x8 W hHeld hk;subst ha0;simp only[qe,qp,qk] at hk|-;refine yT (i:=9) (v:=?_) rfl (by kernel_rfl) (λ_ _ _ h=>h) (by rfl) ?_ hHeld ?_;rotate_left
       · intro w hSw
         obtain⟨hS1,hS2⟩:=hSw;go_simp;try with_reducible rfl
       simp only[Act.put,qu,qr,qq,qe,qp,qk];refine yT (i:=10) (v:=?_) rfl (by kernel_rfl) (λ_ _ _ h=>h) (by rfl) ?_ hHeld ?_;rotate_left
       · intro w hSw
         obtain⟨hS1,hS2⟩:=hSw;go_simp;try with_reducible rfl
       simp only[Act.put,qu,qr,qq,qe,qp,qk];exact hk
     case t2=>
       intro x4 x8 W hHeld hk;subst ha0;simp only[qe,qp,qk] at hk|-;refine yT (i:=9) (v:=?_) rfl (by kernel_rfl) (λ_ _ _ h=>h) (by rfl) ?_ hHeld ?_;rotate_left
       · intro w hSw
         obtain⟨hS1,hS2⟩:=hSw;go_simp;try with_reducible rfl
       simp only[Act.put,qu,qr,qq,qe,qp,qk];refine yT (i:=10) (v:=?_) rfl (by kernel_rfl) (λ_ _ _ h=>h) (by rfl) ?_ hHeld ?_;rotate_left
       · intro w hSw
         obtain⟨hS1,hS2⟩:=hSw;go_simp;try with_reducible rfl
       simp only[Act.put,qu,qr,qq,qe,qp,qk];exact hk
     case hend=>
       rintro x4 v W' rfl hHeld;subst ha0;simp only[qe,qp,qk];refine yT (i:=17) (v:=?_) rfl (by kernel_rfl) (λ_ _ _ h=>h) (by rfl) ?_ hHeld ?_;rotate_left
       · intro w hSw
         obtain⟨hS1,hS2⟩:=hSw;go_simp;try with_reducible rfl
       simp only[Act.put,qu,qr,qq,qe,qp,qk];refine yT (i:=18) (v:=?_) rfl (by kernel_rfl) (λ_ _ _ h=>h) (by rfl) ?_ hHeld ?_;rotate_left
       · intro w hSw
         obtain⟨hS1,hS2⟩:=hSw;go_simp;try with_reducible rfl
       simp only[Act.put,qu,qr,qq,qe,qp,qk];refine yT (i:=19) (v:=?_) rfl (by kernel_rfl) (λ_ _ _ h=>h) (by rfl) ?_ hHeld ?_;rotate_left
       · intro w hSw
         obtain⟨hS1,hS2⟩:=hSw;go_simp;try with_reducible rfl
       simp only[Act.put,qu,qr,qq,qe,qp,qk];refine yH (by kernel_rfl) ?_ _;have Va:=qh (yU hbi.out hHeld.1);clear hHeld;go_wp2_with fail;go_roundw
       case rel=>exact⟨k+1,S++⟨#[109,101,116,114,101,32]⟩++⟨#[lb]⟩++⟨#[32]⟩++Pb++⟨#[10]⟩,by omega,by go_num,rfl,qh ⟨by
         rw[Un.out];simp only[qH,qL,HS.out,HPb.out,qP];rfl,by simp only[qR];show S.size+6+1+1+Pb.size+1<=_;omega⟩,Va⟩
       case measure=>simp[intOf];omega
   · obtain rfl:k=f.gQ.length:=by omega
     go_wp2_with fail;have hrl:f.rows.length<=65536:=(by have:=VA.out;omega);have hLl:S.size<=2000000000:=(by have:=hS.out.2;have:=Hll.out;omega);have hL0:=hS.out.1;generalize hLg:gv f++ud f.gN f.gQ f.gQ.length=L0 at*;have HLg:=qh hLg;have HL0:=qh hL0;clear q2 hS hxi hL0 hLg;go_loopw [3,5,6] (λv3 v5 v6 wr=>∃(k:Nat) (S':ByteArray),k<=f.rows.length/\v5=.int .i64 k/\v3=.string S'/\Hid (S'.data.toList=L0++vz f k)/\Hid (Below W1.heap.size W1 wr)) (λ_ v5 _ _=>f.rows.length-(intOf v5).toNat)
     case atStart=>exact⟨0,S,qF _,rfl,rfl,qh (by rw[HL0.out];simp[vz]),hbi⟩
     case round=>
       obtain⟨wk,hwk⟩:∃W:World,W=wr:=⟨_,rfl⟩;subst hwk;obtain⟨k,S',hk,rfl,rfl,hSk,hbk⟩:=hrel;have q3:wk.cell? ⟨w.heap.size,3,none⟩=some (.slice Ar f.rows.length cr):=qc _ _ 3 _ _ (0,0) (Hx.out _ hbk.out);by_cases hlt2:k<f.rows.length
       · obtain⟨g,rfl,hg,hrc⟩:=HR.out (by omega)
         obtain⟨a0,a1⟩:=hrc k hlt2;obtain⟨p5,hik⟩:=HRW.out.i k hlt2;obtain⟨Ai,ci,Xv⟩:=pJ hik.o;rw[Xv] at a1 hik;have hbw:=yU Hb1.out hbk.out;have r0:=(hbw.cell (p:=⟨g,k*2,none⟩) hg).trans a0;have Vt:=qh λ(W:World) (hb:Below W1.heap.size W1 W)=>((yU Hb1.out hb).cell (p:=⟨g,k*2+1,none⟩) hg).trans a1;have hrm:f.rows.getD k ⟨false,[]⟩∈f.rows:=(by rw[qj,qz hlt2];exact qM hlt2);have Xo:=qh (HK.out.it _ hrm);have Hlf:=qh (HLF.out _ hrm);have Un:=qh (uU f k);have Hhd:=qh (gA HK.out)
         have XH:Hid (S'.size<=3000000000/\(f.rows.getD k ⟨false,[]⟩).items.length<=65536):=qh (by
           have hrk:=Hrl.out k (by omega);have htk:=zej f.rows k hlt2;have htl:=zlk f.rows (k+1);have:=VA.out;have h1:=uu hSk.out;have h2:L0.length=S.size:=(uu HL0.out).symm;rw[qv] at h1;omega)
         have HIK:=qh hik;clear a0 a1 Xv hrm hrc hik hbw;generalize f.rows.getD k ⟨false,[]⟩=r at*;obtain⟨rd,its⟩:=r;simp only[] at r0 Vt HIK Xo Hlf Un XH;have hils:=XH.out.2;have i1:(0:Int)<=(k:Int):=(by omega);have i2:(k:Int)<(f.rows.length:Int):=(by omega);go_upto_if 49 with(fail)
         go_cut [3] from 49 to 67 (λv3 wx=>∃S2:ByteArray,v3=.string S2/\Hid (S2.data.toList=L0++vz f k++uv f rd/\S2.size<=3000000100)/\Hid (Below W1.heap.size W1 wx))
         case first=>
           have p9:=XH.out.1;cases rd with
           |true=>
            have HF:Hid (∀(n:Int) W,0<=n->n<=512->Calls Tryz.prog 54 #[.int .i64 n] W λe w'=>∃T:ByteArray,e=.returned (.string T)/\T.data.toList=Lib.itoa n/\T.size<=22/\Below W.heap.size W w'):=qh (λn W h0 h1=>by
              obtain⟨m,rfl⟩:∃m:Nat,n=(m:Int):=⟨n.toNat,by omega⟩;exact gG m W (by omega))
            have H5:Hid (∀W,Calls Tryz.prog 54 #[.int .i64 f.least] W λe w'=>∃T:ByteArray,e=.returned (.string T)/\T.data.toList=Lib.itoa f.least/\T.size<=22/\Below W.heap.size W w'):=qh (λW=>HF.out _ W HK.out.l0.1 HK.out.l0.2);have H6:Hid (∀W,Calls Tryz.prog 54 #[.int .i64 f.most] W λe w'=>∃T:ByteArray,e=.returned (.string T)/\T.data.toList=Lib.itoa f.most/\T.size<=22/\Below W.heap.size W w'):=qh (λW=>HF.out _ W HK.out.m0.1 HK.out.m0.2);have H7:Hid (∀W,Calls Tryz.prog 54 #[.int .i64 f.shift] W λe w'=>∃T:ByteArray,e=.returned (.string T)/\T.data.toList=Lib.itoa f.shift/\T.size<=22/\Below W.heap.size W w'):=qh (λW=>HF.out _ W HK.out.s0.1 HK.out.s0.2);have hxk:=Hx.out _ hbk.out;have c5:wk.cell? ⟨w.heap.size,5,none⟩=some (.int .i64 f.least):=qc _ _ 5 _ _ (0,0) hxk;have c6:wk.cell? ⟨w.heap.size,6,none⟩=some (.int .i64 f.most):=qc _ _ 6 _ _ (0,0) hxk;have c7:wk.cell? ⟨w.heap.size,7,none⟩=some (.int .i64 f.shift):=qc _ _ 7 _ _ (0,0) hxk;have n1:w.heap.size<wk.heap.size:=(qg hxk).1;have Hhx:Hid (uv f true=znM++(Lib.itoa f.least++([32]++(Lib.itoa f.most++([32]++Lib.itoa f.shift))))):=qh rfl;have z6:¬(9223372036854775807<S'.size+6):=(by omega);clear hxk q3 HF;generalize f.least=e5 at*;generalize f.most=e6 at*;generalize f.shift=e7 at*;go_wp2_with fail;go_region_held3 (λw'=>Below wk.heap.size wk w'/\∀b o,b<wk.heap.size->w'.cell? ⟨b,o,none⟩=wk.cell? ⟨b,o,none⟩) (((repeat (apply JK;assumption));exact pa)) ((first|(go_at_call 54;with_reducible refine(H5.out _).mono ?_;rintro e w9 ⟨Ta,rfl,hTa,Vi,pb⟩;have Vj:=qh (qY hTa Vi);have za:¬(9223372036854775807<S'.size+6+Ta.size):=(by omega);have zb:¬(9223372036854775807<S'.size+6+Ta.size+1):=(by omega);clear hTa Vi)|(go_at_call 54;with_reducible refine(H6.out _).mono ?_;rintro e w9 ⟨Tb,rfl,hTb,Vk,pb⟩;have HTb:=qh (qY hTb Vk);have zc:¬(9223372036854775807<S'.size+6+Ta.size+1+Tb.size):=(by have:=Vj.out.2;omega);have zd:¬(9223372036854775807<S'.size+6+Ta.size+1+Tb.size+1):=(by have:=Vj.out.2;omega);clear hTb Vk)|(go_at_call 54;with_reducible refine(H7.out _).mono ?_;rintro e w9 ⟨Tc,rfl,hTc,Vl,pb⟩;have HTc:=qh (qY hTc Vl);have ze:¬(9223372036854775807<S'.size+6+Ta.size+1+Tb.size+1+Tc.size):=(by have:=Vj.out.2;have:=HTb.out.2;omega);clear hTc Vl)))
            have Zl:Below wk.heap.size wk w9:=qZ (by assumption);have Va:=qh (yU hbk.out Zl);clear pb Zl;go_wp2_with fail;go_meet
            exact⟨_,rfl,qh ⟨by rw[Hhx.out];simp only[qH,qL,hSk.out,Vj.out.1,HTb.out.1,HTc.out.1,qP];rfl,by simp only[qR];have:=Vj.out.2;have:=HTb.out.2;have:=HTc.out.2;show S'.size+6+Ta.size+1+Tb.size+1+Tc.size<=_;omega⟩,Va⟩
           |false=>
            have z6:¬(9223372036854775807<S'.size+6):=(by omega);go_wp2_with fail;go_meet
            exact⟨_,rfl,qh ⟨by simp only[qH,qL,hSk.out];rfl,by simp only[qR];show S'.size+6<=_;omega⟩,hbk⟩
         case rest=>
         obtain⟨S2,rfl,hS2,hbc⟩:=hcut;have Hil:=qh (gp (gN:=f.gN) Xo.out);have hS2s:=hS2.out.2;clear q3 r0;go_wp2_with fail;go_loopw [3,6] (λv3 v6 wr=>∃(j:Nat) (S3:ByteArray),j<=its.length/\v6=.int .i64 j/\v3=.string S3/\Hid (S3.data.toList=S2.data.toList++znb f.gN its j)/\Hid (Below W1.heap.size W1 wr)) (λ_ v6 _=>its.length-(intOf v6).toNat)
         case atStart=>exact⟨0,S2,qF _,rfl,rfl,qh (by simp[znb]),hbc⟩
         case round=>
           obtain⟨wj,hwj⟩:∃W:World,W=wr:=⟨_,rfl⟩;subst hwj;obtain⟨j,S3,hj,rfl,rfl,p9,hbj⟩:=hrel;have q3:wj.cell? ⟨w.heap.size,3,none⟩=some (.slice (some ⟨g,0,none⟩) f.rows.length cr):=qc _ _ 3 _ _ (0,0) (Hx.out _ hbj.out);have r1:=Vt.out _ hbj.out
           have hs3:S3.size<=3000000100+j*201:=by
             have h1:=uu p9.out;have h2:=Hil.out j hj;have h3:S2.data.toList.length=S2.size:=(by rw[qS];rfl);rw[qv] at h1;omega
           by_cases hlt3:j<its.length
           · obtain⟨gi,rfl,b0,b1,b2,b3⟩:=p4.at4 HIK.out hlt3
             have hgi:gi<w.heap.size:=jL w _ b0;have hmk:=HIK.out.m j hlt3;have hxm:its.getD j px∈its:=(by rw[qj,qz hlt3];exact qM hlt3);have Vm:=Xo.out _ hxm;have hgd:=Hlf.out _ hxm;obtain⟨Ak,ck,hvk⟩:=pJ (show w.ownsRow B 101 3 (p5.getD j .nilFunc) (its.getD j px).gP.length (uz (its.getD j px).gP) from hmk);rw[hvk] at hmk b2;have Htj:=qh (gx f.gN its j);have hbw:=yU Hb1.out hbj.out;have u0:=(hbw.cell (p:=⟨gi,j*4,none⟩) hgi).trans b0;have u1:=(hbw.cell (p:=⟨gi,j*4+1,none⟩) hgi).trans b1;have u2:=(hbw.cell (p:=⟨gi,j*4+2,none⟩) hgi).trans b2;have u3:=(hbw.cell (p:=⟨gi,j*4+3,none⟩) hgi).trans b3;have hmkj:Qy wj B (.slice Ak (its.getD j px).gP.length ck) (its.getD j px).gP:=hmk.kept (Zq hbw none) ZH;have HT:=qh (zoD (its.getD j px) B _ wj Vm hgd.2 hmkj);have ztE:=qh (zow Vm hgd.1);have Hxl:=qh (gy (gN:=f.gN) Vm);clear b0 b1 b2 b3 hvk hbw hmk hmkj Vm hgd hxm;generalize its.getD j px=x at*;have i3:(0:Int)<=(j:Int):=(by omega);have i4:(j:Int)<(its.length:Int):=(by omega);have z7:¬(9223372036854775807<S3.size+1):=(by omega);go_wp2_with fail;refine HT.out.mono ?_;rintro e w7 ⟨T,rfl,hT,QW⟩;rw[ztE.out] at hT;have hTs:T.size<=200:=(by rw[uu hT];exact Hxl.out);have z8:¬(9223372036854775807<S3.size+1+T.size):=(by omega);have HTt:=qh hT;have HB7:=qh (yU hbj.out QW);clear hT QW q3 r1 u0 u1 u2 u3;go_wp2_with fail;go_roundw
             case rel=>exact⟨j+1,S3++⟨#[32]⟩++T,by omega,by go_num,rfl,qh (by
               rw[Htj.out];simp only[qH,qL,p9.out,HTt.out,qP];rfl),HB7⟩
             case measure=>simp[intOf];omega
           · obtain rfl:j=its.length:=by omega
             have z9:¬(9223372036854775807<S3.size+1):=(by omega);go_wp2_with fail;go_roundw
             case rel=>exact⟨k+1,S3++⟨#[10]⟩,by omega,by go_num,rfl,qh (by
               rw[Un.out];unfold zqg;simp only[qH,qL,p9.out,hS2.out.1,qP]),hbj⟩
             case measure=>simp[intOf];omega
       · obtain rfl:k=f.rows.length:=by omega
         go_wp2_with fail;go_ret;exact⟨S',rfl,by rw[hSk.out,<-HLg.out];unfold gn;simp[qP],yU Hb1.out hbk.out⟩
end Go.Proofs.YtgklikkddckgbaaGreatDoor.Mo


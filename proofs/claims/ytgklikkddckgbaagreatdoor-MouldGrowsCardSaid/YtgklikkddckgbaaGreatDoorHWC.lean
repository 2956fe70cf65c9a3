import Derived.Test.YtgklikkddckgbaaGreatDoorHWB
import Derived.Test.YtgklikkddckgbaaGreatDoorHBI
import Derived.Test.YtgklikkddckgbaaGreatDoorHBK
/- Lemmas of the claim. -/
set_option linter.all false
namespace Go.Proofs.YtgklikkddckgbaaGreatDoor.Mo
open Go.RowKit
def FitR (rows:List Rw) (least most lines n:Int) (ok:Bool):Prop:=
  (ok=true∧least≤n∧n≤most∧za6 rows n=lines∧∀j,least≤j→j<n→za6 rows j≠lines)∨(ok=false∧n=0∧∀j,least≤j→j≤most→za6 rows j≠lines)
def FitOk (rows:List Rw) (least most lines:Int) (w:World) (e:Ending) (w':World):Prop:=∃n ok,e=.returned (.tuple #[.int .i64 n,.bool ok])∧FitR rows least most lines n ok∧Below w.heap.size w w'
set_option maxRecDepth 100000 in
theorem fit_any (B fb:Nat) (f:Fm) (vl vm vs:Value) (i:Nat) (lines:Int) (w:World) (h:FmM w B fb f vl vm vs) (hk:FmOk f i) (hi:i≤65536):
    Calls Tryz.prog 15 #[.pointer (some ⟨fb,0,none⟩),.int .i64 lines] w (FitOk f.rows f.least f.most lines w):=by
  have c5:=h.cells.2.2.2.2.2.1;have l0:=hk.l0;have m0:=hk.m0;have lm:=hk.lm;have H:=qh h;have Hk:=qh hk;clear h hk;go_enter Tryz.func15,Tryz.ntmps15;go_wp2_with fail;go_loopw [6] (fun v6 wr=>∃k:Int,f.least≤k∧k≤f.most+1∧v6=.int .i64 k∧Hid (∀j,f.least≤j→j<k→za6 f.rows j≠lines)∧Hid (Below w.heap.size w wr)) (fun v6 _=>(f.most+1-intOf v6).toNat)
  case atStart=>exact⟨f.least,Int.le_refl _,by omega,rfl,qh (fun j h1 h2=>by omega),qh (qb _ _)⟩
  case round=>
    obtain⟨k,k1,k2,rfl,hno,hb⟩:=hrel;have hm:=H.out.below hb.out;have c6:=hm.cells.2.2.2.2.2.2.1;by_cases hle:k≤f.most
    · have d1:decide (k≤f.most)=true:=qt hle
      have Hl:=qh (hm.linesC Hk.out hi k (by omega) (by omega));have hw1:IntKind.i64.wrap (k+1)=k+1:=qi _ (by omega);clear hm;by_cases hs:za6 f.rows k=lines
      · have e1:(za6 f.rows k==lines)=true:=by simpa using hs
        have HF:Hid (FitR f.rows f.least f.most lines k true):=qh (.inl ⟨rfl,k1,hle,hs,hno.out⟩);clear hs;generalize za6 f.rows k=S at Hl e1;go_wp2_with fail;refine Hl.out.mono ?_;rintro e w3 ⟨rfl,hb3⟩;have Hb3:=qh (hb.out.trans (hb3.mono hb.out.size));clear hb3;go_wp2_with fail;go_ret2;exact⟨k,true,rfl,HF.out,Hb3.out⟩
      · have e1:(za6 f.rows k==lines)=false:=by simpa using hs
        have HN:Hid (∀j,f.least≤j→j<k+1→za6 f.rows j≠lines):=qh (fun j h1 h2=>by
          by_cases e:j=k
          · subst e;exact hs
          · exact hno.out j h1 (by omega))
        clear hs;generalize za6 f.rows k=S at Hl e1;go_wp2_with fail;refine Hl.out.mono ?_;rintro e w3 ⟨rfl,hb3⟩;have Hb3:=qh (hb.out.trans (hb3.mono hb.out.size));clear hb3;go_wp2_with fail;go_roundw
        case rel=>exact⟨k+1,by omega,by omega,rfl,HN,Hb3⟩
        case measure=>simp[intOf];omega
    · have d1:decide (k≤f.most)=false:=qd hle
      have HF:Hid (FitR f.rows f.least f.most lines 0 false):=qh (.inr ⟨rfl,rfl,fun j h1 h2=>hno.out j h1 (by omega)⟩);clear hm;go_wp2_with fail;go_ret2;exact⟨0,false,rfl,HF.out,hb.out⟩
theorem FitR.hit {rows:List Rw} {least most lines n k:Int} {ok:Bool} (h:FitR rows least most lines n ok) (h1:least≤k) (h2:k≤most) (hs:za6 rows k=lines) (hno:∀j,least≤j→j<k→za6 rows j≠lines):ok=true∧n=k:=by
  rcases h with⟨e,a1,a2,a3,a4⟩|⟨_,_,a⟩
  · refine⟨e,?_⟩
    rcases Int.lt_trichotomy n k with h|h|h
    · exact absurd a3 (hno n a1 h)
    · exact h
    · exact absurd hs (a4 k h1 h)
  · exact absurd hs (a k h1 h2)
theorem FitR.miss {rows:List Rw} {least most lines n:Int} {ok:Bool} (h:FitR rows least most lines n ok) (hno:∀j,least≤j→j<most+1→za6 rows j≠lines):ok=false∧n=0:=by
  rcases h with⟨e,a1,a2,a3,a4⟩|⟨e,e2,_⟩
  · exact absurd a3 (hno n a1 (by omega))
  · exact⟨e,e2⟩
theorem bel_on {A W2 W3:World} (h:Below A.heap.size A W2) (h2:Below W2.heap.size W2 W3):Below A.heap.size A W3:=h.trans (h2.mono h.size)
theorem row_at {w w':World} {b:Nat} {o:Obj} (h:w.heap[b]?=some o) (hb:Below w.heap.size w w'):w'.heap[b]?=some o:=(hb.block b (qg h).1).trans h
theorem dms_at {w:World} {B n c:Nat} {A:Option Addr} {xs:List YD} {ds:List Dm} (h:DmsM w B (.slice A n c) xs) (hd:xs.map YD.d=ds) (hn:ds.length=n) {k:Nat} (hk:k<n):
    ∃(g:Nat) (d:Dm) (Ah:Option Addr) (ch:Nat),A=some ⟨g,0,none⟩∧g<w.heap.size∧ds[k]?=some d∧(∀o,o<9→w.cell? ⟨g,k*9+o,none⟩=(dmC d (.slice Ah d.has.length ch))[o]?)∧w.ownsRow B 3 1 (.slice Ah d.has.length ch) d.has.length (intC d.has)∧d.has.length≤4:=by
  have hx:xs.length=n:=by rw[←hn,←hd,List.length_map]
  have hkx:k<xs.length:=by omega
  have hget:xs.getD k YD0=xs[k]:=by simp[List.getD_eq_getElem?_getD,hkx]
  have hm:=h.h (xs.getD k YD0) (by rw[hget];exact qM _);obtain⟨Ah,ch,hv⟩:=zab hm.1;rcases h.o.2 with⟨_,e0⟩|⟨g,cap,cur,e,_,hg,hcap,_⟩
  · omega
  · cases e
    refine⟨g,(xs.getD k YD0).d,Ah,ch,rfl,(qg hg).1,?_,fun o ho=>?_,?_,hm.2⟩
    · rw[←hd,hget];simp[hkx]
    · rw[←hv];exact h.get hx hk o ho
    · rw[←hv];exact hm.1
theorem FitR.sure {rows:List Rw} {least most lines n k:Int} {ok:Bool} (h:FitR rows least most lines n ok) (h1:least≤k) (h2:k≤most) (hs:za6 rows k=lines):ok=true∧least≤n∧n≤k∧za6 rows n=lines:=by
  rcases h with⟨e,a1,a2,a3,a4⟩|⟨e,e2,hno⟩
  · exact⟨e,a1,by
      by_cases h:n≤k
      · exact h
      · exact absurd hs (a4 k h1 (by omega)),a3⟩
  · exact absurd hs (hno k h1 h2)
theorem rounds_form (B fb:Nat) (f:Fm) (vl vm vs:Value) (w:World) (h:FmM w B fb f vl vm vs):
    Calls Tryz.prog 22 #[.pointer (some ⟨fb,0,none⟩)] w fun e w'=>e=.returned (.tuple #[.int .i64 f.least,.int .i64 f.most])∧Below w.heap.size w w':=by
  have c5:=h.cells.2.2.2.2.2.1;have c6:=h.cells.2.2.2.2.2.2.1;clear h;go_enter Tryz.func22,Tryz.ntmps22;go_wp2_with fail;go_region;go_wp2_with fail;go_ret2;exact⟨rfl,zc3 (qb _ _) 1⟩
theorem neB {a b:Int} (h:a≠b):(a==b)=false:=by simpa using h
theorem eqB {a b:Int} (h:a=b):(a==b)=true:=by simpa using h
set_option maxRecDepth 100000 in
set_option maxHeartbeats 4000000 in
theorem same_some (B1 B2:Nat) (d1 d2:Dm) (v1 v2:Value) (w:World) (h1:w.ownsRow B1 3 1 v1 d1.has.length (intC d1.has)) (h2:w.ownsRow B2 3 1 v2 d2.has.length (intC d2.has)) (h4:d1.has.length≤4):
    Calls Tryz.prog 19 #[.agg (dmC d1 v1),.agg (dmC d2 v2)] w fun e w'=>(∃b,e=.returned (.bool b))∧Below w.heap.size w w':=by
  obtain⟨A1,c1,rfl,_,r1⟩:=zdO h1;obtain⟨A2,c2,rfl,_,r2⟩:=zdO h2;clear h1 h2;obtain⟨a0,a1,a2,a3,a4,a5,a6,ah,a8⟩:=d1;obtain⟨b0,b1,b2,b3,b4,b5,b6,bh,b8⟩:=d2;simp only[dmC] at r1 r2 h4⊢;have R1:=qh r1;have R2:=qh r2;generalize hn1:ah.length=n1 at*;generalize hn2:bh.length=n2 at*;clear r1 r2 hn1 hn2;have Hb1:Hid (∀x y,Below w.heap.size w ((w.alloc (.cells x 45)).alloc (.cells y 45))):=qh fun x y=>((qb _ _).alloc (ql _) _).alloc (by simp) _;have Hx1:Hid (∀x y,((w.alloc (.cells x 45)).alloc (.cells y 45)).heap[w.heap.size]?=some (.cells x 45 (0,0))):=qh fun x y=>(qa _ _ _ (by simp)).trans (qn w _)
  have Hx2:Hid (∀x y,((w.alloc (.cells x 45)).alloc (.cells y 45)).heap[w.heap.size+1]?=some (.cells y 45 (0,0))):=qh fun x y=>by
    have:=qn (w.alloc (.cells x 45)) (.cells y 45);rw[World.size_alloc] at this;exact this
  go_enter Tryz.func19,Tryz.ntmps19;go_wp2_with fail
  any_goals (go_ret;exact⟨⟨false,rfl⟩,Hb1.out _ _⟩)
  have hn0:((n1:Int) !=(n2:Int))=false:=by assumption
  have hn1:(n1:Int)=(n2:Int):=by simpa using hn0
  obtain rfl:n1=n2:=by omega
  clear hn0 hn1;generalize hW1:(w.alloc _).alloc _=W1;have hb1:=Hb1.out #[.int .i64 b0,.int .i64 b1,.int .i64 b2,.int .i64 b3,.int .i64 b4,.int .i64 b5,.int .i64 b6,.slice A1 n1 c1,.int .i32 b8] #[.int .i64 b0,.int .i64 b1,.int .i64 b2,.int .i64 b3,.int .i64 b4,.int .i64 b5,.int .i64 b6,.slice A2 n1 c2,.int .i32 b8];have hx1:=Hx1.out #[.int .i64 b0,.int .i64 b1,.int .i64 b2,.int .i64 b3,.int .i64 b4,.int .i64 b5,.int .i64 b6,.slice A1 n1 c1,.int .i32 b8] #[.int .i64 b0,.int .i64 b1,.int .i64 b2,.int .i64 b3,.int .i64 b4,.int .i64 b5,.int .i64 b6,.slice A2 n1 c2,.int .i32 b8];have hx2:=Hx2.out #[.int .i64 b0,.int .i64 b1,.int .i64 b2,.int .i64 b3,.int .i64 b4,.int .i64 b5,.int .i64 b6,.slice A1 n1 c1,.int .i32 b8] #[.int .i64 b0,.int .i64 b1,.int .i64 b2,.int .i64 b3,.int .i64 b4,.int .i64 b5,.int .i64 b6,.slice A2 n1 c2,.int .i32 b8];rw[hW1] at hb1 hx1 hx2
  have HX:Hid (∀W,Below W1.heap.size W1 W→W.cell? ⟨w.heap.size,7,none⟩=some (.slice A1 n1 c1)∧W.cell? ⟨w.heap.size+1,7,none⟩=some (.slice A2 n1 c2)):=qh fun W hb=>
    ⟨qc _ _ 7 _ _ (0,0) (row_at hx1 hb),qc _ _ 7 _ _ (0,0) (row_at hx2 hb)⟩
  have HB1:=qh hb1;clear hW1 hb1 hx1 hx2 Hb1 Hx1 Hx2;go_loopw [5] (fun q wr=>∃k:Nat,k≤n1∧q=.int .i64 k∧Hid (Below W1.heap.size W1 wr)) (fun q _=>n1-(intOf q).toNat)
  case atStart=>exact⟨0,Nat.zero_le _,rfl,qh (qb _ _)⟩
  case round=>
    rename World=>wr
    obtain⟨k,hk,rfl,hb⟩:=hrel;obtain⟨x7,y7⟩:=HX.out wr hb.out;by_cases hlt:k<n1
    · obtain⟨g1,rfl,hg1,e1⟩:=R1.out (by omega)
      obtain⟨g2,rfl,hg2,e2⟩:=R2.out (by omega);have hbw:=bel_on HB1.out hb.out;have q1:=(hbw.cell (p:=⟨g1,k,none⟩) hg1).trans (e1 k hlt);have q2:=(hbw.cell (p:=⟨g2,k,none⟩) hg2).trans (e2 k hlt);have HB:=qh (zc3 hb.out 1);have HBw:=qh (zc3 hbw 1);clear e1 e2 hbw;generalize ah.getD k 0=p at*;generalize bh.getD k 0=r at*;by_cases hq:p=r
      · subst hq
        go_wp2_with fail;go_region;go_wp2_with fail;go_roundw
        case rel=>exact⟨k+1,by omega,by go_num,HB⟩
        case measure=>simp[intOf];omega
      · have eq:=neB hq
        clear hq;go_wp2_with fail;go_region;go_wp2_with fail;go_ret;exact⟨⟨false,rfl⟩,HBw.out⟩
    · obtain rfl:k=n1:=by omega
      go_wp2_with fail;go_ret;exact⟨⟨true,rfl⟩,bel_on HB1.out hb.out⟩
end Go.Proofs.YtgklikkddckgbaaGreatDoor.Mo

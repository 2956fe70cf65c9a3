import Derived.Test.YtgklikkddckgbaaGreatDoorJBC
import Derived.Test.YtgklikkddckgbaaGreatDoorJEA
/- Lemmas. -/
set_option linter.all false
set_option maxRecDepth 100000
set_option maxHeartbeats 4000000
namespace Go.Proofs.YtgklikkddckgbaaGreatDoor.Mo
open Go.RowKit
theorem zqp (B1 B2:Nat) (d:Dm) (v1 v2:Value) (w:World) (h1:w.ownsRow B1 3 1 v1 d.has.length (ua d.has)) (h2:w.ownsRow B2 3 1 v2 d.has.length (ua d.has)) (h4:d.has.length<=4):
    Calls Tryz.prog 19 #[.agg (Jl d v1),.agg (Jl d v2)] w λe w'=>e=.returned (.bool true)/\Below w.heap.size w w':=by
  obtain⟨A1,c1,rfl,_,r1⟩:=zdO h1;obtain⟨A2,c2,rfl,_,r2⟩:=zdO h2;obtain⟨W1,hW1⟩:∃W1,(w.alloc (.cells (Jl d (.slice A1 d.has.length c1)) 45)).alloc (.cells (Jl d (.slice A2 d.has.length c2)) 45)=W1:=⟨_,rfl⟩;have hb1:Below w.heap.size w W1:=by rw[<-hW1];exact((qb _ _).alloc (ql _) _).alloc (by simp) _
  have hx1:W1.heap[w.heap.size]?=some (.cells (Jl d (.slice A1 d.has.length c1)) 45 (0,0)):=by rw[<-hW1];exact(qa _ _ _ (by simp)).trans (qn w _)
  have hx2:W1.heap[w.heap.size+1]?=some (.cells (Jl d (.slice A2 d.has.length c2)) 45 (0,0)):=by
    rw[<-hW1];have:=qn (w.alloc (.cells (Jl d (.slice A1 d.has.length c1)) 45)) (.cells (Jl d (.slice A2 d.has.length c2)) 45);rw[qZ] at this;exact this
  have R1:=qh r1;have R2:=qh r2;have HW1:=qh hW1;have Hb1:=qh hb1
  have HX:Hid (∀W,Below W1.heap.size W1 W->W.cell? ⟨w.heap.size,7,none⟩=some (.slice A1 d.has.length c1)/\W.cell? ⟨w.heap.size+1,7,none⟩=some (.slice A2 d.has.length c2)):=qh λW hb=>
    ⟨qc _ _ 7 _ _ (0,0) ((hb.block _ (qg hx1).1).trans hx1),qc _ _ 7 _ _ (0,0) ((hb.block _ (qg hx2).1).trans hx2)⟩
  clear h1 h2 r1 r2 hb1 hx1 hx2 hW1;simp only[Jl] at HW1|-;go_enter Tryz.func19,Tryz.ntmps19;go_wp2_with fail;rw[HW1.out];go_loopw [5] (λq wr=>∃k:Nat,k<=d.has.length/\q=.int .i64 k/\Hid (Below W1.heap.size W1 wr)) (λq _=>d.has.length-(intOf q).toNat)
  case atStart=>exact⟨0,qQ _,rfl,qh (qb _ _)⟩
  case round=>
    rename World=>wr
    obtain⟨k,hk,rfl,hb⟩:=hrel;obtain⟨x7,y7⟩:=HX.out wr hb.out;by_cases hlt:k<d.has.length
    · obtain⟨g1,rfl,hg1,e1⟩:=R1.out (by omega)
      obtain⟨g2,rfl,hg2,e2⟩:=R2.out (by omega);have hbw:=Hb1.out.trans (hb.out.mono Hb1.out.size);have q1:=(hbw.cell (p:=⟨g1,k,none⟩) hg1).trans (e1 k hlt);have q2:=(hbw.cell (p:=⟨g2,k,none⟩) hg2).trans (e2 k hlt);have HB:=qh (zc3 hb.out 1);clear e1 e2 hbw;go_wp2_with fail;go_region;go_wp2_with fail;go_roundw
      case rel=>exact⟨k+1,by omega,by go_num,HB⟩
      case measure=>simp[intOf];omega
    · obtain rfl:k=d.has.length:=by omega
      go_wp2_with fail;go_ret;exact⟨rfl,Hb1.out.trans (hb.out.mono Hb1.out.size)⟩
theorem zqq {s:ByteArray} {Qo:List UInt8} {line:Int} {i k:Nat} {x:It} (h:KW s Qo line i=.ok (x,k)) (h0:0<=line):∀m∈x.Qq,Xa m=true->m.n<=line:=by
  unfold KW at h;split at h
  · cases h
  · split at h
    · cases h
    · split at h
      · cases h
      · split at h
        · cases h
        · rename_i hf
          cases h;intro m hm hb;have:=kc.1 hf m hm;simp[hb] at this;omega
theorem uZ {A W2 W3:World} (h:Below A.heap.size A W2) (h2:Below W2.heap.size W2 W3):Below A.heap.size A W3:=h.trans (h2.mono h.size)
theorem zmY {w w':World} {b:Nat} {o:Obj} (h:w.heap[b]?=some o) (hb:Below w.heap.size w w'):w'.heap[b]?=some o:=(hb.block b (qg h).1).trans h
theorem zqr {w:World} {B n c:Nat} {A:Option Addr} {xs:List YD} {ds:List Dm} (h:J9 w B (.slice A n c) xs) (hd:xs.map YD.d=ds) (hn:ds.length=n) {k:Nat} (hk:k<n):
    ∃(g:Nat) (d:Dm) (Ah:Option Addr) (ch:Nat),A=some ⟨g,0,none⟩/\g<w.heap.size/\ds[k]?=some d/\(∀o,o<9->w.cell? ⟨g,k*9+o,none⟩=(Jl d (.slice Ah d.has.length ch))[o]?)/\w.ownsRow B 3 1 (.slice Ah d.has.length ch) d.has.length (ua d.has)/\d.has.length<=4:=by
  have hx:xs.length=n:=by rw[<-hn,<-hd,kg]
  have hkx:k<xs.length:=by omega
  have hget:xs.getD k YD0=xs[k]:=by simp[qe,hkx]
  have hm:=h.h (xs.getD k YD0) (by rw[hget];exact qM _);obtain⟨Ah,ch,hv⟩:=Zn hm.1;rcases h.o.2 with⟨_,e0⟩|⟨g,cap,cur,e,_,hg,hcap,_⟩
  · omega
  · cases e
    refine⟨g,(xs.getD k YD0).d,Ah,ch,rfl,(qg hg).1,?_,λo ho=>?_,?_,hm.2⟩
    · rw[<-hd,hget];simp[hkx]
    · rw[<-hv];exact h.get hx hk o ho
    · rw[<-hv];exact hm.1
theorem zon {w:World} {g k:Nat} {d:Dm} {v:Value} (h:∀o,o<9->w.cell? ⟨g,k*9+o,none⟩=(Jl d v)[o]?):w.cell? ⟨g,k*9,none⟩=some (.int .i64 d.Q6)/\w.cell? ⟨g,k*9+1,none⟩=some (.int .i64 d.cls)/\w.cell? ⟨g,k*9+2,none⟩=some (.int .i64 d.ref)/\w.cell? ⟨g,k*9+3,none⟩=some (.int .i64 d.met)/\w.cell? ⟨g,k*9+4,none⟩=some (.int .i64 d.syl)/\w.cell? ⟨g,k*9+5,none⟩=some (.int .i64 d.same)/\w.cell? ⟨g,k*9+6,none⟩=some (.int .i64 d.ends)/\w.cell? ⟨g,k*9+7,none⟩=some v/\w.cell? ⟨g,k*9+8,none⟩=some (.int .i32 d.beg):=
  ⟨h 0 (by decide),h 1 (by decide),h 2 (by decide),h 3 (by decide),h 4 (by decide),h 5 (by decide),h 6 (by decide),h 7 (by decide),h 8 (by decide)⟩
theorem zpO (B1 B2 n c1 c2:Nat) (A1 A2:Option Addr) (ds:List Dm) (x1 x2:List YD) (w:World) (h1:J9 w B1 (.slice A1 n c1) x1) (h2:J9 w B2 (.slice A2 n c2) x2) (e1:x1.map YD.d=ds) (e2:x2.map YD.d=ds) (hn:ds.length=n) (hb:n<=33554432):
    Calls Tryz.prog 25 #[.slice A1 n c1,.slice A2 n c2] w λe w'=>e=.returned (.bool true)/\Below w.heap.size w w':=by
  have H1:=qh (zm h1 e1);have H2:=qh (zm h2 e2);have Hn:=qh hn;clear h1 h2 e1 e2 hn;go_enter Tryz.func25,Tryz.ntmps25;go_wp2_with fail;go_loopw [5] (λq wr=>∃k:Nat,k<=n/\q=.int .i64 k/\Hid (Below w.heap.size w wr)) (λq _=>n-(intOf q).toNat)
  case atStart=>exact⟨0,qQ _,rfl,qh (qb _ _)⟩
  case round=>
    rename World=>wr
    obtain⟨k,hk,rfl,hbr⟩:=hrel;by_cases hlt:k<n
    · obtain⟨g1,d,Ah1,ch1,rfl,hg1,hd1,hc1,ho1,hf1⟩:=zqr H1.out.1 H1.out.2 Hn.out hlt
      obtain⟨g2,d2,Ah2,ch2,rfl,hg2,hd2,hc2,ho2,hf2⟩:=zqr H2.out.1 H2.out.2 Hn.out hlt;obtain rfl:d=d2:=kR (hd1.symm.trans hd2);have p:=λo ho=>(hbr.out.cell (p:=⟨g1,k*9+o,none⟩) hg1).trans (hc1 o ho);have q:=λo ho=>(hbr.out.cell (p:=⟨g2,k*9+o,none⟩) hg2).trans (hc2 o ho);obtain⟨p0,p1,p2,p3,p4,p5,p6,p7,p8⟩:=zon p;obtain⟨q0,q1,q2,q3,q4,q5,q6,q7,q8⟩:=zon q;have Hs:Hid (∀W,Below wr.heap.size wr W->Calls Tryz.prog 19 #[.agg (Jl d (.slice Ah1 d.has.length ch1)),.agg (Jl d (.slice Ah2 d.has.length ch2))] W λe w'=>e=.returned (.bool true)/\Below W.heap.size W w'):=qh (λW hW=>zqp B1 B2 d _ _ W (vZ ho1 (QO.of_below [] (uZ hbr.out hW)) (by simp)) (vZ ho2 (QO.of_below [] (uZ hbr.out hW)) (by simp)) hf1);simp only[Jl] at Hs;have hg1r:g1<wr.heap.size:=qK hg1 hbr.out.size;have hg2r:g2<wr.heap.size:=qK hg2 hbr.out.size;clear p q hc1 hc2 ho1 ho2 hd1 hd2;go_wp2_with fail;go_region_held3 (λw'=>Below wr.heap.size wr w'/\∀b o,b<wr.heap.size->w'.cell? ⟨b,o,none⟩=wr.cell? ⟨b,o,none⟩) (((repeat (apply ze2;assumption));exact Q2)) (first|(go_at_call 19;refine(Hs.out _ (by first|exact Q2.1|exact zL (by assumption))).mono ?_;rintro e w9 ⟨rfl,QG⟩))
      have V0:Below wr.heap.size wr w9:=zL (by assumption);have Gc:=qh (uZ hbr.out V0);clear Hs V0 QG;go_wp2_with fail;go_roundw
      case rel=>exact⟨k+1,by omega,by go_num,Gc⟩
      case measure=>simp[intOf];omega
    · obtain rfl:k=n:=by omega
      go_wp2_with fail;go_ret;exact⟨rfl,hbr.out⟩
end Go.Proofs.YtgklikkddckgbaaGreatDoor.Mo

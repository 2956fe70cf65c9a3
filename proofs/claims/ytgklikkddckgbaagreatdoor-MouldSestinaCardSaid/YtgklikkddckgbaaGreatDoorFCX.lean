import Derived.BigQuiet
import Derived.BigRegion
import Derived.Deep.RegionLaw
import Derived.Deep.RegionWith
import Derived.Defers
import Derived.Recover
import Derived.Test.YtgklikkddckgbaaGreatDoorFAR
/- Lemmas of the claim. -/
namespace Go.Proofs.YtgklikkddckgbaaGreatDoor.Mo
set_option linter.unusedVariables false
set_option linter.unusedSimpArgs false
open Go.RowKit
theorem lineP_title {s : ByteArray} {f : Fm} {i : Nat} : lineP s f false i = match liftE (mustP s FORM i) with | .error e => .error e | .ok a => if endB s a then .error (180,a) else .ok ({ f with name:=cutB s a (restE s a) },restE s a):=by
 unfold lineP; rw [if_pos (by simp)]; rfl
theorem lineP_metre {s : ByteArray} {f : Fm} {i : Nat} (h : isB s i 109 = true) (h0 : f.rows.isEmpty = true) : lineP s f true i = metreP s f i:=by
 unfold lineP; rw [if_neg (by simp),if_pos (by rw [h,h0]; rfl)]
theorem lineP_round {s : ByteArray} {f : Fm} {i : Nat} (h : (isB s i 109 && f.rows.isEmpty) = false) (h0 : isB s i 114 = true) : lineP s f true i = roundP s f i:=by
 unfold lineP; rw [if_neg (by simp),if_neg (by rw [h]; simp),if_pos h0]
theorem lineP_stanza {s : ByteArray} {f : Fm} {i : Nat} (h : (isB s i 109 && f.rows.isEmpty) = false) (h0 : isB s i 114 = false) : lineP s f true i = match liftE (mustP s STANZA i) with | .error e => .error e | .ok a => stanzaP s f false i a:=by
 unfold lineP; rw [if_neg (by simp),if_neg (by rw [h]; simp),if_neg (by rw [h0]; simp)]; rfl
theorem off_keepB {w W W' : World} {B rb : Nat} (h : Below B w W) (ho : Off [rb] W W') (hB : B ≤ rb) (hBw : B ≤ w.heap.size) : Below B w W':=h.trans (ho.keep (Nat.le_trans hBw h.size) hB)
theorem below_keepB {w W W' : World} {B : Nat} (h : Below B w W) (hb : Below W.heap.size W W') (hBw : B ≤ w.heap.size) : Below B w W':=h.trans ((Off.of_below hb (Nat.le_refl _) []).below (Nat.le_trans hBw h.size) (fun _ hk => by cases hk))
theorem whole_err {B rb fb : Nat} {s : ByteArray} {w w' : World} {R : Except (Int × Nat) Fm} {c : Int} {p : Nat} (hb : Below B w w') (hR : R = .error (c,p)) : WholeOk B rb fb s w R (PanE c p) w':=by
 rw [hR]; exact ⟨hb,rfl⟩
set_option maxRecDepth 100000 in
set_option maxHeartbeats 4000000 in
theorem whole_any (B rb fb : Nat) (s : ByteArray) (vl vm vs : Value) (w : World) (h : WhJ w w B rb fb s Fm.zero 0 vl vm vs) (h9 : 9 ≤ B) (hB : B ≤ rb) :
  Calls Tryz.prog 60 #[.pointer (some ⟨rb,0,none⟩)] w (WholeOk B rb fb s w (wholeP s (s.size + 1) Fm.zero false 0)):=by
 have hsz:=h.rd.sz
 have hrb:=h.rd.lt
 have hBw : B ≤ w.heap.size:=by omega
 generalize hR : wholeP s (s.size + 1) Fm.zero false 0 = R
 have HR0:=Lib.hid hR
 have H0:=Lib.hid h
 clear h hR
 go_enter Tryz.func60,Tryz.ntmps60
 go_wp2_with fail
 go_step3
 go_wp2_with fail
 go_step3
 go_wp2_with fail
 go_loopw [2] (fun t wr => ∃ (f : Fm) (i : Nat) (ti : Bool) (q : Nat) (vl vm vs : Value),t = .bool ti ∧ s.size < q + i ∧ Hid (wholeP s q f ti i = R) ∧ Hid (WhJ w wr B rb fb s f i vl vm vs)) (fun _ wr => s.size - (match wr.cell? ⟨rb,1,none⟩ with | some v => (intOf v).toNat | none => 0))
 case atStart => exact ⟨Fm.zero,0,false,s.size + 1,vl,vm,vs,rfl,by omega,HR0,H0⟩
 case round =>
  obtain ⟨f,i,ti,q,vl,vm,vs,rfl,hq,hT,hJ⟩:=hrel
  clear H0 HR0
  have hle:=hJ.out.rd.le
  obtain ⟨r0,r1,r2,r3⟩:=hJ.out.rd.cells
  have Hms : Hid (wr.cell? ⟨rb,1,none⟩ = some (.int .i64 i)):=Lib.hid r1
  obtain ⟨q',rfl⟩ : ∃ q',q = q' + 1:=⟨q - 1,by omega⟩
  by_cases hi : i < s.size
  ·have hne : ((i : Int) == (s.size : Int)) = false:=by
    have : ¬ ((i : Int) = (s.size : Int)):=by omega
    simpa using this
   go_wp2_with fail
   go_quiet (fail)
   have HJ1:=Lib.hid (hJ.out.below (W':=wr.drewN nq) (below_drewN (Below.refl _ _) nq) h9 hB hBw)
   have Hen:=Lib.hid (ended_any rb fb s i _ HJ1.out.rd)
   go_wp2_with fail
   refine Hen.out.mono ?_
   rintro e w2 ⟨rfl,hb2⟩
   have HJ2:=Lib.hid (HJ1.out.below hb2 h9 hB hBw)
   clear hb2 Hen HJ1 hJ r0 r1 r2 r3
   rw [end_is hi]
   cases hnl : isB s i 10 with
   | true =>
    have HT2 : Hid (wholeP s q' f ti (nextN s i) = R):=Lib.hid (by rw [← hT.out,whole_nl hnl])
    go_wp2_with fail
    refine (next_m rb fb s i w2 HJ2.out.rd).mono ?_
    rintro e wn hst
    obtain ⟨rfl,hrd,ho⟩ : e = .returned (.tuple #[]) ∧ Rd wn rb fb s (nextN s i) ∧ Off [rb] w2 wn:=hst
    have HJn:=Lib.hid (HJ2.out.off hrd ho (next_ge s i) h9 hB hBw)
    have hgt:=next_gt (s:=s) (i:=i) (j:=i) hi (Nat.le_refl _)
    clear hrd ho
    go_wp2_with fail
    go_roundw
    case rel => exact ⟨f,nextN s i,ti,q',_,_,_,rfl,by omega,HT2,HJn⟩
    case measure =>
     have e1:=HJn.out.rd.cells.2.1
     have e2:=HJn.out.rd.le
     rw [e1,Hms.out]
     simp only [intOf]
     omega
   | false =>
    go_wp2_with fail
    refine (is_any rb fb s i 35 w2 HJ2.out.rd).mono ?_
    rintro e w3 ⟨rfl,hb3⟩
    have HJ3:=Lib.hid (HJ2.out.below hb3 h9 hB hBw)
    clear hb3 HJ2
    have e35 : ((35 : UInt8).toNat : Int) = 35:=rfl
    rw [e35]
    cases hha : isB s i 35 with
    | true =>
     have HT2 : Hid (wholeP s q' f ti (nextN s (restE s i)) = R):=Lib.hid (by rw [← hT.out,whole_hash hnl hha])
     have hij:=(restE_le (s:=s) i hle).1
     go_wp2_with fail
     refine (rest_any rb fb s i w3 HJ3.out.rd).mono ?_
     rintro e w4 ⟨rfl,hrd4,ho4⟩
     have HJ4:=Lib.hid (HJ3.out.off hrd4 ho4 hij h9 hB hBw)
     clear hrd4 ho4
     go_wp2_with fail
     refine (next_m rb fb s (restE s i) w4 HJ4.out.rd).mono ?_
     rintro e wn hst
     obtain ⟨rfl,hrd,ho⟩ : e = .returned (.tuple #[]) ∧ Rd wn rb fb s (nextN s (restE s i)) ∧ Off [rb] w4 wn:=hst
     have HJn:=Lib.hid (HJ4.out.off hrd ho (next_ge s (restE s i)) h9 hB hBw)
     have hgt:=next_gt (s:=s) (i:=i) (j:=(restE s i)) hi (hij)
     clear hrd ho
     go_wp2_with fail
     go_roundw
     case rel => exact ⟨f,nextN s (restE s i),ti,q',_,_,_,rfl,by omega,HT2,HJn⟩
     case measure =>
      have e1:=HJn.out.rd.cells.2.1
      have e2:=HJn.out.rd.le
      rw [e1,Hms.out]
      simp only [intOf]
      omega
    | false =>
     have HT2 : Hid ((match lineP s f ti i with | .error e => .error e | .ok (f',j) => wholeP s q' f' true (nextN s j)) = R):=Lib.hid (by rw [← hT.out,whole_line hi hnl hha]; rfl)
     clear hT hnl hha
     cases ti with
     | false =>
      have hT3:=HT2.out
      rw [lineP_title] at hT3
      have HT3:=Lib.hid hT3
      clear hT3 HT2
      have Hms1:=Lib.hid (must_any rb fb s ⟨#[102,111,114,109,32]⟩ i w3 HJ3.out.rd (by decide))
      go_wp2_with fail
      refine Hms1.out.mono ?_
      rintro e w4 hst0
      have hst : StepOk rb fb s w3 (.tuple #[]) (liftE (mustP s FORM i)) e w4:=hst0
      clear hst0 Hms1
      cases hX : liftE (mustP s FORM i) with
      | error ep =>
       obtain ⟨c,p⟩:=ep
       have hR2:=HT3.out
       rw [hX] at hst hR2
       obtain ⟨rfl,ho⟩:=hst
       exact ⟨rfl,whole_err (off_keepB HJ3.out.bl ho hB hBw) hR2.symm⟩
      | ok a =>
       have hR2:=HT3.out
       rw [hX] at hst hR2
       simp only [] at hR2
       obtain ⟨rfl,hrd4,ho4⟩:=hst
       have hia : i ≤ a:=by have:=lift_len hX; omega
       have HJ4:=Lib.hid (HJ3.out.off hrd4 ho4 hia h9 hB hBw)
       have HT4:=Lib.hid hR2
       clear hR2 HT3 hX hrd4 ho4
       go_wp2_with fail
       refine (ended_any rb fb s a w4 HJ4.out.rd).mono ?_
       rintro e w5 ⟨rfl,hb5⟩
       have HJ5:=Lib.hid (HJ4.out.below hb5 h9 hB hBw)
       clear hb5 HJ4
       cases hen : endB s a with
       | true =>
        have hR2:=HT4.out
        rw [hen,if_pos rfl] at hR2
        go_wp2_with fail
        refine (wrong_any rb fb s a w5 HJ5.out.rd).mono ?_
        rintro e w6 ⟨rfl,hb6⟩
        exact ⟨rfl,whole_err (below_keepB HJ5.out.bl hb6 hBw) hR2.symm⟩
       | false =>
        have hR2:=HT4.out
        rw [hen,if_neg (by simp)] at hR2
        simp only [] at hR2
        have HT5:=Lib.hid hR2
        have hla:=HJ5.out.rd.le
        have hae:=restE_le (s:=s) a hla
        obtain ⟨s0,s1,s2,s3⟩:=HJ5.out.rd.cells
        have hD5:=HJ5.out.below (W':=w5.drew) (below_drewN (Below.refl _ _) 1) h9 hB hBw
        have HD5:=Lib.hid hD5
        have hT : s.extract a (restE s a) = ⟨(cutB s a (restE s a)).toArray⟩:=by
         apply ByteArray.ext
         rw [← extract_cut]
        have HN:=Lib.hid (fun (w6 : World) (hr : Rd w6 rb fb s (restE s a)) (ho : Off [rb] w5.drew w6) => (HD5.out.off hr ho hae.1 h9 hB hBw).name (cutB s a (restE s a)) hB h9 hBw)
        have Hrs : Hid (Calls Tryz.prog 90 #[.pointer (some ⟨rb,0,none⟩)] w5.drew (fun e w' => e = .returned (.string ⟨(cutB s a (restE s a)).toArray⟩) ∧ Rd w' rb fb s (restE s a) ∧ Off [rb] w5.drew w')):=Lib.hid ((rest_any rb fb s a w5.drew HD5.out.rd).mono (by rintro e w' ⟨h1,h2,h3⟩; exact ⟨by rw [h1,hT],h2,h3⟩))
        clear hR2 HT4 hen hD5 hT
        go_wp2_with fail
        go_region_law (go_simp; go_at_call 90; refine Hrs.out.mono ?_; rintro e w6 ⟨rfl,hr6,ho6⟩; obtain ⟨hJ6,⟨v6,c6⟩,z6⟩:=HN.out w6 hr6 ho6; have HJ6:=Lib.hid hJ6; have t2:=hr6.cells.2.2.1; clear hJ6 hr6 ho6)
        all_goals
         go_wp2_with fail
         refine (next_m rb fb s (restE s a) (w6.setCell ⟨fb,0,none⟩ (.string ⟨(cutB s a (restE s a)).toArray⟩)) HJ6.out.rd).mono ?_
         rintro e wn hst
         obtain ⟨rfl,hrd,ho⟩ : e = .returned (.tuple #[]) ∧ Rd wn rb fb s (nextN s (restE s a)) ∧ Off [rb] (w6.setCell ⟨fb,0,none⟩ (.string ⟨(cutB s a (restE s a)).toArray⟩)) wn:=hst
         have HJn:=Lib.hid (HJ6.out.off hrd ho (next_ge s (restE s a)) h9 hB hBw)
         have hgt:=next_gt (s:=s) (i:=i) (j:=(restE s a)) hi (by omega)
         clear hrd ho
         go_wp2_with fail
         go_roundw
         case rel => exact ⟨{ f with name:=cutB s a (restE s a) },nextN s (restE s a),true,q',_,_,_,rfl,by omega,HT5,HJn⟩
         case measure =>
          have e1:=HJn.out.rd.cells.2.1
          have e2:=HJn.out.rd.le
          rw [e1,Hms.out]
          simp only [intOf]
          omega
     | true =>
      have hJ3:=HJ3
      go_wp2_with fail
      refine (is_any rb fb s i 109 w3 HJ3.out.rd).mono ?_
      rintro e w4 ⟨rfl,hb4⟩
      have HJ4:=Lib.hid (HJ3.out.below hb4 h9 hB hBw)
      clear hb4 HJ3 hJ3
      have e109 : ((109 : UInt8).toNat : Int) = 109:=rfl
      rw [e109]
      obtain ⟨s0,s1,s2,s3⟩:=HJ4.out.rd.cells
      obtain ⟨g0,g1,g2,g3,g4,g5,g6,g7⟩:=HJ4.out.fm.cells
      obtain ⟨vis,hrw,_⟩:=HJ4.out.fm.r
      obtain ⟨As,cs,hvs⟩:=own_slice hrw.o
      subst hvs
      clear hrw g0 g1 g2 g4 g5 g6 g7
      by_cases hmm : isB s i 109 = true ∧ f.rows = []
      ·obtain ⟨hm1,hm2⟩:=hmm
       have hlz : ((f.rows.length : Int) == 0) = true:=by rw [hm2]; rfl
       have hT3:=HT2.out
       rw [lineP_metre hm1 (by rw [hm2]; rfl)] at hT3
       have HT3:=Lib.hid hT3
       rw [hm1]
       have Hline:=Lib.hid (metre_any B rb fb s f i i vl vm (.slice As f.rows.length cs) w4 HJ4.out.rd HJ4.out.vars h9 hB HJ4.out.fm HJ4.out.ok (Nat.le_refl _) hm2)
       clear hT3 HT2 hm1
       go_wp2_with fail
       refine Hline.out.mono ?_
       rintro e w5 ⟨hb5,hst⟩
       clear Hline
       cases hX : metreP s f i with
       | error ep =>
        obtain ⟨c,p⟩:=ep
        have hR2:=HT3.out
        rw [hX] at hst hR2
        subst hst
        exact ⟨rfl,whole_err (HJ4.out.bl.trans hb5) hR2.symm⟩
       | ok fj =>
        obtain ⟨f',j⟩:=fj
        have hR2:=HT3.out
        rw [hX] at hst hR2
        simp only [] at hR2
        obtain ⟨rfl,hrd,hk5,vl',vm',vs',hm5⟩:=hst
        have hij:=metreP_ge hX
        have HJ5:=Lib.hid (HJ4.out.line hb5 hrd hk5 hm5 h9)
        have HT4:=Lib.hid hR2
        clear hR2 HT3 hX hrd hk5 hm5 hb5
        go_wp2_with fail
        refine (next_m rb fb s j w5 HJ5.out.rd).mono ?_
        rintro e wn hst
        obtain ⟨rfl,hrd,ho⟩ : e = .returned (.tuple #[]) ∧ Rd wn rb fb s (nextN s j) ∧ Off [rb] w5 wn:=hst
        have HJn:=Lib.hid (HJ5.out.off hrd ho (next_ge s j) h9 hB hBw)
        have hgt:=next_gt (s:=s) (i:=i) (j:=j) hi (hij)
        clear hrd ho
        go_wp2_with fail
        go_roundw
        case rel => exact ⟨f',nextN s j,true,q',_,_,_,rfl,by omega,HT4,HJn⟩
        case measure =>
         have e1:=HJn.out.rd.cells.2.1
         have e2:=HJn.out.rd.le
         rw [e1,Hms.out]
         simp only [intOf]
         omega
      ·have hmb : (isB s i 109 && f.rows.isEmpty) = false:=by
        cases hb : isB s i 109 with
        | false => rfl
        | true =>
         cases hr : f.rows with
         | nil => exact absurd ⟨hb,hr⟩ hmm
         | cons x l => rfl
       have hlz : isB s i 109 = true → ((f.rows.length : Int) == 0) = false:=fun hb => by
        cases hr : f.rows with
        | nil => exact absurd ⟨hb,hr⟩ hmm
        | cons x l =>
         have : ¬ (((x :: l).length : Int) = 0):=by simp; omega
         simpa using this
       clear hmm
       have Hrd4:=Lib.hid (is_any rb fb s i 114 w4 HJ4.out.rd)
       cases hb1 : isB s i 109 with
       | false =>
        clear hlz
        go_wp2_with fail
        refine Hrd4.out.mono ?_
        rintro e w5 ⟨rfl,hb5⟩
        have HJ5:=Lib.hid (HJ4.out.below hb5 h9 hB hBw)
        clear hb5
        have e114 : ((114 : UInt8).toNat : Int) = 114:=rfl
        rw [e114]
        obtain ⟨t0,t1,t2,t3⟩:=HJ5.out.rd.cells
        cases hb2 : isB s i 114 with
        | true =>
         have hT3:=HT2.out
         rw [lineP_round hmb hb2] at hT3
         have HT3:=Lib.hid hT3
         have Hline:=Lib.hid (round_any B rb fb s f i i vl vm (.slice As f.rows.length cs) w5 HJ5.out.rd HJ5.out.vars h9 hB HJ5.out.fm HJ5.out.ok (Nat.le_refl _))
         clear hT3 HT2
         go_wp2_with fail
         refine Hline.out.mono ?_
         rintro e w6 ⟨hb6,hst⟩
         clear Hline
         cases hX : roundP s f i with
         | error ep =>
          obtain ⟨c,p⟩:=ep
          have hR2:=HT3.out
          rw [hX] at hst hR2
          subst hst
          exact ⟨rfl,whole_err (HJ5.out.bl.trans hb6) hR2.symm⟩
         | ok fj =>
          obtain ⟨f',j⟩:=fj
          have hR2:=HT3.out
          rw [hX] at hst hR2
          simp only [] at hR2
          obtain ⟨rfl,hrd,hk6,vs',hm6⟩:=hst
          have hij:=roundP_ge hX
          have HJ6:=Lib.hid (HJ5.out.line hb6 hrd hk6 hm6 h9)
          have HT4:=Lib.hid hR2
          clear hR2 HT3 hX hrd hk6 hm6 hb6
          go_wp2_with fail
          refine (next_m rb fb s j w6 HJ6.out.rd).mono ?_
          rintro e wn hst
          obtain ⟨rfl,hrd,ho⟩ : e = .returned (.tuple #[]) ∧ Rd wn rb fb s (nextN s j) ∧ Off [rb] w6 wn:=hst
          have HJn:=Lib.hid (HJ6.out.off hrd ho (next_ge s j) h9 hB hBw)
          have hgt:=next_gt (s:=s) (i:=i) (j:=j) hi (hij)
          clear hrd ho
          go_wp2_with fail
          go_roundw
          case rel => exact ⟨f',nextN s j,true,q',_,_,_,rfl,by omega,HT4,HJn⟩
          case measure =>
           have e1:=HJn.out.rd.cells.2.1
           have e2:=HJn.out.rd.le
           rw [e1,Hms.out]
           simp only [intOf]
           omega
        | false =>
         have hT3:=HT2.out
         rw [lineP_stanza hmb hb2] at hT3
         have HT3:=Lib.hid hT3
         have Hms1:=Lib.hid (must_any rb fb s ⟨#[115,116,97,110,122,97]⟩ i w5 HJ5.out.rd (by decide))
         clear hT3 HT2
         go_wp2_with fail
         refine Hms1.out.mono ?_
         rintro e w6 hst0
         have hst : StepOk rb fb s w5 (.tuple #[]) (liftE (mustP s STANZA i)) e w6:=hst0
         clear hst0 Hms1
         cases hX : liftE (mustP s STANZA i) with
         | error ep =>
          obtain ⟨c,p⟩:=ep
          have hR2:=HT3.out
          rw [hX] at hst hR2
          obtain ⟨rfl,ho⟩:=hst
          exact ⟨rfl,whole_err (off_keepB HJ5.out.bl ho hB hBw) hR2.symm⟩
         | ok a =>
          have hR2:=HT3.out
          rw [hX] at hst hR2
          simp only [] at hR2
          obtain ⟨rfl,hrd6,ho6⟩:=hst
          have hia : i + 6 = a:=by have:=lift_len hX; have e : STANZA.length = 6:=rfl; omega
          have HJ6:=Lib.hid (HJ5.out.off hrd6 ho6 (show i ≤ a by omega) h9 hB hBw)
          have HT4:=Lib.hid hR2
          have Hline:=Lib.hid (stanza_any B rb fb s f false i a i vl vm (.slice As f.rows.length cs) w6 HJ6.out.rd HJ6.out.vars h9 hB HJ6.out.fm HJ5.out.ok (by omega))
          clear hR2 HT3 hX hrd6 ho6
          go_wp2_with fail
          refine Hline.out.mono ?_
          rintro e w7 ⟨hb7,hst⟩
          clear Hline
          cases hX : stanzaP s f false i a with
          | error ep =>
           obtain ⟨c,p⟩:=ep
           have hR2:=HT4.out
           rw [hX] at hst hR2
           subst hst
           exact ⟨rfl,whole_err (HJ6.out.bl.trans hb7) hR2.symm⟩
          | ok fj =>
           obtain ⟨f',j⟩:=fj
           have hR2:=HT4.out
           rw [hX] at hst hR2
           simp only [] at hR2
           obtain ⟨rfl,hrd,hk7,vs',hm7⟩:=hst
           have hij : i ≤ j:=by have:=stanzaP_ge hX; omega
           have HJ7:=Lib.hid (HJ6.out.line hb7 hrd hk7 hm7 h9)
           have HT5:=Lib.hid hR2
           clear hR2 HT4 hX hrd hk7 hm7 hb7
           go_wp2_with fail
           refine (next_m rb fb s j w7 HJ7.out.rd).mono ?_
           rintro e wn hst
           obtain ⟨rfl,hrd,ho⟩ : e = .returned (.tuple #[]) ∧ Rd wn rb fb s (nextN s j) ∧ Off [rb] w7 wn:=hst
           have HJn:=Lib.hid (HJ7.out.off hrd ho (next_ge s j) h9 hB hBw)
           have hgt:=next_gt (s:=s) (i:=i) (j:=j) hi (hij)
           clear hrd ho
           go_wp2_with fail
           go_roundw
           case rel => exact ⟨f',nextN s j,true,q',_,_,_,rfl,by omega,HT5,HJn⟩
           case measure =>
            have e1:=HJn.out.rd.cells.2.1
            have e2:=HJn.out.rd.le
            rw [e1,Hms.out]
            simp only [intOf]
            omega
       | true =>
        have hlz1:=hlz hb1
        clear hlz
        go_wp2_with fail
        refine Hrd4.out.mono ?_
        rintro e w5 ⟨rfl,hb5⟩
        have HJ5:=Lib.hid (HJ4.out.below hb5 h9 hB hBw)
        clear hb5
        have e114 : ((114 : UInt8).toNat : Int) = 114:=rfl
        rw [e114]
        obtain ⟨t0,t1,t2,t3⟩:=HJ5.out.rd.cells
        cases hb2 : isB s i 114 with
        | true =>
         have hT3:=HT2.out
         rw [lineP_round hmb hb2] at hT3
         have HT3:=Lib.hid hT3
         have Hline:=Lib.hid (round_any B rb fb s f i i vl vm (.slice As f.rows.length cs) w5 HJ5.out.rd HJ5.out.vars h9 hB HJ5.out.fm HJ5.out.ok (Nat.le_refl _))
         clear hT3 HT2
         go_wp2_with fail
         refine Hline.out.mono ?_
         rintro e w6 ⟨hb6,hst⟩
         clear Hline
         cases hX : roundP s f i with
         | error ep =>
          obtain ⟨c,p⟩:=ep
          have hR2:=HT3.out
          rw [hX] at hst hR2
          subst hst
          exact ⟨rfl,whole_err (HJ5.out.bl.trans hb6) hR2.symm⟩
         | ok fj =>
          obtain ⟨f',j⟩:=fj
          have hR2:=HT3.out
          rw [hX] at hst hR2
          simp only [] at hR2
          obtain ⟨rfl,hrd,hk6,vs',hm6⟩:=hst
          have hij:=roundP_ge hX
          have HJ6:=Lib.hid (HJ5.out.line hb6 hrd hk6 hm6 h9)
          have HT4:=Lib.hid hR2
          clear hR2 HT3 hX hrd hk6 hm6 hb6
          go_wp2_with fail
          refine (next_m rb fb s j w6 HJ6.out.rd).mono ?_
          rintro e wn hst
          obtain ⟨rfl,hrd,ho⟩ : e = .returned (.tuple #[]) ∧ Rd wn rb fb s (nextN s j) ∧ Off [rb] w6 wn:=hst
          have HJn:=Lib.hid (HJ6.out.off hrd ho (next_ge s j) h9 hB hBw)
          have hgt:=next_gt (s:=s) (i:=i) (j:=j) hi (hij)
          clear hrd ho
          go_wp2_with fail
          go_roundw
          case rel => exact ⟨f',nextN s j,true,q',_,_,_,rfl,by omega,HT4,HJn⟩
          case measure =>
           have e1:=HJn.out.rd.cells.2.1
           have e2:=HJn.out.rd.le
           rw [e1,Hms.out]
           simp only [intOf]
           omega
        | false =>
         have hT3:=HT2.out
         rw [lineP_stanza hmb hb2] at hT3
         have HT3:=Lib.hid hT3
         have Hms1:=Lib.hid (must_any rb fb s ⟨#[115,116,97,110,122,97]⟩ i w5 HJ5.out.rd (by decide))
         clear hT3 HT2
         go_wp2_with fail
         refine Hms1.out.mono ?_
         rintro e w6 hst0
         have hst : StepOk rb fb s w5 (.tuple #[]) (liftE (mustP s STANZA i)) e w6:=hst0
         clear hst0 Hms1
         cases hX : liftE (mustP s STANZA i) with
         | error ep =>
          obtain ⟨c,p⟩:=ep
          have hR2:=HT3.out
          rw [hX] at hst hR2
          obtain ⟨rfl,ho⟩:=hst
          exact ⟨rfl,whole_err (off_keepB HJ5.out.bl ho hB hBw) hR2.symm⟩
         | ok a =>
          have hR2:=HT3.out
          rw [hX] at hst hR2
          simp only [] at hR2
          obtain ⟨rfl,hrd6,ho6⟩:=hst
          have hia : i + 6 = a:=by have:=lift_len hX; have e : STANZA.length = 6:=rfl; omega
          have HJ6:=Lib.hid (HJ5.out.off hrd6 ho6 (show i ≤ a by omega) h9 hB hBw)
          have HT4:=Lib.hid hR2
          have Hline:=Lib.hid (stanza_any B rb fb s f false i a i vl vm (.slice As f.rows.length cs) w6 HJ6.out.rd HJ6.out.vars h9 hB HJ6.out.fm HJ5.out.ok (by omega))
          clear hR2 HT3 hX hrd6 ho6
          go_wp2_with fail
          refine Hline.out.mono ?_
          rintro e w7 ⟨hb7,hst⟩
          clear Hline
          cases hX : stanzaP s f false i a with
          | error ep =>
           obtain ⟨c,p⟩:=ep
           have hR2:=HT4.out
           rw [hX] at hst hR2
           subst hst
           exact ⟨rfl,whole_err (HJ6.out.bl.trans hb7) hR2.symm⟩
          | ok fj =>
           obtain ⟨f',j⟩:=fj
           have hR2:=HT4.out
           rw [hX] at hst hR2
           simp only [] at hR2
           obtain ⟨rfl,hrd,hk7,vs',hm7⟩:=hst
           have hij : i ≤ j:=by have:=stanzaP_ge hX; omega
           have HJ7:=Lib.hid (HJ6.out.line hb7 hrd hk7 hm7 h9)
           have HT5:=Lib.hid hR2
           clear hR2 HT4 hX hrd hk7 hm7 hb7
           go_wp2_with fail
           refine (next_m rb fb s j w7 HJ7.out.rd).mono ?_
           rintro e wn hst
           obtain ⟨rfl,hrd,ho⟩ : e = .returned (.tuple #[]) ∧ Rd wn rb fb s (nextN s j) ∧ Off [rb] w7 wn:=hst
           have HJn:=Lib.hid (HJ7.out.off hrd ho (next_ge s j) h9 hB hBw)
           have hgt:=next_gt (s:=s) (i:=i) (j:=j) hi (hij)
           clear hrd ho
           go_wp2_with fail
           go_roundw
           case rel => exact ⟨f',nextN s j,true,q',_,_,_,rfl,by omega,HT5,HJn⟩
           case measure =>
            have e1:=HJn.out.rd.cells.2.1
            have e2:=HJn.out.rd.le
            rw [e1,Hms.out]
            simp only [intOf]
            omega
  ·have hne : ((i : Int) == (s.size : Int)) = true:=by
    have : (i : Int) = (s.size : Int):=by omega
    simpa using this
   have HJ1:=Lib.hid (fun nq => hJ.out.below (W':=wr.drewN nq) (below_drewN (Below.refl _ _) nq) h9 hB hBw)
   obtain ⟨g0,g1,g2,g3,g4,g5,g6,g7⟩:=hJ.out.fm.cells
   obtain ⟨vis,hrw,_⟩:=hJ.out.fm.r
   obtain ⟨As,cs,hvs⟩:=own_slice hrw.o
   subst hvs
   clear hrw g0 g1 g2 g4 g5 g6 g7
   have hT3:=hT.out
   rw [whole_out hi] at hT3
   have hi2 : i = s.size:=by omega
   cases hrr : f.rows with
   | nil =>
    have hlz : ((f.rows.length : Int) == 0) = true:=by rw [hrr]; rfl
    have hR2 : R = .error (180,i):=by rw [← hT3,hrr,hi2]; rfl
    have HR2:=Lib.hid hR2
    clear hR2 hT3 hrr
    go_wp2_with fail
    go_quiet (fail)
    have Hwr:=Lib.hid (wrong_any rb fb s i _ (HJ1.out nq).rd)
    go_wp2_with fail
    refine Hwr.out.mono ?_
    rintro e w5 ⟨rfl,hb5⟩
    exact ⟨rfl,whole_err (below_keepB (HJ1.out nq).bl hb5 hBw) HR2.out⟩
   | cons x l =>
    have hlz : ((f.rows.length : Int) == 0) = false:=by
     have : ¬ ((f.rows.length : Int) = 0):=by rw [hrr]; simp; omega
     simpa using this
    have hR2 : R = .ok f:=by rw [← hT3,hrr]; rfl
    have HR2:=Lib.hid hR2
    clear hR2 hT3 hrr
    go_wp2_with fail
    go_quiet (fail)
    go_wp2_with fail
    refine bodyPost_end (results_none rfl _ _ _) rfl ?_
    rw [HR2.out]
    exact ⟨(HJ1.out nq).bl,rfl,_,_,_,_,(HJ1.out nq).rd,(HJ1.out nq).ok,(HJ1.out nq).fm⟩
end Go.Proofs.YtgklikkddckgbaaGreatDoor.Mo
namespace Go.Proofs.YtgklikkddckgbaaGreatDoor.Mo
set_option linter.unusedVariables false
set_option linter.unusedSimpArgs false
open Go.RowKit
theorem neI (c : Int) (p : Nat) (w : World) : (binOp .neq 20 (.iface 133 (.agg #[.int .i64 c, .int .i64 p])) .nilIface).run Tryz.prog w = .ok (.bool true) w:=by kernel_rfl
set_option maxRecDepth 100000 in
set_option maxHeartbeats 1000000 in
theorem caught_any (pf ps : Nat) (c : Int) (p : Nat) (x y0 y1 : Value) (tf ts : TypeId) (older : List PanicEntry) (w : World) (hf : w.heap[pf]? = some (.cells #[x] tf (0,0))) (hs : w.heap[ps]? = some (.cells #[y0,y1] ts (0,0))) (hne : pf ≠ ps) :
  CallsD Tryz.prog 59 #[.pointer (some ⟨pf,0,none⟩), .pointer (some ⟨ps,0,none⟩)] (.panicking ({ v:=stopV c p,recovered:=false } :: older)) w fun e u' w' =>
   e = .returned (.tuple #[]) ∧ u' = .panicking ({ v:=stopV c p,recovered:=true } :: older) ∧ Off [pf,ps] w w' ∧ w'.heap[pf]? = some (.cells #[.pointer none] tf (0,0)) ∧ w'.heap[ps]? = some (.cells #[.int .i64 c, .int .i64 p] ts (0,0)):=by
 have f0 : w.cell? ⟨pf,0,none⟩ = some x:=cell_of_row _ _ 0 _ _ (0,0) hf
 have s0 : w.cell? ⟨ps,0,none⟩ = some y0:=cell_of_row _ _ 0 _ _ (0,0) hs
 have s1 : w.cell? ⟨ps,1,none⟩ = some y1:=cell_of_row _ _ 1 _ _ (0,0) hs
 have hN:=neI c p
 have hA : ∀ w : World,(Instr.typeAssert (.iface 133 (.agg #[.int .i64 c, .int .i64 p])) 20 133 true).run Tryz.prog w = .ok (.tuple #[.agg #[.int .i64 c, .int .i64 p], .bool true]) w:=fun w => by kernel_rfl
 refine callsD_of_wpS Tryz.func59 rfl fun c₀ cs hu => ?_
 apply wpS_seq
 apply wpS_region
 simp [wpOpsS,go_sem,recoverD,hu,Tryz.ntmps59,Exit.thenS,stopV]
 refine wpS_of_wp ?_
 change Code.wp _ _ _ { tmps:= #[.pointer (some ⟨pf,0,none⟩), .pointer (some ⟨ps,0,none⟩), .iface 133 (.agg #[.int .i64 c, .int .i64 p]),undef,undef, .iface 133 (.agg #[.int .i64 c, .int .i64 p]),undef,undef,undef,undef,undef,undef,undef,undef,undef,undef,undef,undef],defers:= [] } _
 go_wp2_with fail
 have hpl : pf < w.heap.size:=(Array.getElem?_eq_some_iff.1 hf).1
 have hsl : ps < w.heap.size:=(Array.getElem?_eq_some_iff.1 hs).1
 have hbW : Below w.heap.size w (w.alloc (.cells #[.int .i64 c, .int .i64 p] 133)):=(Below.refl _ _).alloc (Nat.le_refl _) _
 have hnb : (w.alloc (.cells #[.int .i64 c, .int .i64 p] 133)).heap[w.heap.size]? = some (.cells #[.int .i64 c, .int .i64 p] 133 (0,0)):=World.alloc_heap_new w _
 have hpf1:=(hbW.block pf hpl).trans hf
 have hps1:=(hbW.block ps hsl).trans hs
 generalize w.alloc (.cells #[.int .i64 c, .int .i64 p] 133) = W1 at *
 generalize hn : w.heap.size = nb at *
 have n1 : pf ≠ nb:=by omega
 have n2 : ps ≠ nb:=by omega
 have n3 : nb ≠ pf:=by omega
 have n4 : nb ≠ ps:=by omega
 have n5 : ps ≠ pf:=by omega
 have g0 : W1.cell? ⟨pf,0,none⟩ = some x:=cell_of_row _ _ 0 _ _ (0,0) hpf1
 have g1 : W1.cell? ⟨ps,0,none⟩ = some y0:=cell_of_row _ _ 0 _ _ (0,0) hps1
 have g2 : W1.cell? ⟨ps,1,none⟩ = some y1:=cell_of_row _ _ 1 _ _ (0,0) hps1
 have g3 : W1.cell? ⟨nb,0,none⟩ = some (.int .i64 c):=cell_of_row _ _ 0 _ _ (0,0) hnb
 have g4 : W1.cell? ⟨nb,1,none⟩ = some (.int .i64 p):=cell_of_row _ _ 1 _ _ (0,0) hnb
 have z0 : W1.frozen? ⟨pf,0,none⟩ = false:=frozen_of_row _ _ 0 _ _ hpf1
 have z1 : W1.frozen? ⟨ps,0,none⟩ = false:=frozen_of_row _ _ 0 _ _ hps1
 have z2 : W1.frozen? ⟨ps,1,none⟩ = false:=frozen_of_row _ _ 1 _ _ hps1
 have hfin : Off [pf,ps] w (((W1.setCell ⟨pf,0,none⟩ (.pointer none)).setCell ⟨ps,0,none⟩ (.int .i64 c)).setCell ⟨ps,1,none⟩ (.int .i64 p)) ∧ (((W1.setCell ⟨pf,0,none⟩ (.pointer none)).setCell ⟨ps,0,none⟩ (.int .i64 c)).setCell ⟨ps,1,none⟩ (.int .i64 p)).heap[pf]? = some (.cells #[.pointer none] tf (0,0)) ∧ (((W1.setCell ⟨pf,0,none⟩ (.pointer none)).setCell ⟨ps,0,none⟩ (.int .i64 c)).setCell ⟨ps,1,none⟩ (.int .i64 p)).heap[ps]? = some (.cells #[.int .i64 c, .int .i64 p] ts (0,0)):=by
  have o1:=Off.setCell W1 pf 0 (.pointer none)
  have o2:=Off.setCell (W1.setCell ⟨pf,0,none⟩ (.pointer none)) ps 0 (.int .i64 c)
  have o3:=Off.setCell ((W1.setCell ⟨pf,0,none⟩ (.pointer none)).setCell ⟨ps,0,none⟩ (.int .i64 c)) ps 1 (.int .i64 p)
  have h1:=heap_setCell_same W1 pf 0 _ _ (.pointer none) hpf1
  have hl1 : pf < W1.heap.size:=(Array.getElem?_eq_some_iff.1 hpf1).1
  have hl2 : ps < W1.heap.size:=(Array.getElem?_eq_some_iff.1 hps1).1
  have s1:=(o1.block ps hl2 (by simp; omega)).trans hps1
  have s2:=heap_setCell_same _ ps 0 _ _ (.int .i64 c) s1
  have s3:=heap_setCell_same _ ps 1 _ _ (.int .i64 p) s2
  have p2:=(o2.block pf (Nat.lt_of_lt_of_le hl1 o1.size) (by simp; omega)).trans h1
  have p3:=(o3.block pf (Nat.lt_of_lt_of_le (Nat.lt_of_lt_of_le hl1 o1.size) o2.size) (by simp; omega)).trans p2
  refine ⟨?_,p3,s3⟩
  have ob:=Off.of_below hbW (by omega) [pf,ps]
  exact ((ob.trans (o1.mono (fun k hk => .inl (by simp at hk ⊢; exact .inl hk)))).trans (o2.mono (fun k hk => .inl (by simp at hk ⊢; exact .inr hk)))).trans (o3.mono (fun k hk => .inl (by simp at hk ⊢; exact .inr hk)))
 have Hfin:=Lib.hid hfin
 clear hfin hbW hnb hpf1 hps1 hf hs hN hA
 go_region
 exact ⟨rfl,_,rfl,_,results_none rfl _ _ _,rfl,rfl,Hfin.out.1.trans (Off.drew _ _),Hfin.out.2.1,Hfin.out.2.2⟩
theorem idle_any (pf ps : Nat) (w : World) :
  CallsD Tryz.prog 59 #[.pointer (some ⟨pf,0,none⟩), .pointer (some ⟨ps,0,none⟩)] .returning w fun e u' w' => e = .returned (.tuple #[]) ∧ u' = .returning ∧ w' = w:=by
 have hN : ∀ w : World,(binOp .neq 20 .nilIface .nilIface).run Tryz.prog w = .ok (.bool false) w:=fun w => by kernel_rfl
 refine callsD_of_wpS Tryz.func59 rfl fun c₀ cs hu => ?_
 apply wpS_seq
 apply wpS_region
 simp [wpOpsS,go_sem,recoverD,hu,Tryz.ntmps59,Exit.thenS]
 refine wpS_of_wp ?_
 change Code.wp _ _ _ { tmps:= #[.pointer (some ⟨pf,0,none⟩), .pointer (some ⟨ps,0,none⟩), .nilIface,undef,undef, .nilIface,undef,undef,undef,undef,undef,undef,undef,undef,undef,undef,undef,undef],defers:= [] } _
 go_wp2_with fail
 refine ⟨rfl, .returning,?_,_,results_none rfl _ _ _,rfl,rfl,rfl⟩
 cases c₀
 simp_all
/-- what lies below B is not the form's -/
theorem FmM.offLow {w w' : World} {B fb : Nat} {f : Fm} {vl vm vs : Value} {L : List Nat} (h : FmM w B fb f vl vm vs) (ho : Off L w w') (hl : ∀ k ∈ L,k < B) : FmM w' B fb f vl vm vs:=by
 have own : ∀ {e z n : Nat} {v : Value} {xs : List Value},w.ownsRow B e z v n xs → w'.ownsRow B e z v n xs:=fun {e z n v xs} hq => ho.own hq (fun k hk hm => by have:=(hq.lt k hk).1; have:=hl k hm; omega)
 obtain ⟨cs,hm⟩:=h.m
 obtain ⟨vis,hr,hi⟩:=h.r
 have hfB:=h.hB
 refine ⟨(ho.block fb h.lt (fun hm => by have:=hl _ hm; omega)).trans h.x,h.hB,own h.l,⟨cs,hm.n,own hm.o,fun k hk => ?_⟩,⟨vis,⟨hr.n,own hr.o,hr.it⟩,fun k hk => ?_⟩⟩
 ·obtain ⟨a,vs,b⟩:=hm.m k hk
  exact ⟨a,vs,b.vl,own b.feet,fun j hj => own (b.ways j hj),own b.ends,own b.brks,b.apart⟩
 ·obtain ⟨vhs,h2⟩:=hi k hk
  exact ⟨vhs,h2.n,own h2.o,fun j hj => own (h2.h j hj)⟩
theorem FmM.mono {w : World} {B C fb : Nat} {f : Fm} {vl vm vs : Value} (h : FmM w B fb f vl vm vs) (hC : C ≤ B) : FmM w C fb f vl vm vs:=by
 obtain ⟨cs,hm⟩:=h.m
 obtain ⟨vis,hr,hi⟩:=h.r
 refine ⟨h.x,Nat.le_trans hC h.hB,own_mono h.l hC,⟨cs,hm.n,own_mono hm.o hC,fun k hk => ?_⟩,⟨vis,⟨hr.n,own_mono hr.o hC,hr.it⟩,fun k hk => ?_⟩⟩
 ·obtain ⟨a,vs,b⟩:=hm.m k hk
  exact ⟨a,vs,OM.mono b hC⟩
 ·obtain ⟨vhs,h2⟩:=hi k hk
  exact ⟨vhs,h2.mono hC⟩
def FormOk (s : ByteArray) (w : World) (e : Ending) (w' : World) : Prop:=Below w.heap.size w w' ∧
 match formP s with
 | .error (c,p) => e = .returned (.tuple #[.pointer none, .agg #[.int .i64 c, .int .i64 p]])
 | .ok f => ∃ fb vl vm vs,e = .returned (.tuple #[.pointer (some ⟨fb,0,none⟩), .agg #[.int .i64 0, .int .i64 0]]) ∧ FmM w' w.heap.size fb f vl vm vs ∧ FmOk f s.size
end Go.Proofs.YtgklikkddckgbaaGreatDoor.Mo


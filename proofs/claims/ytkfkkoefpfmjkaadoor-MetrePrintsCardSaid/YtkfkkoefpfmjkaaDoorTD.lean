import Derived.Test.YtkfkkoefpfmjkaaDoorTC
import Derived.Test.YtkfkkoefpfmjkaaDoorVF
namespace Go.Proofs.YtkfkkoefpfmjkaaDoor
set_option linter.unusedVariables false
set_option linter.unusedSimpArgs false
open Go.RowKit

/- Law 5: the walk. -/
theorem eqL_symm {α : Type} [DecidableEq α] (a b : List α) : eqL a b = eqL b a := by
  unfold eqL; exact decide_eq_decide.2 ⟨fun h => h.symm, fun h => h.symm⟩
theorem eqL_self {α : Type} [DecidableEq α] (a : List α) : eqL a a = true := decide_eq_true rfl
theorem sameP_symm (m n : Met) : sameP m n = sameP n m := by
  unfold sameP equalP eqFeet
  rw [eqL_symm (m.feet.map ftP), eqL_symm m.ends, eqL_symm m.brks, Bool.and_comm (mayB m)]
theorem sameP_self (m : Met) : sameP m m = mayB m := by
  unfold sameP equalP eqFeet
  rw [eqL_self, eqL_self, eqL_self]; simp
theorem wantP_no3 {m n : Met} (h : mayB m = true) (h2 : mayB n = true) (h3 : equalP m n = false) : sameP m n = false := by rw [sameP_yes h h2, h3]
theorem wantP_yes {m n : Met} (h : mayB m = true) (h2 : mayB n = true) (h3 : equalP m n = true) : sameP m n = true := by rw [sameP_yes h h2, h3]

set_option maxRecDepth 100000 in
set_option maxHeartbeats 16000000 in
theorem sames5_any (Af Ae Ab : Option Addr) (cf ce cb : Nat) (m : Met) (Bf Be Bb : Option Addr) (df de db : Nat) (n : Met) (w : World) (h : IsMet w w.heap.size Af Ae Ab cf ce cb m) (h2 : IsMet w w.heap.size Bf Be Bb df de db n) (hr : MetReach m) (hr2 : MetReach n) (hv : Vars w) :
    Calls Tryd.prog 5 #[.agg #[.slice Af m.feet.length cf, .slice Ae m.ends.length ce, .slice Ab m.brks.length cb], .agg #[.slice Bf n.feet.length df, .slice Be n.ends.length de, .slice Bb n.brks.length db]] w fun e w' => e = .returned (.bool true) ∧ Below w.heap.size w w' := by
  generalize hW1 : (w.alloc (.cells #[.slice Af m.feet.length cf, .slice Ae m.ends.length ce, .slice Ab m.brks.length cb] 27)).alloc (.cells #[.slice Bf n.feet.length df, .slice Be n.ends.length de, .slice Bb n.brks.length db] 27) = W1
  have sW1 : W1.heap.size = w.heap.size + 2 := by rw [← hW1]; simp
  have hB1 : Below w.heap.size w W1 := by rw [← hW1]; exact ((Below.refl _ _).alloc (Nat.le_refl _) _).alloc (by simp) _
  have hx1 : W1.heap[w.heap.size]? = some (.cells #[.slice Af m.feet.length cf, .slice Ae m.ends.length ce, .slice Ab m.brks.length cb] 27 (0, 0)) := by
    rw [← hW1]; exact (Below.heap_alloc _ _ _ (by simp)).trans (World.alloc_heap_new w _)
  have hx2 : W1.heap[w.heap.size + 1]? = some (.cells #[.slice Bf n.feet.length df, .slice Be n.ends.length de, .slice Bb n.brks.length db] 27 (0, 0)) := by
    rw [← hW1]
    have := World.alloc_heap_new (w.alloc (.cells #[.slice Af m.feet.length cf, .slice Ae m.ends.length ce, .slice Ab m.brks.length cb] 27)) (.cells #[.slice Bf n.feet.length df, .slice Be n.ends.length de, .slice Bb n.brks.length db] 27)
    rw [World.size_alloc] at this
    exact this
  have HM := Lib.hid (h.on hB1)
  have HN := Lib.hid (h2.on hB1)
  have HW1 := Lib.hid hW1
  have HB1 := Lib.hid hB1
  have Hkeep := Lib.hid fun (W2 : World) (hb2 : Below W1.heap.size W1 W2) =>
    And.intro (And.intro (cell_of_row _ _ 0 _ 27 (0, 0) ((hb2.block w.heap.size (by omega)).trans hx1)) (And.intro (cell_of_row _ _ 1 _ 27 (0, 0) ((hb2.block w.heap.size (by omega)).trans hx1)) (cell_of_row _ _ 2 _ 27 (0, 0) ((hb2.block w.heap.size (by omega)).trans hx1))))
      (And.intro (cell_of_row _ _ 0 _ 27 (0, 0) ((hb2.block (w.heap.size + 1) (by omega)).trans hx2)) (And.intro (cell_of_row _ _ 1 _ 27 (0, 0) ((hb2.block (w.heap.size + 1) (by omega)).trans hx2)) (cell_of_row _ _ 2 _ 27 (0, 0) ((hb2.block (w.heap.size + 1) (by omega)).trans hx2))))
  have Hnext := Lib.hid fun (W2 W3 : World) (hb2 : Below W1.heap.size W1 W2) (hb3 : Below W2.heap.size W2 W3) => hb2.trans (hb3.mono hb2.size)
  have HV := Lib.hid (hv.below hB1 hv.six)
  have Hwk := Lib.hid fun (W2 : World) (hb2 : Below W1.heap.size W1 W2) => wakes_any W2 (HV.out.below hb2 HV.out.six)
  have HBd := Lib.hid h.bd
  have HRe := Lib.hid hr
  clear h h2 hW1 hB1 hx1 hx2 hv hr hr2
  go_enter Tryd.func5, Tryd.ntmps5
  go_wp2_with fail
  rw [HW1.out]
  refine (Hwk.out _ (Below.refl _ _)).mono ?_
  rintro e w2 ⟨rfl, hb2⟩
  obtain ⟨⟨m0, m1, m2⟩, n0, n1, n2⟩ := Hkeep.out _ hb2
  have Hb2 := Lib.hid hb2
  have Hmay := Lib.hid (may_any Af Ae Ab cf ce cb m w2 (HM.out.on hb2))
  clear hb2
  go_wp2_with fail
  refine Hmay.out.mono ?_
  rintro e w3 ⟨rfl, hb3⟩
  have Hb3 := Lib.hid (Hnext.out _ _ Hb2.out hb3)
  obtain ⟨⟨p0, p1, p2⟩, r0, r1, r2⟩ := Hkeep.out _ Hb3.out
  clear hb3 m0 m1 m2 n0 n1 n2 Hmay
  have fin : ∀ (W : World) (X M : Bool), X = sameP m n → M = mayB m → Hid (Below W1.heap.size W1 W) →
      (∀ W', Below W.heap.size W W' → Calls Tryd.prog 21 #[.agg #[.slice Af m.feet.length cf, .slice Ae m.ends.length ce, .slice Ab m.brks.length cb], .agg #[.slice Bf n.feet.length df, .slice Be n.ends.length de, .slice Bb n.brks.length db]] W' fun e w' => e = .returned (.bool X) ∧ Below W'.heap.size W' w') ∧
      (∀ W', Below W.heap.size W W' → Calls Tryd.prog 21 #[.agg #[.slice Bf n.feet.length df, .slice Be n.ends.length de, .slice Bb n.brks.length db], .agg #[.slice Af m.feet.length cf, .slice Ae m.ends.length ce, .slice Ab m.brks.length cb]] W' fun e w' => e = .returned (.bool X) ∧ Below W'.heap.size W' w') ∧
      (∀ W', Below W.heap.size W W' → Calls Tryd.prog 22 #[.agg #[.slice Af m.feet.length cf, .slice Ae m.ends.length ce, .slice Ab m.brks.length cb]] W' (CopyOk m W')) ∧
      (∀ W', Below W.heap.size W W' → Calls Tryd.prog 20 #[.agg #[.slice Af m.feet.length cf, .slice Ae m.ends.length ce, .slice Ab m.brks.length cb]] W' fun e w' => e = .returned (.bool M) ∧ Below W'.heap.size W' w') ∧
      (∀ W', Below W.heap.size W W' → Calls Tryd.prog 11 #[] W' fun e w' => e = .returned (.bool true) ∧ Below W'.heap.size W' w') ∧
      (∀ (Cf Ce Cb : Option Addr) (kf ke kb : Nat) (Wa Wb : World), Below W.heap.size W Wa → IsMet Wa Wa.heap.size Cf Ce Cb kf ke kb m → Below Wa.heap.size Wa Wb → Calls Tryd.prog 21 #[.agg #[.slice Af m.feet.length cf, .slice Ae m.ends.length ce, .slice Ab m.brks.length cb], .agg #[.slice Cf m.feet.length kf, .slice Ce m.ends.length ke, .slice Cb m.brks.length kb]] Wb fun e w' => e = .returned (.bool M) ∧ Below Wb.heap.size Wb w') := by
    intro W X M hX hM hW
    have nx : ∀ W', Below W.heap.size W W' → Below W1.heap.size W1 W' := fun W' hb => Hnext.out _ _ hW.out hb
    refine ⟨fun W' hb => ?_, fun W' hb => ?_, fun W' hb => ?_, fun W' hb => ?_, fun W' hb => Hwk.out _ (nx _ hb), fun Cf Ce Cb kf ke kb Wa Wb hba him hbb => ?_⟩
    · rw [hX]; exact same_any _ _ _ _ _ _ _ _ _ _ _ _ _ _ W' (HM.out.on (nx _ hb)) (HN.out.on (nx _ hb))
    · rw [hX, sameP_symm]; exact same_any _ _ _ _ _ _ _ _ _ _ _ _ _ _ W' (HN.out.on (nx _ hb)) (HM.out.on (nx _ hb))
    · exact copy_any _ _ _ _ _ _ m W' (HM.out.on (nx _ hb)) HRe.out
    · rw [hM]; exact may_any _ _ _ _ _ _ m W' (HM.out.on (nx _ hb))
    · rw [hM, ← sameP_self]; exact same_any _ _ _ _ _ _ _ _ _ _ _ _ _ _ Wb (HM.out.on (Hnext.out _ _ (nx _ hba) hbb)) (him.on hbb)
  have Fin := Lib.hid fin
  clear fin
  cases hm : mayB m with
  | false =>
    have HMx : Hid (false = mayB m) := Lib.hid hm.symm
    have HX : Hid (false = sameP m n) := Lib.hid (sameP_no1 hm).symm
    clear hm
    go_wp2_with fail
    obtain ⟨k1, k2, k3, k4, k5, k6⟩ := Fin.out w3 false false HX.out HMx.out Hb3
    have K1 := Lib.hid k1
    have K2 := Lib.hid k2
    have K3 := Lib.hid k3
    have K4 := Lib.hid k4
    have K5 := Lib.hid k5
    have K6 := Lib.hid k6
    clear k1 k2 k3 k4 k5 k6 Fin
    have hws : w.heap.size + 1 < w3.heap.size := by have := Hb3.out.size; omega
    have hws0 : w.heap.size < w3.heap.size := by omega
    go_wp2_with fail
    go_region_held3 (fun w' => Below w3.heap.size w3 w' ∧ ∀ b o, b < w3.heap.size → w'.cell? ⟨b, o, none⟩ = w3.cell? ⟨b, o, none⟩) (((repeat (apply keepS; assumption)); exact startS)) (first | (go_at_call 22; refine (K3.out _ (by first | exact startS.1 | exact And.left (by assumption))).mono ?_; rintro e w9 ⟨vf, ve, vb, vs, rfl, hom, hb9⟩; obtain ⟨Cf, Ce, Cb, kf, ke, kb, rfl, rfl, rfl, him⟩ := hom.isMet HBd.out; clear hom) | (go_at_call 20; refine (K4.out _ (by first | exact startS.1 | exact And.left (by assumption))).mono ?_; rintro e w9 ⟨rfl, hb9⟩) | (go_at_call 11; refine (K5.out _ (by first | exact startS.1 | exact And.left (by assumption))).mono ?_; rintro e w9 ⟨rfl, hb9⟩) | (go_at_call 21; ((with_reducible refine (K1.out _ (by first | exact startS.1 | exact And.left (by assumption))).mono ?_); rintro e w9 ⟨rfl, hb9⟩)) | (go_at_call 21; ((with_reducible refine (K2.out _ (by first | exact startS.1 | exact And.left (by assumption))).mono ?_); rintro e w9 ⟨rfl, hb9⟩)) | (go_at_call 21; ((with_reducible refine (K6.out _ _ _ _ _ _ _ _ (by first | exact startS.1 | exact And.left (by assumption)) him (by first | exact Below.refl _ _ | assumption)).mono ?_); rintro e w9 ⟨rfl, hb9⟩)))
    all_goals
      have hS9 : Below w3.heap.size w3 w9 := And.left (by assumption)
      have Hb9 := Lib.hid (Hnext.out _ _ Hb3.out hS9)
      clear K1 K2 K3 K4 K5 K6 hS9
      go_wp2_with fail
      go_ret
      exact ⟨rfl, HB1.out.trans (Hb9.out.mono (by omega))⟩
  | true =>
    have HMx : Hid (true = mayB m) := Lib.hid hm.symm
    clear hm
    have Hmay2 := Lib.hid (may_any Bf Be Bb df de db n w3 (HN.out.on Hb3.out))
    go_wp2_with fail
    refine Hmay2.out.mono ?_
    rintro e w4 ⟨rfl, hb4⟩
    have Hb4 := Lib.hid (Hnext.out _ _ Hb3.out hb4)
    obtain ⟨⟨m0, m1, m2⟩, n0, n1, n2⟩ := Hkeep.out _ Hb4.out
    clear hb4 p0 p1 p2 r0 r1 r2 Hmay2
    cases hn : mayB n with
    | false =>
      have HX : Hid (false = sameP m n) := Lib.hid (sameP_no2 HMx.out.symm hn).symm
      clear hn
      go_wp2_with fail
      obtain ⟨k1, k2, k3, k4, k5, k6⟩ := Fin.out w4 false true HX.out HMx.out Hb4
      have K1 := Lib.hid k1
      have K2 := Lib.hid k2
      have K3 := Lib.hid k3
      have K4 := Lib.hid k4
      have K5 := Lib.hid k5
      have K6 := Lib.hid k6
      clear k1 k2 k3 k4 k5 k6 Fin
      have hws : w.heap.size + 1 < w4.heap.size := by have := Hb4.out.size; omega
      have hws0 : w.heap.size < w4.heap.size := by omega
      go_wp2_with fail
      go_region_held3 (fun w' => Below w4.heap.size w4 w' ∧ ∀ b o, b < w4.heap.size → w'.cell? ⟨b, o, none⟩ = w4.cell? ⟨b, o, none⟩) (((repeat (apply keepS; assumption)); exact startS)) (first | (go_at_call 22; refine (K3.out _ (by first | exact startS.1 | exact And.left (by assumption))).mono ?_; rintro e w9 ⟨vf, ve, vb, vs, rfl, hom, hb9⟩; obtain ⟨Cf, Ce, Cb, kf, ke, kb, rfl, rfl, rfl, him⟩ := hom.isMet HBd.out; clear hom) | (go_at_call 20; refine (K4.out _ (by first | exact startS.1 | exact And.left (by assumption))).mono ?_; rintro e w9 ⟨rfl, hb9⟩) | (go_at_call 11; refine (K5.out _ (by first | exact startS.1 | exact And.left (by assumption))).mono ?_; rintro e w9 ⟨rfl, hb9⟩) | (go_at_call 21; ((with_reducible refine (K1.out _ (by first | exact startS.1 | exact And.left (by assumption))).mono ?_); rintro e w9 ⟨rfl, hb9⟩)) | (go_at_call 21; ((with_reducible refine (K2.out _ (by first | exact startS.1 | exact And.left (by assumption))).mono ?_); rintro e w9 ⟨rfl, hb9⟩)) | (go_at_call 21; ((with_reducible refine (K6.out _ _ _ _ _ _ _ _ (by first | exact startS.1 | exact And.left (by assumption)) him (by first | exact Below.refl _ _ | assumption)).mono ?_); rintro e w9 ⟨rfl, hb9⟩)))
      all_goals
        have hS9 : Below w4.heap.size w4 w9 := And.left (by assumption)
        have Hb9 := Lib.hid (Hnext.out _ _ Hb4.out hS9)
        clear K1 K2 K3 K4 K5 K6 hS9
        go_wp2_with fail
        go_ret
        exact ⟨rfl, HB1.out.trans (Hb9.out.mono (by omega))⟩
    | true =>
      have Heq := Lib.hid (refequal_any Af Ae Ab cf ce cb m Bf Be Bb df de db n w4 (HM.out.on Hb4.out) (HN.out.on Hb4.out))
      have HNx : Hid (mayB n = true) := Lib.hid hn
      clear hn
      go_wp2_with fail
      refine Heq.out.mono ?_
      rintro e w5 ⟨rfl, hb5⟩
      have Hb5 := Lib.hid (Hnext.out _ _ Hb4.out hb5)
      obtain ⟨⟨p0, p1, p2⟩, r0, r1, r2⟩ := Hkeep.out _ Hb5.out
      clear hb5 m0 m1 m2 n0 n1 n2 Heq
      cases he : equalP m n with
      | false =>
        have HX : Hid (false = sameP m n) := Lib.hid (wantP_no3 HMx.out.symm HNx.out he).symm
        clear he
        go_wp2_with fail
        obtain ⟨k1, k2, k3, k4, k5, k6⟩ := Fin.out w5 false true HX.out HMx.out Hb5
        have K1 := Lib.hid k1
        have K2 := Lib.hid k2
        have K3 := Lib.hid k3
        have K4 := Lib.hid k4
        have K5 := Lib.hid k5
        have K6 := Lib.hid k6
        clear k1 k2 k3 k4 k5 k6 Fin
        have hws : w.heap.size + 1 < w5.heap.size := by have := Hb5.out.size; omega
        have hws0 : w.heap.size < w5.heap.size := by omega
        go_wp2_with fail
        go_region_held3 (fun w' => Below w5.heap.size w5 w' ∧ ∀ b o, b < w5.heap.size → w'.cell? ⟨b, o, none⟩ = w5.cell? ⟨b, o, none⟩) (((repeat (apply keepS; assumption)); exact startS)) (first | (go_at_call 22; refine (K3.out _ (by first | exact startS.1 | exact And.left (by assumption))).mono ?_; rintro e w9 ⟨vf, ve, vb, vs, rfl, hom, hb9⟩; obtain ⟨Cf, Ce, Cb, kf, ke, kb, rfl, rfl, rfl, him⟩ := hom.isMet HBd.out; clear hom) | (go_at_call 20; refine (K4.out _ (by first | exact startS.1 | exact And.left (by assumption))).mono ?_; rintro e w9 ⟨rfl, hb9⟩) | (go_at_call 11; refine (K5.out _ (by first | exact startS.1 | exact And.left (by assumption))).mono ?_; rintro e w9 ⟨rfl, hb9⟩) | (go_at_call 21; ((with_reducible refine (K1.out _ (by first | exact startS.1 | exact And.left (by assumption))).mono ?_); rintro e w9 ⟨rfl, hb9⟩)) | (go_at_call 21; ((with_reducible refine (K2.out _ (by first | exact startS.1 | exact And.left (by assumption))).mono ?_); rintro e w9 ⟨rfl, hb9⟩)) | (go_at_call 21; ((with_reducible refine (K6.out _ _ _ _ _ _ _ _ (by first | exact startS.1 | exact And.left (by assumption)) him (by first | exact Below.refl _ _ | assumption)).mono ?_); rintro e w9 ⟨rfl, hb9⟩)))
        all_goals
          have hS9 : Below w5.heap.size w5 w9 := And.left (by assumption)
          have Hb9 := Lib.hid (Hnext.out _ _ Hb5.out hS9)
          clear K1 K2 K3 K4 K5 K6 hS9
          go_wp2_with fail
          go_ret
          exact ⟨rfl, HB1.out.trans (Hb9.out.mono (by omega))⟩
      | true =>
        have HX : Hid (true = sameP m n) := Lib.hid (wantP_yes HMx.out.symm HNx.out he).symm
        clear he
        go_wp2_with fail
        obtain ⟨k1, k2, k3, k4, k5, k6⟩ := Fin.out w5 true true HX.out HMx.out Hb5
        have K1 := Lib.hid k1
        have K2 := Lib.hid k2
        have K3 := Lib.hid k3
        have K4 := Lib.hid k4
        have K5 := Lib.hid k5
        have K6 := Lib.hid k6
        clear k1 k2 k3 k4 k5 k6 Fin
        have hws : w.heap.size + 1 < w5.heap.size := by have := Hb5.out.size; omega
        have hws0 : w.heap.size < w5.heap.size := by omega
        go_wp2_with fail
        go_region_held3 (fun w' => Below w5.heap.size w5 w' ∧ ∀ b o, b < w5.heap.size → w'.cell? ⟨b, o, none⟩ = w5.cell? ⟨b, o, none⟩) (((repeat (apply keepS; assumption)); exact startS)) (first | (go_at_call 22; refine (K3.out _ (by first | exact startS.1 | exact And.left (by assumption))).mono ?_; rintro e w9 ⟨vf, ve, vb, vs, rfl, hom, hb9⟩; obtain ⟨Cf, Ce, Cb, kf, ke, kb, rfl, rfl, rfl, him⟩ := hom.isMet HBd.out; clear hom) | (go_at_call 20; refine (K4.out _ (by first | exact startS.1 | exact And.left (by assumption))).mono ?_; rintro e w9 ⟨rfl, hb9⟩) | (go_at_call 11; refine (K5.out _ (by first | exact startS.1 | exact And.left (by assumption))).mono ?_; rintro e w9 ⟨rfl, hb9⟩) | (go_at_call 21; ((with_reducible refine (K1.out _ (by first | exact startS.1 | exact And.left (by assumption))).mono ?_); rintro e w9 ⟨rfl, hb9⟩)) | (go_at_call 21; ((with_reducible refine (K2.out _ (by first | exact startS.1 | exact And.left (by assumption))).mono ?_); rintro e w9 ⟨rfl, hb9⟩)) | (go_at_call 21; ((with_reducible refine (K6.out _ _ _ _ _ _ _ _ (by first | exact startS.1 | exact And.left (by assumption)) him (by first | exact Below.refl _ _ | assumption)).mono ?_); rintro e w9 ⟨rfl, hb9⟩)))
        all_goals
          have hS9 : Below w5.heap.size w5 w9 := And.left (by assumption)
          have Hb9 := Lib.hid (Hnext.out _ _ Hb5.out hS9)
          clear K1 K2 K3 K4 K5 K6 hS9
          go_wp2_with fail
          go_ret
          exact ⟨rfl, HB1.out.trans (Hb9.out.mono (by omega))⟩
end Go.Proofs.YtkfkkoefpfmjkaaDoor

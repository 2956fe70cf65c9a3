import Derived.Test.YtgcdopafblcbhaaGreatDoorNC
import Derived.Test.YtgcdopafblcbhaaGreatDoorNB
import Derived.WalkKit
import Derived.ProofKit
import Derived.Lib.Hide
import Derived.WalkMore
/- The small one of a great letter. -/
namespace Go.Proofs.YtgcdopafblcbhaaGreatDoor
set_option linter.unusedVariables false
set_option linter.unusedSimpArgs false
open Go.RowKit

theorem lower_any_reg (r : Int) (h : GreatR r) : (65 ≤ r ∧ r < 91) ∨ (192 ≤ r ∧ r < 223) ∨ (256 ≤ r ∧ r < 304) ∨ (304 ≤ r ∧ r < 305) ∨ (305 ≤ r ∧ r < 376) ∨ (376 ≤ r ∧ r < 377) ∨ (377 ≤ r ∧ r < 382) ∨ (902 ≤ r ∧ r < 903) ∨ (904 ≤ r ∧ r < 907) ∨ (908 ≤ r ∧ r < 909) ∨ (910 ≤ r ∧ r < 911) ∨ (911 ≤ r ∧ r < 912) ∨ (913 ≤ r ∧ r < 940) ∨ (1024 ≤ r ∧ r < 1040) ∨ (1040 ≤ r ∧ r < 1072) := by unfold GreatR at h; omega
set_option maxRecDepth 100000 in
set_option maxHeartbeats 4000000 in
theorem lower_any (r : Int) (w : World) : Calls Tryz.prog 142 #[.int .i32 r] w fun e w' => e = .returned (.int .i32 (lowerP r)) ∧ w = w' := by
  have HG := Lib.hid (great_any r)
  by_cases hg : GreatR r
  · have hG : decide (GreatR r) = true := decide_eq_true hg
    rcases lower_any_reg r hg with h | h | h | h | h | h | h | h | h | h | h | h | h | h | h
    all_goals
      first | have hk : lowerP r = 105 := by (unfold lowerP; rw [if_neg (fun q => q hg)]; rw [if_pos (by omega)]) | have hk : lowerP r = 255 := by (unfold lowerP; rw [if_neg (fun q => q hg)]; rw [if_neg (by omega)]; rw [if_pos (by omega)]) | have hk : lowerP r = 940 := by (unfold lowerP; rw [if_neg (fun q => q hg)]; rw [if_neg (by omega)]; rw [if_neg (by omega)]; rw [if_pos (by omega)]) | have hk : lowerP r = 972 := by (unfold lowerP; rw [if_neg (fun q => q hg)]; rw [if_neg (by omega)]; rw [if_neg (by omega)]; rw [if_neg (by omega)]; rw [if_pos (by omega)]) | have hk : lowerP r = r + 37 := by (unfold lowerP; rw [if_neg (fun q => q hg)]; rw [if_neg (by omega)]; rw [if_neg (by omega)]; rw [if_neg (by omega)]; rw [if_neg (by omega)]; rw [if_pos (by omega)]) | have hk : lowerP r = r + 63 := by (unfold lowerP; rw [if_neg (fun q => q hg)]; rw [if_neg (by omega)]; rw [if_neg (by omega)]; rw [if_neg (by omega)]; rw [if_neg (by omega)]; rw [if_neg (by omega)]; rw [if_pos (by omega)]) | have hk : lowerP r = r + 80 := by (unfold lowerP; rw [if_neg (fun q => q hg)]; rw [if_neg (by omega)]; rw [if_neg (by omega)]; rw [if_neg (by omega)]; rw [if_neg (by omega)]; rw [if_neg (by omega)]; rw [if_neg (by omega)]; rw [if_pos (by omega)]) | have hk : lowerP r = r + 32 := by (unfold lowerP; rw [if_neg (fun q => q hg)]; rw [if_neg (by omega)]; rw [if_neg (by omega)]; rw [if_neg (by omega)]; rw [if_neg (by omega)]; rw [if_neg (by omega)]; rw [if_neg (by omega)]; rw [if_neg (by omega)]; rw [if_pos (by omega)]) | have hk : lowerP r = r + 1 := by (unfold lowerP; rw [if_neg (fun q => q hg)]; rw [if_neg (by omega)]; rw [if_neg (by omega)]; rw [if_neg (by omega)]; rw [if_neg (by omega)]; rw [if_neg (by omega)]; rw [if_neg (by omega)]; rw [if_neg (by omega)]; rw [if_neg (by omega)])
      have hw37 : IntKind.i32.wrap (r + 37) = r + 37 := IntWalk.i32_in _ (by omega)
      have hw63 : IntKind.i32.wrap (r + 63) = r + 63 := IntWalk.i32_in _ (by omega)
      have hw80 : IntKind.i32.wrap (r + 80) = r + 80 := IntWalk.i32_in _ (by omega)
      have hw32 : IntKind.i32.wrap (r + 32) = r + 32 := IntWalk.i32_in _ (by omega)
      have hw1 : IntKind.i32.wrap (r + 1) = r + 1 := IntWalk.i32_in _ (by omega)
      first | have f0 : (r == 304) = true := by (have q : r = 304 := by omega); rw [q]; rfl | have f0 : (r == 304) = false := by (have q : r ≠ 304 := by omega); simp [q]
      first | have f1 : (r == 376) = true := by (have q : r = 376 := by omega); rw [q]; rfl | have f1 : (r == 376) = false := by (have q : r ≠ 376 := by omega); simp [q]
      first | have f2 : (r == 902) = true := by (have q : r = 902 := by omega); rw [q]; rfl | have f2 : (r == 902) = false := by (have q : r ≠ 902 := by omega); simp [q]
      first | have f3 : (r == 908) = true := by (have q : r = 908 := by omega); rw [q]; rfl | have f3 : (r == 908) = false := by (have q : r ≠ 908 := by omega); simp [q]
      first | have f4 : decide (r ≥ 904) = true := decide_eq_true (by omega) | have f4 : decide (r ≥ 904) = false := decide_eq_false (by omega)
      first | have f5 : decide (r ≤ 906) = true := decide_eq_true (by omega) | have f5 : decide (r ≤ 906) = false := decide_eq_false (by omega)
      first | have f6 : (r == 910) = true := by (have q : r = 910 := by omega); rw [q]; rfl | have f6 : (r == 910) = false := by (have q : r ≠ 910 := by omega); simp [q]
      first | have f7 : (r == 911) = true := by (have q : r = 911 := by omega); rw [q]; rfl | have f7 : (r == 911) = false := by (have q : r ≠ 911 := by omega); simp [q]
      first | have f8 : decide (r ≥ 1024) = true := decide_eq_true (by omega) | have f8 : decide (r ≥ 1024) = false := decide_eq_false (by omega)
      first | have f9 : decide (r ≤ 1039) = true := decide_eq_true (by omega) | have f9 : decide (r ≤ 1039) = false := decide_eq_false (by omega)
      first | have f10 : decide (r < 256) = true := decide_eq_true (by omega) | have f10 : decide (r < 256) = false := decide_eq_false (by omega)
      first | have f11 : decide (r > 383) = true := decide_eq_true (by omega) | have f11 : decide (r > 383) = false := decide_eq_false (by omega)
      clear h hg
      go_enter Tryz.func142, Tryz.ntmps142
      go_wp2_with fail
      refine (HG.out _).mono ?_
      rintro e w1 ⟨rfl, rfl⟩
      go_wp2_with fail
      go_ret
      exact ⟨by rw [hk]; first | rfl | simp only [hw37, hw63, hw80, hw32, hw1], rfl⟩
  · have hG : decide (GreatR r) = false := decide_eq_false hg
    have hk : lowerP r = r := by unfold lowerP; rw [if_pos hg]
    clear hg
    go_enter Tryz.func142, Tryz.ntmps142
    go_wp2_with fail
    refine (HG.out _).mono ?_
    rintro e w1 ⟨rfl, rfl⟩
    go_wp2_with fail
    go_ret
    exact ⟨by rw [hk]; rfl, rfl⟩
end Go.Proofs.YtgcdopafblcbhaaGreatDoor

import Derived.Test.YtgcdopafblcbhaaGreatDoorProg
import Derived.Test.YtgcdopafblcbhaaGreatDoorNB
import Derived.WalkKit
import Derived.ProofKit
import Derived.Lib.Hide
import Derived.WalkMore
/- The program's classes of runes. -/
namespace Go.Proofs.YtgcdopafblcbhaaGreatDoor
set_option linter.unusedVariables false
set_option linter.unusedSimpArgs false
open Go.RowKit

theorem and_one : ∀ r : Fin 1200, (bits BinOp.and IntKind.i32 (r.val : Int) 1 == 0) = decide ((r.val : Int) % 2 = 0) := by decide +kernel
theorem even_any (r : Int) (h : 0 ≤ r ∧ r < 1200) (w : World) : Calls Tryz.prog 101 #[.int .i32 r] w fun e w' => e = .returned (.bool (decide (r % 2 = 0))) ∧ w = w' := by
  have hb : (bits BinOp.and IntKind.i32 r 1 == 0) = decide (r % 2 = 0) := by
    obtain ⟨k, rfl⟩ := Int.eq_ofNat_of_zero_le h.1
    exact and_one ⟨k, by omega⟩
  go_enter Tryz.func101, Tryz.ntmps101
  go_wp2_with fail
  go_ret
  exact ⟨by rw [← hb]; rfl, rfl⟩

theorem great_any_reg (r : Int) : r < 65 ∨ (65 ≤ r ∧ r < 91) ∨ (91 ≤ r ∧ r < 192) ∨ (192 ≤ r ∧ r < 215) ∨ (215 ≤ r ∧ r < 216) ∨ (216 ≤ r ∧ r < 223) ∨ (223 ≤ r ∧ r < 256) ∨ (256 ≤ r ∧ r < 312) ∨ (312 ≤ r ∧ r < 313) ∨ (313 ≤ r ∧ r < 329) ∨ (329 ≤ r ∧ r < 330) ∨ (330 ≤ r ∧ r < 376) ∨ (376 ≤ r ∧ r < 377) ∨ (377 ≤ r ∧ r < 382) ∨ (382 ≤ r ∧ r < 902) ∨ (902 ≤ r ∧ r < 903) ∨ (903 ≤ r ∧ r < 904) ∨ (904 ≤ r ∧ r < 907) ∨ (907 ≤ r ∧ r < 908) ∨ (908 ≤ r ∧ r < 909) ∨ (909 ≤ r ∧ r < 910) ∨ (910 ≤ r ∧ r < 912) ∨ (912 ≤ r ∧ r < 913) ∨ (913 ≤ r ∧ r < 930) ∨ (930 ≤ r ∧ r < 931) ∨ (931 ≤ r ∧ r < 940) ∨ (940 ≤ r ∧ r < 1024) ∨ (1024 ≤ r ∧ r < 1072) ∨ 1072 ≤ r := by omega
set_option maxRecDepth 100000 in
set_option maxHeartbeats 4000000 in
theorem great_any (r : Int) (w : World) : Calls Tryz.prog 187 #[.int .i32 r] w fun e w' => e = .returned (.bool (decide (GreatR r))) ∧ w = w' := by
  rcases great_any_reg r with h | h | h | h | h | h | h | h | h | h | h | h | h | h | h | h | h | h | h | h | h | h | h | h | h | h | h | h | h
  all_goals
    first | have f0 : decide (r ≥ 65) = true := decide_eq_true (by omega) | have f0 : decide (r ≥ 65) = false := decide_eq_false (by omega)
    first | have f1 : decide (r ≤ 90) = true := decide_eq_true (by omega) | have f1 : decide (r ≤ 90) = false := decide_eq_false (by omega)
    first | have f2 : decide (r ≥ 192) = true := decide_eq_true (by omega) | have f2 : decide (r ≥ 192) = false := decide_eq_false (by omega)
    first | have f3 : decide (r ≤ 222) = true := decide_eq_true (by omega) | have f3 : decide (r ≤ 222) = false := decide_eq_false (by omega)
    first | have f4 : (r != 215) = false := by (have q : r = 215 := by omega); rw [q]; rfl | have f4 : (r != 215) = true := by (have q : r ≠ 215 := by omega); simp [q]
    first | have f5 : decide (r ≥ 256) = true := decide_eq_true (by omega) | have f5 : decide (r ≥ 256) = false := decide_eq_false (by omega)
    first | have f6 : decide (r ≤ 311) = true := decide_eq_true (by omega) | have f6 : decide (r ≤ 311) = false := decide_eq_false (by omega)
    first | have f7 : decide (r ≥ 330) = true := decide_eq_true (by omega) | have f7 : decide (r ≥ 330) = false := decide_eq_false (by omega)
    first | have f8 : decide (r ≤ 375) = true := decide_eq_true (by omega) | have f8 : decide (r ≤ 375) = false := decide_eq_false (by omega)
    first | have f9 : decide (r ≥ 313) = true := decide_eq_true (by omega) | have f9 : decide (r ≥ 313) = false := decide_eq_false (by omega)
    first | have f10 : decide (r ≤ 328) = true := decide_eq_true (by omega) | have f10 : decide (r ≤ 328) = false := decide_eq_false (by omega)
    first | have f11 : decide (r ≥ 376) = true := decide_eq_true (by omega) | have f11 : decide (r ≥ 376) = false := decide_eq_false (by omega)
    first | have f12 : decide (r ≤ 381) = true := decide_eq_true (by omega) | have f12 : decide (r ≤ 381) = false := decide_eq_false (by omega)
    first | have f13 : (r == 376) = true := by (have q : r = 376 := by omega); rw [q]; rfl | have f13 : (r == 376) = false := by (have q : r ≠ 376 := by omega); simp [q]
    first | have f14 : decide (r ≥ 902) = true := decide_eq_true (by omega) | have f14 : decide (r ≥ 902) = false := decide_eq_false (by omega)
    first | have f15 : decide (r ≤ 911) = true := decide_eq_true (by omega) | have f15 : decide (r ≤ 911) = false := decide_eq_false (by omega)
    first | have f16 : (r != 903) = false := by (have q : r = 903 := by omega); rw [q]; rfl | have f16 : (r != 903) = true := by (have q : r ≠ 903 := by omega); simp [q]
    first | have f17 : (r != 907) = false := by (have q : r = 907 := by omega); rw [q]; rfl | have f17 : (r != 907) = true := by (have q : r ≠ 907 := by omega); simp [q]
    first | have f18 : (r != 909) = false := by (have q : r = 909 := by omega); rw [q]; rfl | have f18 : (r != 909) = true := by (have q : r ≠ 909 := by omega); simp [q]
    first | have f19 : decide (r ≥ 913) = true := decide_eq_true (by omega) | have f19 : decide (r ≥ 913) = false := decide_eq_false (by omega)
    first | have f20 : decide (r ≤ 939) = true := decide_eq_true (by omega) | have f20 : decide (r ≤ 939) = false := decide_eq_false (by omega)
    first | have f21 : (r != 930) = false := by (have q : r = 930 := by omega); rw [q]; rfl | have f21 : (r != 930) = true := by (have q : r ≠ 930 := by omega); simp [q]
    first | have f22 : decide (r ≥ 1024) = true := decide_eq_true (by omega) | have f22 : decide (r ≥ 1024) = false := decide_eq_false (by omega)
    first | have f23 : decide (r ≤ 1071) = true := decide_eq_true (by omega) | have f23 : decide (r ≤ 1071) = false := decide_eq_false (by omega)
    go_enter Tryz.func187, Tryz.ntmps187
    go_wp2_with fail
    first | (refine (even_any r (by omega) _).mono ?_; rintro e w1 ⟨rfl, rfl⟩; go_wp2_with fail) | skip
    go_ret
    refine ⟨?_, rfl⟩
    first | (have e : decide (GreatR r) = true := decide_eq_true (by unfold GreatR; omega); rw [e]; rfl) | (have e : decide (GreatR r) = false := decide_eq_false (by unfold GreatR; omega); rw [e]; rfl) | (have e : decide (GreatR r) = decide (r % 2 = 0) := decide_eq_decide.2 (by unfold GreatR; omega); rw [e]; rfl) | (have e : decide (GreatR r) = !decide (r % 2 = 0) := (decide_eq_decide.2 (by unfold GreatR; omega)).trans decide_not; rw [e]; rfl)

theorem small_any_reg (r : Int) : r < 97 ∨ (97 ≤ r ∧ r < 123) ∨ (123 ≤ r ∧ r < 223) ∨ (223 ≤ r ∧ r < 247) ∨ (247 ≤ r ∧ r < 248) ∨ (248 ≤ r ∧ r < 256) ∨ (256 ≤ r ∧ r < 312) ∨ (312 ≤ r ∧ r < 313) ∨ (313 ≤ r ∧ r < 329) ∨ (329 ≤ r ∧ r < 330) ∨ (330 ≤ r ∧ r < 376) ∨ (376 ≤ r ∧ r < 378) ∨ (378 ≤ r ∧ r < 383) ∨ (383 ≤ r ∧ r < 384) ∨ (384 ≤ r ∧ r < 912) ∨ (912 ≤ r ∧ r < 913) ∨ (913 ≤ r ∧ r < 940) ∨ (940 ≤ r ∧ r < 975) ∨ (975 ≤ r ∧ r < 1072) ∨ (1072 ≤ r ∧ r < 1120) ∨ 1120 ≤ r := by omega
set_option maxRecDepth 100000 in
set_option maxHeartbeats 4000000 in
theorem small_any (r : Int) (w : World) : Calls Tryz.prog 59 #[.int .i32 r] w fun e w' => e = .returned (.bool (decide (SmallR r))) ∧ w = w' := by
  rcases small_any_reg r with h | h | h | h | h | h | h | h | h | h | h | h | h | h | h | h | h | h | h | h | h
  all_goals
    first | have f0 : decide (r ≥ 97) = true := decide_eq_true (by omega) | have f0 : decide (r ≥ 97) = false := decide_eq_false (by omega)
    first | have f1 : decide (r ≤ 122) = true := decide_eq_true (by omega) | have f1 : decide (r ≤ 122) = false := decide_eq_false (by omega)
    first | have f2 : decide (r ≥ 223) = true := decide_eq_true (by omega) | have f2 : decide (r ≥ 223) = false := decide_eq_false (by omega)
    first | have f3 : decide (r ≤ 255) = true := decide_eq_true (by omega) | have f3 : decide (r ≤ 255) = false := decide_eq_false (by omega)
    first | have f4 : (r != 247) = false := by (have q : r = 247 := by omega); rw [q]; rfl | have f4 : (r != 247) = true := by (have q : r ≠ 247 := by omega); simp [q]
    first | have f5 : decide (r ≥ 256) = true := decide_eq_true (by omega) | have f5 : decide (r ≥ 256) = false := decide_eq_false (by omega)
    first | have f6 : decide (r ≤ 311) = true := decide_eq_true (by omega) | have f6 : decide (r ≤ 311) = false := decide_eq_false (by omega)
    first | have f7 : decide (r ≥ 330) = true := decide_eq_true (by omega) | have f7 : decide (r ≥ 330) = false := decide_eq_false (by omega)
    first | have f8 : decide (r ≤ 375) = true := decide_eq_true (by omega) | have f8 : decide (r ≤ 375) = false := decide_eq_false (by omega)
    first | have f9 : (r == 312) = true := by (have q : r = 312 := by omega); rw [q]; rfl | have f9 : (r == 312) = false := by (have q : r ≠ 312 := by omega); simp [q]
    first | have f10 : (r == 329) = true := by (have q : r = 329 := by omega); rw [q]; rfl | have f10 : (r == 329) = false := by (have q : r ≠ 329 := by omega); simp [q]
    first | have f11 : (r == 383) = true := by (have q : r = 383 := by omega); rw [q]; rfl | have f11 : (r == 383) = false := by (have q : r ≠ 383 := by omega); simp [q]
    first | have f12 : (r == 912) = true := by (have q : r = 912 := by omega); rw [q]; rfl | have f12 : (r == 912) = false := by (have q : r ≠ 912 := by omega); simp [q]
    first | have f13 : decide (r ≥ 313) = true := decide_eq_true (by omega) | have f13 : decide (r ≥ 313) = false := decide_eq_false (by omega)
    first | have f14 : decide (r ≤ 328) = true := decide_eq_true (by omega) | have f14 : decide (r ≤ 328) = false := decide_eq_false (by omega)
    first | have f15 : decide (r ≥ 378) = true := decide_eq_true (by omega) | have f15 : decide (r ≥ 378) = false := decide_eq_false (by omega)
    first | have f16 : decide (r ≤ 382) = true := decide_eq_true (by omega) | have f16 : decide (r ≤ 382) = false := decide_eq_false (by omega)
    first | have f17 : decide (r ≥ 940) = true := decide_eq_true (by omega) | have f17 : decide (r ≥ 940) = false := decide_eq_false (by omega)
    first | have f18 : decide (r ≤ 974) = true := decide_eq_true (by omega) | have f18 : decide (r ≤ 974) = false := decide_eq_false (by omega)
    first | have f19 : decide (r ≥ 1072) = true := decide_eq_true (by omega) | have f19 : decide (r ≥ 1072) = false := decide_eq_false (by omega)
    first | have f20 : decide (r ≤ 1119) = true := decide_eq_true (by omega) | have f20 : decide (r ≤ 1119) = false := decide_eq_false (by omega)
    go_enter Tryz.func59, Tryz.ntmps59
    go_wp2_with fail
    first | (refine (even_any r (by omega) _).mono ?_; rintro e w1 ⟨rfl, rfl⟩; go_wp2_with fail) | skip
    go_ret
    refine ⟨?_, rfl⟩
    first | (have e : decide (SmallR r) = true := decide_eq_true (by unfold SmallR; omega); rw [e]; rfl) | (have e : decide (SmallR r) = false := decide_eq_false (by unfold SmallR; omega); rw [e]; rfl) | (have e : decide (SmallR r) = decide (r % 2 = 0) := decide_eq_decide.2 (by unfold SmallR; omega); rw [e]; rfl) | (have e : decide (SmallR r) = !decide (r % 2 = 0) := (decide_eq_decide.2 (by unfold SmallR; omega)).trans decide_not; rw [e]; rfl)

theorem letter_any (r : Int) (w : World) : Calls Tryz.prog 184 #[.int .i32 r] w fun e w' => e = .returned (.bool (decide (LetR r))) ∧ w = w' := by
  by_cases hg : GreatR r
  · have hd : decide (GreatR r) = true := decide_eq_true hg
    go_enter Tryz.func184, Tryz.ntmps184
    go_wp2_with fail
    refine (great_any r _).mono ?_
    rintro e w1 ⟨rfl, rfl⟩
    go_wp2_with fail
    go_ret
    exact ⟨by rw [show decide (LetR r) = true from decide_eq_true (.inl hg)]; rfl, rfl⟩
  · have hd : decide (GreatR r) = false := decide_eq_false hg
    have hl : decide (LetR r) = decide (SmallR r) := decide_eq_decide.2 ⟨fun h => h.resolve_left hg, .inr⟩
    go_enter Tryz.func184, Tryz.ntmps184
    go_wp2_with fail
    refine (great_any r _).mono ?_
    rintro e w1 ⟨rfl, rfl⟩
    go_wp2_with fail
    refine (small_any r _).mono ?_
    rintro e w1 ⟨rfl, rfl⟩
    go_wp2_with fail
    go_ret
    exact ⟨by rw [hl]; rfl, rfl⟩

theorem mark_any_reg (r : Int) : r < 768 ∨ (768 ≤ r ∧ r < 880) ∨ 880 ≤ r := by omega
set_option maxRecDepth 100000 in
set_option maxHeartbeats 4000000 in
theorem mark_any (r : Int) (w : World) : Calls Tryz.prog 185 #[.int .i32 r] w fun e w' => e = .returned (.bool (decide (MarkR r))) ∧ w = w' := by
  rcases mark_any_reg r with h | h | h
  all_goals
    first | have f0 : decide (r ≥ 768) = true := decide_eq_true (by omega) | have f0 : decide (r ≥ 768) = false := decide_eq_false (by omega)
    first | have f1 : decide (r ≤ 879) = true := decide_eq_true (by omega) | have f1 : decide (r ≤ 879) = false := decide_eq_false (by omega)
    go_enter Tryz.func185, Tryz.ntmps185
    go_wp2_with fail
    go_ret
    refine ⟨?_, rfl⟩
    first | (have e : decide (MarkR r) = true := decide_eq_true (by unfold MarkR; omega); rw [e]; rfl) | (have e : decide (MarkR r) = false := decide_eq_false (by unfold MarkR; omega); rw [e]; rfl)

end Go.Proofs.YtgcdopafblcbhaaGreatDoor

import Derived.Test.YtgcdopafblcbhaaGreatDoorNC
import Derived.Test.YtgcdopafblcbhaaGreatDoorNB
import Derived.WalkKit
import Derived.ProofKit
import Derived.Lib.Hide
import Derived.WalkMore
/- The kind of a rune; the small one of a great letter. -/
namespace Go.Proofs.YtgcdopafblcbhaaGreatDoor
set_option linter.unusedVariables false
set_option linter.unusedSimpArgs false
open Go.RowKit

def otherP (r : Int) : Int := if r < 0 ∨ (55296 ≤ r ∧ r ≤ 57343) ∨ 1114111 < r then 0 else if 48 ≤ r ∧ r ≤ 57 then 3 else if r = 10 ∨ r = 13 then 4 else if BlankR r then 5 else if r = 45 ∨ (8208 ≤ r ∧ r ≤ 8213) then 6 else if QuoteR r then 7 else if PointR r then 8 else if CtrlR r then 9 else 10
theorem other_eq (r : Int) (h : ¬ LetR r) (h2 : ¬ MarkR r) : kindP r = otherP r := by unfold kindP otherP; rw [if_neg h, if_neg h2]
theorem kind_reg (r : Int) : r = 9 ∨ r = 10 ∨ r = 13 ∨ r = 32 ∨ r = 33 ∨ r = 34 ∨ r = 39 ∨ r = 44 ∨ r = 45 ∨ r = 46 ∨ r = 47 ∨ r = 58 ∨ r = 59 ∨ r = 63 ∨ r = 160 ∨ r = 161 ∨ r = 171 ∨ r = 183 ∨ r = 187 ∨ r = 191 ∨ r = 8208 ∨ r = 8209 ∨ r = 8210 ∨ r = 8211 ∨ r = 8212 ∨ r = 8213 ∨ r = 8230 ∨ r = 8239 ∨ r = 8249 ∨ r = 8250 ∨ r = 8287 ∨ r = 12288 ∨ r = 65279 ∨ r < 0 ∨ (0 ≤ r ∧ r < 9) ∨ (11 ≤ r ∧ r < 13) ∨ (14 ≤ r ∧ r < 32) ∨ (35 ≤ r ∧ r < 39) ∨ (40 ≤ r ∧ r < 44) ∨ (48 ≤ r ∧ r < 58) ∨ (60 ≤ r ∧ r < 63) ∨ (64 ≤ r ∧ r < 127) ∨ (127 ≤ r ∧ r < 160) ∨ (162 ≤ r ∧ r < 171) ∨ (172 ≤ r ∧ r < 183) ∨ (184 ≤ r ∧ r < 187) ∨ (188 ≤ r ∧ r < 191) ∨ (192 ≤ r ∧ r < 768) ∨ (768 ≤ r ∧ r < 880) ∨ (880 ≤ r ∧ r < 8192) ∨ (8192 ≤ r ∧ r < 8203) ∨ (8203 ≤ r ∧ r < 8208) ∨ (8214 ≤ r ∧ r < 8216) ∨ (8216 ≤ r ∧ r < 8224) ∨ (8224 ≤ r ∧ r < 8230) ∨ (8231 ≤ r ∧ r < 8239) ∨ (8240 ≤ r ∧ r < 8249) ∨ (8251 ≤ r ∧ r < 8287) ∨ (8288 ≤ r ∧ r < 12288) ∨ (12289 ≤ r ∧ r < 55296) ∨ (55296 ≤ r ∧ r < 57344) ∨ (57344 ≤ r ∧ r < 65279) ∨ (65280 ≤ r ∧ r < 1114112) ∨ 1114112 ≤ r := by omega
set_option maxRecDepth 100000 in
set_option maxHeartbeats 8000000 in
theorem kind_other (r : Int) (hL : decide (LetR r) = false) (hM : decide (MarkR r) = false) (w : World) : Calls Tryz.prog 140 #[.int .i32 r] w fun e w' => e = .returned (.int .i64 (otherP r)) ∧ w = w' := by
  have HL := Lib.hid (letter_any r)
  have HM := Lib.hid (mark_any r)
  rcases kind_reg r with rfl | rfl | rfl | rfl | rfl | rfl | rfl | rfl | rfl | rfl | rfl | rfl | rfl | rfl | rfl | rfl | rfl | rfl | rfl | rfl | rfl | rfl | rfl | rfl | rfl | rfl | rfl | rfl | rfl | rfl | rfl | rfl | rfl | h | h | h | h | h | h | h | h | h | h | h | h | h | h | h | h | h | h | h | h | h | h | h | h | h | h | h | h | h | h | h
  iterate 33
    · go_enter Tryz.func140, Tryz.ntmps140
      go_wp2_with fail
      refine (HL.out _).mono ?_
      rintro e w1 ⟨rfl, rfl⟩
      go_wp2_with fail
      refine (HM.out _).mono ?_
      rintro e w1 ⟨rfl, rfl⟩
      go_wp2_with fail
      go_ret
      exact ⟨by rfl, rfl⟩
  all_goals
    first | have hk : otherP r = 0 := by (unfold otherP; rw [if_pos (by omega)]) | have hk : otherP r = 3 := by (unfold otherP; rw [if_neg (by omega)]; rw [if_pos (by omega)]) | have hk : otherP r = 4 := by (unfold otherP; rw [if_neg (by omega)]; rw [if_neg (by omega)]; rw [if_pos (by omega)]) | have hk : otherP r = 5 := by (unfold otherP; rw [if_neg (by omega)]; rw [if_neg (by omega)]; rw [if_neg (by omega)]; rw [if_pos (show BlankR r by unfold BlankR; omega)]) | have hk : otherP r = 6 := by (unfold otherP; rw [if_neg (by omega)]; rw [if_neg (by omega)]; rw [if_neg (by omega)]; rw [if_neg (show ¬ BlankR r by unfold BlankR; omega)]; rw [if_pos (by omega)]) | have hk : otherP r = 7 := by (unfold otherP; rw [if_neg (by omega)]; rw [if_neg (by omega)]; rw [if_neg (by omega)]; rw [if_neg (show ¬ BlankR r by unfold BlankR; omega)]; rw [if_neg (by omega)]; rw [if_pos (show QuoteR r by unfold QuoteR; omega)]) | have hk : otherP r = 8 := by (unfold otherP; rw [if_neg (by omega)]; rw [if_neg (by omega)]; rw [if_neg (by omega)]; rw [if_neg (show ¬ BlankR r by unfold BlankR; omega)]; rw [if_neg (by omega)]; rw [if_neg (show ¬ QuoteR r by unfold QuoteR; omega)]; rw [if_pos (show PointR r by unfold PointR; omega)]) | have hk : otherP r = 9 := by (unfold otherP; rw [if_neg (by omega)]; rw [if_neg (by omega)]; rw [if_neg (by omega)]; rw [if_neg (show ¬ BlankR r by unfold BlankR; omega)]; rw [if_neg (by omega)]; rw [if_neg (show ¬ QuoteR r by unfold QuoteR; omega)]; rw [if_neg (show ¬ PointR r by unfold PointR; omega)]; rw [if_pos (show CtrlR r by unfold CtrlR; omega)]) | have hk : otherP r = 10 := by (unfold otherP; rw [if_neg (by omega)]; rw [if_neg (by omega)]; rw [if_neg (by omega)]; rw [if_neg (show ¬ BlankR r by unfold BlankR; omega)]; rw [if_neg (by omega)]; rw [if_neg (show ¬ QuoteR r by unfold QuoteR; omega)]; rw [if_neg (show ¬ PointR r by unfold PointR; omega)]; rw [if_neg (show ¬ CtrlR r by unfold CtrlR; omega)])
    first | have f0 : decide (r < 0) = true := decide_eq_true (by omega) | have f0 : decide (r < 0) = false := decide_eq_false (by omega)
    first | have f1 : decide (r ≥ 55296) = true := decide_eq_true (by omega) | have f1 : decide (r ≥ 55296) = false := decide_eq_false (by omega)
    first | have f2 : decide (r ≤ 57343) = true := decide_eq_true (by omega) | have f2 : decide (r ≤ 57343) = false := decide_eq_false (by omega)
    first | have f3 : decide (r > 1114111) = true := decide_eq_true (by omega) | have f3 : decide (r > 1114111) = false := decide_eq_false (by omega)
    first | have f4 : decide (r ≥ 48) = true := decide_eq_true (by omega) | have f4 : decide (r ≥ 48) = false := decide_eq_false (by omega)
    first | have f5 : decide (r ≤ 57) = true := decide_eq_true (by omega) | have f5 : decide (r ≤ 57) = false := decide_eq_false (by omega)
    first | have f6 : (r == 10) = true := by (have q : r = 10 := by omega); rw [q]; rfl | have f6 : (r == 10) = false := by (have q : r ≠ 10 := by omega); simp [q]
    first | have f7 : (r == 13) = true := by (have q : r = 13 := by omega); rw [q]; rfl | have f7 : (r == 13) = false := by (have q : r ≠ 13 := by omega); simp [q]
    first | have f8 : (r == 9) = true := by (have q : r = 9 := by omega); rw [q]; rfl | have f8 : (r == 9) = false := by (have q : r ≠ 9 := by omega); simp [q]
    first | have f9 : (r == 32) = true := by (have q : r = 32 := by omega); rw [q]; rfl | have f9 : (r == 32) = false := by (have q : r ≠ 32 := by omega); simp [q]
    first | have f10 : (r == 160) = true := by (have q : r = 160 := by omega); rw [q]; rfl | have f10 : (r == 160) = false := by (have q : r ≠ 160 := by omega); simp [q]
    first | have f11 : (r == 8239) = true := by (have q : r = 8239 := by omega); rw [q]; rfl | have f11 : (r == 8239) = false := by (have q : r ≠ 8239 := by omega); simp [q]
    first | have f12 : (r == 8287) = true := by (have q : r = 8287 := by omega); rw [q]; rfl | have f12 : (r == 8287) = false := by (have q : r ≠ 8287 := by omega); simp [q]
    first | have f13 : (r == 12288) = true := by (have q : r = 12288 := by omega); rw [q]; rfl | have f13 : (r == 12288) = false := by (have q : r ≠ 12288 := by omega); simp [q]
    first | have f14 : (r == 45) = true := by (have q : r = 45 := by omega); rw [q]; rfl | have f14 : (r == 45) = false := by (have q : r ≠ 45 := by omega); simp [q]
    first | have f15 : (r == 8208) = true := by (have q : r = 8208 := by omega); rw [q]; rfl | have f15 : (r == 8208) = false := by (have q : r ≠ 8208 := by omega); simp [q]
    first | have f16 : (r == 8209) = true := by (have q : r = 8209 := by omega); rw [q]; rfl | have f16 : (r == 8209) = false := by (have q : r ≠ 8209 := by omega); simp [q]
    first | have f17 : (r == 8210) = true := by (have q : r = 8210 := by omega); rw [q]; rfl | have f17 : (r == 8210) = false := by (have q : r ≠ 8210 := by omega); simp [q]
    first | have f18 : (r == 8211) = true := by (have q : r = 8211 := by omega); rw [q]; rfl | have f18 : (r == 8211) = false := by (have q : r ≠ 8211 := by omega); simp [q]
    first | have f19 : (r == 8212) = true := by (have q : r = 8212 := by omega); rw [q]; rfl | have f19 : (r == 8212) = false := by (have q : r ≠ 8212 := by omega); simp [q]
    first | have f20 : (r == 8213) = true := by (have q : r = 8213 := by omega); rw [q]; rfl | have f20 : (r == 8213) = false := by (have q : r ≠ 8213 := by omega); simp [q]
    first | have f21 : (r == 34) = true := by (have q : r = 34 := by omega); rw [q]; rfl | have f21 : (r == 34) = false := by (have q : r ≠ 34 := by omega); simp [q]
    first | have f22 : (r == 39) = true := by (have q : r = 39 := by omega); rw [q]; rfl | have f22 : (r == 39) = false := by (have q : r ≠ 39 := by omega); simp [q]
    first | have f23 : (r == 171) = true := by (have q : r = 171 := by omega); rw [q]; rfl | have f23 : (r == 171) = false := by (have q : r ≠ 171 := by omega); simp [q]
    first | have f24 : (r == 187) = true := by (have q : r = 187 := by omega); rw [q]; rfl | have f24 : (r == 187) = false := by (have q : r ≠ 187 := by omega); simp [q]
    first | have f25 : (r == 8249) = true := by (have q : r = 8249 := by omega); rw [q]; rfl | have f25 : (r == 8249) = false := by (have q : r ≠ 8249 := by omega); simp [q]
    first | have f26 : (r == 8250) = true := by (have q : r = 8250 := by omega); rw [q]; rfl | have f26 : (r == 8250) = false := by (have q : r ≠ 8250 := by omega); simp [q]
    first | have f27 : (r == 33) = true := by (have q : r = 33 := by omega); rw [q]; rfl | have f27 : (r == 33) = false := by (have q : r ≠ 33 := by omega); simp [q]
    first | have f28 : (r == 44) = true := by (have q : r = 44 := by omega); rw [q]; rfl | have f28 : (r == 44) = false := by (have q : r ≠ 44 := by omega); simp [q]
    first | have f29 : (r == 46) = true := by (have q : r = 46 := by omega); rw [q]; rfl | have f29 : (r == 46) = false := by (have q : r ≠ 46 := by omega); simp [q]
    first | have f30 : (r == 58) = true := by (have q : r = 58 := by omega); rw [q]; rfl | have f30 : (r == 58) = false := by (have q : r ≠ 58 := by omega); simp [q]
    first | have f31 : (r == 59) = true := by (have q : r = 59 := by omega); rw [q]; rfl | have f31 : (r == 59) = false := by (have q : r ≠ 59 := by omega); simp [q]
    first | have f32 : (r == 63) = true := by (have q : r = 63 := by omega); rw [q]; rfl | have f32 : (r == 63) = false := by (have q : r ≠ 63 := by omega); simp [q]
    first | have f33 : (r == 161) = true := by (have q : r = 161 := by omega); rw [q]; rfl | have f33 : (r == 161) = false := by (have q : r ≠ 161 := by omega); simp [q]
    first | have f34 : (r == 183) = true := by (have q : r = 183 := by omega); rw [q]; rfl | have f34 : (r == 183) = false := by (have q : r ≠ 183 := by omega); simp [q]
    first | have f35 : (r == 191) = true := by (have q : r = 191 := by omega); rw [q]; rfl | have f35 : (r == 191) = false := by (have q : r ≠ 191 := by omega); simp [q]
    first | have f36 : (r == 8230) = true := by (have q : r = 8230 := by omega); rw [q]; rfl | have f36 : (r == 8230) = false := by (have q : r ≠ 8230 := by omega); simp [q]
    first | have f37 : decide (r ≥ 8192) = true := decide_eq_true (by omega) | have f37 : decide (r ≥ 8192) = false := decide_eq_false (by omega)
    first | have f38 : decide (r ≤ 8202) = true := decide_eq_true (by omega) | have f38 : decide (r ≤ 8202) = false := decide_eq_false (by omega)
    first | have f39 : decide (r ≥ 8216) = true := decide_eq_true (by omega) | have f39 : decide (r ≥ 8216) = false := decide_eq_false (by omega)
    first | have f40 : decide (r ≤ 8223) = true := decide_eq_true (by omega) | have f40 : decide (r ≤ 8223) = false := decide_eq_false (by omega)
    first | have f41 : decide (r < 32) = true := decide_eq_true (by omega) | have f41 : decide (r < 32) = false := decide_eq_false (by omega)
    first | have f42 : decide (r ≥ 127) = true := decide_eq_true (by omega) | have f42 : decide (r ≥ 127) = false := decide_eq_false (by omega)
    first | have f43 : decide (r ≤ 159) = true := decide_eq_true (by omega) | have f43 : decide (r ≤ 159) = false := decide_eq_false (by omega)
    first | have f44 : decide (r ≥ 8203) = true := decide_eq_true (by omega) | have f44 : decide (r ≥ 8203) = false := decide_eq_false (by omega)
    first | have f45 : decide (r ≤ 8207) = true := decide_eq_true (by omega) | have f45 : decide (r ≤ 8207) = false := decide_eq_false (by omega)
    first | have f46 : (r == 65279) = true := by (have q : r = 65279 := by omega); rw [q]; rfl | have f46 : (r == 65279) = false := by (have q : r ≠ 65279 := by omega); simp [q]
    clear h
    go_enter Tryz.func140, Tryz.ntmps140
    go_wp2_with fail
    first | (refine (HL.out _).mono ?_; rintro e w1 ⟨rfl, rfl⟩; go_wp2_with fail; refine (HM.out _).mono ?_; rintro e w1 ⟨rfl, rfl⟩; go_wp2_with fail) | skip
    go_ret
    exact ⟨by rw [hk]; rfl, rfl⟩
theorem kind_any (r : Int) (w : World) : Calls Tryz.prog 140 #[.int .i32 r] w fun e w' => e = .returned (.int .i64 (kindP r)) ∧ w = w' := by
  have HL := Lib.hid (letter_any r)
  have HM := Lib.hid (mark_any r)
  by_cases hq : LetR r
  · have hL : decide (LetR r) = true := decide_eq_true hq
    have hr : ¬ (r < 0 ∨ (55296 ≤ r ∧ r ≤ 57343) ∨ 1114111 < r) := by unfold LetR GreatR SmallR at hq; omega
    have f0 : decide (r < 0) = false := decide_eq_false (by omega)
    have f1 : decide (r ≥ 55296) = false := decide_eq_false (by unfold LetR GreatR SmallR at hq; omega)
    have f3 : decide (r > 1114111) = false := decide_eq_false (by omega)
    have hk : kindP r = 1 := by unfold kindP; rw [if_neg hr, if_pos hq]
    clear hr hq
    go_enter Tryz.func140, Tryz.ntmps140
    go_wp2_with fail
    refine (HL.out _).mono ?_
    rintro e w1 ⟨rfl, rfl⟩
    go_wp2_with fail
    go_ret
    exact ⟨by rw [hk]; rfl, rfl⟩
  · have hL : decide (LetR r) = false := decide_eq_false hq
    by_cases hm : MarkR r
    · have hM : decide (MarkR r) = true := decide_eq_true hm
      have hr : ¬ (r < 0 ∨ (55296 ≤ r ∧ r ≤ 57343) ∨ 1114111 < r) := by unfold MarkR at hm; omega
      have f0 : decide (r < 0) = false := decide_eq_false (by omega)
      have f1 : decide (r ≥ 55296) = false := decide_eq_false (by unfold MarkR at hm; omega)
      have f3 : decide (r > 1114111) = false := decide_eq_false (by omega)
      have hk : kindP r = 2 := by unfold kindP; rw [if_neg hr, if_neg hq, if_pos hm]
      clear hr hq hm
      go_enter Tryz.func140, Tryz.ntmps140
      go_wp2_with fail
      refine (HL.out _).mono ?_
      rintro e w1 ⟨rfl, rfl⟩
      go_wp2_with fail
      refine (HM.out _).mono ?_
      rintro e w1 ⟨rfl, rfl⟩
      go_wp2_with fail
      go_ret
      exact ⟨by rw [hk]; rfl, rfl⟩
    · rw [other_eq r hq hm]
      exact kind_other r hL (decide_eq_false hm) w
end Go.Proofs.YtgcdopafblcbhaaGreatDoor

import Derived.Test.YtjlncnjmcgkkhaaA3
import Derived.Sort.Grow
namespace Go.Proofs.Ytjlncnjmcgkkhaa
set_option linter.unusedVariables false
set_option linter.unusedSimpArgs false
open Go.RowKit

theorem ret_i64 {a b : Int} (h : a = b) : Ending.returned (.int .i64 a) = Ending.returned (.int .i64 b) := by rw [h]

set_option maxRecDepth 100000 in
theorem moment_any (a b : Nat) (w : World) :
    Calls Try.prog 66 #[.float .f64 a, .float .f64 b] w fun e w' => e = .returned (.int .i64 (Fl.mom a b)) ∧ w = w' := by
  cases ha : Fl.key a with
  | none =>
    have m1 : FloatKind.f64.format.order a b = none := Fl.order_none ha
    have m2 : FloatKind.f64.format.order a a = none := Fl.order_none ha
    cases hb : Fl.key b with
    | none =>
      have m3 : FloatKind.f64.format.order b b = none := Fl.order_none hb
      have e : Fl.mom a b = 0 := by unfold Fl.mom; rw [ha, hb]
      rw [e]; clear e ha hb
      go_enter Try.func66, Try.ntmps66
      go_wp2
      go_ret; exact ⟨rfl, rfl⟩
    | some y =>
      have m3 : FloatKind.f64.format.order b b = some .eq := Fl.order_self hb
      have e : Fl.mom a b = 1 := by unfold Fl.mom; rw [ha, hb]
      rw [e]; clear e ha hb
      go_enter Try.func66, Try.ntmps66
      go_wp2
      go_ret; exact ⟨rfl, rfl⟩
  | some x =>
    have m2 : FloatKind.f64.format.order a a = some .eq := Fl.order_self ha
    cases hb : Fl.key b with
    | none =>
      have m1 : FloatKind.f64.format.order a b = none := Fl.order_none' hb
      have m3 : FloatKind.f64.format.order b b = none := Fl.order_none hb
      have e : Fl.mom a b = -1 := by unfold Fl.mom; rw [ha, hb]
      rw [e]; clear e ha hb
      go_enter Try.func66, Try.ntmps66
      go_wp2
      go_ret; exact ⟨rfl, rfl⟩
    | some y =>
      have m3 : FloatKind.f64.format.order b b = some .eq := Fl.order_self hb
      have m1 : FloatKind.f64.format.order a b = some (compare x y) := Fl.order_some ha hb
      rcases Int.lt_trichotomy x y with h | h | h
      · have e : Fl.mom a b = -1 := by unfold Fl.mom; rw [ha, hb]; simp [h]
        rw [Int.compare_eq_lt.2 h] at m1
        rw [e]; clear e ha hb h
        go_enter Try.func66, Try.ntmps66
        go_wp2
        go_ret; exact ⟨rfl, rfl⟩
      · have e : Fl.mom a b = 0 := by unfold Fl.mom; rw [ha, hb]; simp [h]
        rw [Int.compare_eq_eq.2 h] at m1
        rw [e]; clear e ha hb h
        go_enter Try.func66, Try.ntmps66
        go_wp2
        go_ret; exact ⟨rfl, rfl⟩
      · have e : Fl.mom a b = 1 := by unfold Fl.mom; rw [ha, hb]; have := Int.not_lt.2 (Int.le_of_lt h); simp [h, this]
        rw [Int.compare_eq_gt.2 h] at m1
        rw [e]; clear e ha hb h
        go_enter Try.func66, Try.ntmps66
        go_wp2
        go_ret; exact ⟨rfl, rfl⟩

/-- a note of a voice, as it lies in memory -/
def sungCells (v i : Nat) (n : Note) : List Value := [.int .i64 v, .int .i64 i, .int .i64 n.line, .int .i64 n.beat, .int .i64 n.word, .bool n.strong, .float .f64 n.at_, .float .f64 n.long]

/-- what 'compare' tells of two notes of voices -/
def cmpS (v i : Nat) (n : Note) (v' i' : Nat) (n' : Note) : Int :=
  if Fl.mom n.at_ n'.at_ ≠ 0 then Fl.mom n.at_ n'.at_ else if v ≠ v' then (v : Int) - v' else (i : Int) - i'

set_option maxRecDepth 100000 in
set_option maxHeartbeats 2000000 in
theorem compare_any (v i v' i' : Nat) (n n' : Note) (hv : v < 4611686018427387904) (hi : i < 4611686018427387904) (hv' : v' < 4611686018427387904) (hi' : i' < 4611686018427387904) (w : World) :
    Calls Try.prog 45 #[.agg (sungCells v i n).toArray, .agg (sungCells v' i' n').toArray] w fun e w' => e = .returned (.int .i64 (cmpS v i n v' i' n')) ∧ ∃ q os', w' = Sort.grow (w.drewN q) os' := by
  unfold cmpS sungCells
  generalize hm : Fl.mom n.at_ n'.at_ = m
  have hmo := fun W => moment_any n.at_ n'.at_ W
  rw [hm] at hmo
  have Hmo := Lib.hid hmo
  clear hmo
  have grown : ∀ (o1 o2 : Obj), ∃ q os', (w.alloc o1).alloc o2 = Sort.grow (w.drewN q) os' := fun o1 o2 => ⟨0, #[o1] ++ #[o2], by rw [Sort.alloc_eq_grow, Sort.alloc_eq_grow, Sort.grow_grow]; rfl⟩
  have Grown := Lib.hid grown
  clear grown
  by_cases h0 : m = 0
  · subst h0
    by_cases h1 : v = v'
    · subst h1
      simp only [ne_eq, not_true_eq_false, if_false]
      have k1 : ((v : Int) != (v : Int)) = false := by simp
      go_enter Try.func45, Try.ntmps45
      go_wp2_with (go_at_call 66; refine (Hmo.out _).mono ?_; rintro e w' ⟨rfl, rfl⟩)
      go_ret
      exact ⟨ret_i64 (by first | rfl | simp), Grown.out _ _⟩
    · have k1 : ((v : Int) != (v' : Int)) = true := by simpa using fun h => h1 (by omega)
      simp only [ne_eq, not_true_eq_false, if_false, h1, if_true, not_false_eq_true]
      go_enter Try.func45, Try.ntmps45
      go_wp2_with (go_at_call 66; refine (Hmo.out _).mono ?_; rintro e w' ⟨rfl, rfl⟩)
      go_ret
      exact ⟨ret_i64 (by first | rfl | simp), Grown.out _ _⟩
  · have h1 : (m == 0) = false := by simpa using h0
    have h2 : (m != 0) = true := by simpa using h0
    simp only [ne_eq, h0, not_false_eq_true, if_true]
    go_enter Try.func45, Try.ntmps45
    go_wp2_with (go_at_call 66; refine (Hmo.out _).mono ?_; rintro e w' ⟨rfl, rfl⟩)
    go_ret
    exact ⟨ret_i64 (by first | rfl | simp), Grown.out _ _⟩
end Go.Proofs.Ytjlncnjmcgkkhaa

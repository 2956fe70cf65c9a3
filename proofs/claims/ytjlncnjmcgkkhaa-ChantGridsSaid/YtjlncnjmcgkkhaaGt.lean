/- Whether a float is small enough to be made whole; the two ways to ask. Plain. -/
import Derived.Test.YtjlncnjmcgkkhaaGs
namespace Go.Proofs.Ytjlncnjmcgkkhaa.Fl
set_option linter.unusedVariables false
set_option linter.unusedSimpArgs false
open Ieee

def inB (x : Nat) : Bool := match key x with | some k => decide (k.natAbs < 9007199254740992 * U) | none => false
theorem inB_key {x : Nat} (h : inB x = true) : ∃ k, key x = some k ∧ k.natAbs < 9007199254740992 * U := by
  unfold inB at h
  cases hk : key x with
  | none => rw [hk] at h; cases h
  | some k => rw [hk] at h; exact ⟨k, rfl, of_decide_eq_true h⟩

theorem key_c (s : Bool) (x : Nat) (hr : double.read x = .number s 4503599627370496 1) : key x = some (signed s (9007199254740992 * U) 0) := by
  obtain ⟨z, hz⟩ : ∃ z : Nat, z = 1075 := ⟨_, rfl⟩
  have e : key x = some (signed s 4503599627370496 z) := by unfold key; rw [hr, hz]; rfl
  rw [e, signed_shift]
  congr 2
  rw [U_eq]
  calc 4503599627370496 * 2 ^ z = 4503599627370496 * (2 ^ n74 * 2) := by rw [← Nat.pow_succ]; congr 2; rw [n74_eq, hz]
    _ = 9007199254740992 * 2 ^ n74 := by omega
theorem read_c : double.read 4845873199050653696 = .number false 4503599627370496 1 := by decide
theorem read_cn : double.read 14069245235905429504 = .number true 4503599627370496 1 := by decide
theorem key_c53 : key 4845873199050653696 = some ((9007199254740992 * U : Nat) : Int) := by rw [key_c false _ read_c, signed_zero_eq]; rfl
theorem key_n53 : key 14069245235905429504 = some (-((9007199254740992 * U : Nat) : Int)) := by rw [key_c true _ read_cn, signed_zero_eq]; rfl

theorem in_ref (x : Nat) : (double.order x 14069245235905429504 == some .gt && double.order x 4845873199050653696 == some .lt) = inB x := by
  unfold inB
  cases hk : key x with
  | none => rw [order_none hk, order_none hk]; rfl
  | some k =>
    rw [order_some hk key_c53, order_some hk key_n53]
    simp only []
    generalize 9007199254740992 * U = v at *
    rw [Bool.eq_iff_iff]
    simp only [Bool.and_eq_true, beq_iff_eq, Option.some.injEq, Int.compare_eq_gt, Int.compare_eq_lt, decide_eq_true_eq]
    omega

theorem c_big : 9007199254740992 * U < bigN := by
  have h := lt_bigN (m := 4503599627370496) (u := n74 + 1) (by omega) (by rw [n74_eq]; omega)
  rw [Nat.pow_succ, ← U_eq] at h
  omega
theorem key_abs (x : Nat) : key (x % 9223372036854775808) = (key x).map fun k => (k.natAbs : Int) := by
  have ka : key (x % 9223372036854775808) = dval (double.read (x % 9223372036854775808)) := rfl
  rw [ka, read_abs]
  unfold key
  cases hr : double.read x with
  | nan s f => rfl
  | infinity s =>
    have hP := bigN_pos
    simp only [dval, Option.map_some, Bool.false_eq_true, if_false]
    cases s <;> simp
  | number s m i =>
    simp only [dval, Option.map_some]
    congr 1
    rw [signed_abs, signed_shift, signed_zero_eq]; rfl
theorem in_abs (x : Nat) : (double.order (x % 9223372036854775808) 4845873199050653696 == some .lt) = inB x := by
  unfold inB
  cases hk : key x with
  | none =>
    have h : key (x % 9223372036854775808) = none := by rw [key_abs, hk]; rfl
    rw [order_none h]; rfl
  | some k =>
    have h : key (x % 9223372036854775808) = some (k.natAbs : Int) := by rw [key_abs, hk]; rfl
    rw [order_some h key_c53]
    simp only []
    generalize 9007199254740992 * U = v at *
    rw [Bool.eq_iff_iff]
    simp only [beq_iff_eq, Option.some.injEq, Int.compare_eq_lt, decide_eq_true_eq]
    omega
theorem inB_congr {x y : Nat} (h : key x = key y) : inB x = inB y := by unfold inB; rw [h]

/-- the place on the grid -/
def gridN (x : Nat) : Int := (floatToIntVal .f64 (intg .even x) .i64).getD 0
theorem inB_fin {x : Nat} (h : inB x = true) : finB x = true := by
  obtain ⟨k, hk, hb⟩ := inB_key h
  exact (finB_iff x).2 ⟨k, hk, Nat.lt_trans hb c_big⟩
theorem gridN_even {x : Nat} (h : inB x = true) : floatToIntVal .f64 (intg .even x) .i64 = some (gridN x) := by
  obtain ⟨k, hk, hb⟩ := inB_key h
  obtain ⟨F, r, o, h1, h2, _⟩ := grid_plain x k hk hb
  unfold gridN; rw [h2]; rfl
theorem gridN_down {x : Nat} (h : inB x = true) : ∃ F r o, floatToIntVal .f64 (intg .down x) .i64 = some F ∧ gridN x = after o F ∧ -9007199254740992 ≤ F ∧ F < 9007199254740992 ∧
    double.sub x (intg .down x) = some r ∧ double.order r 4602678819172646912 = some o := by
  obtain ⟨k, hk, hb⟩ := inB_key h
  obtain ⟨F, r, o, h1, h2, h3⟩ := grid_plain x k hk hb
  exact ⟨F, r, o, h1, by unfold gridN; rw [h2]; rfl, h3⟩
theorem gridN_bd {x : Nat} (h : inB x = true) : -9007199254740992 ≤ gridN x ∧ gridN x ≤ 9007199254740992 := by
  obtain ⟨F, r, o, _, h2, h3, h4, _⟩ := gridN_down h
  rw [h2]; unfold after; split <;> omega
theorem intg_lt (way : Toward) (x : Nat) : intg way x < 18446744073709551616 := by
  have := double.write_lt ((double.read x).integral way)
  exact this
end Go.Proofs.Ytjlncnjmcgkkhaa.Fl

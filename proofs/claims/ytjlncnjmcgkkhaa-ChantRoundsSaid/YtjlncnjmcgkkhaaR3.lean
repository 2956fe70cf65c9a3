import Derived.Test.YtjlncnjmcgkkhaaR2
namespace Go.Proofs.Ytjlncnjmcgkkhaa
set_option linter.unusedVariables false
set_option linter.unusedSimpArgs false
open Go.RowKit
attribute [local go_sem] run_store_float run_fadd run_fsub run_fmul run_fquo

/- Round of too many notes. -/
theorem div_lt (n k : Nat) (h : 1 ≤ n) : ((65536 : Int) / (n : Int) < (k : Int)) ↔ 65536 < k * n := by
  have e : (65536 : Int) / (n : Int) = ((65536 / n : Nat) : Int) := by simp
  rw [e, Int.ofNat_lt]
  exact Nat.div_lt_iff_lt_mul (by omega)

set_option maxRecDepth 100000 in
set_option maxHeartbeats 4000000 in
theorem round_long (A : Option Addr) (c n delay : Nat) (l : List Note) (w : World) (hv1 : 1 ≤ n) (hv2 : n ≤ 16) (hf : Fl.finB delay = true) (hd : (FloatKind.f64.format.order delay 0 == some .lt) = false) (hl : 65536 < l.length * n) (hl' : l.length ≤ 4398046511104) :
    Calls Try.prog 28 #[.slice A l.length c, .int .i64 n, .float .f64 delay] w (RoundSays 3 w) := by
  have hfin := fun W => finite_any delay W
  rw [hf] at hfin
  have Hfin := Lib.hid hfin
  clear hfin hf
  have hle : l.length * n ≤ 4398046511104 * 16 := Nat.mul_le_mul hl' hv2
  have s1 : IntKind.i64.wrap ((l.length : Int) * (n : Int)) = (l.length : Int) * (n : Int) := IntWalk.i64_in _ (by
    have : (l.length : Int) * (n : Int) = ((l.length * n : Nat) : Int) := by simp
    rw [this]; omega)
  have s2 : decide ((65536 : Int) < (l.length : Int) * (n : Int)) = true := by
    have : (l.length : Int) * (n : Int) = ((l.length * n : Nat) : Int) := by simp
    rw [this]; simp; omega
  clear hle
  go_enter Try.func28, Try.ntmps28
  go_wp2_with fail
  refine (Hfin.out _).mono ?_
  rintro e w2 ⟨rfl, rfl⟩
  go_wp2_with fail
  go_ret2
  exact ⟨rfl, Below.refl _ _⟩

set_option maxRecDepth 100000 in
set_option maxHeartbeats 4000000 in
theorem refround_long (A : Option Addr) (c n delay : Nat) (l : List Note) (w : World) (hv1 : 1 ≤ n) (hv2 : n ≤ 16) (hf : Fl.finB delay = true) (hd : (FloatKind.f64.format.order delay 0 == some .lt) = false) (hl : 65536 < l.length * n) (hl' : l.length ≤ 4398046511104) :
    Calls Try.prog 27 #[.slice A l.length c, .int .i64 n, .float .f64 delay] w (RoundSays 3 w) := by
  have hfin := fun W => reffinite_any delay W
  rw [hf] at hfin
  have Hfin := Lib.hid hfin
  clear hfin hf
  have s2 : decide ((65536 : Int) / (n : Int) < (l.length : Int)) = true := by rw [decide_eq_true_eq]; exact (div_lt n l.length hv1).2 hl
  go_enter Try.func27, Try.ntmps27
  go_wp2_with fail
  refine (Hfin.out _).mono ?_
  rintro e w2 ⟨rfl, n2, rfl⟩
  go_wp2_with fail
  go_ret2
  exact ⟨rfl, belowD (Below.refl _ _) _⟩
end Go.Proofs.Ytjlncnjmcgkkhaa

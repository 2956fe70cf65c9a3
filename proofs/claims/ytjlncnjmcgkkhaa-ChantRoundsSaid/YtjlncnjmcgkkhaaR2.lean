import Derived.Test.YtjlncnjmcgkkhaaR1
namespace Go.Proofs.Ytjlncnjmcgkkhaa
set_option linter.unusedVariables false
set_option linter.unusedSimpArgs false
open Go.RowKit
attribute [local go_sem] run_store_float run_fadd run_fsub run_fmul run_fquo

/- Round refused. -/
def RoundSays (ec : Int) (w : World) (e : Ending) (w' : World) : Prop := e = .returned (.tuple #[.slice none 0 0, .int .i64 ec]) ∧ Below w.heap.size w w'
def voicesOk (x : Int) (delay : Nat) : Bool := decide (1 ≤ x) && decide (x ≤ 16) && Fl.finB delay && !(FloatKind.f64.format.order delay 0 == some .lt)

set_option maxRecDepth 100000 in
set_option maxHeartbeats 4000000 in
theorem round_no (A : Option Addr) (c delay : Nat) (x : Int) (l : List Note) (w : World) (hx : -9223372036854775808 ≤ x) (hx' : x ≤ 9223372036854775807) (hok : voicesOk x delay = false) :
    Calls Try.prog 28 #[.slice A l.length c, .int .i64 x, .float .f64 delay] w (RoundSays 2 w) := by
  have hf := fun W => finite_any delay W
  have Hok := Lib.hid hok
  have Hf := Lib.hid hf
  clear hf hok
  by_cases c1 : x < 1
  · clear Hok
    go_enter Try.func28, Try.ntmps28
    go_wp2_with fail
    go_ret2
    exact ⟨rfl, Below.refl _ _⟩
  by_cases c2 : 16 < x
  · clear Hok
    go_enter Try.func28, Try.ntmps28
    go_wp2_with fail
    go_ret2
    exact ⟨rfl, Below.refl _ _⟩
  have c1' : 1 ≤ x := by omega
  have c2' : x ≤ 16 := by omega
  cases o1 : Fl.finB delay with
  | false =>
    have hf := Hf.out
    rw [o1] at hf
    have Hf1 := Lib.hid hf
    clear hf Hok
    go_enter Try.func28, Try.ntmps28
    go_wp2_with fail
    refine (Hf1.out _).mono ?_
    rintro e w2 ⟨rfl, rfl⟩
    go_wp2_with fail
    go_ret2
    exact ⟨rfl, Below.refl _ _⟩
  | true =>
    have hf := Hf.out
    rw [o1] at hf
    have Hf1 := Lib.hid hf
    clear hf
    have hok := Hok.out
    have o2 : FloatKind.f64.format.order delay 0 = some .lt := by simpa [voicesOk, o1, c1', c2'] using hok
    clear hok Hok o1
    go_enter Try.func28, Try.ntmps28
    go_wp2_with fail
    refine (Hf1.out _).mono ?_
    rintro e w2 ⟨rfl, rfl⟩
    go_wp2_with fail
    go_ret2
    exact ⟨rfl, Below.refl _ _⟩

set_option maxRecDepth 100000 in
set_option maxHeartbeats 4000000 in
theorem refround_no (A : Option Addr) (c delay : Nat) (x : Int) (l : List Note) (w : World) (hx : -9223372036854775808 ≤ x) (hx' : x ≤ 9223372036854775807) (hok : voicesOk x delay = false) :
    Calls Try.prog 27 #[.slice A l.length c, .int .i64 x, .float .f64 delay] w (RoundSays 2 w) := by
  have hf := fun W => reffinite_any delay W
  have Hok := Lib.hid hok
  have Hf := Lib.hid hf
  clear hf hok
  by_cases c1 : x < 1
  · clear Hok
    go_enter Try.func27, Try.ntmps27
    go_wp2_with fail
    go_ret2
    exact ⟨rfl, Below.refl _ _⟩
  by_cases c2 : 16 < x
  · clear Hok
    go_enter Try.func27, Try.ntmps27
    go_wp2_with fail
    go_ret2
    exact ⟨rfl, Below.refl _ _⟩
  have c1' : 1 ≤ x := by omega
  have c2' : x ≤ 16 := by omega
  cases o1 : Fl.finB delay with
  | false =>
    have hf := Hf.out
    rw [o1] at hf
    have Hf1 := Lib.hid hf
    clear hf Hok
    go_enter Try.func27, Try.ntmps27
    go_wp2_with fail
    refine (Hf1.out _).mono ?_
    rintro e w2 ⟨rfl, n2, rfl⟩
    go_wp2_with fail
    go_ret2
    exact ⟨rfl, belowD (Below.refl _ _) _⟩
  | true =>
    have hf := Hf.out
    rw [o1] at hf
    have Hf1 := Lib.hid hf
    clear hf
    have hok := Hok.out
    have o2 : FloatKind.f64.format.order delay 0 = some .lt := by simpa [voicesOk, o1, c1', c2'] using hok
    clear hok Hok o1
    go_enter Try.func27, Try.ntmps27
    go_wp2_with fail
    refine (Hf1.out _).mono ?_
    rintro e w2 ⟨rfl, n2, rfl⟩
    go_wp2_with fail
    go_ret2
    exact ⟨rfl, belowD (Below.refl _ _) _⟩
end Go.Proofs.Ytjlncnjmcgkkhaa

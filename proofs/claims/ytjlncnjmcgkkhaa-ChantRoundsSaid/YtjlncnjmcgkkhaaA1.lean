import Derived.Test.YtjlncnjmcgkkhaaRows
import Derived.Test.YtjlncnjmcgkkhaaFl
import Derived.WalkKit
import Derived.WalkLawsBesides
import Derived.WalkSpells
import Derived.ProofKit
import Derived.Deep.QuietTactic
import Derived.BigQuiet
import Derived.Outline
import Derived.Handy
import Derived.Lib.Hide
namespace Go.Proofs.Ytjlncnjmcgkkhaa
set_option linter.unusedVariables false
set_option linter.unusedSimpArgs false
open Go.RowKit

theorem isnan_any (a : Nat) (w : World) :
    Calls Try.prog 62 #[.float .f64 a] w fun e w' => e = .returned (.bool (FloatKind.f64.format.order a a != some .eq)) ∧ w = w' := by
  go_enter Try.func62, Try.ntmps62
  go_wp2
  go_ret
  exact ⟨rfl, rfl⟩

theorem ext51 (a : Nat) (w : World) : (callFunc 51 #[.float .f64 a]).run Try.prog w = .ok (.value (.int .u64 a)) w := by kernel_rfl
theorem ext69 (a : Int) (w : World) : (callFunc 69 #[.int .u64 a]).run Try.prog w = .ok (.value (.float .f64 a.toNat)) w := by kernel_rfl
attribute [local go_sem] ext51 ext69
theorem absBits (a : Nat) : (bits BinOp.andNot IntKind.u64 (↑a) 9223372036854775808).toNat = a % 9223372036854775808 := by
  have e : (BitVec.ofInt 64 (9223372036854775808 : Int)) = 9223372036854775808#64 := by decide
  show (IntKind.u64.wrap ((BitVec.ofInt 64 (a : Int) &&& ~~~(BitVec.ofInt 64 (9223372036854775808 : Int))).toNat : Int)).toNat = _
  rw [e, BitVec.toNat_and, BitVec.ofInt_natCast, BitVec.toNat_ofNat]
  have e2 : (~~~(9223372036854775808#64)).toNat = 2 ^ 63 - 1 := by decide
  rw [e2, Nat.and_two_pow_sub_one_eq_mod]
  unfold IntKind.wrap
  simp [IntKind.signed, IntKind.bits]
  omega

set_option maxRecDepth 100000 in
theorem abs_any (a : Nat) (w : World) :
    Calls Try.prog 56 #[.float .f64 a] w fun e w' => e = .returned (.float .f64 (a % 9223372036854775808)) ∧ w = w' := by
  have hA := absBits a
  generalize hq : a % 9223372036854775808 = q at *
  go_enter Try.func56, Try.ntmps56
  go_wp2_with fail
  go_ret
  exact ⟨rfl, rfl⟩

set_option maxRecDepth 100000 in
theorem isinf_any (a : Nat) (w : World) :
    Calls Try.prog 63 #[.float .f64 a, .int .i64 0] w fun e w' => e = .returned (.bool (FloatKind.f64.format.order (a % 9223372036854775808) 9218868437227405311 == some .gt)) ∧ w = w' := by
  go_enter Try.func63, Try.ntmps63
  go_wp2_with (go_at_call 56; refine (abs_any _ _).mono ?_; rintro e w' ⟨rfl, rfl⟩)
  go_ret
  exact ⟨rfl, rfl⟩
theorem isnan_true (a : Nat) (w : World) (h : (FloatKind.f64.format.order a a != some .eq) = true) :
    Calls Try.prog 62 #[.float .f64 a] w fun e w' => e = .returned (.bool true) ∧ w = w' := by
  have := isnan_any a w; rw [h] at this; exact this
theorem isnan_false (a : Nat) (w : World) (h : (FloatKind.f64.format.order a a != some .eq) = false) :
    Calls Try.prog 62 #[.float .f64 a] w fun e w' => e = .returned (.bool false) ∧ w = w' := by
  have := isnan_any a w; rw [h] at this; exact this

set_option maxRecDepth 100000 in
theorem finite_any (a : Nat) (w : World) :
    Calls Try.prog 42 #[.float .f64 a] w fun e w' => e = .returned (.bool (Fl.finB a)) ∧ w = w' := by
  rw [← Fl.fin_eq]
  show Calls Try.prog 42 #[.float .f64 a] w fun e w' => e = .returned (.bool (!(FloatKind.f64.format.order a a != some .eq) && !(FloatKind.f64.format.order (a % 9223372036854775808) 9218868437227405311 == some .gt))) ∧ w = w'
  have hi := isinf_any a w
  generalize (FloatKind.f64.format.order (a % 9223372036854775808) 9218868437227405311 == some .gt) = q at *
  have Hi := Lib.hid hi; clear hi
  cases hn : (FloatKind.f64.format.order a a != some .eq)
  · have H1 := Lib.hid (isnan_false a w hn); clear hn
    go_enter Try.func42, Try.ntmps42
    go_wp2_with (first | (go_at_call 62; refine (H1.out).mono ?_; rintro e w' ⟨rfl, rfl⟩) | (go_at_call 63; refine (Hi.out).mono ?_; rintro e w' ⟨rfl, rfl⟩))
    go_ret
    exact ⟨rfl, rfl⟩
  · have H1 := Lib.hid (isnan_true a w hn); clear hn
    go_enter Try.func42, Try.ntmps42
    go_wp2_with (first | (go_at_call 62; refine (H1.out).mono ?_; rintro e w' ⟨rfl, rfl⟩) | (go_at_call 63; refine (Hi.out).mono ?_; rintro e w' ⟨rfl, rfl⟩))
    go_ret
    exact ⟨rfl, rfl⟩
end Go.Proofs.Ytjlncnjmcgkkhaa

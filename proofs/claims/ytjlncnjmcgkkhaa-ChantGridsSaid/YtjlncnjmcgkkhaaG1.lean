import Derived.Test.YtjlncnjmcgkkhaaGt
import Derived.Test.YtjlncnjmcgkkhaaA5
import Derived.Deep.RegionHeld3
namespace Go.Proofs.Ytjlncnjmcgkkhaa
set_option linter.unusedVariables false
set_option linter.unusedSimpArgs false
open Go.RowKit

/- Floor, RoundToEven. -/
theorem toIntegral_run (name : String) (way : Ieee.Toward) (x : Nat) (w : World) (h : Fl.finB x = true) :
    (Extern.MathFloor.toIntegral name way #[.float .f64 x]).run Try.prog w = .ok (.float .f64 (Fl.intg way x)) w := by
  unfold Fl.finB at h
  cases hr : Ieee.double.read x with
  | number s m i =>
    have e : Fl.intg way x = FloatKind.f64.encode ((Ieee.Datum.number s m i).integral way) := by unfold Fl.intg; rw [hr]; rfl
    rw [e]
    have e2 : FloatKind.f64.decode x = .number s m i := hr
    show (Extern.MathFloor.toIntegral.match_1 (fun _ => Sem Value) (FloatKind.f64.decode x) (fun s t => _) (fun d => _)).run Try.prog w = _
    rw [e2]
    rfl
  | infinity s => rw [hr] at h; cases h
  | nan s f => rw [hr] at h; cases h

theorem ext67 (x : Nat) (w : World) (h : Fl.finB x = true) : (callFunc 67 #[.float .f64 x]).run Try.prog w = .ok (.value (.float .f64 (Fl.intg .down x))) w := by
  have h1 := toIntegral_run "math.archFloor" .down x w h
  have e : (callFunc 67 #[.float .f64 x]).run Try.prog w = ((Extern.MathFloor.toIntegral "math.archFloor" .down #[.float .f64 x]) >>= fun v => pure (.value v)).run Try.prog w := by kernel_rfl
  rw [e]
  simp [h1]
theorem ext57 (x : Nat) (w : World) (h : Fl.finB x = true) : (callFunc 57 #[.float .f64 x]).run Try.prog w = .ok (.value (.float .f64 (Fl.intg .even x))) w := by
  have h1 := toIntegral_run "math.RoundToEven" .even x w h
  have e : (callFunc 57 #[.float .f64 x]).run Try.prog w = ((Extern.MathFloor.toIntegral "math.RoundToEven" .even #[.float .f64 x]) >>= fun v => pure (.value v)).run Try.prog w := by kernel_rfl
  rw [e]
  simp [h1]

theorem floor_any (x : Nat) (h : Fl.finB x = true) (w : World) : Calls Try.prog 55 #[.float .f64 x] w fun e w' => e = .returned (.float .f64 (Fl.intg .down x)) ∧ w = w' := by
  have hx := fun W => ext67 x W h
  go_enter Try.func55, Try.ntmps55
  go_wp2_with fail
  go_ret
  exact ⟨rfl, rfl⟩
end Go.Proofs.Ytjlncnjmcgkkhaa

import Derived.Test.YthmpfnmdplknlaaGreatProg
import Derived.WalkKit
import Derived.ProofKit
import Derived.Lib.Hide
import Derived.WalkMore
/- The kind of the rune nought; its width. -/
namespace Go.Proofs.YthmpfnmdplknlaaGreat
set_option linter.unusedVariables false
set_option linter.unusedSimpArgs false
open Go.RowKit
theorem even_any (r : Int) (w : World) : Calls Tryz.prog 115 #[.int .i32 r] w fun e w' => ∃ b, e = .returned (.bool b) ∧ w = w' := by
  go_enter Tryz.func115, Tryz.ntmps115
  go_wp2_with fail
  go_ret
  exact ⟨_, rfl, rfl⟩
set_option maxRecDepth 100000 in
theorem great_nought (w : World) : Calls Tryz.prog 108 #[.int .i32 0] w fun e w' => e = .returned (.bool false) ∧ w = w' := by
  go_enter Tryz.func108, Tryz.ntmps108
  go_wp2_with fail
  go_ret
  exact ⟨rfl, rfl⟩
set_option maxRecDepth 100000 in
theorem small_nought (w : World) : Calls Tryz.prog 113 #[.int .i32 0] w fun e w' => e = .returned (.bool false) ∧ w = w' := by
  go_enter Tryz.func113, Tryz.ntmps113
  go_wp2_with fail
  go_ret
  exact ⟨rfl, rfl⟩
end Go.Proofs.YthmpfnmdplknlaaGreat

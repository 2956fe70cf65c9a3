import Derived.Test.YtkfkkoefpfmjkaaDoorXF
import Derived.Test.YtkfkkoefpfmjkaaDoorUA
namespace Go.Proofs.YtkfkkoefpfmjkaaDoor
set_option linter.unusedVariables false
set_option linter.unusedSimpArgs false
open Go.RowKit

theorem other_any (A : Option Addr) (c p : Nat) (l : List Ft) (s : ByteArray) (w : World) (hl : IsFeet w w.heap.size A l) (hb : l.length ≤ 4611686018427387904) (hc : w.cell? ⟨p, 0, none⟩ = some (.string s)) (hp : p < w.heap.size) :
    Calls Tryd.prog 83 #[.slice A l.length c, .func (.func 84) #[] #[.pointer (some ⟨p, 0, none⟩)]] w fun e w' => e = .returned (.bool (l.any (otherB s))) ∧ Below w.heap.size w w' := by
  go_enter Tryd.func83, Tryd.ntmps83
  go_wp2_with fail
  refine (other_index A c p l s w hl hb hc hp).mono ?_
  rintro e w' ⟨n, rfl, hn, hb'⟩
  have Hn := Lib.hid hn
  clear hn
  go_wp2_with fail
  go_ret
  exact ⟨by rw [← Hn.out]; simp, hb'⟩
end Go.Proofs.YtkfkkoefpfmjkaaDoor

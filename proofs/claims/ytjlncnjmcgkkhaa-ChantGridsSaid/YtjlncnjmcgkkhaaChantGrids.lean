/- ChantGrids: the notes of a line are laid to the places on a grid of whatever step as the reference lays them, or refused as it refuses; the law returns true and leaves its arguments alone. No condition. -/
import Derived.Test.YtjlncnjmcgkkhaaG4
import Derived.Test.YtjlncnjmcgkkhaaFr
import Derived.Test.YtjlncnjmcgkkhaaOp2
namespace Go.Proofs.Ytjlncnjmcgkkhaa.lawChantGrids
set_option linter.unusedVariables false
set_option linter.unusedSimpArgs false
open Go Go.ChangeShapes Go.WideShapes Go.ChangeAt Go.RowKit

theorem own : ownKnob Try.prog.godebug = none := by kernel_rfl

theorem readable : ∀ t ∈ Try.f10.params.toList, Try.prog.readableRec t = true ∧ t < Try.prog.types.size := by
  rw [Try.params10]
  intro t ht
  simp at ht
  rcases ht with rfl | rfl
  all_goals exact ⟨by kernel_rfl, of_decide_eq_true (by kernel_rfl)⟩

set_option maxRecDepth 100000 in
theorem lifted (os : Os) (started : os.Started) (H : Type) (enc : TypeId × Value → H) :
    ReturnsInHanded {} Try.checked os 10 .any (Rows.chantGridsSpec.pre6 enc Try.prog Try.f10 Rows.chantGridsRow.domain false) (Rows.chantGridsSpec.post enc Try.prog Try.f10 false true false false) := by
  refine returnsInHanded_of_change (C := Try.checked) own started (by kernel_rfl) Try.func10
    (ChangeSpec.witness6 (enc := enc) (C := Try.checked) false ⟨#[], #[.slice none 0 0, .float .f64 0], []⟩ 8 (by kernel_rfl) (by kernel_rfl) (by kernel_rfl) (by kernel_rfl)) ?_
  intro W base args ds gs before hval0 hW hcnd _
  have hval : ∀ (j : Nat) t v, Try.f10.params[j]? = some t → args[j]? = some v → Value.okWide Try.prog W .any base t v := hval0
  have hW' := hW
  obtain ⟨p, q, hA0, hV, rfl, hfz, hnd⟩ := hW
  have hA : DataW.TrodAll enc Try.prog W 0 (fun _ => true) true Try.f10.params.toList args.toList ds p := hA0
  rw [Try.params10] at hA hval
  obtain ⟨v0, v1, d0, d1, p0, p1, rfl, rfl, rfl, h0, h1⟩ := trodAll_two hA
  obtain ⟨rfl, rfl⟩ := trodVars_none hV
  obtain ⟨x1, rfl, rfl, rfl, wf1⟩ := open_float Try.underlying22 (hval 1 22 v1 rfl rfl) h1
  obtain ⟨a0, len0, cap0, rfl⟩ := okWide_slice Try.underlying29 (hval 0 29 v0 rfl rfl)
  obtain ⟨fuel0, hf0⟩ := h0
  obtain ⟨A0, c0, l0, e0, hc0, hm0, hn0⟩ := notes_open hf0
  have hl0 : l0.length ≤ 9223372036854775807 := by unfold maxLen at hm0; omega
  clear hA0 hval0 hval hA hf0
  rw [e0] at hW' ⊢
  refine (chantgrids_any A0 c0 x1 l0 W hn0 hc0 hl0).mono fun e W' ⟨he, hb⟩ => ?_
  subst he
  exact ⟨_, rfl, law_post (ds := [d0, .lit (.float .f64 x1)]) (gs := []) (tb := 4) (by kernel_rfl) readable (by kernel_rfl) Try.underlying4 rfl rfl hW' hb⟩

theorem over : ({ Rows.chantGridsRow with leaving := false }).holds Try.pinned (OpenSpec.ofChange Rows.chantGridsSpec) :=
  OpenClaim.holds_of_wide 10 Try.f10 rfl rfl rfl rfl rfl rfl rfl ⟨rfl, rfl, rfl, rfl, rfl⟩ rfl rfl rfl rfl rfl (by kernel_rfl) Try.func10 (by kernel_rfl)
    (of_decide_eq_true (by kernel_rfl)) (by unfold Func.isWrapper; first | (rw [if_pos (by decide +kernel)]; kernel_rfl) | (rw [if_neg (by decide +kernel)]; exact ⟨rfl, rfl⟩))
    (fun os started H enc _ => lifted os started H enc)

theorem proved : Rows.ChantGridsSaid := holds_leaving Rows.chantGridsRow rfl rfl rfl over
#print axioms proved
end Go.Proofs.Ytjlncnjmcgkkhaa.lawChantGrids

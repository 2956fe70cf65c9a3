/- ChantSounds: how many notes sound at whatever moment, and the greatest number that sounds, are as the reference counts them; the law returns true and leaves its arguments alone. Condition: what is read holds at most 1048576 values. -/
import Derived.Test.YtjlncnjmcgkkhaaD2
import Derived.Test.YtjlncnjmcgkkhaaFr
import Derived.Test.YtjlncnjmcgkkhaaOp2
import Derived.Test.YtjlncnjmcgkkhaaBu
namespace Go.Proofs.Ytjlncnjmcgkkhaa.lawChantSounds
set_option linter.unusedVariables false
set_option linter.unusedSimpArgs false
open Go Go.ChangeShapes Go.WideShapes Go.ChangeAt Go.RowKit

theorem own : ownKnob Try.prog.godebug = none := by kernel_rfl

theorem readable : ∀ t ∈ Try.f5.params.toList, Try.prog.readableRec t = true ∧ t < Try.prog.types.size := by
  rw [Try.params5]
  intro t ht
  simp at ht
  rcases ht with rfl | rfl
  all_goals exact ⟨by kernel_rfl, of_decide_eq_true (by kernel_rfl)⟩

set_option maxRecDepth 100000 in
theorem lifted (os : Os) (started : os.Started) (H : Type) (enc : TypeId × Value → H) (F : Stop.Interp) :
    ReturnsInHanded {} Try.checked os 5 .any ((Rows.OpenSpec.upto Rows.chantSoundsSpec).pre6 enc Try.prog Try.f5 Rows.chantSoundsUptoRow.domain false) (((Rows.OpenSpec.upto Rows.chantSoundsSpec).at F).post enc Try.prog Try.f5 false true false false) := by
  refine returnsInHanded_of_cond (C := Try.checked) (s := Rows.OpenSpec.upto Rows.chantSoundsSpec) (k := Rows.uptoSmall) rfl own started (by kernel_rfl) Try.func5
    (OpenSpec.witness (enc := enc) (C := Try.checked) (s := Rows.OpenSpec.upto Rows.chantSoundsSpec) (k := Rows.uptoSmall) rfl false ⟨#[], #[.slice none 0 0, .float .f64 0], []⟩ 8 (by kernel_rfl) (by kernel_rfl) (by kernel_rfl)
      (x := ([.nil, .lit (.float .f64 0)], [], [])) (by kernel_rfl) rfl (by kernel_rfl)) ?_
  intro W base args ds gs before hval0 hW _ hk _
  have hW' := hW
  obtain ⟨p, q, hA0, hV, rfl, hfz, hnd⟩ := hW
  have hA : DataW.TrodAll enc Try.prog W 0 (fun _ => true) true Try.f5.params.toList args.toList ds p := hA0
  have hval : ∀ (j : Nat) t v, Try.f5.params[j]? = some t → args[j]? = some v → Value.okWide Try.prog W .any base t v := hval0
  rw [Try.params5] at hA hval
  obtain ⟨v0, v1, d0, d1, p0, p1, rfl, rfl, rfl, h0, h1⟩ := trodAll_two hA
  obtain ⟨rfl, rfl⟩ := trodVars_none hV
  obtain ⟨x1, rfl, rfl, rfl, wf1⟩ := open_float Try.underlying22 (hval 1 22 v1 rfl rfl) h1
  obtain ⟨a0, len0, cap0, rfl⟩ := okWide_slice Try.underlying27 (hval 0 27 v0 rfl rfl)
  obtain ⟨fuel0, hf0⟩ := h0
  have ho0 := voices_open hf0
  clear hf0
  obtain ⟨A0, c0, vs0, e0, _, hc0, hv0, hb0⟩ := ho0
  have hl0 : vs0.length ≤ 4611686018427387904 := by
    rcases hb0 with rfl | ⟨es, sp, h1, h2⟩
    · simp
    · have h3 : decide (Rows.uptoBulkAll [d0, .lit (.float .f64 x1)] ≤ 1048576) = true := hk
      have h4 := of_decide_eq_true h3
      have h1' : d0 = .slice es sp := h1
      rw [h1'] at h4
      have h5 := bulks.lenLe es
      simp only [Rows.uptoBulkAll, Rows.uptoBulk] at h4
      omega
  clear hA0 hval0 hval hA
  rw [e0] at hW' ⊢
  refine (sounds_any A0 c0 vs0 x1 W hv0 hl0).mono fun e W' ⟨he, hb⟩ => ?_
  subst he
  exact ⟨_, rfl, law_post (s := (Rows.OpenSpec.upto Rows.chantSoundsSpec).at F) (ds := [d0, .lit (.float .f64 x1)]) (gs := []) (tb := 4) (by kernel_rfl) readable (by kernel_rfl) Try.underlying4 rfl rfl hW' hb⟩

theorem over : ({ Rows.chantSoundsUptoRow with leaving := false }).holds Try.pinned (Rows.OpenSpec.upto Rows.chantSoundsSpec) :=
  OpenClaim.holds_of_cond 5 Try.f5 rfl rfl rfl rfl rfl rfl rfl ⟨rfl, rfl, rfl, rfl, rfl⟩ rfl rfl rfl rfl rfl (by kernel_rfl) Try.func5 (by kernel_rfl)
    (of_decide_eq_true (by kernel_rfl)) (by unfold Func.isWrapper; first | (rw [if_pos (by decide +kernel)]; kernel_rfl) | (rw [if_neg (by decide +kernel)]; exact ⟨rfl, rfl⟩))
    (fun os started H enc _ F => lifted os started H enc F)

theorem proved : Rows.ChantSoundsUptoSaid := holds_leaving Rows.chantSoundsUptoRow rfl rfl rfl over
#print axioms proved
end Go.Proofs.Ytjlncnjmcgkkhaa.lawChantSounds

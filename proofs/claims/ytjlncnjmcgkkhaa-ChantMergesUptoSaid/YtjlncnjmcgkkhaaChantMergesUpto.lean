/- ChantMerges: all notes of whatever voices are handed back in order, as the reference lays them; the law returns true and leaves its argument alone. Condition: what is read holds at most 1048576 values. -/
import Derived.Test.YtjlncnjmcgkkhaaB2
import Derived.Test.YtjlncnjmcgkkhaaFr
import Derived.Test.YtjlncnjmcgkkhaaOp2
namespace Go.Proofs.Ytjlncnjmcgkkhaa.lawMerges
set_option linter.unusedVariables false
set_option linter.unusedSimpArgs false
open Go Go.ChangeShapes Go.WideShapes Go.ChangeAt Go.RowKit

theorem own : ownKnob Try.prog.godebug = none := by kernel_rfl

theorem bulkLen {H : Type} (l : List (DataW H)) : l.length ≤ Rows.uptoBulkAll l := by
  induction l with
  | nil => simp [Rows.uptoBulkAll]
  | cons x r ih =>
    have h1 : 1 ≤ Rows.uptoBulk x := by
      cases x with
      | lit l => cases l <;> simp [Rows.uptoBulk]
      | nil => simp [Rows.uptoBulk]
      | ptr d => simp [Rows.uptoBulk]
      | slice elems spare => simp [Rows.uptoBulk]
      | agg parts => simp [Rows.uptoBulk]
      | iface t d => simp [Rows.uptoBulk]
      | map entries => simp [Rows.uptoBulk]
      | held h => simp [Rows.uptoBulk]
    simp only [Rows.uptoBulkAll, List.length_cons]; omega

theorem readable4 : ∀ t ∈ Try.f4.params.toList, Try.prog.readableRec t = true ∧ t < Try.prog.types.size := by
  rw [Try.params4]
  intro t ht
  simp at ht
  subst ht
  exact ⟨by kernel_rfl, of_decide_eq_true (by kernel_rfl)⟩

set_option maxRecDepth 100000 in
theorem lifted (os : Os) (started : os.Started) (H : Type) (enc : TypeId × Value → H) (F : Stop.Interp) :
    ReturnsInHanded {} Try.checked os 4 .any ((Rows.OpenSpec.upto Rows.chantMergesSpec).pre6 enc Try.prog Try.f4 Rows.chantMergesUptoRow.domain false) (((Rows.OpenSpec.upto Rows.chantMergesSpec).at F).post enc Try.prog Try.f4 false true false false) := by
  refine returnsInHanded_of_cond (C := Try.checked) (s := Rows.OpenSpec.upto Rows.chantMergesSpec) (k := Rows.uptoSmall) rfl own started (by kernel_rfl) Try.func4
    (OpenSpec.witness (enc := enc) (C := Try.checked) (s := Rows.OpenSpec.upto Rows.chantMergesSpec) (k := Rows.uptoSmall) rfl false ⟨#[], #[.slice none 0 0], []⟩ 8 (by kernel_rfl) (by kernel_rfl) (by kernel_rfl)
      (x := ([.nil], [], [])) (by kernel_rfl) rfl (by kernel_rfl)) ?_
  intro W base args ds gs before hval0 hW _ hk _
  have hW' := hW
  obtain ⟨p, q, hA0, hV, rfl, hfz, hnd⟩ := hW
  have hA : DataW.TrodAll enc Try.prog W 0 (fun _ => true) true Try.f4.params.toList args.toList ds p := hA0
  have hval : ∀ (j : Nat) t v, Try.f4.params[j]? = some t → args[j]? = some v → Value.okWide Try.prog W .any base t v := hval0
  rw [Try.params4] at hA hval
  obtain ⟨v0, d0, rfl, rfl, h0⟩ := trodAll_one hA
  obtain ⟨rfl, rfl⟩ := trodVars_none hV
  obtain ⟨a0, len, cap, rfl⟩ := okWide_slice Try.underlying27 (hval 0 27 v0 rfl rfl)
  obtain ⟨fuel, hf⟩ := h0
  have ho := voices_open hf
  clear hA0 hval0 hf hval hA
  obtain ⟨A, c, vs, e, _, hc, hv, hb⟩ := ho
  have hl : vs.length ≤ 4611686018427387904 := by
    rcases hb with rfl | ⟨es, sp, h1, h2⟩
    · simp
    · have h3 : decide (Rows.uptoBulkAll [d0] ≤ 1048576) = true := hk
      have h4 := of_decide_eq_true h3
      have h1' : d0 = .slice es sp := h1
      rw [h1'] at h4
      have h5 := bulkLen es
      simp only [Rows.uptoBulkAll, Rows.uptoBulk] at h4
      omega
  rw [e] at hW' ⊢
  refine (merges_any A c vs W hv hl).mono fun e W' ⟨he, hb⟩ => ?_
  subst he
  exact ⟨_, rfl, law_post (s := (Rows.OpenSpec.upto Rows.chantMergesSpec).at F) (ds := [d0]) (gs := []) (tb := 4) (by kernel_rfl) readable4 (by kernel_rfl) Try.underlying4 rfl rfl hW' hb⟩

theorem over : ({ Rows.chantMergesUptoRow with leaving := false }).holds Try.pinned (Rows.OpenSpec.upto Rows.chantMergesSpec) :=
  OpenClaim.holds_of_cond 4 Try.f4 rfl rfl rfl rfl rfl rfl rfl ⟨rfl, rfl, rfl, rfl, rfl⟩ rfl rfl rfl rfl rfl (by kernel_rfl) Try.func4 (by kernel_rfl)
    (of_decide_eq_true (by kernel_rfl)) (by unfold Func.isWrapper; first | (rw [if_pos (by decide +kernel)]; kernel_rfl) | (rw [if_neg (by decide +kernel)]; exact ⟨rfl, rfl⟩))
    (fun os started H enc _ F => lifted os started H enc F)

theorem proved : Rows.ChantMergesUptoSaid := holds_leaving Rows.chantMergesUptoRow rfl rfl rfl over
#print axioms proved
end Go.Proofs.Ytjlncnjmcgkkhaa.lawMerges

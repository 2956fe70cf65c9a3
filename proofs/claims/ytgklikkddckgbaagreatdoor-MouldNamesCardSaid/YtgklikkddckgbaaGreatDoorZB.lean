import Derived.Test.YtgklikkddckgbaaGreatDoorFBD
/- The opening of a row that lists eight variables. -/
namespace Go.Proofs.YtgklikkddckgbaaGreatDoor
set_option linter.unusedVariables false
set_option linter.unusedSimpArgs false
open Go Go.RowKit Go.WideShapes Go.ChangeShapes Go.ChangeAt

def laid8 : List (String × DataW Unit) := Rows.mouldNamesRow.laid
theorem vars_of_laid8 {W : World} (h : laidMetH Tryz.prog laid8 W) : Vars W := by
  rw [MakeChecks.laidMetH_plain _ _ _ (by kernel_rfl)] at h
  have h1 := h.tail
  have h2 := h1.tail
  have h3 := h2.tail
  have h4 := h3.tail
  have h5 := h4.tail
  obtain ⟨a2, s2, hv2, _, _, _⟩ := laid_sentinel h4 gRange tRange Tryz.underlying122 row215 Tryz.underlying277 Tryz.underlying279 rfl rfl Tryz.underlying9 cells217 cells9
  obtain ⟨a1, s1, hv1, _, _, _⟩ := laid_sentinel h5 gSyntax tSyntax Tryz.underlying122 row215 Tryz.underlying277 Tryz.underlying279 rfl rfl Tryz.underlying9 cells217 cells9
  rw [show (Rows.laid_internal_strconv_uint64pow10 : DataW Unit) = Lib.tabData .u64 Lib.pow10Tab from pow_data] at h2
  have h6 := Lib.tabIs_of_head globalPow tPow Tryz.underlying237 Tryz.underlying197 cells190 cells210 h2
  have c2 : W.cell? ⟨8, 0, none⟩ = some (.iface 277 (.pointer (some a2))) := by simpa using World.var?_cell gRange hv2 0
  have h7 : 9 ≤ W.heap.size := by
    unfold World.cell? at c2
    split at c2
    · rename_i hb
      have := (Array.getElem?_eq_some_iff.1 hb).1
      simp at this
      omega
    · cases c2
  exact ⟨⟨_, _, by simpa using World.var?_cell gSyntax hv1 0⟩, ⟨_, _, c2⟩, h6, h7⟩
end Go.Proofs.YtgklikkddckgbaaGreatDoor

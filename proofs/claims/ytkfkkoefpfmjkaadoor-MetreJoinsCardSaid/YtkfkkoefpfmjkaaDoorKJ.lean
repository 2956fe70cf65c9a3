import Derived.Test.YtkfkkoefpfmjkaaDoorKI
namespace Go.Proofs.YtkfkkoefpfmjkaaDoor
set_option linter.unusedVariables false
set_option linter.unusedSimpArgs false
open Go.RowKit

/- refJoin: out := Metre{append(x.Feet, y.Feet...), y.Ends, x.Breaks}, plain. -/
theorem apart_app {we : Value} {vs us : List Value} {D : Nat} (h : Apart vs) (h2 : Apart (we :: us)) (hv : ∀ k b, k < vs.length → (vs.getD k nilV).ownBlock = some b → b < D) (hu : ∀ k b, k < (we :: us).length → ((we :: us).getD k nilV).ownBlock = some b → D ≤ b) :
    Apart (we :: (vs ++ us)) := by
  have key : ∀ k b, k < (we :: (vs ++ us)).length → ((we :: (vs ++ us)).getD k nilV).ownBlock = some b → (∃ q, q < (we :: us).length ∧ ((we :: us).getD q nilV).ownBlock = some b ∧ D ≤ b ∧ k = if q = 0 then 0 else q + vs.length) ∨ (∃ q, q < vs.length ∧ (vs.getD q nilV).ownBlock = some b ∧ b < D ∧ k = q + 1) := by
    intro k b hk e
    cases k with
    | zero => exact .inl ⟨0, by simp, by simpa using e, hu 0 b (by simp) (by simpa using e), rfl⟩
    | succ k =>
      rw [List.getD_cons_succ, getD_app] at e
      by_cases hl : k < vs.length
      · rw [if_pos hl] at e
        exact .inr ⟨k, hl, e, hv k b hl e, rfl⟩
      · rw [if_neg hl] at e
        have hq : k - vs.length + 1 < (we :: us).length := by simp at hk ⊢; omega
        exact .inl ⟨k - vs.length + 1, hq, by simpa using e, hu _ b hq (by simpa using e), by rw [if_neg (by omega)]; omega⟩
  intro i j b hi hj hne ei ej
  rcases key i b hi ei with ⟨q, h3, h4, h5, h6⟩ | ⟨q, h3, h4, h5, h6⟩ <;> rcases key j b hj ej with ⟨r, k3, k4, k5, k6⟩ | ⟨r, k3, k4, k5, k6⟩
  · refine h2 q r b h3 k3 (fun e => hne ?_) h4 k4
    rw [h6, k6, e]
  · omega
  · omega
  · exact h q r b h3 k3 (by omega) h4 k4
theorem Apart.tail {v : Value} {vs : List Value} (h : Apart (v :: vs)) : Apart vs := fun i j b hi hj hne ei ej =>
  h (i + 1) (j + 1) b (by simpa using hi) (by simpa using hj) (by omega) (by simpa using ei) (by simpa using ej)
/-- behind the append: the joined rows -/
structure Jr (C : Nat) (m n : Met) (x28 we vb wb : Value) (vs us : List Value) (W : World) : Prop where
  feet : W.ownsRow C 81 2 x28 (m.feet ++ n.feet).length (ftCells (m.feet ++ n.feet) (vs ++ us))
  ways : ∀ k, k < (m.feet ++ n.feet).length → W.ownsRow C 100 2 ((vs ++ us).getD k nilV) ((m.feet ++ n.feet).getD k default).ways.length (wayCells ((m.feet ++ n.feet).getD k default).ways)
  ends : W.ownsRow C 100 2 we n.ends.length (wayCells n.ends)
  brks : W.ownsRow C 98 2 vb m.brks.length (brkCells m.brks)
  more : W.ownsRow C 98 2 wb n.brks.length (brkCells n.brks)
section
variable {C D : Nat} {m n : Met} {vf ve vb wf we wb x28 : Value} {vs us : List Value} {W W' : World}
theorem Jr.of (hx : OM W C m vf ve vb vs) (hy : OM W D n wf we wb us) (hCD : C ≤ D) (hg : W.grownBy W' vf.ownBlock) (ho : W'.ownsRow C 81 2 x28 (m.feet.length + n.feet.length) (ftCells m.feet vs ++ ftCells n.feet us)) :
    Jr C m n x28 we vb wb vs us W' := by
  have far : ∀ {B e k : Nat} {v : Value} {c : List Value}, W.ownsRow B e 2 v k c → e ≠ 81 → W'.ownsRow B e 2 v k c := fun hu hne => hu.kept hg (own_ne hu hx.feet hne)
  refine ⟨?_, fun k hk => ?_, own_mono (far hy.ends (by decide)) hCD, far hx.brks (by decide), own_mono (far hy.brks (by decide)) hCD⟩
  · rw [ftCells_append m.feet n.feet vs us hx.vl, List.length_append]; exact ho
  · rw [getD_app, getD_app, hx.vl]
    by_cases hl : k < m.feet.length
    · rw [if_pos hl, if_pos hl]; exact far (hx.ways k hl) (by decide)
    · rw [if_neg hl, if_neg hl]
      rw [List.length_append] at hk
      exact own_mono (far (hy.ways (k - m.feet.length) (by omega)) (by decide)) hCD
theorem Jr.next (h : Jr C m n x28 we vb wb vs us W) {row : Option Nat} (hg : W.grownBy W' row) (hr : ∀ p, row = some p → ∃ c, W.heap[p]? = some (.cells c 27 (0, 0))) : Jr C m n x28 we vb wb vs us W' := by
  have far : ∀ {e k : Nat} {v : Value} {c : List Value}, W.ownsRow C e 2 v k c → e ≠ 27 → W'.ownsRow C e 2 v k c := fun {e k v c} hu hne => hu.kept hg (by
    cases row with
    | none => cases v.ownBlock <;> simp
    | some p => obtain ⟨c', hc'⟩ := hr p rfl; exact own_neb hu hc' hne)
  exact ⟨far h.feet (by decide), fun k hk => far (h.ways k hk) (by decide), far h.ends (by decide), far h.brks (by decide), far h.more (by decide)⟩
theorem join_apart (hx : OM W C m vf ve vb vs) (ha : Ahead D m vf ve vb vs) (hy : OM W D n wf we wb us) : Apart (we :: (vs ++ us)) := by
  refine apart_app (D := D) hx.apart.tail hy.apart (fun k b hk e => ha.ways k b (by rw [← hx.vl]; exact hk) e) (fun k b hk e => ?_)
  cases k with
  | zero => exact (hy.ends.lt b (by simpa using e)).1
  | succ k => exact ((hy.ways k (by rw [← hy.vl]; simpa using hk)).lt b (by simpa using e)).1
end
end Go.Proofs.YtkfkkoefpfmjkaaDoor

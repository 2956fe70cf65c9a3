import Derived.Test.YtkfkkoefpfmjkaaDoorKF
namespace Go.Proofs.YtkfkkoefpfmjkaaDoor
set_option linter.unusedVariables false
set_option linter.unusedSimpArgs false
open Go.RowKit

/- metre.Join: the breaks' loop, plain. -/
structure Jb (C : Nat) (W0 : World) (F : List Ft) (es : List Way) (mb bs : List (Int × Int)) (p : Nat) (x36 x39 : Value) (news : List Value) (j : Nat) (x42 : Value) (W : World) : Prop where
  bl : Below C W0 W
  sz : C ≤ W.heap.size
  pC : C ≤ p
  box : W.heap[p]? = some (.cells #[x36, x39, x42] 27 (0, 0))
  nl : news.length = F.length
  feet : W.ownsRow C 81 2 x36 F.length (ftCells F news)
  ways : ∀ k, k < F.length → W.ownsRow C 100 2 (news.getD k nilV) (F.getD k default).ways.length (wayCells (F.getD k default).ways)
  ends : W.ownsRow C 100 2 x39 es.length (wayCells es)
  brks : W.ownsRow C 98 2 x42 (mb.length + j) (brkCells (mb ++ bs.take j))
  apart : Apart (x39 :: news)
section
variable {C : Nat} {W0 : World} {F : List Ft} {es : List Way} {mb bs : List (Int × Int)} {old news : List Value} {p j : Nat} {x36 x39 x42 x : Value} {W W6 W9 : World}
theorem Jl.jb (h : Jl C W0 F es.length mb.length (wayCells es) (brkCells mb) old p x36 x39 x42 F.length news W) (hol : old.length = F.length) : Jb C W0 F es mb bs p x36 x39 news 0 x42 W := by
  have hf := h.feet
  rw [List.drop_eq_nil_of_le (by omega), List.append_nil] at hf
  exact ⟨h.bl, h.sz, h.pC, h.box, h.nl, hf, h.ways, h.ends, by simpa using h.brks, h.apart⟩
theorem Jb.step (h : Jb C W0 F es mb bs p x36 x39 news j x42 W) (hj : j < bs.length) (hb : Below W.heap.size W W6) (hg : W6.grownBy W9 x42.ownBlock)
    (ho : W9.ownsRow C 98 2 x (mb.length + j + 1) (brkCells (mb ++ bs.take j) ++ [.int .i64 (bs.getD j default).1, .int .i64 (bs.getD j default).2])) : Jb C W0 F es mb bs p x36 x39 news (j + 1) x (W9.setCell ⟨p, 2, none⟩ x) := by
  have q : ∀ {e n : Nat} {v : Value} {c : List Value}, W.ownsRow C e 2 v n c → W6.ownsRow C e 2 v n c := fun {e n v c} hu => hu.kept (only_of_below hb none) (by cases v.ownBlock <;> simp)
  have hbx := q h.brks
  have hbox6 := (hb.block p (lt_of_heap h.box)).trans h.box
  have hbox9 : W9.heap[p]? = some (.cells #[x36, x39, x42] 27 (0, 0)) := (hg.block p (lt_of_heap hbox6) (fun e => by
    obtain ⟨c', hc'⟩ := own_at hbx e.symm
    rw [hbox6] at hc'; cases hc')).trans hbox6
  have hsg : W9.grownBy (W9.setCell ⟨p, 2, none⟩ x) (some p) := ⟨rfl, rfl, rfl, by simp, fun k hk hne => Below.heap_setCell _ _ _ _ (by rintro rfl; exact hne rfl)⟩
  have far : ∀ {e n : Nat} {v : Value} {c : List Value}, W.ownsRow C e 2 v n c → e ≠ 98 → e ≠ 27 → (W9.setCell ⟨p, 2, none⟩ x).ownsRow C e 2 v n c := fun {e n v c} hu h1 h2 => by
    have h9 := (q hu).kept hg (own_ne (q hu) hbx h1)
    exact h9.kept hsg (own_neb h9 hbox9 h2)
  have hbl9 : Below C W0 W9 := (h.bl.trans (hb.mono h.sz)).grown hg (Nat.le_trans h.sz hb.size) (fun k e => (hbx.lt k e).1)
  refine ⟨hbl9.setCell (p := ⟨p, 2, none⟩) h.pC x, by simp; exact Nat.le_trans h.sz (Nat.le_trans hb.size hg.size), h.pC, heap_setCell_same W9 p 2 _ 27 x hbox9, h.nl, far h.feet (by decide) (by decide), fun k hk => far (h.ways k hk) (by decide) (by decide), far h.ends (by decide) (by decide), ?_, h.apart⟩
  rw [take_snoc' bs j hj, ← List.append_assoc, brkCells_snoc, ← Nat.add_assoc]
  exact ho.kept hsg (own_neb ho hbox9 (by decide))
theorem Jb.box9 (h : Jb C W0 F es mb bs p x36 x39 news j x42 W) (hb : Below W.heap.size W W6) (hg : W6.grownBy W9 x42.ownBlock) : W9.heap[p]? = some (.cells #[x36, x39, x42] 27 (0, 0)) := by
  have hbx : W6.ownsRow C 98 2 x42 (mb.length + j) (brkCells (mb ++ bs.take j)) := h.brks.kept (only_of_below hb none) (by cases x42.ownBlock <;> simp)
  have hbox6 := (hb.block p (lt_of_heap h.box)).trans h.box
  exact (hg.block p (lt_of_heap hbox6) (fun e => by
    obtain ⟨c', hc'⟩ := own_at hbx e.symm
    rw [hbox6] at hc'; cases hc')).trans hbox6
theorem OM.base {w : World} {B B2 : Nat} {m : Met} {vf ve vb : Value} {vs : List Value} (h : OM w B m vf ve vb vs) (hB : B2 ≤ B) : OM w B2 m vf ve vb vs :=
  ⟨h.vl, own_mono h.feet hB, fun k hk => own_mono (h.ways k hk) hB, own_mono h.ends hB, own_mono h.brks hB, h.apart⟩
theorem brkAdd_len (d : Nat) (l : List (Int × Int)) : (brkAdd d l).length = l.length := by unfold brkAdd; simp
theorem brkAdd_at (d : Nat) (l : List (Int × Int)) (k : Nat) (hk : k < l.length) : (brkAdd d l).getD k default = ((l.getD k default).1 + d, (l.getD k default).2) := by
  unfold brkAdd
  rw [List.getD_eq_getElem?_getD, List.getElem?_map, List.getD_eq_getElem?_getD, List.getElem?_eq_getElem hk]
  rfl
theorem Jb.om {m n : Met} (h : Jb C W0 (m.feet ++ n.feet) n.ends m.brks (brkAdd m.feet.length n.brks) p x36 x39 news n.brks.length x42 W) : OM W C (joinP m n) x36 x39 x42 news := by
  refine ⟨h.nl, h.feet, h.ways, h.ends, ?_, h.apart⟩
  have := h.brks
  rw [List.take_of_length_le (by rw [brkAdd_len]; exact Nat.le_refl _)] at this
  rw [show (joinP m n).brks.length = m.brks.length + n.brks.length by simp [joinP, brkAdd_len]]
  exact this
end
end Go.Proofs.YtkfkkoefpfmjkaaDoor

import Derived.Test.YtkfkkoefpfmjkaaDoorKD
namespace Go.Proofs.YtkfkkoefpfmjkaaDoor
set_option linter.unusedVariables false
set_option linter.unusedSimpArgs false
open Go.RowKit

/- metre.Join: the two loops, plain. -/
theorem keepF {w w1 w2 : World} (hb : Below w1.heap.size w1 w2) (h : Below w.heap.size w w1 ∧ (∀ b o, b < w.heap.size → w1.cell? ⟨b, o, none⟩ = w.cell? ⟨b, o, none⟩) ∧ ∀ b o, b < w.heap.size → w1.frozen? ⟨b, o, none⟩ = w.frozen? ⟨b, o, none⟩) :
    Below w.heap.size w w2 ∧ (∀ b o, b < w.heap.size → w2.cell? ⟨b, o, none⟩ = w.cell? ⟨b, o, none⟩) ∧ ∀ b o, b < w.heap.size → w2.frozen? ⟨b, o, none⟩ = w.frozen? ⟨b, o, none⟩ :=
  ⟨h.1.trans (hb.mono h.1.size), fun b o ho => (hb.cell (p := ⟨b, o, none⟩) (Nat.lt_of_lt_of_le ho h.1.size)).trans (h.2.1 b o ho), fun b o ho => (hb.frozen (p := ⟨b, o, none⟩) (Nat.lt_of_lt_of_le ho h.1.size)).trans (h.2.2 b o ho)⟩
theorem startF {w : World} : Below w.heap.size w w.drew ∧ (∀ b o, b < w.heap.size → w.drew.cell? ⟨b, o, none⟩ = w.cell? ⟨b, o, none⟩) ∧ ∀ b o, b < w.heap.size → w.drew.frozen? ⟨b, o, none⟩ = w.frozen? ⟨b, o, none⟩ := ⟨(Below.refl _ _).drew, fun _ _ _ => rfl, fun _ _ _ => rfl⟩
/-- the feet's loop: i feet have their ways anew -/
structure Jl (C : Nat) (W0 : World) (F : List Ft) (ne nb : Nat) (ys zs : List Value) (old : List Value) (p : Nat) (x36 x39 x42 : Value) (i : Nat) (news : List Value) (W : World) : Prop where
  bl : Below C W0 W
  sz : C ≤ W.heap.size
  pC : C ≤ p
  box : W.heap[p]? = some (.cells #[x36, x39, x42] 27 (0, 0))
  nl : news.length = i
  feet : W.ownsRow C 81 2 x36 F.length (ftCells F (news ++ old.drop i))
  ways : ∀ k, k < i → W.ownsRow C 100 2 (news.getD k nilV) (F.getD k default).ways.length (wayCells (F.getD k default).ways)
  ends : W.ownsRow C 100 2 x39 ne ys
  brks : W.ownsRow C 98 2 x42 nb zs
  apart : Apart (x39 :: news)
section
variable {C : Nat} {W0 : World} {F : List Ft} {ne nb : Nat} {ys zs old news : List Value} {p : Nat} {x36 x39 x42 : Value} {i : Nat} {W W9 : World}
theorem Jd.start (h : Jd C F.length ne nb (ftCells F old) ys zs p x36 x39 x42 W0 W) : Jl C W0 F ne nb ys zs old p x36 x39 x42 0 [] W :=
  ⟨h.bl, h.sz, h.pC, h.box, rfl, by simpa using h.r36, fun k hk => by omega, h.r39, h.r42, fun a b k ha hb hne => by simp at ha hb; omega⟩
theorem set_at {α : Type} (a : List α) (x y : α) (b : List α) : (a ++ y :: b).set a.length x = a ++ x :: b := by
  induction a with
  | nil => rfl
  | cons h t ih => simp [ih]
theorem set_selfD {α : Type} [Inhabited α] (l : List α) (k : Nat) : l.set k (l.getD k default) = l := by
  apply List.ext_getElem?
  intro j
  by_cases e : k = j
  · subst e
    by_cases hk : k < l.length
    · rw [List.getElem?_set_self hk, List.getD_eq_getElem?_getD, List.getElem?_eq_getElem hk]; rfl
    · rw [List.getElem?_eq_none (by simpa using hk), List.getElem?_eq_none (by omega)]
  · rw [List.getElem?_set_ne e]
theorem Jl.cell (h : Jl C W0 F ne nb ys zs old p x36 x39 x42 i news W) (hol : old.length = F.length) (hi : i < F.length) {g c : Nat} (hv : x36 = .slice (some ⟨g, 0, none⟩) F.length c) :
    W.cell? ⟨g, i * 2, none⟩ = some (.string (F.getD i default).own) ∧ W.cell? ⟨g, i * 2 + 1, none⟩ = some (old.getD i nilV) ∧ (∀ o, W.frozen? ⟨g, o, none⟩ = false) ∧ g < W.heap.size := by
  have hf := h.feet
  subst hv
  have hl : (news ++ old.drop i).length = F.length := by simp [h.nl, hol]; omega
  obtain ⟨a1, a2⟩ := ftCells_get F (news ++ old.drop i) i hl hi
  refine ⟨(hf.cellAt (i * 2) (by omega)).trans a1, (hf.cellAt (i * 2 + 1) (by omega)).trans (a2.trans ?_), fun o => hf.frozenAt o, (hf.lt g rfl).2⟩
  congr 1
  rw [List.getD_eq_getElem?_getD, List.getElem?_append_right (by rw [h.nl]; omega), h.nl, Nat.sub_self, List.getElem?_drop, Nat.add_zero, List.getD_eq_getElem?_getD]
theorem Jl.step (h : Jl C W0 F ne nb ys zs old p x36 x39 x42 i news W) (hol : old.length = F.length) (hi : i < F.length) {g c : Nat} (hv : x36 = .slice (some ⟨g, 0, none⟩) F.length c) (hb : Below W.heap.size W W9) {x : Value}
    (ho : W9.ownsRow W.heap.size 100 2 x (F.getD i default).ways.length (wayCells (F.getD i default).ways)) : Jl C W0 F ne nb ys zs old p x36 x39 x42 (i + 1) (news ++ [x]) (W9.setCell ⟨g, i * 2 + 1, none⟩ x) := by
  have q : ∀ {e n : Nat} {v : Value} {c : List Value}, W.ownsRow C e 2 v n c → W9.ownsRow C e 2 v n c := fun {e n v c} hu => hu.kept (only_of_below hb none) (by cases v.ownBlock <;> simp)
  have hf := q h.feet
  have hl : (news ++ old.drop i).length = F.length := by simp [h.nl, hol]; omega
  have hgC : C ≤ g := (hf.lt g (by rw [hv]; rfl)).1
  have hset : (ftCells F (news ++ old.drop i)).set (i * 2 + 1) x = ftCells F (news ++ [x] ++ old.drop (i + 1)) := by
    have := ftCells_set F (news ++ old.drop i) i x (F.getD i default) hl hi rfl
    rw [set_selfD] at this
    rw [← this]
    congr 1
    rw [List.drop_eq_getElem_cons (by omega : i < old.length)]
    have e1 := set_at news x old[i] (old.drop (i + 1))
    rw [h.nl] at e1
    rw [e1]; simp
  have hxl : ∀ b, x.ownBlock = some b → W.heap.size ≤ b := fun b e => (ho.lt b e).1
  have far : ∀ {e n B : Nat} {v : Value} {z : List Value}, W9.ownsRow B e 2 v n z → e ≠ 81 → (W9.setCell ⟨g, i * 2 + 1, none⟩ x).ownsRow B e 2 v n z := fun hz hne => by
    subst hv
    have qq := own_ne hz hf hne
    exact hz.kept ((hf.stored (i * 2 + 1) x).2) qq
  have hpl := lt_of_heap h.box
  have hpg : p ≠ g := by
    rintro rfl
    obtain ⟨c', hc'⟩ := own_at h.feet (g := p) (by rw [hv]; rfl)
    rw [h.box] at hc'; cases hc'
  refine ⟨(h.bl.trans (hb.mono h.sz)).setCell (p := ⟨g, i * 2 + 1, none⟩) hgC x, by simp; exact Nat.le_trans h.sz hb.size, h.pC, (Below.heap_setCell _ _ _ _ hpg).trans ((hb.block p hpl).trans h.box), by simp [h.nl], ?_, fun k hk => ?_, far (q h.ends) (by decide), far (q h.brks) (by decide), ?_⟩
  · rw [← hset]; subst hv; exact (hf.stored (i * 2 + 1) x).1
  · by_cases e : k < i
    · have := far (q (h.ways k e)) (by decide)
      rwa [show (news ++ [x]).getD k nilV = news.getD k nilV by
        rw [List.getD_eq_getElem?_getD, List.getD_eq_getElem?_getD, List.getElem?_append_left (by rw [h.nl]; exact e)]]
    · obtain rfl : k = i := by omega
      rw [show (news ++ [x]).getD k nilV = x by rw [List.getD_eq_getElem?_getD, List.getElem?_append_right (by rw [h.nl]; omega), h.nl, Nat.sub_self]; rfl]
      exact far (own_mono ho h.sz) (by decide)
  · have := Apart.fresh (N := W.heap.size) h.apart (fun k b hk e => ?_) hxl
    · simpa using this
    · cases k with
      | zero => exact (h.ends.lt b (by simpa using e)).2
      | succ k => exact ((h.ways k (by simp [h.nl] at hk; omega)).lt b (by simpa using e)).2
end
theorem getD_app {α : Type} (a b : List α) (k : Nat) (d : α) : (a ++ b).getD k d = if k < a.length then a.getD k d else b.getD (k - a.length) d := by
  by_cases h : k < a.length
  · rw [if_pos h, List.getD_eq_getElem?_getD, List.getD_eq_getElem?_getD, List.getElem?_append_left h]
  · rw [if_neg h, List.getD_eq_getElem?_getD, List.getD_eq_getElem?_getD, List.getElem?_append_right (by omega)]
theorem old_row {W : World} {B B2 : Nat} {m n : Met} {vf ve vb wf we wb : Value} {vs us : List Value} (h : OM W B m vf ve vb vs) (h2 : OM W B2 n wf we wb us) (k : Nat) (hk : k < (m.feet ++ n.feet).length) :
    W.ownsRow 0 100 2 ((vs ++ us).getD k nilV) ((m.feet ++ n.feet).getD k default).ways.length (wayCells ((m.feet ++ n.feet).getD k default).ways) := by
  rw [getD_app, getD_app, h.vl]
  by_cases hl : k < m.feet.length
  · rw [if_pos hl, if_pos hl]; exact own_mono (h.ways k hl) (Nat.zero_le _)
  · rw [if_neg hl, if_neg hl]
    rw [List.length_append] at hk
    exact own_mono (h2.ways (k - m.feet.length) (by omega)) (Nat.zero_le _)
theorem ways_few {m n : Met} (hm : Small m) (hn : Small n) (k : Nat) (hk : k < (m.feet ++ n.feet).length) : ((m.feet ++ n.feet).getD k default).ways.length ≤ 15 := by
  have hmem : (m.feet ++ n.feet).getD k default ∈ m.feet ++ n.feet := by
    rw [List.getD_eq_getElem?_getD, List.getElem?_eq_getElem hk]; exact List.getElem_mem hk
  rcases List.mem_append.1 hmem with h | h
  · exact hm.ways _ h
  · exact hn.ways _ h
end Go.Proofs.YtkfkkoefpfmjkaaDoor

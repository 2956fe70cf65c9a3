import Derived.Test.YtkfkkoefpfmjkaaDoorKE
namespace Go.Proofs.YtkfkkoefpfmjkaaDoor
set_option linter.unusedVariables false
set_option linter.unusedSimpArgs false
open Go.RowKit

/- x, y := Copy(a), Copy(b): the drawn region of two copies, plain. -/
structure Cy (C D : Nat) (m n : Met) (b1 b3 b4 b5 b6 b7 : Bool) (x1 x3 x6 x7 : Value) (W0 W : World) : Prop where
  bl : Below C W0 W
  sz : C ≤ W.heap.size
  c1 : b1 = true → ∃ vf ve vb vs, x1 = .agg #[vf, ve, vb] ∧ OM W C m vf ve vb vs ∧ (b3 = true → Ahead D m vf ve vb vs)
  c3 : b3 = true → b1 = true ∧ C ≤ D ∧ D ≤ W.heap.size ∧ ∃ wf we wb us, x3 = .agg #[wf, we, wb] ∧ OM W D n wf we wb us
  a4 : b4 = true → ∃ p, x6 = .pointer (some ⟨p, 0, none⟩) ∧ C ≤ p ∧ ∃ y0 y1 y2, W.heap[p]? = some (.cells #[y0, y1, y2] 27 (0, 0)) ∧ (b6 = true → x1 = .agg #[y0, y1, y2])
  a5 : b5 = true → ∃ p, x7 = .pointer (some ⟨p, 0, none⟩) ∧ C ≤ p ∧ ∃ y0 y1 y2, W.heap[p]? = some (.cells #[y0, y1, y2] 27 (0, 0)) ∧ (b7 = true → x3 = .agg #[y0, y1, y2])
  ne : b4 = true → b5 = true → x6 ≠ x7
theorem OM.lt {W : World} {C : Nat} {m : Met} {vf ve vb : Value} {vs : List Value} (h : OM W C m vf ve vb vs) : Ahead W.heap.size m vf ve vb vs :=
  ⟨fun g e => (h.feet.lt g e).2, fun g e => (h.ends.lt g e).2, fun g e => (h.brks.lt g e).2, fun k g hk e => ((h.ways k hk).lt g e).2⟩
section
variable {C D : Nat} {m n : Met} {b1 b3 b4 b5 b6 b7 : Bool} {x1 x3 x6 x7 : Value} {W0 W W' : World}
theorem Cy.start (hC : W0.heap.size = C) : Cy C D m n false false false false false false undef undef undef undef W0 W0.drew :=
  ⟨⟨rfl, rfl, rfl, Nat.le_refl _, fun _ _ => rfl⟩, by rw [← hC]; exact Nat.le_refl _, fun h => (by cases h), fun h => (by cases h), fun h => (by cases h), fun h => (by cases h), fun h => (by cases h)⟩
theorem Cy.next (h : Cy C D m n b1 b3 b4 b5 b6 b7 x1 x3 x6 x7 W0 W) (hb : Below W.heap.size W W') : Cy C D m n b1 b3 b4 b5 b6 b7 x1 x3 x6 x7 W0 W' := by
  refine ⟨h.bl.trans (hb.mono h.sz), Nat.le_trans h.sz hb.size, fun e => ?_, fun e => ?_, fun e => ?_, fun e => ?_, h.ne⟩
  · obtain ⟨vf, ve, vb, vs, e1, e2, e3⟩ := h.c1 e; exact ⟨vf, ve, vb, vs, e1, e2.below hb, e3⟩
  · obtain ⟨e0, eC, eD, vf, ve, vb, vs, e1, e2⟩ := h.c3 e; exact ⟨e0, eC, Nat.le_trans eD hb.size, vf, ve, vb, vs, e1, e2.below hb⟩
  · obtain ⟨p, e1, e2, y0, y1, y2, e3, e4⟩ := h.a4 e; exact ⟨p, e1, e2, y0, y1, y2, (hb.block p (lt_of_heap e3)).trans e3, e4⟩
  · obtain ⟨p, e1, e2, y0, y1, y2, e3, e4⟩ := h.a5 e; exact ⟨p, e1, e2, y0, y1, y2, (hb.block p (lt_of_heap e3)).trans e3, e4⟩
theorem Cy.s1 (h : Cy C D m n false b3 b4 b5 b6 b7 x1 x3 x6 x7 W0 W) (hb6 : b6 = false) (hb : Below W.heap.size W W') {vf ve vb : Value} {vs : List Value} (ho : OM W' W.heap.size m vf ve vb vs) :
    Cy C D m n true b3 b4 b5 b6 b7 (.agg #[vf, ve, vb]) x3 x6 x7 W0 W' := by
  have h2 := h.next hb
  have h3 : ¬ b3 = true := fun e => by have := (h.c3 e).1; cases this
  subst hb6
  refine ⟨h2.bl, h2.sz, fun _ => ⟨vf, ve, vb, vs, rfl, ho.base h.sz, fun e => absurd e h3⟩, fun e => absurd e h3, fun e => ?_, h2.a5, h2.ne⟩
  obtain ⟨p, e1, e2, y0, y1, y2, e3, _⟩ := h2.a4 e
  exact ⟨p, e1, e2, y0, y1, y2, e3, fun h => by cases h⟩
theorem Cy.s3 (h : Cy C D m n true false b4 b5 b6 b7 x1 x3 x6 x7 W0 W) (hb7 : b7 = false) (hb : Below W.heap.size W W') {wf we wb : Value} {us : List Value} (ho : OM W' W.heap.size n wf we wb us) :
    Cy C W.heap.size m n true true b4 b5 b6 b7 x1 (.agg #[wf, we, wb]) x6 x7 W0 W' := by
  have h2 := h.next hb
  obtain ⟨vf, ve, vb, vs, e1, e2, _⟩ := h.c1 rfl
  subst hb7
  refine ⟨h2.bl, h2.sz, fun _ => ⟨vf, ve, vb, vs, e1, e2.below hb, fun _ => e2.lt⟩, fun _ => ⟨rfl, h.sz, hb.size, wf, we, wb, us, rfl, ho⟩, h2.a4, fun e => ?_, h2.ne⟩
  obtain ⟨p, e1, e2, y0, y1, y2, e3, _⟩ := h2.a5 e
  exact ⟨p, e1, e2, y0, y1, y2, e3, fun h => by cases h⟩
theorem Cy.s4 (h : Cy C D m n b1 b3 false b5 false b7 x1 x3 x6 x7 W0 W) : Cy C D m n b1 b3 true b5 false b7 x1 x3 (.pointer (some ⟨W.heap.size, 0, none⟩)) x7 W0 (W.alloc (.cells #[.slice none 0 0, .slice none 0 0, .slice none 0 0] 27)) := by
  have h2 := h.next ((Below.refl _ W).alloc (Nat.le_refl _) (.cells #[.slice none 0 0, .slice none 0 0, .slice none 0 0] 27))
  refine ⟨h2.bl, h2.sz, h2.c1, h2.c3, fun _ => ⟨_, rfl, h.sz, _, _, _, World.alloc_heap_new _ _, fun h => by cases h⟩, h2.a5, fun _ e5 => ?_⟩
  obtain ⟨p, e1, e2, y0, y1, y2, e3, _⟩ := h.a5 e5
  have := lt_of_heap e3
  rw [e1]; intro e; simp at e
theorem Cy.s5 (h : Cy C D m n b1 b3 b4 false b6 false x1 x3 x6 x7 W0 W) : Cy C D m n b1 b3 b4 true b6 false x1 x3 x6 (.pointer (some ⟨W.heap.size, 0, none⟩)) W0 (W.alloc (.cells #[.slice none 0 0, .slice none 0 0, .slice none 0 0] 27)) := by
  have h2 := h.next ((Below.refl _ W).alloc (Nat.le_refl _) (.cells #[.slice none 0 0, .slice none 0 0, .slice none 0 0] 27))
  refine ⟨h2.bl, h2.sz, h2.c1, h2.c3, h2.a4, fun _ => ⟨_, rfl, h.sz, _, _, _, World.alloc_heap_new _ _, fun h => by cases h⟩, fun e4 _ => ?_⟩
  obtain ⟨p, e1, e2, y0, y1, y2, e3, _⟩ := h.a4 e4
  have := lt_of_heap e3
  rw [e1]; intro e; simp at e
theorem Cy.put {p : Nat} {y0 y1 y2 : Value} (h : Cy C D m n b1 b3 b4 b5 b6 b7 x1 x3 x6 x7 W0 W) (hp : W.heap[p]? = some (.cells #[y0, y1, y2] 27 (0, 0))) (hC : C ≤ p) (v0 v1 v2 : Value) :
    Below C W0 (((W.setCell ⟨p, 0, none⟩ v0).setCell ⟨p, 1, none⟩ v1).setCell ⟨p, 2, none⟩ v2) ∧
    (∀ {B : Nat} {k : Met} {vf ve vb : Value} {vs : List Value}, OM W B k vf ve vb vs → OM (((W.setCell ⟨p, 0, none⟩ v0).setCell ⟨p, 1, none⟩ v1).setCell ⟨p, 2, none⟩ v2) B k vf ve vb vs) ∧
    (∀ q, q ≠ p → (((W.setCell ⟨p, 0, none⟩ v0).setCell ⟨p, 1, none⟩ v1).setCell ⟨p, 2, none⟩ v2).heap[q]? = W.heap[q]?) := by
  have q1 := heap_setCell_same W p 0 _ 27 v0 hp
  have q2 := heap_setCell_same _ p 1 _ 27 v1 q1
  exact ⟨((h.bl.setCell (p := ⟨p, 0, none⟩) hC _).setCell (p := ⟨p, 1, none⟩) hC _).setCell (p := ⟨p, 2, none⟩) hC _, fun ho => ((ho.putBox hp 0 _).putBox q1 1 _).putBox q2 2 _,
    fun q hq => (Below.heap_setCell _ _ _ _ hq).trans ((Below.heap_setCell _ _ _ _ hq).trans (Below.heap_setCell _ _ _ _ hq))⟩
theorem Cy.s6 (h : Cy C D m n true b3 true b5 false b7 x1 x3 x6 x7 W0 W) :
    ∃ p y0 y1 y2 v0 v1 v2, x6 = .pointer (some ⟨p, 0, none⟩) ∧ W.heap[p]? = some (.cells #[y0, y1, y2] 27 (0, 0)) ∧ x1 = .agg #[v0, v1, v2] ∧ (∃ A k c, v0 = .slice A k c) ∧ (∃ A k c, v1 = .slice A k c) ∧ (∃ A k c, v2 = .slice A k c) ∧
      Cy C D m n true b3 true b5 true b7 x1 x3 x6 x7 W0 (((W.setCell ⟨p, 0, none⟩ v0).setCell ⟨p, 1, none⟩ v1).setCell ⟨p, 2, none⟩ v2) := by
  obtain ⟨p, e1, e2, y0, y1, y2, e3, _⟩ := h.a4 rfl
  obtain ⟨v0, v1, v2, vs, f1, f2, f3⟩ := h.c1 rfl
  obtain ⟨g1, g2, g3⟩ := h.put e3 e2 v0 v1 v2
  have r0 := row_slice f2.feet
  have r1 := row_slice f2.ends
  have r2 := row_slice f2.brks
  refine ⟨p, y0, y1, y2, v0, v1, v2, e1, e3, f1, let ⟨A, c, e⟩ := r0; ⟨A, _, c, e⟩, let ⟨A, c, e⟩ := r1; ⟨A, _, c, e⟩, let ⟨A, c, e⟩ := r2; ⟨A, _, c, e⟩, g1, by simp; exact h.sz, fun _ => ⟨v0, v1, v2, vs, f1, g2 f2, f3⟩, fun e => ?_, fun _ => ⟨p, e1, e2, v0, v1, v2, three27 e3 v0 v1 v2, fun _ => f1⟩, fun e => ?_, h.ne⟩
  · obtain ⟨k0, kC, kD, wf, we, wb, us, k1, k2⟩ := h.c3 e; exact ⟨k0, kC, by simp; exact kD, wf, we, wb, us, k1, g2 k2⟩
  · obtain ⟨q, k1, k2, z0, z1, z2, k3, k4⟩ := h.a5 e
    have hne : q ≠ p := by rintro rfl; exact h.ne rfl e (e1.trans k1.symm)
    exact ⟨q, k1, k2, z0, z1, z2, (g3 q hne).trans k3, k4⟩
theorem Cy.s7 (h : Cy C D m n b1 true b4 true b6 false x1 x3 x6 x7 W0 W) :
    ∃ p y0 y1 y2 v0 v1 v2, x7 = .pointer (some ⟨p, 0, none⟩) ∧ W.heap[p]? = some (.cells #[y0, y1, y2] 27 (0, 0)) ∧ x3 = .agg #[v0, v1, v2] ∧ (∃ A k c, v0 = .slice A k c) ∧ (∃ A k c, v1 = .slice A k c) ∧ (∃ A k c, v2 = .slice A k c) ∧
      Cy C D m n b1 true b4 true b6 true x1 x3 x6 x7 W0 (((W.setCell ⟨p, 0, none⟩ v0).setCell ⟨p, 1, none⟩ v1).setCell ⟨p, 2, none⟩ v2) := by
  obtain ⟨p, e1, e2, y0, y1, y2, e3, _⟩ := h.a5 rfl
  obtain ⟨k0, kC, kD, v0, v1, v2, us, f1, f2⟩ := h.c3 rfl
  obtain ⟨g1, g2, g3⟩ := h.put e3 e2 v0 v1 v2
  have r0 := row_slice f2.feet
  have r1 := row_slice f2.ends
  have r2 := row_slice f2.brks
  refine ⟨p, y0, y1, y2, v0, v1, v2, e1, e3, f1, let ⟨A, c, e⟩ := r0; ⟨A, _, c, e⟩, let ⟨A, c, e⟩ := r1; ⟨A, _, c, e⟩, let ⟨A, c, e⟩ := r2; ⟨A, _, c, e⟩, g1, by simp; exact h.sz, fun e => ?_, fun _ => ⟨k0, kC, by simp; exact kD, v0, v1, v2, us, f1, g2 f2⟩, fun e => ?_, fun _ => ⟨p, e1, e2, v0, v1, v2, three27 e3 v0 v1 v2, fun _ => f1⟩, h.ne⟩
  · obtain ⟨vf, ve, vb, vs, k1, k2, k3⟩ := h.c1 e; exact ⟨vf, ve, vb, vs, k1, g2 k2, k3⟩
  · obtain ⟨q, k1, k2, z0, z1, z2, k3, k4⟩ := h.a4 e
    have hne : q ≠ p := by rintro rfl; exact h.ne e rfl (k1.trans e1.symm)
    exact ⟨q, k1, k2, z0, z1, z2, (g3 q hne).trans k3, k4⟩
end
end Go.Proofs.YtkfkkoefpfmjkaaDoor

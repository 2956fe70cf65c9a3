import Derived.Test.YtkfkkoefpfmjkaaDoorKJ
namespace Go.Proofs.YtkfkkoefpfmjkaaDoor
set_option linter.unusedVariables false
set_option linter.unusedSimpArgs false
open Go.RowKit

/- refJoin's second drawn region: what is done so far. -/
structure Jq (C p6 p7 : Nat) (m n : Met) (vf ve vb wf we wb : Value) (vs us : List Value) (b4 b9 b10 b11 : Bool) (x28 x33 x8 : Value) (W0 W5 W : World) : Prop where
  bl : Below C W0 W
  sz : C ≤ W.heap.size
  pre : b4 = false → Below W5.heap.size W5 W
  post : b4 = true → Jr C m n x28 we vb wb vs us W
  bd : b9 = true → b4 = true ∧ x33 = .agg #[x28, we, vb]
  al : b10 = true → ∃ p, x8 = .pointer (some ⟨p, 0, none⟩) ∧ C ≤ p ∧ p ≠ p6 ∧ p ≠ p7 ∧ ∃ y0 y1 y2, W.heap[p]? = some (.cells #[y0, y1, y2] 27 (0, 0)) ∧ (b11 = true → y0 = x28 ∧ y1 = we ∧ y2 = vb)
  bx6 : W.heap[p6]? = some (.cells #[vf, ve, vb] 27 (0, 0))
  bx7 : W.heap[p7]? = some (.cells #[wf, we, wb] 27 (0, 0))
section
variable {C D p6 p7 : Nat} {m n : Met} {vf ve vb wf we wb x28 x33 x8 : Value} {vs us : List Value} {b4 b9 b10 b11 : Bool} {W0 W5 W W' : World}
theorem Jq.start (hbl : Below C W0 W5) (hsz : C ≤ W5.heap.size) (h6 : W5.heap[p6]? = some (.cells #[vf, ve, vb] 27 (0, 0))) (h7 : W5.heap[p7]? = some (.cells #[wf, we, wb] 27 (0, 0))) :
    Jq C p6 p7 m n vf ve vb wf we wb vs us false false false false x28 x33 x8 W0 W5 W5.drew :=
  ⟨⟨hbl.os, hbl.tape, hbl.output, hbl.size, hbl.block⟩, hsz, fun _ => (Below.refl _ _).drew, fun h => (by cases h), fun h => (by cases h), fun h => (by cases h), h6, h7⟩
theorem Jq.s4 (h : Jq C p6 p7 m n vf ve vb wf we wb vs us false b9 b10 false x28 x33 x8 W0 W5 W) (hx : OM W5 C m vf ve vb vs) (hy : OM W5 D n wf we wb us) (hCD : C ≤ D) (hg : W.grownBy W' vf.ownBlock) {x : Value}
    (ho : W'.ownsRow C 81 2 x (m.feet.length + n.feet.length) (ftCells m.feet vs ++ ftCells n.feet us)) : Jq C p6 p7 m n vf ve vb wf we wb vs us true b9 b10 false x x33 x8 W0 W5 W' := by
  have hxW := hx.below (h.pre rfl)
  have hyW := hy.below (h.pre rfl)
  have keep : ∀ {q : Nat} {c : Array Value}, W.heap[q]? = some (.cells c 27 (0, 0)) → W'.heap[q]? = some (.cells c 27 (0, 0)) := fun {q c} hq => (hg.block q (lt_of_heap hq) (fun e => by
    obtain ⟨c', hc'⟩ := own_at hxW.feet e.symm
    rw [hq] at hc'; cases hc')).trans hq
  refine ⟨h.bl.grown hg h.sz (fun k e => (hxW.feet.lt k e).1), Nat.le_trans h.sz hg.size, fun h => (by cases h), fun _ => Jr.of hxW hyW hCD hg ho, fun e => (by have := (h.bd e).1; cases this), fun e => ?_, keep h.bx6, keep h.bx7⟩
  obtain ⟨p, e1, e2, e3, e4, y0, y1, y2, e5, _⟩ := h.al e
  exact ⟨p, e1, e2, e3, e4, y0, y1, y2, keep e5, fun h => by cases h⟩
theorem Jq.s9 (h : Jq C p6 p7 m n vf ve vb wf we wb vs us true false b10 b11 x28 x33 x8 W0 W5 W) : Jq C p6 p7 m n vf ve vb wf we wb vs us true true b10 b11 x28 (.agg #[x28, we, vb]) x8 W0 W5 W :=
  ⟨h.bl, h.sz, h.pre, h.post, fun _ => ⟨rfl, rfl⟩, h.al, h.bx6, h.bx7⟩
theorem Jq.s10 (h : Jq C p6 p7 m n vf ve vb wf we wb vs us b4 b9 false false x28 x33 x8 W0 W5 W) :
    Jq C p6 p7 m n vf ve vb wf we wb vs us b4 b9 true false x28 x33 (.pointer (some ⟨W.heap.size, 0, none⟩)) W0 W5 (W.alloc (.cells #[.slice none 0 0, .slice none 0 0, .slice none 0 0] 27)) := by
  have hb : Below W.heap.size W (W.alloc (.cells #[.slice none 0 0, .slice none 0 0, .slice none 0 0] 27)) := (Below.refl _ W).alloc (Nat.le_refl _) _
  have l6 := lt_of_heap h.bx6
  have l7 := lt_of_heap h.bx7
  refine ⟨h.bl.trans (hb.mono h.sz), Nat.le_trans h.sz hb.size, fun e => (h.pre e).trans (hb.mono (h.pre e).size), fun e => (h.post e).next (only_of_below hb none) (fun p e => by cases e), h.bd, fun _ => ⟨_, rfl, h.sz, by omega, by omega, _, _, _, World.alloc_heap_new _ _, fun h => by cases h⟩, (hb.block _ l6).trans h.bx6, (hb.block _ l7).trans h.bx7⟩
theorem Jq.s11 (h : Jq C p6 p7 m n vf ve vb wf we wb vs us true true true false x28 x33 x8 W0 W5 W) :
    ∃ p y0 y1 y2, x8 = .pointer (some ⟨p, 0, none⟩) ∧ W.heap[p]? = some (.cells #[y0, y1, y2] 27 (0, 0)) ∧ Jq C p6 p7 m n vf ve vb wf we wb vs us true true true true x28 x33 x8 W0 W5 (((W.setCell ⟨p, 0, none⟩ x28).setCell ⟨p, 1, none⟩ we).setCell ⟨p, 2, none⟩ vb) := by
  obtain ⟨p, e1, e2, e3, e4, y0, y1, y2, e5, _⟩ := h.al rfl
  have hg : W.grownBy (((W.setCell ⟨p, 0, none⟩ x28).setCell ⟨p, 1, none⟩ we).setCell ⟨p, 2, none⟩ vb) (some p) := ⟨rfl, rfl, rfl, by simp, fun k hk hne => by
    have hk' : k ≠ p := by rintro rfl; exact hne rfl
    exact (Below.heap_setCell _ _ _ _ hk').trans ((Below.heap_setCell _ _ _ _ hk').trans (Below.heap_setCell _ _ _ _ hk'))⟩
  refine ⟨p, y0, y1, y2, e1, e5, h.bl.grown hg h.sz (fun k e => by cases e; exact e2), Nat.le_trans h.sz hg.size, fun h => (by cases h), fun _ => (h.post rfl).next hg (fun q e => by cases e; exact ⟨_, e5⟩), h.bd, fun _ => ⟨p, e1, e2, e3, e4, _, _, _, three27 e5 _ _ _, fun _ => ⟨rfl, rfl, rfl⟩⟩, ?_, ?_⟩
  · exact (hg.block p6 (lt_of_heap h.bx6) (fun e => e3 (by cases e; rfl))).trans h.bx6
  · exact (hg.block p7 (lt_of_heap h.bx7) (fun e => e4 (by cases e; rfl))).trans h.bx7
end
/-- y's breaks lie still, beside what is appended to -/
def Mo (C : Nat) (bs : List (Int × Int)) (wb x42 : Value) (W : World) : Prop := W.ownsRow C 98 2 wb bs.length (brkCells bs) ∧ (wb.ownBlock = none ∨ wb.ownBlock ≠ x42.ownBlock)
theorem Mo.step {C p : Nat} {bs : List (Int × Int)} {wb x42 x : Value} {W W6 W9 : World} {c : Array Value} (h : Mo C bs wb x42 W) (hb : Below W.heap.size W W6) (hg : W6.grownBy W9 x42.ownBlock)
    (hk : x.ownBlock = x42.ownBlock ∨ ∃ b, x.ownBlock = some b ∧ W6.heap.size ≤ b) (hp : W9.heap[p]? = some (.cells c 27 (0, 0))) (v : Value) (o : Nat) : Mo C bs wb x (W9.setCell ⟨p, o, none⟩ v) := by
  have h6 : W6.ownsRow C 98 2 wb bs.length (brkCells bs) := h.1.kept (only_of_below hb none) (by cases wb.ownBlock <;> simp)
  have h9 := h6.kept hg h.2
  refine ⟨h9.kept (row := some p) ⟨rfl, rfl, rfl, by simp, fun k hk hne => Below.heap_setCell _ _ _ _ (by rintro rfl; exact hne rfl)⟩ (own_neb h9 hp (by decide)), ?_⟩
  cases hw : wb.ownBlock with
  | none => exact .inl rfl
  | some g =>
    refine .inr fun e => ?_
    rcases hk with e1 | ⟨b, e1, e2⟩
    · rcases h.2 with e3 | e3
      · rw [hw] at e3; cases e3
      · exact e3 (hw.trans (e.trans e1))
    · have := (h6.lt g hw).2
      rw [e1] at e; cases e; omega
theorem Jr.jb {C p : Nat} {W0 W : World} {m n : Met} {x28 we vb wb : Value} {vs us : List Value} (h : Jr C m n x28 we vb wb vs us W) (hbl : Below C W0 W) (hsz : C ≤ W.heap.size) (hpC : C ≤ p) (hbox : W.heap[p]? = some (.cells #[x28, we, vb] 27 (0, 0)))
    (hl : (vs ++ us).length = (m.feet ++ n.feet).length) (hap : Apart (we :: (vs ++ us))) (bs : List (Int × Int)) : Jb C W0 (m.feet ++ n.feet) n.ends m.brks bs p x28 we (vs ++ us) 0 vb W :=
  ⟨hbl, hsz, hpC, hbox, hl, h.feet, h.ways, h.ends, by simpa using h.brks, hap⟩
end Go.Proofs.YtkfkkoefpfmjkaaDoor

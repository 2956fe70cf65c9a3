import Derived.Test.YtkfkkoefpfmjkaaDoorKC
import Derived.Test.YtkfkkoefpfmjkaaDoorUA
import Derived.Test.YtkfkkoefpfmjkaaDoorJC
namespace Go.Proofs.YtkfkkoefpfmjkaaDoor
set_option linter.unusedVariables false
set_option linter.unusedSimpArgs false
open Go.RowKit

/- metre.Join (28): the making of the new metre. -/
theorem opCall {P : Program} {o : Oper} {a : Act} {w : World} {f : FuncId} {args : Array Value} {K : Act → World → Prop} {Q : Exit → Act → World → Prop} (h : (execOp a.eval o).run P w = .ok (.enter f args) w)
    (hc : Calls P f args w fun e w' => ∃ v, e = .returned v ∧ K (a.put o.dst v) w') : o.wp P a w K Q := by
  unfold Oper.wp
  rw [h]
  refine Calls.mono hc ?_
  rintro e w' ⟨v, rfl, hk⟩
  exact hk
def brkAdd (d : Nat) (l : List (Int × Int)) : List (Int × Int) := l.map fun k => (k.1 + d, k.2)
def joinP (m n : Met) : Met := ⟨m.feet ++ n.feet, n.ends, m.brks ++ brkAdd m.feet.length n.brks⟩
theorem ftCells_append (a b : List Ft) (va vb : List Value) (h : va.length = a.length) : ftCells (a ++ b) (va ++ vb) = ftCells a va ++ ftCells b vb := by
  induction a generalizing va with
  | nil => cases va with
    | nil => rfl
    | cons x y => simp at h
  | cons x y ih => cases va with
    | nil => simp at h
    | cons p q =>
      have := ih q (by simpa using h)
      simp only [List.cons_append, ftCells] at *
      simp [this]
theorem own_mono {W : World} {B C e z n : Nat} {v : Value} {c : List Value} (h : W.ownsRow B e z v n c) (hC : C ≤ B) : W.ownsRow C e z v n c := by
  refine ⟨h.1, ?_⟩
  rcases h.2 with h1 | ⟨g, cap, cur, h1, h2, h3⟩
  · exact .inl h1
  · exact .inr ⟨g, cap, cur, h1, Nat.le_trans hC h2, h3⟩
/-- the drawn region that makes the new metre: what is done so far -/
structure Js (C N ne nb : Nat) (xs ys zs : List Value) (v1 v2 : Value) (b4 b5 b8 b11 b12 b13 : Bool) (x35 x36 x39 x42 x43 x6 : Value) (W0 W : World) : Prop where
  bl : Below C W0 W
  sz : C ≤ W.heap.size
  lit : b4 = true → b5 = false → ∃ g, x35 = .slice (some ⟨g, 0, none⟩) 2 2 ∧ W.heap[g]? = some (.cells #[v1, v2] 23 (0, 0)) ∧ C ≤ g
  r36 : b5 = true → W.ownsRow C 81 2 x36 N xs
  r39 : b8 = true → W.ownsRow C 100 2 x39 ne ys
  r42 : b11 = true → W.ownsRow C 98 2 x42 nb zs
  bd : b12 = true → b5 = true ∧ b8 = true ∧ b11 = true ∧ x43 = .agg #[x36, x39, x42]
  p45 : b4 = false → b5 = false
  al : b13 = true → ∃ p, x6 = .pointer (some ⟨p, 0, none⟩) ∧ C ≤ p ∧ W.heap[p]? = some (.cells #[.slice none 0 0, .slice none 0 0, .slice none 0 0] 27 (0, 0))
section
variable {C N ne nb : Nat} {xs ys zs : List Value} {v1 v2 x35 x36 x39 x42 x43 x6 : Value} {b4 b5 b8 b11 b12 b13 : Bool} {W0 W W' : World}
theorem Js.next (h : Js C N ne nb xs ys zs v1 v2 b4 b5 b8 b11 b12 b13 x35 x36 x39 x42 x43 x6 W0 W) (hb : Below W.heap.size W W') : Js C N ne nb xs ys zs v1 v2 b4 b5 b8 b11 b12 b13 x35 x36 x39 x42 x43 x6 W0 W' := by
  have q : ∀ {e n : Nat} {v : Value} {c : List Value}, W.ownsRow C e 2 v n c → W'.ownsRow C e 2 v n c := fun {e n v c} hu => hu.kept (only_of_below hb none) (by cases v.ownBlock <;> simp)
  refine ⟨h.bl.trans (hb.mono h.sz), Nat.le_trans h.sz hb.size, fun h1 h2 => ?_, fun h1 => q (h.r36 h1), fun h1 => q (h.r39 h1), fun h1 => q (h.r42 h1), h.bd, h.p45, fun h1 => ?_⟩
  · obtain ⟨g, e, hg, hC⟩ := h.lit h1 h2
    exact ⟨g, e, (hb.block g (lt_of_heap hg)).trans hg, hC⟩
  · obtain ⟨p, e, hp, hq⟩ := h.al h1
    exact ⟨p, e, hp, (hb.block p (lt_of_heap hq)).trans hq⟩
theorem Js.start (hC : W0.heap.size = C) : Js C N ne nb xs ys zs v1 v2 false false false false false false undef undef undef undef undef undef W0 W0.drew :=
  ⟨⟨rfl, rfl, rfl, Nat.le_refl _, fun _ _ => rfl⟩, by rw [← hC]; exact Nat.le_refl _, fun h => (by cases h), fun h => (by cases h), fun h => (by cases h), fun h => (by cases h), fun h => (by cases h), fun _ => rfl, fun h => (by cases h)⟩
theorem Js.build (h : Js C N ne nb xs ys zs v1 v2 false false b8 b11 b12 b13 x35 x36 x39 x42 x43 x6 W0 W) : Js C N ne nb xs ys zs v1 v2 true false b8 b11 b12 b13 (.slice (some ⟨W.heap.size, 0, none⟩) 2 2) x36 x39 x42 x43 x6 W0 (W.alloc (.cells #[v1, v2] 23)) := by
  have h2 := h.next ((Below.refl _ W).alloc (Nat.le_refl _) (.cells #[v1, v2] 23))
  exact ⟨h2.bl, h2.sz, fun _ _ => ⟨_, rfl, World.alloc_heap_new _ _, h.sz⟩, h2.r36, h2.r39, h2.r42, h2.bd, fun _ => rfl, h2.al⟩
theorem Js.s5 (h : Js C N ne nb xs ys zs v1 v2 true false b8 b11 b12 b13 x35 x36 x39 x42 x43 x6 W0 W) (hb : Below W.heap.size W W') {x : Value} (ho : W'.ownsRow W.heap.size 81 2 x N xs) : Js C N ne nb xs ys zs v1 v2 true true b8 b11 b12 b13 x35 x x39 x42 x43 x6 W0 W' := by
  have h2 := h.next hb
  exact ⟨h2.bl, h2.sz, fun _ h => (by cases h), fun _ => own_mono ho h.sz, h2.r39, h2.r42, fun h3 => (by have := (h.bd h3).1; cases this), (fun h => by cases h), h2.al⟩
theorem Js.s8 (h : Js C N ne nb xs ys zs v1 v2 b4 b5 false b11 b12 b13 x35 x36 x39 x42 x43 x6 W0 W) (hb : Below W.heap.size W W') {x : Value} (ho : W'.ownsRow W.heap.size 100 2 x ne ys) : Js C N ne nb xs ys zs v1 v2 b4 b5 true b11 b12 b13 x35 x36 x x42 x43 x6 W0 W' := by
  have h2 := h.next hb
  exact ⟨h2.bl, h2.sz, h2.lit, h2.r36, fun _ => own_mono ho h.sz, h2.r42, fun h3 => (by have := (h.bd h3).2.1; cases this), h2.p45, h2.al⟩
theorem Js.s11 (h : Js C N ne nb xs ys zs v1 v2 b4 b5 b8 false b12 b13 x35 x36 x39 x42 x43 x6 W0 W) (hb : Below W.heap.size W W') {x : Value} (ho : W'.ownsRow W.heap.size 98 2 x nb zs) : Js C N ne nb xs ys zs v1 v2 b4 b5 b8 true b12 b13 x35 x36 x39 x x43 x6 W0 W' := by
  have h2 := h.next hb
  exact ⟨h2.bl, h2.sz, h2.lit, h2.r36, h2.r39, fun _ => own_mono ho h.sz, fun h3 => (by have := (h.bd h3).2.2.1; cases this), h2.p45, h2.al⟩
theorem Js.s12 (h : Js C N ne nb xs ys zs v1 v2 b4 true true true false b13 x35 x36 x39 x42 x43 x6 W0 W) : Js C N ne nb xs ys zs v1 v2 b4 true true true true b13 x35 x36 x39 x42 (.agg #[x36, x39, x42]) x6 W0 W :=
  ⟨h.bl, h.sz, h.lit, h.r36, h.r39, h.r42, fun _ => ⟨rfl, rfl, rfl, rfl⟩, h.p45, h.al⟩
theorem Js.s13 (h : Js C N ne nb xs ys zs v1 v2 b4 b5 b8 b11 b12 false x35 x36 x39 x42 x43 x6 W0 W) :
    Js C N ne nb xs ys zs v1 v2 b4 b5 b8 b11 b12 true x35 x36 x39 x42 x43 (.pointer (some ⟨W.heap.size, 0, none⟩)) W0 (W.alloc (.cells #[.slice none 0 0, .slice none 0 0, .slice none 0 0] 27)) := by
  have h2 := h.next ((Below.refl _ W).alloc (Nat.le_refl _) (.cells #[.slice none 0 0, .slice none 0 0, .slice none 0 0] 27))
  exact ⟨h2.bl, h2.sz, h2.lit, h2.r36, h2.r39, h2.r42, h2.bd, h2.p45, fun _ => ⟨_, rfl, h.sz, World.alloc_heap_new _ _⟩⟩
end
/-- the new metre's box and rows, all made -/
structure Jd (C N ne nb : Nat) (xs ys zs : List Value) (p : Nat) (x36 x39 x42 : Value) (W0 W : World) : Prop where
  bl : Below C W0 W
  sz : C ≤ W.heap.size
  pC : C ≤ p
  box : W.heap[p]? = some (.cells #[x36, x39, x42] 27 (0, 0))
  r36 : W.ownsRow C 81 2 x36 N xs
  r39 : W.ownsRow C 100 2 x39 ne ys
  r42 : W.ownsRow C 98 2 x42 nb zs
theorem Js.stored {C N ne nb : Nat} {xs ys zs : List Value} {v1 v2 x35 x36 x39 x42 x43 x6 : Value} {W0 W : World} (h : Js C N ne nb xs ys zs v1 v2 true true true true true true x35 x36 x39 x42 x43 x6 W0 W) :
    ∃ p, x6 = .pointer (some ⟨p, 0, none⟩) ∧ W.heap[p]? = some (.cells #[.slice none 0 0, .slice none 0 0, .slice none 0 0] 27 (0, 0)) ∧
      Jd C N ne nb xs ys zs p x36 x39 x42 W0 (((W.setCell ⟨p, 0, none⟩ x36).setCell ⟨p, 1, none⟩ x39).setCell ⟨p, 2, none⟩ x42) := by
  obtain ⟨p, e, hp, hq⟩ := h.al rfl
  have h1 := heap_setCell_same W p 0 _ 27 x36 hq
  have h2 := heap_setCell_same _ p 1 _ 27 x39 h1
  have h3 := heap_setCell_same _ p 2 _ 27 x42 h2
  have q : ∀ {e n : Nat} {v : Value} {c : List Value}, W.ownsRow C e 2 v n c → e ≠ 27 → (((W.setCell ⟨p, 0, none⟩ x36).setCell ⟨p, 1, none⟩ x39).setCell ⟨p, 2, none⟩ x42).ownsRow C e 2 v n c := fun {e n v c} hu hne =>
    hu.kept (row := some p) ⟨rfl, rfl, rfl, by simp, fun k hk hkp => by
      have hk' : k ≠ p := by rintro rfl; exact hkp rfl
      exact (Below.heap_setCell _ _ _ _ hk').trans ((Below.heap_setCell _ _ _ _ hk').trans (Below.heap_setCell _ _ _ _ hk'))⟩ (own_neb hu hq hne)
  exact ⟨p, e, hq, ((h.bl.setCell (p := ⟨p, 0, none⟩) hp _).setCell (p := ⟨p, 1, none⟩) hp _).setCell (p := ⟨p, 2, none⟩) hp _, by simp; exact h.sz, hp, h3, q (h.r36 rfl) (by decide), q (h.r39 rfl) (by decide), q (h.r42 rfl) (by decide)⟩
theorem join_ret {W : World} {T : Array Value} {Q : Ending → World → Prop} {P : Nat} {v0 v1 v2 b : Value} (h4 : T.getD 4 undef = .pointer (some ⟨P, 0, none⟩)) (h5 : T.getD 5 undef = b)
    (r : W.heap[P]? = some (.cells #[v0, v1, v2] 27 (0, 0))) (hQ : Q (.returned (.tuple #[.agg #[v0, v1, v2], b])) W) : bodyPost Tryd.prog Tryd.f28 Q Exit.ret { tmps := T, defers := [] } W := by
  have d0 : W.cell? ⟨P, 0, none⟩ = some v0 := cell_of_row _ _ _ _ 27 (0, 0) r
  have d1 : W.cell? ⟨P, 1, none⟩ = some v1 := cell_of_row _ _ _ _ 27 (0, 0) r
  have d2 : W.cell? ⟨P, 2, none⟩ = some v2 := cell_of_row _ _ _ _ 27 (0, 0) r
  have h4' : T[4]?.getD undef = .pointer (some ⟨P, 0, none⟩) := by simpa using h4
  have h5' : T[5]?.getD undef = b := by simpa using h5
  refine bodyPost_ret (v := .tuple #[.agg #[v0, v1, v2], b]) ?_ rfl hQ
  simp [results, Tryd.f28, go_sem, h4', h5', d0, d1, d2, Tryd.isAgg27, Tryd.sizeOf27]
theorem three27 {W : World} {P : Nat} {x0 x1 x2 : Value} (hx : W.heap[P]? = some (.cells #[x0, x1, x2] 27 (0, 0))) (v0 v1 v2 : Value) :
    (((W.setCell ⟨P, 0, none⟩ v0).setCell ⟨P, 1, none⟩ v1).setCell ⟨P, 2, none⟩ v2).heap[P]? = some (.cells #[v0, v1, v2] 27 (0, 0)) :=
  heap_setCell_same _ P 2 _ 27 v2 (heap_setCell_same _ P 1 _ 27 v1 (heap_setCell_same W P 0 _ 27 v0 hx))
theorem ftCells_one : ∀ (fs : List Ft) (vs : List Value), (∀ k, k < vs.length → ∃ A n c, vs.getD k nilV = .slice A n c) → ∀ u ∈ ftCells fs vs, u.oneCell' = true
  | [], _, _, u, h => by cases h
  | f :: fs, [], _, u, h => by cases h
  | f :: fs, v :: vs, hv, u, h => by
    simp only [ftCells, List.mem_cons] at h
    rcases h with rfl | rfl | h
    · rfl
    · obtain ⟨A, n, c, e⟩ := hv 0 (by simp)
      have e' : u = .slice A n c := by simpa using e
      rw [e']; rfl
    · exact ftCells_one fs vs (fun k hk => by have := hv (k + 1) (by simp; omega); simpa using this) u h
theorem OM.ones {w : World} {B : Nat} {m : Met} {vf ve vb : Value} {vs : List Value} (h : OM w B m vf ve vb vs) : ∀ u ∈ ftCells m.feet vs, u.oneCell' = true :=
  ftCells_one m.feet vs fun k hk => let ⟨A, c, e⟩ := row_slice (h.ways k (by rw [← h.vl]; exact hk)); ⟨A, _, c, e⟩
theorem brksFrom_len (n : Int) : ∀ (l : List (Int × Int)) (a : Int), brksFrom n a l = true → a ≤ n → (l.length : Int) ≤ n - a
  | [], a, _, h => by simp; omega
  | b :: l, a, h, _ => by
    simp only [brksFrom, Bool.and_eq_true, decide_eq_true_eq] at h
    have := brksFrom_len n l b.1 h.2 (by omega)
    simp only [List.length_cons]
    omega
theorem brksFrom_in (n : Int) : ∀ (l : List (Int × Int)) (a : Int), brksFrom n a l = true → ∀ k, k < l.length → a < (l.getD k default).1 ∧ (l.getD k default).1 < n ∧ 1 ≤ (l.getD k default).2 ∧ (l.getD k default).2 ≤ 1048576
  | [], a, _, k, hk => by simp at hk
  | b :: l, a, h, k, hk => by
    simp only [brksFrom, Bool.and_eq_true, decide_eq_true_eq] at h
    cases k with
    | zero => simp; omega
    | succ k =>
      have := brksFrom_in n l b.1 h.2 k (by simpa using hk)
      simp only [List.getD_cons_succ]
      omega
structure Slim (m : Met) : Prop where
  len : m.brks.length ≤ 16
  at_ : ∀ k, k < m.brks.length → 0 < (m.brks.getD k default).1 ∧ (m.brks.getD k default).1 < 16 ∧ 1 ≤ (m.brks.getD k default).2 ∧ (m.brks.getD k default).2 ≤ 1048576
theorem slim_of {m : Met} (h : mayB m = true) : Slim m := by
  have hs := small_of h
  have hf := hs.feet
  unfold mayB at h
  simp only [Bool.and_eq_true, decide_eq_true_eq] at h
  obtain ⟨_, h5⟩ := h
  refine ⟨?_, fun k hk => ?_⟩
  · have := brksFrom_len _ _ _ h5 (by omega); omega
  · have := brksFrom_in _ _ _ h5 k hk; omega
end Go.Proofs.YtkfkkoefpfmjkaaDoor

import Derived.Test.YtkfkkoefpfmjkaaDoorTA
import Derived.Test.YtkfkkoefpfmjkaaDoorGI
import Derived.Test.YtkfkkoefpfmjkaaDoorOA
import Derived.IntWalk
namespace Go.Proofs.YtkfkkoefpfmjkaaDoor
set_option linter.unusedVariables false
set_option linter.unusedSimpArgs false
open Go.RowKit

/- The reference's Copy. -/
def CopyOk (m : Met) (w : World) (e : Ending) (w' : World) : Prop := ∃ vf ve vb vs, e = .returned (.agg #[vf, ve, vb]) ∧ OM w' w.heap.size m vf ve vb vs ∧ Below w.heap.size w w'
theorem brkCells_len (l : List (Int × Int)) : (brkCells l).length = l.length * 2 := by
  induction l with
  | nil => rfl
  | cons x l ih => simp [brkCells] at ih ⊢; omega
theorem brkCells_one (l : List (Int × Int)) : ∀ u ∈ brkCells l, u.oneCell' = true := by
  intro u hu
  simp only [brkCells, List.mem_flatMap] at hu
  obtain ⟨v, _, hu⟩ := hu
  simp at hu
  rcases hu with rfl | rfl <;> rfl
theorem brks_cells {w : World} {b off : Nat} {l : List (Int × Int)} (h : ∀ k, k < l.length → w.cell? ⟨b, off + k * 2, none⟩ = some (.int .i64 (l.getD k default).1) ∧ w.cell? ⟨b, off + k * 2 + 1, none⟩ = some (.int .i64 (l.getD k default).2)) :
    ∀ j u, (brkCells l)[j]? = some u → w.cell? ((⟨b, off, none⟩ : Addr).add j) = some u := by
  intro j u hu
  rw [addr_add]
  have hj : j < (brkCells l).length := (List.getElem?_eq_some_iff.1 hu).1
  rw [brkCells_len] at hj
  have hk : j / 2 < l.length := by omega
  have hg := brkCells_get l (j / 2) hk
  have hc := h (j / 2) hk
  rcases Nat.mod_two_eq_zero_or_one j with e | e
  · have ej : j / 2 * 2 = j := by omega
    rw [ej] at hg hc
    rw [hg.1] at hu
    rw [hc.1]; exact hu
  · have ej : j / 2 * 2 + 1 = j := by omega
    have ej2 : off + j / 2 * 2 + 1 = off + j := by omega
    rw [ej] at hg
    rw [ej2] at hc
    rw [hg.2] at hu
    rw [hc.2]; exact hu
section
variable {P : Program} {ops : Array Oper} {Q : Exit → Act → World → Prop}
theorem opValue {o : Oper} {a : Act} {w w' : World} {v : Value} {K : Act → World → Prop} (h : (execOp a.eval o).run P w = .ok (.value v) w') (hk : K (a.put o.dst v) w') : o.wp P a w K Q := by
  unfold Oper.wp
  rw [h]
  exact hk
theorem opSkip {o : Oper} {a : Act} {w w' : World} {K : Act → World → Prop} (h : (execOp a.eval o).run P w = .ok .skip w') (hk : K (a.put o.dst undef) w') : o.wp P a w K Q := by
  unfold Oper.wp
  rw [h]
  exact hk
/-- append of cells that lie wherever, none too, as a step -/
theorem opAppend {o : Oper} {a : Act} {w : World} {K : Act → World → Prop} (s x : Operand) (t : TypeId) (ho : o.op = .call { callee := .builtin .append, args := #[s, x], argTypes := #[t, t] })
    (base : Nat) (e : TypeId) (i : TypeInfo) (z : Value) (size bytes : Nat) (ht : P.underlying t = some (.slice e)) (hi : P.info? e = some i) (hz : i.zero = some z)
    (hsize : i.size = size) (hby : i.bytes = bytes) (hzs : z.cells.size = size) (hsz : 0 < size)
    (v : Value) (n : Nat) (xs : List Value) (hs : a.eval s = v) (hown : w.ownsRow base e size v n xs)
    (A : Option Addr) (m c : Nat) (news : List Value) (hx : a.eval x = .slice A m c) (hA : A = none → m = 0) (hl : news.length = m * size) (hnews : ∀ ad, A = some ad → ∀ j u, news[j]? = some u → w.cell? (ad.add j) = some u) (h1 : ∀ u ∈ news, u.oneCell' = true)
    (h63 : n + m ≤ maxLen) (hbytes : (n + m) * bytes ≤ 140737488355328) (hbase : base ≤ w.heap.size)
    (h : ∀ v' w', w'.ownsRow base e size v' (n + m) (xs ++ news) → w.grownBy w' v.ownBlock → (v'.ownBlock = v.ownBlock ∨ v'.ownBlock = some w.heap.size) → K (a.put o.dst v') w') : o.wp P a w K Q := by
  cases A with
  | some ad =>
    obtain ⟨v', w', hr, h2, h3, h4, h5⟩ := run_append_own_at (P := P) w base t o.type e i z size bytes ht hi hz hsize hby hzs hsz v n xs hown ad m c news hl (hnews ad rfl) h1 h63 hbytes hbase
    unfold Oper.wp execOp
    simp only [ho, resolve, invoke, builtin, Sem.run_bind, Sem.run_pure, Result.andThen_ok, List.map_toArray, List.map_cons, List.map_nil, hs, hx, hr, Oper.upon]
    exact h v' w' h2 h3 h5
  | none =>
    have hm := hA rfl
    subst hm
    have hn : news = [] := List.eq_nil_of_length_eq_zero (by omega)
    subst hn
    have hrun := run_append_nothing (P := P) (w := w) base t o.type e i size ht hi v n xs hown c
    unfold Oper.wp execOp
    simp only [ho, resolve, invoke, builtin, Sem.run_bind, Sem.run_pure, Result.andThen_ok, List.map_toArray, List.map_cons, List.map_nil, hs, hx, hrun, Oper.upon]
    exact h v w (by simpa using hown) (World.grownBy.refl w _) (.inl rfl)
end
theorem block_ne {w : World} {base e size n : Nat} {v : Value} {xs : List Value} {p t : Nat} {c : Array Value} (h : w.ownsRow base e size v n xs) (hp : w.heap[p]? = some (.cells c t (0, 0))) (het : e ≠ t) : some p ≠ v.ownBlock := fun hq => by
  rcases h.2 with ⟨rfl, _⟩ | ⟨g, cap, cur, rfl, _, hg, _⟩
  · simp [Value.ownBlock] at hq
  · simp [Value.ownBlock] at hq
    subst hq
    rw [hp] at hg
    simp at hg
    exact het hg.2.symm
theorem row_put {w : World} {base e size n : Nat} {v : Value} {xs : List Value} {p t : Nat} {c : Array Value} (h : w.ownsRow base e size v n xs) (hp : w.heap[p]? = some (.cells c t (0, 0))) (het : e ≠ t) (o : Nat) (x : Value) :
    (w.setCell ⟨p, o, none⟩ x).ownsRow base e size v n xs := by
  refine h.kept (grown_cell w p o x) ?_
  cases hq : v.ownBlock with
  | none => exact .inl rfl
  | some q => exact .inr fun e' => block_ne h hp het (by rw [hq, e'])
theorem row_slice {w : World} {base e size n : Nat} {v : Value} {xs : List Value} (h : w.ownsRow base e size v n xs) : ∃ A c, v = .slice A n c := by
  rcases h.2 with ⟨rfl, h0⟩ | ⟨g, cap, cur, rfl, _⟩
  · exact ⟨none, 0, by rw [h0]⟩
  · exact ⟨_, cap, rfl⟩
theorem ways_none {w : World} {B : Nat} {A : Option Addr} {l : List Way} (h : IsWays w B A l) (hA : A = none) : l.length = 0 := by
  cases hq : l.length with
  | zero => rfl
  | succ q => obtain ⟨b, off, e, _⟩ := h (by omega); rw [hA] at e; cases e
theorem ways_at {w : World} {B : Nat} {A : Option Addr} {l : List Way} (h : IsWays w B A l) (ad : Addr) (hA : A = some ad) : ∀ j u, (wayCells l)[j]? = some u → w.cell? (ad.add j) = some u := by
  by_cases h0 : l.length = 0
  · obtain rfl : l = [] := List.eq_nil_of_length_eq_zero h0
    intro j u hu; simp [wayCells] at hu
  · obtain ⟨b, off, e, _, hn⟩ := h (by omega)
    rw [hA] at e; cases e
    exact ways_cells (B := B) hn
theorem brks_none {w : World} {B : Nat} {A : Option Addr} {l : List (Int × Int)} (h : IsBrks w B A l) (hA : A = none) : l.length = 0 := by
  cases hq : l.length with
  | zero => rfl
  | succ q => obtain ⟨b, off, e, _⟩ := h (by omega); rw [hA] at e; cases e
theorem brks_at {w : World} {B : Nat} {A : Option Addr} {l : List (Int × Int)} (h : IsBrks w B A l) (ad : Addr) (hA : A = some ad) : ∀ j u, (brkCells l)[j]? = some u → w.cell? (ad.add j) = some u := by
  by_cases h0 : l.length = 0
  · obtain rfl : l = [] := List.eq_nil_of_length_eq_zero h0
    intro j u hu; simp [brkCells] at hu
  · obtain ⟨b, off, e, _, hn⟩ := h (by omega)
    rw [hA] at e; cases e
    exact brks_cells hn
/-- between two steps of the first statement -/
structure CpS (m : Met) (W2 : World) (b4 b9 b12 b17 b20 b21 b22 b23 : Bool) (x3 x10 x15 x18 x23 x26 x27 : Value) (wr : World) : Prop where
  d12 : b12 = true → b9 = true
  d20 : b20 = true → b17 = true
  d21 : b21 = true → b4 = true ∧ b12 = true ∧ b20 = true
  d23 : b23 = true → b21 = true ∧ b22 = true
  bl : Below W2.heap.size W2 wr
  mk23 : b4 = true → wr.ownsRow W2.heap.size 81 2 x10 0 []
  mk24 : b9 = true → b12 = false → wr.ownsRow W2.heap.size 100 2 x15 0 []
  ap24 : b12 = true → wr.ownsRow W2.heap.size 100 2 x18 m.ends.length (wayCells m.ends)
  mk25 : b17 = true → b20 = false → wr.ownsRow W2.heap.size 98 2 x23 0 []
  ap25 : b20 = true → wr.ownsRow W2.heap.size 98 2 x26 m.brks.length (brkCells m.brks)
  bd : b21 = true → x27 = .agg #[x10, x18, x26]
  al : b22 = true → ∃ p, x3 = .pointer (some ⟨p, 0, none⟩) ∧ W2.heap.size ≤ p ∧ wr.heap[p]? = some (.cells (if b23 then #[x10, x18, x26] else #[.slice none 0 0, .slice none 0 0, .slice none 0 0]) 27 (0, 0))
section
variable {m : Met} {W2 wr w' : World} {b4 b9 b12 b17 b20 b21 b22 b23 : Bool} {x3 x10 x15 x18 x23 x26 x27 : Value}
theorem lt_of_heap {w : World} {p : Nat} {o : Obj} (h : w.heap[p]? = some o) : p < w.heap.size := (Array.getElem?_eq_some_iff.1 h).1
theorem CpS.start (m : Met) (W2 : World) : CpS m W2 false false false false false false false false undef undef undef undef undef undef undef W2.drew :=
  ⟨(fun h => by cases h), (fun h => by cases h), (fun h => by cases h), (fun h => by cases h), (Below.refl _ _).drew, (fun h => by cases h), (fun h => by cases h), (fun h => by cases h), (fun h => by cases h), (fun h => by cases h), (fun h => by cases h), (fun h => by cases h)⟩
theorem CpS.step23 (h : CpS m W2 false b9 b12 b17 b20 b21 b22 b23 x3 x10 x15 x18 x23 x26 x27 wr) (hg : wr.grownBy w' none) {x : Value} (ho : w'.ownsRow W2.heap.size 81 2 x 0 []) :
    CpS m W2 true b9 b12 b17 b20 b21 b22 b23 x3 x x15 x18 x23 x26 x27 w' := by
  have n21 : b21 = true → False := fun e => by have := (h.d21 e).1; cases this
  have n23 : b23 = true → False := fun e => n21 (h.d23 e).1
  refine ⟨h.d12, h.d20, fun e => (n21 e).elim, h.d23, h.bl.grown hg h.bl.size (by simp), fun _ => ho, fun a b => (h.mk24 a b).kept hg some_ne, fun a => (h.ap24 a).kept hg some_ne, fun a b => (h.mk25 a b).kept hg some_ne, fun a => (h.ap25 a).kept hg some_ne, fun e => (n21 e).elim, fun a => ?_⟩
  obtain ⟨p, e1, e2, e3⟩ := h.al a
  refine ⟨p, e1, e2, (hg.block p (lt_of_heap e3) (by simp)).trans ?_⟩
  rw [e3]
  cases b23 with
  | true => exact (n23 rfl).elim
  | false => rfl
theorem CpS.step24 (h : CpS m W2 b4 false b12 b17 b20 b21 b22 b23 x3 x10 x15 x18 x23 x26 x27 wr) (hg : wr.grownBy w' none) {x : Value} (ho : w'.ownsRow W2.heap.size 100 2 x 0 []) :
    CpS m W2 b4 true b12 b17 b20 b21 b22 b23 x3 x10 x x18 x23 x26 x27 w' := by
  have n12 : b12 = true → False := fun e => by have := h.d12 e; cases this
  refine ⟨fun _ => rfl, h.d20, h.d21, h.d23, h.bl.grown hg h.bl.size (by simp), fun a => (h.mk23 a).kept hg some_ne, fun _ _ => ho, fun a => (n12 a).elim, fun a b => (h.mk25 a b).kept hg some_ne, fun a => (h.ap25 a).kept hg some_ne, h.bd, fun a => ?_⟩
  obtain ⟨p, e1, e2, e3⟩ := h.al a
  exact ⟨p, e1, e2, (hg.block p (lt_of_heap e3) (by simp)).trans e3⟩
theorem CpS.step25 (h : CpS m W2 b4 b9 b12 false b20 b21 b22 b23 x3 x10 x15 x18 x23 x26 x27 wr) (hg : wr.grownBy w' none) {x : Value} (ho : w'.ownsRow W2.heap.size 98 2 x 0 []) :
    CpS m W2 b4 b9 b12 true b20 b21 b22 b23 x3 x10 x15 x18 x x26 x27 w' := by
  have n20 : b20 = true → False := fun e => by have := h.d20 e; cases this
  refine ⟨h.d12, fun _ => rfl, h.d21, h.d23, h.bl.grown hg h.bl.size (by simp), fun a => (h.mk23 a).kept hg some_ne, fun a b => (h.mk24 a b).kept hg some_ne, fun a => (h.ap24 a).kept hg some_ne, fun _ _ => ho, fun a => (n20 a).elim, h.bd, fun a => ?_⟩
  obtain ⟨p, e1, e2, e3⟩ := h.al a
  exact ⟨p, e1, e2, (hg.block p (lt_of_heap e3) (by simp)).trans e3⟩
theorem CpS.app24 (h : CpS m W2 b4 true false b17 b20 b21 b22 b23 x3 x10 x15 x18 x23 x26 x27 wr) (hg : wr.grownBy w' x15.ownBlock) {x : Value} (ho : w'.ownsRow W2.heap.size 100 2 x m.ends.length (wayCells m.ends)) :
    CpS m W2 b4 true true b17 b20 b21 b22 b23 x3 x10 x15 x x23 x26 x27 w' := by
  have n21 : b21 = true → False := fun e => by have := (h.d21 e).2.1; cases this
  have n23 : b23 = true → False := fun e => n21 (h.d23 e).1
  have hr := h.mk24 rfl rfl
  refine ⟨fun _ => rfl, h.d20, fun e => (n21 e).elim, h.d23, h.bl.grown hg h.bl.size (fun k e => (hr.lt k e).1), fun a => (h.mk23 a).kept hg (own_ne (h.mk23 a) hr (by decide)), (fun _ a => by cases a), fun _ => ho, fun a b => (h.mk25 a b).kept hg (own_ne (h.mk25 a b) hr (by decide)), fun a => (h.ap25 a).kept hg (own_ne (h.ap25 a) hr (by decide)), fun e => (n21 e).elim, fun a => ?_⟩
  obtain ⟨p, e1, e2, e3⟩ := h.al a
  refine ⟨p, e1, e2, (hg.block p (lt_of_heap e3) (block_ne hr e3 (by decide))).trans ?_⟩
  rw [e3]
  cases b23 with
  | true => exact (n23 rfl).elim
  | false => rfl
theorem CpS.app25 (h : CpS m W2 b4 b9 b12 true false b21 b22 b23 x3 x10 x15 x18 x23 x26 x27 wr) (hg : wr.grownBy w' x23.ownBlock) {x : Value} (ho : w'.ownsRow W2.heap.size 98 2 x m.brks.length (brkCells m.brks)) :
    CpS m W2 b4 b9 b12 true true b21 b22 b23 x3 x10 x15 x18 x23 x x27 w' := by
  have n21 : b21 = true → False := fun e => by have := (h.d21 e).2.2; cases this
  have n23 : b23 = true → False := fun e => n21 (h.d23 e).1
  have hr := h.mk25 rfl rfl
  refine ⟨h.d12, fun _ => rfl, fun e => (n21 e).elim, h.d23, h.bl.grown hg h.bl.size (fun k e => (hr.lt k e).1), fun a => (h.mk23 a).kept hg (own_ne (h.mk23 a) hr (by decide)), fun a b => (h.mk24 a b).kept hg (own_ne (h.mk24 a b) hr (by decide)), fun a => (h.ap24 a).kept hg (own_ne (h.ap24 a) hr (by decide)), (fun _ a => by cases a), fun _ => ho, fun e => (n21 e).elim, fun a => ?_⟩
  obtain ⟨p, e1, e2, e3⟩ := h.al a
  refine ⟨p, e1, e2, (hg.block p (lt_of_heap e3) (block_ne hr e3 (by decide))).trans ?_⟩
  rw [e3]
  cases b23 with
  | true => exact (n23 rfl).elim
  | false => rfl
theorem CpS.build (h : CpS m W2 true b9 true b17 true false b22 b23 x3 x10 x15 x18 x23 x26 x27 wr) :
    CpS m W2 true b9 true b17 true true b22 b23 x3 x10 x15 x18 x23 x26 (.agg #[x10, x18, x26]) wr :=
  ⟨h.d12, h.d20, fun _ => ⟨rfl, rfl, rfl⟩, fun e => ⟨rfl, (h.d23 e).2⟩, h.bl, h.mk23, h.mk24, h.ap24, h.mk25, h.ap25, fun _ => rfl, h.al⟩
theorem CpS.alloc (h : CpS m W2 b4 b9 b12 b17 b20 b21 false b23 x3 x10 x15 x18 x23 x26 x27 wr) :
    CpS m W2 b4 b9 b12 b17 b20 b21 true b23 (.pointer (some ⟨wr.heap.size, 0, none⟩)) x10 x15 x18 x23 x26 x27 (wr.alloc (.cells #[.slice none 0 0, .slice none 0 0, .slice none 0 0] 27)) := by
  have n23 : b23 = true → False := fun e => by have := (h.d23 e).2; cases this
  refine ⟨h.d12, h.d20, h.d21, fun e => (n23 e).elim, h.bl.alloc h.bl.size _, fun a => (h.mk23 a).alloc _, fun a b => (h.mk24 a b).alloc _, fun a => (h.ap24 a).alloc _, fun a b => (h.mk25 a b).alloc _, fun a => (h.ap25 a).alloc _, h.bd, fun _ => ⟨_, rfl, h.bl.size, ?_⟩⟩
  rw [World.alloc_heap_new]
  cases b23 with
  | true => exact (n23 rfl).elim
  | false => rfl
theorem CpS.store {p : Nat} (h : CpS m W2 true b9 true b17 true true true false x3 x10 x15 x18 x23 x26 x27 wr) (hp : W2.heap.size ≤ p) (hq : wr.heap[p]? = some (.cells #[.slice none 0 0, .slice none 0 0, .slice none 0 0] 27 (0, 0))) (hx : x3 = .pointer (some ⟨p, 0, none⟩)) :
    CpS m W2 true b9 true b17 true true true true x3 x10 x15 x18 x23 x26 x27 (((wr.setCell ⟨p, 0, none⟩ x10).setCell ⟨p, 1, none⟩ x18).setCell ⟨p, 2, none⟩ x26) := by
  have q1 : (wr.setCell ⟨p, 0, none⟩ x10).heap[p]? = some (.cells #[x10, .slice none 0 0, .slice none 0 0] 27 (0, 0)) := heap_setCell_same _ _ 0 _ 27 x10 hq
  have q2 : ((wr.setCell ⟨p, 0, none⟩ x10).setCell ⟨p, 1, none⟩ x18).heap[p]? = some (.cells #[x10, x18, .slice none 0 0] 27 (0, 0)) := heap_setCell_same _ _ 1 _ 27 x18 q1
  have q3 : (((wr.setCell ⟨p, 0, none⟩ x10).setCell ⟨p, 1, none⟩ x18).setCell ⟨p, 2, none⟩ x26).heap[p]? = some (.cells #[x10, x18, x26] 27 (0, 0)) := heap_setCell_same _ _ 2 _ 27 x26 q2
  refine ⟨h.d12, h.d20, h.d21, fun _ => ⟨rfl, rfl⟩, ((h.bl.setCell (p := ⟨p, 0, none⟩) hp _).setCell (p := ⟨p, 1, none⟩) hp _).setCell (p := ⟨p, 2, none⟩) hp _,
    fun a => row_put (row_put (row_put (h.mk23 a) hq (by decide) 0 _) q1 (by decide) 1 _) q2 (by decide) 2 _, (fun a b => by cases b),
    fun a => row_put (row_put (row_put (h.ap24 a) hq (by decide) 0 _) q1 (by decide) 1 _) q2 (by decide) 2 _, (fun a b => by cases b),
    fun a => row_put (row_put (row_put (h.ap25 a) hq (by decide) 0 _) q1 (by decide) 1 _) q2 (by decide) 2 _, h.bd, fun _ => ⟨p, hx, hp, q3⟩⟩
end

theorem Apart.fresh {v : Value} {vs : List Value} {N : Nat} (h : Apart vs) (hN : ∀ k b, k < vs.length → (vs.getD k nilV).ownBlock = some b → b < N) (hv : ∀ b, v.ownBlock = some b → N ≤ b) : Apart (vs ++ [v]) := by
  intro i j k hi hj hij hik
  simp only [List.length_append, List.length_cons, List.length_nil] at hi hj
  by_cases ei : i < vs.length
  · rw [getD_snoc _ _ _ _ ei] at hik
    by_cases ej : j < vs.length
    · rw [getD_snoc _ _ _ _ ej]; exact h i j k ei ej hij hik
    · obtain rfl : j = vs.length := by omega
      rw [getD_last]
      intro e
      have h1 := hN i k ei hik
      have h2 := hv k e
      omega
  · obtain rfl : i = vs.length := by omega
    rw [getD_last] at hik
    by_cases ej : j < vs.length
    · rw [getD_snoc _ _ _ _ ej]
      intro e
      have h1 := hN j k ej e
      have h2 := hv k hik
      omega
    · omega
theorem OM.blocks {w : World} {B : Nat} {m : Met} {vf ve vb : Value} {vs : List Value} (h : OM w B m vf ve vb vs) : ∀ k b, k < (ve :: vs).length → ((ve :: vs).getD k nilV).ownBlock = some b → b < w.heap.size := by
  intro k b hk hb
  cases k with
  | zero => exact (h.ends.lt b (by simpa using hb)).2
  | succ k =>
    have hk' : k < m.feet.length := by simp at hk; have := h.vl; omega
    exact ((h.ways k hk').lt b (by simpa using hb)).2
theorem OM.addFoot {w w' : World} {B N : Nat} {fs : List Ft} {es : List Way} {bs : List (Int × Int)} {f : Ft} {vf vf' ve vb x : Value} {vs : List Value} (h : OM w B ⟨fs, es, bs⟩ vf ve vb vs) (hN : ∀ k b, k < (ve :: vs).length → ((ve :: vs).getD k nilV).ownBlock = some b → b < N)
    (hx : w.ownsRow B 100 2 x f.ways.length (wayCells f.ways)) (hxN : ∀ b, x.ownBlock = some b → N ≤ b)
    (ho : w'.ownsRow B 81 2 vf' (fs.length + 1) (ftCells fs vs ++ [.string f.own, x])) (hg : w.grownBy w' vf.ownBlock) : OM w' B ⟨fs ++ [f], es, bs⟩ vf' ve vb (vs ++ [x]) := by
  have hvl : vs.length = fs.length := h.vl
  refine ⟨by simp [hvl], ?_, fun k hk => ?_, h.ends.kept hg (own_ne h.ends h.feet (by decide)), h.brks.kept hg (own_ne h.brks h.feet (by decide)), ?_⟩
  · rw [ftCells_snoc _ _ _ _ hvl]; simpa using ho
  · simp only [List.length_append, List.length_cons, List.length_nil] at hk
    by_cases e : k < fs.length
    · rw [getD_snoc _ _ _ _ (by omega), getD_snoc _ _ _ _ e]
      exact (h.ways k e).kept hg (own_ne (h.ways k e) h.feet (by decide))
    · obtain rfl : k = fs.length := by omega
      rw [getD_last, ← hvl, getD_last]
      exact hx.kept hg (own_ne hx h.feet (by decide))
  · have := h.apart.fresh hN hxN
    simpa using this
theorem OM.putBox {w : World} {B p : Nat} {c : Array Value} {m : Met} {vf ve vb : Value} {vs : List Value} (h : OM w B m vf ve vb vs) (hp : w.heap[p]? = some (.cells c 27 (0, 0))) (o : Nat) (x : Value) : OM (w.setCell ⟨p, o, none⟩ x) B m vf ve vb vs :=
  ⟨h.vl, row_put h.feet hp (by decide) o x, fun j hj => row_put (h.ways j hj) hp (by decide) o x, row_put h.ends hp (by decide) o x, row_put h.brks hp (by decide) o x, h.apart⟩
theorem getD_snoc_ft (l : List Ft) (k : Nat) (h : k < l.length) : l.take (k + 1) = l.take k ++ [l.getD k default] := take_snoc' l k h

set_option maxRecDepth 100000 in
set_option maxHeartbeats 16000000 in
theorem copy_any (Af Ae Ab : Option Addr) (cf ce cb : Nat) (m : Met) (w : World) (h : IsMet w w.heap.size Af Ae Ab cf ce cb m) (hr : MetReach m) :
    Calls Tryd.prog 22 #[.agg #[.slice Af m.feet.length cf, .slice Ae m.ends.length ce, .slice Ab m.brks.length cb]] w (CopyOk m w) := by
  have hfl := hr.feet
  have hel := hr.ends
  have hbl := hr.brks
  have HRw := Lib.hid hr
  have HW : ∃ W2 : World, W2 = (w.alloc (.cells #[.slice Af m.feet.length cf, .slice Ae m.ends.length ce, .slice Ab m.brks.length cb] 27)).alloc (.cells #[.slice none 0 0, .slice none 0 0, .slice none 0 0] 27) := ⟨_, rfl⟩
  obtain ⟨W2, hW2⟩ := HW
  have sW2 : W2.heap.size = w.heap.size + 2 := by rw [hW2]; simp
  have hB2 : Below w.heap.size w W2 := by rw [hW2]; exact ((Below.refl _ _).alloc (Nat.le_refl _) _).alloc (by simp) _
  have hbox : W2.heap[w.heap.size]? = some (.cells #[.slice Af m.feet.length cf, .slice Ae m.ends.length ce, .slice Ab m.brks.length cb] 27 (0, 0)) := by
    rw [hW2]; exact (Below.heap_alloc _ _ _ (by simp)).trans (World.alloc_heap_new w _)
  have hres : W2.heap[w.heap.size + 1]? = some (.cells #[.slice none 0 0, .slice none 0 0, .slice none 0 0] 27 (0, 0)) := by
    rw [hW2]
    have := World.alloc_heap_new (w.alloc (.cells #[.slice Af m.feet.length cf, .slice Ae m.ends.length ce, .slice Ab m.brks.length cb] 27)) (.cells #[.slice none 0 0, .slice none 0 0, .slice none 0 0] 27)
    rw [World.size_alloc] at this
    exact this
  have H := Lib.hid (h.on hB2)
  have HW2 := Lib.hid hW2
  have HB2 := Lib.hid hB2
  have Hbox := Lib.hid hbox
  have Hres := Lib.hid hres
  have m0 : W2.cell? ⟨w.heap.size, 0, none⟩ = some (.slice Af m.feet.length cf) := cell_of_row _ _ 0 _ 27 (0, 0) hbox
  have m1 : W2.cell? ⟨w.heap.size, 1, none⟩ = some (.slice Ae m.ends.length ce) := cell_of_row _ _ 1 _ 27 (0, 0) hbox
  have m2 : W2.cell? ⟨w.heap.size, 2, none⟩ = some (.slice Ab m.brks.length cb) := cell_of_row _ _ 2 _ 27 (0, 0) hbox
  have hlt : w.heap.size < W2.heap.size := by omega
  have e1 : IntKind.i64.wrap ((m.feet.length : Int) + 3) = (m.feet.length : Int) + 3 := IntWalk.i64_in _ (by omega)
  have e2 : IntKind.i64.wrap ((m.ends.length : Int) + 3) = (m.ends.length : Int) + 3 := IntWalk.i64_in _ (by omega)
  have e3 : IntKind.i64.wrap ((m.brks.length : Int) + 3) = (m.brks.length : Int) + 3 := IntWalk.i64_in _ (by omega)
  clear h hr hW2 hB2 hbox hres
  go_enter Tryd.func22, Tryd.ntmps22
  go_wp2_with fail
  rw [← HW2.out]
  refine wp_region_X (S := fun w' => Below W2.heap.size W2 w' ∧ ∀ b o, b < W2.heap.size → w'.cell? ⟨b, o, none⟩ = W2.cell? ⟨b, o, none⟩) (X := fun x => [].contains x) (by kernel_rfl) ?_
  have hHeld : Below W2.heap.size W2 W2.drew ∧ ∀ b o, b < W2.heap.size → W2.drew.cell? ⟨b, o, none⟩ = W2.cell? ⟨b, o, none⟩ := startS

  refine wpAnyX_take (i := 0) (v := ?_) rfl (by kernel_rfl) (by kernel_rfl) (by kernel_rfl) (by kernel_rfl) (fun _ _ _ h => h) (Or.inl ⟨by rfl, ?_⟩) (by assumption) ?_
  rotate_left
  · intro w hSw
    obtain ⟨hS1, hS2⟩ := hSw
    go_simp
    try with_reducible rfl
  simp only [Act.put, List.getElem_toArray, List.getElem_cons_zero, List.getElem_cons_succ, List.setIfInBounds_toArray, List.set_cons_zero, List.set_cons_succ]
  refine wpAnyX_take (i := 1) (v := ?_) rfl (by kernel_rfl) (by kernel_rfl) (by kernel_rfl) (by kernel_rfl) (fun _ _ _ h => h) (Or.inl ⟨by rfl, ?_⟩) (by assumption) ?_
  rotate_left
  · intro w hSw
    obtain ⟨hS1, hS2⟩ := hSw
    go_simp
    try with_reducible rfl
  simp only [Act.put, List.getElem_toArray, List.getElem_cons_zero, List.getElem_cons_succ, List.setIfInBounds_toArray, List.set_cons_zero, List.set_cons_succ]
  refine wpAnyX_take (i := 2) (v := ?_) rfl (by kernel_rfl) (by kernel_rfl) (by kernel_rfl) (by kernel_rfl) (fun _ _ _ h => h) (Or.inl ⟨by rfl, ?_⟩) (by assumption) ?_
  rotate_left
  · intro w hSw
    obtain ⟨hS1, hS2⟩ := hSw
    go_simp
    try with_reducible rfl
  simp only [Act.put, List.getElem_toArray, List.getElem_cons_zero, List.getElem_cons_succ, List.setIfInBounds_toArray, List.set_cons_zero, List.set_cons_succ]
  refine wpAnyX_take (i := 3) (v := ?_) rfl (by kernel_rfl) (by kernel_rfl) (by kernel_rfl) (by kernel_rfl) (fun _ _ _ h => h) (Or.inl ⟨by rfl, ?_⟩) (by assumption) ?_
  rotate_left
  · intro w hSw
    obtain ⟨hS1, hS2⟩ := hSw
    go_simp
    try with_reducible rfl
  simp only [Act.put, List.getElem_toArray, List.getElem_cons_zero, List.getElem_cons_succ, List.setIfInBounds_toArray, List.set_cons_zero, List.set_cons_succ]
  refine wpAnyX_take (i := 5) (v := ?_) rfl (by kernel_rfl) (by kernel_rfl) (by kernel_rfl) (by kernel_rfl) (fun _ _ _ h => h) (Or.inl ⟨by rfl, ?_⟩) (by assumption) ?_
  rotate_left
  · intro w hSw
    obtain ⟨hS1, hS2⟩ := hSw
    go_simp
    try with_reducible rfl
  simp only [Act.put, List.getElem_toArray, List.getElem_cons_zero, List.getElem_cons_succ, List.setIfInBounds_toArray, List.set_cons_zero, List.set_cons_succ]
  refine wpAnyX_take (i := 6) (v := ?_) rfl (by kernel_rfl) (by kernel_rfl) (by kernel_rfl) (by kernel_rfl) (fun _ _ _ h => h) (Or.inl ⟨by rfl, ?_⟩) (by assumption) ?_
  rotate_left
  · intro w hSw
    obtain ⟨hS1, hS2⟩ := hSw
    go_simp
    try with_reducible rfl
  simp only [Act.put, List.getElem_toArray, List.getElem_cons_zero, List.getElem_cons_succ, List.setIfInBounds_toArray, List.set_cons_zero, List.set_cons_succ]
  refine wpAnyX_take (i := 7) (v := ?_) rfl (by kernel_rfl) (by kernel_rfl) (by kernel_rfl) (by kernel_rfl) (fun _ _ _ h => h) (Or.inl ⟨by rfl, ?_⟩) (by assumption) ?_
  rotate_left
  · intro w hSw
    obtain ⟨hS1, hS2⟩ := hSw
    go_simp
    try with_reducible rfl
  simp only [Act.put, List.getElem_toArray, List.getElem_cons_zero, List.getElem_cons_succ, List.setIfInBounds_toArray, List.set_cons_zero, List.set_cons_succ]
  refine wpAnyX_take (i := 8) (v := ?_) rfl (by kernel_rfl) (by kernel_rfl) (by kernel_rfl) (by kernel_rfl) (fun _ _ _ h => h) (Or.inl ⟨by rfl, ?_⟩) (by assumption) ?_
  rotate_left
  · intro w hSw
    obtain ⟨hS1, hS2⟩ := hSw
    go_simp
    try with_reducible rfl
  simp only [Act.put, List.getElem_toArray, List.getElem_cons_zero, List.getElem_cons_succ, List.setIfInBounds_toArray, List.set_cons_zero, List.set_cons_succ]
  refine wpAnyX_take (i := 10) (v := ?_) rfl (by kernel_rfl) (by kernel_rfl) (by kernel_rfl) (by kernel_rfl) (fun _ _ _ h => h) (Or.inl ⟨by rfl, ?_⟩) (by assumption) ?_
  rotate_left
  · intro w hSw
    obtain ⟨hS1, hS2⟩ := hSw
    go_simp
    try with_reducible rfl
  simp only [Act.put, List.getElem_toArray, List.getElem_cons_zero, List.getElem_cons_succ, List.setIfInBounds_toArray, List.set_cons_zero, List.set_cons_succ]
  refine wpAnyX_take (i := 11) (v := ?_) rfl (by kernel_rfl) (by kernel_rfl) (by kernel_rfl) (by kernel_rfl) (fun _ _ _ h => h) (Or.inl ⟨by rfl, ?_⟩) (by assumption) ?_
  rotate_left
  · intro w hSw
    obtain ⟨hS1, hS2⟩ := hSw
    go_simp
    try with_reducible rfl
  simp only [Act.put, List.getElem_toArray, List.getElem_cons_zero, List.getElem_cons_succ, List.setIfInBounds_toArray, List.set_cons_zero, List.set_cons_succ]
  refine wpAnyX_take (i := 13) (v := ?_) rfl (by kernel_rfl) (by kernel_rfl) (by kernel_rfl) (by kernel_rfl) (fun _ _ _ h => h) (Or.inl ⟨by rfl, ?_⟩) (by assumption) ?_
  rotate_left
  · intro w hSw
    obtain ⟨hS1, hS2⟩ := hSw
    go_simp
    try with_reducible rfl
  simp only [Act.put, List.getElem_toArray, List.getElem_cons_zero, List.getElem_cons_succ, List.setIfInBounds_toArray, List.set_cons_zero, List.set_cons_succ]
  refine wpAnyX_take (i := 14) (v := ?_) rfl (by kernel_rfl) (by kernel_rfl) (by kernel_rfl) (by kernel_rfl) (fun _ _ _ h => h) (Or.inl ⟨by rfl, ?_⟩) (by assumption) ?_
  rotate_left
  · intro w hSw
    obtain ⟨hS1, hS2⟩ := hSw
    go_simp
    try with_reducible rfl
  simp only [Act.put, List.getElem_toArray, List.getElem_cons_zero, List.getElem_cons_succ, List.setIfInBounds_toArray, List.set_cons_zero, List.set_cons_succ]
  refine wpAnyX_take (i := 15) (v := ?_) rfl (by kernel_rfl) (by kernel_rfl) (by kernel_rfl) (by kernel_rfl) (fun _ _ _ h => h) (Or.inl ⟨by rfl, ?_⟩) (by assumption) ?_
  rotate_left
  · intro w hSw
    obtain ⟨hS1, hS2⟩ := hSw
    go_simp
    try with_reducible rfl
  simp only [Act.put, List.getElem_toArray, List.getElem_cons_zero, List.getElem_cons_succ, List.setIfInBounds_toArray, List.set_cons_zero, List.set_cons_succ]
  refine wpAnyX_take (i := 16) (v := ?_) rfl (by kernel_rfl) (by kernel_rfl) (by kernel_rfl) (by kernel_rfl) (fun _ _ _ h => h) (Or.inl ⟨by rfl, ?_⟩) (by assumption) ?_
  rotate_left
  · intro w hSw
    obtain ⟨hS1, hS2⟩ := hSw
    go_simp
    try with_reducible rfl
  simp only [Act.put, List.getElem_toArray, List.getElem_cons_zero, List.getElem_cons_succ, List.setIfInBounds_toArray, List.set_cons_zero, List.set_cons_succ]
  refine wpAnyX_take (i := 18) (v := ?_) rfl (by kernel_rfl) (by kernel_rfl) (by kernel_rfl) (by kernel_rfl) (fun _ _ _ h => h) (Or.inl ⟨by rfl, ?_⟩) (by assumption) ?_
  rotate_left
  · intro w hSw
    obtain ⟨hS1, hS2⟩ := hSw
    go_simp
    try with_reducible rfl
  simp only [Act.put, List.getElem_toArray, List.getElem_cons_zero, List.getElem_cons_succ, List.setIfInBounds_toArray, List.set_cons_zero, List.set_cons_succ]
  refine wpAnyX_take (i := 19) (v := ?_) rfl (by kernel_rfl) (by kernel_rfl) (by kernel_rfl) (by kernel_rfl) (fun _ _ _ h => h) (Or.inl ⟨by rfl, ?_⟩) (by assumption) ?_
  rotate_left
  · intro w hSw
    obtain ⟨hS1, hS2⟩ := hSw
    go_simp
    try with_reducible rfl
  simp only [Act.put, List.getElem_toArray, List.getElem_cons_zero, List.getElem_cons_succ, List.setIfInBounds_toArray, List.set_cons_zero, List.set_cons_succ]
  refine wpAnyX_inv (fun listed a wx => ∃ (b4 b9 b12 b17 b20 b21 b22 b23 : Bool) (x3 x10 x15 x18 x23 x26 x27 : Value), listed = #[true, true, true, true, b4, true, true, true, true, b9, true, true, b12, true, true, true, true, b17, true, true, b20, b21, b22, b23] ∧ a = { tmps := #[Value.agg #[Value.slice Af m.feet.length cf, Value.slice Ae m.ends.length ce, Value.slice Ab m.brks.length cb], Value.pointer (some ⟨w.heap.size, 0, none⟩), Value.pointer (some ⟨w.heap.size + 1, 0, none⟩), x3, undef, undef, Value.pointer (some ⟨w.heap.size, 0, none⟩), Value.slice Af m.feet.length cf, Value.int IntKind.i64 m.feet.length, Value.int IntKind.i64 (m.feet.length + 3), x10, Value.pointer (some ⟨w.heap.size, 1, none⟩), Value.slice Ae m.ends.length ce, Value.int IntKind.i64 m.ends.length, Value.int IntKind.i64 (m.ends.length + 3), x15, Value.pointer (some ⟨w.heap.size, 1, none⟩), Value.slice Ae m.ends.length ce, x18, Value.pointer (some ⟨w.heap.size, 2, none⟩), Value.slice Ab m.brks.length cb, Value.int IntKind.i64 m.brks.length, Value.int IntKind.i64 (m.brks.length + 3), x23, Value.pointer (some ⟨w.heap.size, 2, none⟩), Value.slice Ab m.brks.length cb, x26, x27, undef, undef, undef, undef, undef, undef, undef, undef, undef, undef, undef, undef, undef, undef, undef, undef, undef, undef, undef, undef, undef, undef, undef, undef, undef], defers := [] } ∧ CpS m W2 b4 b9 b12 b17 b20 b21 b22 b23 x3 x10 x15 x18 x23 x26 x27 wx) ?hend ?hstep _ _ _ _ (by decide) ⟨false, false, false, false, false, false, false, false, undef, undef, undef, undef, undef, undef, undef, rfl, rfl, CpS.start _ _⟩
  case hstep =>
    intro listed a wx i hI hi
    obtain ⟨b4, b9, b12, b17, b20, b21, b22, b23, x3, x10, x15, x18, x23, x26, x27, rfl, rfl, hC⟩ := hI
    have hop := ready_open hi
    have hi24 : i < 24 := by
      have := (List.getElem?_eq_some_iff.1 hop).1
      simpa using this
    have hS : ∀ wy : World, Below W2.heap.size W2 wy → Below W2.heap.size W2 wy ∧ ∀ b o, b < W2.heap.size → wy.cell? ⟨b, o, none⟩ = W2.cell? ⟨b, o, none⟩ := fun wy hb => ⟨hb, fun b o ho => hb.cell (p := ⟨b, o, none⟩) ho⟩
    rcases below24 i hi24 with rfl | rfl | rfl | rfl | rfl | rfl | rfl | rfl | rfl | rfl | rfl | rfl | rfl | rfl | rfl | rfl | rfl | rfl | rfl | rfl | rfl | rfl | rfl | rfl
    case inl => cases hop
    all_goals first | (exfalso; revert hop; clear hi; simp; done) | skip
    · have hb : b4 = false := by simpa using hop
      subst hb
      refine wpOp_of rfl rfl (opMake W2.heap.size 23 81 _ _ 2 _ (m.feet.length + 3) rfl (by rfl) Tryd.underlying23 info81 zero81 size81 (by rw [bytes81]; omega) (by unfold maxLen; omega) hC.bl.size fun w1 ho hg => ?_)
      have hC' := hC.step23 hg ho
      exact ⟨.inr (hS _ hC'.bl), true, b9, b12, b17, b20, b21, b22, b23, x3, _, x15, x18, x23, x26, x27, rfl, rfl, hC'⟩
    · have hb : b9 = false := by simpa using hop
      subst hb
      refine wpOp_of rfl rfl (opMake W2.heap.size 24 100 _ _ 2 _ (m.ends.length + 3) rfl (by rfl) Tryd.underlying24 info100 zero100 size100 (by rw [bytes100]; omega) (by unfold maxLen; omega) hC.bl.size fun w1 ho hg => ?_)
      have hC' := hC.step24 hg ho
      exact ⟨.inr (hS _ hC'.bl), b4, true, b12, b17, b20, b21, b22, b23, x3, x10, _, x18, x23, x26, x27, rfl, rfl, hC'⟩
    · have hb : b12 = false := by simpa using hop
      have hb9 : b9 = true := ready_dep hi rfl 9 (by kernel_rfl)
      subst hb; subst hb9
      have hw := (H.out.ends.below hC.bl)
      refine wpOp_of rfl rfl (opAppend (.tmp 15) (.tmp 17) 24 rfl W2.heap.size 100 _ _ 2 24 Tryd.underlying24 info100 zero100 size100 bytes100 rfl (by decide) x15 0 [] rfl (hC.mk24 rfl rfl) Ae m.ends.length ce (wayCells m.ends) rfl (ways_none hw) (wayCells_len _) (ways_at hw) (wayCells_one _) (by unfold maxLen; omega) (by omega) hC.bl.size fun v1 w1 ho hg _ => ?_)
      simp only [Nat.zero_add, List.nil_append] at ho
      have hC' := hC.app24 hg ho
      exact ⟨.inr (hS _ hC'.bl), b4, true, true, b17, b20, b21, b22, b23, x3, x10, x15, _, x23, x26, x27, rfl, rfl, hC'⟩
    · have hb : b17 = false := by simpa using hop
      subst hb
      refine wpOp_of rfl rfl (opMake W2.heap.size 25 98 _ _ 2 _ (m.brks.length + 3) rfl (by rfl) Tryd.underlying25 info98 zero98 size98 (by rw [bytes98]; omega) (by unfold maxLen; omega) hC.bl.size fun w1 ho hg => ?_)
      have hC' := hC.step25 hg ho
      exact ⟨.inr (hS _ hC'.bl), b4, b9, b12, true, b20, b21, b22, b23, x3, x10, x15, x18, _, x26, x27, rfl, rfl, hC'⟩
    · have hb : b20 = false := by simpa using hop
      have hb17 : b17 = true := ready_dep hi rfl 17 (by kernel_rfl)
      have hb12 : b12 = true := ready_dep hi rfl 12 (by kernel_rfl)
      subst hb; subst hb17; subst hb12
      have hw := (H.out.brks.below hC.bl)
      refine wpOp_of rfl rfl (opAppend (.tmp 23) (.tmp 25) 25 rfl W2.heap.size 98 _ _ 2 16 Tryd.underlying25 info98 zero98 size98 bytes98 rfl (by decide) x23 0 [] rfl (hC.mk25 rfl rfl) Ab m.brks.length cb (brkCells m.brks) rfl (brks_none hw) (brkCells_len _) (brks_at hw) (brkCells_one _) (by unfold maxLen; omega) (by omega) hC.bl.size fun v1 w1 ho hg _ => ?_)
      simp only [Nat.zero_add, List.nil_append] at ho
      have hC' := hC.app25 hg ho
      exact ⟨.inr (hS _ hC'.bl), b4, b9, true, true, true, b21, b22, b23, x3, x10, x15, x18, x23, _, x27, rfl, rfl, hC'⟩
    · have hb : b21 = false := by simpa using hop
      have hb4 : b4 = true := ready_dep hi rfl 4 (by kernel_rfl)
      have hb12 : b12 = true := ready_dep hi rfl 12 (by kernel_rfl)
      have hb20 : b20 = true := ready_dep hi rfl 20 (by kernel_rfl)
      subst hb; subst hb4; subst hb12; subst hb20
      obtain ⟨A10, c10, e10⟩ := row_slice (hC.mk23 rfl)
      obtain ⟨A18, c18, e18⟩ := row_slice (hC.ap24 rfl)
      obtain ⟨A26, c26, e26⟩ := row_slice (hC.ap25 rfl)
      subst e10; subst e18; subst e26
      refine wpOp_of rfl rfl (opValue (v := .agg #[.slice A10 0 c10, .slice A18 m.ends.length c18, .slice A26 m.brks.length c26]) (w' := wx) (by go_simp; try rfl) ?_)
      have hC' := hC.build
      exact ⟨.inr (hS _ hC'.bl), true, b9, true, b17, true, true, b22, b23, x3, _, x15, _, x23, _, _, rfl, rfl, hC'⟩
    · have hb : b22 = false := by simpa using hop
      subst hb
      refine wpOp_of rfl rfl (opValue (v := .pointer (some ⟨wx.heap.size, 0, none⟩)) (w' := wx.alloc (.cells #[.slice none 0 0, .slice none 0 0, .slice none 0 0] 27)) (by go_simp; try rfl) ?_)
      have hC' := hC.alloc
      exact ⟨.inr (hS _ hC'.bl), b4, b9, b12, b17, b20, b21, true, b23, _, x10, x15, x18, x23, x26, x27, rfl, rfl, hC'⟩
    · have hb : b23 = false := by simpa using hop
      have hb4 : b4 = true := ready_dep hi rfl 4 (by kernel_rfl)
      have hb12 : b12 = true := ready_dep hi rfl 12 (by kernel_rfl)
      have hb20 : b20 = true := ready_dep hi rfl 20 (by kernel_rfl)
      have hb21 : b21 = true := ready_dep hi rfl 21 (by kernel_rfl)
      have hb22 : b22 = true := ready_dep hi rfl 22 (by kernel_rfl)
      subst hb; subst hb4; subst hb12; subst hb20; subst hb21; subst hb22
      obtain ⟨p, e3, hp, hq⟩ := hC.al rfl
      have e27 := hC.bd rfl
      have hC' := hC.store hp hq e3
      obtain ⟨A10, c10, e10⟩ := row_slice (hC.mk23 rfl)
      obtain ⟨A18, c18, e18⟩ := row_slice (hC.ap24 rfl)
      obtain ⟨A26, c26, e26⟩ := row_slice (hC.ap25 rfl)
      subst e10; subst e18; subst e26; subst e27; subst e3
      have c0 : wx.cell? ⟨p, 0, none⟩ = some (.slice none 0 0) := cell_of_row _ _ 0 _ 27 (0, 0) hq
      have c1 : wx.cell? ⟨p, 1, none⟩ = some (.slice none 0 0) := cell_of_row _ _ 1 _ 27 (0, 0) hq
      have c2 : wx.cell? ⟨p, 2, none⟩ = some (.slice none 0 0) := cell_of_row _ _ 2 _ 27 (0, 0) hq
      have f0 : wx.frozen? ⟨p, 0, none⟩ = false := frozen_of_row _ _ 0 _ 27 hq
      have f1 : wx.frozen? ⟨p, 1, none⟩ = false := frozen_of_row _ _ 1 _ 27 hq
      have f2 : wx.frozen? ⟨p, 2, none⟩ = false := frozen_of_row _ _ 2 _ 27 hq
      refine wpOp_of rfl rfl (opSkip (w' := ((wx.setCell ⟨p, 0, none⟩ (.slice A10 0 c10)).setCell ⟨p, 1, none⟩ (.slice A18 m.ends.length c18)).setCell ⟨p, 2, none⟩ (.slice A26 m.brks.length c26)) (by go_simp; try rfl) ?_)
      exact ⟨.inr (hS _ hC'.bl), true, b9, true, b17, true, true, true, true, _, _, x15, _, x23, _, _, rfl, rfl, hC'⟩
  case hend =>
    intro listed a wx hI hre
    obtain ⟨b4, b9, b12, b17, b20, b21, b22, b23, x3, x10, x15, x18, x23, x26, x27, rfl, rfl, hC⟩ := hI
    have h4 : b4 = true := not_ready (i := 4) hre rfl (by kernel_rfl)
    subst h4
    have h9 : b9 = true := not_ready (i := 9) hre rfl (by kernel_rfl)
    subst h9
    have h12 : b12 = true := not_ready (i := 12) hre rfl (by kernel_rfl)
    subst h12
    have h17 : b17 = true := not_ready (i := 17) hre rfl (by kernel_rfl)
    subst h17
    have h20 : b20 = true := not_ready (i := 20) hre rfl (by kernel_rfl)
    subst h20
    have h21 : b21 = true := not_ready (i := 21) hre rfl (by kernel_rfl)
    subst h21
    have h22 : b22 = true := not_ready (i := 22) hre rfl (by kernel_rfl)
    subst h22
    have h23 : b23 = true := not_ready (i := 23) hre rfl (by kernel_rfl)
    subst h23
    clear hre hHeld
    obtain ⟨p, e3, hp, hq⟩ := hC.al rfl
    obtain ⟨A10, c10, e10⟩ := row_slice (hC.mk23 rfl)
    obtain ⟨A18, c18, e18⟩ := row_slice (hC.ap24 rfl)
    obtain ⟨A26, c26, e26⟩ := row_slice (hC.ap25 rfl)
    subst e10; subst e18; subst e26; subst e3
    have hom : OM wx W2.heap.size ⟨m.feet.take 0, m.ends, m.brks⟩ (.slice A10 0 c10) (.slice A18 m.ends.length c18) (.slice A26 m.brks.length c26) [] :=
      ⟨rfl, hC.mk23 rfl, fun k hk => absurd hk (Nat.not_lt_zero _), hC.ap24 rfl, hC.ap25 rfl, fun i j k hi hj hij => by simp at hi hj; omega⟩
    have Hom := Lib.hid hom
    have Hq : Hid (wx.heap[p]? = some (.cells #[.slice A10 0 c10, .slice A18 m.ends.length c18, .slice A26 m.brks.length c26] 27 (0, 0))) := Lib.hid hq
    have Hbl := Lib.hid hC.bl
    have m0' := (hC.bl.cell (p := ⟨w.heap.size, 0, none⟩) hlt).trans m0
    have hpw : p < wx.heap.size := lt_of_heap hq
    clear hom hq hC m0 m1 m2 e1 e2 e3
    go_wp2_with fail
    go_loopw [31] (fun i wr => ∃ (k : Nat) (A : Option Addr) (c : Nat) (vs : List Value), k ≤ m.feet.length ∧ i = .int .i64 k ∧ Hid (OM wr W2.heap.size ⟨m.feet.take k, m.ends, m.brks⟩ (.slice A k c) (.slice A18 m.ends.length c18) (.slice A26 m.brks.length c26) vs) ∧ Hid (wr.heap[p]? = some (.cells #[.slice A k c, .slice A18 m.ends.length c18, .slice A26 m.brks.length c26] 27 (0, 0))) ∧ Hid (Below W2.heap.size W2 wr)) (fun i _ => m.feet.length - (intOf i).toNat)
    case atStart => exact ⟨0, A10, c10, [], by omega, rfl, Hom, Hq, Hbl⟩
    case round =>
      rename_i wr
      obtain ⟨k, A, c, vs, hk, rfl, hom, hq, hbl2⟩ := hrel
      clear m0'
      by_cases hkt : k < m.feet.length
      · obtain ⟨b, off, rfl, hbb, hrow⟩ := (H.out.below hbl2.out).feet (by omega)
        obtain ⟨hc1, A2, c2, hc2, hcc, hIW⟩ := hrow k hkt
        have hmem : m.feet.getD k default ∈ m.feet := by
          rw [List.getD_eq_getElem?_getD, List.getElem?_eq_getElem hkt]; exact List.getElem_mem hkt
        have hwr := HRw.out.ways _ hmem
        have Hst := Lib.hid (getD_snoc_ft m.feet k hkt)
        have hbs := hbl2.out.size
        have hpr : p < wr.heap.size := lt_of_heap hq.out
        have hlk : (m.feet.take k).length = k := by simp; omega
        have Hlk := Lib.hid hlk
        clear hrow hmem hlk
        generalize m.feet.getD k default = f at *
        obtain ⟨own, ways⟩ := f
        simp only [] at hc1 hc2 hcc hIW hwr
        generalize hW3 : wr.alloc (.cells #[.string own, .slice A2 ways.length c2] 81) = W3
        have sW3 : W3.heap.size = wr.heap.size + 1 := by rw [← hW3]; simp
        have hB3 : Below wr.heap.size wr W3 := by rw [← hW3]; exact (Below.refl _ _).alloc (Nat.le_refl _) _
        have hf3 : W3.heap[wr.heap.size]? = some (.cells #[.string own, .slice A2 ways.length c2] 81 (0, 0)) := by rw [← hW3]; exact World.alloc_heap_new wr _
        have HW3 := Lib.hid hW3
        have HB3 := Lib.hid hB3
        have Hf3 := Lib.hid hf3
        have HIW := Lib.hid hIW
        have e4 : IntKind.i64.wrap ((ways.length : Int) + 3) = (ways.length : Int) + 3 := IntWalk.i64_in _ (by omega)
        clear hW3 hB3 hf3 hIW
        go_wp2_with fail
        rw [HW3.out]
        refine wp_region_X (S := fun w' => w'.cell? ⟨p, 0, none⟩ = some (.slice A k c) ∧ w'.cell? ⟨wr.heap.size, 0, none⟩ = some (.string own) ∧ w'.cell? ⟨wr.heap.size, 1, none⟩ = some (.slice A2 ways.length c2)) (X := fun x => [16].contains x) (by kernel_rfl) ?_
        have hb4 : Below wr.heap.size wr W3.drew := HB3.out.drew
        have hK : ∀ wy : World, Below wr.heap.size wr wy → wy.heap[wr.heap.size]? = some (.cells #[.string own, .slice A2 ways.length c2] 81 (0, 0)) → wy.cell? ⟨p, 0, none⟩ = some (.slice A k c) ∧ wy.cell? ⟨wr.heap.size, 0, none⟩ = some (.string own) ∧ wy.cell? ⟨wr.heap.size, 1, none⟩ = some (.slice A2 ways.length c2) := fun wy hb hf =>
          ⟨(hb.cell (p := ⟨p, 0, none⟩) hpr).trans (cell_of_row _ _ 0 _ 27 (0, 0) hq.out), cell_of_row _ _ 0 _ 81 (0, 0) hf, cell_of_row _ _ 1 _ 81 (0, 0) hf⟩
        have hHeld := hK W3.drew hb4 Hf3.out
        refine wpAnyX_take (i := 0) (v := ?_) rfl (by kernel_rfl) (by kernel_rfl) (by kernel_rfl) (by kernel_rfl) (fun _ _ _ h => h) (Or.inl ⟨by rfl, ?_⟩) (by assumption) ?_
        rotate_left
        · intro w hSw
          obtain ⟨hS1, hS2, hS3⟩ := hSw
          go_simp
          try with_reducible rfl
        simp only [Act.put, List.getElem_toArray, List.getElem_cons_zero, List.getElem_cons_succ, List.setIfInBounds_toArray, List.set_cons_zero, List.set_cons_succ]
        refine wpAnyX_take (i := 1) (v := ?_) rfl (by kernel_rfl) (by kernel_rfl) (by kernel_rfl) (by kernel_rfl) (fun _ _ _ h => h) (Or.inl ⟨by rfl, ?_⟩) (by assumption) ?_
        rotate_left
        · intro w hSw
          obtain ⟨hS1, hS2, hS3⟩ := hSw
          go_simp
          try with_reducible rfl
        simp only [Act.put, List.getElem_toArray, List.getElem_cons_zero, List.getElem_cons_succ, List.setIfInBounds_toArray, List.set_cons_zero, List.set_cons_succ]
        refine wpAnyX_take (i := 2) (v := ?_) rfl (by kernel_rfl) (by kernel_rfl) (by kernel_rfl) (by kernel_rfl) (fun _ _ _ h => h) (Or.inl ⟨by rfl, ?_⟩) (by assumption) ?_
        rotate_left
        · intro w hSw
          obtain ⟨hS1, hS2, hS3⟩ := hSw
          go_simp
          try with_reducible rfl
        simp only [Act.put, List.getElem_toArray, List.getElem_cons_zero, List.getElem_cons_succ, List.setIfInBounds_toArray, List.set_cons_zero, List.set_cons_succ]
        refine wpAnyX_take (i := 3) (v := ?_) rfl (by kernel_rfl) (by kernel_rfl) (by kernel_rfl) (by kernel_rfl) (fun _ _ _ h => h) (Or.inl ⟨by rfl, ?_⟩) (by assumption) ?_
        rotate_left
        · intro w hSw
          obtain ⟨hS1, hS2, hS3⟩ := hSw
          go_simp
          try with_reducible rfl
        simp only [Act.put, List.getElem_toArray, List.getElem_cons_zero, List.getElem_cons_succ, List.setIfInBounds_toArray, List.set_cons_zero, List.set_cons_succ]
        refine wpAnyX_take (i := 4) (v := ?_) rfl (by kernel_rfl) (by kernel_rfl) (by kernel_rfl) (by kernel_rfl) (fun _ _ _ h => h) (Or.inl ⟨by rfl, ?_⟩) (by assumption) ?_
        rotate_left
        · intro w hSw
          obtain ⟨hS1, hS2, hS3⟩ := hSw
          go_simp
          try with_reducible rfl
        simp only [Act.put, List.getElem_toArray, List.getElem_cons_zero, List.getElem_cons_succ, List.setIfInBounds_toArray, List.set_cons_zero, List.set_cons_succ]
        refine wpAnyX_take (i := 5) (v := ?_) rfl (by kernel_rfl) (by kernel_rfl) (by kernel_rfl) (by kernel_rfl) (fun _ _ _ h => h) (Or.inl ⟨by rfl, ?_⟩) (by assumption) ?_
        rotate_left
        · intro w hSw
          obtain ⟨hS1, hS2, hS3⟩ := hSw
          go_simp
          try with_reducible rfl
        simp only [Act.put, List.getElem_toArray, List.getElem_cons_zero, List.getElem_cons_succ, List.setIfInBounds_toArray, List.set_cons_zero, List.set_cons_succ]
        refine wpAnyX_take (i := 6) (v := ?_) rfl (by kernel_rfl) (by kernel_rfl) (by kernel_rfl) (by kernel_rfl) (fun _ _ _ h => h) (Or.inl ⟨by rfl, ?_⟩) (by assumption) ?_
        rotate_left
        · intro w hSw
          obtain ⟨hS1, hS2, hS3⟩ := hSw
          go_simp
          try with_reducible rfl
        simp only [Act.put, List.getElem_toArray, List.getElem_cons_zero, List.getElem_cons_succ, List.setIfInBounds_toArray, List.set_cons_zero, List.set_cons_succ]
        refine wpAnyX_take (i := 7) (v := ?_) rfl (by kernel_rfl) (by kernel_rfl) (by kernel_rfl) (by kernel_rfl) (fun _ _ _ h => h) (Or.inl ⟨by rfl, ?_⟩) (by assumption) ?_
        rotate_left
        · intro w hSw
          obtain ⟨hS1, hS2, hS3⟩ := hSw
          go_simp
          try with_reducible rfl
        simp only [Act.put, List.getElem_toArray, List.getElem_cons_zero, List.getElem_cons_succ, List.setIfInBounds_toArray, List.set_cons_zero, List.set_cons_succ]
        refine wpAnyX_take (i := 9) (v := ?_) rfl (by kernel_rfl) (by kernel_rfl) (by kernel_rfl) (by kernel_rfl) (fun _ _ _ h => h) (Or.inl ⟨by rfl, ?_⟩) (by assumption) ?_
        rotate_left
        · intro w hSw
          obtain ⟨hS1, hS2, hS3⟩ := hSw
          go_simp
          try with_reducible rfl
        simp only [Act.put, List.getElem_toArray, List.getElem_cons_zero, List.getElem_cons_succ, List.setIfInBounds_toArray, List.set_cons_zero, List.set_cons_succ]
        refine wpAnyX_take (i := 10) (v := ?_) rfl (by kernel_rfl) (by kernel_rfl) (by kernel_rfl) (by kernel_rfl) (fun _ _ _ h => h) (Or.inl ⟨by rfl, ?_⟩) (by assumption) ?_
        rotate_left
        · intro w hSw
          obtain ⟨hS1, hS2, hS3⟩ := hSw
          go_simp
          try with_reducible rfl
        simp only [Act.put, List.getElem_toArray, List.getElem_cons_zero, List.getElem_cons_succ, List.setIfInBounds_toArray, List.set_cons_zero, List.set_cons_succ]
        refine wpAnyX_one (i := 8) (by kernel_rfl) (wpOp_of rfl rfl (opMake wr.heap.size 24 100 _ _ 2 _ (ways.length + 3) rfl (by rfl) Tryd.underlying24 info100 zero100 size100 (by rw [bytes100]; omega) (by unfold maxLen; omega) hb4.size fun w6 ho6 hg6 => ?_))
        have hb6 := hb4.grown hg6 hb4.size (by simp)
        have hf6 := (hg6.block wr.heap.size (lt_of_heap (w := W3.drew) Hf3.out) (by simp)).trans Hf3.out
        refine ⟨.inr (hK w6 hb6 hf6), ?_⟩
        simp only [Act.put, List.getElem_toArray, List.getElem_cons_zero, List.getElem_cons_succ, List.setIfInBounds_toArray, List.set_cons_zero, List.set_cons_succ]
        have hw6 := HIW.out.below (hb6.mono hbs)
        refine wpAnyX_one (i := 11) (by kernel_rfl) (wpOp_of rfl rfl (opAppend (.tmp 43) (.tmp 45) 24 rfl wr.heap.size 100 _ _ 2 24 Tryd.underlying24 info100 zero100 size100 bytes100 rfl (by decide) _ 0 [] rfl ho6 A2 ways.length c2 (wayCells ways) rfl (ways_none hw6) (wayCells_len _) (ways_at hw6) (wayCells_one _) (by unfold maxLen; omega) (by omega) hb6.size fun v7 w7 ho7 hg7 _ => ?_))
        simp only [Nat.zero_add, List.nil_append] at ho7
        have hb7 := hb6.grown hg7 hb6.size (fun q e => (ho6.lt q e).1)
        have hf7 := (hg7.block wr.heap.size (lt_of_heap hf6) (block_ne ho6 hf6 (by decide))).trans hf6
        obtain ⟨A7, c7, e7⟩ := row_slice ho7
        subst e7
        have hHeld7 := hK w7 hb7 hf7
        refine ⟨.inr hHeld7, ?_⟩
        simp only [Act.put, List.getElem_toArray, List.getElem_cons_zero, List.getElem_cons_succ, List.setIfInBounds_toArray, List.set_cons_zero, List.set_cons_succ]
        refine wpAnyX_take (i := 12) (v := ?_) rfl (by kernel_rfl) (by kernel_rfl) (by kernel_rfl) (by kernel_rfl) (fun _ _ _ h => h) (Or.inl ⟨by rfl, ?_⟩) (by assumption) ?_
        rotate_left
        · intro w hSw
          obtain ⟨hS1, hS2, hS3⟩ := hSw
          go_simp
          try with_reducible rfl
        simp only [Act.put, List.getElem_toArray, List.getElem_cons_zero, List.getElem_cons_succ, List.setIfInBounds_toArray, List.set_cons_zero, List.set_cons_succ]
        refine wpAnyX_one (i := 13) (by kernel_rfl) (wpOp_of rfl rfl (opValue (v := .slice (some ⟨w7.heap.size, 0, none⟩) 1 1) (w' := w7.alloc (.cells #[.string own, .slice A7 ways.length c7] 81)) (by go_simp; try rfl) ?_))
        have hb8 : Below wr.heap.size wr (w7.alloc (.cells #[.string own, .slice A7 ways.length c7] 81)) := hb7.alloc hb7.size _
        have hf8 : (w7.alloc (.cells #[.string own, .slice A7 ways.length c7] 81)).heap[wr.heap.size]? = some (.cells #[.string own, .slice A2 ways.length c2] 81 (0, 0)) := (Below.heap_alloc _ _ _ (lt_of_heap hf7)).trans hf7
        refine ⟨.inr (hK _ hb8 hf8), ?_⟩
        simp only [Act.put, List.getElem_toArray, List.getElem_cons_zero, List.getElem_cons_succ, List.setIfInBounds_toArray, List.set_cons_zero, List.set_cons_succ]
        have hom8 := hom.out.below hb8
        have hrow8 := hom8.feet
        simp only [Hlk.out] at hrow8
        refine wpAnyX_one (i := 14) (by kernel_rfl) (wpOp_of rfl rfl (opAppend (.tmp 36) (.tmp 48) 23 rfl W2.heap.size 81 _ _ 2 40 Tryd.underlying23 info81 zero81 size81 bytes81 rfl (by decide) (.slice A k c) k (ftCells (m.feet.take k) vs) rfl hrow8 (some ⟨w7.heap.size, 0, none⟩) 1 1 [.string own, .slice A7 ways.length c7] rfl (fun h => by cases h) rfl (fun ad had j u hu => ?_) (by intro u hu; simp at hu; rcases hu with rfl | rfl <;> rfl) (by unfold maxLen; omega) (by omega) (Nat.le_trans hbs hb8.size) fun v9 w9 ho9 hg9 _ => ?_))
        · cases had
          rw [addr_add, Nat.zero_add, cell_of_row _ _ j _ 81 (0, 0) (World.alloc_heap_new w7 _)]
          simpa using hu
        have hx8 := own_base (ho7.alloc (.cells #[.string own, .slice A7 ways.length c7] 81)) hbs
        have hN : ∀ j b, j < ((.slice A18 m.ends.length c18 : Value) :: vs).length → (((.slice A18 m.ends.length c18 : Value) :: vs).getD j nilV).ownBlock = some b → b < wr.heap.size := hom.out.blocks
        have hom9 : OM w9 W2.heap.size ⟨m.feet.take (k + 1), m.ends, m.brks⟩ v9 (.slice A18 m.ends.length c18) (.slice A26 m.brks.length c26) (vs ++ [.slice A7 ways.length c7]) := by
          rw [Hst.out]
          exact hom8.addFoot (f := ⟨own, ways⟩) hN hx8 (fun b e => (ho7.lt b e).1) (by rw [Hlk.out]; exact ho9) hg9
        have hb9 : Below W2.heap.size W2 w9 := (hbl2.out.trans (hb8.mono hbs)).grown hg9 (Nat.le_trans hbs hb8.size) (fun q e => (hrow8.lt q e).1)
        have hp8 : (w7.alloc (.cells #[.string own, .slice A7 ways.length c7] 81)).heap[p]? = some (.cells #[.slice A k c, .slice A18 m.ends.length c18, .slice A26 m.brks.length c26] 27 (0, 0)) := (hb8.block p hpr).trans hq.out
        have hp9 := (hg9.block p (lt_of_heap hp8) (block_ne hrow8 hp8 (by decide))).trans hp8
        have hf9 := (hg9.block wr.heap.size (lt_of_heap hf8) (fun e => by have := (hom.out.feet.lt wr.heap.size e.symm).2; omega)).trans hf8
        obtain ⟨A9, c9, e9⟩ := row_slice ho9
        subst e9
        have c90 : w9.cell? ⟨p, 0, none⟩ = some (.slice A k c) := cell_of_row _ _ 0 _ 27 (0, 0) hp9
        have c91 : w9.cell? ⟨wr.heap.size, 0, none⟩ = some (.string own) := cell_of_row _ _ 0 _ 81 (0, 0) hf9
        have c92 : w9.cell? ⟨wr.heap.size, 1, none⟩ = some (.slice A2 ways.length c2) := cell_of_row _ _ 1 _ 81 (0, 0) hf9
        have f90 : w9.frozen? ⟨p, 0, none⟩ = false := frozen_of_row _ _ 0 _ 27 hp9
        have hHeld9 : w9.cell? ⟨p, 0, none⟩ = some (.slice A k c) ∧ w9.cell? ⟨wr.heap.size, 0, none⟩ = some (.string own) ∧ w9.cell? ⟨wr.heap.size, 1, none⟩ = some (.slice A2 ways.length c2) := ⟨c90, c91, c92⟩
        refine ⟨.inr hHeld9, ?_⟩
        simp only [Act.put, List.getElem_toArray, List.getElem_cons_zero, List.getElem_cons_succ, List.setIfInBounds_toArray, List.set_cons_zero, List.set_cons_succ]
        refine wpAnyX_take (i := 15) (v := ?_) rfl (by kernel_rfl) (by kernel_rfl) (by kernel_rfl) (by kernel_rfl) (fun _ _ _ h => h) (Or.inl ⟨by rfl, ?_⟩) (by assumption) ?_
        rotate_left
        · intro w hSw
          obtain ⟨hS1, hS2, hS3⟩ := hSw
          go_simp
          try with_reducible rfl
        simp only [Act.put, List.getElem_toArray, List.getElem_cons_zero, List.getElem_cons_succ, List.setIfInBounds_toArray, List.set_cons_zero, List.set_cons_succ]
        refine wpAnyX_one (i := 16) (by kernel_rfl) (wpOp_of rfl rfl (opSkip (w' := w9.setCell ⟨p, 0, none⟩ (.slice A9 (k + 1) c9)) (by go_simp; try rfl) ?_))
        refine ⟨.inl rfl, ?_⟩
        simp only [Act.put, List.getElem_toArray, List.getElem_cons_zero, List.getElem_cons_succ, List.setIfInBounds_toArray, List.set_cons_zero, List.set_cons_succ]
        refine wpAnyX_done (by kernel_rfl) ?_ _
        have Hom9 := Lib.hid (hom9.putBox hp9 0 (.slice A9 (k + 1) c9))
        have Hp9 : Hid ((w9.setCell ⟨p, 0, none⟩ (.slice A9 (k + 1) c9)).heap[p]? = some (.cells #[.slice A9 (k + 1) c9, .slice A18 m.ends.length c18, .slice A26 m.brks.length c26] 27 (0, 0))) := Lib.hid (heap_setCell_same _ _ 0 _ 27 _ hp9)
        have Hb9 := Lib.hid (hb9.setCell (p := ⟨p, 0, none⟩) hp (.slice A9 (k + 1) c9))
        clear hom9 hp9 hb9 hp8 hf9 hf8 hb8 hom8 hrow8 hx8 hN hf7 hb7 hHeld7 ho7 hg7 ho6 hg6 hf6 hb6 hb4 hK hHeld hHeld9 c90 c91 c92 f90 ho9 hg9 hw6
        go_wp2_with fail
        go_roundw
        case rel => exact ⟨k + 1, A9, c9, _, by omega, by go_num, Hom9, Hp9, Hb9⟩
        case measure => simp [intOf]; omega
      · obtain rfl : k = m.feet.length := by omega
        have hom' := hom.out
        rw [List.take_length] at hom'
        have Hom' := Lib.hid hom'
        have q0 : wr.cell? ⟨p, 0, none⟩ = some (.slice A m.feet.length c) := cell_of_row _ _ 0 _ 27 (0, 0) hq.out
        have q1 : wr.cell? ⟨p, 1, none⟩ = some (.slice A18 m.ends.length c18) := cell_of_row _ _ 1 _ 27 (0, 0) hq.out
        have q2 : wr.cell? ⟨p, 2, none⟩ = some (.slice A26 m.brks.length c26) := cell_of_row _ _ 2 _ 27 (0, 0) hq.out
        have hr0 := (hbl2.out.block (w.heap.size + 1) (by omega)).trans Hres.out
        have z0 : wr.cell? ⟨w.heap.size + 1, 0, none⟩ = some (.slice none 0 0) := cell_of_row _ _ 0 _ 27 (0, 0) hr0
        have z1 : wr.cell? ⟨w.heap.size + 1, 1, none⟩ = some (.slice none 0 0) := cell_of_row _ _ 1 _ 27 (0, 0) hr0
        have z2 : wr.cell? ⟨w.heap.size + 1, 2, none⟩ = some (.slice none 0 0) := cell_of_row _ _ 2 _ 27 (0, 0) hr0
        have f0 : wr.frozen? ⟨w.heap.size + 1, 0, none⟩ = false := frozen_of_row _ _ 0 _ 27 hr0
        have f1 : wr.frozen? ⟨w.heap.size + 1, 1, none⟩ = false := frozen_of_row _ _ 1 _ 27 hr0
        have f2 : wr.frozen? ⟨w.heap.size + 1, 2, none⟩ = false := frozen_of_row _ _ 2 _ 27 hr0
        have Hr0 := Lib.hid hr0
        clear hom' hom hr0
        go_wp2_with fail
        have q1 := heap_setCell_same wr (w.heap.size + 1) 0 _ 27 (.slice A m.feet.length c) Hr0.out
        have q2 := heap_setCell_same _ (w.heap.size + 1) 1 _ 27 (.slice A18 m.ends.length c18) q1
        have q3 := heap_setCell_same _ (w.heap.size + 1) 2 _ 27 (.slice A26 m.brks.length c26) q2
        have y0 := cell_of_row _ _ 0 _ 27 (0, 0) q3
        have y1 := cell_of_row _ _ 1 _ 27 (0, 0) q3
        have y2 := cell_of_row _ _ 2 _ 27 (0, 0) q3
        have x0 := cell_of_row _ _ 0 _ 27 (0, 0) q1
        have x1 := cell_of_row _ _ 1 _ 27 (0, 0) q2
        simp at y0 y1 y2 x0 x1
        have hlast : OM (((wr.setCell ⟨w.heap.size + 1, 0, none⟩ (.slice A m.feet.length c)).setCell ⟨w.heap.size + 1, 1, none⟩ (.slice A18 m.ends.length c18)).setCell ⟨w.heap.size + 1, 2, none⟩ (.slice A26 m.brks.length c26)) W2.heap.size m (.slice A m.feet.length c) (.slice A18 m.ends.length c18) (.slice A26 m.brks.length c26) vs :=
          ((Hom'.out.put (by omega) 0 _).put (by omega) 1 _).put (by omega) 2 _
        have hbe : Below w.heap.size w (((wr.setCell ⟨w.heap.size + 1, 0, none⟩ (.slice A m.feet.length c)).setCell ⟨w.heap.size + 1, 1, none⟩ (.slice A18 m.ends.length c18)).setCell ⟨w.heap.size + 1, 2, none⟩ (.slice A26 m.brks.length c26)) :=
          (((HB2.out.trans (hbl2.out.mono (by omega))).setCell (p := ⟨w.heap.size + 1, 0, none⟩) (by show w.heap.size ≤ w.heap.size + 1; omega) _).setCell (p := ⟨w.heap.size + 1, 1, none⟩) (by show w.heap.size ≤ w.heap.size + 1; omega) _).setCell (p := ⟨w.heap.size + 1, 2, none⟩) (by show w.heap.size ≤ w.heap.size + 1; omega) _
        exact bodyPost_ret (v := .agg #[.slice A m.feet.length c, .slice A18 m.ends.length c18, .slice A26 m.brks.length c26]) (by simp [results, Tryd.results22, go_sem, y0, y1, y2, x0, x1]) rfl ⟨_, _, _, vs, rfl, hlast.base_le (by omega), hbe⟩
end Go.Proofs.YtkfkkoefpfmjkaaDoor


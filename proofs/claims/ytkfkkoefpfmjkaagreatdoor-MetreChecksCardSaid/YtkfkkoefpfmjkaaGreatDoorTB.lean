import Derived.Test.YtkfkkoefpfmjkaaGreatDoorTA
import Derived.Test.YtkfkkoefpfmjkaaGreatDoorGI
import Derived.Test.YtkfkkoefpfmjkaaGreatDoorOA
import Derived.IntWalk
namespace Go.Proofs.YtkfkkoefpfmjkaaGreatDoor
set_option linter.unusedVariables false
set_option linter.unusedSimpArgs false
open Go.RowKit

/- The reference's Copy. -/
def CopyOk (m : Met) (w : World) (e : Ending) (w' : World) : Prop := ∃ vf ve vb vs, e = .returned (.agg #[vf, ve, vb]) ∧ OM w' w.heap.size m vf ve vb vs ∧ Below w.heap.size w w'
theorem brkCells_len (l : List (Int × Int)) : (brkCells l).length = l.length * 2 := by
  induction l with
  | nil => rfl
  | cons x l ih => simp [brkCells] at ih ⊢; omega
theorem brkCells_one (l : List (Int × Int)) : ∀ u ∈ brkCells l, u.oneCell' = true := by
  intro u hu
  simp only [brkCells, List.mem_flatMap] at hu
  obtain ⟨v, _, hu⟩ := hu
  simp at hu
  rcases hu with rfl | rfl <;> rfl
theorem brks_cells {w : World} {b off : Nat} {l : List (Int × Int)} (h : ∀ k, k < l.length → w.cell? ⟨b, off + k * 2, none⟩ = some (.int .i64 (l.getD k default).1) ∧ w.cell? ⟨b, off + k * 2 + 1, none⟩ = some (.int .i64 (l.getD k default).2)) :
    ∀ j u, (brkCells l)[j]? = some u → w.cell? ((⟨b, off, none⟩ : Addr).add j) = some u := by
  intro j u hu
  rw [addr_add]
  have hj : j < (brkCells l).length := (List.getElem?_eq_some_iff.1 hu).1
  rw [brkCells_len] at hj
  have hk : j / 2 < l.length := by omega
  have hg := brkCells_get l (j / 2) hk
  have hc := h (j / 2) hk
  rcases Nat.mod_two_eq_zero_or_one j with e | e
  · have ej : j / 2 * 2 = j := by omega
    rw [ej] at hg hc
    rw [hg.1] at hu
    rw [hc.1]; exact hu
  · have ej : j / 2 * 2 + 1 = j := by omega
    have ej2 : off + j / 2 * 2 + 1 = off + j := by omega
    rw [ej] at hg
    rw [ej2] at hc
    rw [hg.2] at hu
    rw [hc.2]; exact hu
section
variable {P : Program} {ops : Array Oper} {Q : Exit → Act → World → Prop}
theorem opValue {o : Oper} {a : Act} {w w' : World} {v : Value} {K : Act → World → Prop} (h : (execOp a.eval o).run P w = .ok (.value v) w') (hk : K (a.put o.dst v) w') : o.wp P a w K Q := by
  unfold Oper.wp
  rw [h]
  exact hk
theorem opSkip {o : Oper} {a : Act} {w w' : World} {K : Act → World → Prop} (h : (execOp a.eval o).run P w = .ok .skip w') (hk : K (a.put o.dst undef) w') : o.wp P a w K Q := by
  unfold Oper.wp
  rw [h]
  exact hk
/-- append of cells that lie wherever, none too, as a step -/
theorem opAppend {o : Oper} {a : Act} {w : World} {K : Act → World → Prop} (s x : Operand) (t : TypeId) (ho : o.op = .call { callee := .builtin .append, args := #[s, x], argTypes := #[t, t] })
    (base : Nat) (e : TypeId) (i : TypeInfo) (z : Value) (size bytes : Nat) (ht : P.underlying t = some (.slice e)) (hi : P.info? e = some i) (hz : i.zero = some z)
    (hsize : i.size = size) (hby : i.bytes = bytes) (hzs : z.cells.size = size) (hsz : 0 < size)
    (v : Value) (n : Nat) (xs : List Value) (hs : a.eval s = v) (hown : w.ownsRow base e size v n xs)
    (A : Option Addr) (m c : Nat) (news : List Value) (hx : a.eval x = .slice A m c) (hA : A = none → m = 0) (hl : news.length = m * size) (hnews : ∀ ad, A = some ad → ∀ j u, news[j]? = some u → w.cell? (ad.add j) = some u) (h1 : ∀ u ∈ news, u.oneCell' = true)
    (h63 : n + m ≤ maxLen) (hbytes : (n + m) * bytes ≤ 140737488355328) (hbase : base ≤ w.heap.size)
    (h : ∀ v' w', w'.ownsRow base e size v' (n + m) (xs ++ news) → w.grownBy w' v.ownBlock → (v'.ownBlock = v.ownBlock ∨ v'.ownBlock = some w.heap.size) → K (a.put o.dst v') w') : o.wp P a w K Q := by
  cases A with
  | some ad =>
    obtain ⟨v', w', hr, h2, h3, h4, h5⟩ := run_append_own_at (P := P) w base t o.type e i z size bytes ht hi hz hsize hby hzs hsz v n xs hown ad m c news hl (hnews ad rfl) h1 h63 hbytes hbase
    unfold Oper.wp execOp
    simp only [ho, resolve, invoke, builtin, Sem.run_bind, Sem.run_pure, Result.andThen_ok, List.map_toArray, List.map_cons, List.map_nil, hs, hx, hr, Oper.upon]
    exact h v' w' h2 h3 h5
  | none =>
    have hm := hA rfl
    subst hm
    have hn : news = [] := List.eq_nil_of_length_eq_zero (by omega)
    subst hn
    have hrun := run_append_nothing (P := P) (w := w) base t o.type e i size ht hi v n xs hown c
    unfold Oper.wp execOp
    simp only [ho, resolve, invoke, builtin, Sem.run_bind, Sem.run_pure, Result.andThen_ok, List.map_toArray, List.map_cons, List.map_nil, hs, hx, hrun, Oper.upon]
    exact h v w (by simpa using hown) (World.grownBy.refl w _) (.inl rfl)
end
theorem block_ne {w : World} {base e size n : Nat} {v : Value} {xs : List Value} {p t : Nat} {c : Array Value} (h : w.ownsRow base e size v n xs) (hp : w.heap[p]? = some (.cells c t (0, 0))) (het : e ≠ t) : some p ≠ v.ownBlock := fun hq => by
  rcases h.2 with ⟨rfl, _⟩ | ⟨g, cap, cur, rfl, _, hg, _⟩
  · simp [Value.ownBlock] at hq
  · simp [Value.ownBlock] at hq
    subst hq
    rw [hp] at hg
    simp at hg
    exact het hg.2.symm
theorem row_put {w : World} {base e size n : Nat} {v : Value} {xs : List Value} {p t : Nat} {c : Array Value} (h : w.ownsRow base e size v n xs) (hp : w.heap[p]? = some (.cells c t (0, 0))) (het : e ≠ t) (o : Nat) (x : Value) :
    (w.setCell ⟨p, o, none⟩ x).ownsRow base e size v n xs := by
  refine h.kept (grown_cell w p o x) ?_
  cases hq : v.ownBlock with
  | none => exact .inl rfl
  | some q => exact .inr fun e' => block_ne h hp het (by rw [hq, e'])
theorem row_slice {w : World} {base e size n : Nat} {v : Value} {xs : List Value} (h : w.ownsRow base e size v n xs) : ∃ A c, v = .slice A n c := by
  rcases h.2 with ⟨rfl, h0⟩ | ⟨g, cap, cur, rfl, _⟩
  · exact ⟨none, 0, by rw [h0]⟩
  · exact ⟨_, cap, rfl⟩
theorem ways_none {w : World} {B : Nat} {A : Option Addr} {l : List Way} (h : IsWays w B A l) (hA : A = none) : l.length = 0 := by
  cases hq : l.length with
  | zero => rfl
  | succ q => obtain ⟨b, off, e, _⟩ := h (by omega); rw [hA] at e; cases e
theorem ways_at {w : World} {B : Nat} {A : Option Addr} {l : List Way} (h : IsWays w B A l) (ad : Addr) (hA : A = some ad) : ∀ j u, (wayCells l)[j]? = some u → w.cell? (ad.add j) = some u := by
  by_cases h0 : l.length = 0
  · obtain rfl : l = [] := List.eq_nil_of_length_eq_zero h0
    intro j u hu; simp [wayCells] at hu
  · obtain ⟨b, off, e, _, hn⟩ := h (by omega)
    rw [hA] at e; cases e
    exact ways_cells (B := B) hn
theorem brks_none {w : World} {B : Nat} {A : Option Addr} {l : List (Int × Int)} (h : IsBrks w B A l) (hA : A = none) : l.length = 0 := by
  cases hq : l.length with
  | zero => rfl
  | succ q => obtain ⟨b, off, e, _⟩ := h (by omega); rw [hA] at e; cases e
theorem brks_at {w : World} {B : Nat} {A : Option Addr} {l : List (Int × Int)} (h : IsBrks w B A l) (ad : Addr) (hA : A = some ad) : ∀ j u, (brkCells l)[j]? = some u → w.cell? (ad.add j) = some u := by
  by_cases h0 : l.length = 0
  · obtain rfl : l = [] := List.eq_nil_of_length_eq_zero h0
    intro j u hu; simp [brkCells] at hu
  · obtain ⟨b, off, e, _, hn⟩ := h (by omega)
    rw [hA] at e; cases e
    exact brks_cells hn
/-- between two steps of the first statement -/
structure CpS (m : Met) (W2 : World) (b4 b9 b12 b17 b20 b21 b22 b23 : Bool) (x3 x10 x15 x18 x23 x26 x27 : Value) (wr : World) : Prop where
  d12 : b12 = true → b9 = true
  d20 : b20 = true → b17 = true
  d21 : b21 = true → b4 = true ∧ b12 = true ∧ b20 = true
  d23 : b23 = true → b21 = true ∧ b22 = true
  bl : Below W2.heap.size W2 wr
  mk23 : b4 = true → wr.ownsRow W2.heap.size 60 2 x10 0 []
  mk24 : b9 = true → b12 = false → wr.ownsRow W2.heap.size 64 2 x15 0 []
  ap24 : b12 = true → wr.ownsRow W2.heap.size 64 2 x18 m.ends.length (wayCells m.ends)
  mk25 : b17 = true → b20 = false → wr.ownsRow W2.heap.size 66 2 x23 0 []
  ap25 : b20 = true → wr.ownsRow W2.heap.size 66 2 x26 m.brks.length (brkCells m.brks)
  bd : b21 = true → x27 = .agg #[x10, x18, x26]
  al : b22 = true → ∃ p, x3 = .pointer (some ⟨p, 0, none⟩) ∧ W2.heap.size ≤ p ∧ wr.heap[p]? = some (.cells (if b23 then #[x10, x18, x26] else #[.slice none 0 0, .slice none 0 0, .slice none 0 0]) 26 (0, 0))
section
variable {m : Met} {W2 wr w' : World} {b4 b9 b12 b17 b20 b21 b22 b23 : Bool} {x3 x10 x15 x18 x23 x26 x27 : Value}
theorem lt_of_heap {w : World} {p : Nat} {o : Obj} (h : w.heap[p]? = some o) : p < w.heap.size := (Array.getElem?_eq_some_iff.1 h).1
theorem CpS.start (m : Met) (W2 : World) : CpS m W2 false false false false false false false false undef undef undef undef undef undef undef W2.drew :=
  ⟨(fun h => by cases h), (fun h => by cases h), (fun h => by cases h), (fun h => by cases h), (Below.refl _ _).drew, (fun h => by cases h), (fun h => by cases h), (fun h => by cases h), (fun h => by cases h), (fun h => by cases h), (fun h => by cases h), (fun h => by cases h)⟩
theorem CpS.step23 (h : CpS m W2 false b9 b12 b17 b20 b21 b22 b23 x3 x10 x15 x18 x23 x26 x27 wr) (hg : wr.grownBy w' none) {x : Value} (ho : w'.ownsRow W2.heap.size 60 2 x 0 []) :
    CpS m W2 true b9 b12 b17 b20 b21 b22 b23 x3 x x15 x18 x23 x26 x27 w' := by
  have n21 : b21 = true → False := fun e => by have := (h.d21 e).1; cases this
  have n23 : b23 = true → False := fun e => n21 (h.d23 e).1
  refine ⟨h.d12, h.d20, fun e => (n21 e).elim, h.d23, h.bl.grown hg h.bl.size (by simp), fun _ => ho, fun a b => (h.mk24 a b).kept hg some_ne, fun a => (h.ap24 a).kept hg some_ne, fun a b => (h.mk25 a b).kept hg some_ne, fun a => (h.ap25 a).kept hg some_ne, fun e => (n21 e).elim, fun a => ?_⟩
  obtain ⟨p, e1, e2, e3⟩ := h.al a
  refine ⟨p, e1, e2, (hg.block p (lt_of_heap e3) (by simp)).trans ?_⟩
  rw [e3]
  cases b23 with
  | true => exact (n23 rfl).elim
  | false => rfl
theorem CpS.step24 (h : CpS m W2 b4 false b12 b17 b20 b21 b22 b23 x3 x10 x15 x18 x23 x26 x27 wr) (hg : wr.grownBy w' none) {x : Value} (ho : w'.ownsRow W2.heap.size 64 2 x 0 []) :
    CpS m W2 b4 true b12 b17 b20 b21 b22 b23 x3 x10 x x18 x23 x26 x27 w' := by
  have n12 : b12 = true → False := fun e => by have := h.d12 e; cases this
  refine ⟨fun _ => rfl, h.d20, h.d21, h.d23, h.bl.grown hg h.bl.size (by simp), fun a => (h.mk23 a).kept hg some_ne, fun _ _ => ho, fun a => (n12 a).elim, fun a b => (h.mk25 a b).kept hg some_ne, fun a => (h.ap25 a).kept hg some_ne, h.bd, fun a => ?_⟩
  obtain ⟨p, e1, e2, e3⟩ := h.al a
  exact ⟨p, e1, e2, (hg.block p (lt_of_heap e3) (by simp)).trans e3⟩
theorem CpS.step25 (h : CpS m W2 b4 b9 b12 false b20 b21 b22 b23 x3 x10 x15 x18 x23 x26 x27 wr) (hg : wr.grownBy w' none) {x : Value} (ho : w'.ownsRow W2.heap.size 66 2 x 0 []) :
    CpS m W2 b4 b9 b12 true b20 b21 b22 b23 x3 x10 x15 x18 x x26 x27 w' := by
  have n20 : b20 = true → False := fun e => by have := h.d20 e; cases this
  refine ⟨h.d12, fun _ => rfl, h.d21, h.d23, h.bl.grown hg h.bl.size (by simp), fun a => (h.mk23 a).kept hg some_ne, fun a b => (h.mk24 a b).kept hg some_ne, fun a => (h.ap24 a).kept hg some_ne, fun _ _ => ho, fun a => (n20 a).elim, h.bd, fun a => ?_⟩
  obtain ⟨p, e1, e2, e3⟩ := h.al a
  exact ⟨p, e1, e2, (hg.block p (lt_of_heap e3) (by simp)).trans e3⟩
theorem CpS.app24 (h : CpS m W2 b4 true false b17 b20 b21 b22 b23 x3 x10 x15 x18 x23 x26 x27 wr) (hg : wr.grownBy w' x15.ownBlock) {x : Value} (ho : w'.ownsRow W2.heap.size 64 2 x m.ends.length (wayCells m.ends)) :
    CpS m W2 b4 true true b17 b20 b21 b22 b23 x3 x10 x15 x x23 x26 x27 w' := by
  have n21 : b21 = true → False := fun e => by have := (h.d21 e).2.1; cases this
  have n23 : b23 = true → False := fun e => n21 (h.d23 e).1
  have hr := h.mk24 rfl rfl
  refine ⟨fun _ => rfl, h.d20, fun e => (n21 e).elim, h.d23, h.bl.grown hg h.bl.size (fun k e => (hr.lt k e).1), fun a => (h.mk23 a).kept hg (own_ne (h.mk23 a) hr (by decide)), (fun _ a => by cases a), fun _ => ho, fun a b => (h.mk25 a b).kept hg (own_ne (h.mk25 a b) hr (by decide)), fun a => (h.ap25 a).kept hg (own_ne (h.ap25 a) hr (by decide)), fun e => (n21 e).elim, fun a => ?_⟩
  obtain ⟨p, e1, e2, e3⟩ := h.al a
  refine ⟨p, e1, e2, (hg.block p (lt_of_heap e3) (block_ne hr e3 (by decide))).trans ?_⟩
  rw [e3]
  cases b23 with
  | true => exact (n23 rfl).elim
  | false => rfl
theorem CpS.app25 (h : CpS m W2 b4 b9 b12 true false b21 b22 b23 x3 x10 x15 x18 x23 x26 x27 wr) (hg : wr.grownBy w' x23.ownBlock) {x : Value} (ho : w'.ownsRow W2.heap.size 66 2 x m.brks.length (brkCells m.brks)) :
    CpS m W2 b4 b9 b12 true true b21 b22 b23 x3 x10 x15 x18 x23 x x27 w' := by
  have n21 : b21 = true → False := fun e => by have := (h.d21 e).2.2; cases this
  have n23 : b23 = true → False := fun e => n21 (h.d23 e).1
  have hr := h.mk25 rfl rfl
  refine ⟨h.d12, fun _ => rfl, fun e => (n21 e).elim, h.d23, h.bl.grown hg h.bl.size (fun k e => (hr.lt k e).1), fun a => (h.mk23 a).kept hg (own_ne (h.mk23 a) hr (by decide)), fun a b => (h.mk24 a b).kept hg (own_ne (h.mk24 a b) hr (by decide)), fun a => (h.ap24 a).kept hg (own_ne (h.ap24 a) hr (by decide)), (fun _ a => by cases a), fun _ => ho, fun e => (n21 e).elim, fun a => ?_⟩
  obtain ⟨p, e1, e2, e3⟩ := h.al a
  refine ⟨p, e1, e2, (hg.block p (lt_of_heap e3) (block_ne hr e3 (by decide))).trans ?_⟩
  rw [e3]
  cases b23 with
  | true => exact (n23 rfl).elim
  | false => rfl
theorem CpS.build (h : CpS m W2 true b9 true b17 true false b22 b23 x3 x10 x15 x18 x23 x26 x27 wr) :
    CpS m W2 true b9 true b17 true true b22 b23 x3 x10 x15 x18 x23 x26 (.agg #[x10, x18, x26]) wr :=
  ⟨h.d12, h.d20, fun _ => ⟨rfl, rfl, rfl⟩, fun e => ⟨rfl, (h.d23 e).2⟩, h.bl, h.mk23, h.mk24, h.ap24, h.mk25, h.ap25, fun _ => rfl, h.al⟩
theorem CpS.alloc (h : CpS m W2 b4 b9 b12 b17 b20 b21 false b23 x3 x10 x15 x18 x23 x26 x27 wr) :
    CpS m W2 b4 b9 b12 b17 b20 b21 true b23 (.pointer (some ⟨wr.heap.size, 0, none⟩)) x10 x15 x18 x23 x26 x27 (wr.alloc (.cells #[.slice none 0 0, .slice none 0 0, .slice none 0 0] 26)) := by
  have n23 : b23 = true → False := fun e => by have := (h.d23 e).2; cases this
  refine ⟨h.d12, h.d20, h.d21, fun e => (n23 e).elim, h.bl.alloc h.bl.size _, fun a => (h.mk23 a).alloc _, fun a b => (h.mk24 a b).alloc _, fun a => (h.ap24 a).alloc _, fun a b => (h.mk25 a b).alloc _, fun a => (h.ap25 a).alloc _, h.bd, fun _ => ⟨_, rfl, h.bl.size, ?_⟩⟩
  rw [World.alloc_heap_new]
  cases b23 with
  | true => exact (n23 rfl).elim
  | false => rfl
theorem CpS.store {p : Nat} (h : CpS m W2 true b9 true b17 true true true false x3 x10 x15 x18 x23 x26 x27 wr) (hp : W2.heap.size ≤ p) (hq : wr.heap[p]? = some (.cells #[.slice none 0 0, .slice none 0 0, .slice none 0 0] 26 (0, 0))) (hx : x3 = .pointer (some ⟨p, 0, none⟩)) :
    CpS m W2 true b9 true b17 true true true true x3 x10 x15 x18 x23 x26 x27 (((wr.setCell ⟨p, 0, none⟩ x10).setCell ⟨p, 1, none⟩ x18).setCell ⟨p, 2, none⟩ x26) := by
  have q1 : (wr.setCell ⟨p, 0, none⟩ x10).heap[p]? = some (.cells #[x10, .slice none 0 0, .slice none 0 0] 26 (0, 0)) := heap_setCell_same _ _ 0 _ 26 x10 hq
  have q2 : ((wr.setCell ⟨p, 0, none⟩ x10).setCell ⟨p, 1, none⟩ x18).heap[p]? = some (.cells #[x10, x18, .slice none 0 0] 26 (0, 0)) := heap_setCell_same _ _ 1 _ 26 x18 q1
  have q3 : (((wr.setCell ⟨p, 0, none⟩ x10).setCell ⟨p, 1, none⟩ x18).setCell ⟨p, 2, none⟩ x26).heap[p]? = some (.cells #[x10, x18, x26] 26 (0, 0)) := heap_setCell_same _ _ 2 _ 26 x26 q2
  refine ⟨h.d12, h.d20, h.d21, fun _ => ⟨rfl, rfl⟩, ((h.bl.setCell (p := ⟨p, 0, none⟩) hp _).setCell (p := ⟨p, 1, none⟩) hp _).setCell (p := ⟨p, 2, none⟩) hp _,
    fun a => row_put (row_put (row_put (h.mk23 a) hq (by decide) 0 _) q1 (by decide) 1 _) q2 (by decide) 2 _, (fun a b => by cases b),
    fun a => row_put (row_put (row_put (h.ap24 a) hq (by decide) 0 _) q1 (by decide) 1 _) q2 (by decide) 2 _, (fun a b => by cases b),
    fun a => row_put (row_put (row_put (h.ap25 a) hq (by decide) 0 _) q1 (by decide) 1 _) q2 (by decide) 2 _, h.bd, fun _ => ⟨p, hx, hp, q3⟩⟩
end

theorem Apart.fresh {v : Value} {vs : List Value} {N : Nat} (h : Apart vs) (hN : ∀ k b, k < vs.length → (vs.getD k nilV).ownBlock = some b → b < N) (hv : ∀ b, v.ownBlock = some b → N ≤ b) : Apart (vs ++ [v]) := by
  intro i j k hi hj hij hik
  simp only [List.length_append, List.length_cons, List.length_nil] at hi hj
  by_cases ei : i < vs.length
  · rw [getD_snoc _ _ _ _ ei] at hik
    by_cases ej : j < vs.length
    · rw [getD_snoc _ _ _ _ ej]; exact h i j k ei ej hij hik
    · obtain rfl : j = vs.length := by omega
      rw [getD_last]
      intro e
      have h1 := hN i k ei hik
      have h2 := hv k e
      omega
  · obtain rfl : i = vs.length := by omega
    rw [getD_last] at hik
    by_cases ej : j < vs.length
    · rw [getD_snoc _ _ _ _ ej]
      intro e
      have h1 := hN j k ej e
      have h2 := hv k hik
      omega
    · omega
theorem OM.blocks {w : World} {B : Nat} {m : Met} {vf ve vb : Value} {vs : List Value} (h : OM w B m vf ve vb vs) : ∀ k b, k < (ve :: vs).length → ((ve :: vs).getD k nilV).ownBlock = some b → b < w.heap.size := by
  intro k b hk hb
  cases k with
  | zero => exact (h.ends.lt b (by simpa using hb)).2
  | succ k =>
    have hk' : k < m.feet.length := by simp at hk; have := h.vl; omega
    exact ((h.ways k hk').lt b (by simpa using hb)).2
theorem OM.addFoot {w w' : World} {B N : Nat} {fs : List Ft} {es : List Way} {bs : List (Int × Int)} {f : Ft} {vf vf' ve vb x : Value} {vs : List Value} (h : OM w B ⟨fs, es, bs⟩ vf ve vb vs) (hN : ∀ k b, k < (ve :: vs).length → ((ve :: vs).getD k nilV).ownBlock = some b → b < N)
    (hx : w.ownsRow B 64 2 x f.ways.length (wayCells f.ways)) (hxN : ∀ b, x.ownBlock = some b → N ≤ b)
    (ho : w'.ownsRow B 60 2 vf' (fs.length + 1) (ftCells fs vs ++ [.string f.own, x])) (hg : w.grownBy w' vf.ownBlock) : OM w' B ⟨fs ++ [f], es, bs⟩ vf' ve vb (vs ++ [x]) := by
  have hvl : vs.length = fs.length := h.vl
  refine ⟨by simp [hvl], ?_, fun k hk => ?_, h.ends.kept hg (own_ne h.ends h.feet (by decide)), h.brks.kept hg (own_ne h.brks h.feet (by decide)), ?_⟩
  · rw [ftCells_snoc _ _ _ _ hvl]; simpa using ho
  · simp only [List.length_append, List.length_cons, List.length_nil] at hk
    by_cases e : k < fs.length
    · rw [getD_snoc _ _ _ _ (by omega), getD_snoc _ _ _ _ e]
      exact (h.ways k e).kept hg (own_ne (h.ways k e) h.feet (by decide))
    · obtain rfl : k = fs.length := by omega
      rw [getD_last, ← hvl, getD_last]
      exact hx.kept hg (own_ne hx h.feet (by decide))
  · have := h.apart.fresh hN hxN
    simpa using this
theorem OM.putBox {w : World} {B p : Nat} {c : Array Value} {m : Met} {vf ve vb : Value} {vs : List Value} (h : OM w B m vf ve vb vs) (hp : w.heap[p]? = some (.cells c 26 (0, 0))) (o : Nat) (x : Value) : OM (w.setCell ⟨p, o, none⟩ x) B m vf ve vb vs :=
  ⟨h.vl, row_put h.feet hp (by decide) o x, fun j hj => row_put (h.ways j hj) hp (by decide) o x, row_put h.ends hp (by decide) o x, row_put h.brks hp (by decide) o x, h.apart⟩
theorem getD_snoc_ft (l : List Ft) (k : Nat) (h : k < l.length) : l.take (k + 1) = l.take k ++ [l.getD k default] := take_snoc' l k h

end Go.Proofs.YtkfkkoefpfmjkaaGreatDoor


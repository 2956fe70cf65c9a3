import Derived.Test.YtjlncnjmcgkkhaaA4
import Derived.Deep.Draws
import Derived.Maps.AppendAt
namespace Go.Proofs.Ytjlncnjmcgkkhaa
set_option linter.unusedVariables false
set_option linter.unusedSimpArgs false
open Go.RowKit

theorem run_store_float (P : Program) (w : World) (a : Addr) (m : Mode) (k : FloatKind) (b : Nat) : (store a (.float k b) m).run P w = stored P w a (.float k b) m := run_store P w a _ m rfl
attribute [local go_sem] run_store_float

def look (vs : List (List Note)) (p : Nat × Nat) : Note := (vs.getD p.1 []).getD p.2 default
def sungOf (vs : List (List Note)) (p : Nat × Nat) : List Value := sungCells p.1 p.2 (look vs p)
/-- the numbers of the first k voices' notes, in their order -/
def keysTo (vs : List (List Note)) (k : Nat) : List (Nat × Nat) := (List.range k).flatMap fun v => (List.range (vs.getD v []).length).map fun i => (v, i)
def keysIn (vs : List (List Note)) (k j : Nat) : List (Nat × Nat) := keysTo vs k ++ (List.range j).map fun i => (k, i)
def cellsOf (vs : List (List Note)) (l : List (Nat × Nat)) : List Value := l.flatMap (sungOf vs)

theorem keysIn_zero (vs : List (List Note)) (k : Nat) : keysIn vs k 0 = keysTo vs k := by simp [keysIn]
theorem keysIn_succ (vs : List (List Note)) (k j : Nat) : keysIn vs k (j + 1) = keysIn vs k j ++ [(k, j)] := by simp [keysIn, List.range_succ, List.append_assoc]
theorem keysTo_succ (vs : List (List Note)) (k : Nat) : keysTo vs (k + 1) = keysIn vs k (vs.getD k []).length := by simp [keysTo, keysIn, List.range_succ, List.flatMap_append]
theorem cellsOf_snoc (vs : List (List Note)) (l : List (Nat × Nat)) (p : Nat × Nat) : cellsOf vs (l ++ [p]) = cellsOf vs l ++ sungOf vs p := by simp [cellsOf, List.flatMap_append]
theorem cellsOf_length (vs : List (List Note)) (l : List (Nat × Nat)) : (cellsOf vs l).length = l.length * 8 := by
  induction l with
  | nil => rfl
  | cons p l ih =>
    show (sungOf vs p ++ cellsOf vs l).length = _
    rw [List.length_append, ih]; simp [sungOf, sungCells]; omega
theorem keysTo_length (vs : List (List Note)) (k : Nat) (h : k ≤ vs.length) : (keysTo vs k).length = total (vs.take k) := by
  induction k with
  | zero => rfl
  | succ k ih => rw [keysTo_succ, keysIn, List.length_append, ih (by omega), total_take vs k (by omega)]; simp
theorem keysIn_length (vs : List (List Note)) (k j : Nat) (h : k ≤ vs.length) : (keysIn vs k j).length = total (vs.take k) + j := by
  rw [keysIn, List.length_append, keysTo_length vs k h]; simp

theorem info60 : Try.prog.info? 60 = some Try.t60 := by kernel_rfl
theorem zero60 : Try.t60.zero = some (.agg #[.int .i64 0, .int .i64 0, .int .i64 0, .int .i64 0, .int .i64 0, .bool false, .float .f64 0, .float .f64 0]) := by kernel_rfl
theorem size60 : Try.t60.size = 8 := by kernel_rfl
theorem bytes60 : Try.t60.bytes = 64 := by kernel_rfl

theorem grown_of_alloc {w0 w' : World} {o : Obj} {row : Option Nat} (h : (w0.alloc o).grownBy w' row) : w0.grownBy w' row :=
  ⟨h.os, h.tape, h.output, Nat.le_trans (by simp) h.size, fun k hk hne => (h.block k (by simp; omega) hne).trans (Below.heap_alloc w0 o k hk)⟩

/-- append of one element that was just boxed, onto a row of the call's own: with what is turned and where the new row lies -/
theorem wpList_append_boxg {P : Program} {ops : Array Oper} {rest : List Oper} {o : Oper} {a : Act} {Q : Exit → Act → World → Prop} (w0 : World) (hgd : o.guard = none) (s x : Operand) (t : TypeId)
    (ho : o.op = .call { callee := .builtin .append, args := #[s, x], argTypes := #[t, t] })
    (base : Nat) (e : TypeId) (i : TypeInfo) (z : Value) (size bytes : Nat) (ht : P.underlying t = some (.slice e)) (hi : P.info? e = some i) (hz : i.zero = some z)
    (hsize : i.size = size) (hby : i.bytes = bytes) (hzs : z.cells.size = size) (hsz : 0 < size)
    (v : Value) (n : Nat) (xs : List Value) (nw : Array Value) (g : Nat) (hs : a.eval s = v) (hx : a.eval x = .slice (some ⟨g, 0, none⟩) 1 1) (hg : g = w0.heap.size) (hown : w0.ownsRow base e size v n xs)
    (hl : nw.size = size) (h1 : ∀ u ∈ nw.toList, u.oneCell' = true)
    (h63 : n + 1 ≤ maxLen) (hbytes : (n + 1) * bytes ≤ 140737488355328) (hbase : base ≤ w0.heap.size)
    (h : ∀ v' w', w'.ownsRow base e size v' (n + 1) (xs ++ nw.toList) → w0.grownBy w' v.ownBlock → (v'.ownBlock = v.ownBlock ∨ ∃ b, v'.ownBlock = some b ∧ w0.heap.size ≤ b) → wpList P ops Q rest (a.put o.dst v') w') : wpList P ops Q (o :: rest) a (w0.alloc (.cells nw e)) := by
  subst hg
  refine wpList_append_own_at (w0.alloc (.cells nw e)) hgd s x t ho base e i z size bytes ht hi hz hsize hby hzs hsz v n xs hs (hown.alloc _) ⟨w0.heap.size, 0, none⟩ 1 1 nw.toList hx (by simp [hl]) ?_ h1 h63 hbytes (by simp; omega) ?_
  · intro j u hu
    have e1 : (⟨w0.heap.size, 0, none⟩ : Addr).add j = ⟨w0.heap.size, j, none⟩ := by
      unfold Addr.add; by_cases hj : j = 0
      · simp [hj]
      · simp [hj]
    rw [e1, cell_of_row (w0.alloc (.cells nw e)) w0.heap.size j nw e (0, 0) (heap_alloc_new w0 _)]
    simpa using hu
  · intro v' w' h2 h3 _ h5
    refine h v' w' h2 (grown_of_alloc h3) ?_
    rcases h5 with h5 | h5
    · exact .inl h5
    · exact .inr ⟨_, h5, by simp⟩

/-- append of one element that was just boxed, onto a row of the call's own -/
theorem wpList_append_box {P : Program} {ops : Array Oper} {rest : List Oper} {o : Oper} {a : Act} {Q : Exit → Act → World → Prop} (w0 : World) (hgd : o.guard = none) (s x : Operand) (t : TypeId)
    (ho : o.op = .call { callee := .builtin .append, args := #[s, x], argTypes := #[t, t] })
    (base : Nat) (e : TypeId) (i : TypeInfo) (z : Value) (size bytes : Nat) (ht : P.underlying t = some (.slice e)) (hi : P.info? e = some i) (hz : i.zero = some z)
    (hsize : i.size = size) (hby : i.bytes = bytes) (hzs : z.cells.size = size) (hsz : 0 < size)
    (v : Value) (n : Nat) (xs : List Value) (nw : Array Value) (g : Nat) (hs : a.eval s = v) (hx : a.eval x = .slice (some ⟨g, 0, none⟩) 1 1) (hg : g = w0.heap.size) (hown : w0.ownsRow base e size v n xs)
    (hl : nw.size = size) (h1 : ∀ u ∈ nw.toList, u.oneCell' = true)
    (h63 : n + 1 ≤ maxLen) (hbytes : (n + 1) * bytes ≤ 140737488355328) (hbase : base ≤ w0.heap.size)
    (h : ∀ v' w', w'.ownsRow base e size v' (n + 1) (xs ++ nw.toList) → Below base w0 w' → wpList P ops Q rest (a.put o.dst v') w') : wpList P ops Q (o :: rest) a (w0.alloc (.cells nw e)) := by
  subst hg
  refine wpList_append_own (w0.alloc (.cells nw e)) hgd s x t ho base e i z size bytes ht hi hz hsize hby hzs hsz v n xs hs (hown.alloc _) ⟨w0.heap.size, 0, none⟩ 1 1 nw.toList hx (by simp [hl]) ?_ h1 h63 hbytes (by simp; omega) ?_
  · intro j u hu
    have e1 : (⟨w0.heap.size, 0, none⟩ : Addr).add j = ⟨w0.heap.size, j, none⟩ := by
      unfold Addr.add; by_cases hj : j = 0
      · simp [hj]
      · simp [hj]
    rw [e1, cell_of_row (w0.alloc (.cells nw e)) w0.heap.size j nw e (0, 0) (heap_alloc_new w0 _)]
    simpa using hu
  · intro v' w' h2 h3 _
    refine h v' w' h2 (((Below.refl base w0).alloc hbase _).grown h3 (by simp; omega) ?_)
    intro k hk
    rcases hown.2 with ⟨rfl, _⟩ | ⟨g, cap, cur, rfl, hg, _⟩
    · simp [Value.ownBlock] at hk
    · simp [Value.ownBlock] at hk; omega

end Go.Proofs.Ytjlncnjmcgkkhaa

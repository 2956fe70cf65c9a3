import Derived.Test.YthmpfnmdplknlaaGreatLE
/- The scanner at a unit of a nought. -/
namespace Go.Proofs.YthmpfnmdplknlaaGreat
set_option linter.unusedVariables false
set_option linter.unusedSimpArgs false
open Go.RowKit Go.Lib Go.Shelf
attribute [local go_sem] Oper.semAt_some
def scC (k : Nat) : Array Value := match k with
  | 0 => #[.int .i64 0, .int .i64 0, .int .i64 0, .int .i64 0, .int .i64 0, .int .i32 0, .int .i64 0, .int .i64 0, .bool false]
  | k + 1 => #[.int .i64 9, .int .i64 6, .int .i64 k, .int .i64 (k + 1), .int .i64 0, .int .i32 0, .int .i64 0, .int .i64 0, .bool false]
def tokV (k : Nat) : Value := .agg #[.int .i64 6, .int .i64 k, .int .i64 (k + 1)]
def ScM (s k : Nat) (W : World) : Prop := W.heap[s]? = some (.cells (scC k) 126 (0, 0))
set_option maxRecDepth 100000 in
theorem fits_nought (s k i : Nat) (w : World) (h : ScM s k w) : Calls Tryz.prog 49 #[.pointer (some ⟨s, 0, none⟩), unitV i] w fun e w' => e = .returned (.int .i64 0) ∧ Below w.heap.size w w' := by
  have hs : s < w.heap.size := (Array.getElem?_eq_some_iff.1 h).1
  unfold unitV
  cases k with
  | zero =>
    have c0 : w.cell? ⟨s, 0, none⟩ = some (.int .i64 0) := cell_of_row _ _ 0 _ _ (0, 0) h
    go_enter Tryz.func49, Tryz.ntmps49
    go_wp2_with fail
    go_ret
    exact ⟨rfl, (Below.refl _ _).alloc (Nat.le_refl _) _⟩
  | succ k =>
    have c0 : w.cell? ⟨s, 0, none⟩ = some (.int .i64 9) := cell_of_row _ _ 0 _ _ (0, 0) h
    go_enter Tryz.func49, Tryz.ntmps49
    go_wp2_with fail
    go_ret
    exact ⟨rfl, (Below.refl _ _).alloc (Nat.le_refl _) _⟩
set_option maxRecDepth 100000 in
theorem begin_nought (s k i : Nat) (w : World) (h : ScM s k w) : Calls Tryz.prog 51 #[.pointer (some ⟨s, 0, none⟩), unitV i] w fun e w' => (∃ v, e = .returned v) ∧ ScM s (i + 1) w' ∧ w.grownBy w' (some s) := by
  have hs : s < w.heap.size := (Array.getElem?_eq_some_iff.1 h).1
  obtain ⟨a0, a1, a2, a3, h⟩ : ∃ a0 a1 a2 a3, w.heap[s]? = some (.cells #[a0, a1, a2, a3, .int .i64 0, .int .i32 0, .int .i64 0, .int .i64 0, .bool false] 126 (0, 0)) := by
    cases k with
    | zero => exact ⟨_, _, _, _, h⟩
    | succ k => exact ⟨_, _, _, _, h⟩
  unfold unitV
  have h1 := al_at h (.cells #[.int .i64 9, .int .i32 0, .int .i64 i, .int .i64 (i + 1), .bool true] 124)
  obtain ⟨w1, hw1⟩ : ∃ w1, w.alloc (.cells #[.int .i64 9, .int .i32 0, .int .i64 i, .int .i64 (i + 1), .bool true] 124) = w1 := ⟨_, rfl⟩
  rw [hw1] at h1
  have hn : w1.heap[w.heap.size]? = some (.cells #[.int .i64 9, .int .i32 0, .int .i64 i, .int .i64 (i + 1), .bool true] 124 (0, 0)) := by rw [← hw1]; exact World.alloc_heap_new w _
  have hb1 : Below w.heap.size w w1 := by rw [← hw1]; exact (Below.refl _ _).alloc (Nat.le_refl _) _
  have d0 : w1.cell? ⟨s, 0, none⟩ = some a0 := cell_of_row _ _ 0 _ _ (0, 0) h1
  have d1 : w1.cell? ⟨s, 1, none⟩ = some a1 := cell_of_row _ _ 1 _ _ (0, 0) h1
  have d2 : w1.cell? ⟨s, 2, none⟩ = some a2 := cell_of_row _ _ 2 _ _ (0, 0) h1
  have d3 : w1.cell? ⟨s, 3, none⟩ = some a3 := cell_of_row _ _ 3 _ _ (0, 0) h1
  have z0 := frozen_of_row w1 s 0 _ _ h1
  have z1 := frozen_of_row w1 s 1 _ _ h1
  have z2 := frozen_of_row w1 s 2 _ _ h1
  have z3 := frozen_of_row w1 s 3 _ _ h1
  have e0 : w1.cell? ⟨w.heap.size, 0, none⟩ = some (.int .i64 9) := cell_of_row _ _ 0 _ _ (0, 0) hn
  have e2 : w1.cell? ⟨w.heap.size, 2, none⟩ = some (.int .i64 i) := cell_of_row _ _ 2 _ _ (0, 0) hn
  have e3 : w1.cell? ⟨w.heap.size, 3, none⟩ = some (.int .i64 (i + 1)) := cell_of_row _ _ 3 _ _ (0, 0) hn
  have hne : s ≠ w.heap.size := by omega
  have hne' : w.heap.size ≠ s := by omega
  have Hw1 := Lib.hid hw1
  have H1 := Lib.hid h1
  have Hb1 := Lib.hid hb1
  clear h1 hb1 h hn
  go_enter Tryz.func51, Tryz.ntmps51
  go_wp2_with fail
  go_end0
  have hf := heap_setCell_same _ _ 0 _ _ (.int .i64 9) (heap_setCell_same _ _ 3 _ _ (.int .i64 (i + 1)) (heap_setCell_same _ _ 2 _ _ (.int .i64 i) (heap_setCell_same _ _ 1 _ _ (.int .i64 6) H1.out)))
  refine ⟨⟨_, rfl⟩, hf, ?_⟩
  refine only_set ?_ (.inl rfl) _
  refine only_set ?_ (.inl rfl) _
  refine only_set ?_ (.inl rfl) _
  exact only_set (only_below Hb1.out _) (.inl rfl) _
theorem end_start (n : Nat) (hn : 2 ≤ n) (s l : Nat) (w : World) (h : ScM s 0 w) : CallsIn Fence.wide n Tryz.prog 50 #[.pointer (some ⟨s, 0, none⟩), .func (.yield l) #[] #[]] w fun e w' => e = .returned (.bool true) ∧ w' = w := by
  have c0 : w.cell? ⟨s, 0, none⟩ = some (.int .i64 0) := cell_of_row _ _ 0 _ _ (0, 0) h
  refine callsIn_of_wp Tryz.func50 rfl trivial ?_ rfl
  simp only [Tryz.ntmps50, List.size_toArray, List.length_cons, List.length_nil, Nat.reduceAdd, Nat.reduceSub, Array.replicate_succ, Array.replicate_zero, List.push_toArray, List.append_toArray, List.nil_append, List.cons_append]
  gi_wp2
  go_ret
  exact ⟨rfl, rfl⟩
theorem end_nought (n : Nat) (hn : 2 ≤ n) (s k l m : Nat) (w : World) (h : ScM s (k + 1) w) (R : World → Prop) (hY : YieldAt Fence.wide m Tryz.prog l #[tokV k] w fun e W' => e = .returned (.bool true) ∧ R W') :
    CallsIn Fence.wide n Tryz.prog 50 #[.pointer (some ⟨s, 0, none⟩), .func (.yield l) #[] #[]] w fun e w' => e = .returned (.bool true) ∧ R w' := by
  have c0 : w.cell? ⟨s, 0, none⟩ = some (.int .i64 9) := cell_of_row _ _ 0 _ _ (0, 0) h
  have c1 : w.cell? ⟨s, 1, none⟩ = some (.int .i64 6) := cell_of_row _ _ 1 _ _ (0, 0) h
  have c2 : w.cell? ⟨s, 2, none⟩ = some (.int .i64 k) := cell_of_row _ _ 2 _ _ (0, 0) h
  have c3 : w.cell? ⟨s, 3, none⟩ = some (.int .i64 (k + 1)) := cell_of_row _ _ 3 _ _ (0, 0) h
  obtain ⟨fn, tmps, assign, body, hy, hR⟩ := hY
  have HR := Lib.hid hR
  unfold tokV at hy
  clear hR
  refine callsIn_of_wp Tryz.func50 rfl trivial ?_ rfl
  simp only [Tryz.ntmps50, List.size_toArray, List.length_cons, List.length_nil, Nat.reduceAdd, Nat.reduceSub, Array.replicate_succ, Array.replicate_zero, List.push_toArray, List.append_toArray, List.nil_append, List.cons_append]
  gi_wp2
  refine And.intro (fun _ => (by omega)) (RoundIn.mono (F := Fence.wide) (roundAny rfl _ HR.out) ?_)
  rintro e V4 ⟨rfl, hr4⟩
  gi_wp2
  go_ret
  exact ⟨rfl, hr4⟩
end Go.Proofs.YthmpfnmdplknlaaGreat

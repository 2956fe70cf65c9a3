import Derived.Test.YtjlncnjmcgkkhaaA7
namespace Go.Proofs.Ytjlncnjmcgkkhaa
set_option linter.unusedVariables false
set_option linter.unusedSimpArgs false
open Go.RowKit
attribute [local go_sem] run_store_float

def nOne : Note := ⟨0, 0, 0, false, 4607182418800017408, 0⟩
def nNil : Note := ⟨0, 0, 0, false, 0, 0⟩
def vsW : List (List Note) := [[nOne], [nNil]]
theorem vsW_keys : keysTo vsW 2 = [(0, 0), (1, 0)] := by decide
theorem vsW_lt : ltP vsW (1, 0) (0, 0) := by decide +kernel
theorem vsW_sort : sortP vsW (keysTo vsW vsW.length) = [(1, 0), (0, 0)] := by
  refine (sorted_unique vsW ?_ ?_).symm
  · show [(1, 0), (0, 0)].Perm (keysTo vsW 2)
    rw [vsW_keys]; exact List.Perm.swap _ _ _
  · simp only [List.pairwise_cons, List.mem_singleton, forall_eq, List.not_mem_nil, false_implies, implies_true, and_true, List.Pairwise.nil]
    exact fun h => ltP_irrefl vsW _ (ltP_trans vsW h vsW_lt)
theorem vsW_long : longB vsW = false := by decide
theorem vsW_cells : cellsOf vsW [(1, 0), (0, 0)] = sungCells 1 0 nNil ++ sungCells 0 0 nOne := by rfl

theorem heap3 (w : World) (a b c : Obj) : (((w.alloc a).alloc b).alloc c).heap[w.heap.size]? = some a ∧ (((w.alloc a).alloc b).alloc c).heap[w.heap.size + 1]? = some b ∧ (((w.alloc a).alloc b).alloc c).heap[w.heap.size + 1 + 1]? = some c := by
  have s1 : (w.alloc a).heap.size = w.heap.size + 1 := by simp
  have s2 : ((w.alloc a).alloc b).heap.size = w.heap.size + 1 + 1 := by simp
  refine ⟨?_, ?_, ?_⟩
  · exact (Below.heap_alloc _ c _ (by omega)).trans ((Below.heap_alloc _ b _ (by omega)).trans (heap_alloc_new w a))
  · exact (Below.heap_alloc _ c _ (by omega)).trans (by rw [← s1]; exact heap_alloc_new _ b)
  · rw [← s2]; exact heap_alloc_new _ c

theorem noteAt_of {w : World} {b : Nat} {t : TypeId} {x : Note} (h : w.heap[b]? = some (.cells x.cells.toArray t (0, 0))) : NoteAt w b 0 x :=
  ⟨cell_of_row w b 0 _ t _ h, cell_of_row w b 1 _ t _ h, cell_of_row w b 2 _ t _ h, cell_of_row w b 3 _ t _ h, cell_of_row w b 4 _ t _ h, cell_of_row w b 5 _ t _ h⟩

theorem vsW_voices (w : World) : IsVoices (((w.alloc (.cells #[.int .i64 0, .int .i64 0, .int .i64 0, .bool false, .float .f64 4607182418800017408, .float .f64 0] 37)).alloc (.cells #[.int .i64 0, .int .i64 0, .int .i64 0, .bool false, .float .f64 0, .float .f64 0] 37)).alloc
    (.cells #[.slice (some ⟨w.heap.size, 0, none⟩) 1 1, .slice (some ⟨w.heap.size + 1, 0, none⟩) 1 1] 29)) (w.heap.size + 3) (some ⟨w.heap.size + 1 + 1, 0, none⟩) vsW := by
  intro _
  obtain ⟨h0, h1, h2⟩ := heap3 w (.cells #[.int .i64 0, .int .i64 0, .int .i64 0, .bool false, .float .f64 4607182418800017408, .float .f64 0] 37) (.cells #[.int .i64 0, .int .i64 0, .int .i64 0, .bool false, .float .f64 0, .float .f64 0] 37) (.cells #[.slice (some ⟨w.heap.size, 0, none⟩) 1 1, .slice (some ⟨w.heap.size + 1, 0, none⟩) 1 1] 29)
  refine ⟨w.heap.size + 1 + 1, 0, rfl, by omega, fun k hk => ?_⟩
  have hk' : k = 0 ∨ k = 1 := by have : vsW.length = 2 := rfl; omega
  rcases hk' with rfl | rfl
  · refine ⟨some ⟨w.heap.size, 0, none⟩, 1, cell_of_row _ _ 0 _ _ _ h2, Nat.le_refl _, fun _ => ⟨w.heap.size, 0, rfl, by omega, fun j hj => ?_⟩⟩
    obtain rfl : j = 0 := by have : (vsW.getD 0 []).length = 1 := rfl; omega
    exact noteAt_of (x := nOne) h0
  · refine ⟨some ⟨w.heap.size + 1, 0, none⟩, 1, cell_of_row _ _ 1 _ _ _ h2, Nat.le_refl _, fun _ => ⟨w.heap.size + 1, 0, rfl, by omega, fun j hj => ?_⟩⟩
    obtain rfl : j = 0 := by have : (vsW.getD 1 []).length = 1 := rfl; omega
    exact noteAt_of (x := nNil) h1

theorem may_one (w : World) : Calls Try.prog 12 #[.agg #[.float .f64 4607182418800017408, .float .f64 4607182418800017408, .float .f64 4607182418800017408, .float .f64 0, .float .f64 4607182418800017408]] w fun e w' => e = .returned (.bool true) ∧ Below w.heap.size w w' := by
  have h := may_any 4607182418800017408 4607182418800017408 4607182418800017408 0 4607182418800017408 w
  have e : mayB 4607182418800017408 4607182418800017408 4607182418800017408 0 4607182418800017408 = true := by decide +kernel
  rw [e] at h; exact h
theorem may_nil (w : World) : Calls Try.prog 12 #[.agg #[.float .f64 0, .float .f64 0, .float .f64 0, .float .f64 0, .float .f64 0]] w fun e w' => e = .returned (.bool false) ∧ Below w.heap.size w w' := by
  have h := may_any 0 0 0 0 0 w
  have e : mayB 0 0 0 0 0 = false := by decide +kernel
  rw [e] at h; exact h

set_option maxRecDepth 100000 in
set_option maxHeartbeats 2000000 in
theorem wakes_any (w : World) : Calls Try.prog 14 #[] w fun e w' => e = .returned (.bool true) ∧ Below w.heap.size w w' := by
  go_enter Try.func14, Try.ntmps14
  go_wp2_with fail
  refine (merge_any _ 2 vsW _ (by simpa using vsW_voices w) vsW_long).mono ?_
  rintro e w1 ⟨v, rfl, hown, hbl⟩
  rw [vsW_sort, vsW_cells] at hown
  have ht : total vsW = 2 := rfl
  rw [ht] at hown
  obtain ⟨g, cap, rfl, _, hg⟩ := own_form hown (by omega)
  have c0 : w1.cell? ⟨g, 0, none⟩ = some (.int .i64 1) := (hown.cellAt 0 (by omega)).trans rfl
  have hb0 : Below w.heap.size w w1 := ((((Below.refl _ _).alloc (Nat.le_refl _) _).alloc (by simp) _).alloc (by simp; omega) _).trans (hbl.mono (by simp; omega))
  clear hbl hown ht
  go_wp2_with fail
  refine (may_one _).mono ?_
  rintro e w2 ⟨rfl, hb2⟩
  go_wp2_with fail
  refine (may_nil _).mono ?_
  rintro e w3 ⟨rfl, hb3⟩
  go_wp2_with fail
  go_ret
  exact ⟨rfl, (hb0.trans (hb2.mono hb0.size)).trans (hb3.mono (Nat.le_trans hb0.size hb2.size))⟩
end Go.Proofs.Ytjlncnjmcgkkhaa

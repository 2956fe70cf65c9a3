import Derived.Test.YthmpfnmdplknlaaGreatLB
import Derived.Lib.OthersKept
import Derived.Laws.Rows
import Derived.RangeFuncFrom
import Derived.Laws.RangeString
/- A text of noughts: its pieces. -/
namespace Go.Proofs.YthmpfnmdplknlaaGreat
set_option linter.unusedVariables false
set_option linter.unusedSimpArgs false
open Go.RowKit Go.Lib
theorem letter_nought (w : World) : Calls Tryz.prog 103 #[.int .i32 0] w fun e w' => e = .returned (.bool false) ∧ w = w' := by
  go_enter Tryz.func103, Tryz.ntmps103
  go_wp2_with fail
  refine (great_nought _).mono ?_
  rintro e w' ⟨rfl, rfl⟩
  go_wp2_with fail
  refine (small_nought _).mono ?_
  rintro e w' ⟨rfl, rfl⟩
  go_wp2_with fail
  go_ret
  exact ⟨rfl, rfl⟩
theorem mark_nought (w : World) : Calls Tryz.prog 104 #[.int .i32 0] w fun e w' => e = .returned (.bool false) ∧ w = w' := by
  go_enter Tryz.func104, Tryz.ntmps104
  go_wp2_with fail
  go_ret
  exact ⟨rfl, rfl⟩
set_option maxRecDepth 100000 in
theorem kind_nought (w : World) : Calls Tryz.prog 87 #[.int .i32 0] w fun e w' => e = .returned (.int .i64 9) ∧ w = w' := by
  go_enter Tryz.func87, Tryz.ntmps87
  go_wp2_with fail
  refine (letter_nought _).mono ?_
  rintro e w' ⟨rfl, rfl⟩
  go_wp2_with fail
  refine (mark_nought _).mono ?_
  rintro e w' ⟨rfl, rfl⟩
  go_wp2_with fail
  go_ret
  exact ⟨rfl, rfl⟩
def pieceV (i : Nat) : Value := .agg #[.int .i64 i, .int .i64 1, .int .i32 0, .bool false]
theorem of_nought (i : Nat) (w : World) : Calls Tryz.prog 70 #[pieceV i] w fun e w' => e = .returned (.int .i64 9) ∧ Below w.heap.size w w' := by
  unfold pieceV
  go_enter Tryz.func70, Tryz.ntmps70
  go_wp2_with fail
  refine (kind_nought _).mono ?_
  rintro e w' ⟨rfl, rfl⟩
  go_wp2_with fail
  go_ret
  exact ⟨rfl, (Below.refl _ _).alloc (Nat.le_refl _) _⟩
theorem width_nought (w : World) : Calls Tryz.prog 96 #[.int .i32 0] w fun e w' => e = .returned (.int .i64 1) ∧ w = w' := by
  go_enter Tryz.func96, Tryz.ntmps96
  have h0 : Utf8.encode 0 = ⟨#[0]⟩ := by decide +kernel
  have h1 : (Utf8.encode 0).size = 1 := by decide +kernel
  go_wp2_with fail
  go_ret
  exact ⟨rfl, rfl⟩
/-- n bytes nought -/
def Zt (n : Nat) : ByteArray := ⟨Array.replicate n 0⟩
theorem Zt_size (n : Nat) : (Zt n).size = n := by simp [Zt, ByteArray.size]
theorem Zt_get (n i : Nat) (h : i < (Zt n).size) : (Zt n)[i] = 0 := by simp [Zt, ByteArray.getElem_eq_getElem_data]
theorem Zt_cut (n i j : Nat) (h : j ≤ n) : (Zt n).extract i j = Zt (j - i) := by
  apply ByteArray.ext
  simp [Zt, ByteArray.data_extract, Nat.min_eq_left h]
set_option maxRecDepth 100000 in
theorem read_nought (n i : Nat) (hi : i < n) (hn : n < 2000) (w : World) : Calls Tryz.prog 76 #[.string (Zt n), .int .i64 i] w fun e w' => e = .returned (pieceV i) ∧ Below w.heap.size w w' := by
  unfold pieceV
  have hs := Zt_size n
  have hc : (Zt n).extract i n = Zt (n - i) := Zt_cut n i n (Nat.le_refl _)
  have hb : Below w.heap.size w ((w.alloc (.cells #[.int .i64 0, .int .i64 0, .int .i32 0, .bool false] 137)).iter (Zt (n - i)) 1) := ((Below.refl _ w).alloc (Nat.le_refl _) _).alloc (by simp) _
  have hx : (((w.alloc (.cells #[.int .i64 0, .int .i64 0, .int .i32 0, .bool false] 137)).iter (Zt (n - i)) 1)).heap[w.heap.size]? = some (.cells #[.int .i64 0, .int .i64 0, .int .i32 0, .bool false] 137 (0, 0)) := (Below.heap_alloc _ _ _ (by simp)).trans (World.alloc_heap_new w _)
  go_enter Tryz.func76, Tryz.ntmps76
  have hnx : (Instr.next (.pointer (some ⟨w.heap.size + 1, 0, none⟩)) true 0).run Tryz.prog ((w.alloc (.cells #[.int .i64 0, .int .i64 0, .int .i32 0, .bool false] 137)).iter (Zt (n - i)) 0) = .ok (.tuple #[.bool true, .int .i64 0, .int .i32 0]) ((w.alloc (.cells #[.int .i64 0, .int .i64 0, .int .i32 0, .bool false] 137)).iter (Zt (n - i)) 1) := by
    have hlt : 0 < (Zt (n - i)).size := by rw [Zt_size]; omega
    have h := run_next_ascii (P := Tryz.prog) (w.alloc (.cells #[.int .i64 0, .int .i64 0, .int .i32 0, .bool false] 137)) (Zt (n - i)) 0 0 hlt (by rw [Zt_get]; decide)
    rw [World.size_alloc, Zt_get] at h
    exact h
  go_wp2_with fail
  generalize hW1 : World.iter _ _ 0 = W1 at *
  generalize hW2 : World.iter _ _ 1 = W2 at *
  clear hW1 hW2
  have hw := Lib.hid width_nought
  have d0 := cell_of_row _ _ 0 _ _ (0, 0) hx
  have d1 := cell_of_row _ _ 1 _ _ (0, 0) hx
  have d2 := cell_of_row _ _ 2 _ _ (0, 0) hx
  have d3 := cell_of_row _ _ 3 _ _ (0, 0) hx
  simp only [List.getElem?_toArray, List.getElem?_cons_zero, List.getElem?_cons_succ] at d0 d1 d2 d3
  have z0 := frozen_of_row W2 w.heap.size 0 _ _ hx
  have z1 := frozen_of_row W2 w.heap.size 1 _ _ hx
  have z2 := frozen_of_row W2 w.heap.size 2 _ _ hx
  have z3 := frozen_of_row W2 w.heap.size 3 _ _ hx
  have hfin := heap_setCell_same _ _ 3 _ _ (.bool false) (heap_setCell_same _ _ 2 _ _ (.int .i32 0) (heap_setCell_same _ _ 1 _ _ (.int .i64 1) (heap_setCell_same _ _ 0 _ _ (.int .i64 i) hx)))
  have Hfin := Lib.hid hfin
  clear hfin hx
  go_loopw [] (fun wr => wr = W1) (fun _ => 0)
  case atStart => rfl
  case round =>
    subst hrel
    go_wp2_with fail
    refine (hw.out _).mono ?_
    rintro e w' ⟨rfl, rfl⟩
    go_wp2_with fail
    refine bodyPost_ret (results_cell_row rfl _ _ w.heap.size 137 #[.int .i64 i, .int .i64 1, .int .i32 0, .bool false] (0, 0) _ rfl Hfin.out Tryz.underlying137 (by rfl) (by kernel_rfl)) rfl ?_
    exact ⟨rfl, (((hb.setCell (by simp) _).setCell (by simp) _).setCell (by simp) _).setCell (by simp) _⟩
end Go.Proofs.YthmpfnmdplknlaaGreat

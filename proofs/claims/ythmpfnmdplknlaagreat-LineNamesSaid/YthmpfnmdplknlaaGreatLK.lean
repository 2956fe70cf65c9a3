import Derived.Test.YthmpfnmdplknlaaGreatLJ
/- How many readings a line without words has with no beats. -/
namespace Go.Proofs.YthmpfnmdplknlaaGreat
set_option linter.unusedVariables false
set_option linter.unusedSimpArgs false
open Go.RowKit Go.Lib Go.Shelf
attribute [local go_sem] Oper.semAt_some
set_option maxRecDepth 100000 in
set_option maxHeartbeats 2000000 in
theorem counts_line (lb : Nat) (w : World) (h : LineM lb w) : Calls Tryz.prog 26 #[.pointer (some ⟨lb, 0, none⟩)] w fun e w' => ∃ g, e = .returned (.slice (some ⟨g, 0, none⟩) 66 66) ∧ w'.cell? ⟨g, 0, none⟩ = some (.int .i64 1) ∧ Below w.heap.size w w' := by
  obtain ⟨g, s, h1, h2⟩ := h
  have d2 : w.cell? ⟨lb, 2, none⟩ = some (.slice none 0 0) := cell_of_row _ _ 2 _ _ (0, 0) h1
  have hl : lb < w.heap.size := (Array.getElem?_eq_some_iff.1 h1).1
  have hl1 : lb < w.heap.size + 1 := by omega
  have hl2 : lb < w.heap.size + 1 + 1 := by omega
  go_enter Tryz.func26, Tryz.ntmps26
  go_wp2_with fail
  obtain ⟨W2, hW2⟩ : ∃ W2, (w.alloc (.cells #[.pointer (some ⟨lb, 0, none⟩)] 23)).alloc (.cells (Tryz.zeroCells105.setIfInBounds 0 (.int .i64 1)) 105) = W2 := ⟨_, rfl⟩
  have hb : Below w.heap.size w W2 := by rw [← hW2]; exact ((Below.refl _ w).alloc (Nat.le_refl _) _).alloc (by rw [World.size_alloc]; omega) _
  have c1 : W2.cell? ⟨w.heap.size + 1, 0, none⟩ = some (.int .i64 1) := by
    rw [← hW2, cell_of_row _ (w.heap.size + 1) 0 _ _ (0, 0) (at_alloc (by rw [World.size_alloc]) _)]
    kernel_rfl
  have Hb := Lib.hid hb
  have Hc1 := Lib.hid c1
  rw [hW2]
  clear hW2 hb
  go_loopw [18] (fun i wr => i = .int .i64 0 ∧ wr = W2) (fun _ _ => 0)
  case atStart => exact ⟨rfl, rfl⟩
  case round =>
    obtain ⟨rfl, rfl⟩ := hrel
    go_wp2_with fail
    go_ret
    exact ⟨_, rfl, Hc1.out, Hb.out⟩
theorem with_line (lb : Nat) (w : World) (h : LineM lb w) : Calls Tryz.prog 16 #[.pointer (some ⟨lb, 0, none⟩), .int .i64 0] w fun e w' => e = .returned (.int .i64 1) ∧ Below w.heap.size w w' := by
  have hc := Lib.hid (counts_line lb w h)
  clear h
  go_enter Tryz.func16, Tryz.ntmps16
  go_wp2_with fail
  refine hc.out.mono ?_
  rintro e w' ⟨g, rfl, c1, hb⟩
  go_wp2_with fail
  go_ret
  exact ⟨rfl, hb⟩
theorem wakes_any (w : World) : Calls Tryz.prog 4 #[] w fun e w' => e = .returned (.bool true) ∧ Below w.heap.size w w' := by
  have hx := Lib.hid lexnew_any
  have hf := Lib.hid fun p w => new_fine 0 p (by omega) w
  go_enter Tryz.func4, Tryz.ntmps4
  go_wp2_with fail
  refine (hx.out w).mono ?_
  rintro e w1 ⟨⟨p, rfl⟩, hb1⟩
  go_wp2_with fail
  refine (hf.out p w1).mono ?_
  rintro e w2 ⟨lb, rfl, hl, hb2⟩
  go_wp2_with fail
  go_ret
  exact ⟨rfl, hb1.trans (hb2.mono hb1.size)⟩
theorem infoU8 : Tryz.prog.info? 5 = some Tryz.t5 := by kernel_rfl
theorem zeroU8 : Tryz.t5.zero = some (.int .u8 0) := by kernel_rfl
theorem sizeU8 : Tryz.t5.size = 1 := by kernel_rfl
theorem bytesU8 : Tryz.t5.bytes = 1 := by kernel_rfl
theorem made_u8 (n k : Nat) (h : k < n) : (madeCells #[.int .u8 0] n)[k]? = some (.int .u8 0) := by
  unfold madeCells
  simp [h, Nat.mod_one]
def zC (n : Nat) : Array Value := madeCells #[.int .u8 0] n
theorem make_zt (n : Nat) (hn : n < 2000) (W : World) : (Instr.makeSlice 48 (.int .i64 n) (.int .i64 n)).run Tryz.prog W = .ok (.slice (some ⟨W.heap.size, 0, none⟩) n n) (W.alloc (.cells (zC n) 5)) := by
  have h := run_make (P := Tryz.prog) W 48 5 _ _ Tryz.underlying48 infoU8 zeroU8 .i64 .i64 n n (by omega) (by omega) (by rw [bytesU8]; omega) (by omega)
  rw [h, sizeU8, show ((n : Int)).toNat = n by omega, Nat.mul_one]
  rfl
theorem text_zt (n : Nat) (hn : n < 2000) (W : World) : (Go.convert 48 9 (.slice (some ⟨W.heap.size, 0, none⟩) n n)).run Tryz.prog (W.alloc (.cells (zC n) 5)) = .ok (.string (Zt n)) (W.alloc (.cells (zC n) 5)) := by
  unfold zC
  have hr := run_convert_bytes_back (P := Tryz.prog) (W.alloc (.cells (madeCells #[.int .u8 0] n) 5)) 48 9 5 ⟨W.heap.size, 0, none⟩ n (List.replicate n (0 : UInt8)) Tryz.underlying48 Tryz.underlying5 Tryz.underlying9 (fun j hj => by
    rw [List.length_replicate] at hj
    have e : Addr.add ⟨W.heap.size, 0, none⟩ j = ⟨W.heap.size, 0 + j, none⟩ := by
      simp [Addr.add]
      intro h
      exact h.symm
    rw [e, Nat.zero_add, World.cell?_alloc_new W _ _ j, made_u8 _ _ hj]
    simp)
  rw [List.length_replicate] at hr
  exact hr
end Go.Proofs.YthmpfnmdplknlaaGreat

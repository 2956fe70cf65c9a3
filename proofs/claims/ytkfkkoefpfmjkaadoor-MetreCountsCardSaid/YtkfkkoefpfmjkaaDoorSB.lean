import Derived.Test.YtkfkkoefpfmjkaaDoorSA
namespace Go.Proofs.YtkfkkoefpfmjkaaDoor
set_option linter.unusedVariables false
set_option linter.unusedSimpArgs false
open Go.RowKit

/- The shortest and the longest of some ways. -/
def minK (l : List Way) (k : Nat) : Nat := (l.take k).foldl (fun a v => min a v.1.size) (l.getD 0 default).1.size
def maxK (l : List Way) (k : Nat) : Nat := (l.take k).foldl (fun a v => max a v.1.size) (l.getD 0 default).1.size
theorem minK_succ (l : List Way) (k : Nat) (h : k < l.length) : minK l (k + 1) = min (minK l k) (l.getD k default).1.size := foldl_snoc _ _ l k h
theorem maxK_succ (l : List Way) (k : Nat) (h : k < l.length) : maxK l (k + 1) = max (maxK l k) (l.getD k default).1.size := foldl_snoc _ _ l k h
theorem minK_one (l : List Way) (h : 0 < l.length) : minK l 1 = (l.getD 0 default).1.size := by
  rw [minK_succ l 0 h]; unfold minK; simp
theorem maxK_one (l : List Way) (h : 0 < l.length) : maxK l 1 = (l.getD 0 default).1.size := by
  rw [maxK_succ l 0 h]; unfold maxK; simp
theorem minK_le (l : List Way) (q : Nat) (h : ∀ v ∈ l, v.1.size ≤ q) (h0 : 0 < l.length) : ∀ k, k ≤ l.length → minK l k ≤ q
  | 0, _ => by
    unfold minK; simp only [List.take_zero, List.foldl_nil]
    exact h _ (by rw [List.getD_eq_getElem?_getD, List.getElem?_eq_getElem h0]; exact List.getElem_mem h0)
  | k + 1, hk => by rw [minK_succ l k (by omega)]; have := minK_le l q h h0 k (by omega); omega
theorem maxK_le (l : List Way) (q : Nat) (h : ∀ v ∈ l, v.1.size ≤ q) (h0 : 0 < l.length) : ∀ k, k ≤ l.length → maxK l k ≤ q
  | 0, _ => by
    unfold maxK; simp only [List.take_zero, List.foldl_nil]
    exact h _ (by rw [List.getD_eq_getElem?_getD, List.getElem?_eq_getElem h0]; exact List.getElem_mem h0)
  | k + 1, hk => by
    rw [maxK_succ l k (by omega)]; have := maxK_le l q h h0 k (by omega)
    have hm := h (l.getD k default) (by rw [List.getD_eq_getElem?_getD, List.getElem?_eq_getElem (by omega)]; exact List.getElem_mem (by omega))
    omega
set_option maxHeartbeats 1000000 in
theorem len67_any (s1 s2 : ByteArray) (c1 c2 : Int) (w : World) (h1 : s1.size ≤ 100) (h2 : s2.size ≤ 100) :
    Calls Tryd.prog 67 #[.agg #[.string s1, .int .i64 c1], .agg #[.string s2, .int .i64 c2]] w fun e w' => e = .returned (.int .i64 ((s1.size : Int) - (s2.size : Int))) ∧ Below w.heap.size w w' := by
  go_enter Tryd.func67, Tryd.ntmps67
  go_wp2
  go_ret
  exact ⟨rfl, ((Below.refl _ _).alloc (Nat.le_refl _) _).alloc (by simp) _⟩


set_option maxRecDepth 100000 in
set_option maxHeartbeats 8000000 in
theorem minfunc_any (A : Option Addr) (c : Nat) (l : List Way) (w : World) (hl : IsWays w w.heap.size A l) (hp : 0 < l.length) (hn : l.length ≤ 100) (hc : l.length ≤ c) (h4 : ∀ v ∈ l, v.1.size ≤ 4) :
    Calls Tryd.prog 68 #[.slice A l.length c, .func (.func 67) #[] #[]] w fun e w' => ∃ v : Way, e = .returned (.agg #[.string v.1, .int .i64 v.2]) ∧ v.1.size = minK l l.length ∧ Below w.heap.size w w' := by
  obtain ⟨b, off, rfl, hbb, hrow⟩ := hl hp
  have r0 := (hrow 0 hp).1
  have r1 := (hrow 0 hp).2
  simp only [Nat.zero_mul, Nat.add_zero] at r0 r1
  have Hone := Lib.hid (minK_one l hp)
  have Hrow := Lib.hid hrow
  have H4 := Lib.hid h4
  have hdec : decide (l.length < 1) = false := decide_eq_false (by omega)
  have hsn : (l.getD 0 default).1.size ≤ 4 := h4 _ (by rw [List.getD_eq_getElem?_getD, List.getElem?_eq_getElem hp]; exact List.getElem_mem hp)
  clear hl hrow h4
  generalize l.getD 0 default = v0 at *
  obtain ⟨s0, c0⟩ := v0
  simp only [] at r0 r1 hsn Hone
  go_enter Tryd.func68, Tryd.ntmps68
  go_wp2_with fail
  go_loopw [6] (fun i wr => ∃ (k : Nat) (ms : ByteArray) (mc : Int), 1 ≤ k ∧ k ≤ l.length ∧ i = .int .i64 k ∧ Hid (ms.size = minK l k) ∧ ms.size ≤ 4 ∧ Hid (wr.heap[w.heap.size]? = some (.cells #[.string ⟨#[]⟩, .int .i64 0] 100 (0, 0))) ∧ Hid (wr.heap[w.heap.size + 1]? = some (.cells #[.string ms, .int .i64 mc] 100 (0, 0))) ∧ Hid (Below w.heap.size w wr)) (fun i _ => l.length - (intOf i).toNat)
  case atStart =>
    refine ⟨1, s0, c0, by omega, by omega, by rfl, Lib.hid (by rw [Hone.out]), hsn, Lib.hid ?_, Lib.hid ?_, Lib.hid (((Below.refl _ _).alloc (Nat.le_refl _) _).alloc (by simp) _)⟩
    · exact (Below.heap_alloc _ _ _ (by simp)).trans (World.alloc_heap_new w _)
    · have := World.alloc_heap_new (w.alloc (.cells #[.string ⟨#[]⟩, .int .i64 0] 100)) (.cells #[.string s0, .int .i64 c0] 100)
      rw [World.size_alloc] at this
      exact this
  case round =>
    rename_i wr
    obtain ⟨k, ms, mc, hk1, hk, rfl, hms, hm4, hb0, hb1, hbl⟩ := hrel
    clear r0 r1
    have hsz : w.heap.size + 1 < wr.heap.size := (Array.getElem?_eq_some_iff.1 hb1.out).1
    have q0 : wr.cell? ⟨w.heap.size + 1, 0, none⟩ = some (.string ms) := cell_of_row _ _ _ _ 100 (0, 0) hb1.out
    have q1 : wr.cell? ⟨w.heap.size + 1, 1, none⟩ = some (.int .i64 mc) := cell_of_row _ _ _ _ 100 (0, 0) hb1.out
    by_cases hlt : k < l.length
    · have p0 := (hbl.out.cell (p := ⟨b, off + k * 2, none⟩) hbb).trans (Hrow.out k hlt).1
      have p1 := (hbl.out.cell (p := ⟨b, off + k * 2 + 1, none⟩) hbb).trans (Hrow.out k hlt).2
      have Hsu := Lib.hid (minK_succ l k hlt)
      have hv4 : (l.getD k default).1.size ≤ 4 := H4.out _ (by rw [List.getD_eq_getElem?_getD, List.getElem?_eq_getElem hlt]; exact List.getElem_mem hlt)
      generalize l.getD k default = v at *
      obtain ⟨vs, vc⟩ := v
      simp only [] at p0 p1 hv4 Hsu
      have hbr : b < wr.heap.size := by omega
      have H67 := Lib.hid fun (W : World) => len67_any vs ms vc mc W (by omega) (by omega)
      by_cases hq : (vs.size : Int) - (ms.size : Int) < 0
      · have Hnew : Hid (vs.size = minK l (k + 1)) := Lib.hid (by rw [Hsu.out, ← hms.out]; omega)
        clear hms Hsu
        go_wp2_with fail
        go_region_held3 (fun w' => Below wr.heap.size wr w' ∧ ∀ b o, b < wr.heap.size → w'.cell? ⟨b, o, none⟩ = wr.cell? ⟨b, o, none⟩) (((repeat (apply keepS; assumption)); exact startS)) (first | (go_at_call 67; refine (H67.out _).mono ?_; rintro e w9 ⟨rfl, hb9⟩))
        have hS9 : Below wr.heap.size wr w9 := And.left (by assumption)
        have hf9 : w9.frozen? ⟨w.heap.size + 1, 0, none⟩ = false := (hS9.frozen (p := ⟨w.heap.size + 1, 0, none⟩) hsz).trans (frozen_of_row _ _ _ _ 100 hb1.out)
        have hf9' : w9.frozen? ⟨w.heap.size + 1, 1, none⟩ = false := (hS9.frozen (p := ⟨w.heap.size + 1, 1, none⟩) hsz).trans (frozen_of_row _ _ _ _ 100 hb1.out)
        have Hb0 := Lib.hid ((hS9.block w.heap.size (by omega)).trans hb0.out)
        have Hb1 := Lib.hid ((hS9.block (w.heap.size + 1) hsz).trans hb1.out)
        have Hbl := Lib.hid (hbl.out.trans (hS9.mono hbl.out.size))
        clear H67 hS9 hb9
        go_wp2_with fail
        go_roundw
        case rel => exact ⟨k + 1, vs, vc, by omega, by omega, by go_num, Hnew, hv4, Lib.hid ((Below.heap_setCell _ _ _ _ (by simp)).trans ((Below.heap_setCell _ _ _ _ (by simp)).trans Hb0.out)), Lib.hid (heap_setCell_same _ _ 1 _ 100 _ (heap_setCell_same _ _ 0 _ 100 _ Hb1.out)), Lib.hid ((Hbl.out.setCell (p := ⟨w.heap.size + 1, 0, none⟩) (by show w.heap.size ≤ w.heap.size + 1; omega) _).setCell (p := ⟨w.heap.size + 1, 1, none⟩) (by show w.heap.size ≤ w.heap.size + 1; omega) _)⟩
        case measure => simp [intOf]; omega
      · have Hnew : Hid (ms.size = minK l (k + 1)) := Lib.hid (by rw [Hsu.out, ← hms.out]; omega)
        clear hms Hsu
        go_wp2_with fail
        go_region_held3 (fun w' => Below wr.heap.size wr w' ∧ ∀ b o, b < wr.heap.size → w'.cell? ⟨b, o, none⟩ = wr.cell? ⟨b, o, none⟩) (((repeat (apply keepS; assumption)); exact startS)) (first | (go_at_call 67; refine (H67.out _).mono ?_; rintro e w9 ⟨rfl, hb9⟩))
        have hS9 : Below wr.heap.size wr w9 := And.left (by assumption)
        have Hb0 := Lib.hid ((hS9.block w.heap.size (by omega)).trans hb0.out)
        have Hb1 := Lib.hid ((hS9.block (w.heap.size + 1) hsz).trans hb1.out)
        have Hbl := Lib.hid (hbl.out.trans (hS9.mono hbl.out.size))
        clear H67 hS9 hb9
        go_wp2_with fail
        go_roundw
        case rel => exact ⟨k + 1, ms, mc, by omega, by omega, by go_num, Hnew, hm4, Hb0, Hb1, Hbl⟩
        case measure => simp [intOf]; omega
    · obtain rfl : k = l.length := by omega
      have hf0 : wr.frozen? ⟨w.heap.size, 0, none⟩ = false := frozen_of_row _ _ _ _ 100 hb0.out
      have hf1 : wr.frozen? ⟨w.heap.size, 1, none⟩ = false := frozen_of_row _ _ _ _ 100 hb0.out
      have z0 : wr.cell? ⟨w.heap.size, 0, none⟩ = some (.string ⟨#[]⟩) := cell_of_row _ _ _ _ 100 (0, 0) hb0.out
      have z1 : wr.cell? ⟨w.heap.size, 1, none⟩ = some (.int .i64 0) := cell_of_row _ _ _ _ 100 (0, 0) hb0.out
      go_wp2_with fail
      have y0 : (wr.setCell ⟨w.heap.size, 0, none⟩ (.string ms)).cell? ⟨w.heap.size, 0, none⟩ = some (.string ms) := cell_of_row _ _ 0 _ 100 (0, 0) (heap_setCell_same _ _ 0 _ 100 (.string ms) hb0.out)
      have y1 : ((wr.setCell ⟨w.heap.size, 0, none⟩ (.string ms)).setCell ⟨w.heap.size, 1, none⟩ (.int .i64 mc)).cell? ⟨w.heap.size, 1, none⟩ = some (.int .i64 mc) := cell_of_row _ _ 1 _ 100 (0, 0) (heap_setCell_same _ _ 1 _ 100 (.int .i64 mc) (heap_setCell_same _ _ 0 _ 100 (.string ms) hb0.out))
      exact bodyPost_ret (v := .agg #[.string ms, .int .i64 mc]) (by simp [results, Tryd.results68, go_sem, y0, y1]) rfl ⟨(ms, mc), rfl, hms.out, (hbl.out.setCell (p := ⟨w.heap.size, 0, none⟩) (Nat.le_refl _) _).setCell (p := ⟨w.heap.size, 1, none⟩) (Nat.le_refl _) _⟩


set_option maxRecDepth 100000 in
set_option maxHeartbeats 8000000 in
theorem maxfunc_any (A : Option Addr) (c : Nat) (l : List Way) (w : World) (hl : IsWays w w.heap.size A l) (hp : 0 < l.length) (hn : l.length ≤ 100) (hc : l.length ≤ c) (h4 : ∀ v ∈ l, v.1.size ≤ 4) :
    Calls Tryd.prog 69 #[.slice A l.length c, .func (.func 67) #[] #[]] w fun e w' => ∃ v : Way, e = .returned (.agg #[.string v.1, .int .i64 v.2]) ∧ v.1.size = maxK l l.length ∧ Below w.heap.size w w' := by
  obtain ⟨b, off, rfl, hbb, hrow⟩ := hl hp
  have r0 := (hrow 0 hp).1
  have r1 := (hrow 0 hp).2
  simp only [Nat.zero_mul, Nat.add_zero] at r0 r1
  have Hone := Lib.hid (maxK_one l hp)
  have Hrow := Lib.hid hrow
  have H4 := Lib.hid h4
  have hdec : decide (l.length < 1) = false := decide_eq_false (by omega)
  have hsn : (l.getD 0 default).1.size ≤ 4 := h4 _ (by rw [List.getD_eq_getElem?_getD, List.getElem?_eq_getElem hp]; exact List.getElem_mem hp)
  clear hl hrow h4
  generalize l.getD 0 default = v0 at *
  obtain ⟨s0, c0⟩ := v0
  simp only [] at r0 r1 hsn Hone
  go_enter Tryd.func69, Tryd.ntmps69
  go_wp2_with fail
  go_loopw [6] (fun i wr => ∃ (k : Nat) (ms : ByteArray) (mc : Int), 1 ≤ k ∧ k ≤ l.length ∧ i = .int .i64 k ∧ Hid (ms.size = maxK l k) ∧ ms.size ≤ 4 ∧ Hid (wr.heap[w.heap.size]? = some (.cells #[.string ⟨#[]⟩, .int .i64 0] 100 (0, 0))) ∧ Hid (wr.heap[w.heap.size + 1]? = some (.cells #[.string ms, .int .i64 mc] 100 (0, 0))) ∧ Hid (Below w.heap.size w wr)) (fun i _ => l.length - (intOf i).toNat)
  case atStart =>
    refine ⟨1, s0, c0, by omega, by omega, by rfl, Lib.hid (by rw [Hone.out]), hsn, Lib.hid ?_, Lib.hid ?_, Lib.hid (((Below.refl _ _).alloc (Nat.le_refl _) _).alloc (by simp) _)⟩
    · exact (Below.heap_alloc _ _ _ (by simp)).trans (World.alloc_heap_new w _)
    · have := World.alloc_heap_new (w.alloc (.cells #[.string ⟨#[]⟩, .int .i64 0] 100)) (.cells #[.string s0, .int .i64 c0] 100)
      rw [World.size_alloc] at this
      exact this
  case round =>
    rename_i wr
    obtain ⟨k, ms, mc, hk1, hk, rfl, hms, hm4, hb0, hb1, hbl⟩ := hrel
    clear r0 r1
    have hsz : w.heap.size + 1 < wr.heap.size := (Array.getElem?_eq_some_iff.1 hb1.out).1
    have q0 : wr.cell? ⟨w.heap.size + 1, 0, none⟩ = some (.string ms) := cell_of_row _ _ _ _ 100 (0, 0) hb1.out
    have q1 : wr.cell? ⟨w.heap.size + 1, 1, none⟩ = some (.int .i64 mc) := cell_of_row _ _ _ _ 100 (0, 0) hb1.out
    by_cases hlt : k < l.length
    · have p0 := (hbl.out.cell (p := ⟨b, off + k * 2, none⟩) hbb).trans (Hrow.out k hlt).1
      have p1 := (hbl.out.cell (p := ⟨b, off + k * 2 + 1, none⟩) hbb).trans (Hrow.out k hlt).2
      have Hsu := Lib.hid (maxK_succ l k hlt)
      have hv4 : (l.getD k default).1.size ≤ 4 := H4.out _ (by rw [List.getD_eq_getElem?_getD, List.getElem?_eq_getElem hlt]; exact List.getElem_mem hlt)
      generalize l.getD k default = v at *
      obtain ⟨vs, vc⟩ := v
      simp only [] at p0 p1 hv4 Hsu
      have hbr : b < wr.heap.size := by omega
      have H67 := Lib.hid fun (W : World) => len67_any vs ms vc mc W (by omega) (by omega)
      by_cases hq : (0 : Int) < (vs.size : Int) - (ms.size : Int)
      · have Hnew : Hid (vs.size = maxK l (k + 1)) := Lib.hid (by rw [Hsu.out, ← hms.out]; omega)
        clear hms Hsu
        go_wp2_with fail
        go_region_held3 (fun w' => Below wr.heap.size wr w' ∧ ∀ b o, b < wr.heap.size → w'.cell? ⟨b, o, none⟩ = wr.cell? ⟨b, o, none⟩) (((repeat (apply keepS; assumption)); exact startS)) (first | (go_at_call 67; refine (H67.out _).mono ?_; rintro e w9 ⟨rfl, hb9⟩))
        have hS9 : Below wr.heap.size wr w9 := And.left (by assumption)
        have hf9 : w9.frozen? ⟨w.heap.size + 1, 0, none⟩ = false := (hS9.frozen (p := ⟨w.heap.size + 1, 0, none⟩) hsz).trans (frozen_of_row _ _ _ _ 100 hb1.out)
        have hf9' : w9.frozen? ⟨w.heap.size + 1, 1, none⟩ = false := (hS9.frozen (p := ⟨w.heap.size + 1, 1, none⟩) hsz).trans (frozen_of_row _ _ _ _ 100 hb1.out)
        have Hb0 := Lib.hid ((hS9.block w.heap.size (by omega)).trans hb0.out)
        have Hb1 := Lib.hid ((hS9.block (w.heap.size + 1) hsz).trans hb1.out)
        have Hbl := Lib.hid (hbl.out.trans (hS9.mono hbl.out.size))
        clear H67 hS9 hb9
        go_wp2_with fail
        go_roundw
        case rel => exact ⟨k + 1, vs, vc, by omega, by omega, by go_num, Hnew, hv4, Lib.hid ((Below.heap_setCell _ _ _ _ (by simp)).trans ((Below.heap_setCell _ _ _ _ (by simp)).trans Hb0.out)), Lib.hid (heap_setCell_same _ _ 1 _ 100 _ (heap_setCell_same _ _ 0 _ 100 _ Hb1.out)), Lib.hid ((Hbl.out.setCell (p := ⟨w.heap.size + 1, 0, none⟩) (by show w.heap.size ≤ w.heap.size + 1; omega) _).setCell (p := ⟨w.heap.size + 1, 1, none⟩) (by show w.heap.size ≤ w.heap.size + 1; omega) _)⟩
        case measure => simp [intOf]; omega
      · have Hnew : Hid (ms.size = maxK l (k + 1)) := Lib.hid (by rw [Hsu.out, ← hms.out]; omega)
        clear hms Hsu
        go_wp2_with fail
        go_region_held3 (fun w' => Below wr.heap.size wr w' ∧ ∀ b o, b < wr.heap.size → w'.cell? ⟨b, o, none⟩ = wr.cell? ⟨b, o, none⟩) (((repeat (apply keepS; assumption)); exact startS)) (first | (go_at_call 67; refine (H67.out _).mono ?_; rintro e w9 ⟨rfl, hb9⟩))
        have hS9 : Below wr.heap.size wr w9 := And.left (by assumption)
        have Hb0 := Lib.hid ((hS9.block w.heap.size (by omega)).trans hb0.out)
        have Hb1 := Lib.hid ((hS9.block (w.heap.size + 1) hsz).trans hb1.out)
        have Hbl := Lib.hid (hbl.out.trans (hS9.mono hbl.out.size))
        clear H67 hS9 hb9
        go_wp2_with fail
        go_roundw
        case rel => exact ⟨k + 1, ms, mc, by omega, by omega, by go_num, Hnew, hm4, Hb0, Hb1, Hbl⟩
        case measure => simp [intOf]; omega
    · obtain rfl : k = l.length := by omega
      have hf0 : wr.frozen? ⟨w.heap.size, 0, none⟩ = false := frozen_of_row _ _ _ _ 100 hb0.out
      have hf1 : wr.frozen? ⟨w.heap.size, 1, none⟩ = false := frozen_of_row _ _ _ _ 100 hb0.out
      have z0 : wr.cell? ⟨w.heap.size, 0, none⟩ = some (.string ⟨#[]⟩) := cell_of_row _ _ _ _ 100 (0, 0) hb0.out
      have z1 : wr.cell? ⟨w.heap.size, 1, none⟩ = some (.int .i64 0) := cell_of_row _ _ _ _ 100 (0, 0) hb0.out
      go_wp2_with fail
      have y0 : (wr.setCell ⟨w.heap.size, 0, none⟩ (.string ms)).cell? ⟨w.heap.size, 0, none⟩ = some (.string ms) := cell_of_row _ _ 0 _ 100 (0, 0) (heap_setCell_same _ _ 0 _ 100 (.string ms) hb0.out)
      have y1 : ((wr.setCell ⟨w.heap.size, 0, none⟩ (.string ms)).setCell ⟨w.heap.size, 1, none⟩ (.int .i64 mc)).cell? ⟨w.heap.size, 1, none⟩ = some (.int .i64 mc) := cell_of_row _ _ 1 _ 100 (0, 0) (heap_setCell_same _ _ 1 _ 100 (.int .i64 mc) (heap_setCell_same _ _ 0 _ 100 (.string ms) hb0.out))
      exact bodyPost_ret (v := .agg #[.string ms, .int .i64 mc]) (by simp [results, Tryd.results69, go_sem, y0, y1]) rfl ⟨(ms, mc), rfl, hms.out, (hbl.out.setCell (p := ⟨w.heap.size, 0, none⟩) (Nat.le_refl _) _).setCell (p := ⟨w.heap.size, 1, none⟩) (Nat.le_refl _) _⟩

end Go.Proofs.YtkfkkoefpfmjkaaDoor

import Derived.Test.YthmpfnmdplknlaaGreatLG
import Derived.Carry
/- lexicon.New; line.New where it refuses; counting the readings of a line without words. -/
namespace Go.Proofs.YthmpfnmdplknlaaGreat
set_option linter.unusedVariables false
set_option linter.unusedSimpArgs false
open Go.RowKit Go.Lib Go.Shelf
attribute [local go_sem] Oper.semAt_some
theorem lexnew_any (w : World) : Calls Tryz.prog 13 #[.pointer none] w fun e w' => (∃ p, e = .returned (.pointer (some ⟨p, 0, none⟩))) ∧ Below w.heap.size w w' := by
  go_enter Tryz.func13, Tryz.ntmps13
  have hmm := @run_makeMap Tryz.prog
  go_wp2_with fail
  go_ret
  exact ⟨⟨_, rfl⟩, ((((Below.refl _ w).alloc (Nat.le_refl _) _).alloc (by simp) _).alloc (by simp; omega) _)⟩
theorem al5 (w : World) (a b c d e : Obj) : (((((w.alloc a).alloc b).alloc c).alloc d).alloc e).heap[w.heap.size + 1 + 1 + 1]? = some d ∧ (((((w.alloc a).alloc b).alloc c).alloc d).alloc e).heap[w.heap.size + 1 + 1 + 1 + 1]? = some e ∧ Below w.heap.size w (((((w.alloc a).alloc b).alloc c).alloc d).alloc e) := by
  refine ⟨?_, ?_, ?_⟩
  · have := World.alloc_heap_new (((w.alloc a).alloc b).alloc c) d
    rw [World.size_alloc, World.size_alloc, World.size_alloc] at this
    exact al_at this e
  · have := World.alloc_heap_new ((((w.alloc a).alloc b).alloc c).alloc d) e
    rw [World.size_alloc, World.size_alloc, World.size_alloc, World.size_alloc] at this
    exact this
  · exact ((((((Below.refl _ w).alloc (Nat.le_refl _) _).alloc (by simp) _).alloc (by simp; omega) _).alloc (by simp; omega) _).alloc (by simp; omega) _)
theorem res_new {W : World} {T : Array Value} {p q : Nat} {x y : Value} (h2 : T.getD 6 undef = .pointer (some ⟨p, 0, none⟩)) (h3 : T.getD 7 undef = .pointer (some ⟨q, 0, none⟩)) (hp : W.heap[p]? = some (.cells #[x] 23 (0, 0))) (hq : W.heap[q]? = some (.cells #[y] 26 (0, 0))) :
    (results Tryz.f12 T).run Tryz.prog W = .ok (.tuple #[x, y]) W := by
  have d0 : W.cell? ⟨p, 0, none⟩ = some x := cell_of_row _ _ 0 _ _ (0, 0) hp
  have d1 : W.cell? ⟨q, 0, none⟩ = some y := cell_of_row _ _ 0 _ _ (0, 0) hq
  have h2' : T[6]?.getD undef = .pointer (some ⟨p, 0, none⟩) := by simpa using h2
  have h3' : T[7]?.getD undef = .pointer (some ⟨q, 0, none⟩) := by simpa using h3
  simp [results, Tryz.f12, go_sem, h2', h3', d0, d1]
set_option maxRecDepth 100000 in
theorem new_nil (r : Int) (s : ByteArray) (w : World) : Calls Tryz.prog 12 #[.pointer none, .int .i64 r, .string s] w fun e w' => e = .returned (.tuple #[.pointer none, .int .i64 1]) ∧ Below w.heap.size w w' := by
  go_enter Tryz.func12, Tryz.ntmps12
  go_wp2_with fail
  obtain ⟨h6, h7, hb⟩ := al5 w _ _ _ _ _
  exact bodyPost_ret (res_new rfl rfl h6 h7) rfl ⟨rfl, hb⟩
set_option maxRecDepth 100000 in
theorem new_arg (p : Nat) (s : ByteArray) (w : World) : Calls Tryz.prog 12 #[.pointer (some ⟨p, 0, none⟩), .int .i64 0, .string s] w fun e w' => e = .returned (.tuple #[.pointer none, .int .i64 2]) ∧ Below w.heap.size w w' := by
  go_enter Tryz.func12, Tryz.ntmps12
  go_wp2_with fail
  obtain ⟨h6, h7, hb⟩ := al5 w _ _ _ _ _
  exact bodyPost_ret (res_new rfl rfl h6 h7) rfl ⟨rfl, hb⟩
set_option maxRecDepth 100000 in
theorem new_long (p : Nat) (w : World) : Calls Tryz.prog 12 #[.pointer (some ⟨p, 0, none⟩), .int .i64 1, .string (Zt 1025)] w fun e w' => e = .returned (.tuple #[.pointer none, .int .i64 3]) ∧ Below w.heap.size w w' := by
  have hs := Zt_size 1025
  go_enter Tryz.func12, Tryz.ntmps12
  go_wp2_with fail
  obtain ⟨h6, h7, hb⟩ := al5 w _ _ _ _ _
  exact bodyPost_ret (res_new rfl rfl h6 h7) rfl ⟨rfl, hb⟩
theorem grown_alloc {a w : World} {row : Option Nat} (h : a.grownBy w row) (o : Obj) : a.grownBy (w.alloc o) row :=
  ⟨h.os, h.tape, h.output, Nat.le_trans h.size (by simp), fun i hi hne => (Below.heap_alloc w o i (Nat.lt_of_lt_of_le hi h.size)).trans (h.block i hi hne)⟩
/-- a line without words -/
def LineM (lb : Nat) (V : World) : Prop := ∃ g s, V.heap[lb]? = some (.cells #[.string s, .slice none 0 0, .slice none 0 0, .slice none 0 0, .slice (some ⟨g, 0, none⟩) 1 1] 60 (0, 0)) ∧ V.heap[g]? = some (.cells #[.int .i64 1, .int .i64 0] 101 (0, 0))
theorem infoWy : Tryz.prog.info? 101 = some Tryz.t101 := by kernel_rfl
theorem zeroWy : Tryz.t101.zero = some (.agg #[.int .i64 0, .int .i64 0]) := by kernel_rfl
theorem sizeWy : Tryz.t101.size = 2 := by kernel_rfl
theorem bytesWy : Tryz.t101.bytes = 16 := by kernel_rfl
theorem make_ways (W : World) : (Instr.makeSlice 58 (.int .i64 1) (.int .i64 1)).run Tryz.prog W = .ok (.slice (some ⟨W.heap.size, 0, none⟩) 1 1) (W.alloc (.cells #[.int .i64 0, .int .i64 0] 101)) := by
  have h := run_make (P := Tryz.prog) W 58 101 _ _ Tryz.underlying58 infoWy zeroWy .i64 .i64 1 1 (by omega) (by omega) (by rw [bytesWy]; omega) (by omega)
  rw [h, sizeWy]
  have e : madeCells #[.int .i64 0, .int .i64 0] 2 = #[.int .i64 0, .int .i64 0] := by
    apply Array.ext'
    simp [madeCells, Array.toList_range, List.range_succ]
  show Result.ok (Value.slice _ 1 1) (W.alloc (.cells (madeCells #[.int .i64 0, .int .i64 0] 2) _)) = _
  rw [e]
set_option maxRecDepth 100000 in
theorem count_none (lb : Nat) (s : ByteArray) (w : World) (h : w.heap[lb]? = some (.cells #[.string s, .slice none 0 0, .slice none 0 0, .slice none 0 0, .slice none 0 0] 60 (0, 0))) :
    Calls Tryz.prog 33 #[.pointer (some ⟨lb, 0, none⟩)] w fun e w' => (∃ v, e = .returned v) ∧ LineM lb w' ∧ w.grownBy w' (some lb) := by
  have hs : lb < w.heap.size := (Array.getElem?_eq_some_iff.1 h).1
  have d1 : w.cell? ⟨lb, 1, none⟩ = some (.slice none 0 0) := cell_of_row _ _ 1 _ _ (0, 0) h
  have d4 : w.cell? ⟨lb, 4, none⟩ = some (.slice none 0 0) := cell_of_row _ _ 4 _ _ (0, 0) h
  have z4 := frozen_of_row w lb 4 _ _ h
  go_enter Tryz.func33, Tryz.ntmps33
  go_wp2_with fail
  go_loopw [3] (fun i wr => i = .int .i64 0 ∧ wr = w) (fun _ _ => 0)
  case atStart => exact ⟨rfl, rfl⟩
  case round =>
    obtain ⟨rfl, rfl⟩ := hrel
    have hmk := make_ways wr
    go_wp2_with fail
    obtain ⟨W5, hW5⟩ : ∃ W5, (wr.setCell ⟨lb, 4, none⟩ (.slice (some ⟨wr.heap.size, 0, none⟩) 1 1)).alloc (.cells #[.int .i64 1, .int .i64 0] 101) = W5 := ⟨_, rfl⟩
    have hfin : LineM lb W5 ∧ wr.grownBy W5 (some lb) := by
      have h1 := heap_setCell_same wr lb 4 _ _ (.slice (some ⟨wr.heap.size, 0, none⟩) 1 1) h
      have h2 := World.alloc_heap_new (wr.setCell ⟨lb, 4, none⟩ (.slice (some ⟨wr.heap.size, 0, none⟩) 1 1)) (.cells #[.int .i64 1, .int .i64 0] 101)
      rw [World.size_setCell] at h2
      rw [← hW5]
      exact ⟨⟨_, _, al_at h1 _, h2⟩, grown_alloc (only_set (only_below (Below.refl _ wr) _) (.inl rfl) _) _⟩
    have Hfin := Lib.hid hfin
    rw [hW5]
    clear hW5 hfin
    go_loopw [4] (fun i w' => i = .int .i64 (-1) ∧ w' = W5) (fun _ _ => 0)
    case atStart => exact ⟨rfl, rfl⟩
    case round =>
      obtain ⟨rfl, rfl⟩ := hrel
      go_wp2_with fail
      go_end0
      exact ⟨⟨_, rfl⟩, Hfin.out⟩
end Go.Proofs.YthmpfnmdplknlaaGreat

import Derived.Test.YthmpfnmdplknlaaGreatLA
import Derived.Test.YthmpfnmdplknlaaGreatLC
import Derived.TacticsInMore
import Derived.LoopNIn
import Derived.LoopIn
import Derived.OwnWalkIn
/- The pieces of a text of noughts, handed out one by one. -/
namespace Go.Proofs.YthmpfnmdplknlaaGreat
set_option linter.unusedVariables false
set_option linter.unusedSimpArgs false
open Go.RowKit Go.Lib
attribute [local go_sem] Oper.semAt_some
theorem only_below {a w : World} (h : Below a.heap.size a w) (row : Option Nat) : a.grownBy w row := ⟨h.os, h.tape, h.output, h.size, fun i hi _ => h.block i hi⟩
def InBox (b : Nat) (t : TypeId) (v : Value) (w : World) : Prop := w.heap[b]? = some (.cells #[v] t (0, 0))
theorem pieces_make (s : ByteArray) (w : World) : Calls Tryz.prog 54 #[.string s] w fun e w' => e = .returned (.func (.func 75) #[] #[.pointer (some ⟨w.heap.size, 0, none⟩)]) ∧ w' = w.alloc (.cells #[.string s] 9) := by
  go_enter Tryz.func54, Tryz.ntmps54
  go_wp2_with fail
  go_ret
  exact ⟨rfl, rfl⟩
set_option maxRecDepth 100000 in
set_option maxHeartbeats 4000000 in
theorem pieces_seq (n N : Nat) (hn : 3 ≤ n) (hN : N < 2000) (b : Nat) (w : World) (hb : InBox b 9 (.string (Zt N)) w) :
    SeqL Fence.wide n Tryz.prog 75 #[.pointer (some ⟨b, 0, none⟩)] (fun i => #[pieceV i]) (List.range N) [b] w := fun l J W hW hJ hY h0 => by
  refine callsIn_of_wp Tryz.func75 rfl trivial ?_ rfl
  simp only [Tryz.ntmps75, List.size_toArray, List.length_cons, List.length_nil, Nat.reduceAdd, Nat.reduceSub, Array.replicate_succ, Array.replicate_zero, List.push_toArray, List.append_toArray, List.nil_append, List.cons_append]
  have hbl : b < w.heap.size := (Array.getElem?_eq_some_iff.1 hb).1
  have hbW : InBox b 9 (.string (Zt N)) W := (hW.block _ hbl).trans hb
  have c0 : W.cell? ⟨b, 0, none⟩ = some (.string (Zt N)) := cell_of_row _ _ 0 _ _ (0, 0) hbW
  gi_wp2
  gi_loopw [] (fun wr => ∃ i : Nat, i ≤ N ∧ wr.heap[W.heap.size]? = some (.stringIter (Zt N) i) ∧ InBox b 9 (.string (Zt N)) wr ∧ J i wr) (fun wr => N - wr.iterPos W.heap.size)
  case atStart =>
    exact ⟨0, by omega, World.iter_heap W _ 0, (Below.heap_alloc _ _ _ (by have := hW.size; omega)).trans hbW, hJ.alloc _ h0⟩
  case round =>
    obtain ⟨i, hi, hI, hB, hJi⟩ := hrel
    by_cases hlt : i < N
    · have hil : i < (Zt N).size := by rw [Zt_size]; exact hlt
      have hnx : (Instr.next (.pointer (some ⟨W.heap.size, 0, none⟩)) true 0).run Tryz.prog wr = .ok (.tuple #[.bool true, .int .i64 i, .int .i32 0]) (wr.iterAt W.heap.size (Zt N) (i + 1)) := by
        have h := run_next_ascii_at (P := Tryz.prog) wr _ (Zt N) i 0 hI hil (by rw [Zt_get]; decide)
        rw [Zt_get] at h
        exact h
      have hI1 := iterAt_heap wr W.heap.size (Zt N) i (i + 1) hI
      have hWs := hW.size
      have hB1 : InBox b 9 (.string (Zt N)) (wr.iterAt W.heap.size (Zt N) (i + 1)) := (iterAt_other wr W.heap.size b (Zt N) (i + 1) (by omega)).trans hB
      have hJ1 : J i (wr.iterAt W.heap.size (Zt N) (i + 1)) := hJ _ _ _ (some W.heap.size) hJi ⟨rfl, rfl, rfl, by rw [iterAt_size]; exact Nat.le_refl _, fun j _ hj => iterAt_other wr _ _ (Zt N) _ (fun e => hj (by rw [e]))⟩ (fun r e => by cases e; omega)
      have hpos : wr.iterPos W.heap.size = i := by unfold World.iterPos; rw [hI]
      have Hpos := Lib.hid hpos
      generalize hw1 : wr.iterAt W.heap.size (Zt N) (i + 1) = w1 at *
      have c1 : w1.cell? ⟨b, 0, none⟩ = some (.string (Zt N)) := cell_of_row _ _ 0 _ _ (0, 0) hB1
      have hr := read_nought N i hlt hN w1
      have Hr := Lib.hid hr
      clear hr hpos c0
      gi_wp2
      refine ⟨trivial, fun _ => by omega, CallsIn.mono (callsIn_wide.2 Hr.out) ?_⟩
      rintro e w' ⟨rfl, hbw⟩
      have hB2 : InBox b 9 (.string (Zt N)) w' := (hbw.block _ (Array.getElem?_eq_some_iff.1 hB1).1).trans hB1
      have hI2 := (hbw.block _ (Array.getElem?_eq_some_iff.1 hI1).1).trans hI1
      have hJ2 : J i w' := hJ _ _ _ none hJ1 (only_below hbw none) (fun r e => by cases e)
      obtain ⟨fn, tmps, assign, body, hy, hR⟩ := hY i i w' (by simp [hlt]) hJ2
      have HR := Lib.hid hR
      clear hR
      gi_wp2
      refine And.intro (fun _ => (by omega)) (RoundIn.mono (F := Fence.wide) (roundAny rfl _ HR.out) ?_)
      rintro e W4 ⟨rfl, hJ4, hk4, hs4⟩
      have hB4 : InBox b 9 (.string (Zt N)) W4 := hs4 b (by simp) _ hB2
      have hI4 := hk4.2 _ _ (Nat.le_refl _) hI2
      gi_wp2
      refine ⟨⟨i + 1, by omega, hI4, hB4, hJ4⟩, ?_⟩
      have : W4.iterPos W.heap.size = i + 1 := by unfold World.iterPos; rw [hI4]
      rw [this, Hpos.out]; omega
    · obtain rfl : i = N := by omega
      have hnx : (Instr.next (.pointer (some ⟨W.heap.size, 0, none⟩)) true 0).run Tryz.prog wr = .ok (.tuple #[.bool false]) wr := run_next_end_at wr _ (Zt i) i 0 hI (by rw [Zt_size]; omega)
      gi_wp2
      go_end0
      exact ⟨⟨_, rfl⟩, by rw [List.length_range]; exact hJi⟩
end Go.Proofs.YthmpfnmdplknlaaGreat

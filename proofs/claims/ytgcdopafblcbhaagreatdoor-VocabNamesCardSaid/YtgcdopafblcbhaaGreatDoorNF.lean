import Derived.Test.YtgcdopafblcbhaaGreatDoorNA
import Derived.Test.YtgcdopafblcbhaaGreatDoorNE
import Derived.TacticsInMore
import Derived.LoopNIn
import Derived.LoopIn
import Derived.OwnWalkIn
import Derived.Shelf.Abstract
/- The pieces of a text, handed out one by one. -/
namespace Go.Proofs.YtgcdopafblcbhaaGreatDoor
set_option linter.unusedVariables false
set_option linter.unusedSimpArgs false
open Go.RowKit Go.Lib Go.Shelf
attribute [local go_sem] Oper.semAt_some
def InBox (b : Nat) (t : TypeId) (v : Value) (w : World) : Prop := w.heap[b]? = some (.cells #[v] t (0, 0))
theorem only_below {a w : World} (h : Below a.heap.size a w) (row : Option Nat) : a.grownBy w row := ⟨h.os, h.tape, h.output, h.size, fun i hi _ => h.block i hi⟩
theorem keptB {W W' : World} {k : Nat} {o : Obj} (h : W.heap[k]? = some o) (hb : Below W.heap.size W W') : W'.heap[k]? = some o := (hb.block _ (Array.getElem?_eq_some_iff.1 h).1).trans h
theorem old_at {A B : World} {row : Option Nat} {k M : Nat} {o : Obj} (ho : A.heap[k]? = some o) (hg : A.grownBy B row) (hr : ∀ r, row = some r → M ≤ r) (hk : k < M) : B.heap[k]? = some o :=
  (hg.block _ (Array.getElem?_eq_some_iff.1 ho).1 (fun e => by have := hr _ e.symm; omega)).trans ho
theorem al_at {w : World} {k : Nat} {o : Obj} (h : w.heap[k]? = some o) (x : Obj) : (w.alloc x).heap[k]? = some o := (Below.heap_alloc _ _ _ (Array.getElem?_eq_some_iff.1 h).1).trans h
theorem drop_get {α : Type} {L : List α} {k : Nat} {x : α} {t : List α} (h : L.drop k = x :: t) : L[k]? = some x ∧ L.drop (k + 1) = t ∧ k < L.length := by
  have hk : k < L.length := by
    by_cases hk : k < L.length
    · exact hk
    · rw [List.drop_eq_nil_of_le (by omega)] at h; cases h
  rw [List.drop_eq_getElem_cons hk] at h
  injection h with h1 h2
  exact ⟨by rw [List.getElem?_eq_getElem hk, h1], h2, hk⟩
theorem pieces_make (s : ByteArray) (w : World) : Calls Tryz.prog 57 #[.string s] w fun e w' => e = .returned (.func (.func 99) #[] #[.pointer (some ⟨w.heap.size, 0, none⟩)]) ∧ w' = w.alloc (.cells #[.string s] 9) := by
  go_enter Tryz.func57, Tryz.ntmps57
  go_wp2_with fail
  go_ret
  exact ⟨rfl, rfl⟩
set_option maxRecDepth 100000 in
set_option maxHeartbeats 4000000 in
theorem pieces_seq (n : Nat) (s : ByteArray) (hn : 3 ≤ n) (hs : s.size < 1000000) (b : Nat) (w : World) (hb : InBox b 9 (.string s) w) :
    SeqX Fence.wide n Tryz.prog 99 #[.pointer (some ⟨b, 0, none⟩)] (fun p => #[pcV p]) (pcs s) [b] w := fun l J Jx W hW hJ hJx hY h0 => by
  refine callsIn_of_wp Tryz.func99 rfl trivial ?_ rfl
  simp only [Tryz.ntmps99, List.size_toArray, List.length_cons, List.length_nil, Nat.reduceAdd, Nat.reduceSub, Array.replicate_succ, Array.replicate_zero, List.push_toArray, List.append_toArray, List.nil_append, List.cons_append]
  have hbl : b < w.heap.size := (Array.getElem?_eq_some_iff.1 hb).1
  have hbW : InBox b 9 (.string s) W := (hW.block _ hbl).trans hb
  have c0 : W.cell? ⟨b, 0, none⟩ = some (.string s) := cell_of_row _ _ 0 _ _ (0, 0) hbW
  gi_wp2
  gi_loopw [] (fun wr => ∃ i k f : Nat, i ≤ s.size ∧ s.size ≤ i + f ∧ k ≤ (pcs s).length ∧ (pcs s).drop k = pcsF s f i ∧ wr.heap[W.heap.size]? = some (.stringIter s i) ∧ InBox b 9 (.string s) wr ∧ J k wr) (fun wr => s.size - wr.iterPos W.heap.size)
  case atStart =>
    exact ⟨0, 0, s.size, by omega, by omega, by omega, rfl, World.iter_heap W _ 0, (Below.heap_alloc _ _ _ (by have := hW.size; omega)).trans hbW, hJ.alloc _ h0⟩
  case round =>
    obtain ⟨i, k, f, hi, hf, hk, hd, hI, hB, hJi⟩ := hrel
    by_cases hlt : i < s.size
    · obtain ⟨f, rfl⟩ : ∃ f', f = f' + 1 := ⟨f - 1, by omega⟩
      have hd' := hd
      unfold pcsF at hd'
      rw [if_pos hlt] at hd'
      obtain ⟨hx, hd2, hk2⟩ := drop_get hd'
      have hw1 := decode_width_pos s i hlt
      have hwle : i + (Utf8.decode s i).2 ≤ s.size := by
        have h0 := decodeN_width_le (s.size - i) (s.get! i).toNat (s.get! (i + 1)).toNat (s.get! (i + 2)).toNat (s.get! (i + 3)).toNat (by omega)
        rw [← decode_at] at h0
        omega
      have hnx := run_next_any_at (P := Tryz.prog) wr _ s i 0 hI hlt
      have hI1 := iterAt_heap wr W.heap.size s i (i + (Utf8.decode s i).2) hI
      have hWs := hW.size
      have hB1 : InBox b 9 (.string s) (wr.iterAt W.heap.size s (i + (Utf8.decode s i).2)) := (iterAt_other wr W.heap.size b s _ (by omega)).trans hB
      have hJ1 : J k (wr.iterAt W.heap.size s (i + (Utf8.decode s i).2)) := hJ _ _ _ (some W.heap.size) hJi ⟨rfl, rfl, rfl, by rw [iterAt_size]; exact Nat.le_refl _, fun j _ hj => iterAt_other wr _ _ s _ (fun e => hj (by rw [e]))⟩ (fun r e => by cases e; omega)
      have hpos : wr.iterPos W.heap.size = i := by unfold World.iterPos; rw [hI]
      have Hpos := Lib.hid hpos
      have hr := read_any s i hlt hs (wr.iterAt W.heap.size s (i + (Utf8.decode s i).2))
      have Hd := Lib.hid hd2
      have Hw := Lib.hid (And.intro hw1 hwle)
      clear hd hd' hd2 hw1 hwle
      generalize hwd : (Utf8.decode s i).2 = wd at *
      generalize hw1 : wr.iterAt W.heap.size s (i + wd) = w1 at *
      have c1 : w1.cell? ⟨b, 0, none⟩ = some (.string s) := cell_of_row _ _ 0 _ _ (0, 0) hB1
      have Hr := Lib.hid hr
      clear hr hpos c0
      gi_wp2
      refine ⟨trivial, fun _ => by omega, CallsIn.mono (callsIn_wide.2 Hr.out) ?_⟩
      rintro e w' ⟨rfl, hbw⟩
      have hB2 : InBox b 9 (.string s) w' := (hbw.block _ (Array.getElem?_eq_some_iff.1 hB1).1).trans hB1
      have hI2 := (hbw.block _ (Array.getElem?_eq_some_iff.1 hI1).1).trans hI1
      have hJ2 : J k w' := hJ _ _ _ none hJ1 (only_below hbw none) (fun r e => by cases e)
      obtain ⟨fn, tmps, assign, body, hy, hR⟩ := hY k _ w' hx hJ2
      have HR := Lib.hid hR
      clear hR
      gi_wp2
      refine And.intro (fun _ => (by omega)) (RoundIn.mono (F := Fence.wide) (roundAny rfl _ HR.out) ?_)
      rintro e W4 ⟨hk4, hs4, (⟨rfl, hJ4⟩ | ⟨rfl, hJ4⟩)⟩
      · have hB4 : InBox b 9 (.string s) W4 := hs4 b (by simp) _ hB2
        have hI4 := hk4.2 _ _ (Nat.le_refl _) hI2
        gi_wp2
        refine ⟨⟨i + wd, k + 1, f, Hw.out.2, by have := Hw.out.1; omega, by omega, Hd.out, hI4, hB4, hJ4⟩, ?_⟩
        have : W4.iterPos W.heap.size = i + wd := by unfold World.iterPos; rw [hI4]
        rw [this, Hpos.out]
        have := Hw.out.1
        omega
      · gi_wp2
        refine bodyPost_ret (results_none rfl _ _ _) rfl ?_
        exact ⟨⟨_, rfl⟩, .inr ⟨k, hk2, hJ4⟩⟩
    · obtain rfl : i = s.size := by omega
      have hnx : (Instr.next (.pointer (some ⟨W.heap.size, 0, none⟩)) true 0).run Tryz.prog wr = .ok (.tuple #[.bool false]) wr := run_next_end_at wr _ s s.size 0 hI (by omega)
      have hkl : k = (pcs s).length := by
        have he : (pcs s).drop k = [] := by
          rw [hd]
          cases f with
          | zero => rfl
          | succ f => unfold pcsF; rw [if_neg (by omega)]
        have := List.drop_eq_nil_iff.1 he
        omega
      subst hkl
      gi_wp2
      go_end0
      exact ⟨⟨_, rfl⟩, .inl hJi⟩
end Go.Proofs.YtgcdopafblcbhaaGreatDoor

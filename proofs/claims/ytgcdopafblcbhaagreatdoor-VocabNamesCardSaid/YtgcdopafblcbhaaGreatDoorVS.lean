import Derived.Test.YtgcdopafblcbhaaGreatDoorVR
import Derived.Deep.CutBlock
/- A vocabulary without entries: adding nothing. -/
namespace Go.Proofs.YtgcdopafblcbhaaGreatDoor
set_option linter.unusedVariables false
set_option linter.unusedSimpArgs false
open Go.RowKit Go.Lib Go.Shelf
attribute [local go_sem] Oper.semAt_some

/-- while nothing is added -/
structure NoI (w : World) (p m : Nat) (l o : Value) (V : World) : Prop where
  b : Below w.heap.size w V
  x0 : V.heap[w.heap.size]? = some (.cells #[.pointer (some ⟨p, 0, none⟩)] 23 (0, 0))
  x1 : V.heap[p]? = some (.cells #[l, o, .int .i64 4, .slice none 0 0, .map (some m)] 79 (0, 0))
theorem NoI.put {w V : World} {p m : Nat} {l o : Value} (h : NoI w p m l o V) (h1 : w.heap[p]? = some (.cells #[l, o, .int .i64 4, .slice none 0 0, .map (some m)] 79 (0, 0))) : NoI w p m l o (V.setCell ⟨p, 3, none⟩ (.slice none 0 0)).drew := by
  have hp : p < w.heap.size := (Array.getElem?_eq_some_iff.1 h1).1
  have hs : (V.setCell ⟨p, 3, none⟩ (.slice none 0 0)).heap[p]? = some (.cells #[l, o, .int .i64 4, .slice none 0 0, .map (some m)] 79 (0, 0)) := heap_setCell_same V p 3 _ _ _ h.x1
  have hg := grown_put V p 3 (.slice none 0 0)
  have k0 := keptG h.x0 hg (show w.heap.size ≠ p by omega)
  refine ⟨⟨h.b.os, h.b.tape, h.b.output, Nat.le_trans h.b.size hg.size, fun i hi => ?_⟩, k0, hs⟩
  by_cases e : i = p
  · subst e; exact hs.trans h1.symm
  · exact (hg.block i (by have := h.b.size; omega) (fun e2 => e (by cases e2; rfl))).trans (h.b.block i hi)
theorem NoI.drew {w V : World} {p m : Nat} {l o : Value} (h : NoI w p m l o V) : NoI w p m l o V.drew := ⟨h.b.drew, h.x0, h.x1⟩
set_option maxRecDepth 100000 in
set_option maxHeartbeats 8000000 in
theorem add_none (p m : Nat) (w : World) (h : VcI p m w) : Calls Tryz.prog 37 #[.pointer (some ⟨p, 0, none⟩), .slice none 0 0] w fun e w' => e = .returned (.tuple #[.int .i64 0, .int .i64 0]) ∧ Below w.heap.size w w' := by
  have hmm := @run_makeMap Tryz.prog
  obtain ⟨l, o, h1⟩ := h.c
  have hp : p < w.heap.size := (Array.getElem?_eq_some_iff.1 h1).1
  obtain ⟨W1, hW1⟩ : ∃ W1, ((w.alloc (.cells #[.pointer (some ⟨p, 0, none⟩)] 23)).alloc (.map #[] 0)).alloc (.cells #[.map (some (w.heap.size + 1))] 77) = W1 := ⟨_, rfl⟩
  have hb1 : Below w.heap.size w W1 := by rw [← hW1]; exact (((Below.refl _ w).alloc (Nat.le_refl _) _).alloc (by simp) _).alloc (by simp; omega) _
  have hx0 : W1.heap[w.heap.size]? = some (.cells #[.pointer (some ⟨p, 0, none⟩)] 23 (0, 0)) := by rw [← hW1]; exact al_at (al_at (World.alloc_heap_new w _) _) _
  have hx1 := keptB h1 hb1
  have c0 : W1.cell? ⟨w.heap.size, 0, none⟩ = some (.pointer (some ⟨p, 0, none⟩)) := cell_of_row _ _ 0 _ _ (0, 0) hx0
  have c3 : W1.cell? ⟨p, 3, none⟩ = some (.slice none 0 0) := cell_of_row _ _ 3 _ _ (0, 0) hx1
  have z3 := frozen_of_row _ p 3 _ _ hx1
  have HW1 := Lib.hid hW1
  have H1 := Lib.hid (NoI.mk (m := m) hb1 hx0 hx1)
  have Hh1 := Lib.hid h1
  have Hc := fun W => Lib.hid (clone_none W)
  have Hs := fun f W => Lib.hid (sort_none f W)
  clear h h1 hW1 hb1 hx0 hx1
  go_enter Tryz.func37, Tryz.ntmps37
  go_upto_region 2 with (fail)
  rw [HW1.out]
  go_wp2_with fail
  go_loopw [7, 17] (fun t7 t17 wr => t7 = .slice none 0 0 ∧ t17 = .int .i64 0 ∧ W1 = wr) (fun _ _ _ => 0)
  case atStart => exact ⟨rfl, rfl, rfl⟩
  case round =>
    obtain ⟨rfl, rfl, rfl⟩ := hrel
    go_wp2_with fail
    go_loopw [56] (fun t56 wr => t56 = .int .i64 0 ∧ W1 = wr) (fun _ _ => 0)
    case atStart => exact ⟨rfl, rfl⟩
    case round =>
      obtain ⟨rfl, rfl⟩ := hrel
      go_wp2_with fail
      go_cut [77] from 70 to 77 (fun t77 wx => Hid (NoI w p m l o wx))
      case first =>
        go_region_with (refine ((Hc _).out).mono ?_; rintro e w2 ⟨rfl, rfl⟩)
        all_goals
          go_wp2_with fail
          go_meet
          exact Lib.hid (H1.out.put Hh1.out)
      case rest =>
        have HW := hcut
        have c0 : wc.cell? ⟨w.heap.size, 0, none⟩ = some (.pointer (some ⟨p, 0, none⟩)) := cell_of_row _ _ 0 _ _ (0, 0) HW.out.x0
        have c3 : wc.cell? ⟨p, 3, none⟩ = some (.slice none 0 0) := cell_of_row _ _ 3 _ _ (0, 0) HW.out.x1
        clear hcut
        go_wp2_with fail
        go_region_with (refine ((Hs _ _).out).mono ?_; rintro e w2 ⟨⟨x, rfl⟩, rfl⟩)
        all_goals
          go_wp2_with fail
          go_ret2
          exact ⟨rfl, HW.out.drew.b⟩
set_option maxRecDepth 100000 in
theorem vadd_none (p m : Nat) (w : World) (h : VcI p m w) : Calls Tryz.prog 19 #[.pointer (some ⟨p, 0, none⟩), .slice none 0 0] w fun e w' => e = .returned (.int .i64 0) ∧ Below w.heap.size w w' := by
  have Ha := Lib.hid (add_none p m w h)
  clear h
  go_enter Tryz.func19, Tryz.ntmps19
  go_wp2_with fail
  refine Ha.out.mono ?_
  rintro e w2 ⟨rfl, hb2⟩
  have Hb2 := Lib.hid hb2
  clear hb2
  go_wp2_with fail
  go_ret
  exact ⟨rfl, Hb2.out⟩
end Go.Proofs.YtgcdopafblcbhaaGreatDoor

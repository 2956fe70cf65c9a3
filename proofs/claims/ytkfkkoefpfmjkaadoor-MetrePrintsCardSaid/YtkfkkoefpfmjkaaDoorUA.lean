import Derived.Test.YtkfkkoefpfmjkaaDoorTC
import Derived.Test.YtkfkkoefpfmjkaaDoorSC
namespace Go.Proofs.YtkfkkoefpfmjkaaDoor
set_option linter.unusedVariables false
set_option linter.unusedSimpArgs false
open Go.RowKit

/- A metre that may not be: refused. -/
set_option maxRecDepth 100000 in
set_option maxHeartbeats 4000000 in
theorem print_off (Af Ae Ab : Option Addr) (cf ce cb : Nat) (m : Met) (w : World) (h : IsMet w w.heap.size Af Ae Ab cf ce cb m) (hm : mayB m = false) :
    Calls Tryd.prog 37 #[.agg #[.slice Af m.feet.length cf, .slice Ae m.ends.length ce, .slice Ab m.brks.length cb]] w fun e w' => e = .returned (.tuple #[.string ⟨#[]⟩, .int .i64 2]) ∧ Below w.heap.size w w' := by
  generalize hW1 : w.alloc (.cells #[.slice Af m.feet.length cf, .slice Ae m.ends.length ce, .slice Ab m.brks.length cb] 27) = W1
  have sW1 : W1.heap.size = w.heap.size + 1 := by rw [← hW1]; simp
  have hB1 : Below w.heap.size w W1 := by rw [← hW1]; exact (Below.refl _ _).alloc (Nat.le_refl _) _
  have m0 : W1.cell? ⟨w.heap.size, 0, none⟩ = some (.slice Af m.feet.length cf) := by rw [← hW1]; simp
  have m1 : W1.cell? ⟨w.heap.size, 1, none⟩ = some (.slice Ae m.ends.length ce) := by rw [← hW1]; simp
  have m2 : W1.cell? ⟨w.heap.size, 2, none⟩ = some (.slice Ab m.brks.length cb) := by rw [← hW1]; simp
  have HW1 := Lib.hid hW1
  have HB1 := Lib.hid hB1
  have Hch := Lib.hid (check_any Af Ae Ab cf ce cb m W1 (h.on hB1))
  have Hc : Hid (checkN m = 2) := Lib.hid (by unfold checkN; rw [hm]; rfl)
  clear h hW1 hB1 hm
  go_enter Tryd.func37, Tryd.ntmps37
  go_wp2_with fail
  rw [HW1.out]
  go_wp2_with fail
  refine Hch.out.mono ?_
  rintro e w2 ⟨rfl, hb2⟩
  rw [Hc.out]
  have Hb2 := Lib.hid hb2
  clear hb2
  go_wp2_with fail
  go_ret2
  exact ⟨rfl, HB1.out.trans (Hb2.out.mono (by omega))⟩

set_option maxRecDepth 100000 in
set_option maxHeartbeats 4000000 in
theorem title_off (Af Ae Ab : Option Addr) (cf ce cb : Nat) (m : Met) (w : World) (h : IsMet w w.heap.size Af Ae Ab cf ce cb m) (hm : mayB m = false) :
    Calls Tryd.prog 38 #[.agg #[.slice Af m.feet.length cf, .slice Ae m.ends.length ce, .slice Ab m.brks.length cb]] w fun e w' => e = .returned (.tuple #[.string ⟨#[]⟩, .int .i64 2]) ∧ Below w.heap.size w w' := by
  generalize hW1 : w.alloc (.cells #[.slice Af m.feet.length cf, .slice Ae m.ends.length ce, .slice Ab m.brks.length cb] 27) = W1
  have sW1 : W1.heap.size = w.heap.size + 1 := by rw [← hW1]; simp
  have hB1 : Below w.heap.size w W1 := by rw [← hW1]; exact (Below.refl _ _).alloc (Nat.le_refl _) _
  have m0 : W1.cell? ⟨w.heap.size, 0, none⟩ = some (.slice Af m.feet.length cf) := by rw [← hW1]; simp
  have m1 : W1.cell? ⟨w.heap.size, 1, none⟩ = some (.slice Ae m.ends.length ce) := by rw [← hW1]; simp
  have m2 : W1.cell? ⟨w.heap.size, 2, none⟩ = some (.slice Ab m.brks.length cb) := by rw [← hW1]; simp
  have HW1 := Lib.hid hW1
  have HB1 := Lib.hid hB1
  have Hch := Lib.hid (check_any Af Ae Ab cf ce cb m W1 (h.on hB1))
  have Hc : Hid (checkN m = 2) := Lib.hid (by unfold checkN; rw [hm]; rfl)
  clear h hW1 hB1 hm
  go_enter Tryd.func38, Tryd.ntmps38
  go_wp2_with fail
  rw [HW1.out]
  go_wp2_with fail
  refine Hch.out.mono ?_
  rintro e w2 ⟨rfl, hb2⟩
  rw [Hc.out]
  have Hb2 := Lib.hid hb2
  clear hb2
  go_wp2_with fail
  go_ret2
  exact ⟨rfl, HB1.out.trans (Hb2.out.mono (by omega))⟩

set_option maxRecDepth 100000 in
set_option maxHeartbeats 4000000 in
theorem syllables_off (Af Ae Ab : Option Addr) (cf ce cb : Nat) (m : Met) (w : World) (h : IsMet w w.heap.size Af Ae Ab cf ce cb m) (hm : mayB m = false) :
    Calls Tryd.prog 33 #[.agg #[.slice Af m.feet.length cf, .slice Ae m.ends.length ce, .slice Ab m.brks.length cb]] w fun e w' => e = .returned (.tuple #[.int .i64 0, .int .i64 0, .int .i64 2]) ∧ Below w.heap.size w w' := by
  generalize hW1 : w.alloc (.cells #[.slice Af m.feet.length cf, .slice Ae m.ends.length ce, .slice Ab m.brks.length cb] 27) = W1
  have sW1 : W1.heap.size = w.heap.size + 1 := by rw [← hW1]; simp
  have hB1 : Below w.heap.size w W1 := by rw [← hW1]; exact (Below.refl _ _).alloc (Nat.le_refl _) _
  have m0 : W1.cell? ⟨w.heap.size, 0, none⟩ = some (.slice Af m.feet.length cf) := by rw [← hW1]; simp
  have m1 : W1.cell? ⟨w.heap.size, 1, none⟩ = some (.slice Ae m.ends.length ce) := by rw [← hW1]; simp
  have m2 : W1.cell? ⟨w.heap.size, 2, none⟩ = some (.slice Ab m.brks.length cb) := by rw [← hW1]; simp
  have HW1 := Lib.hid hW1
  have HB1 := Lib.hid hB1
  have Hch := Lib.hid (check_any Af Ae Ab cf ce cb m W1 (h.on hB1))
  have Hc : Hid (checkN m = 2) := Lib.hid (by unfold checkN; rw [hm]; rfl)
  clear h hW1 hB1 hm
  go_enter Tryd.func33, Tryd.ntmps33
  go_wp2_with fail
  rw [HW1.out]
  go_wp2_with fail
  refine Hch.out.mono ?_
  rintro e w2 ⟨rfl, hb2⟩
  rw [Hc.out]
  have Hb2 := Lib.hid hb2
  clear hb2
  go_wp2_with fail
  go_ret3
  exact ⟨rfl, HB1.out.trans (Hb2.out.mono (by omega))⟩

set_option maxRecDepth 100000 in
set_option maxHeartbeats 4000000 in
theorem join_off (Af Ae Ab : Option Addr) (cf ce cb : Nat) (m : Met) (Bf Be Bb : Option Addr) (df de db : Nat) (n : Met) (w : World) (h : IsMet w w.heap.size Af Ae Ab cf ce cb m) (h2 : IsMet w w.heap.size Bf Be Bb df de db n) (hno : mayB m = false ∨ mayB n = false) :
    Calls Tryd.prog 28 #[.agg #[.slice Af m.feet.length cf, .slice Ae m.ends.length ce, .slice Ab m.brks.length cb], .agg #[.slice Bf n.feet.length df, .slice Be n.ends.length de, .slice Bb n.brks.length db]] w fun e w' => e = .returned (.tuple #[.agg #[.slice none 0 0, .slice none 0 0, .slice none 0 0], .int .i64 2]) ∧ Below w.heap.size w w' := by
  generalize hW1 : ((w.alloc (.cells #[.slice Af m.feet.length cf, .slice Ae m.ends.length ce, .slice Ab m.brks.length cb] 27)).alloc (.cells #[.slice Bf n.feet.length df, .slice Be n.ends.length de, .slice Bb n.brks.length db] 27)).alloc (.cells #[.slice none 0 0, .slice none 0 0, .slice none 0 0] 27) = W1
  have sW1 : W1.heap.size = w.heap.size + 3 := by rw [← hW1]; simp
  have hB1 : Below w.heap.size w W1 := by rw [← hW1]; exact (((Below.refl _ _).alloc (Nat.le_refl _) _).alloc (by simp) _).alloc (by simp; omega) _
  have hx1 : W1.heap[w.heap.size]? = some (.cells #[.slice Af m.feet.length cf, .slice Ae m.ends.length ce, .slice Ab m.brks.length cb] 27 (0, 0)) := by
    rw [← hW1]; exact (Below.heap_alloc _ _ _ (by simp; omega)).trans ((Below.heap_alloc _ _ _ (by simp)).trans (World.alloc_heap_new w _))
  have hx2 : W1.heap[w.heap.size + 1]? = some (.cells #[.slice Bf n.feet.length df, .slice Be n.ends.length de, .slice Bb n.brks.length db] 27 (0, 0)) := by
    rw [← hW1]
    have := World.alloc_heap_new (w.alloc (.cells #[.slice Af m.feet.length cf, .slice Ae m.ends.length ce, .slice Ab m.brks.length cb] 27)) (.cells #[.slice Bf n.feet.length df, .slice Be n.ends.length de, .slice Bb n.brks.length db] 27)
    rw [World.size_alloc] at this
    exact (Below.heap_alloc _ _ _ (by simp)).trans this
  have hx3 : W1.heap[w.heap.size + 2]? = some (.cells #[.slice none 0 0, .slice none 0 0, .slice none 0 0] 27 (0, 0)) := by
    rw [← hW1]
    have := World.alloc_heap_new ((w.alloc (.cells #[.slice Af m.feet.length cf, .slice Ae m.ends.length ce, .slice Ab m.brks.length cb] 27)).alloc (.cells #[.slice Bf n.feet.length df, .slice Be n.ends.length de, .slice Bb n.brks.length db] 27)) (.cells #[.slice none 0 0, .slice none 0 0, .slice none 0 0] 27)
    rw [World.size_alloc, World.size_alloc] at this
    exact this
  have HM := Lib.hid (h.on hB1)
  have HN := Lib.hid (h2.on hB1)
  have HW1 := Lib.hid hW1
  have HB1 := Lib.hid hB1
  have Hkeep := Lib.hid fun (W2 : World) (hb2 : Below W1.heap.size W1 W2) =>
    And.intro (And.intro (cell_of_row _ _ 0 _ 27 (0, 0) ((hb2.block w.heap.size (by omega)).trans hx1)) (And.intro (cell_of_row _ _ 1 _ 27 (0, 0) ((hb2.block w.heap.size (by omega)).trans hx1)) (cell_of_row _ _ 2 _ 27 (0, 0) ((hb2.block w.heap.size (by omega)).trans hx1))))
      (And.intro (cell_of_row _ _ 0 _ 27 (0, 0) ((hb2.block (w.heap.size + 1) (by omega)).trans hx2)) (And.intro (cell_of_row _ _ 1 _ 27 (0, 0) ((hb2.block (w.heap.size + 1) (by omega)).trans hx2)) (cell_of_row _ _ 2 _ 27 (0, 0) ((hb2.block (w.heap.size + 1) (by omega)).trans hx2))))
  have Hnext := Lib.hid fun (W2 W3 : World) (hb2 : Below W1.heap.size W1 W2) (hb3 : Below W2.heap.size W2 W3) => hb2.trans (hb3.mono hb2.size)
  obtain ⟨⟨m0, m1, m2⟩, n0, n1, n2⟩ := Hkeep.out W1 (Below.refl _ _)
  have Hch := Lib.hid (check_any Af Ae Ab cf ce cb m W1 HM.out)
  have Hx3 := Lib.hid hx3
  clear h h2 hW1 hB1 hx1 hx2 hx3
  go_enter Tryd.func28, Tryd.ntmps28
  go_wp2_with fail
  rw [HW1.out]
  go_wp2_with fail
  refine Hch.out.mono ?_
  rintro e w2 ⟨rfl, hb2⟩
  obtain ⟨⟨p0, p1, p2⟩, r0, r1, r2⟩ := Hkeep.out w2 hb2
  have Hb2 := Lib.hid hb2
  clear m0 m1 m2 n0 n1 n2 hb2
  cases hm : mayB m with
  | false =>
    have hc : checkN m = 2 := by unfold checkN; rw [hm]; rfl
    rw [hc]
    clear hc hm hno
    have hr := (Hb2.out.block (w.heap.size + 2) (by omega)).trans Hx3.out
    have z0 : w2.cell? ⟨w.heap.size + 2, 0, none⟩ = some (.slice none 0 0) := cell_of_row _ _ 0 _ 27 (0, 0) hr
    have z1 : w2.cell? ⟨w.heap.size + 2, 1, none⟩ = some (.slice none 0 0) := cell_of_row _ _ 1 _ 27 (0, 0) hr
    have z2 : w2.cell? ⟨w.heap.size + 2, 2, none⟩ = some (.slice none 0 0) := cell_of_row _ _ 2 _ 27 (0, 0) hr
    have f0 : w2.frozen? ⟨w.heap.size + 2, 0, none⟩ = false := frozen_of_row _ _ 0 _ 27 hr
    have f1 : w2.frozen? ⟨w.heap.size + 2, 1, none⟩ = false := frozen_of_row _ _ 1 _ 27 hr
    have f2 : w2.frozen? ⟨w.heap.size + 2, 2, none⟩ = false := frozen_of_row _ _ 2 _ 27 hr
    have Hr := Lib.hid hr
    clear hr
    go_wp2_with fail
    have q1 := heap_setCell_same w2 (w.heap.size + 2) 0 _ 27 (.slice none 0 0) Hr.out
    have q2 := heap_setCell_same _ (w.heap.size + 2) 1 _ 27 (.slice none 0 0) q1
    have q3 := heap_setCell_same _ (w.heap.size + 2) 2 _ 27 (.slice none 0 0) q2
    have y2 := cell_of_row _ _ 2 _ 27 (0, 0) q3
    have x0 := cell_of_row _ _ 0 _ 27 (0, 0) q1
    have x1 := cell_of_row _ _ 1 _ 27 (0, 0) q2
    simp at y2 x0 x1
    exact bodyPost_ret (v := .tuple #[.agg #[.slice none 0 0, .slice none 0 0, .slice none 0 0], .int .i64 2]) (by simp [results, Tryd.results28, go_sem, y2, x0, x1]) rfl ⟨rfl, (((HB1.out.trans (Hb2.out.mono (by omega))).setCell (p := ⟨w.heap.size + 2, 0, none⟩) (by show w.heap.size ≤ w.heap.size + 2; omega) _).setCell (p := ⟨w.heap.size + 2, 1, none⟩) (by show w.heap.size ≤ w.heap.size + 2; omega) _).setCell (p := ⟨w.heap.size + 2, 2, none⟩) (by show w.heap.size ≤ w.heap.size + 2; omega) _⟩
  | true =>
    have hc : checkN m = 0 := by unfold checkN; rw [hm]; rfl
    have hn : mayB n = false := hno.resolve_left (by rw [hm]; simp)
    have Hc2 : Hid (checkN n = 2) := Lib.hid (by unfold checkN; rw [hn]; rfl)
    rw [hc]
    clear hc hm hno hn
    have Hch2 := Lib.hid (check_any Bf Be Bb df de db n w2 (HN.out.on Hb2.out))
    go_wp2_with fail
    refine Hch2.out.mono ?_
    rintro e w3 ⟨rfl, hb3⟩
    have Hb3 := Lib.hid (Hnext.out _ _ Hb2.out hb3)
    rw [Hc2.out]
    clear p0 p1 p2 r0 r1 r2 hb3
    have hr := (Hb3.out.block (w.heap.size + 2) (by omega)).trans Hx3.out
    have z0 : w3.cell? ⟨w.heap.size + 2, 0, none⟩ = some (.slice none 0 0) := cell_of_row _ _ 0 _ 27 (0, 0) hr
    have z1 : w3.cell? ⟨w.heap.size + 2, 1, none⟩ = some (.slice none 0 0) := cell_of_row _ _ 1 _ 27 (0, 0) hr
    have z2 : w3.cell? ⟨w.heap.size + 2, 2, none⟩ = some (.slice none 0 0) := cell_of_row _ _ 2 _ 27 (0, 0) hr
    have f0 : w3.frozen? ⟨w.heap.size + 2, 0, none⟩ = false := frozen_of_row _ _ 0 _ 27 hr
    have f1 : w3.frozen? ⟨w.heap.size + 2, 1, none⟩ = false := frozen_of_row _ _ 1 _ 27 hr
    have f2 : w3.frozen? ⟨w.heap.size + 2, 2, none⟩ = false := frozen_of_row _ _ 2 _ 27 hr
    have Hr := Lib.hid hr
    clear hr
    go_wp2_with fail
    have q1 := heap_setCell_same w3 (w.heap.size + 2) 0 _ 27 (.slice none 0 0) Hr.out
    have q2 := heap_setCell_same _ (w.heap.size + 2) 1 _ 27 (.slice none 0 0) q1
    have q3 := heap_setCell_same _ (w.heap.size + 2) 2 _ 27 (.slice none 0 0) q2
    have y2 := cell_of_row _ _ 2 _ 27 (0, 0) q3
    have x0 := cell_of_row _ _ 0 _ 27 (0, 0) q1
    have x1 := cell_of_row _ _ 1 _ 27 (0, 0) q2
    simp at y2 x0 x1
    exact bodyPost_ret (v := .tuple #[.agg #[.slice none 0 0, .slice none 0 0, .slice none 0 0], .int .i64 2]) (by simp [results, Tryd.results28, go_sem, y2, x0, x1]) rfl ⟨rfl, (((HB1.out.trans (Hb3.out.mono (by omega))).setCell (p := ⟨w.heap.size + 2, 0, none⟩) (by show w.heap.size ≤ w.heap.size + 2; omega) _).setCell (p := ⟨w.heap.size + 2, 1, none⟩) (by show w.heap.size ≤ w.heap.size + 2; omega) _).setCell (p := ⟨w.heap.size + 2, 2, none⟩) (by show w.heap.size ≤ w.heap.size + 2; omega) _⟩
theorem zero_nil (w : World) : Calls Tryd.prog 14 #[.agg #[.slice none 0 0, .slice none 0 0, .slice none 0 0]] w fun e w' => e = .returned (.bool true) ∧ Below w.heap.size w w' := by
  go_enter Tryd.func14, Tryd.ntmps14
  go_wp2
  go_ret
  exact ⟨rfl, (Below.refl _ _).alloc (Nat.le_refl _) _⟩
end Go.Proofs.YtkfkkoefpfmjkaaDoor

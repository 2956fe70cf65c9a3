import Derived.Test.YtgcdopafblcbhaaGreatDoorVC
import Derived.Deep.RegionHeld3
/- Split; a unit of fold: is it a letter; a mark behind it. -/
namespace Go.Proofs.YtgcdopafblcbhaaGreatDoor
set_option linter.unusedVariables false
set_option linter.unusedSimpArgs false
open Go.RowKit Go.Lib Go.Shelf

set_option maxRecDepth 100000 in
set_option maxHeartbeats 8000000 in
theorem split_any (r : Int) (w : World) : Calls Tryz.prog 60 #[.int .i32 r] w fun e w' => (∃ A n c, e = .returned (.slice A n c) ∧ n ≤ 3) ∧ Below w.heap.size w w' := by
  have Ht := Lib.hid (tables_any w)
  go_enter Tryz.func60, Tryz.ntmps60
  go_wp2_with fail
  refine Ht.out.mono ?_
  rintro e w2 ⟨rfl, hb2, hj2, hs2⟩
  have Hp := Lib.hid (parted_any 2 (by omega) r (w.heap.size + 1) w2 (ends_all r) hs2)
  have Hb2 := Lib.hid hb2
  clear hb2 hj2 hs2 Ht
  go_wp2_with fail
  refine Hp.out.mono ?_
  rintro e w3 ⟨v, rfl, ho, hb3⟩
  have hl := partF_len 2 r
  obtain ⟨A, c, rfl⟩ : ∃ A c, v = .slice A (partF 2 r).length c := by
    rcases ho.2 with ⟨h1, h2⟩ | ⟨g, cap, cur, h1, _⟩
    · exact ⟨none, 0, by rw [h1, h2]⟩
    · exact ⟨_, cap, h1⟩
  have Hb3 := Lib.hid (Hb2.out.trans (hb3.mono Hb2.out.size))
  clear ho hb3
  go_wp2_with fail
  go_ret
  exact ⟨⟨_, _, _, rfl, by omega⟩, Hb3.out⟩
def letB (base : Int) : Bool := decide (0 ≤ base) && kindP base == 1
set_option maxRecDepth 100000 in
set_option maxHeartbeats 8000000 in
theorem letter_unit (at_ br base : Int) (A B : Option Addr) (n m c d : Nat) (w : World) : Calls Tryz.prog 112 #[.agg #[.int .i64 at_, .int .u8 br, .int .i32 base, .slice A n c, .slice B m d]] w fun e w' => e = .returned (.bool (letB base)) ∧ Below w.heap.size w w' := by
  obtain ⟨W1, hW1⟩ : ∃ W1, w.alloc (.cells #[.int .i64 at_, .int .u8 br, .int .i32 base, .slice A n c, .slice B m d] 187) = W1 := ⟨_, rfl⟩
  have hb1 : Below w.heap.size w W1 := by rw [← hW1]; exact (Below.refl _ _).alloc (Nat.le_refl _) _
  have hx1 : W1.heap[w.heap.size]? = some (.cells #[.int .i64 at_, .int .u8 br, .int .i32 base, .slice A n c, .slice B m d] 187 (0, 0)) := by rw [← hW1]; exact World.alloc_heap_new w _
  have c2 : W1.cell? ⟨w.heap.size, 2, none⟩ = some (.int .i32 base) := cell_of_row _ _ 2 _ _ (0, 0) hx1
  have HW1 := Lib.hid hW1
  have Hk := Lib.hid (kind_any base W1)
  clear hW1 hx1
  unfold letB
  by_cases h : 0 ≤ base
  · have d1 : decide (0 ≤ base) = true := decide_eq_true h
    rw [d1]
    go_enter Tryz.func112, Tryz.ntmps112
    go_upto_region 1 with (fail)
    rw [HW1.out]
    go_wp2_with fail
    refine Hk.out.mono ?_
    rintro e w2 ⟨rfl, rfl⟩
    go_wp2_with fail
    go_ret
    exact ⟨by simp, hb1⟩
  · have d1 : decide (0 ≤ base) = false := decide_eq_false h
    rw [d1]
    go_enter Tryz.func112, Tryz.ntmps112
    go_upto_region 1 with (fail)
    rw [HW1.out]
    go_wp2_with fail
    go_ret
    exact ⟨by simp, hb1⟩
end Go.Proofs.YtgcdopafblcbhaaGreatDoor

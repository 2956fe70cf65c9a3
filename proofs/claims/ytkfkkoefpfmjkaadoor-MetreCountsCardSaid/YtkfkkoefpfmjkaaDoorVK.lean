import Derived.Test.YtkfkkoefpfmjkaaDoorVJ
import Derived.Test.YtkfkkoefpfmjkaaDoorVE
import Derived.Test.YtkfkkoefpfmjkaaDoorVF
namespace Go.Proofs.YtkfkkoefpfmjkaaDoor
set_option linter.unusedVariables false
set_option linter.unusedSimpArgs false
open Go.RowKit

/- Law 6: the walk. -/
set_option maxRecDepth 100000 in
set_option maxHeartbeats 4000000 in
theorem leasts_any (Af Ae Ab : Option Addr) (cf ce cb : Nat) (m : Met) (s : ByteArray) (w : World) (h : IsMet w w.heap.size Af Ae Ab cf ce cb m) (hv : Vars w) (hs : s.size ≤ 9223372036854775807) :
    Calls Tryd.prog 6 #[.agg #[.slice Af m.feet.length cf, .slice Ae m.ends.length ce, .slice Ab m.brks.length cb], .string s] w fun e w' => e = .returned (.bool true) ∧ Below w.heap.size w w' := by
  generalize hW1 : w.alloc (.cells #[.slice Af m.feet.length cf, .slice Ae m.ends.length ce, .slice Ab m.brks.length cb] 27) = W1
  have sW1 : W1.heap.size = w.heap.size + 1 := by rw [← hW1]; simp
  have hB1 : Below w.heap.size w W1 := by rw [← hW1]; exact (Below.refl _ _).alloc (Nat.le_refl _) _
  have m0 : W1.cell? ⟨w.heap.size, 0, none⟩ = some (.slice Af m.feet.length cf) := by rw [← hW1]; simp
  have m1 : W1.cell? ⟨w.heap.size, 1, none⟩ = some (.slice Ae m.ends.length ce) := by rw [← hW1]; simp
  have m2 : W1.cell? ⟨w.heap.size, 2, none⟩ = some (.slice Ab m.brks.length cb) := by rw [← hW1]; simp
  have HM := Lib.hid (h.on hB1)
  have HV := Lib.hid (hv.below hB1 hv.six)
  have HW1 := Lib.hid hW1
  have HB1 := Lib.hid hB1
  have Hkeep := Lib.hid fun (W2 : World) (hb2 : Below W1.heap.size W1 W2) => And.intro ((hb2.cell (p := ⟨w.heap.size, 0, none⟩) (by show w.heap.size < W1.heap.size; omega)).trans m0) (And.intro ((hb2.cell (p := ⟨w.heap.size, 1, none⟩) (by show w.heap.size < W1.heap.size; omega)).trans m1) ((hb2.cell (p := ⟨w.heap.size, 2, none⟩) (by show w.heap.size < W1.heap.size; omega)).trans m2))
  have Hnext := Lib.hid fun (W2 W3 : World) (hb2 : Below W1.heap.size W1 W2) (hb3 : Below W2.heap.size W2 W3) => hb2.trans (hb3.mono hb2.size)
  have Hwk := Lib.hid fun (W2 : World) (hb2 : Below W1.heap.size W1 W2) => wakes_any W2 (HV.out.below hb2 HV.out.six)
  clear h hv hW1 hB1
  go_enter Tryd.func6, Tryd.ntmps6
  go_wp2_with fail
  rw [HW1.out]
  refine (Hwk.out _ (Below.refl _ _)).mono ?_
  rintro e w2 ⟨rfl, hb2⟩
  obtain ⟨q0, q1, q2⟩ := Hkeep.out _ hb2
  have Hb2 := Lib.hid hb2
  have Hmay := Lib.hid (may_any Af Ae Ab cf ce cb m w2 (HM.out.on hb2))
  clear hb2
  go_wp2_with fail
  refine Hmay.out.mono ?_
  rintro e w3 ⟨rfl, hb3⟩
  have Hb3 := Lib.hid (Hnext.out _ _ Hb2.out hb3)
  obtain ⟨p0, p1, p2⟩ := Hkeep.out _ Hb3.out
  clear hb3 q0 q1 q2
  cases hm : mayB m with
  | false =>
    have Hle := Lib.hid (least_any Af Ae Ab cf ce cb m s w3 (HM.out.on Hb3.out) hs)
    rw [least_off hm] at Hle
    clear hm
    go_wp2_with fail
    refine Hle.out.mono ?_
    rintro e w4 ⟨rfl, hb4⟩
    have Hb4 := Lib.hid (Hnext.out _ _ Hb3.out hb4)
    clear hb4
    go_wp2_with fail
    refine (Hwk.out _ Hb4.out).mono ?_
    rintro e w5 ⟨rfl, hb5⟩
    have Hb5 := Lib.hid (Hnext.out _ _ Hb4.out hb5)
    clear hb5
    go_wp2_with fail
    go_ret
    exact ⟨rfl, HB1.out.trans (Hb5.out.mono (by omega))⟩
  | true =>
    have Hm := Lib.hid hm
    have Hrl := Lib.hid (refleast_any Af Ae Ab cf ce cb m s w3 (HM.out.on Hb3.out) hm hs)
    clear hm
    go_wp2_with fail
    refine Hrl.out.mono ?_
    rintro e w4 ⟨rfl, hb4⟩
    have Hb4 := Lib.hid (Hnext.out _ _ Hb3.out hb4)
    obtain ⟨q0, q1, q2⟩ := Hkeep.out _ Hb4.out
    have Hrf := Lib.hid (reffirst_any Af Ae Ab cf ce cb m s w4 (HM.out.on Hb4.out) Hm.out hs)
    clear hb4 p0 p1 p2
    go_wp2_with fail
    refine Hrf.out.mono ?_
    rintro e w5 ⟨hb5, hans⟩
    have Hb5 := Lib.hid (Hnext.out _ _ Hb4.out hb5)
    by_cases hz : (refLeastP m s).2 = 0
    · rw [if_pos hz] at hans
      subst hans
      have Hb5' : Hid (Below W1.heap.size W1 (w5.alloc (.cells #[.string ⟨#[]⟩, .int .i64 0, .slice none 0 0] 52))) := Lib.hid (Hb5.out.alloc Hb5.out.size _)
      obtain ⟨p0, p1, p2⟩ := Hkeep.out _ Hb5'.out
      have Hle := Lib.hid (least_any Af Ae Ab cf ce cb m s _ (HM.out.on Hb5'.out) hs)
      rw [least_none Hm.out hz] at Hle
      have Hln := Lib.hid (least_none Hm.out hz)
      clear hb5 q0 q1 q2 hz
      go_wp2_with fail
      refine Hle.out.mono ?_
      rintro e w6 ⟨rfl, hb6⟩
      have Hb6 := Lib.hid (Hnext.out _ _ Hb5'.out hb6)
      obtain ⟨q0, q1, q2⟩ := Hkeep.out _ Hb6.out
      have Hfi := Lib.hid (first_any Af Ae Ab cf ce cb m s w6 (HM.out.on Hb6.out) hs)
      clear hb6 p0 p1 p2
      go_wp2_with fail
      refine Hfi.out.mono ?_
      rintro e w7 ⟨hb7, hans⟩
      have Hb7 := Lib.hid (Hnext.out _ _ Hb6.out hb7)
      rw [Hln.out, if_neg (by decide)] at hans
      subst hans
      clear hb7 q0 q1 q2
      go_wp2_with fail
      have Hb8 : Hid (Below W1.heap.size W1 (w7.alloc (.cells #[.string ⟨#[]⟩, .int .i64 0, .slice none 0 0] 52))) := Lib.hid (Hb7.out.alloc Hb7.out.size _)
      refine (pattern_any ⟨#[]⟩ ⟨#[]⟩ 0 0 none none 0 0 [] [] _ (fun h => absurd h (by decide)) (fun h => absurd h (by decide)) (by decide) (by decide) (by decide) (by decide)).mono ?_
      rintro e w9 ⟨rfl, hb9⟩
      have Hb9 := Lib.hid (Hnext.out _ _ Hb8.out hb9)
      clear hb9
      rw [pat_self]
      go_wp2_with fail
      refine (Hwk.out _ Hb9.out).mono ?_
      rintro e w10 ⟨rfl, hb10⟩
      have Hb10 := Lib.hid (Hnext.out _ _ Hb9.out hb10)
      clear hb10
      go_wp2_with fail
      go_ret
      exact ⟨rfl, HB1.out.trans (Hb10.out.mono (by omega))⟩
    · rw [if_neg hz] at hans
      obtain ⟨A, c, rfl, hc, hin⟩ := hans
      have Hb5' : Hid (Below W1.heap.size W1 (w5.alloc (.cells #[.string s, .int .i64 (refLeastP m s).1, .slice A (choiceP m s).length c] 52))) := Lib.hid (Hb5.out.alloc Hb5.out.size _)
      obtain ⟨p0, p1, p2⟩ := Hkeep.out _ Hb5'.out
      have Hle := Lib.hid (least_any Af Ae Ab cf ce cb m s _ (HM.out.on Hb5'.out) hs)
      rw [least_some Hm.out hz] at Hle
      have Hln := Lib.hid (least_some Hm.out hz)
      clear hb5 q0 q1 q2
      go_wp2_with fail
      refine Hle.out.mono ?_
      rintro e w6 ⟨rfl, hb6⟩
      have Hb6 := Lib.hid (Hnext.out _ _ Hb5'.out hb6)
      obtain ⟨q0, q1, q2⟩ := Hkeep.out _ Hb6.out
      have Hfi := Lib.hid (first_any Af Ae Ab cf ce cb m s w6 (HM.out.on Hb6.out) hs)
      have Hin := Lib.hid hin
      have Hb56 := Lib.hid hb6
      clear hb6 p0 p1 p2 hin
      go_wp2_with fail
      refine Hfi.out.mono ?_
      rintro e w7 ⟨hb7, hans⟩
      have Hb7 := Lib.hid (Hnext.out _ _ Hb6.out hb7)
      rw [Hln.out, if_pos rfl] at hans
      obtain ⟨A2, c2, rfl, hc2, hin2⟩ := hans
      have hbw : Below (w5.heap.size + 1) (w5.alloc (.cells #[.string s, .int .i64 (refLeastP m s).1, .slice A (choiceP m s).length c] 52)) (w7.alloc (.cells #[.string s, .int .i64 (refLeastP m s).1, .slice A2 (choiceP m s).length c2] 52)) := by
        have h1 := Hb56.out.trans (hb7.mono Hb56.out.size)
        have h2 := h1.alloc h1.size (.cells #[.string s, .int .i64 (refLeastP m s).1, .slice A2 (choiceP m s).length c2] 52)
        rw [World.size_alloc] at h2
        exact h2
      have hbx := (hbw.block w5.heap.size (Nat.lt_succ_self _)).trans (World.alloc_heap_new w5 (.cells #[.string s, .int .i64 (refLeastP m s).1, .slice A (choiceP m s).length c] 52))
      have a0 : (w7.alloc (.cells #[.string s, .int .i64 (refLeastP m s).1, .slice A2 (choiceP m s).length c2] 52)).cell? ⟨w5.heap.size, 0, none⟩ = some (.string s) := cell_of_row _ _ _ _ 52 (0, 0) hbx
      have a1 : (w7.alloc (.cells #[.string s, .int .i64 (refLeastP m s).1, .slice A2 (choiceP m s).length c2] 52)).cell? ⟨w5.heap.size, 1, none⟩ = some (.int .i64 (refLeastP m s).1) := cell_of_row _ _ _ _ 52 (0, 0) hbx
      have a2 : (w7.alloc (.cells #[.string s, .int .i64 (refLeastP m s).1, .slice A2 (choiceP m s).length c2] 52)).cell? ⟨w5.heap.size, 2, none⟩ = some (.slice A (choiceP m s).length c) := cell_of_row _ _ _ _ 52 (0, 0) hbx
      have hb57 : Below w5.heap.size w5 (w7.alloc (.cells #[.string s, .int .i64 (refLeastP m s).1, .slice A2 (choiceP m s).length c2] 52)) := ((Below.refl _ w5).alloc (Nat.le_refl _) (.cells #[.string s, .int .i64 (refLeastP m s).1, .slice A (choiceP m s).length c] 52)).trans (hbw.mono (by omega))
      have hI1 := (Hin.out.below hb57).more hb57.size
      have hb78 : Below w7.heap.size w7 (w7.alloc (.cells #[.string s, .int .i64 (refLeastP m s).1, .slice A2 (choiceP m s).length c2] 52)) := (Below.refl _ w7).alloc (Nat.le_refl _) _
      have hI2 := (hin2.below hb78).more hb78.size
      have hcl := choice_len m s
      have hc17 := (opts_small Hm.out).1
      have Hpt := Lib.hid (pattern_any s s (refLeastP m s).1 (refLeastP m s).1 A2 A c2 c (choiceP m s) (choiceP m s) _ hI2 hI1 (by omega) (by omega) hc2 hc)
      have Hb8 : Hid (Below W1.heap.size W1 (w7.alloc (.cells #[.string s, .int .i64 (refLeastP m s).1, .slice A2 (choiceP m s).length c2] 52))) := Lib.hid (Hb7.out.alloc Hb7.out.size _)
      clear q0 q1 q2 hbw hbx hb57 hI1 hI2 hb78 hin2 hb7 hcl hc17
      go_wp2_with fail
      refine Hpt.out.mono ?_
      rintro e w9 ⟨rfl, hb9⟩
      have Hb9 := Lib.hid (Hnext.out _ _ Hb8.out hb9)
      clear hb9
      rw [pat_self]
      go_wp2_with fail
      refine (Hwk.out _ Hb9.out).mono ?_
      rintro e w10 ⟨rfl, hb10⟩
      have Hb10 := Lib.hid (Hnext.out _ _ Hb9.out hb10)
      clear hb10
      go_wp2_with fail
      go_ret
      exact ⟨rfl, HB1.out.trans (Hb10.out.mono (by omega))⟩
end Go.Proofs.YtkfkkoefpfmjkaaDoor

import Derived.Test.YtkfkkoefpfmjkaaDoorXK
import Derived.Test.YtkfkkoefpfmjkaaDoorXH
import Derived.Test.YtkfkkoefpfmjkaaDoorTD
import Derived.Test.YtkfkkoefpfmjkaaDoorUA
namespace Go.Proofs.YtkfkkoefpfmjkaaDoor
set_option linter.unusedVariables false
set_option linter.unusedSimpArgs false
open Go.RowKit

/- Law 10: the walk. -/
theorem equalP_self (m : Met) : equalP m m = true := by
  unfold equalP eqFeet
  rw [eqL_self, eqL_self, eqL_self]; rfl
set_option maxRecDepth 100000 in
set_option maxHeartbeats 8000000 in
theorem prints10_any (Af Ae Ab : Option Addr) (cf ce cb : Nat) (m : Met) (w : World) (h : IsMet w w.heap.size Af Ae Ab cf ce cb m) (hr : MetReach m) (hv : Vars w) :
    Calls Tryd.prog 10 #[.agg #[.slice Af m.feet.length cf, .slice Ae m.ends.length ce, .slice Ab m.brks.length cb]] w fun e w' => e = .returned (.bool true) ∧ Below w.heap.size w w' := by
  generalize hW1 : w.alloc (.cells #[.slice Af m.feet.length cf, .slice Ae m.ends.length ce, .slice Ab m.brks.length cb] 27) = W1
  have sW1 : W1.heap.size = w.heap.size + 1 := by rw [← hW1]; simp
  have hB1 : Below w.heap.size w W1 := by rw [← hW1]; exact (Below.refl _ _).alloc (Nat.le_refl _) _
  have m0 : W1.cell? ⟨w.heap.size, 0, none⟩ = some (.slice Af m.feet.length cf) := by rw [← hW1]; simp
  have m1 : W1.cell? ⟨w.heap.size, 1, none⟩ = some (.slice Ae m.ends.length ce) := by rw [← hW1]; simp
  have m2 : W1.cell? ⟨w.heap.size, 2, none⟩ = some (.slice Ab m.brks.length cb) := by rw [← hW1]; simp
  have HM := Lib.hid (h.on hB1)
  have HV := Lib.hid (hv.below hB1 hv.six)
  have HW1 := Lib.hid hW1
  have HB1 := Lib.hid hB1
  have HBd := Lib.hid h.bd
  have HRe := Lib.hid hr
  have Hkeep := Lib.hid fun (W2 : World) (hb2 : Below W1.heap.size W1 W2) => And.intro ((hb2.cell (p := ⟨w.heap.size, 0, none⟩) (by show w.heap.size < W1.heap.size; omega)).trans m0) (And.intro ((hb2.cell (p := ⟨w.heap.size, 1, none⟩) (by show w.heap.size < W1.heap.size; omega)).trans m1) ((hb2.cell (p := ⟨w.heap.size, 2, none⟩) (by show w.heap.size < W1.heap.size; omega)).trans m2))
  have Hnext := Lib.hid fun (W2 W3 : World) (hb2 : Below W1.heap.size W1 W2) (hb3 : Below W2.heap.size W2 W3) => hb2.trans (hb3.mono hb2.size)
  have Hwk := Lib.hid fun (W2 : World) (hb2 : Below W1.heap.size W1 W2) => wakes_any W2 (HV.out.below hb2 HV.out.six)
  have Hvx := Lib.hid fun (W2 : World) (hb2 : Below W1.heap.size W1 W2) => HV.out.below hb2 HV.out.six
  clear h hv hr hW1 hB1
  go_enter Tryd.func10, Tryd.ntmps10
  go_wp2_with fail
  rw [HW1.out]
  refine (Hwk.out _ (Below.refl _ _)).mono ?_
  rintro e w2 ⟨rfl, hb2⟩
  obtain ⟨q0, q1, q2⟩ := Hkeep.out _ hb2
  have Hb2 := Lib.hid hb2
  have Hmay := Lib.hid (may_any Af Ae Ab cf ce cb m w2 (HM.out.on hb2))
  clear hb2 m0 m1 m2
  go_wp2_with fail
  refine Hmay.out.mono ?_
  rintro e w3 ⟨rfl, hb3⟩
  have Hb3 := Lib.hid (Hnext.out _ _ Hb2.out hb3)
  obtain ⟨r0, r1, r2⟩ := Hkeep.out _ Hb3.out
  clear hb3 q0 q1 q2
  cases hm : mayB m with
  | false =>
    have Hoff := Lib.hid (print_off Af Ae Ab cf ce cb m w3 (HM.out.on Hb3.out) hm)
    clear hm
    go_wp2_with fail
    refine Hoff.out.mono ?_
    rintro e w4 ⟨rfl, hb4⟩
    have Hb4 := Lib.hid (Hnext.out _ _ Hb3.out hb4)
    have Hwk4 := Lib.hid (Hwk.out _ Hb4.out)
    clear hb4
    go_wp2_with fail
    refine Hwk4.out.mono ?_
    rintro e w5 ⟨rfl, hb5⟩
    have Hb5 := Lib.hid (Hnext.out _ _ Hb4.out hb5)
    clear hb5
    go_wp2_with fail
    go_ret
    exact ⟨rfl, HB1.out.trans (Hb5.out.mono (by omega))⟩
  | true =>
    have Hm := Lib.hid hm
    have Hcopy := Lib.hid (copy_any Af Ae Ab cf ce cb m w3 (HM.out.on Hb3.out) HRe.out)
    clear hm
    go_wp2_with fail
    refine Hcopy.out.mono ?_
    rintro e w4 ⟨vf, ve, vb, vs, rfl, hom, hb4⟩
    obtain ⟨Cf, Ce, Cb, kf, ke, kb, rfl, rfl, rfl, him⟩ := hom.isMet HBd.out
    have Hb4 := Lib.hid (Hnext.out _ _ Hb3.out hb4)
    clear hom hb4 r0 r1 r2
    obtain ⟨XP, hXP⟩ : ∃ XP : ByteArray, Hid ((⟨(printP m).toArray⟩ : ByteArray) = XP) := ⟨_, Lib.hid rfl⟩
    obtain ⟨XT, hXT⟩ : ∃ XT : ByteArray, Hid ((⟨(titleP m).toArray⟩ : ByteArray) = XT) := ⟨_, Lib.hid rfl⟩
    have hx1 : (XP.toList != XP.toList) = false := by simp
    have hx2 : (XP.toList == XP.toList) = true := by simp
    have hx3 : (XT.toList != XT.toList) = false := by simp
    have hx4 : (XT.toList == XT.toList) = true := by simp
    generalize hwx : w4.alloc (.cells #[.slice Cf m.feet.length kf, .slice Ce m.ends.length ke, .slice Cb m.brks.length kb] 27) = wx
    have swx : wx.heap.size = w4.heap.size + 1 := by rw [← hwx]; simp
    have o0 : wx.cell? ⟨w4.heap.size, 0, none⟩ = some (.slice Cf m.feet.length kf) := by rw [← hwx]; simp
    have o1 : wx.cell? ⟨w4.heap.size, 1, none⟩ = some (.slice Ce m.ends.length ke) := by rw [← hwx]; simp
    have o2 : wx.cell? ⟨w4.heap.size, 2, none⟩ = some (.slice Cb m.brks.length kb) := by rw [← hwx]; simp
    have hbx : Below w4.heap.size w4 wx := by rw [← hwx]; exact (Below.refl _ _).alloc (Nat.le_refl _) _
    have Hbx := Lib.hid (Hnext.out _ _ Hb4.out hbx)
    have HO := Lib.hid (him.on hbx)
    have Hko := Lib.hid fun (W2 : World) (hb2 : Below wx.heap.size wx W2) => And.intro ((hb2.cell (p := ⟨w4.heap.size, 0, none⟩) (by show w4.heap.size < wx.heap.size; omega)).trans o0) (And.intro ((hb2.cell (p := ⟨w4.heap.size, 1, none⟩) (by show w4.heap.size < wx.heap.size; omega)).trans o1) ((hb2.cell (p := ⟨w4.heap.size, 2, none⟩) (by show w4.heap.size < wx.heap.size; omega)).trans o2))
    have Hwx := Lib.hid hwx
    have Hpr : Hid (Calls Tryd.prog 37 #[.agg #[.slice Cf m.feet.length kf, .slice Ce m.ends.length ke, .slice Cb m.brks.length kb]] wx fun e w' => e = .returned (.tuple #[.string XP, .int .i64 0]) ∧ Below wx.heap.size wx w') := Lib.hid (by rw [← hXP.out]; exact print_any Cf Ce Cb kf ke kb m wx (Hvx.out _ Hbx.out) HO.out Hm.out)
    clear hwx hbx him
    go_upto_region 7 with fail
    rw [Hwx.out]
    go_wp2_with fail
    refine Hpr.out.mono ?_
    rintro e w5 ⟨rfl, hb5⟩
    have Ho5 := Lib.hid hb5
    have Hb5 := Lib.hid (Hnext.out _ _ Hbx.out hb5)
    obtain ⟨p0, p1, p2⟩ := Hko.out _ hb5
    have Hti : Hid (Calls Tryd.prog 38 #[.agg #[.slice Cf m.feet.length kf, .slice Ce m.ends.length ke, .slice Cb m.brks.length kb]] w5 fun e w' => e = .returned (.tuple #[.string XT, .int .i64 0]) ∧ Below w5.heap.size w5 w') := Lib.hid (by rw [← hXT.out]; exact title_any Cf Ce Cb kf ke kb m w5 (Hvx.out _ Hb5.out) (HO.out.on hb5) Hm.out)
    clear hb5 o0 o1 o2
    go_wp2_with fail
    refine Hti.out.mono ?_
    rintro e w6 ⟨rfl, hb6⟩
    have Ho6 := Lib.hid (Ho5.out.trans (hb6.mono Ho5.out.size))
    have Hb6 := Lib.hid (Hnext.out _ _ Hb5.out hb6)
    obtain ⟨r0, r1, r2⟩ := Hkeep.out _ Hb6.out
    have Hrp : Hid (Calls Tryd.prog 39 #[.agg #[.slice Af m.feet.length cf, .slice Ae m.ends.length ce, .slice Ab m.brks.length cb]] w6 fun e w' => e = .returned (.string XP) ∧ Below w6.heap.size w6 w') := Lib.hid (by rw [← hXP.out]; exact refprint_any Af Ae Ab cf ce cb m w6 (Hvx.out _ Hb6.out) (HM.out.on Hb6.out) Hm.out)
    clear hb6 p0 p1 p2
    go_wp2_with fail
    refine Hrp.out.mono ?_
    rintro e w7 ⟨rfl, hb7⟩
    have Ho7 := Lib.hid (Ho6.out.trans (hb7.mono Ho6.out.size))
    have Hb7 := Lib.hid (Hnext.out _ _ Hb6.out hb7)
    obtain ⟨q0, q1, q2⟩ := Hkeep.out _ Hb7.out
    have Hrt : Hid (Calls Tryd.prog 40 #[.agg #[.slice Af m.feet.length cf, .slice Ae m.ends.length ce, .slice Ab m.brks.length cb]] w7 fun e w' => e = .returned (.string XT) ∧ Below w7.heap.size w7 w') := Lib.hid (by rw [← hXT.out]; exact reftitle_any Af Ae Ab cf ce cb m w7 (Hvx.out _ Hb7.out) (HM.out.on Hb7.out) Hm.out)
    clear hb7 r0 r1 r2
    go_wp2_with fail
    refine Hrt.out.mono ?_
    rintro e w8 ⟨rfl, hb8⟩
    have Ho8 := Lib.hid (Ho7.out.trans (hb8.mono Ho7.out.size))
    have Hb8 := Lib.hid (Hnext.out _ _ Hb7.out hb8)
    obtain ⟨r0, r1, r2⟩ := Hkeep.out _ Hb8.out
    obtain ⟨p0, p1, p2⟩ := Hko.out _ Ho8.out
    have Heq : Hid (Calls Tryd.prog 15 #[.agg #[.slice Cf m.feet.length kf, .slice Ce m.ends.length ke, .slice Cb m.brks.length kb], .agg #[.slice Af m.feet.length cf, .slice Ae m.ends.length ce, .slice Ab m.brks.length cb]] w8 fun e w' => e = .returned (.bool true) ∧ Below w8.heap.size w8 w') := Lib.hid (by rw [← equalP_self m]; exact refequal_any Cf Ce Cb kf ke kb m Af Ae Ab cf ce cb m w8 (HO.out.on Ho8.out) (HM.out.on Hb8.out))
    clear hb8 q0 q1 q2
    go_wp2_with fail
    refine Heq.out.mono ?_
    rintro e w9 ⟨rfl, hb9⟩
    have Hb9 := Lib.hid (Hnext.out _ _ Hb8.out hb9)
    have Hwk9 := Lib.hid (Hwk.out _ Hb9.out)
    clear hb9
    go_wp2_with fail
    refine Hwk9.out.mono ?_
    rintro e w10 ⟨rfl, hb10⟩
    have Hb10 := Lib.hid (Hnext.out _ _ Hb9.out hb10)
    clear hb10
    go_wp2_with fail
    go_ret
    exact ⟨rfl, HB1.out.trans (Hb10.out.mono (by omega))⟩
end Go.Proofs.YtkfkkoefpfmjkaaDoor

import Derived.Test.YtkfkkoefpfmjkaaDoorXG
namespace Go.Proofs.YtkfkkoefpfmjkaaDoor
set_option linter.unusedVariables false
set_option linter.unusedSimpArgs false
open Go.RowKit

set_option maxRecDepth 100000 in
set_option maxHeartbeats 8000000 in
theorem title_any (Af Ae Ab : Option Addr) (cf ce cb : Nat) (m : Met) (w : World) (hv : Vars w) (h : IsMet w w.heap.size Af Ae Ab cf ce cb m) (hm : mayB m = true) :
    Calls Tryd.prog 38 #[.agg #[.slice Af m.feet.length cf, .slice Ae m.ends.length ce, .slice Ab m.brks.length cb]] w fun e w' => e = .returned (.tuple #[.string ⟨(titleP m).toArray⟩, .int .i64 0]) ∧ Below w.heap.size w w' := by
  generalize hW1 : w.alloc (.cells #[.slice Af m.feet.length cf, .slice Ae m.ends.length ce, .slice Ab m.brks.length cb] 27) = W1
  have sW1 : W1.heap.size = w.heap.size + 1 := by rw [← hW1]; simp
  have hB1 : Below w.heap.size w W1 := by rw [← hW1]; exact (Below.refl _ _).alloc (Nat.le_refl _) _
  have m0 : W1.cell? ⟨w.heap.size, 0, none⟩ = some (.slice Af m.feet.length cf) := by rw [← hW1]; simp
  have m1 : W1.cell? ⟨w.heap.size, 1, none⟩ = some (.slice Ae m.ends.length ce) := by rw [← hW1]; simp
  have m2 : W1.cell? ⟨w.heap.size, 2, none⟩ = some (.slice Ab m.brks.length cb) := by rw [← hW1]; simp
  have HW1 := Lib.hid hW1
  have HB1 := Lib.hid hB1
  have Hch := Lib.hid (check_any Af Ae Ab cf ce cb m W1 (h.on hB1))
  have Hc : Hid (checkN m = 0) := Lib.hid (by unfold checkN; rw [hm]; rfl)
  have HP := Lib.hid (pr_ok hm)
  have hpos := HP.out.pos
  have hf16 := HP.out.feet
  have HIM := Lib.hid (h.on hB1)
  have Hm0 := Lib.hid m0
  have Hv1 := Lib.hid (hv.below hB1 hv.six)
  clear h hW1 hB1 hm hv
  go_enter Tryd.func38, Tryd.ntmps38
  go_wp2_with fail
  rw [HW1.out]
  go_wp2_with fail
  refine Hch.out.mono ?_
  rintro e w2 ⟨rfl, hb2⟩
  rw [Hc.out]
  have Hb2 := Lib.hid hb2
  clear hb2 m0 m1 m2
  obtain ⟨b, off, rfl, hbb, hrow⟩ := (HIM.out.feet.below Hb2.out) hpos
  have q0 : w2.cell? ⟨w.heap.size, 0, none⟩ = some (.slice (some ⟨b, off, none⟩) m.feet.length cf) := (Hb2.out.cell (p := ⟨w.heap.size, 0, none⟩) (by show w.heap.size < W1.heap.size; omega)).trans Hm0.out
  have f0 : w2.cell? ⟨b, off, none⟩ = some (.string (m.feet.getD 0 default).own) := by have := (hrow 0 hpos).1; simpa using this
  have hown4 := HP.out.own 0 hpos
  have hs2 := Hb2.out.size
  generalize hown : (m.feet.getD 0 default).own = own at q0 f0 hown4
  have Hown := Lib.hid hown
  clear hown
  clear hrow
  generalize hw3 : w2.alloc (.cells #[.string own] 9) = w3
  have g0 : w3.cell? ⟨w2.heap.size, 0, none⟩ = some (.string own) := by rw [← hw3]; simp
  have sw3 : w3.heap.size = w2.heap.size + 1 := by rw [← hw3]; simp
  have Hb3 := Lib.hid (show Below W1.heap.size W1 w3 by rw [← hw3]; exact Hb2.out.alloc hs2 _)
  have Hw3 := Lib.hid hw3
  clear hw3
  go_upto_region 5 with fail
  rw [Hw3.out]
  go_wp2_with fail
  refine (saidT_any own w3 hown4).mono ?_
  rintro e w4 ⟨T, N, rfl, hT, hN, hTs, hb4⟩
  have g4 : w4.cell? ⟨w2.heap.size, 0, none⟩ = some (.string own) := (hb4.cell (p := ⟨w2.heap.size, 0, none⟩) (by show w2.heap.size < w3.heap.size; omega)).trans g0
  have Hb4 := Lib.hid (Hb3.out.trans (hb4.mono Hb3.out.size))
  have HN := Lib.hid hN
  clear hT hN
  go_upto_region 6 with fail
  have HT : Hid (titleP m = if saidT own.data.toList = [] ∨ m.feet.any (otherB own) = true then MIXED
    else if m.feet.length < 9 then saidT own.data.toList ++ ([32] ++ (footN m.feet.length ++ METER))
    else saidT own.data.toList ++ ([32] ++ (Lib.itoa (m.feet.length : Int) ++ ([45] ++ METER)))) := Lib.hid (by rw [← Hown.out]; rfl)
  by_cases hz : N.data.toList = []
  · have e5 : N = ⟨#[]⟩ := by
      have : N = ⟨N.data.toList.toArray⟩ := by cases N; simp
      rw [this, hz]
    have HX := Lib.hid (show titleP m = MIXED by rw [HT.out, if_pos (.inl (by rw [← HN.out, hz]))])
    clear hz HN
    subst e5
    go_wp2_with fail
    go_ret2
    exact ⟨by rw [HX.out]; rfl, HB1.out.trans (Hb4.out.mono HB1.out.size)⟩
  · have z1 : (N.toList == (⟨#[]⟩ : ByteArray).toList) = false := by rw [ByteArray.toList_eq, ByteArray.toList_eq, beq_eq_false_iff_ne]; simpa using hz
    have z2 : (N.toList == []) = false := by rw [ByteArray.toList_eq, beq_eq_false_iff_ne]; exact hz
    have z3 : N.toList.isEmpty = false := by rw [ByteArray.toList_eq]; cases h : N.data.toList with | nil => exact absurd h hz | cons _ _ => rfl
    have hNs : N.size ≤ 20 := by rw [← sizeL, HN.out]; exact saidT_len _
    have Hnz := Lib.hid (show ¬ saidT own.data.toList = [] from fun e => hz (HN.out.trans e))
    have q4 : w4.cell? ⟨w.heap.size, 0, none⟩ = some (.slice (some ⟨b, off, none⟩) m.feet.length cf) := (Hb4.out.cell (p := ⟨w.heap.size, 0, none⟩) (by show w.heap.size < W1.heap.size; omega)).trans Hm0.out
    have hl4 : w2.heap.size < w4.heap.size := by have := hb4.size; omega
    have Hoa := Lib.hid (other_any (some ⟨b, off, none⟩) cf w2.heap.size m.feet own w4 ((HIM.out.feet.below Hb4.out).more Hb4.out.size) (by omega) g4 hl4)
    clear hz
    go_wp2_with fail
    refine Hoa.out.mono ?_
    rintro e w5 ⟨rfl, hb5⟩
    have Hb5 := Lib.hid (Hb4.out.trans (hb5.mono Hb4.out.size))
    clear hb5
    have q5 : w5.cell? ⟨w.heap.size, 0, none⟩ = some (.slice (some ⟨b, off, none⟩) m.feet.length cf) := (Hb5.out.cell (p := ⟨w.heap.size, 0, none⟩) (by show w.heap.size < W1.heap.size; omega)).trans Hm0.out
    cases hany : m.feet.any (otherB own) with
    | true =>
      have HX := Lib.hid (show titleP m = MIXED by rw [HT.out, if_pos (.inr hany)])
      clear hany
      go_wp2_with fail
      go_ret2
      exact ⟨by rw [HX.out]; rfl, HB1.out.trans (Hb5.out.mono HB1.out.size)⟩
    | false =>
      have HX := Lib.hid (show titleP m = _ by rw [HT.out, if_neg (by rw [hany]; simp [Hnz.out])])
      clear hany
      go_upto_region 10 with fail
      generalize hwt : w5.alloc _ = wt
      have hbt : Below W1.heap.size W1 wt := by rw [← hwt]; exact Hb5.out.alloc Hb5.out.size _
      have ct : ∀ n, 1 ≤ n → n ≤ 8 → wt.cell? ⟨w5.heap.size, n, none⟩ = some (.string ⟨(footN n).toArray⟩) := by
        intro n h1 h8
        rw [← hwt]
        have : n = 1 ∨ n = 2 ∨ n = 3 ∨ n = 4 ∨ n = 5 ∨ n = 6 ∨ n = 7 ∨ n = 8 := by omega
        rcases this with rfl | rfl | rfl | rfl | rfl | rfl | rfl | rfl <;> simp [footN]
      have fl : ∀ n, (footN n).length ≤ 20 := by
        intro n
        unfold footN
        split <;> simp
      have Hbt := Lib.hid hbt
      have HI := Lib.hid (itoaT_any (m.feet.length : Int) wt (Hv1.out.below hbt (by have := Hv1.out.six; omega)) (by omega) (by omega))
      clear hwt hbt
      have e5 : Hid (∀ X Y : ByteArray, X.data.toList = Y.data.toList → X = Y) := Lib.hid fun X Y h => by cases X; cases Y; simpa using h
      by_cases h9 : m.feet.length < 9
      · have c9 := ct m.feet.length (by omega) (by omega)
        have hl9 := sizeT (fl m.feet.length)
        have HX9 := Lib.hid (HX.out.trans (if_pos h9))
        generalize hU : (⟨(footN m.feet.length).toArray⟩ : ByteArray) = U at *
        have HU := Lib.hid (show U.data.toList = footN m.feet.length by rw [← hU])
        clear hU ct fl
        go_wp2_with fail
        go_ret2
        refine ⟨?_, HB1.out.trans (Hbt.out.mono HB1.out.size)⟩
        refine congrArg (fun x => Ending.returned (Value.tuple #[Value.string x, .int .i64 0])) (e5.out _ _ ?_)
        rw [HX9.out]
        simp [HN.out, HU.out, METER]
      · have HX9 := Lib.hid (HX.out.trans (if_neg h9))
        clear ct fl
        go_wp2_with fail
        refine HI.out.mono ?_
        rintro e w9 ⟨S, rfl, hS, hSs, hb9⟩
        have HS := Lib.hid hS
        clear hS
        go_wp2_with fail
        go_ret2
        refine ⟨?_, HB1.out.trans ((Hbt.out.trans (hb9.mono Hbt.out.size)).mono HB1.out.size)⟩
        refine congrArg (fun x => Ending.returned (Value.tuple #[Value.string x, .int .i64 0])) (e5.out _ _ ?_)
        rw [HX9.out]
        simp [HN.out, HS.out, METER]
end Go.Proofs.YtkfkkoefpfmjkaaDoor

import Derived.Test.YtkfkkoefpfmjkaaDoorXC
import Derived.Test.YtkfkkoefpfmjkaaDoorQE
import Derived.Deep.CutBlock
namespace Go.Proofs.YtkfkkoefpfmjkaaDoor
set_option linter.unusedVariables false
set_option linter.unusedSimpArgs false
open Go.RowKit

/- The reference's Print. -/
theorem sizeT {l : List UInt8} {n : Nat} (h : l.length ≤ n) : (⟨l.toArray⟩ : ByteArray).size ≤ n := by
  show l.toArray.size ≤ n
  simpa using h
theorem itoaT_any (v : Int) (w : World) (hv : Vars w) (h0 : -9223372036854775808 ≤ v) (h1 : v ≤ 9223372036854775807) :
    Calls Tryd.prog 78 #[.int .i64 v] w fun e w' => ∃ T : ByteArray, e = .returned (.string T) ∧ T.data.toList = Lib.itoa v ∧ T.size ≤ 21 ∧ Below w.heap.size w w' :=
  (itoa_any v w hv h0 h1).mono fun e w' ⟨he, hb⟩ => ⟨_, he, by simp, sizeT (Lib.itoa_length_le v h0 h1), hb⟩
theorem wordT_any (t : ByteArray) (w : World) (ht : t.size ≤ 4) :
    Calls Tryd.prog 85 #[.string t] w fun e w' => ∃ T : ByteArray, e = .returned (.string T) ∧ T.data.toList = saidW t.data.toList ∧ T.size ≤ 21 ∧ Below w.heap.size w w' :=
  (word_any t w).mono fun e w' ⟨he, hb⟩ => ⟨_, he, by simp, Nat.le_trans (sizeT (saidW_len (by rw [sizeL]; exact ht))) (by omega), hb⟩
def preT (h : List UInt8) (of : List UInt8 → List UInt8) (l : List Way) (j : Nat) : List UInt8 := if 0 < j then h ++ listTo of l j else []
theorem preT_zero (h : List UInt8) (of : List UInt8 → List UInt8) (l : List Way) : preT h of l 0 = [] := rfl
theorem preT_first (h : List UInt8) (of : List UInt8 → List UInt8) (l : List Way) : preT h of l 1 = h ++ (of (l.getD 0 default).1.data.toList ++ ([32] ++ Lib.itoa (l.getD 0 default).2)) := by
  unfold preT; rw [if_pos (by omega)]; simp [listTo]
theorem preT_next (h : List UInt8) (of : List UInt8 → List UInt8) (l : List Way) (j : Nat) (hj : 0 < j) : preT h of l (j + 1) = preT h of l j ++ (COMMA2 ++ (of (l.getD j default).1.data.toList ++ ([32] ++ Lib.itoa (l.getD j default).2))) := by
  unfold preT; rw [if_pos hj, if_pos (by omega)]; simp [listTo, hj]
theorem preT_len {h : List UInt8} {of : List UInt8 → List UInt8} {l : List Way} {j : Nat} (hh : h.length ≤ 50) (hl : (listTo of l j).length ≤ j * 50) (hj : j ≤ 16) : (preT h of l j).length ≤ 850 := by
  unfold preT
  split
  · rw [List.length_append]; omega
  · simp
theorem waysOf_pre (fs : List Ft) (k : Nat) : waysOf fs k = preT (SEMI2 ++ (Lib.itoa ((k : Int) + 1) ++ [32])) saidW (fs.getD k default).ways (fs.getD k default).ways.length := by
  unfold waysOf preT; split <;> simp
theorem endsT_pre (l : List Way) : endsT l = preT END2 id l l.length := rfl
theorem saidT_any (t : ByteArray) (w : World) (ht : t.size ≤ 4) :
    Calls Tryd.prog 77 #[.string t] w fun e w' => ∃ T N : ByteArray, e = .returned (.tuple #[.string T, .string N]) ∧ T.data.toList = saidW t.data.toList ∧ N.data.toList = saidT t.data.toList ∧ T.size ≤ 21 ∧ Below w.heap.size w w' :=
  (said_any t w).mono fun e w' ⟨he, hb⟩ => ⟨_, _, he, by simp, by simp, Nat.le_trans (sizeT (saidW_len (by rw [sizeL]; exact ht))) (by omega), hb⟩
set_option maxRecDepth 100000 in
set_option maxHeartbeats 16000000 in
theorem refprint_any (Af Ae Ab : Option Addr) (cf ce cb : Nat) (m : Met) (w : World) (hv : Vars w) (h : IsMet w w.heap.size Af Ae Ab cf ce cb m) (hm : mayB m = true) :
    Calls Tryd.prog 39 #[.agg #[.slice Af m.feet.length cf, .slice Ae m.ends.length ce, .slice Ab m.brks.length cb]] w fun e w' => e = .returned (.string ⟨(printP m).toArray⟩) ∧ Below w.heap.size w w' := by
  generalize hW1 : w.alloc (.cells #[.slice Af m.feet.length cf, .slice Ae m.ends.length ce, .slice Ab m.brks.length cb] 27) = W1
  have sW1 : W1.heap.size = w.heap.size + 1 := by rw [← hW1]; simp
  have hB1 : Below w.heap.size w W1 := by rw [← hW1]; exact (Below.refl _ _).alloc (Nat.le_refl _) _
  have m0 : W1.cell? ⟨w.heap.size, 0, none⟩ = some (.slice Af m.feet.length cf) := by rw [← hW1]; simp
  have m1 : W1.cell? ⟨w.heap.size, 1, none⟩ = some (.slice Ae m.ends.length ce) := by rw [← hW1]; simp
  have m2 : W1.cell? ⟨w.heap.size, 2, none⟩ = some (.slice Ab m.brks.length cb) := by rw [← hW1]; simp
  have HW1 := Lib.hid hW1
  have HB1 := Lib.hid hB1
  have Hv := Lib.hid (hv.below hB1 hv.six)
  have HP := Lib.hid (pr_ok hm)
  have HM := Lib.hid (h.on hB1)
  have Hcell := Lib.hid fun (W2 : World) (hb2 : Below W1.heap.size W1 W2) (o : Nat) => hb2.cell (p := ⟨w.heap.size, o, none⟩) (by show w.heap.size < W1.heap.size; omega)
  have HIt := Lib.hid fun (W2 : World) (hb2 : Below W1.heap.size W1 W2) (v : Int) (h0 : 0 ≤ v) (h1 : v ≤ 1048577) => itoaT_any v W2 ((hv.below hB1 hv.six).below hb2 (by have := hv.six; omega)) (by omega) (by omega)
  have Hm0 := Lib.hid m0
  have Hm1 := Lib.hid m1
  have Hm2 := Lib.hid m2
  have hf16 := HP.out.feet
  have he16 := HP.out.efew
  have hb16 := HP.out.bfew
  have HF := Lib.hid (feetB_len HP.out m.feet.length 0)
  have hpp : printP m = feetB m.feet m.feet.length 0 ++ (waysTo m.feet m.feet.length ++ (endsT m.ends ++ brksTo m.brks m.brks.length)) := rfl
  have HPP := Lib.hid hpp
  clear h hW1 hB1 hm hv m0 m1 m2 hpp
  go_enter Tryd.func39, Tryd.ntmps39
  go_upto_region 2 with fail
  rw [HW1.out]
  go_upto_block 0 with fail
  go_cut [3] from 4 to 66 (fun v3 wx => ∃ S : ByteArray, v3 = .string S ∧ Hid (S.data.toList = feetB m.feet m.feet.length 0) ∧ Hid (Below W1.heap.size W1 wx))
  case first =>
    go_wp2_with fail
    go_loopw [3, 4] (fun a i wr => ∃ (k n : Nat) (S : ByteArray), k ≤ m.feet.length ∧ m.feet.length - k ≤ n ∧ i = .int .i64 k ∧ a = .string S ∧ Hid (S.data.toList ++ feetB m.feet n k = feetB m.feet m.feet.length 0) ∧ Hid (Below W1.heap.size W1 wr)) (fun _ i _ => m.feet.length - (intOf i).toNat)
    case atStart => exact ⟨0, m.feet.length, _, by omega, by omega, rfl, rfl, Lib.hid rfl, Lib.hid (Below.refl _ _)⟩
    case round =>
      rename_i wr
      obtain ⟨k, n, S, hk, hn, rfl, rfl, hS, hb⟩ := hrel
      have m0 := (Hcell.out _ hb.out 0).trans Hm0.out
      by_cases hlt : k < m.feet.length
      · obtain ⟨n, rfl⟩ : ∃ n', n = n' + 1 := ⟨n - 1, by omega⟩
        obtain ⟨b, off, rfl, hbb, hrow⟩ := (HM.out.feet.below hb.out) (by omega)
        have Hrow := Lib.hid hrow
        have f0 := (hrow k hlt).1
        have hfe : feetB m.feet (n + 1) k = groupT m.feet k (runTo m.feet (m.feet.getD k default).own k) ++ feetB m.feet n (runTo m.feet (m.feet.getD k default).own k) := by rw [feetB, if_pos hlt]
        have Hfe := Lib.hid hfe
        have Hgt := Lib.hid (runTo_gt hlt)
        have Hle := Lib.hid (runTo_le (fs := m.feet) (own := (m.feet.getD k default).own) hk).2
        clear hrow hfe
        generalize hown : (m.feet.getD k default).own = own at *
        have Hown := Lib.hid hown
        clear hown
        generalize hJ : runTo m.feet own k = J at *
        have HJ := Lib.hid hJ
        clear hJ
        obtain ⟨wo, hwo⟩ : ∃ wo : World, wo = wr := ⟨_, rfl⟩
        subst hwo
        go_upto_block 2 with fail
        go_cut [5] from 14 to 41 (fun v5 wx => v5 = .int .i64 J ∧ Hid (Below wo.heap.size wo wx))
        case first =>
          go_wp2_with fail
          go_loopw [5] (fun j wi => ∃ j' : Nat, j' ≤ m.feet.length ∧ j = .int .i64 j' ∧ Hid (runTo m.feet own j' = J) ∧ Hid (Below wo.heap.size wo wi)) (fun j _ => m.feet.length - (intOf j).toNat)
          case atStart => exact ⟨k, by omega, rfl, HJ, Lib.hid (Below.refl _ _)⟩
          case round =>
            rename_i wi
            obtain ⟨j, hj, rfl, hr, hbi⟩ := hrel
            have q0 := (Hcell.out _ (hb.out.trans (hbi.out.mono hb.out.size)) 0).trans Hm0.out
            have hbw : b < wo.heap.size := by have := hb.out.size; omega
            have fk := (hbi.out.cell (p := ⟨b, off + k * 2, none⟩) hbw).trans f0
            by_cases hjt : j < m.feet.length
            · have fj := (hbi.out.cell (p := ⟨b, off + j * 2, none⟩) hbw).trans (Hrow.out j hjt).1
              have hd : decide ((j : Int) < (m.feet.length : Int)) = true := by simp; omega
              have Hin := Lib.hid (fun h => runTo_in (own := own) hjt h)
              have Hout := Lib.hid (fun h => runTo_out (own := own) hjt h)
              have heq : eqS (m.feet.getD j default).own own = ((m.feet.getD j default).own.toList == own.toList) := rfl
              generalize (m.feet.getD j default).own = oj at *
              have Hrow2 := Lib.hid Hrow
              have Hf0 := Lib.hid f0
              clear f0
              cases hq : eqS oj own with
              | true =>
                have hq2 : (oj.toList == own.toList) = true := by rw [← heq, hq]
                have Hq := Lib.hid ((Hin.out hq).symm.trans hr.out)
                clear hq heq
                go_wp2_with fail
                go_quiet (fail)
                go_wp2_with fail
                go_roundw
                case rel => exact ⟨j + 1, by omega, by go_num, Hq, Lib.hid (belowD hbi.out nq)⟩
                case measure => simp [intOf]; omega
              | false =>
                have hq2 : (oj.toList == own.toList) = false := by rw [← heq, hq]
                have Hq := Lib.hid ((Hout.out hq).symm.trans hr.out)
                clear hq heq
                go_wp2_with fail
                go_quiet (fail)
                go_wp2_with fail
                go_meet
                exact ⟨by rw [← Hq.out], Lib.hid (belowD hbi.out nq)⟩
            · have hd : decide ((j : Int) < (m.feet.length : Int)) = false := by simp; omega
              have Hq := Lib.hid ((runTo_end (own := own) hjt).symm.trans hr.out)
              go_wp2_with fail
              go_quiet (fail)
              go_wp2_with fail
              go_meet
              exact ⟨by rw [← Hq.out], Lib.hid (belowD hbi.out nq)⟩
        case rest =>
          rename_i wx
          obtain ⟨rfl, hbx⟩ := hcut
          have hgt := Hgt.out
          have hle := Hle.out
          have q0 := (Hcell.out _ (hb.out.trans (hbx.out.mono hb.out.size)) 0).trans Hm0.out
          have hbw : b < wo.heap.size := by have := hb.out.size; omega
          have fk := (hbx.out.cell (p := ⟨b, off + k * 2, none⟩) hbw).trans f0
          have HB := Lib.hid (hb.out.trans (hbx.out.mono hb.out.size))
          have HI := Lib.hid (HIt.out _ HB.out ((J : Int) - (k : Int)) (by omega) (by omega))
          have Hgr := Lib.hid (show groupT m.feet k J = (if 0 < k then COMMA2 else []) ++ ((if 1 < J - k then Lib.itoa ((J - k : Nat) : Int) ++ [32] else []) ++ saidW own.data.toList) by unfold groupT; rw [Hown.out])
          have Hos := Lib.hid (show own.size ≤ 4 by rw [← Hown.out]; exact HP.out.own k hlt)
          have Hc := Lib.hid (show ((J - k : Nat) : Int) = (J : Int) - (k : Int) by omega)
          have HS' := Lib.hid hS
          have hsz : S.size + 200 ≤ 20000 := by
            have h1 := HF.out
            rw [← hS.out, List.length_append, sizeL] at h1
            omega
          by_cases h0 : 0 < k
          · by_cases h1 : 1 < J - k
            · go_wp2_with fail
              refine HI.out.mono ?_
              rintro e w8 ⟨T, rfl, hT, hTs, hb8⟩
              have HT := Lib.hid hT
              have HB8 := Lib.hid (HB.out.trans (hb8.mono (by have := HB.out.size; omega)))
              have q1 := (Hcell.out _ HB8.out 0).trans Hm0.out
              have fk1 := (hb8.cell (p := ⟨b, off + k * 2, none⟩) (by have := hbx.out.size; show b < _; omega)).trans fk
              clear hT hb8 q0 fk
              go_wp2_with fail
              refine (wordT_any own _ Hos.out).mono ?_
              rintro e w9 ⟨U, rfl, hU, hUs, hb9⟩
              have HU := Lib.hid hU
              have HB9 := Lib.hid (HB8.out.trans (hb9.mono (HB8.out.size)))
              clear hb9 hU
              go_wp2_with fail
              go_roundw
              case rel =>
                refine ⟨J, n, _, hle, by omega, rfl, rfl, Lib.hid ?_, HB9⟩
                rw [← HS'.out.out, Hfe.out, Hgr.out, if_pos h0, if_pos h1, Hc.out]
                simp [COMMA2, HU.out, HT.out]
              case measure => simp [intOf]; omega
            · go_wp2_with fail
              refine (wordT_any own _ Hos.out).mono ?_
              rintro e w9 ⟨U, rfl, hU, hUs, hb9⟩
              have HU := Lib.hid hU
              have HB9 := Lib.hid (HB.out.trans (hb9.mono (HB.out.size)))
              clear hb9 hU
              go_wp2_with fail
              go_roundw
              case rel =>
                refine ⟨J, n, _, hle, by omega, rfl, rfl, Lib.hid ?_, HB9⟩
                rw [← HS'.out.out, Hfe.out, Hgr.out, if_pos h0, if_neg h1]
                simp [COMMA2, HU.out]
              case measure => simp [intOf]; omega
          · by_cases h1 : 1 < J - k
            · go_wp2_with fail
              refine HI.out.mono ?_
              rintro e w8 ⟨T, rfl, hT, hTs, hb8⟩
              have HT := Lib.hid hT
              have HB8 := Lib.hid (HB.out.trans (hb8.mono (by have := HB.out.size; omega)))
              have q1 := (Hcell.out _ HB8.out 0).trans Hm0.out
              have fk1 := (hb8.cell (p := ⟨b, off + k * 2, none⟩) (by have := hbx.out.size; show b < _; omega)).trans fk
              clear hT hb8 q0 fk
              go_wp2_with fail
              refine (wordT_any own _ Hos.out).mono ?_
              rintro e w9 ⟨U, rfl, hU, hUs, hb9⟩
              have HU := Lib.hid hU
              have HB9 := Lib.hid (HB8.out.trans (hb9.mono (HB8.out.size)))
              clear hb9 hU
              go_wp2_with fail
              go_roundw
              case rel =>
                refine ⟨J, n, _, hle, by omega, rfl, rfl, Lib.hid ?_, HB9⟩
                rw [← HS'.out.out, Hfe.out, Hgr.out, if_neg h0, if_pos h1, Hc.out]
                simp [COMMA2, HU.out, HT.out]
              case measure => simp [intOf]; omega
            · go_wp2_with fail
              refine (wordT_any own _ Hos.out).mono ?_
              rintro e w9 ⟨U, rfl, hU, hUs, hb9⟩
              have HU := Lib.hid hU
              have HB9 := Lib.hid (HB.out.trans (hb9.mono (HB.out.size)))
              clear hb9 hU
              go_wp2_with fail
              go_roundw
              case rel =>
                refine ⟨J, n, _, hle, by omega, rfl, rfl, Lib.hid ?_, HB9⟩
                rw [← HS'.out.out, Hfe.out, Hgr.out, if_neg h0, if_neg h1]
                simp [COMMA2, HU.out]
              case measure => simp [intOf]; omega
      · obtain rfl : k = m.feet.length := by omega
        have hS' : S.data.toList = feetB m.feet m.feet.length 0 := by have := hS.out; rw [feetB_end, List.append_nil] at this; exact this
        have HS := Lib.hid hS'
        clear hS hS'
        go_wp2_with fail
        go_meet
        exact ⟨S, rfl, HS, hb⟩
  case rest =>
  obtain ⟨S1, rfl, hS1, hb1⟩ := hcut
  have hs1 : S1.size ≤ 800 := by rw [← sizeL, hS1.out]; have := HF.out; omega
  have m0 := (Hcell.out _ hb1.out 0).trans Hm0.out
  obtain ⟨wp, hwp⟩ : ∃ wp : World, wp = wc := ⟨_, rfl⟩
  subst hwp
  go_upto_block 4 with fail
  go_cut [3] from 6 to 105 (fun v3 wx => ∃ S : ByteArray, v3 = .string S ∧ Hid (S.data.toList = feetB m.feet m.feet.length 0 ++ waysTo m.feet m.feet.length) ∧ Hid (Below W1.heap.size W1 wx))
  case first =>
    clear m0
    go_wp2_with fail
    go_loopw [3, 70] (fun a i wr => ∃ (k : Nat) (S : ByteArray), k ≤ m.feet.length ∧ i = .int .i64 k ∧ a = .string S ∧ Hid (S.data.toList = feetB m.feet m.feet.length 0 ++ waysTo m.feet k) ∧ Hid (Below W1.heap.size W1 wr)) (fun _ i _ => m.feet.length - (intOf i).toNat)
    case atStart => exact ⟨0, S1, by omega, rfl, rfl, Lib.hid (by rw [hS1.out]; simp [waysTo]), hb1⟩
    case round =>
      rename_i wr
      obtain ⟨k, S, hk, rfl, rfl, hS, hb⟩ := hrel
      by_cases hlt : k < m.feet.length
      · obtain ⟨b, off, rfl, hbb, hrow⟩ := (HM.out.feet.below hb.out) (by omega)
        obtain ⟨f0, A2, c2, f1, hc2, hIW⟩ := hrow k hlt
        have hfew := HP.out.few k hlt
        have Hws := Lib.hid (HP.out.ways k hlt)
        have Hwt := Lib.hid (waysTo_len HP.out k (by omega))
        have Hsu := Lib.hid (show waysTo m.feet (k + 1) = waysTo m.feet k ++ waysOf m.feet k from rfl)
        have Hof := Lib.hid (show waysOf m.feet k = if 0 < (m.feet.getD k default).ways.length then SEMI2 ++ (Lib.itoa ((k : Int) + 1) ++ ([32] ++ listTo saidW (m.feet.getD k default).ways (m.feet.getD k default).ways.length)) else [] from rfl)
        have Hlen := Lib.hid (listTo_len (of := saidW) (l := (m.feet.getD k default).ways) (fun j hj => ⟨saidW_len (by have := (HP.out.ways k hlt j hj).1; rw [sizeL]; exact this), (HP.out.ways k hlt j hj).2⟩))
        have HIW := Lib.hid hIW
        have Hofp := Lib.hid (waysOf_pre m.feet k)
        generalize (m.feet.getD k default).own = own at *
        generalize (m.feet.getD k default).ways = l at *
        clear hrow hIW
        have hs : S.size ≤ 13700 := by
          have h1 := HF.out
          have h2 := Hwt.out
          rw [← sizeL, hS.out, List.length_append]
          omega
        have HBr := Lib.hid (hb.out.alloc hb.out.size (.cells #[.string own, .slice A2 l.length c2] 81))
        obtain ⟨wo, hwo⟩ : ∃ wo : World, wo = wr := ⟨_, rfl⟩
        subst hwo
        go_upto_block 5 with fail
        go_cut [3] from 71 to 105 (fun v3 wx => ∃ S : ByteArray, v3 = .string S ∧ Hid (S.data.toList = feetB m.feet m.feet.length 0 ++ waysTo m.feet (k + 1)) ∧ Hid (Below W1.heap.size W1 wx))
        case first =>
          generalize hW2 : wo.alloc (.cells #[.string own, .slice A2 l.length c2] 81) = W2 at *
          have e0 : W2.cell? ⟨wo.heap.size, 1, none⟩ = some (.slice A2 l.length c2) := by rw [← hW2]; simp
          have HW2 := Lib.hid hW2
          have HIW2 := Lib.hid (HIW.out.below (show Below W1.heap.size wo W2 by rw [← hW2]; exact (Below.refl _ _).alloc hb.out.size _))
          have Hp0 := Lib.hid (preT_zero (SEMI2 ++ (Lib.itoa ((k : Int) + 1) ++ [32])) saidW l)
          have Hp1 := Lib.hid (preT_first (SEMI2 ++ (Lib.itoa ((k : Int) + 1) ++ [32])) saidW l)
          have Hpn := Lib.hid (preT_next (SEMI2 ++ (Lib.itoa ((k : Int) + 1) ++ [32])) saidW l)
          have Hpl := Lib.hid (fun j (hj : j ≤ l.length) => preT_len (h := SEMI2 ++ (Lib.itoa ((k : Int) + 1) ++ [32])) (of := saidW) (l := l) (j := j) (by have := Lib.itoa_length_le ((k : Int) + 1) (by omega) (by omega); simp [SEMI2]; omega) (Hlen.out j hj) (by omega))
          clear hW2
          go_upto_region 16 with fail
          rw [HW2.out]
          go_wp2_with fail
          go_loopw [3, 78] (fun a i wi => ∃ (j : Nat) (S2 : ByteArray), j ≤ l.length ∧ i = .int .i64 j ∧ a = .string S2 ∧ Hid (S2.data.toList = S.data.toList ++ preT (SEMI2 ++ (Lib.itoa ((k : Int) + 1) ++ [32])) saidW l j) ∧ Hid (Below W2.heap.size W2 wi)) (fun _ i _ => l.length - (intOf i).toNat)
          case atStart => exact ⟨0, S, by omega, rfl, rfl, Lib.hid (by rw [Hp0.out]; simp), Lib.hid (Below.refl _ _)⟩
          case round =>
            obtain ⟨wi, hwi⟩ : ∃ wi : World, wi = wr := ⟨_, rfl⟩
            subst hwi
            obtain ⟨j, S2, hj, rfl, rfl, hS2, hbi⟩ := hrel
            have HBi := Lib.hid (HBr.out.trans (hbi.out.mono HBr.out.size))
            by_cases hjt : j < l.length
            · obtain ⟨b2, o2, rfl, hbb2, hrow2⟩ := (HIW2.out.below (hbi.out.mono HBr.out.size)) (by omega)
              obtain ⟨r0, r1⟩ := hrow2 j hjt
              obtain ⟨hv4, hv0, hv1⟩ := Hws.out j hjt
              have Hq1 := Lib.hid (fun (h : j = 0) => (show preT (SEMI2 ++ (Lib.itoa ((k : Int) + 1) ++ [32])) saidW l (j + 1) = (SEMI2 ++ (Lib.itoa ((k : Int) + 1) ++ [32])) ++ (saidW (l.getD j default).1.data.toList ++ ([32] ++ Lib.itoa (l.getD j default).2)) by subst h; exact Hp1.out))
              have Hqn := Lib.hid (Hpn.out j)
              have hs2 : S2.size ≤ 15000 := by
                have h1 := Hpl.out j hj
                rw [← sizeL, hS2.out, List.length_append, sizeL]
                omega
              generalize l.getD j default = v at *
              obtain ⟨v1, v2⟩ := v
              simp only [] at r0 r1 hv4 hv0 hv1 Hq1 Hqn
              clear hrow2
              obtain ⟨U, hU⟩ : ∃ U : ByteArray, Hid (U = ⟨(saidW v1.data.toList).toArray⟩) := ⟨_, Lib.hid rfl⟩
              obtain ⟨V, hV⟩ : ∃ V : ByteArray, Hid (V = ⟨(Lib.itoa v2).toArray⟩) := ⟨_, Lib.hid rfl⟩
              have hUs : U.size ≤ 20 := by rw [hU.out]; exact sizeT (saidW_len (by rw [sizeL]; exact hv4))
              have hVs : V.size ≤ 21 := by rw [hV.out]; exact sizeT (Lib.itoa_length_le v2 (by omega) (by omega))
              have HWd : Hid (∀ W, Calls Tryd.prog 85 #[.string v1] W fun e w' => e = .returned (.string U) ∧ Below W.heap.size W w') := Lib.hid (fun W => by rw [hU.out]; exact word_any v1 W)
              generalize hwc : wi.alloc (.cells #[.string v1, .int .i64 v2] 100) = wc at *
              have swc : wc.heap.size = wi.heap.size + 1 := by rw [← hwc]; simp
              have c0 : wc.cell? ⟨wi.heap.size, 0, none⟩ = some (.string v1) := by rw [← hwc]; simp
              have c1 : wc.cell? ⟨wi.heap.size, 1, none⟩ = some (.int .i64 v2) := by rw [← hwc]; simp
              have HBc := Lib.hid (show Below W1.heap.size W1 wc by rw [← hwc]; exact HBi.out.alloc HBi.out.size _)
              have HBc2 := Lib.hid (show Below W2.heap.size W2 wc by rw [← hwc]; exact hbi.out.alloc hbi.out.size _)
              have Hwc := Lib.hid hwc
              have HS' := Lib.hid hS2.out
              clear hwc
              have zz0 : ¬ (9223372036854775807 < U.size + 1) := by omega
              have zz1 : ¬ (9223372036854775807 < U.size + 1 + V.size) := by omega
              have zz2 : ¬ (9223372036854775807 < S2.size + 2 + (U.size + 1 + V.size)) := by omega
              go_upto_region 19 with fail
              rw [Hwc.out]
              by_cases hj0 : j = 0
              · have Hst := Lib.hid (Hq1.out hj0)
                have hX : Hid (preT (SEMI2 ++ (Lib.itoa ((k : Int) + 1) ++ [32])) saidW l j = []) := Lib.hid (by rw [hj0]; exact Hp0.out)
                subst hj0
                have HIk := Lib.hid (HIt.out _ HBc.out ((k : Int) + 1) (by omega) (by omega))
                go_wp2_with fail
                refine HIk.out.mono ?_
                rintro e wd ⟨T, rfl, hT, hTs, hb8⟩
                have HT := Lib.hid hT
                have HBd := Lib.hid (HBc.out.trans (hb8.mono HBc.out.size))
                have p0 := (hb8.cell (p := ⟨wi.heap.size, 0, none⟩) (by show wi.heap.size < wc.heap.size; rw [swc]; omega)).trans c0
                have p1 := (hb8.cell (p := ⟨wi.heap.size, 1, none⟩) (by show wi.heap.size < wc.heap.size; rw [swc]; omega)).trans c1
                have hld : wi.heap.size < wd.heap.size := by have := hb8.size; omega
                clear hT c0 c1
                have zz3 : ¬ (9223372036854775807 < S2.size + (2 + T.size + 1) + (U.size + 1 + V.size)) := by omega
                have HIc : Hid (∀ W, Below wd.heap.size wd W → Calls Tryd.prog 78 #[.int .i64 v2] W fun e w' => e = .returned (.string V) ∧ Below W.heap.size W w') := Lib.hid (fun W hb => by rw [hV.out]; exact itoa_any v2 W ((Hv.out.below HBd.out (by have := Hv.out.six; omega)).below hb (by have := HBd.out.size; have := Hv.out.six; omega)) (by omega) (by omega))
                go_upto_region 22 with fail
                go_region_held3 (fun w' => Below wd.heap.size wd w' ∧ ∀ b o, b < wd.heap.size → w'.cell? ⟨b, o, none⟩ = wd.cell? ⟨b, o, none⟩) (((repeat (apply keepS; assumption)); exact startS)) (first | (go_at_call 85; refine (HWd.out _).mono ?_; rintro e w9 ⟨rfl, hb9⟩) | (go_at_call 78; refine (HIc.out _ (by first | exact startS.1 | exact And.left (by assumption))).mono ?_; rintro e w9 ⟨rfl, hb9⟩))
                all_goals
                  rename_i hHeld
                  have hS9 := hHeld.1
                  clear hHeld
                  have HB9 := Lib.hid (HBd.out.trans (hS9.mono HBd.out.size))
                  have hb89 := Lib.hid (hb8.trans (hS9.mono hb8.size))
                  clear hS9 p0 p1
                  go_wp2_with fail
                  go_roundw
                  case rel =>
                    refine ⟨1, _, by omega, rfl, rfl, Lib.hid ?_, Lib.hid (HBc2.out.trans (hb89.out.mono HBc2.out.size))⟩
                    rw [show preT (SEMI2 ++ (Lib.itoa ((k : Int) + 1) ++ [32])) saidW l 1 = _ from Hst.out]; simp [HS'.out, hX.out, preT_zero, HT.out, hU.out, hV.out, SEMI2]
                  case measure => simp [intOf]; omega
              · have Hst := Lib.hid (Hqn.out (by omega))
                obtain ⟨wd, hwd⟩ : ∃ wd : World, wd = wc := ⟨_, rfl⟩
                subst hwd
                have HBd := HBc
                have p0 := c0
                have p1 := c1
                have hld : wi.heap.size < wd.heap.size := by omega
                clear c0 c1
                have HIc : Hid (∀ W, Below wd.heap.size wd W → Calls Tryd.prog 78 #[.int .i64 v2] W fun e w' => e = .returned (.string V) ∧ Below W.heap.size W w') := Lib.hid (fun W hb => by rw [hV.out]; exact itoa_any v2 W ((Hv.out.below HBd.out (by have := Hv.out.six; omega)).below hb (by have := HBd.out.size; have := Hv.out.six; omega)) (by omega) (by omega))
                go_upto_region 22 with fail
                go_region_held3 (fun w' => Below wd.heap.size wd w' ∧ ∀ b o, b < wd.heap.size → w'.cell? ⟨b, o, none⟩ = wd.cell? ⟨b, o, none⟩) (((repeat (apply keepS; assumption)); exact startS)) (first | (go_at_call 85; refine (HWd.out _).mono ?_; rintro e w9 ⟨rfl, hb9⟩) | (go_at_call 78; refine (HIc.out _ (by first | exact startS.1 | exact And.left (by assumption))).mono ?_; rintro e w9 ⟨rfl, hb9⟩))
                all_goals
                  rename_i hHeld
                  have hS9 := hHeld.1
                  clear hHeld
                  have HB9 := Lib.hid (HBd.out.trans (hS9.mono HBd.out.size))
                  have hb89 := Lib.hid (hS9)
                  clear hS9 p0 p1
                  go_wp2_with fail
                  go_roundw
                  case rel =>
                    refine ⟨j + 1, _, by omega, by go_num, rfl, Lib.hid ?_, Lib.hid (HBc2.out.trans (hb89.out.mono HBc2.out.size))⟩
                    simp [HS'.out, Hst.out, hU.out, hV.out, COMMA2]
                  case measure => simp [intOf]; omega
            · obtain rfl : j = l.length := by omega
              go_wp2_with fail
              go_meet
              refine ⟨S2, rfl, Lib.hid ?_, HBi⟩
              rw [hS2.out, hS.out, Hsu.out, Hofp.out]; simp
        case rest =>
          rename_i wx
          obtain ⟨S3, rfl, hS3, hb3⟩ := hcut
          go_wp2_with fail
          go_roundw
          case rel => exact ⟨k + 1, S3, by omega, by go_num, rfl, hS3, hb3⟩
          case measure => simp [intOf]; omega
      · obtain rfl : k = m.feet.length := by omega
        go_wp2_with fail
        go_meet
        exact ⟨S, rfl, hS, hb⟩
  case rest =>
  rename_i wx2
  obtain ⟨S2, rfl, hS2, hb2⟩ := hcut
  have Hwl := Lib.hid (waysTo_len HP.out m.feet.length (Nat.le_refl _))
  have hs2 : S2.size ≤ 13700 := by
    have h1 := HF.out
    have h2 := Hwl.out
    rw [← sizeL, hS2.out, List.length_append]
    omega
  have m1 := (Hcell.out _ hb2.out 1).trans Hm1.out
  go_upto_block 8 with fail
  go_cut [3] from 10 to 129 (fun v3 wx => ∃ S : ByteArray, v3 = .string S ∧ Hid (S.data.toList = S2.data.toList ++ endsT m.ends) ∧ Hid (Below W1.heap.size W1 wx))
  case first =>
    have Hel := Lib.hid (listTo_len (of := id) (l := m.ends) (fun j hj => ⟨by rw [show id (m.ends.getD j default).1.data.toList = (m.ends.getD j default).1.data.toList from rfl, sizeL]; have := (HP.out.ends j hj).1; omega, (HP.out.ends j hj).2⟩))
    have Hws := Lib.hid HP.out.ends
    have HIW := Lib.hid (HM.out.ends)
    have Het := Lib.hid (endsT_pre m.ends)
    generalize m.ends = l at *
    have Hp0 := Lib.hid (preT_zero END2 id l)
    have Hp1 := Lib.hid (preT_first END2 id l)
    have Hpn := Lib.hid (preT_next END2 id l)
    have Hpl := Lib.hid (fun j (hj : j ≤ l.length) => preT_len (h := END2) (of := id) (l := l) (j := j) (by simp [END2]) (Hel.out j hj) (by omega))
    clear m1
    go_wp2_with fail
    go_loopw [3, 109] (fun a i wi => ∃ (j : Nat) (S3 : ByteArray), j ≤ l.length ∧ i = .int .i64 j ∧ a = .string S3 ∧ Hid (S3.data.toList = S2.data.toList ++ preT END2 id l j) ∧ Hid (Below W1.heap.size W1 wi)) (fun _ i _ => l.length - (intOf i).toNat)
    case atStart => exact ⟨0, S2, by omega, rfl, rfl, Lib.hid (by rw [Hp0.out]; simp), hb2⟩
    case round =>
      obtain ⟨wi, hwi⟩ : ∃ wi : World, wi = wr := ⟨_, rfl⟩
      subst hwi
      obtain ⟨j, S3, hj, rfl, rfl, hS3, hbi⟩ := hrel
      by_cases hjt : j < l.length
      · obtain ⟨b2, o2, rfl, hbb2, hrow2⟩ := (HIW.out.below hbi.out) (by omega)
        obtain ⟨r0, r1⟩ := hrow2 j hjt
        obtain ⟨hv4, hv0, hv1⟩ := Hws.out j hjt
        have Hq1 := Lib.hid (fun (h : j = 0) => (show preT END2 id l (j + 1) = END2 ++ (id (l.getD j default).1.data.toList ++ ([32] ++ Lib.itoa (l.getD j default).2)) by subst h; exact Hp1.out))
        have Hqn := Lib.hid (Hpn.out j)
        have hs3 : S3.size ≤ 15000 := by
          have h1 := Hpl.out j hj
          rw [← sizeL, hS3.out, List.length_append, sizeL]
          omega
        generalize l.getD j default = v at *
        obtain ⟨v1, v2⟩ := v
        simp only [id] at r0 r1 hv4 hv0 hv1 Hq1 Hqn
        clear hrow2
        obtain ⟨V, hV⟩ : ∃ V : ByteArray, Hid (V = ⟨(Lib.itoa v2).toArray⟩) := ⟨_, Lib.hid rfl⟩
        have hVs : V.size ≤ 21 := by rw [hV.out]; exact sizeT (Lib.itoa_length_le v2 (by omega) (by omega))
        generalize hwc : wi.alloc (.cells #[.string v1, .int .i64 v2] 100) = wc at *
        have swc : wc.heap.size = wi.heap.size + 1 := by rw [← hwc]; simp
        have c0 : wc.cell? ⟨wi.heap.size, 0, none⟩ = some (.string v1) := by rw [← hwc]; simp
        have c1 : wc.cell? ⟨wi.heap.size, 1, none⟩ = some (.int .i64 v2) := by rw [← hwc]; simp
        have HBc := Lib.hid (show Below W1.heap.size W1 wc by rw [← hwc]; exact hbi.out.alloc hbi.out.size _)
        have Hwc := Lib.hid hwc
        have HS' := Lib.hid hS3.out
        clear hwc
        have zz0 : ¬ (9223372036854775807 < v1.size + 1) := by omega
        have zz1 : ¬ (9223372036854775807 < v1.size + 1 + V.size) := by omega
        have zz2 : ¬ (9223372036854775807 < S3.size + 6 + (v1.size + 1 + V.size)) := by omega
        have zz3 : ¬ (9223372036854775807 < S3.size + 2 + (v1.size + 1 + V.size)) := by omega
        go_upto_region 28 with fail
        rw [Hwc.out]
        by_cases hj0 : j = 0
        · have Hst := Lib.hid (Hq1.out hj0)
          have hX : Hid (preT END2 id l j = []) := Lib.hid (by rw [hj0]; exact Hp0.out)
          subst hj0
          obtain ⟨wd, hwd⟩ : ∃ wd : World, wd = wc := ⟨_, rfl⟩
          subst hwd
          have HBd := HBc
          have p0 := c0
          have p1 := c1
          have hld : wi.heap.size < wd.heap.size := by omega
          clear c0 c1
          have HIc : Hid (∀ W, Below wd.heap.size wd W → Calls Tryd.prog 78 #[.int .i64 v2] W fun e w' => e = .returned (.string V) ∧ Below W.heap.size W w') := Lib.hid (fun W hb => by rw [hV.out]; exact itoa_any v2 W ((Hv.out.below HBd.out (by have := Hv.out.six; omega)).below hb (by have := HBd.out.size; have := Hv.out.six; omega)) (by omega) (by omega))
          go_upto_region 31 with fail
          go_region_held3 (fun w' => Below wd.heap.size wd w' ∧ ∀ b o, b < wd.heap.size → w'.cell? ⟨b, o, none⟩ = wd.cell? ⟨b, o, none⟩) (((repeat (apply keepS; assumption)); exact startS)) (first | (go_at_call 78; refine (HIc.out _ (by first | exact startS.1 | exact And.left (by assumption))).mono ?_; rintro e w9 ⟨rfl, hb9⟩) | (go_at_call 78; refine (HId.out _ (by first | exact startS.1 | exact And.left (by assumption))).mono ?_; rintro e w9 ⟨rfl, hb9⟩))
          all_goals
            rename_i hHeld
            have hS9 := hHeld.1
            clear hHeld
            have HB9 := Lib.hid (HBd.out.trans (hS9.mono HBd.out.size))
            clear hS9 p0 p1
            go_wp2_with fail
            go_roundw
            case rel =>
              refine ⟨1, _, by omega, rfl, rfl, Lib.hid ?_, HB9⟩
              rw [show preT END2 id l 1 = _ from Hst.out]; simp only [ByteArray.data_append, Array.toList_append, HS'.out, hX.out]; simp [hV.out, END2]
            case measure => simp [intOf]; omega
        · have Hst := Lib.hid (Hqn.out (by omega))
          obtain ⟨wd, hwd⟩ : ∃ wd : World, wd = wc := ⟨_, rfl⟩
          subst hwd
          have HBd := HBc
          have p0 := c0
          have p1 := c1
          have hld : wi.heap.size < wd.heap.size := by omega
          clear c0 c1
          have HIc : Hid (∀ W, Below wd.heap.size wd W → Calls Tryd.prog 78 #[.int .i64 v2] W fun e w' => e = .returned (.string V) ∧ Below W.heap.size W w') := Lib.hid (fun W hb => by rw [hV.out]; exact itoa_any v2 W ((Hv.out.below HBd.out (by have := Hv.out.six; omega)).below hb (by have := HBd.out.size; have := Hv.out.six; omega)) (by omega) (by omega))
          go_upto_region 31 with fail
          go_region_held3 (fun w' => Below wd.heap.size wd w' ∧ ∀ b o, b < wd.heap.size → w'.cell? ⟨b, o, none⟩ = wd.cell? ⟨b, o, none⟩) (((repeat (apply keepS; assumption)); exact startS)) (first | (go_at_call 78; refine (HIc.out _ (by first | exact startS.1 | exact And.left (by assumption))).mono ?_; rintro e w9 ⟨rfl, hb9⟩) | (go_at_call 78; refine (HId.out _ (by first | exact startS.1 | exact And.left (by assumption))).mono ?_; rintro e w9 ⟨rfl, hb9⟩))
          all_goals
            rename_i hHeld
            have hS9 := hHeld.1
            clear hHeld
            have HB9 := Lib.hid (HBd.out.trans (hS9.mono HBd.out.size))
            clear hS9 p0 p1
            go_wp2_with fail
            go_roundw
            case rel =>
              refine ⟨j + 1, _, by omega, by go_num, rfl, Lib.hid ?_, HB9⟩
              rw [Hst.out]; simp [HS'.out, hV.out, COMMA2]
            case measure => simp [intOf]; omega
      · obtain rfl : j = l.length := by omega
        go_wp2_with fail
        go_meet
        exact ⟨S3, rfl, Lib.hid (by rw [hS3.out, Het.out]), hbi⟩
  case rest =>
  rename_i wx3
  obtain ⟨S4, rfl, hS4, hb4⟩ := hcut
  have hs4 : S4.size ≤ 14700 := by
    have h1 := endsT_len HP.out
    rw [← sizeL, hS4.out, List.length_append, sizeL]
    omega
  have m2 := (Hcell.out _ hb4.out 2).trans Hm2.out
  go_upto_block 10 with fail
  go_cut [3] from 12 to 148 (fun v3 wx => ∃ S : ByteArray, v3 = .string S ∧ Hid (S.data.toList = S4.data.toList ++ brksTo m.brks m.brks.length) ∧ Hid (Below W1.heap.size W1 wx))
  case first =>
    have Hws := Lib.hid HP.out.brks
    have HIW := Lib.hid (HM.out.brks)
    have Hbl := Lib.hid (brksTo_len HP.out)
    generalize m.brks = l at *
    clear m2
    go_wp2_with fail
    go_loopw [3, 133] (fun a i wi => ∃ (j : Nat) (S3 : ByteArray), j ≤ l.length ∧ i = .int .i64 j ∧ a = .string S3 ∧ Hid (S3.data.toList = S4.data.toList ++ brksTo l j) ∧ Hid (Below W1.heap.size W1 wi)) (fun _ i _ => l.length - (intOf i).toNat)
    case atStart => exact ⟨0, S4, by omega, rfl, rfl, Lib.hid (by simp [brksTo]), hb4⟩
    case round =>
      obtain ⟨wi, hwi⟩ : ∃ wi : World, wi = wr := ⟨_, rfl⟩
      subst hwi
      obtain ⟨j, S3, hj, rfl, rfl, hS3, hbi⟩ := hrel
      by_cases hjt : j < l.length
      · obtain ⟨b2, o2, rfl, hbb2, hrow2⟩ := (HIW.out.below hbi.out) (by omega)
        obtain ⟨r0, r1⟩ := hrow2 j hjt
        obtain ⟨hv0, hv1, hv2, hv3⟩ := Hws.out j hjt
        have Hst := Lib.hid (show brksTo l (j + 1) = brksTo l j ++ (BREAK2 ++ (Lib.itoa (l.getD j default).1 ++ ([32] ++ Lib.itoa (l.getD j default).2))) from rfl)
        have hs3 : S3.size ≤ 16000 := by
          have h1 := Hbl.out j hj
          rw [← sizeL, hS3.out, List.length_append, sizeL]
          omega
        generalize l.getD j default = v at *
        obtain ⟨v1, v2⟩ := v
        simp only [] at r0 r1 hv0 hv1 hv2 hv3 Hst
        clear hrow2
        obtain ⟨U, hU⟩ : ∃ U : ByteArray, Hid (U = ⟨(Lib.itoa v1).toArray⟩) := ⟨_, Lib.hid rfl⟩
        obtain ⟨V, hV⟩ : ∃ V : ByteArray, Hid (V = ⟨(Lib.itoa v2).toArray⟩) := ⟨_, Lib.hid rfl⟩
        have hUs : U.size ≤ 21 := by rw [hU.out]; exact sizeT (Lib.itoa_length_le v1 (by omega) (by omega))
        have hVs : V.size ≤ 21 := by rw [hV.out]; exact sizeT (Lib.itoa_length_le v2 (by omega) (by omega))
        generalize hwc : wi.alloc (.cells #[.int .i64 v1, .int .i64 v2] 98) = wd at *
        have swc : wd.heap.size = wi.heap.size + 1 := by rw [← hwc]; simp
        have p0 : wd.cell? ⟨wi.heap.size, 0, none⟩ = some (.int .i64 v1) := by rw [← hwc]; simp
        have p1 : wd.cell? ⟨wi.heap.size, 1, none⟩ = some (.int .i64 v2) := by rw [← hwc]; simp
        have HBd := Lib.hid (show Below W1.heap.size W1 wd by rw [← hwc]; exact hbi.out.alloc hbi.out.size _)
        have Hwc := Lib.hid hwc
        have HS' := Lib.hid hS3.out
        have hld : wi.heap.size < wd.heap.size := by omega
        clear hwc
        have zz0 : ¬ (9223372036854775807 < 8 + U.size) := by omega
        have zz1 : ¬ (9223372036854775807 < 8 + U.size + 1) := by omega
        have zz2 : ¬ (9223372036854775807 < 8 + U.size + 1 + V.size) := by omega
        have zz3 : ¬ (9223372036854775807 < S3.size + (8 + U.size + 1 + V.size)) := by omega
        have HIc : Hid (∀ W, Below wd.heap.size wd W → Calls Tryd.prog 78 #[.int .i64 v1] W fun e w' => e = .returned (.string U) ∧ Below W.heap.size W w') := Lib.hid (fun W hb => by rw [hU.out]; exact itoa_any v1 W ((Hv.out.below HBd.out (by have := Hv.out.six; omega)).below hb (by have := HBd.out.size; have := Hv.out.six; omega)) (by omega) (by omega))
        have HId : Hid (∀ W, Below wd.heap.size wd W → Calls Tryd.prog 78 #[.int .i64 v2] W fun e w' => e = .returned (.string V) ∧ Below W.heap.size W w') := Lib.hid (fun W hb => by rw [hV.out]; exact itoa_any v2 W ((Hv.out.below HBd.out (by have := Hv.out.six; omega)).below hb (by have := HBd.out.size; have := Hv.out.six; omega)) (by omega) (by omega))
        go_upto_region 36 with fail
        rw [Hwc.out]
        go_region_held3 (fun w' => Below wd.heap.size wd w' ∧ ∀ b o, b < wd.heap.size → w'.cell? ⟨b, o, none⟩ = wd.cell? ⟨b, o, none⟩) (((repeat (apply keepS; assumption)); exact startS)) (first | (go_at_call 78; refine (HIc.out _ (by first | exact startS.1 | exact And.left (by assumption))).mono ?_; rintro e w9 ⟨rfl, hb9⟩) | (go_at_call 78; refine (HId.out _ (by first | exact startS.1 | exact And.left (by assumption))).mono ?_; rintro e w9 ⟨rfl, hb9⟩))
        all_goals
          rename_i hHeld
          have hS9 := hHeld.1
          clear hHeld
          have HB9 := Lib.hid (HBd.out.trans (hS9.mono HBd.out.size))
          clear hS9 p0 p1
          go_wp2_with fail
          go_roundw
          case rel =>
            refine ⟨j + 1, _, by omega, by go_num, rfl, Lib.hid ?_, HB9⟩
            rw [Hst.out]; simp [HS'.out, hU.out, hV.out, BREAK2]
          case measure => simp [intOf]; omega
      · obtain rfl : j = l.length := by omega
        go_wp2_with fail
        go_meet
        exact ⟨S3, rfl, Lib.hid hS3.out, hbi⟩
  case rest =>
  rename_i wx4
  obtain ⟨S5, rfl, hS5, hb5⟩ := hcut
  go_wp2_with fail
  go_ret
  refine ⟨?_, HB1.out.trans (hb5.out.mono HB1.out.size)⟩
  have e5 : S5 = ⟨S5.data.toList.toArray⟩ := by cases S5; simp
  rw [e5, hS5.out, hS4.out, hS2.out, HPP.out]; simp
end Go.Proofs.YtkfkkoefpfmjkaaDoor

import Derived.Test.YtkfkkoefpfmjkaaDoorXD
namespace Go.Proofs.YtkfkkoefpfmjkaaDoor
set_option linter.unusedVariables false
set_option linter.unusedSimpArgs false
open Go.RowKit

/- Title: plain. -/
def titTo (t : List UInt8) : Nat → List UInt8
  | 0 => []
  | k + 1 => if (footAt k).2.1 == t then (footAt k).2.2 else titTo t k
theorem sign_inj : ∀ a, a < 14 → ∀ b, b < 14 → (footAt a).2.1 = (footAt b).2.1 → a = b := by decide +kernel
theorem titTo_none {t : List UInt8} : ∀ k, (∀ j, j < k → ((footAt j).2.1 == t) = false) → titTo t k = []
  | 0, _ => rfl
  | k + 1, h => by
    unfold titTo
    rw [h k (by omega)]
    exact titTo_none k fun j hj => h j (by omega)
theorem titTo_eq (t : List UInt8) : titTo t 14 = saidT t := by
  by_cases h : ∃ m, m < 14 ∧ ((footAt m).2.1 == t) = true
  · obtain ⟨m, hm, he⟩ := h
    have hn : ∀ j, j < 14 → j ≠ m → ((footAt j).2.1 == t) = false := fun j hj hne => by
      cases hq : ((footAt j).2.1 == t) with
      | false => rfl
      | true => exact absurd (sign_inj j hj m hm ((eq_of_beq hq).trans (eq_of_beq he).symm)) hne
    have hs : saidT t = (footAt m).2.2 := by unfold saidT; rw [bySigns_at hm he fun j hj => hn j (by omega) (by omega)]
    have hk : ∀ k, m < k → k ≤ 14 → titTo t k = (footAt m).2.2 := by
      intro k
      induction k with
      | zero => intro h; omega
      | succ k ih =>
        intro h1 h2
        unfold titTo
        by_cases hkm : k = m
        · subst hkm; rw [he]; rfl
        · rw [hn k (by omega) hkm]; exact ih (by omega) (by omega)
    rw [hs, hk 14 hm (by omega)]
  · have hn : ∀ j, j < 14 → ((footAt j).2.1 == t) = false := fun j hj => by
      cases hq : ((footAt j).2.1 == t) with
      | false => rfl
      | true => exact absurd ⟨j, hj, hq⟩ h
    rw [titTo_none 14 hn]
    unfold saidT
    rw [bySigns_no hn]
def METER : List UInt8 := [109, 101, 116, 101, 114]
def MIXED : List UInt8 := [109, 105, 120, 101, 100]
def footN : Nat → List UInt8
  | 1 => [109, 111, 110, 111] | 2 => [100, 105] | 3 => [116, 114, 105] | 4 => [116, 101, 116, 114, 97] | 5 => [112, 101, 110, 116, 97]
  | 6 => [104, 101, 120, 97] | 7 => [104, 101, 112, 116, 97] | 8 => [111, 99, 116, 97] | _ => []
def otherB (own : ByteArray) (f : Ft) : Bool := !eqS f.own own
def titleP (m : Met) : List UInt8 :=
  if saidT (m.feet.getD 0 default).own.data.toList = [] ∨ m.feet.any (otherB (m.feet.getD 0 default).own) = true then MIXED
  else if m.feet.length < 9 then saidT (m.feet.getD 0 default).own.data.toList ++ ([32] ++ (footN m.feet.length ++ METER))
  else saidT (m.feet.getD 0 default).own.data.toList ++ ([32] ++ (Lib.itoa (m.feet.length : Int) ++ ([45] ++ METER)))
theorem saidT_len (t : List UInt8) : (saidT t).length ≤ 20 := by
  unfold saidT
  cases hb : bySigns t with
  | none => simp
  | some f =>
    simp only []
    have hm : f ∈ feetW := List.mem_of_find?_eq_some hb
    have : ∀ f ∈ feetW, f.2.2.length ≤ 20 := by decide +kernel
    exact this f hm

/- The reference's Title. -/
set_option maxRecDepth 100000 in
set_option maxHeartbeats 16000000 in
theorem reftitle_any (Af Ae Ab : Option Addr) (cf ce cb : Nat) (m : Met) (w : World) (hv : Vars w) (h : IsMet w w.heap.size Af Ae Ab cf ce cb m) (hm : mayB m = true) :
    Calls Tryd.prog 40 #[.agg #[.slice Af m.feet.length cf, .slice Ae m.ends.length ce, .slice Ab m.brks.length cb]] w fun e w' => e = .returned (.string ⟨(titleP m).toArray⟩) ∧ Below w.heap.size w w' := by
  generalize hW1 : w.alloc (.cells #[.slice Af m.feet.length cf, .slice Ae m.ends.length ce, .slice Ab m.brks.length cb] 27) = W1
  have sW1 : W1.heap.size = w.heap.size + 1 := by rw [← hW1]; simp
  have hB1 : Below w.heap.size w W1 := by rw [← hW1]; exact (Below.refl _ _).alloc (Nat.le_refl _) _
  have m0 : W1.cell? ⟨w.heap.size, 0, none⟩ = some (.slice Af m.feet.length cf) := by rw [← hW1]; simp
  have HW1 := Lib.hid hW1
  have HB1 := Lib.hid hB1
  have HP := Lib.hid (pr_ok hm)
  have hpos := HP.out.pos
  have hf16 := HP.out.feet
  have hIM := h.on hB1
  obtain ⟨b, off, rfl, hbb, hrow⟩ := hIM.feet hpos
  have HIM := Lib.hid hIM
  have Hrow := Lib.hid hrow
  have f0 : W1.cell? ⟨b, off, none⟩ = some (.string (m.feet.getD 0 default).own) := by have := (hrow 0 hpos).1; simpa using this
  have Hcell := Lib.hid fun (W2 : World) (hb2 : Below W1.heap.size W1 W2) => And.intro ((hb2.cell (p := ⟨w.heap.size, 0, none⟩) (by show w.heap.size < W1.heap.size; omega)).trans m0) ((hb2.cell (p := ⟨b, off, none⟩) hbb).trans f0)
  have HIt := Lib.hid fun (W2 : World) (hb2 : Below W1.heap.size W1 W2) (v : Int) (h0 : 0 ≤ v) (h1 : v ≤ 1048577) => itoaT_any v W2 ((hv.below hB1 hv.six).below hb2 (by have := hv.six; omega)) (by omega) (by omega)
  have HT : Hid (titleP m = if saidT (m.feet.getD 0 default).own.data.toList = [] ∨ m.feet.any (otherB (m.feet.getD 0 default).own) = true then MIXED
    else if m.feet.length < 9 then saidT (m.feet.getD 0 default).own.data.toList ++ ([32] ++ (footN m.feet.length ++ METER))
    else saidT (m.feet.getD 0 default).own.data.toList ++ ([32] ++ (Lib.itoa (m.feet.length : Int) ++ ([45] ++ METER)))) := Lib.hid rfl
  generalize (m.feet.getD 0 default).own = own at *
  clear h hW1 hB1 hm hv m0 f0 hIM hrow
  go_enter Tryd.func40, Tryd.ntmps40
  go_upto_region 2 with fail
  rw [HW1.out]
  go_wp2_with (go_at_call 17; refine (refnamed_any _).mono ?_)
  rintro e w1 ⟨rfl, rfl⟩
  have Hc := Lib.hid (namesC_cell W1)
  have HB2 := Lib.hid ((Below.refl W1.heap.size W1).alloc (Nat.le_refl _) (.cells namesC 39))
  have sW : (W1.alloc (.cells namesC 39)).heap.size = W1.heap.size + 1 := by simp
  generalize W1.alloc (.cells namesC 39) = W2 at *
  go_wp2_with fail
  go_loopw [3, 12] (fun a q wr => ∃ (k : Nat) (S : ByteArray), k ≤ 14 ∧ q = .int .i64 k ∧ a = .string S ∧ Hid (S.data.toList = titTo own.data.toList k) ∧ Hid (Below W2.heap.size W2 wr)) (fun _ q _ => 14 - (intOf q).toNat)
  case atStart => exact ⟨0, _, by omega, rfl, rfl, Lib.hid rfl, Lib.hid (Below.refl _ _)⟩
  case round =>
    obtain ⟨wi, hwi⟩ : ∃ wi : World, wi = wr := ⟨_, rfl⟩
    subst hwi
    obtain ⟨k, S, hk, rfl, rfl, hS, hb⟩ := hrel
    have HBi := Lib.hid (HB2.out.trans (hb.out.mono HB2.out.size))
    by_cases hlt : k < 14
    · obtain ⟨c0, c1, c2⟩ := Hc.out k hlt wi (by rw [← sW]; exact hb.out)
      have hs := hb.out.size
      have Hst := Lib.hid (show titTo own.data.toList (k + 1) = if (footAt k).2.1 == own.data.toList then (footAt k).2.2 else titTo own.data.toList k from rfl)
      have hfn := foot_sign k own
      generalize footAt k = f at *
      obtain ⟨n0, n1, n2⟩ := f
      simp only [strL] at c0 c1 c2 Hst hfn
      rw [sW1] at c0 c1 c2
      generalize hwc : wi.alloc (.cells #[.string ⟨n0.toArray⟩, .string ⟨n1.toArray⟩, .string ⟨n2.toArray⟩] 39) = wc at *
      have d1 : wc.cell? ⟨wi.heap.size, 1, none⟩ = some (.string ⟨n1.toArray⟩) := by rw [← hwc]; simp
      have d2 : wc.cell? ⟨wi.heap.size, 2, none⟩ = some (.string ⟨n2.toArray⟩) := by rw [← hwc]; simp
      have hb9 : Below W2.heap.size W2 wc := by rw [← hwc]; exact hb.out.alloc hs _
      have Hb9 := Lib.hid hb9
      obtain ⟨e0, e1⟩ := Hcell.out wc (HB2.out.trans (hb9.mono HB2.out.size))
      have Hwc := Lib.hid hwc
      have k3 : (k : Int).toNat * 3 = k * 3 := by simp
      clear hwc hb9
      go_upto_region 5 with fail
      rw [Hwc.out]
      cases hq : (n1 == own.data.toList) with
      | true =>
        rw [hq] at hfn
        go_quiet (fail)
        have d3 : (wc.drewN nq).cell? ⟨wi.heap.size, 2, none⟩ = some (.string ⟨n2.toArray⟩) := d2
        go_wp2_with fail
        go_roundw
        case rel => exact ⟨k + 1, _, by omega, by go_num, rfl, Lib.hid (by rw [Hst.out, if_pos hq]), Lib.hid (belowD Hb9.out nq)⟩
        case measure => simp [intOf]; omega
      | false =>
        rw [hq] at hfn
        go_quiet (fail)
        go_wp2_with fail
        go_roundw
        case rel => exact ⟨k + 1, S, by omega, by go_num, rfl, Lib.hid (by rw [Hst.out, hq]; exact hS.out), Lib.hid (belowD Hb9.out nq)⟩
        case measure => simp [intOf]; omega
    · obtain rfl : k = 14 := by omega
      have Hq := Lib.hid (fun (e : S.data.toList = titTo own.data.toList 14) => e.trans (titTo_eq _))
      have HS := Lib.hid (Hq.out hS.out)
      obtain ⟨e0, e1⟩ := Hcell.out wi HBi.out
      clear hS Hq
      go_wp2_with fail
      go_loopw [3, 30] (fun a q wr => ∃ (j : Nat) (S2 : ByteArray), j ≤ m.feet.length ∧ q = .int .i64 j ∧ a = .string S2 ∧ Hid (S2.data.toList = if (m.feet.take j).any (otherB own) = true then [] else saidT own.data.toList) ∧ Hid (Below W1.heap.size W1 wr)) (fun _ q _ => m.feet.length - (intOf q).toNat)
      case atStart => exact ⟨0, S, by omega, rfl, rfl, Lib.hid (by simpa using HS.out), HBi⟩
      case round =>
        obtain ⟨wo, hwo⟩ : ∃ wo : World, wo = wr := ⟨_, rfl⟩
        subst hwo
        obtain ⟨j, S2, hj, rfl, rfl, hS2, hbo⟩ := hrel
        by_cases hjt : j < m.feet.length
        · obtain ⟨r0, A2, c2, r1, hc2, hIW⟩ := Hrow.out j hjt
          have q0 := (hbo.out.cell (p := ⟨b, off + j * 2, none⟩) hbb).trans r0
          have q1 := (hbo.out.cell (p := ⟨b, off + j * 2 + 1, none⟩) hbb).trans r1
          have Hst := Lib.hid (any_take_succ m.feet (otherB own) j hjt)
          have hob : otherB own (m.feet.getD j default) = !((m.feet.getD j default).own.toList == own.toList) := rfl
          generalize otherB own (m.feet.getD j default) = ob at *
          generalize (m.feet.getD j default).own = oj at *
          generalize (m.feet.getD j default).ways = lj at *
          generalize hwc : wo.alloc (.cells #[.string oj, .slice A2 lj.length c2] 81) = wc at *
          have d0 : wc.cell? ⟨wo.heap.size, 0, none⟩ = some (.string oj) := by rw [← hwc]; simp
          have hb9 : Below W1.heap.size W1 wc := by rw [← hwc]; exact hbo.out.alloc hbo.out.size _
          have Hb9 := Lib.hid hb9
          obtain ⟨e2, e3⟩ := Hcell.out wc hb9
          have Hwc := Lib.hid hwc
          clear hwc hb9 r0 r1
          go_upto_region 11 with fail
          rw [Hwc.out]
          cases hq : (oj.toList == own.toList) with
          | true =>
            have hq2 : (oj.toList != own.toList) = false := by simp [bne, hq]
            have Hob := Lib.hid (show ob = false by rw [hob, hq]; rfl)
            clear hob
            go_quiet (fail)
            go_wp2_with fail
            go_roundw
            case rel => exact ⟨j + 1, S2, by omega, by go_num, rfl, Lib.hid (by rw [Hst.out, Hob.out, Bool.or_false]; exact hS2.out), Lib.hid (belowD Hb9.out nq)⟩
            case measure => simp [intOf]; omega
          | false =>
            have hq2 : (oj.toList != own.toList) = true := by simp [bne, hq]
            have Hob := Lib.hid (show ob = true by rw [hob, hq]; rfl)
            clear hob
            go_quiet (fail)
            go_wp2_with fail
            go_roundw
            case rel => exact ⟨j + 1, _, by omega, by go_num, rfl, Lib.hid (by rw [Hst.out, Hob.out, Bool.or_true]; rfl), Lib.hid (belowD Hb9.out nq)⟩
            case measure => simp [intOf]; omega
        · obtain rfl : j = m.feet.length := by omega
          obtain ⟨e2, e3⟩ := Hcell.out wo hbo.out
          go_upto_region 14 with fail
          have hany : m.feet.take m.feet.length = m.feet := List.take_length
          have Hfin := Lib.hid (show S2.data.toList = if m.feet.any (otherB own) = true then [] else saidT own.data.toList by have := hS2.out; rw [hany] at this; exact this)
          clear hS2 hany
          have Hnil := Lib.hid (show S2.data.toList = [] ↔ (saidT own.data.toList = [] ∨ m.feet.any (otherB own) = true) by rw [Hfin.out]; split <;> simp [*])
          by_cases hz : S2.data.toList = []
          · have e5 : S2 = ⟨#[]⟩ := by
              have : S2 = ⟨S2.data.toList.toArray⟩ := by cases S2; simp
              rw [this, hz]
            have HX := Lib.hid (show titleP m = MIXED by rw [HT.out, if_pos (Hnil.out.1 hz)])
            clear hz
            subst e5
            go_wp2_with fail
            go_ret
            exact ⟨by rw [HX.out]; rfl, HB1.out.trans (hbo.out.mono HB1.out.size)⟩
          · have z1 : (S2.toList == (⟨#[]⟩ : ByteArray).toList) = false := by rw [ByteArray.toList_eq, ByteArray.toList_eq, beq_eq_false_iff_ne]; simpa using hz
            have z2 : (S2.toList == []) = false := by rw [ByteArray.toList_eq, beq_eq_false_iff_ne]; exact hz
            have z3 : S2.toList.isEmpty = false := by rw [ByteArray.toList_eq]; cases h : S2.data.toList with | nil => exact absurd h hz | cons _ _ => rfl
            have hno := Lib.hid (fun h => hz (Hnil.out.2 h))
            have HX := Lib.hid (show titleP m = _ by rw [HT.out, if_neg hno.out])
            have HS2 := Lib.hid (show S2.data.toList = saidT own.data.toList by rw [Hfin.out]; split <;> first | rfl | (exfalso; exact hno.out (.inr (by assumption))))
            have hs2 : S2.size ≤ 20 := by rw [← sizeL, HS2.out]; exact saidT_len _
            clear hz
            go_upto_region 17 with fail
            generalize hwt : wo.alloc _ = wt
            have hbt : Below W1.heap.size W1 wt := by rw [← hwt]; exact hbo.out.alloc hbo.out.size _
            have ct : ∀ n, 1 ≤ n → n ≤ 8 → wt.cell? ⟨wo.heap.size, n, none⟩ = some (.string ⟨(footN n ++ METER).toArray⟩) := by
              intro n h1 h8
              rw [← hwt]
              have : n = 1 ∨ n = 2 ∨ n = 3 ∨ n = 4 ∨ n = 5 ∨ n = 6 ∨ n = 7 ∨ n = 8 := by omega
              rcases this with rfl | rfl | rfl | rfl | rfl | rfl | rfl | rfl <;> simp [footN, METER]
            have fl : ∀ n, (footN n ++ METER).length ≤ 20 := by
              intro n
              unfold footN METER
              split <;> simp
            have Hbt := Lib.hid hbt
            obtain ⟨g0, g1⟩ := Hcell.out wt hbt
            clear hwt hbt
            by_cases h9 : m.feet.length < 9
            · have c9 := ct m.feet.length (by omega) (by omega)
              have hl9 := sizeT (fl m.feet.length)
              have HX9 := Lib.hid (HX.out.trans (if_pos h9))
              generalize hU : (⟨(footN m.feet.length ++ METER).toArray⟩ : ByteArray) = U at *
              have HU := Lib.hid (show U.data.toList = footN m.feet.length ++ METER by rw [← hU])
              clear hU ct fl
              go_wp2_with fail
              go_ret
              refine ⟨?_, HB1.out.trans (Hbt.out.mono HB1.out.size)⟩
              have e5 : ∀ X Y : ByteArray, X.data.toList = Y.data.toList → X = Y := fun X Y h => by cases X; cases Y; simpa using h
              refine congrArg (fun x => Ending.returned (Value.string x)) (e5 _ _ ?_)
              rw [HX9.out]
              simp [HS2.out, HU.out]
            · have HI := Lib.hid (HIt.out wt Hbt.out (m.feet.length : Int) (by omega) (by omega))
              have HX9 := Lib.hid (HX.out.trans (if_neg h9))
              clear ct fl
              go_wp2_with fail
              refine HI.out.mono ?_
              rintro e w9 ⟨T, rfl, hT, hTs, hb9⟩
              have HT9 := Lib.hid hT
              clear hT
              go_wp2_with fail
              go_ret
              refine ⟨?_, HB1.out.trans ((Hbt.out.trans (hb9.mono Hbt.out.size)).mono HB1.out.size)⟩
              have e5 : ∀ X Y : ByteArray, X.data.toList = Y.data.toList → X = Y := fun X Y h => by cases X; cases Y; simpa using h
              refine congrArg (fun x => Ending.returned (Value.string x)) (e5 _ _ ?_)
              rw [HX9.out]
              simp [HS2.out, HT9.out, METER]
end Go.Proofs.YtkfkkoefpfmjkaaDoor

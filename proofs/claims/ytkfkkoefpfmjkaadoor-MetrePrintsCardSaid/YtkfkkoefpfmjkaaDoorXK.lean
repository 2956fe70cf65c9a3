import Derived.Test.YtkfkkoefpfmjkaaDoorXJ
import Derived.IntWalk
import Derived.Laws.EntriesVeiled
namespace Go.Proofs.YtkfkkoefpfmjkaaDoor
set_option linter.unusedVariables false
set_option linter.unusedSimpArgs false
open Go.RowKit

def SEMI1 : ByteArray := ⟨#[59]⟩
def BREAKB : ByteArray := ⟨#[59, 32, 98, 114, 101, 97, 107]⟩
def ENDB : ByteArray := ⟨#[59, 32, 101, 110, 100, 32]⟩
theorem PS.start (w2 w3 : World) (h : (w2.alloc (.cells #[.pointer none, .slice none 0 0] 133)).alloc (.cells #[.func (.func 74) #[] #[.pointer (some ⟨w2.heap.size, 0, none⟩)]] 140) = w3) : PS w2.heap.size (w2.heap.size + 1) w2 [] w3 := by
  subst h
  refine ⟨?_, ?_, ((Below.refl _ _).alloc (Nat.le_refl _) _).alloc (by simp) _, by omega⟩
  · exact (Lib.IsBuilderF.of (Lib.fresh_isBuilder 133 5 w2)).alloc _
  · have := World.alloc_heap_new (w2.alloc (.cells #[.pointer none, .slice none 0 0] 133)) (.cells #[.func (.func 74) #[] #[.pointer (some ⟨w2.heap.size, 0, none⟩)]] 140)
    rw [World.size_alloc] at this
    exact this
def printRest (m : Met) : List UInt8 := feetB m.feet m.feet.length 0 ++ (waysTo m.feet m.feet.length ++ (endsT m.ends ++ brksTo m.brks m.brks.length))

/- metre.Print of a metre that may be. -/
set_option maxRecDepth 100000 in
set_option maxHeartbeats 16000000 in
theorem print_any (Af Ae Ab : Option Addr) (cf ce cb : Nat) (m : Met) (w : World) (hv : Vars w) (h : IsMet w w.heap.size Af Ae Ab cf ce cb m) (hm : mayB m = true) :
    Calls Tryd.prog 37 #[.agg #[.slice Af m.feet.length cf, .slice Ae m.ends.length ce, .slice Ab m.brks.length cb]] w fun e w' => e = .returned (.tuple #[.string ⟨(printP m).toArray⟩, .int .i64 0]) ∧ Below w.heap.size w w' := by
  generalize hW1 : w.alloc (.cells #[.slice Af m.feet.length cf, .slice Ae m.ends.length ce, .slice Ab m.brks.length cb] 27) = W1
  have sW1 : W1.heap.size = w.heap.size + 1 := by rw [← hW1]; simp
  have hB1 : Below w.heap.size w W1 := by rw [← hW1]; exact (Below.refl _ _).alloc (Nat.le_refl _) _
  have m0 : W1.cell? ⟨w.heap.size, 0, none⟩ = some (.slice Af m.feet.length cf) := by rw [← hW1]; simp
  have m1 : W1.cell? ⟨w.heap.size, 1, none⟩ = some (.slice Ae m.ends.length ce) := by rw [← hW1]; simp
  have m2 : W1.cell? ⟨w.heap.size, 2, none⟩ = some (.slice Ab m.brks.length cb) := by rw [← hW1]; simp
  have HW1 := Lib.hid hW1
  have HB1 := Lib.hid hB1
  have Hch := Lib.hid (check_any Af Ae Ab cf ce cb m W1 (h.on hB1))
  have Hc : Hid (checkN m = 0) := Lib.hid (by unfold checkN; rw [hm]; rfl)
  have HP := Lib.hid (pr_ok hm)
  have hf16 := HP.out.feet
  have he16 := HP.out.efew
  have hb16 := HP.out.bfew
  have HM := Lib.hid (h.on hB1)
  have Hm0 := Lib.hid m0
  have Hm1 := Lib.hid m1
  have Hm2 := Lib.hid m2
  have Hv1 := Lib.hid (hv.below hB1 hv.six)
  have HF := Lib.hid (feetB_len HP.out m.feet.length 0)
  have HPP : Hid (printP m = feetB m.feet m.feet.length 0 ++ (waysTo m.feet m.feet.length ++ (endsT m.ends ++ brksTo m.brks m.brks.length))) := Lib.hid rfl
  clear h hW1 hB1 hm hv m0 m1 m2
  go_enter Tryd.func37, Tryd.ntmps37
  go_wp2_with fail
  rw [HW1.out]
  go_wp2_with fail
  refine Hch.out.mono ?_
  rintro e w2 ⟨rfl, hb2⟩
  rw [Hc.out]
  have Hb2 := Lib.hid hb2
  have hs2 := hb2.size
  clear hb2
  generalize hw3 : (w2.alloc (.cells #[.pointer none, .slice none 0 0] 133)).alloc (.cells #[.func (.func 74) #[] #[.pointer (some ⟨w2.heap.size, 0, none⟩)]] 140) = w3
  have HP0 := Lib.hid (PS.start w2 w3 hw3)
  have Hw3 := Lib.hid hw3
  have Hlo := Lib.hid fun (l : List UInt8) (wx : World) (hp : PS w2.heap.size (w2.heap.size + 1) w2 l wx) => (show Below W1.heap.size W1 wx from Hb2.out.trans (hp.lo.mono Hb2.out.size))
  have Hcell := Lib.hid fun (wx : World) (hb : Below W1.heap.size W1 wx) (o : Nat) => hb.cell (p := ⟨w.heap.size, o, none⟩) (by show w.heap.size < W1.heap.size; omega)
  have Hv2 := Lib.hid (Hv1.out.below Hb2.out Hv1.out.six)
  have h6 := Hv2.out.six
  have HIt := Lib.hid fun (W2 : World) (hb2 : Below w2.heap.size w2 W2) (v : Int) (h0 : 0 ≤ v) (h1 : v ≤ 1048577) => itoaT_any v W2 (Hv2.out.below hb2 h6) (by omega) (by omega)
  clear hw3
  go_upto_region 6 with fail
  rw [Hw3.out]
  go_upto_block 0 with fail
  go_cut [7] from 8 to 77 (fun v7 wx => Hid (PS w2.heap.size (w2.heap.size + 1) w2 (feetB m.feet m.feet.length 0) wx))
  case first =>
    go_wp2_with fail
    go_loopw [7] (fun i wr => ∃ (k n : Nat) (l : List UInt8), k ≤ m.feet.length ∧ m.feet.length - k ≤ n ∧ i = .int .i64 k ∧ Hid (l ++ feetB m.feet n k = feetB m.feet m.feet.length 0) ∧ Hid (PS w2.heap.size (w2.heap.size + 1) w2 l wr)) (fun i _ => m.feet.length - (intOf i).toNat)
    case atStart => exact ⟨0, m.feet.length, [], by omega, by omega, rfl, Lib.hid rfl, HP0⟩
    case round =>
      obtain ⟨wo, hwo⟩ : ∃ wo : World, wo = wr := ⟨_, rfl⟩
      subst hwo
      obtain ⟨k, n, l, hk, hn, rfl, hS, hp⟩ := hrel
      have Hbo := Lib.hid (Hlo.out _ _ hp.out)
      have m0 := (Hcell.out _ Hbo.out 0).trans Hm0.out
      by_cases hlt : k < m.feet.length
      · obtain ⟨n, rfl⟩ : ∃ n', n = n' + 1 := ⟨n - 1, by omega⟩
        obtain ⟨b, off, rfl, hbb, hrow⟩ := (HM.out.feet.below Hbo.out) (by omega)
        have Hrow := Lib.hid hrow
        have f0 := (hrow k hlt).1
        have hfe : feetB m.feet (n + 1) k = groupT m.feet k (runTo m.feet (m.feet.getD k default).own k) ++ feetB m.feet n (runTo m.feet (m.feet.getD k default).own k) := by rw [feetB, if_pos hlt]
        have Hfe := Lib.hid hfe
        have Hgt := Lib.hid (runTo_gt hlt)
        have Hle := Lib.hid (runTo_le (fs := m.feet) (own := (m.feet.getD k default).own) hk).2
        clear hrow hfe
        generalize hown : (m.feet.getD k default).own = own at *
        have Hown := Lib.hid hown
        clear hown
        generalize hJ : runTo m.feet own k = J at *
        have HJ := Lib.hid hJ
        clear hJ
        have HS := Lib.hid hS.out
        have hsz : l.length ≤ 800 := by have h1 := HF.out; rw [← hS.out, List.length_append] at h1; omega
        clear hS
        go_upto_block 2 with fail
        go_cut [9] from 35 to 51 (fun v9 wx => v9 = .int .i64 J ∧ wx = wo)
        case first =>
          go_wp2_with fail
          go_loop [9] (fun j => ∃ j' : Nat, j' ≤ m.feet.length ∧ j = .int .i64 j' ∧ Hid (runTo m.feet own j' = J)) (fun j => m.feet.length - (intOf j).toNat)
          case atStart => exact ⟨k, by omega, rfl, HJ⟩
          case round =>
            obtain ⟨j, hj, rfl, hr⟩ := hrel
            by_cases hjt : j < m.feet.length
            · have fj := (Hrow.out j hjt).1
              have hd : decide ((j : Int) < (m.feet.length : Int)) = true := by simp; omega
              have Hin := Lib.hid (fun h => runTo_in (own := own) hjt h)
              have Hout := Lib.hid (fun h => runTo_out (own := own) hjt h)
              have heq : eqS (m.feet.getD j default).own own = ((m.feet.getD j default).own.toList == own.toList) := rfl
              generalize (m.feet.getD j default).own = oj at *
              clear f0
              cases hq : eqS oj own with
              | true =>
                have hq2 : (oj.toList == own.toList) = true := by rw [← heq, hq]
                have Hq := Lib.hid ((Hin.out hq).symm.trans hr.out)
                clear hq heq
                go_wp2_with fail
                go_round
                case rel => exact ⟨j + 1, by omega, by go_num, Hq⟩
                case measure => simp [intOf]; omega
              | false =>
                have hq2 : (oj.toList == own.toList) = false := by rw [← heq, hq]
                have Hq := Lib.hid ((Hout.out hq).symm.trans hr.out)
                clear hq heq
                go_wp2_with fail
                go_meet
                exact ⟨by rw [← Hq.out], rfl⟩
            · have hd : decide ((j : Int) < (m.feet.length : Int)) = false := by simp; omega
              have Hq := Lib.hid ((runTo_end (own := own) hjt).symm.trans hr.out)
              go_wp2_with fail
              go_meet
              exact ⟨by rw [← Hq.out], rfl⟩
        case rest =>
          obtain ⟨rfl, hwz⟩ := hcut
          have hwz' := hwz.symm
          subst hwz'
          clear m0 f0
          have hgt := Hgt.out
          have hle := Hle.out
          have Hgr := Lib.hid (show groupT m.feet k J = (if 0 < k then COMMA2 else []) ++ ((if 1 < J - k then Lib.itoa ((J - k : Nat) : Int) ++ [32] else []) ++ saidW own.data.toList) by unfold groupT; rw [Hown.out])
          have Hos := Lib.hid (show own.size ≤ 4 by rw [← Hown.out]; exact HP.out.own k hlt)
          have Hc2 := Lib.hid (show ((J - k : Nat) : Int) = (J : Int) - (k : Int) by omega)
          go_upto_if 53 with (fail)
          go_cut [53] from 54 to 56 (fun v53 wx => Hid (PS w2.heap.size (w2.heap.size + 1) w2 (l ++ (if 0 < k then COMMA2 else [])) wx))
          case first =>
            by_cases h0 : 0 < k
            · have c0 := hp.out.cell
              go_wp2_with fail
              refine (putS _ _ 1 _ 1 _ [COMMAB] w2 _ (hp.out.alloc _) rfl (by simp) (fun j x hj => ?_) (by omega) (by omega) ?_).mono ?_
              · obtain ⟨rfl, rfl⟩ := get1 hj
                simp [COMMAB]
              · rw [putL_one]; show _ + 2 ≤ _; omega
              rintro e wq ⟨⟨vv, rfl⟩, h1, h2, h3⟩
              have Hq := Lib.hid (h1.text (show _ = l ++ (if 0 < k then COMMA2 else []) by rw [putL_one, if_pos h0]; rfl))
              clear h1 h2 h3 c0
              go_wp2_with fail
              go_meet
              exact Hq
            · have Hq := Lib.hid (hp.out.text (show _ = l ++ (if 0 < k then COMMA2 else []) by rw [if_neg h0]; simp))
              go_wp2_with fail
              go_meet
              exact Hq
          case rest =>
          obtain ⟨wp, hwp⟩ : ∃ wp : World, wp = wc := ⟨_, rfl⟩
          subst hwp
          have Hp := Lib.hid hcut.out
          clear hcut hp Hbo
          go_wp2_with fail
          refine (saidT_any own _ Hos.out).mono ?_
          rintro e w4 ⟨T, N, rfl, hT, hN, hTs, hb4⟩
          have HT := Lib.hid hT
          have Hp4 := Lib.hid (Hp.out.below hb4)
          clear hT hN hb4
          go_upto_if 65 with (fail)
          go_cut [10] from 65 to 72 (fun v10 wx => ∃ Z : ByteArray, v10 = .string Z ∧ Hid (Z.data.toList = (if 1 < J - k then Lib.itoa ((J - k : Nat) : Int) ++ [32] else []) ++ saidW own.data.toList) ∧ Z.size ≤ 60 ∧ Hid (PS w2.heap.size (w2.heap.size + 1) w2 (l ++ (if 0 < k then COMMA2 else [])) wx))
          case first =>
            by_cases h1 : 1 < J - k
            · have HI := Lib.hid (HIt.out w4 Hp4.out.lo ((J : Int) - (k : Int)) (by omega) (by omega))
              go_wp2_with fail
              refine HI.out.mono ?_
              rintro e w5 ⟨V, rfl, hV, hVs, hb5⟩
              have HV := Lib.hid hV
              have Hp5 := Lib.hid (Hp4.out.below hb5)
              clear hV hb5
              go_wp2_with fail
              go_meet
              refine ⟨_, rfl, Lib.hid ?_, ?_, Hp5⟩
              · rw [if_pos h1, Hc2.out]; simp [HV.out, HT.out]
              · simp [ByteArray.size_append]; show V.size + 1 + T.size ≤ _; omega
            · go_wp2_with fail
              go_meet
              exact ⟨T, rfl, Lib.hid (by rw [if_neg h1]; simp [HT.out]), by omega, Hp4⟩
          case rest =>
          obtain ⟨wp5, hwp⟩ : ∃ wp : World, wp = wc := ⟨_, rfl⟩
          subst hwp
          obtain ⟨Z, rfl, hZ, hZs, hp5⟩ := hcut
          have c0 := hp5.out.cell
          go_wp2_with fail
          refine (putS _ _ 1 _ 1 _ [Z] w2 _ (hp5.out.alloc _) rfl (by simp) (fun j x hj => ?_) (by omega) (by omega) ?_).mono ?_
          · obtain ⟨rfl, rfl⟩ := get1 hj
            simp
          · rw [putL_one, List.length_append, sizeL]; have : (if 0 < k then COMMA2 else []).length ≤ 2 := by split <;> simp [COMMA2]
            omega
          rintro e wq ⟨⟨vv, rfl⟩, h1, h2, h3⟩
          have Hq := Lib.hid (h1.text (show _ = l ++ groupT m.feet k J by rw [putL_one, hZ.out, Hgr.out]; simp))
          clear h1 h2 h3 c0
          go_wp2_with fail
          go_roundw
          case rel =>
            refine ⟨J, n, _, hle, by omega, rfl, Lib.hid ?_, Hq⟩
            rw [← HS.out, Hfe.out]; simp
          case measure => simp [intOf]; omega
      · obtain rfl : k = m.feet.length := by omega
        have hS' : l = feetB m.feet m.feet.length 0 := by have := hS.out; rw [feetB_end, List.append_nil] at this; exact this
        have Hq := Lib.hid (hp.out.text hS')
        clear hS hS' hp
        go_wp2_with fail
        go_meet
        exact Hq
  case rest =>
  obtain ⟨wp, hwp⟩ : ∃ wp : World, wp = wc := ⟨_, rfl⟩
  subst hwp
  have Hp1 := Lib.hid hcut.out
  have m0 := (Hcell.out _ (Hlo.out _ _ hcut.out) 0).trans Hm0.out
  clear hcut
  generalize hFB : feetB m.feet m.feet.length 0 = FB at *
  have hFl : FB.length ≤ 800 := by have := HF.out; omega
  clear hFB
  go_upto_block 4 with fail
  go_cut [13] from 14 to 101 (fun v13 wx => Hid (PS w2.heap.size (w2.heap.size + 1) w2 (FB ++ waysTo m.feet m.feet.length) wx))
  case first =>
    clear m0
    go_wp2_with fail
    go_loopw [82] (fun i wr => ∃ k : Nat, k ≤ m.feet.length ∧ i = .int .i64 k ∧ Hid (PS w2.heap.size (w2.heap.size + 1) w2 (FB ++ waysTo m.feet k) wr)) (fun i _ => m.feet.length - (intOf i).toNat)
    case atStart => exact ⟨0, by omega, rfl, Lib.hid (Hp1.out.text (by simp [waysTo]))⟩
    case round =>
      obtain ⟨wo, hwo⟩ : ∃ wo : World, wo = wr := ⟨_, rfl⟩
      subst hwo
      obtain ⟨k, hk, rfl, hp⟩ := hrel
      by_cases hlt : k < m.feet.length
      · have Hbo := Lib.hid (Hlo.out _ _ hp.out)
        obtain ⟨b, off, rfl, hbb, hrow⟩ := (HM.out.feet.below Hbo.out) (by omega)
        obtain ⟨f0, A2, c2, f1, hc2, hIW⟩ := hrow k hlt
        have hfew := HP.out.few k hlt
        have Hws := Lib.hid (HP.out.ways k hlt)
        have hwt := waysTo_len HP.out k (by omega)
        have Hsu := Lib.hid (show waysTo m.feet (k + 1) = waysTo m.feet k ++ (if 0 < (m.feet.getD k default).ways.length then SEMI2 ++ (Lib.itoa ((k : Int) + 1) ++ ([32] ++ listTo saidW (m.feet.getD k default).ways (m.feet.getD k default).ways.length)) else []) from rfl)
        have HIW := Lib.hid hIW
        generalize (m.feet.getD k default).own = own at *
        generalize (m.feet.getD k default).ways = ws at *
        generalize hWT : waysTo m.feet k = WT at *
        clear hrow hIW hWT
        generalize hwc : wo.alloc (.cells #[.string own, .slice A2 ws.length c2] 81) = wc at *
        have g1 : wc.cell? ⟨wo.heap.size, 1, none⟩ = some (.slice A2 ws.length c2) := by rw [← hwc]; simp
        have Hbox := Lib.hid (show wc.heap[wo.heap.size]? = some (.cells #[.string own, .slice A2 ws.length c2] 81 (0, 0)) by rw [← hwc]; exact World.alloc_heap_new wo _)
        have HPc := Lib.hid (show PS w2.heap.size (w2.heap.size + 1) w2 (FB ++ WT) wc by rw [← hwc]; exact hp.out.alloc _)
        have Hvne := Lib.hid (show wo.heap.size ≠ w2.heap.size by have := hp.out.bw; omega)
        have HIW2 := Lib.hid (show IsWays wc w2.heap.size A2 ws from (HIW.out.below (show Below W1.heap.size wo wc by rw [← hwc]; exact (Below.refl _ _).alloc Hbo.out.size _)).more hs2)
        have Hwc := Lib.hid hwc
        clear hwc hp
        go_upto_region 23 with fail
        rw [Hwc.out]
        by_cases hne : 0 < ws.length
        · obtain ⟨V, hV⟩ : ∃ V : ByteArray, Hid (V = ⟨(Lib.itoa ((k : Int) + 1)).toArray⟩) := ⟨_, Lib.hid rfl⟩
          have hVs : V.size ≤ 21 := by rw [hV.out]; exact sizeT (Lib.itoa_length_le _ (by omega) (by omega))
          have HT := Lib.hid (show putL [SEMI1, V, ⟨#[]⟩] = SEMI2 ++ (Lib.itoa ((k : Int) + 1) ++ [32]) by rw [putL_three, hV.out]; simp [SEMI1, SEMI2])
          have HUV := Lib.hid (show (putL [SEMI1, V, ⟨#[]⟩]).length ≤ 50 by rw [putL_three]; simp only [List.length_append, sizeL, List.length_cons, List.length_nil]; show 1 + (1 + (V.size + (1 + 0))) ≤ 50; omega)
          have HIc : Hid (∀ W, Below w2.heap.size wc W → Calls Tryd.prog 78 #[.int .i64 ((k : Int) + 1)] W fun e w' => e = .returned (.string V) ∧ Below W.heap.size W w') := Lib.hid (fun W hb => by rw [hV.out]; exact itoa_any _ W (Hv2.out.below (HPc.out.lo.trans hb) h6) (by omega) (by omega))
          have HSB := Lib.hid (show SB w2.heap.size (w2.heap.size + 1) wo.heap.size 81 (.string own) (.slice A2 ws.length c2) wc wc from ⟨Below.refl _ _, HPc.out.bw, Hbox.out, HPc.out.fn, Hvne.out, HPc.out.ne, by decide⟩)
          have hwr := IntWalk.i64_in ((k : Int) + 1) (by omega)
          have Hst2 := Lib.hid (Hsu.out.trans (by rw [if_pos hne]))
          go_upto_region 24 with fail
          go_region_held3 (fun w' => SB w2.heap.size (w2.heap.size + 1) wo.heap.size 81 (.string own) (.slice A2 ws.length c2) wc w' ∧ w'.cell? ⟨wo.heap.size, 0, none⟩ = some (.string own) ∧ w'.cell? ⟨wo.heap.size, 1, none⟩ = some (.slice A2 ws.length c2) ∧ w'.cell? ⟨w2.heap.size + 1, 0, none⟩ = some (.func (.func 74) #[] #[.pointer (some ⟨w2.heap.size, 0, none⟩)])) ((first | exact SB.keepA (by assumption) (by assumption) | exact SB.putA (by assumption) (by assumption) (by assumption) | exact SB.allocA (by assumption) | exact (HSB.out.keep (Below.refl _ _).drew).all)) ((first | (go_at_call 78; refine (HIc.out _ (SB.lo (And.left (by assumption)))).mono ?_; rintro e w9 ⟨rfl, hb9⟩) | (go_at_call 74; refine (putS w2.heap.size _ 3 (w2.heap.size + 1) 3 (FB ++ WT) [SEMI1, V, ⟨#[]⟩] w2 _ (by refine PS.alloc ?_ _; (repeat (apply PS.step; assumption)); exact HPc.out.drew) rfl (by simp) (fun k x hk => by rcases get3 hk with ⟨rfl, rfl⟩ | ⟨rfl, rfl⟩ | ⟨rfl, rfl⟩ <;> simp [SEMI1]) (by omega) (by omega) (by have := HUV.out; simp only [List.length_append] at *; omega)).mono ?_; rintro e w7 ⟨⟨vv, rfl⟩, hp7, hb7, ho7⟩)))
          all_goals
            have HP7 := Lib.hid hp7
            have hSB7 : SB w2.heap.size (w2.heap.size + 1) wo.heap.size 81 (.string own) (.slice A2 ws.length c2) wc w7 := And.left (by assumption)
            have HS7 := Lib.hid hSB7
            have g7 := hSB7.all.2.2.1
            clear hp7 hSB7 g1
            have Hlist := Lib.hid (list80_any A2 c2 w2.heap.size (w2.heap.size + 1) ws w2 w7 _ HP7.out (HIW2.out.below HS7.out.lo) (Hv2.out.below HP7.out.lo h6) h6 hc2 (by omega) (by have := HUV.out; simp only [List.length_append]; omega) Hws.out)
            go_wp2_with fail
            refine Hlist.out.mono ?_
            rintro e w8 ⟨⟨vv2, rfl⟩, hp8⟩
            have HP8 := Lib.hid hp8
            clear hp8 g7
            go_wp2_with fail
            go_roundw
            case rel =>
              refine ⟨k + 1, by omega, by go_num, Lib.hid (HP8.out.text ?_)⟩
              rw [Hst2.out, HT.out]; simp
            case measure => simp [intOf]; omega
        · have Hst2 := Lib.hid (Hsu.out.trans (by rw [if_neg hne]))
          go_wp2_with fail
          go_roundw
          case rel => exact ⟨k + 1, by omega, by go_num, Lib.hid (HPc.out.text (by rw [Hst2.out]; simp))⟩
          case measure => simp [intOf]; omega
      · obtain rfl : k = m.feet.length := by omega
        go_wp2_with fail
        go_meet
        exact hp
  case rest =>
  obtain ⟨wp2, hwp⟩ : ∃ wp : World, wp = wc := ⟨_, rfl⟩
  subst hwp
  have Hp2 := Lib.hid hcut.out
  have m1 := (Hcell.out _ (Hlo.out _ _ hcut.out) 1).trans Hm1.out
  have hwt := waysTo_len HP.out m.feet.length (Nat.le_refl _)
  clear hcut m0 Hp1
  generalize hWT : waysTo m.feet m.feet.length = WT at *
  clear hWT
  go_upto_if 105 with (fail)
  go_cut [102] from 103 to 112 (fun v102 wx => Hid (PS w2.heap.size (w2.heap.size + 1) w2 ((FB ++ WT) ++ endsT m.ends) wx))
  case first =>
    by_cases hne : 0 < m.ends.length
    · have c0 := Hp2.out.cell
      have HIE := Lib.hid ((HM.out.ends.below (Hlo.out _ _ Hp2.out)).more hs2)
      have Hst2 := Lib.hid (show endsT m.ends = END2 ++ listTo id m.ends m.ends.length by unfold endsT; rw [if_pos hne])
      have Hws := Lib.hid HP.out.ends
      have hce := HM.out.ce
      generalize m.ends = ws at *
      go_wp2_with fail
      refine (putS _ _ 1 _ 1 _ [ENDB] w2 _ (Hp2.out.alloc _) rfl (by simp) (fun j x hj => ?_) (by omega) (by omega) ?_).mono ?_
      · obtain ⟨rfl, rfl⟩ := get1 hj
        simp [ENDB]
      · rw [putL_one, List.length_append]; show _ + 6 ≤ _; omega
      rintro e wq ⟨⟨vv, rfl⟩, h1, h2, h3⟩
      have Hq := Lib.hid (h1.text (show _ = (FB ++ WT) ++ END2 by rw [putL_one]; rfl))
      have m1q := (Hcell.out _ (Hlo.out _ _ h1) 1).trans Hm1.out
      have Hlist := Lib.hid (list81_any Ae ce w2.heap.size (w2.heap.size + 1) ws w2 wq _ Hq.out ((HIE.out.below ((Below.refl _ _).alloc (Nat.le_of_lt Hp2.out.bw) _)).below h2) (Hv2.out.below Hq.out.lo h6) h6 hce (by omega) (by simp only [List.length_append]; show _ + 6 ≤ _; omega) Hws.out)
      clear h1 h2 h3 c0 m1
      go_wp2_with fail
      refine Hlist.out.mono ?_
      rintro e w8 ⟨⟨vv2, rfl⟩, hp8⟩
      have HP8 := Lib.hid (hp8.text (show _ = (FB ++ WT) ++ endsT ws by rw [Hst2.out]; simp))
      clear hp8 m1q
      go_wp2_with fail
      go_meet
      exact HP8
    · have HP8 := Lib.hid (Hp2.out.text (show _ = (FB ++ WT) ++ endsT m.ends by unfold endsT; rw [if_neg hne]; simp))
      go_wp2_with fail
      go_meet
      exact HP8
  case rest =>
  obtain ⟨wp3, hwp⟩ : ∃ wp : World, wp = wc := ⟨_, rfl⟩
  subst hwp
  have Hp3 := Lib.hid hcut.out
  have m2 := (Hcell.out _ (Hlo.out _ _ hcut.out) 2).trans Hm2.out
  have het := endsT_len HP.out
  clear hcut m1 Hp2
  generalize hET : endsT m.ends = ET at *
  clear hET
  have Hbt := Lib.hid (brksTo_len HP.out)
  have Hbr := Lib.hid HP.out.brks
  have HIB := Lib.hid HM.out.brks
  generalize m.brks = bs at *
  go_wp2_with fail
  go_loopw [116] (fun i wr => ∃ k : Nat, k ≤ bs.length ∧ i = .int .i64 k ∧ Hid (PS w2.heap.size (w2.heap.size + 1) w2 (((FB ++ WT) ++ ET) ++ brksTo bs k) wr)) (fun i _ => bs.length - (intOf i).toNat)
  case atStart => exact ⟨0, by omega, rfl, Lib.hid (Hp3.out.text (by simp [brksTo]))⟩
  case round =>
    obtain ⟨wo, hwo⟩ : ∃ wo : World, wo = wr := ⟨_, rfl⟩
    subst hwo
    obtain ⟨k, hk, rfl, hp⟩ := hrel
    by_cases hlt : k < bs.length
    · have Hbo := Lib.hid (Hlo.out _ _ hp.out)
      obtain ⟨b, off, rfl, hbb, hrow⟩ := (HIB.out.below Hbo.out) (by omega)
      obtain ⟨f0, f1⟩ := hrow k hlt
      obtain ⟨hv0, hv1, hv2, hv3⟩ := Hbr.out k hlt
      have hbl := Hbt.out k hk
      have Hst := Lib.hid (show brksTo bs (k + 1) = brksTo bs k ++ (BREAK2 ++ (Lib.itoa (bs.getD k default).1 ++ ([32] ++ Lib.itoa (bs.getD k default).2))) from rfl)
      generalize bs.getD k default = v at *
      obtain ⟨v1, v2⟩ := v
      simp only [] at f0 f1 hv0 hv1 hv2 hv3 Hst
      generalize hBT : brksTo bs k = BT at *
      clear hrow hBT
      obtain ⟨U, hU⟩ : ∃ U : ByteArray, Hid (U = ⟨(Lib.itoa v1).toArray⟩) := ⟨_, Lib.hid rfl⟩
      obtain ⟨V, hV⟩ : ∃ V : ByteArray, Hid (V = ⟨(Lib.itoa v2).toArray⟩) := ⟨_, Lib.hid rfl⟩
      have hUs : U.size ≤ 21 := by rw [hU.out]; exact sizeT (Lib.itoa_length_le v1 (by omega) (by omega))
      have hVs : V.size ≤ 21 := by rw [hV.out]; exact sizeT (Lib.itoa_length_le v2 (by omega) (by omega))
      have HT := Lib.hid (show putL [BREAKB, U, V] = BREAK2 ++ (Lib.itoa v1 ++ ([32] ++ Lib.itoa v2)) by rw [putL_three, hU.out, hV.out]; simp [BREAKB, BREAK2])
      have HUV := Lib.hid (show (putL [BREAKB, U, V]).length ≤ 60 by rw [putL_three]; simp only [List.length_append, sizeL, List.length_cons, List.length_nil]; show 7 + (1 + (U.size + (1 + V.size))) ≤ 60; omega)
      generalize hwc : wo.alloc (.cells #[.int .i64 v1, .int .i64 v2] 98) = wc at *
      have Hbox := Lib.hid (show wc.heap[wo.heap.size]? = some (.cells #[.int .i64 v1, .int .i64 v2] 98 (0, 0)) by rw [← hwc]; exact World.alloc_heap_new wo _)
      have HPc := Lib.hid (show PS w2.heap.size (w2.heap.size + 1) w2 (((FB ++ WT) ++ ET) ++ BT) wc by rw [← hwc]; exact hp.out.alloc _)
      have Hvne := Lib.hid (show wo.heap.size ≠ w2.heap.size by have := hp.out.bw; omega)
      have Hwc := Lib.hid hwc
      clear hwc hp
      have HIc : Hid (∀ W, Below w2.heap.size wc W → Calls Tryd.prog 78 #[.int .i64 v1] W fun e w' => e = .returned (.string U) ∧ Below W.heap.size W w') := Lib.hid (fun W hb => by rw [hU.out]; exact itoa_any _ W (Hv2.out.below (HPc.out.lo.trans hb) h6) (by omega) (by omega))
      have HId : Hid (∀ W, Below w2.heap.size wc W → Calls Tryd.prog 78 #[.int .i64 v2] W fun e w' => e = .returned (.string V) ∧ Below W.heap.size W w') := Lib.hid (fun W hb => by rw [hV.out]; exact itoa_any _ W (Hv2.out.below (HPc.out.lo.trans hb) h6) (by omega) (by omega))
      have HSB := Lib.hid (show SB w2.heap.size (w2.heap.size + 1) wo.heap.size 98 (.int .i64 v1) (.int .i64 v2) wc wc from ⟨Below.refl _ _, HPc.out.bw, Hbox.out, HPc.out.fn, Hvne.out, HPc.out.ne, by decide⟩)
      go_upto_region 33 with fail
      rw [Hwc.out]
      go_region_held3 (fun w' => SB w2.heap.size (w2.heap.size + 1) wo.heap.size 98 (.int .i64 v1) (.int .i64 v2) wc w' ∧ w'.cell? ⟨wo.heap.size, 0, none⟩ = some (.int .i64 v1) ∧ w'.cell? ⟨wo.heap.size, 1, none⟩ = some (.int .i64 v2) ∧ w'.cell? ⟨w2.heap.size + 1, 0, none⟩ = some (.func (.func 74) #[] #[.pointer (some ⟨w2.heap.size, 0, none⟩)])) ((first | exact SB.keepA (by assumption) (by assumption) | exact SB.putA (by assumption) (by assumption) (by assumption) | exact SB.allocA (by assumption) | exact (HSB.out.keep (Below.refl _ _).drew).all)) ((first | (go_at_call 78; refine (HIc.out _ (SB.lo (And.left (by assumption)))).mono ?_; rintro e w9 ⟨rfl, hb9⟩) | (go_at_call 78; refine (HId.out _ (SB.lo (And.left (by assumption)))).mono ?_; rintro e w9 ⟨rfl, hb9⟩) | (go_at_call 74; refine (putS w2.heap.size _ 3 (w2.heap.size + 1) 3 (((FB ++ WT) ++ ET) ++ BT) [BREAKB, U, V] w2 _ (by refine PS.alloc ?_ _; (repeat (apply PS.step; assumption)); exact HPc.out.drew) rfl (by simp) (fun k x hk => by rcases get3 hk with ⟨rfl, rfl⟩ | ⟨rfl, rfl⟩ | ⟨rfl, rfl⟩ <;> simp [BREAKB]) (by omega) (by omega) (by have := HUV.out; simp only [List.length_append] at *; omega)).mono ?_; rintro e w7 ⟨⟨vv, rfl⟩, hp7, hb7, ho7⟩)))
      all_goals
        have HP7 := Lib.hid hp7
        clear hp7
        go_wp2_with fail
        go_roundw
        case rel =>
          refine ⟨k + 1, by omega, by go_num, Lib.hid (HP7.out.text ?_)⟩
          rw [Hst.out, HT.out]; simp
        case measure => simp [intOf]; omega
    · obtain rfl : k = bs.length := by omega
      have Hstr := Lib.hid (Tryd.Builder_String_any_k w2.heap.size w2.heap.size _ wo hp.out.bb (Nat.le_of_lt hp.out.bw))
      have Hfin := Lib.hid (Hlo.out _ _ hp.out)
      clear hp
      go_wp2_with fail
      refine Hstr.out.mono ?_
      rintro e w9 ⟨rfl, hx1, hx2, hx3⟩
      have Hb9 := Lib.hid hx2
      clear hx1 hx2 hx3
      go_wp2_with fail
      go_ret2
      refine ⟨?_, HB1.out.trans ((Hfin.out.trans (Hb9.out.mono hs2)).mono HB1.out.size)⟩
      rw [HPP.out]; simp
end Go.Proofs.YtkfkkoefpfmjkaaDoor

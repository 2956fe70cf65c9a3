import Derived.Test.YtkfkkoefpfmjkaaDoorVI
import Derived.Test.YtkfkkoefpfmjkaaDoorSh
import Derived.WalkMore
namespace Go.Proofs.YtkfkkoefpfmjkaaDoor
set_option linter.unusedVariables false
set_option linter.unusedSimpArgs false
open Go.RowKit

/- First. -/
def FirstOk (m : Met) (s : ByteArray) (w : World) (e : Ending) (w' : World) : Prop := Below w.heap.size w w' ∧
  if (leastP m s).2.2 = 0 then ∃ A c, e = .returned (.tuple #[.agg #[.string s, .int .i64 (leastP m s).1, .slice A (choiceP m s).length c], .int .i64 0]) ∧ (choiceP m s).length ≤ c ∧ IsInts w' w'.heap.size A (choiceP m s)
  else e = .returned (.tuple #[.agg #[.string ⟨#[]⟩, .int .i64 0, .slice none 0 0], .int .i64 (leastP m s).2.2])
theorem first_end {W : World} {T : Array Value} {Q : Ending → World → Prop} {P : Nat} {v0 v1 v2 b : Value} (h4 : T.getD 4 undef = .pointer (some ⟨P, 0, none⟩)) (h5 : T.getD 5 undef = b)
    (r : W.heap[P]? = some (.cells #[v0, v1, v2] 52 (0, 0))) (hQ : Q (.returned (.tuple #[.agg #[v0, v1, v2], b])) W) : bodyPost Tryd.prog Tryd.f26 Q Exit.ret { tmps := T, defers := [] } W := by
  have d0 : W.cell? ⟨P, 0, none⟩ = some v0 := cell_of_row _ _ _ _ 52 (0, 0) r
  have d1 : W.cell? ⟨P, 1, none⟩ = some v1 := cell_of_row _ _ _ _ 52 (0, 0) r
  have d2 : W.cell? ⟨P, 2, none⟩ = some v2 := cell_of_row _ _ _ _ 52 (0, 0) r
  have h4' : T[4]?.getD undef = .pointer (some ⟨P, 0, none⟩) := by simpa using h4
  have h5' : T[5]?.getD undef = b := by simpa using h5
  refine bodyPost_ret (v := .tuple #[.agg #[v0, v1, v2], b]) ?_ rfl hQ
  simp [results, Tryd.f26, go_sem, h4', h5', d0, d1, d2, Tryd.isAgg52, Tryd.sizeOf52]
set_option maxRecDepth 100000 in
set_option maxHeartbeats 4000000 in
theorem first_any (Af Ae Ab : Option Addr) (cf ce cb : Nat) (m : Met) (s : ByteArray) (w : World) (h : IsMet w w.heap.size Af Ae Ab cf ce cb m) (hs : s.size ≤ 9223372036854775807) :
    Calls Tryd.prog 26 #[.agg #[.slice Af m.feet.length cf, .slice Ae m.ends.length ce, .slice Ab m.brks.length cb], .string s] w (FirstOk m s w) := by
  generalize hW1 : (w.alloc (.cells #[.slice Af m.feet.length cf, .slice Ae m.ends.length ce, .slice Ab m.brks.length cb] 27)).alloc (.cells #[.string ⟨#[]⟩, .int .i64 0, .slice none 0 0] 52) = W1
  have hB1 : Below w.heap.size w W1 := by rw [← hW1]; exact ((Below.refl _ _).alloc (Nat.le_refl _) _).alloc (by simp) _
  have sW1 : W1.heap.size = w.heap.size + 2 := by rw [← hW1]; simp
  have m0 : W1.cell? ⟨w.heap.size, 0, none⟩ = some (.slice Af m.feet.length cf) := by rw [← hW1]; simp
  have m1 : W1.cell? ⟨w.heap.size, 1, none⟩ = some (.slice Ae m.ends.length ce) := by rw [← hW1]; simp
  have m2 : W1.cell? ⟨w.heap.size, 2, none⟩ = some (.slice Ab m.brks.length cb) := by rw [← hW1]; simp
  have rb : W1.heap[w.heap.size + 1]? = some (.cells #[.string ⟨#[]⟩, .int .i64 0, .slice none 0 0] 52 (0, 0)) := by
    rw [← hW1]
    have := World.alloc_heap_new (w.alloc (.cells #[.slice Af m.feet.length cf, .slice Ae m.ends.length ce, .slice Ab m.brks.length cb] 27)) (.cells #[.string ⟨#[]⟩, .int .i64 0, .slice none 0 0] 52)
    rw [World.size_alloc] at this
    exact this
  have HM := Lib.hid (h.on hB1)
  have HW1 := Lib.hid hW1
  have HB1 := Lib.hid hB1
  have Hrb := Lib.hid rb
  have Hkeep := Lib.hid fun (W2 : World) (hb2 : Below W1.heap.size W1 W2) => And.intro ((hb2.cell (p := ⟨w.heap.size, 0, none⟩) (by show w.heap.size < W1.heap.size; omega)).trans m0) (And.intro ((hb2.cell (p := ⟨w.heap.size, 1, none⟩) (by show w.heap.size < W1.heap.size; omega)).trans m1) (And.intro ((hb2.cell (p := ⟨w.heap.size, 2, none⟩) (by show w.heap.size < W1.heap.size; omega)).trans m2) ((hb2.block (w.heap.size + 1) (by omega)).trans rb)))
  have Hl := Lib.hid (least_any Af Ae Ab cf ce cb m s W1 HM.out hs)
  have Hpost : Hid (∀ e w', FirstOk m s w e w' = (Below w.heap.size w w' ∧
    if (leastP m s).2.2 = 0 then ∃ A c, e = .returned (.tuple #[.agg #[.string s, .int .i64 (leastP m s).1, .slice A (choiceP m s).length c], .int .i64 0]) ∧ (choiceP m s).length ≤ c ∧ IsInts w' w'.heap.size A (choiceP m s)
    else e = .returned (.tuple #[.agg #[.string ⟨#[]⟩, .int .i64 0, .slice none 0 0], .int .i64 (leastP m s).2.2]))) := Lib.hid (fun _ _ => rfl)
  have Hlp : Hid (leastP m s = if mayB m then (if 66 < s.size then (0, 0, 4) else if (restR (optsP m) s.data.toList).2 = 0 then (0, 0, 4) else ((restR (optsP m) s.data.toList).1, (restR (optsP m) s.data.toList).2, 0)) else (0, 0, 2)) := Lib.hid rfl
  clear h hW1 hB1 rb
  go_enter Tryd.func26, Tryd.ntmps26
  go_wp2_with fail
  rw [HW1.out]
  go_step3
  go_wp2_with fail
  refine Hl.out.mono ?_
  rintro e w2 ⟨rfl, hb2⟩
  obtain ⟨q0, q1, q2, r2⟩ := Hkeep.out _ hb2
  have HM2 := Lib.hid (HM.out.on hb2)
  have Hb2 := Lib.hid hb2
  generalize leastP m s = C at *
  obtain ⟨c1, c2, c3⟩ := C
  simp only []
  cases hz : (c3 == 0) with
  | false =>
    have Hz : Hid (¬ c3 = 0) := Lib.hid (by simpa using hz)
    have hz' : (c3 != 0) = true := by simp [bne, hz]
    have t0 : w2.cell? ⟨w.heap.size + 1, 0, none⟩ = some (.string ⟨#[]⟩) := cell_of_row _ _ _ _ 52 (0, 0) r2
    have t1 : w2.cell? ⟨w.heap.size + 1, 1, none⟩ = some (.int .i64 0) := cell_of_row _ _ _ _ 52 (0, 0) r2
    have t2 : w2.cell? ⟨w.heap.size + 1, 2, none⟩ = some (.slice none 0 0) := cell_of_row _ _ _ _ 52 (0, 0) r2
    have z0 := frozen_of_row w2 (w.heap.size + 1) 0 _ 52 r2
    have z1 := frozen_of_row w2 (w.heap.size + 1) 1 _ 52 r2
    have z2 := frozen_of_row w2 (w.heap.size + 1) 2 _ 52 r2
    have hr3 := three_cells r2 (.string ⟨#[]⟩) (.int .i64 0) (.slice none 0 0)
    have hbe := three_below (HB1.out.trans (hb2.mono (by omega))) (show w.heap.size ≤ w.heap.size + 1 by omega) (.string ⟨#[]⟩) (.int .i64 0) (.slice none 0 0)
    have Hr3 := Lib.hid hr3
    have Hbe := Lib.hid hbe
    clear hb2 r2 hr3 hbe
    go_wp2_with fail
    refine first_end rfl rfl Hr3.out ?_
    rw [Hpost.out]
    exact ⟨Hbe.out, by rw [if_neg Hz.out]; rfl⟩
  | true =>
    have hz' : (c3 != 0) = false := by simp [bne, hz]
    have hz0 : c3 = 0 := by simpa using hz
    subst hz0
    obtain ⟨hm, hs66, hc12⟩ : mayB m = true ∧ s.size ≤ 66 ∧ restR (optsP m) s.data.toList = (c1, c2) := by
      have := Hlp.out
      split at this
      · split at this
        · simp at this
        · split at this
          · simp at this
          · simp only [Prod.mk.injEq] at this
            exact ⟨by assumption, by omega, by rw [this.1, this.2.1]⟩
      · simp at this
    clear hb2 r2
    have Hm := Lib.hid hm
    have Hc12 := Lib.hid hc12
    have Hop := Lib.hid (options_any Af Ae Ab cf ce cb m w2 HM2.out (small_of hm))
    clear hm hc12
    go_wp2_with fail
    refine Hop.out.mono ?_
    rintro e w3 ⟨v, vs, rfl, hor, hb3⟩
    obtain ⟨A3, c3, rfl, hc3, hrw⟩ := hor.isRows
    obtain ⟨ho1, ho2⟩ := opts_small Hm.out
    have hre := rests_any A3 c3 (optsP m) s w3 hrw hc3 (by rw [optsP_len]; omega) ho1 hs66 ho2
    have Hre := Lib.hid hre
    have Hb3 := Lib.hid (Hb2.out.trans (hb3.mono Hb2.out.size))
    have Hrw := Lib.hid hrw
    have Hsg := Lib.hid (opts_signs Hm.out)
    have Ho2 := Lib.hid ho2
    have Hrt := Lib.hid (show restT (optsP m) s 0 0 = restR (optsP m) s.data.toList from rfl)
    have Hcp : Hid (choiceP m s = (firstTo (optsP m) s c1 (optsP m).length).2.2) := Lib.hid (by unfold choiceP; rw [Hc12.out])
    have Hnl : Hid (0 < (optsP m).length) := Lib.hid (by rw [optsP_len]; omega)
    generalize hrows : optsP m = rows at *
    clear hor hrw ho2 hre hb3 hrows
    go_wp2_with fail
    refine Hre.out.mono ?_
    rintro e w4 ⟨rfl, hmem, hb4⟩
    have Hmem := Lib.hid hmem
    have Hb4 := Lib.hid (Hb3.out.trans (hb4.mono Hb3.out.size))
    have Hrw4 := Lib.hid (Hrw.out.below hb4)
    have hw34 := hb4.size
    have hmsz := hmem.sz
    clear hmem hb4
    go_wp2_with fail
    go_step3
    go_wp2_with fail
    generalize hW5 : w4.alloc (.cells #[.string s, .int .i64 c1, .slice none 0 0] 52) = W5
    have hb5 : Below w4.heap.size w4 W5 := by rw [← hW5]; exact (Below.refl _ w4).alloc (Nat.le_refl _) _
    have hpb : PB W5 w4.heap.size s c1 (.slice none 0 0) (firstTo rows s c1 0).2.2 := by
      refine ⟨?_, World.ownsRow_nil _ _ _ _⟩
      rw [← hW5]; exact World.alloc_heap_new w4 _
    have Hb5 := Lib.hid hb5
    have Hpb := Lib.hid hpb
    have HW5 := Lib.hid hW5
    have Hb34 : Hid (w3.heap.size ≤ w4.heap.size) := Lib.hid hw34
    clear hb5 hpb hW5
    go_loopw [6, 12, 39] (fun left at' i wr => ∃ (k : Nat) (st : St) (vch : Value), k ≤ rows.length ∧ i = .int .i64 k ∧ at' = .int .i64 st.1 ∧ left = .int .i64 st.2.1 ∧ Hid (st = firstTo rows s c1 k) ∧ Hid (PB wr w4.heap.size s c1 vch st.2.2) ∧ Hid (Below w4.heap.size w4 wr)) (fun _ _ i _ => rows.length - (intOf i).toNat)
    case atStart => exact ⟨0, (0, c1, []), _, Nat.zero_le _, rfl, rfl, rfl, Lib.hid rfl, Hpb, Hb5⟩
    case round =>
      obtain ⟨k, st, vch, hk, rfl, rfl, rfl, hst, hpb, hbb⟩ := hrel
      clear Hpb Hb5
      by_cases hlt : k < rows.length
      · obtain ⟨bR, oR, rfl, hbR, hcR⟩ := Hrw4.out (by omega)
        obtain ⟨A', c', q1, q2, q3⟩ := hcR k hlt
        have hmemr : rows.getD k [] ∈ rows := by rw [List.getD_eq_getElem?_getD, List.getElem?_eq_getElem hlt]; exact List.getElem_mem _
        have i5 : (0 : Int) ≤ (k : Int) := by omega
        have i6 : (k : Int) < (rows.length : Int) := by omega
        have hb34 := Hb34.out
        have g0 := (hbb.out.cell (p := ⟨bR, oR + k, none⟩) (by show bR < w4.heap.size; omega)).trans q1
        have hll := (Ho2.out _ hmemr).1
        have Hvc := Lib.hid (Ho2.out _ hmemr).2
        have Hvz := Lib.hid (Hsg.out _ hmemr)
        have Hq3 := Lib.hid q3
        have hlen := firstTo_len rows s c1 k
        rw [← hst.out] at hlen
        have Hfs : Hid (firstTo rows s c1 (k + 1) = pickS rows s k (rows.getD k []) 0 st) := Lib.hid (by rw [hst.out]; rfl)
        generalize rows.getD k [] = row at *
        obtain ⟨sa, sl, sc⟩ := st
        simp only [] at hlen
        obtain ⟨hlen1, hlen2⟩ := hlen
        have hfs0 : Hid (firstTo rows s c1 (k + 1) = pickS rows s k (row.drop 0) 0 (sa, sl, sc)) := Hfs
        obtain ⟨wk, hwk⟩ : ∃ wk : World, wk = wr := ⟨_, rfl⟩
        subst hwk
        have hbsz := hbb.out.size
        have Hhb0 := Lib.hid (Below.refl wk.heap.size wk)
        clear q1 q3 hmemr Hfs
        go_wp2_with fail
        go_loopw [6, 12, 46] (fun left at' i wr => ∃ q : Nat, q ≤ row.length ∧ i = .int .i64 q ∧ at' = .int .i64 sa ∧ left = .int .i64 sl ∧ Hid (firstTo rows s c1 (k + 1) = pickS rows s k (row.drop q) q (sa, sl, sc)) ∧ Hid (Below wk.heap.size wk wr)) (fun _ _ i _ => row.length - (intOf i).toNat)
        case atStart => exact ⟨0, Nat.zero_le _, rfl, rfl, rfl, hfs0, Hhb0⟩
        case round =>
          obtain ⟨q, hq, rfl, rfl, rfl, hfq, hbq⟩ := hrel
          clear hfs0 Hhb0
          by_cases hlq : q < row.length
          · obtain ⟨bw, ow, rfl, hbw, hcw⟩ := Hq3.out (by omega)
            have hbq0 := hbb.out.trans (hbq.out.mono hbsz)
            have g1 := (hbq0.cell (p := ⟨bw, ow + q * 2, none⟩) (by show bw < w4.heap.size; omega)).trans (hcw q hlq).1
            have g2 := (hbq0.cell (p := ⟨bw, ow + q * 2 + 1, none⟩) (by show bw < w4.heap.size; omega)).trans (hcw q hlq).2
            have hmem : row.getD q default ∈ row := by rw [List.getD_eq_getElem?_getD, List.getElem?_eq_getElem hlq]; exact List.getElem_mem hlq
            have hvc := Hvc.out _ hmem
            have hvz := Hvz.out _ hmem
            have hps := hfq.out
            rw [pickS_step rows s k row q _ hlq] at hps
            generalize row.getD q default = v at *
            obtain ⟨vs, vc⟩ := v
            simp only [] at g1 g2 hvc hvz hps
            have Hps := Lib.hid hps
            have hszr := hbq0.size
            generalize hW5 : wr.alloc (.cells #[.string vs, .int .i64 vc] 100) = W5
            have sW5 : W5.heap.size = wr.heap.size + 1 := by rw [← hW5]; simp
            have hb5 : Below wr.heap.size wr W5 := by rw [← hW5]; exact (Below.refl _ _).alloc (Nat.le_refl _) _
            have v1 : W5.cell? ⟨wr.heap.size, 0, none⟩ = some (.string vs) := by rw [← hW5]; simp
            have v2 : W5.cell? ⟨wr.heap.size, 1, none⟩ = some (.int .i64 vc) := by rw [← hW5]; simp
            have HBQ := Lib.hid (hbq.out.trans (hb5.mono hbq.out.size))
            have HT5 := Lib.hid (Hmem.out.below ((hbb.out.trans (HBQ.out.mono hbsz)).mono hmsz))
            have HP5 := Lib.hid (hpb.out.below HBQ.out)
            have HW5 := Lib.hid hW5
            clear hmem hcw hps hbq0 hW5 hb5 hfq
            have hmiss : ∀ W', nextB rows s k (sa, sl, sc) (vs, vc) = false → Below wk.heap.size wk W' → Hid (firstTo rows s c1 (k + 1) = pickS rows s k (row.drop (q + 1)) (q + 1) (sa, sl, sc)) ∧ Hid (Below wk.heap.size wk W') :=
              fun W' hn hb => ⟨Lib.hid (by rw [Hps.out, hn]; rfl), Lib.hid hb⟩
            have Hmiss := Lib.hid hmiss
            have Hnx : Hid (nextB rows s k (sa, sl, sc) (vs, vc) = (Lib.hasPrefix (s.data.toList.drop sa) vs.data.toList && (decide (0 < (restT rows s (k + 1) (sa + vs.size)).2) && decide ((restT rows s (k + 1) (sa + vs.size)).1 + vc = sl)))) := Lib.hid rfl
            clear hmiss
            have hcp : ∀ w, Calls Tryd.prog 63 #[.string (s.extract sa s.size), .string vs] w (fun e w' => e = .returned (.bool (Lib.hasPrefix (s.data.toList.drop sa) vs.data.toList)) ∧ w' = w) := fun w => by
              have := Tryd.strings_HasPrefix (s.extract sa s.size) vs w
              rw [show (s.extract sa s.size).data.toList = s.data.toList.drop sa by
                rw [ByteArray.data_extract, Array.toList_extract, List.extract_eq_take_drop]
                exact List.take_of_length_le (by simp)] at this
              exact this
            have Hhpc := Lib.hid hcp
            have hsa : (sa : Int) ≤ (s.size : Int) := by omega
            clear hcp
            cases hpp : Lib.hasPrefix (s.data.toList.drop sa) vs.data.toList with
            | false =>
              rw [hpp] at Hhpc
              obtain ⟨hM1, hM2⟩ := Hmiss.out W5 (by rw [Hnx.out, hpp]; rfl) HBQ.out
              go_wp2_with fail
              rw [HW5.out]
              go_quiet ((go_at_call 63; exact Calls.quiet_of_same (Hhpc.out _)))
              go_wp2_with fail
              go_roundw
              case rel => exact ⟨q + 1, by omega, by go_num, rfl, rfl, hM1, Lib.hid (belowD hM2.out _)⟩
              case measure => simp [intOf]; omega
            | true =>
              rw [hpp] at Hhpc
              have hbig : sa + vs.size ≤ s.size := by
                have := hasPrefix_len hpp
                simp only [List.length_drop, Array.length_toList, ByteArray.size_data] at this
                omega
              have f3 := HT5.out.oc (k + 1) (by omega)
              have hr1 := HT5.out.t1 (k + 1) (sa + vs.size) (by omega) (by omega)
              have hr2 := HT5.out.t2 (k + 1) (sa + vs.size) (by omega) (by omega)
              have hcs := rest_cost (rows := rows) (s := s) (fun l hl' => (Ho2.out l hl').2) (k + 1) (sa + vs.size) (by omega) (by omega)
              have Hnx2 : Hid (nextB rows s k (sa, sl, sc) (vs, vc) = (decide (0 < (restT rows s (k + 1) (sa + vs.size)).2) && decide ((restT rows s (k + 1) (sa + vs.size)).1 + vc = sl))) := Lib.hid (by rw [Hnx.out, hpp]; rfl)
              clear Hnx
              generalize restT rows s (k + 1) (sa + vs.size) = rc at *
              obtain ⟨r1, r2⟩ := rc
              simp only [] at hr1 hr2 hcs Hnx2
              have hr17 : r1 ≤ 17 * 1048576 := by have := hcs.2; omega
              have hr0 := hcs.1
              have k7 : (sa : Int) + (vs.size : Int) < (s.size : Int) + 1 := by omega
              have i8 : (k : Int) + 1 < (rows.length : Int) + 1 := by omega
              go_wp2_with fail
              rw [HW5.out]
              go_quiet ((go_at_call 63; exact Calls.quiet_of_same (Hhpc.out _)))
              go_wp2_with fail
              have HP6 : Hid (PB (W5.drewN nq) w4.heap.size s c1 vch sc) := Lib.hid (HP5.out.below (belowD (Below.refl _ W5) nq))
              have HB6 : Hid (Below wk.heap.size wk (W5.drewN nq)) := Lib.hid (belowD HBQ.out nq)
              have v1' : (W5.drewN nq).cell? ⟨wr.heap.size, 0, none⟩ = some (.string vs) := v1
              have v2' : (W5.drewN nq).cell? ⟨wr.heap.size, 1, none⟩ = some (.int .i64 vc) := v2
              have f3' : (W5.drewN nq).cell? ⟨w3.heap.size + 1, k + 1, none⟩ = some (.slice (some ⟨w3.heap.size + 3 + (k + 1), 0, none⟩) (s.size + 1) (s.size + 1)) := f3
              have hr1' : (W5.drewN nq).cell? ⟨w3.heap.size + 3 + (k + 1), (sa + vs.size) * 2, none⟩ = some (.int .i64 r1) := hr1
              have hr2' : (W5.drewN nq).cell? ⟨w3.heap.size + 3 + (k + 1), (sa + vs.size) * 2 + 1, none⟩ = some (.int .i64 r2) := hr2
              have sW6 : (W5.drewN nq).heap.size = wr.heap.size + 1 := sW5
              clear v1 v2 f3 hr1 hr2 sW5
              generalize W5.drewN nq = W6 at *
              obtain ⟨hvc0, hvc1⟩ := hvc
              have hw1 : IntKind.i64.wrap ((k : Int) + 1) = (k : Int) + 1 := IntWalk.i64_in _ (by omega)
              have hw3 : IntKind.i64.wrap ((sa : Int) + (vs.size : Int)) = (sa : Int) + (vs.size : Int) := IntWalk.i64_in _ (by omega)
              have i9 : (0 : Int) ≤ (k : Int) + 1 := by omega
              have i10 : ((k : Int) + 1).toNat = k + 1 := by omega
              have i11 : (0 : Int) ≤ (sa : Int) + (vs.size : Int) := by omega
              have i12 : ((sa : Int) + (vs.size : Int)).toNat = sa + vs.size := by omega
              go_region_held3 (fun W' => W'.cell? ⟨w3.heap.size + 1, k + 1, none⟩ = some (.slice (some ⟨w3.heap.size + 3 + (k + 1), 0, none⟩) (s.size + 1) (s.size + 1)) ∧ W'.cell? ⟨w3.heap.size + 3 + (k + 1), (sa + vs.size) * 2, none⟩ = some (.int .i64 r1) ∧ W'.cell? ⟨w3.heap.size + 3 + (k + 1), (sa + vs.size) * 2 + 1, none⟩ = some (.int .i64 r2) ∧ W'.cell? ⟨wr.heap.size, 0, none⟩ = some (.string vs)) (go_keep) (fail)
              have hal : Below W6.heap.size W6 (W6.alloc (.cells #[.int .i64 r1, .int .i64 r2] 110)).drew := ((Below.refl _ W6).alloc (Nat.le_refl _) _).drew
              have HP7 := Lib.hid (HP6.out.below hal)
              have HB7 := Lib.hid (HB6.out.trans (hal.mono HB6.out.size))
              have n1 : (W6.alloc (.cells #[.int .i64 r1, .int .i64 r2] 110)).drew.cell? ⟨wr.heap.size + 1, 0, none⟩ = some (.int .i64 r1) := by rw [← sW6]; simp
              have n2 : (W6.alloc (.cells #[.int .i64 r1, .int .i64 r2] 110)).drew.cell? ⟨wr.heap.size + 1, 1, none⟩ = some (.int .i64 r2) := by rw [← sW6]; simp
              have v1'' := (hal.cell (p := ⟨wr.heap.size, 0, none⟩) (by show wr.heap.size < W6.heap.size; omega)).trans v1'
              have v2'' := (hal.cell (p := ⟨wr.heap.size, 1, none⟩) (by show wr.heap.size < W6.heap.size; omega)).trans v2'
              have sW7 : (W6.alloc (.cells #[.int .i64 r1, .int .i64 r2] 110)).drew.heap.size = wr.heap.size + 2 := by rw [World.size_drew, World.size_alloc, sW6]
              clear v1' v2' f3' hr1' hr2' sW6 hal HP6 HB6 hw1 hw3
              generalize (W6.alloc (.cells #[.int .i64 r1, .int .i64 r2] 110)).drew = W7 at *
              have hw2 : IntKind.i64.wrap (r1 + vc) = r1 + vc := IntWalk.i64_in _ (by omega)
              by_cases h0 : 0 < r2
              · have h0' : decide (0 < r2) = true := decide_eq_true h0
                cases heq : (r1 + vc == sl) with
                | false =>
                  have heq' : decide (r1 + vc = sl) = false := decide_eq_false (by simpa using heq)
                  obtain ⟨hM1, hM2⟩ := Hmiss.out W7 (by rw [Hnx2.out, h0', heq']; rfl) HB7.out
                  go_wp2_with fail
                  go_roundw
                  case rel => exact ⟨q + 1, by omega, by go_num, rfl, rfl, hM1, hM2⟩
                  case measure => simp [intOf]; omega
                | true =>
                  have heq0 : r1 + vc = sl := by simpa using heq
                  have heq' : decide (r1 + vc = sl) = true := decide_eq_true heq0
                  have Hhit := Lib.hid (show firstTo rows s c1 (k + 1) = (sa + vs.size, r1, sc ++ [(q : Int)]) by rw [Hps.out, Hnx2.out, h0', heq']; rfl)
                  have hpx := HP7.out.box
                  have c2p : W7.cell? ⟨w4.heap.size, 2, none⟩ = some vch := cell_of_row _ _ _ _ 52 (0, 0) hpx
                  have hPk : w4.heap.size < wk.heap.size := (Array.getElem?_eq_some_iff.1 hpb.out.box).1
                  have hkr : wk.heap.size ≤ wr.heap.size := hbq.out.size
                  have hown0 : some (wr.heap.size + 1) ≠ vch.ownBlock := fun e => by have := (hpb.out.row.lt _ e.symm).2; omega
                  have hown1 : some wr.heap.size ≠ vch.ownBlock := fun e => by have := (hpb.out.row.lt _ e.symm).2; omega
                  have hown2 : some w4.heap.size ≠ vch.ownBlock := by
                    rcases own_neb hpb.out.row hpb.out.box (by decide) with e | e
                    · rw [e]; exact fun q => by cases q
                    · exact fun q => e q.symm
                  have Hkv : Hid (∀ w7 : World, W7.grownBy w7 vch.ownBlock → ∀ v', (w7.setCell ⟨w4.heap.size, 2, none⟩ v').cell? ⟨wr.heap.size, 0, none⟩ = some (.string vs) ∧ (w7.setCell ⟨w4.heap.size, 2, none⟩ v').cell? ⟨wr.heap.size + 1, 0, none⟩ = some (.int .i64 r1) ∧ w7.cell? ⟨w4.heap.size, 2, none⟩ = some vch ∧ w7.frozen? ⟨w4.heap.size, 2, none⟩ = false) := Lib.hid (by
                    intro w7 hg v'
                    refine ⟨?_, ?_, ?_, ?_⟩
                    · rw [World.cell?_setCell_far _ _ _ _ (by show w4.heap.size ≠ wr.heap.size; omega)]
                      exact (World.cell?_of_block (a := ⟨wr.heap.size, 0, none⟩) (hg.block _ (by show wr.heap.size < W7.heap.size; omega) hown1)).trans v1''
                    · rw [World.cell?_setCell_far _ _ _ _ (by show w4.heap.size ≠ wr.heap.size + 1; omega)]
                      exact (World.cell?_of_block (a := ⟨wr.heap.size + 1, 0, none⟩) (hg.block _ (by show wr.heap.size + 1 < W7.heap.size; omega) hown0)).trans n1
                    · exact (World.cell?_of_block (a := ⟨w4.heap.size, 2, none⟩) (hg.block _ (by show w4.heap.size < W7.heap.size; omega) hown2)).trans c2p
                    · exact (World.frozen?_of_block (a := ⟨w4.heap.size, 2, none⟩) (hg.block _ (by show w4.heap.size < W7.heap.size; omega) hown2)).trans (frozen_of_row _ _ 2 _ 52 hpx))
                  have Hb46 := Lib.hid (hbb.out.trans (HB7.out.mono hbsz))
                  have HsW := Lib.hid sW7.symm
                  have hws : IntKind.i64.wrap ((sa : Int) + (vs.size : Int)) = (sa : Int) + (vs.size : Int) := IntWalk.i64_in _ (by omega)
                  clear hown0 hown1 hown2 hpx heq
                  go_wp2_with (at_builtin; go_loud (refine wpList_append_boxg _ rfl _ _ 50 rfl w4.heap.size 3 _ _ 1 8 Tryd.underlying50 info3 zero3 size3 bytes3 rfl (by decide) vch sc.length (intCells sc) #[.int .i64 q] (wr.heap.size + 2) rfl rfl HsW.out HP7.out.row rfl (by intro u hu; simp at hu; subst hu; rfl) (by unfold maxLen; omega) (by omega) (by omega) ?_; intro v1 w7 hown7 hg7 _; have hpn := HP7.out.snoc (x := (q : Int)) hown7 hg7; have hbn := (Hb46.out.grown hg7 (by omega) (fun z e => (HP7.out.row.lt z e).1)).setCell (p := ⟨w4.heap.size, 2, none⟩) (Nat.le_refl _) v1; obtain ⟨y1, y2, y3, y4⟩ := Hkv.out w7 hg7 v1; obtain ⟨g7, cap7, rfl⟩ := own_form hown7 (by omega); have Hpn := Lib.hid hpn; have Hbn := Lib.hid hbn; clear hpn hbn hown7 hg7))
                  go_roundw
                  case rel => exact ⟨k + 1, (sa + vs.size, r1, sc ++ [(q : Int)]), _, by omega, by go_num, by go_num, rfl, Lib.hid Hhit.out.symm, Hpn, Hbn⟩
                  case measure => simp [intOf]; omega
              · have h0' : decide (0 < r2) = false := decide_eq_false h0
                obtain ⟨hM1, hM2⟩ := Hmiss.out W7 (by rw [Hnx2.out, h0']; rfl) HB7.out
                go_wp2_with fail
                go_roundw
                case rel => exact ⟨q + 1, by omega, by go_num, rfl, rfl, hM1, hM2⟩
                case measure => simp [intOf]; omega
          · obtain rfl : q = row.length := by omega
            have hfe := hfq.out
            rw [pickS_end] at hfe
            have Hfe := Lib.hid hfe
            have Hpe := Lib.hid (hpb.out.below hbq.out)
            have Hbe := Lib.hid (hbb.out.trans (hbq.out.mono hbsz))
            clear hfq hbq hfe
            go_wp2_with fail
            go_roundw
            case rel => exact ⟨k + 1, (sa, sl, sc), vch, by omega, by go_num, rfl, rfl, Lib.hid Hfe.out.symm, Hpe, Hbe⟩
            case measure => simp [intOf]; omega
      · obtain rfl : k = rows.length := by omega
        obtain ⟨A, c, rfl, hcA, hin⟩ := row_ints hpb.out.row
        have hbx := hpb.out.box
        have x0 : wr.cell? ⟨w4.heap.size, 0, none⟩ = some (.string s) := cell_of_row _ _ _ _ 52 (0, 0) hbx
        have x1 : wr.cell? ⟨w4.heap.size, 1, none⟩ = some (.int .i64 c1) := cell_of_row _ _ _ _ 52 (0, 0) hbx
        have x2 : wr.cell? ⟨w4.heap.size, 2, none⟩ = some (.slice A st.2.2.length c) := cell_of_row _ _ _ _ 52 (0, 0) hbx
        have hb14 : Below W1.heap.size W1 wr := Hb4.out.trans (hbb.out.mono Hb4.out.size)
        obtain ⟨_, _, _, r9⟩ := Hkeep.out _ hb14
        have t0 : wr.cell? ⟨w.heap.size + 1, 0, none⟩ = some (.string ⟨#[]⟩) := cell_of_row _ _ _ _ 52 (0, 0) r9
        have t1 : wr.cell? ⟨w.heap.size + 1, 1, none⟩ = some (.int .i64 0) := cell_of_row _ _ _ _ 52 (0, 0) r9
        have t2 : wr.cell? ⟨w.heap.size + 1, 2, none⟩ = some (.slice none 0 0) := cell_of_row _ _ _ _ 52 (0, 0) r9
        have z0 := frozen_of_row wr (w.heap.size + 1) 0 _ 52 r9
        have z1 := frozen_of_row wr (w.heap.size + 1) 1 _ 52 r9
        have z2 := frozen_of_row wr (w.heap.size + 1) 2 _ 52 r9
        have hW4s := Hb4.out.size
        have Hr3 := Lib.hid (three_cells r9 (.string s) (.int .i64 c1) (.slice A st.2.2.length c))
        have Hbe := Lib.hid (three_below (HB1.out.trans (hb14.mono (by omega))) (show w.heap.size ≤ w.heap.size + 1 by omega) (.string s) (.int .i64 c1) (.slice A st.2.2.length c))
        have hrow := row_far (o := 2) (x := .slice A st.2.2.length c) (row_far (o := 1) (x := .int .i64 c1) (row_far (k := w.heap.size + 1) (o := 0) (x := .string s) hpb.out.row (by omega)) (show w.heap.size + 1 < _ by omega)) (show w.heap.size + 1 < _ by omega)
        obtain ⟨A1, c9, e9, hc9, hin9⟩ := row_ints hrow
        cases e9
        have Hin := Lib.hid hin9
        clear hrow hin9 hin hb14 r9
        go_wp2_with fail
        refine first_end rfl rfl Hr3.out ?_
        rw [Hpost.out]
        refine ⟨Hbe.out, ?_⟩
        rw [if_pos trivial, Hcp.out, ← hst.out]
        exact ⟨A, c, rfl, hcA, Hin.out⟩
end Go.Proofs.YtkfkkoefpfmjkaaDoor
namespace Go.Proofs.YtkfkkoefpfmjkaaDoor
set_option linter.unusedVariables false
set_option linter.unusedSimpArgs false
open Go.RowKit

/- Law 6, plain: Least and the reference's Least agree; a pattern is as itself. -/
theorem least_off {m : Met} {s : ByteArray} (h : mayB m = false) : leastP m s = (0, 0, 2) := by
  unfold leastP; rw [h]; rfl
theorem least_none {m : Met} {s : ByteArray} (h : mayB m = true) (h0 : (refLeastP m s).2 = 0) : leastP m s = (0, 0, 4) := by
  unfold refLeastP at h0
  unfold leastP
  rw [if_pos h]
  by_cases h66 : 66 < s.size
  · rw [if_pos h66]
  · rw [if_neg h66] at h0
    rw [if_neg h66, if_pos h0]
theorem least_some {m : Met} {s : ByteArray} (h : mayB m = true) (h0 : ¬ (refLeastP m s).2 = 0) : leastP m s = ((refLeastP m s).1, (refLeastP m s).2, 0) := by
  unfold refLeastP at h0 ⊢
  unfold leastP
  rw [if_pos h]
  by_cases h66 : 66 < s.size
  · rw [if_pos h66] at h0; exact absurd rfl h0
  · rw [if_neg h66] at h0
    rw [if_neg h66, if_neg h0, if_neg h66]
theorem pat_self (s : ByteArray) (c : Int) (l : List Int) : patB s c l s c l = true := by
  unfold patB; simp
theorem choice_len (m : Met) (s : ByteArray) : (choiceP m s).length ≤ (optsP m).length := (firstTo_len (optsP m) s _ _).1
end Go.Proofs.YtkfkkoefpfmjkaaDoor

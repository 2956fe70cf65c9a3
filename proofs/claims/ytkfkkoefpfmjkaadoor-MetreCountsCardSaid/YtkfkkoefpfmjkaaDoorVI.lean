import Derived.Test.YtkfkkoefpfmjkaaDoorVH
namespace Go.Proofs.YtkfkkoefpfmjkaaDoor
set_option linter.unusedVariables false
set_option linter.unusedSimpArgs false
open Go.RowKit

/- The reference's First. -/
theorem info3 : Tryd.prog.info? 3 = some Tryd.t3 := by kernel_rfl
theorem zero3 : Tryd.t3.zero = some (.int .i64 0) := by kernel_rfl
theorem size3 : Tryd.t3.size = 1 := by kernel_rfl
theorem bytes3 : Tryd.t3.bytes = 8 := by kernel_rfl
/-- the pattern that is being made, in block P -/
structure PB (w : World) (P : Nat) (s : ByteArray) (c0 : Int) (vch : Value) (ch : List Int) : Prop where
  box : w.heap[P]? = some (.cells #[.string s, .int .i64 c0, vch] 52 (0, 0))
  row : w.ownsRow P 3 1 vch ch.length (intCells ch)
theorem PB.below {w w' : World} {P : Nat} {s : ByteArray} {c0 : Int} {vch : Value} {ch : List Int} (h : PB w P s c0 vch ch) (hb : Below w.heap.size w w') : PB w' P s c0 vch ch :=
  ⟨(hb.block P (Array.getElem?_eq_some_iff.1 h.box).1).trans h.box, h.row.kept (only_of_below hb none) some_ne⟩
theorem PB.snoc {w w1 : World} {P : Nat} {s : ByteArray} {c0 : Int} {vch v' : Value} {ch : List Int} {x : Int} (h : PB w P s c0 vch ch) (ho : w1.ownsRow P 3 1 v' (ch.length + 1) (intCells ch ++ [.int .i64 x])) (hg : w.grownBy w1 vch.ownBlock) :
    PB (w1.setCell ⟨P, 2, none⟩ v') P s c0 v' (ch ++ [x]) := by
  have hne : vch.ownBlock ≠ some P := by rcases own_neb h.row h.box (by decide) with e | e; · rw [e]; simp
                                         · exact e
  have b1 : w1.heap[P]? = some (.cells #[.string s, .int .i64 c0, vch] 52 (0, 0)) := (hg.block P (Array.getElem?_eq_some_iff.1 h.box).1 (fun e => hne e.symm)).trans h.box
  refine ⟨heap_setCell_same w1 P 2 _ 52 v' b1, ?_⟩
  have e : intCells (ch ++ [x]) = intCells ch ++ [.int .i64 x] := by simp [intCells]
  rw [e]
  have : (ch ++ [x]).length = ch.length + 1 := by simp
  rw [this]
  exact ho.kept (grown_cell w1 P 2 v') (own_neb ho b1 (by decide))
theorem row_ints {w : World} {P : Nat} {vch : Value} {ch : List Int} (h : w.ownsRow P 3 1 vch ch.length (intCells ch)) : ∃ A c, vch = .slice A ch.length c ∧ ch.length ≤ c ∧ IsInts w w.heap.size A ch := by
  rcases h.2 with ⟨rfl, h0⟩ | ⟨g, cap, cur, rfl, _, hg, hcap, _⟩
  · rw [h0]; exact ⟨none, 0, rfl, Nat.le_refl _, fun hl => by omega⟩
  · refine ⟨_, cap, rfl, hcap, fun hl => ⟨g, 0, rfl, (Array.getElem?_eq_some_iff.1 hg).1, fun k hk => ?_⟩⟩
    rw [Nat.zero_add, h.cellAt k (by omega)]
    simp [intCells, List.getElem?_map, List.getD_eq_getElem?_getD, hk]
theorem row_far {w : World} {base k o e z n : Nat} {v x : Value} {xs : List Value} (h : w.ownsRow base e z v n xs) (hk : k < base) : (w.setCell ⟨k, o, none⟩ x).ownsRow base e z v n xs :=
  h.kept (grown_cell w k o x) (by
    cases hv : v.ownBlock with
    | none => exact .inl rfl
    | some q => right; intro e; cases e; have := (h.lt _ hv).1; omega)
theorem pickS_len (rows : List (List Way)) (s : ByteArray) (i : Nat) : ∀ (l : List Way) (k : Nat) (st : St), (pickS rows s i l k st).2.2.length ≤ st.2.2.length + 1 ∧ (st.1 ≤ s.size → (pickS rows s i l k st).1 ≤ s.size)
  | [], k, st => ⟨by show st.2.2.length ≤ _; omega, fun h => h⟩
  | v :: l, k, st => by
    unfold pickS
    split
    · rename_i h
      refine ⟨by simp, fun hs => ?_⟩
      unfold nextB at h
      rw [Bool.and_eq_true] at h
      have := hasPrefix_len h.1
      simp only [List.length_drop, Array.length_toList, ByteArray.size_data] at this
      show st.1 + v.1.size ≤ s.size
      omega
    · exact pickS_len rows s i l (k + 1) st
theorem firstTo_len (rows : List (List Way)) (s : ByteArray) (c0 : Int) : ∀ i, (firstTo rows s c0 i).2.2.length ≤ i ∧ (firstTo rows s c0 i).1 ≤ s.size
  | 0 => ⟨Nat.le_refl _, Nat.zero_le _⟩
  | i + 1 => by
    have h1 := firstTo_len rows s c0 i
    have h2 := pickS_len rows s i (rows.getD i []) 0 (firstTo rows s c0 i)
    exact ⟨by show (pickS rows s i (rows.getD i []) 0 (firstTo rows s c0 i)).2.2.length ≤ i + 1; omega, h2.2 h1.2⟩
def choiceP (m : Met) (s : ByteArray) : List Int := (firstTo (optsP m) s (restR (optsP m) s.data.toList).1 (optsP m).length).2.2
def RefFirstOk (m : Met) (s : ByteArray) (w : World) (e : Ending) (w' : World) : Prop := Below w.heap.size w w' ∧
  if (refLeastP m s).2 = 0 then e = .returned (.tuple #[.agg #[.string ⟨#[]⟩, .int .i64 0, .slice none 0 0], .bool false])
  else ∃ A c, e = .returned (.tuple #[.agg #[.string s, .int .i64 (refLeastP m s).1, .slice A (choiceP m s).length c], .bool true]) ∧ (choiceP m s).length ≤ c ∧ IsInts w' w'.heap.size A (choiceP m s)
theorem three_cells {wr : World} {P : Nat} {x0 x1 x2 : Value} (hx : wr.heap[P]? = some (.cells #[x0, x1, x2] 52 (0, 0))) (v0 v1 v2 : Value) :
    (((wr.setCell ⟨P, 0, none⟩ v0).setCell ⟨P, 1, none⟩ v1).setCell ⟨P, 2, none⟩ v2).heap[P]? = some (.cells #[v0, v1, v2] 52 (0, 0)) :=
  heap_setCell_same _ P 2 _ 52 v2 (heap_setCell_same _ P 1 _ 52 v1 (heap_setCell_same wr P 0 _ 52 v0 hx))
theorem three_below {w wr : World} {B P : Nat} (hb : Below B w wr) (hP : B ≤ P) (v0 v1 v2 : Value) : Below B w (((wr.setCell ⟨P, 0, none⟩ v0).setCell ⟨P, 1, none⟩ v1).setCell ⟨P, 2, none⟩ v2) :=
  ((hb.setCell (p := ⟨P, 0, none⟩) hP v0).setCell (p := ⟨P, 1, none⟩) hP v1).setCell (p := ⟨P, 2, none⟩) hP v2
theorem reffirst_end {W : World} {T : Array Value} {Q : Ending → World → Prop} {P : Nat} {v0 v1 v2 b : Value} (h4 : T.getD 4 undef = .pointer (some ⟨P, 0, none⟩)) (h5 : T.getD 5 undef = b)
    (r : W.heap[P]? = some (.cells #[v0, v1, v2] 52 (0, 0))) (hQ : Q (.returned (.tuple #[.agg #[v0, v1, v2], b])) W) : bodyPost Tryd.prog Tryd.f25 Q Exit.ret { tmps := T, defers := [] } W := by
  have d0 : W.cell? ⟨P, 0, none⟩ = some v0 := cell_of_row _ _ _ _ 52 (0, 0) r
  have d1 : W.cell? ⟨P, 1, none⟩ = some v1 := cell_of_row _ _ _ _ 52 (0, 0) r
  have d2 : W.cell? ⟨P, 2, none⟩ = some v2 := cell_of_row _ _ _ _ 52 (0, 0) r
  have h4' : T[4]?.getD undef = .pointer (some ⟨P, 0, none⟩) := by simpa using h4
  have h5' : T[5]?.getD undef = b := by simpa using h5
  refine bodyPost_ret (v := .tuple #[.agg #[v0, v1, v2], b]) ?_ rfl hQ
  simp [results, Tryd.f25, go_sem, h4', h5', d0, d1, d2, Tryd.isAgg52, Tryd.sizeOf52]
set_option maxRecDepth 100000 in
set_option maxHeartbeats 4000000 in
theorem reffirst_any (Af Ae Ab : Option Addr) (cf ce cb : Nat) (m : Met) (s : ByteArray) (w : World) (h : IsMet w w.heap.size Af Ae Ab cf ce cb m) (hm : mayB m = true) (hs : s.size ≤ 9223372036854775807) :
    Calls Tryd.prog 25 #[.agg #[.slice Af m.feet.length cf, .slice Ae m.ends.length ce, .slice Ab m.brks.length cb], .string s] w (RefFirstOk m s w) := by
  generalize hW1 : (w.alloc (.cells #[.slice Af m.feet.length cf, .slice Ae m.ends.length ce, .slice Ab m.brks.length cb] 27)).alloc (.cells #[.string ⟨#[]⟩, .int .i64 0, .slice none 0 0] 52) = W1
  have hB1 : Below w.heap.size w W1 := by rw [← hW1]; exact ((Below.refl _ _).alloc (Nat.le_refl _) _).alloc (by simp) _
  have sW1 : W1.heap.size = w.heap.size + 2 := by rw [← hW1]; simp
  have m0 : W1.cell? ⟨w.heap.size, 0, none⟩ = some (.slice Af m.feet.length cf) := by rw [← hW1]; simp
  have m1 : W1.cell? ⟨w.heap.size, 1, none⟩ = some (.slice Ae m.ends.length ce) := by rw [← hW1]; simp
  have m2 : W1.cell? ⟨w.heap.size, 2, none⟩ = some (.slice Ab m.brks.length cb) := by rw [← hW1]; simp
  have rb : W1.heap[w.heap.size + 1]? = some (.cells #[.string ⟨#[]⟩, .int .i64 0, .slice none 0 0] 52 (0, 0)) := by
    rw [← hW1]
    have := World.alloc_heap_new (w.alloc (.cells #[.slice Af m.feet.length cf, .slice Ae m.ends.length ce, .slice Ab m.brks.length cb] 27)) (.cells #[.string ⟨#[]⟩, .int .i64 0, .slice none 0 0] 52)
    rw [World.size_alloc] at this
    exact this
  have HM := Lib.hid (h.on hB1)
  have HW1 := Lib.hid hW1
  have HB1 := Lib.hid hB1
  have Hm := Lib.hid hm
  have Hrb := Lib.hid rb
  have Hkeep := Lib.hid fun (W2 : World) (hb2 : Below W1.heap.size W1 W2) => And.intro ((hb2.cell (p := ⟨w.heap.size, 0, none⟩) (by show w.heap.size < W1.heap.size; omega)).trans m0) (And.intro ((hb2.cell (p := ⟨w.heap.size, 1, none⟩) (by show w.heap.size < W1.heap.size; omega)).trans m1) (And.intro ((hb2.cell (p := ⟨w.heap.size, 2, none⟩) (by show w.heap.size < W1.heap.size; omega)).trans m2) ((hb2.block (w.heap.size + 1) (by omega)).trans rb)))
  have Hrl := Lib.hid (refleast_any Af Ae Ab cf ce cb m s W1 HM.out hm hs)
  have Hpost : Hid (∀ e w', RefFirstOk m s w e w' = (Below w.heap.size w w' ∧ if (refLeastP m s).2 = 0 then e = .returned (.tuple #[.agg #[.string ⟨#[]⟩, .int .i64 0, .slice none 0 0], .bool false]) else ∃ A c, e = .returned (.tuple #[.agg #[.string s, .int .i64 (refLeastP m s).1, .slice A (choiceP m s).length c], .bool true]) ∧ (choiceP m s).length ≤ c ∧ IsInts w' w'.heap.size A (choiceP m s))) := Lib.hid (fun _ _ => rfl)
  have Hrp : Hid (refLeastP m s = if 66 < s.size then (0, 0) else restR (optsP m) s.data.toList) := Lib.hid rfl
  clear h hW1 hB1 hm rb
  go_enter Tryd.func25, Tryd.ntmps25
  go_wp2_with fail
  rw [HW1.out]
  go_wp2_with fail
  refine Hrl.out.mono ?_
  rintro e w2 ⟨rfl, hb2⟩
  obtain ⟨q0, q1, q2, r2⟩ := Hkeep.out _ hb2
  have HM2 := Lib.hid (HM.out.on hb2)
  have Hb2 := Lib.hid hb2
  generalize refLeastP m s = C at *
  obtain ⟨c1, c2⟩ := C
  simp only []
  cases hz : (c2 == 0) with
  | true =>
    have Hz : Hid (c2 = 0) := Lib.hid (by simpa using hz)
    have t0 : w2.cell? ⟨w.heap.size + 1, 0, none⟩ = some (.string ⟨#[]⟩) := cell_of_row _ _ _ _ 52 (0, 0) r2
    have t1 : w2.cell? ⟨w.heap.size + 1, 1, none⟩ = some (.int .i64 0) := cell_of_row _ _ _ _ 52 (0, 0) r2
    have t2 : w2.cell? ⟨w.heap.size + 1, 2, none⟩ = some (.slice none 0 0) := cell_of_row _ _ _ _ 52 (0, 0) r2
    have z0 := frozen_of_row w2 (w.heap.size + 1) 0 _ 52 r2
    have z1 := frozen_of_row w2 (w.heap.size + 1) 1 _ 52 r2
    have z2 := frozen_of_row w2 (w.heap.size + 1) 2 _ 52 r2
    have hr3 := three_cells r2 (.string ⟨#[]⟩) (.int .i64 0) (.slice none 0 0)
    have hbe := three_below (HB1.out.trans (hb2.mono (by omega))) (show w.heap.size ≤ w.heap.size + 1 by omega) (.string ⟨#[]⟩) (.int .i64 0) (.slice none 0 0)
    have Hr3 := Lib.hid hr3
    have Hbe := Lib.hid hbe
    clear hb2 r2 hr3 hbe
    go_wp2_with fail
    refine reffirst_end rfl rfl Hr3.out ?_
    rw [Hpost.out]
    exact ⟨Hbe.out, by rw [if_pos Hz.out]; rfl⟩
  | false =>
    have Hz : Hid (¬ c2 = 0) := Lib.hid (by simpa using hz)
    clear hb2 r2
    have hch := choices_any Af Ae Ab cf ce cb m w2 HM2.out (small_of Hm.out)
    have Hch := Lib.hid hch
    clear hch
    go_wp2_with fail
    refine Hch.out.mono ?_
    rintro e w3 ⟨v, vs, rfl, hor, hb3⟩
    obtain ⟨A3, c3, rfl, hc3, hrw⟩ := hor.isRows
    obtain ⟨ho1, ho2⟩ := opts_small Hm.out
    have hs66 : s.size ≤ 66 := by
      by_cases h66 : 66 < s.size
      · have := Hrp.out; rw [if_pos h66] at this; simp only [Prod.mk.injEq] at this; exact absurd this.2 Hz.out
      · omega
    have Hc12 : Hid (restR (optsP m) s.data.toList = (c1, c2)) := Lib.hid (by have := Hrp.out; rw [if_neg (by omega)] at this; exact this.symm)
    have hre := states_any A3 c3 (optsP m) s w3 hrw hc3 (by rw [optsP_len]; omega) ho1 hs66 ho2 (opts_signs Hm.out)
    have Hre := Lib.hid hre
    have Hb3 := Lib.hid (Hb2.out.trans (hb3.mono Hb2.out.size))
    have Hrw := Lib.hid hrw
    have Hsg := Lib.hid (opts_signs Hm.out)
    have Ho2 := Lib.hid ho2
    have Hrt := Lib.hid (show restT (optsP m) s 0 0 = restR (optsP m) s.data.toList from rfl)
    have Hcp : Hid (choiceP m s = (firstTo (optsP m) s c1 (optsP m).length).2.2) := Lib.hid (by unfold choiceP; rw [Hc12.out])
    have Hnl : Hid (0 < (optsP m).length) := Lib.hid (by rw [optsP_len]; omega)
    generalize hrows : optsP m = rows at *
    have Hbm := Lib.hid hb3.size
    clear hor hrw ho2 hre hb3 hrows
    go_wp2_with fail
    refine Hre.out.mono ?_
    rintro e w4 ⟨rfl, hmem, hb4⟩
    have o1 := hmem.oc 0 (by omega)
    have o2 := hmem.t1 0 0 (by omega) (by omega)
    simp only [Nat.add_zero, Nat.zero_mul] at o1 o2
    rw [Hrt.out, Hc12.out] at o2
    have Hmem := Lib.hid hmem
    have Hb4 := Lib.hid (Hb3.out.trans (hb4.mono Hb3.out.size))
    have Hrw4 := Lib.hid (Hrw.out.below hb4)
    have hw34 := hb4.size
    have hmsz := hmem.sz
    simp only [] at o2
    clear hmem hb4
    go_wp2_with fail
    go_quiet (fail)
    go_wp2_with fail
    generalize hW5 : (w4.alloc (.cells #[.string s, .int .i64 c1, .slice none 0 0] 52)).drewN nq = W5
    have hb5 : Below w4.heap.size w4 W5 := by rw [← hW5]; exact belowD ((Below.refl _ w4).alloc (Nat.le_refl _) _) nq
    have hpb : PB W5 w4.heap.size s c1 (.slice none 0 0) (firstTo rows s c1 0).2.2 := by
      refine ⟨?_, World.ownsRow_nil _ _ _ _⟩
      rw [← hW5]; exact World.alloc_heap_new w4 _
    have Hb5 := Lib.hid hb5
    have Hpb := Lib.hid hpb
    have HW5 := Lib.hid hW5
    have Hb34 : Hid (w3.heap.size ≤ w4.heap.size) := Lib.hid hw34
    clear hb5 hpb o1 o2 hW5
    go_loopw [11, 12, 43] (fun at' left i wr => ∃ (k : Nat) (st : St) (vch : Value), k ≤ rows.length ∧ i = .int .i64 k ∧ at' = .int .i64 st.1 ∧ left = .int .i64 st.2.1 ∧ Hid (st = firstTo rows s c1 k) ∧ Hid (PB wr w4.heap.size s c1 vch st.2.2) ∧ Hid (Below w4.heap.size w4 wr)) (fun _ _ i _ => rows.length - (intOf i).toNat)
    case atStart => exact ⟨0, (0, c1, []), _, Nat.zero_le _, rfl, rfl, rfl, Lib.hid rfl, Hpb, Hb5⟩
    case round =>
      obtain ⟨k, st, vch, hk, rfl, rfl, rfl, hst, hpb, hbb⟩ := hrel
      clear Hpb Hb5
      by_cases hlt : k < rows.length
      · obtain ⟨bR, oR, rfl, hbR, hcR⟩ := Hrw4.out (by omega)
        obtain ⟨A', c', q1, q2, q3⟩ := hcR k hlt
        have hmemr : rows.getD k [] ∈ rows := by rw [List.getD_eq_getElem?_getD, List.getElem?_eq_getElem hlt]; exact List.getElem_mem _
        have i5 : (0 : Int) ≤ (k : Int) := by omega
        have i6 : (k : Int) < (rows.length : Int) := by omega
        have hb34 := Hb34.out
        have g0 := (hbb.out.cell (p := ⟨bR, oR + k, none⟩) (by show bR < w4.heap.size; omega)).trans q1
        have hll := (Ho2.out _ hmemr).1
        have Hvc := Lib.hid (Ho2.out _ hmemr).2
        have Hvz := Lib.hid (Hsg.out _ hmemr)
        have Hq3 := Lib.hid q3
        have hlen := firstTo_len rows s c1 k
        rw [← hst.out] at hlen
        have Hfs : Hid (firstTo rows s c1 (k + 1) = pickS rows s k (rows.getD k []) 0 st) := Lib.hid (by rw [hst.out]; rfl)
        generalize rows.getD k [] = row at *
        obtain ⟨sa, sl, sc⟩ := st
        simp only [] at hlen
        obtain ⟨hlen1, hlen2⟩ := hlen
        have hfs0 : Hid (firstTo rows s c1 (k + 1) = pickS rows s k (row.drop 0) 0 (sa, sl, sc)) := Hfs
        obtain ⟨wk, hwk⟩ : ∃ wk : World, wk = wr := ⟨_, rfl⟩
        subst hwk
        have hbsz := hbb.out.size
        have Hhb0 := Lib.hid (Below.refl wk.heap.size wk)
        clear q1 q3 hmemr Hfs
        go_wp2_with fail
        go_loopw [11, 12, 51] (fun at' left i wr => ∃ q : Nat, q ≤ row.length ∧ i = .int .i64 q ∧ at' = .int .i64 sa ∧ left = .int .i64 sl ∧ Hid (firstTo rows s c1 (k + 1) = pickS rows s k (row.drop q) q (sa, sl, sc)) ∧ Hid (Below wk.heap.size wk wr)) (fun _ _ i _ => row.length - (intOf i).toNat)
        case atStart => exact ⟨0, Nat.zero_le _, rfl, rfl, rfl, hfs0, Hhb0⟩
        case round =>
          obtain ⟨q, hq, rfl, rfl, rfl, hfq, hbq⟩ := hrel
          clear hfs0 Hhb0
          by_cases hlq : q < row.length
          · obtain ⟨bw, ow, rfl, hbw, hcw⟩ := Hq3.out (by omega)
            have hbq0 := hbb.out.trans (hbq.out.mono hbsz)
            have g1 := (hbq0.cell (p := ⟨bw, ow + q * 2, none⟩) (by show bw < w4.heap.size; omega)).trans (hcw q hlq).1
            have g2 := (hbq0.cell (p := ⟨bw, ow + q * 2 + 1, none⟩) (by show bw < w4.heap.size; omega)).trans (hcw q hlq).2
            have hmem : row.getD q default ∈ row := by rw [List.getD_eq_getElem?_getD, List.getElem?_eq_getElem hlq]; exact List.getElem_mem hlq
            have hvc := Hvc.out _ hmem
            have hvz := Hvz.out _ hmem
            have hps := hfq.out
            rw [pickS_step rows s k row q _ hlq] at hps
            generalize row.getD q default = v at *
            obtain ⟨vs, vc⟩ := v
            simp only [] at g1 g2 hvc hvz hps
            have Hps := Lib.hid hps
            have hszr := hbq0.size
            generalize hW5 : wr.alloc (.cells #[.string vs, .int .i64 vc] 100) = W5
            have sW5 : W5.heap.size = wr.heap.size + 1 := by rw [← hW5]; simp
            have hb5 : Below wr.heap.size wr W5 := by rw [← hW5]; exact (Below.refl _ _).alloc (Nat.le_refl _) _
            have v1 : W5.cell? ⟨wr.heap.size, 0, none⟩ = some (.string vs) := by rw [← hW5]; simp
            have v2 : W5.cell? ⟨wr.heap.size, 1, none⟩ = some (.int .i64 vc) := by rw [← hW5]; simp
            have HBQ := Lib.hid (hbq.out.trans (hb5.mono hbq.out.size))
            have HT5 := Lib.hid (Hmem.out.below ((hbb.out.trans (HBQ.out.mono hbsz)).mono hmsz))
            have HP5 := Lib.hid (hpb.out.below HBQ.out)
            have HW5 := Lib.hid hW5
            clear hmem hcw hps hbq0 hW5 hb5 hfq
            have hmiss : ∀ W', nextB rows s k (sa, sl, sc) (vs, vc) = false → Below wk.heap.size wk W' → Hid (firstTo rows s c1 (k + 1) = pickS rows s k (row.drop (q + 1)) (q + 1) (sa, sl, sc)) ∧ Hid (Below wk.heap.size wk W') :=
              fun W' hn hb => ⟨Lib.hid (by rw [Hps.out, hn]; rfl), Lib.hid hb⟩
            have Hmiss := Lib.hid hmiss
            have Hnx : Hid (nextB rows s k (sa, sl, sc) (vs, vc) = (Lib.hasPrefix (s.data.toList.drop sa) vs.data.toList && (decide (0 < (restT rows s (k + 1) (sa + vs.size)).2) && decide ((restT rows s (k + 1) (sa + vs.size)).1 + vc = sl)))) := Lib.hid rfl
            clear hmiss
            by_cases hbig : s.size < sa + vs.size
            · have hd' : ¬ (sa : Int) + (vs.size : Int) ≤ (s.size : Int) := by omega
              have hd : decide ((sa : Int) + (vs.size : Int) ≤ (s.size : Int)) = false := decide_eq_false hd'
              have hnn : nextB rows s k (sa, sl, sc) (vs, vc) = false := by
                cases hpp : Lib.hasPrefix (s.data.toList.drop sa) vs.data.toList with
                | false => rw [Hnx.out, hpp]; rfl
                | true =>
                  have := hasPrefix_len hpp
                  simp only [List.length_drop, Array.length_toList, ByteArray.size_data] at this
                  omega
              obtain ⟨hM1, hM2⟩ := Hmiss.out W5 hnn HBQ.out
              go_wp2_with fail
              rw [HW5.out]
              go_quiet (fail)
              go_wp2_with fail
              go_roundw
              case rel => exact ⟨q + 1, by omega, by go_num, rfl, rfl, hM1, Lib.hid (belowD hM2.out _)⟩
              case measure => simp [intOf]; omega
            · have hd' : (sa : Int) + (vs.size : Int) ≤ (s.size : Int) := by omega
              have hd : decide ((sa : Int) + (vs.size : Int) ≤ (s.size : Int)) = true := decide_eq_true hd'
              have hd3 : (0 : Int) ≤ (sa : Int) + (vs.size : Int) := by omega
              have hd4 : (sa : Int) ≤ (sa : Int) + (vs.size : Int) := by omega
              have htn : ((sa : Int) + (vs.size : Int)).toNat = sa + vs.size := by omega
              have Hhp := Lib.hid (has_ext s sa vs (by omega))
              cases hne : ((s.extract sa (sa + vs.size)).toList == vs.toList) with
              | false =>
                obtain ⟨hM1, hM2⟩ := Hmiss.out W5 (by rw [Hnx.out, Hhp.out, hne]; rfl) HBQ.out
                go_wp2_with fail
                rw [HW5.out]
                go_quiet (fail)
                go_wp2_with fail
                go_roundw
                case rel => exact ⟨q + 1, by omega, by go_num, rfl, rfl, hM1, Lib.hid (belowD hM2.out _)⟩
                case measure => simp [intOf]; omega
              | true =>
                have f3 := HT5.out.oc (k + 1) (by omega)
                have hr1 := HT5.out.t1 (k + 1) (sa + vs.size) (by omega) (by omega)
                have hr2 := HT5.out.t2 (k + 1) (sa + vs.size) (by omega) (by omega)
                have hcs := rest_cost (rows := rows) (s := s) (fun l hl' => (Ho2.out l hl').2) (k + 1) (sa + vs.size) (by omega) (by omega)
                have Hnx2 : Hid (nextB rows s k (sa, sl, sc) (vs, vc) = (decide (0 < (restT rows s (k + 1) (sa + vs.size)).2) && decide ((restT rows s (k + 1) (sa + vs.size)).1 + vc = sl))) := Lib.hid (by rw [Hnx.out, Hhp.out, hne]; rfl)
                clear Hnx
                generalize restT rows s (k + 1) (sa + vs.size) = rc at *
                obtain ⟨r1, r2⟩ := rc
                simp only [] at hr1 hr2 hcs Hnx2
                have hr17 : r1 ≤ 17 * 1048576 := by have := hcs.2; omega
                have hr0 := hcs.1
                have k7 : (sa : Int) + (vs.size : Int) < (s.size : Int) + 1 := by omega
                have i8 : (k : Int) + 1 < (rows.length : Int) + 1 := by omega
                by_cases h0 : 0 < r2
                · have h0' : decide (0 < r2) = true := decide_eq_true h0
                  cases heq : (r1 + vc == sl) with
                  | false =>
                    have heq' : decide (r1 + vc = sl) = false := decide_eq_false (by simpa using heq)
                    obtain ⟨hM1, hM2⟩ := Hmiss.out W5 (by rw [Hnx2.out, h0', heq']; rfl) HBQ.out
                    go_wp2_with fail
                    rw [HW5.out]
                    go_quiet (fail)
                    go_wp2_with fail
                    go_roundw
                    case rel => exact ⟨q + 1, by omega, by go_num, rfl, rfl, hM1, Lib.hid (belowD hM2.out _)⟩
                    case measure => simp [intOf]; omega
                  | true =>
                    have heq0 : r1 + vc = sl := by simpa using heq
                    have heq' : decide (r1 + vc = sl) = true := decide_eq_true heq0
                    have Hhit := Lib.hid (show firstTo rows s c1 (k + 1) = (sa + vs.size, r1, sc ++ [(q : Int)]) by rw [Hps.out, Hnx2.out, h0', heq']; rfl)
                    go_wp2_with fail
                    rw [HW5.out]
                    go_quiet (fail)
                    have hpx := HP5.out.box
                    have c2p : (W5.drewN nq).cell? ⟨w4.heap.size, 2, none⟩ = some vch := cell_of_row _ _ _ _ 52 (0, 0) hpx
                    have HP6 : Hid (PB (W5.drewN nq) w4.heap.size s c1 vch sc) := Lib.hid (HP5.out.below (belowD (Below.refl _ W5) nq))
                    have HB6 : Hid (Below wk.heap.size wk (W5.drewN nq)) := Lib.hid (belowD HBQ.out nq)
                    have v2' : (W5.drewN nq).cell? ⟨wr.heap.size, 1, none⟩ = some (.int .i64 vc) := v2
                    have sW6 : (W5.drewN nq).heap.size = wr.heap.size + 1 := sW5
                    have hPk : w4.heap.size < wk.heap.size := (Array.getElem?_eq_some_iff.1 hpb.out.box).1
                    have hkr : wk.heap.size ≤ wr.heap.size := hbq.out.size
                    have sW5' : (W5.drewN nq).heap.size = wr.heap.size + 1 := sW5
                    have hown1 : some wr.heap.size ≠ vch.ownBlock := fun e => by have := (hpb.out.row.lt _ e.symm).2; omega
                    have hown2 : some w4.heap.size ≠ vch.ownBlock := by
                      rcases own_neb hpb.out.row hpb.out.box (by decide) with e | e
                      · rw [e]; exact fun q => by cases q
                      · exact fun q => e q.symm
                    have Hkv : Hid (∀ w7 : World, (W5.drewN nq).grownBy w7 vch.ownBlock → ∀ v', (w7.setCell ⟨w4.heap.size, 2, none⟩ v').cell? ⟨wr.heap.size, 1, none⟩ = some (.int .i64 vc) ∧ w7.cell? ⟨w4.heap.size, 2, none⟩ = some vch ∧ w7.frozen? ⟨w4.heap.size, 2, none⟩ = false) := Lib.hid (by
                      intro w7 hg v'
                      refine ⟨?_, ?_, ?_⟩
                      · rw [World.cell?_setCell_far _ _ _ _ (by show w4.heap.size ≠ wr.heap.size; omega)]
                        exact (World.cell?_of_block (a := ⟨wr.heap.size, 1, none⟩) (hg.block _ (by show wr.heap.size < (W5.drewN nq).heap.size; omega) hown1)).trans v2
                      · exact (World.cell?_of_block (a := ⟨w4.heap.size, 2, none⟩) (hg.block _ (by show w4.heap.size < (W5.drewN nq).heap.size; omega) hown2)).trans c2p
                      · exact (World.frozen?_of_block (a := ⟨w4.heap.size, 2, none⟩) (hg.block _ (by show w4.heap.size < (W5.drewN nq).heap.size; omega) hown2)).trans (frozen_of_row _ _ 2 _ 52 hpx))
                    clear hown1 hown2 sW5'
                    clear hpx v1 v2 f3 hr1 hr2 sW5 hd hd' hne
                    generalize W5.drewN nq = W6 at *
                    have HsW := Lib.hid sW6.symm
                    have Hb46 := Lib.hid (hbb.out.trans (HB6.out.mono hbsz))
                    go_wp2_with (at_builtin; go_loud (refine wpList_append_boxg _ rfl _ _ 50 rfl w4.heap.size 3 _ _ 1 8 Tryd.underlying50 info3 zero3 size3 bytes3 rfl (by decide) vch sc.length (intCells sc) #[.int .i64 q] (wr.heap.size + 1) rfl rfl HsW.out HP6.out.row rfl (by intro u hu; simp at hu; subst hu; rfl) (by unfold maxLen; omega) (by omega) (by omega) ?_; intro v1 w7 hown7 hg7 _; have hpn := HP6.out.snoc (x := (q : Int)) hown7 hg7; have hbn := (Hb46.out.grown hg7 (by omega) (fun z e => (HP6.out.row.lt z e).1)).setCell (p := ⟨w4.heap.size, 2, none⟩) (Nat.le_refl _) v1; have hv7 := Hkv.out w7 hg7 v1; obtain ⟨g7, cap7, rfl⟩ := own_form hown7 (by omega); have Hpn := Lib.hid hpn; have Hbn := Lib.hid hbn; clear hpn hbn hown7 hg7))
                    obtain ⟨hv8, _, _⟩ := hv7
                    generalize w7.setCell ⟨w4.heap.size, 2, none⟩ (.slice (some ⟨g7, 0, none⟩) (sc.length + 1) cap7) = W8 at *
                    have hsub : sl - vc = r1 := by omega
                    have hw8 : IntKind.i64.wrap r1 = r1 := IntWalk.i64_in _ (by omega)
                    go_wp2_with fail
                    go_quiet (fail)
                    go_wp2_with fail
                    go_roundw
                    case rel => exact ⟨k + 1, (sa + vs.size, r1, sc ++ [(q : Int)]), _, by omega, by go_num, rfl, rfl, Lib.hid Hhit.out.symm, Lib.hid (Hpn.out.below (belowD (Below.refl _ W8) nq)), Lib.hid (belowD Hbn.out _)⟩
                    case measure => simp [intOf]; omega
                · have h0' : decide (0 < r2) = false := decide_eq_false h0
                  obtain ⟨hM1, hM2⟩ := Hmiss.out W5 (by rw [Hnx2.out, h0']; rfl) HBQ.out
                  go_wp2_with fail
                  rw [HW5.out]
                  go_quiet (fail)
                  go_wp2_with fail
                  go_roundw
                  case rel => exact ⟨q + 1, by omega, by go_num, rfl, rfl, hM1, Lib.hid (belowD hM2.out _)⟩
                  case measure => simp [intOf]; omega
          · obtain rfl : q = row.length := by omega
            have hfe := hfq.out
            rw [pickS_end] at hfe
            have Hfe := Lib.hid hfe
            have Hpe := Lib.hid (hpb.out.below hbq.out)
            have Hbe := Lib.hid (hbb.out.trans (hbq.out.mono hbsz))
            clear hfq hbq hfe
            go_wp2_with fail
            go_roundw
            case rel => exact ⟨k + 1, (sa, sl, sc), vch, by omega, by go_num, rfl, rfl, Lib.hid Hfe.out.symm, Hpe, Hbe⟩
            case measure => simp [intOf]; omega
      · obtain rfl : k = rows.length := by omega
        obtain ⟨A, c, rfl, hcA, hin⟩ := row_ints hpb.out.row
        have hbx := hpb.out.box
        have x0 : wr.cell? ⟨w4.heap.size, 0, none⟩ = some (.string s) := cell_of_row _ _ _ _ 52 (0, 0) hbx
        have x1 : wr.cell? ⟨w4.heap.size, 1, none⟩ = some (.int .i64 c1) := cell_of_row _ _ _ _ 52 (0, 0) hbx
        have x2 : wr.cell? ⟨w4.heap.size, 2, none⟩ = some (.slice A st.2.2.length c) := cell_of_row _ _ _ _ 52 (0, 0) hbx
        have hb14 : Below W1.heap.size W1 wr := Hb4.out.trans (hbb.out.mono Hb4.out.size)
        obtain ⟨_, _, _, r9⟩ := Hkeep.out _ hb14
        have t0 : wr.cell? ⟨w.heap.size + 1, 0, none⟩ = some (.string ⟨#[]⟩) := cell_of_row _ _ _ _ 52 (0, 0) r9
        have t1 : wr.cell? ⟨w.heap.size + 1, 1, none⟩ = some (.int .i64 0) := cell_of_row _ _ _ _ 52 (0, 0) r9
        have t2 : wr.cell? ⟨w.heap.size + 1, 2, none⟩ = some (.slice none 0 0) := cell_of_row _ _ _ _ 52 (0, 0) r9
        have z0 := frozen_of_row wr (w.heap.size + 1) 0 _ 52 r9
        have z1 := frozen_of_row wr (w.heap.size + 1) 1 _ 52 r9
        have z2 := frozen_of_row wr (w.heap.size + 1) 2 _ 52 r9
        have hW4s := Hb4.out.size
        have Hr3 := Lib.hid (three_cells r9 (.string s) (.int .i64 c1) (.slice A st.2.2.length c))
        have Hbe := Lib.hid (three_below (HB1.out.trans (hb14.mono (by omega))) (show w.heap.size ≤ w.heap.size + 1 by omega) (.string s) (.int .i64 c1) (.slice A st.2.2.length c))
        have hrow := row_far (o := 2) (x := .slice A st.2.2.length c) (row_far (o := 1) (x := .int .i64 c1) (row_far (k := w.heap.size + 1) (o := 0) (x := .string s) hpb.out.row (by omega)) (show w.heap.size + 1 < _ by omega)) (show w.heap.size + 1 < _ by omega)
        obtain ⟨A1, c9, e9, hc9, hin9⟩ := row_ints hrow
        cases e9
        have Hin := Lib.hid hin9
        clear hrow hin9 hin hb14 r9
        go_wp2_with fail
        refine reffirst_end rfl rfl Hr3.out ?_
        rw [Hpost.out]
        refine ⟨Hbe.out, ?_⟩
        rw [if_neg Hz.out, Hcp.out, ← hst.out]
        exact ⟨A, c, rfl, hcA, Hin.out⟩
end Go.Proofs.YtkfkkoefpfmjkaaDoor

import Derived.Test.YtkfkkoefpfmjkaaDoorSB
import Derived.Test.YtkfkkoefpfmjkaaDoorVG
namespace Go.Proofs.YtkfkkoefpfmjkaaDoor
set_option linter.unusedVariables false
set_option linter.unusedSimpArgs false
open Go.RowKit

/- How many choices; how many signs. -/
def timesP (a b : Int) : Int := if 4611686018427387904 / b < a then 4611686018427387904 else a * b
theorem timesP_bd {a b : Int} (h1 : 1 ≤ a) (h2 : a ≤ 4611686018427387904) (hb : 1 ≤ b) : 1 ≤ timesP a b ∧ timesP a b ≤ 4611686018427387904 := by
  unfold timesP
  by_cases hq : 4611686018427387904 / b < a
  · rw [if_pos hq]; omega
  · rw [if_neg hq]
    have h3 : a ≤ 4611686018427387904 / b := by omega
    have h4 : a * b ≤ 4611686018427387904 := Int.le_trans (Int.mul_le_mul_of_nonneg_right h3 (by omega)) (Int.ediv_mul_le _ (by omega))
    have h5 : 1 * 1 ≤ a * b := Int.mul_le_mul h1 hb (by omega) (by omega)
    omega
theorem timesP_many {b : Int} (hb : 1 ≤ b) : timesP 4611686018427387904 b = 4611686018427387904 := by
  unfold timesP
  by_cases hq : (4611686018427387904 : Int) / b < 4611686018427387904
  · rw [if_pos hq]
  · rw [if_neg hq]
    have h3 : (4611686018427387904 : Int) ≤ 4611686018427387904 / b := by omega
    have h4 : 4611686018427387904 * b ≤ (4611686018427387904 : Int) := Int.le_trans (Int.mul_le_mul_of_nonneg_right h3 (by omega)) (Int.ediv_mul_le _ (by omega))
    have : b = 1 := by omega
    subst this; rfl
def countTo (rows : List (List Way)) (k : Nat) : Int := (rows.take k).foldl (fun n l => timesP n l.length) 1
theorem countTo_succ (rows : List (List Way)) (k : Nat) (h : k < rows.length) : countTo rows (k + 1) = timesP (countTo rows k) ((rows.getD k []).length : Int) := foldl_snoc _ _ rows k h
structure RowsOk (rows : List (List Way)) : Prop where
  len : rows.length ≤ 17
  pos : ∀ l ∈ rows, 0 < l.length
  few : ∀ l ∈ rows, l.length ≤ 16
  four : ∀ l ∈ rows, ∀ v ∈ l, v.1.size ≤ 4
theorem mem_at {rows : List (List Way)} {k : Nat} (h : k < rows.length) : rows.getD k [] ∈ rows := by
  rw [List.getD_eq_getElem?_getD, List.getElem?_eq_getElem h]; exact List.getElem_mem h
theorem countTo_bd {rows : List (List Way)} (h : RowsOk rows) : ∀ k, k ≤ rows.length → 1 ≤ countTo rows k ∧ countTo rows k ≤ 4611686018427387904
  | 0, _ => by unfold countTo; simp
  | k + 1, hk => by
    have ih := countTo_bd h k (by omega)
    rw [countTo_succ rows k (by omega)]
    exact timesP_bd ih.1 ih.2 (by have := h.pos _ (mem_at (show k < rows.length by omega)); omega)
theorem countTo_many {rows : List (List Way)} (h : RowsOk rows) (k : Nat) (hk : k ≤ rows.length) (hm : countTo rows k = 4611686018427387904) : ∀ d, k + d ≤ rows.length → countTo rows (k + d) = 4611686018427387904
  | 0, _ => hm
  | d + 1, hd => by
    rw [← Nat.add_assoc, countTo_succ rows (k + d) (by omega), countTo_many h k hk hm d (by omega)]
    exact timesP_many (by have := h.pos _ (mem_at (show k + d < rows.length by omega)); omega)
def countP (m : Met) : Int := countTo (optsP m) (optsP m).length
theorem signsB_size {s : ByteArray} {lo hi : Int} (h : signsB s lo hi = true) : (s.size : Int) ≤ hi := by
  unfold signsB at h; simp only [Bool.and_eq_true, decide_eq_true_eq] at h; exact h.2.2
theorem opts_ok {m : Met} (h : mayB m = true) : RowsOk (optsP m) := by
  obtain ⟨h1, h2⟩ := opts_small h
  refine ⟨h1, fun l hl => ?_, fun l hl => (h2 l hl).1, fun l hl => ?_⟩
  · unfold optsP at hl
    rw [List.mem_append] at hl
    rcases hl with hl | hl
    · obtain ⟨f, _, rfl⟩ := List.mem_map.1 hl; simp
    · have hl' : l = (⟨#[]⟩, 0) :: m.ends := by simpa using hl
      subst hl'; simp
  · have hf := own_four h
    unfold mayB at h
    simp only [Bool.and_eq_true, decide_eq_true_eq] at h
    obtain ⟨⟨⟨⟨_, _⟩, h3⟩, h4⟩, _⟩ := h
    unfold optsP at hl
    rw [List.mem_append] at hl
    rcases hl with hl | hl
    · obtain ⟨f, hfm, rfl⟩ := List.mem_map.1 hl
      have h5 := List.all_eq_true.1 h4 f hfm
      unfold footMay waysB at h5
      simp only [Bool.and_eq_true, decide_eq_true_eq] at h5
      intro v hv
      rcases List.mem_cons.1 hv with rfl | hv
      · exact hf f hfm
      · have := signsB_size (waysFrom_all h5.2.2 v hv).2.2; omega
    · have hl' : l = (⟨#[]⟩, 0) :: m.ends := by simpa using hl
      subst hl'
      unfold waysB at h3
      simp only [Bool.and_eq_true, decide_eq_true_eq] at h3
      intro v hv
      rcases List.mem_cons.1 hv with rfl | hv
      · show (0 : Nat) ≤ 4; omega
      · have := signsB_size (waysFrom_all h3.2 v hv).2.2; omega
def sumM (f : List Way → Nat) (rows : List (List Way)) (k : Nat) : Int := ((rows.take k).map fun l => (f l : Int)).sum
theorem sumM_zero (f : List Way → Nat) (rows : List (List Way)) : sumM f rows 0 = 0 := rfl
theorem sumM_succ (f : List Way → Nat) (rows : List (List Way)) (k : Nat) (h : k < rows.length) : sumM f rows (k + 1) = sumM f rows k + (f (rows.getD k []) : Int) := by
  unfold sumM
  have e : rows.take (k + 1) = rows.take k ++ [rows.getD k []] := take_snoc' rows k h
  rw [e, List.map_append, List.sum_append]; simp
theorem sumM_bd {f : List Way → Nat} {rows : List (List Way)} (h : ∀ l ∈ rows, f l ≤ 4) : ∀ k, k ≤ rows.length → 0 ≤ sumM f rows k ∧ sumM f rows k ≤ 4 * k
  | 0, _ => by rw [sumM_zero]; omega
  | k + 1, hk => by
    have ih := sumM_bd h k (by omega)
    rw [sumM_succ f rows k (by omega)]
    have := h _ (mem_at (show k < rows.length by omega))
    omega
def minAll (l : List Way) : Nat := minK l l.length
def maxAll (l : List Way) : Nat := maxK l l.length
theorem min_four {rows : List (List Way)} (h : RowsOk rows) : ∀ l ∈ rows, minAll l ≤ 4 := fun l hl => minK_le l 4 (h.four l hl) (h.pos l hl) _ (Nat.le_refl _)
theorem max_four {rows : List (List Way)} (h : RowsOk rows) : ∀ l ∈ rows, maxAll l ≤ 4 := fun l hl => maxK_le l 4 (h.four l hl) (h.pos l hl) _ (Nat.le_refl _)
def leastSy (m : Met) : Int := sumM minAll (optsP m) (optsP m).length
def mostSy (m : Met) : Int := sumM maxAll (optsP m) (optsP m).length

set_option maxHeartbeats 1000000 in
theorem times_any (a b : Int) (w : World) (h1 : 1 ≤ a) (h2 : a ≤ 4611686018427387904) (hb : 1 ≤ b) (hb2 : b ≤ 100) :
    Calls Tryd.prog 70 #[.int .i64 a, .int .i64 b] w fun e w' => e = .returned (.int .i64 (timesP a b)) ∧ w = w' := by
  have hbd := timesP_bd h1 h2 hb
  by_cases hq : 4611686018427387904 / b < a
  · have Ht : Hid (timesP a b = 4611686018427387904) := Lib.hid (by unfold timesP; rw [if_pos hq])
    have h0 : (0 : Int) < b := by omega
    clear hbd
    go_enter Tryd.func70, Tryd.ntmps70
    go_wp2
    go_ret
    exact ⟨by rw [Ht.out]; rfl, rfl⟩
  · have Ht : Hid (timesP a b = a * b) := Lib.hid (by unfold timesP; rw [if_neg hq])
    rw [Ht.out] at hbd
    have h0 : (0 : Int) < b := by omega
    have hd : decide (4611686018427387904 / b < a) = false := decide_eq_false hq
    go_enter Tryd.func70, Tryd.ntmps70
    go_wp2
    go_ret
    exact ⟨by rw [Ht.out]; rfl, rfl⟩

theorem field100 (s : ByteArray) (c : Int) (w : World) : (Instr.field 100 (.agg #[.string s, .int .i64 c]) 0).run Tryd.prog w = .ok (.string s) w := by kernel_rfl

set_option maxRecDepth 100000 in
set_option maxHeartbeats 8000000 in
theorem count_off (Af Ae Ab : Option Addr) (cf ce cb : Nat) (m : Met) (w : World) (h : IsMet w w.heap.size Af Ae Ab cf ce cb m) (hm : mayB m = false) :
    Calls Tryd.prog 34 #[.agg #[.slice Af m.feet.length cf, .slice Ae m.ends.length ce, .slice Ab m.brks.length cb]] w fun e w' => e = .returned (.tuple #[.int .i64 0, .int .i64 2]) ∧ Below w.heap.size w w' := by
  generalize hW1 : w.alloc (.cells #[.slice Af m.feet.length cf, .slice Ae m.ends.length ce, .slice Ab m.brks.length cb] 27) = W1
  have sW1 : W1.heap.size = w.heap.size + 1 := by rw [← hW1]; simp
  have hB1 : Below w.heap.size w W1 := by rw [← hW1]; exact (Below.refl _ _).alloc (Nat.le_refl _) _
  have m0 : W1.cell? ⟨w.heap.size, 0, none⟩ = some (.slice Af m.feet.length cf) := by rw [← hW1]; simp
  have m1 : W1.cell? ⟨w.heap.size, 1, none⟩ = some (.slice Ae m.ends.length ce) := by rw [← hW1]; simp
  have m2 : W1.cell? ⟨w.heap.size, 2, none⟩ = some (.slice Ab m.brks.length cb) := by rw [← hW1]; simp
  have HW1 := Lib.hid hW1
  have HB1 := Lib.hid hB1
  have Hkeep := Lib.hid fun (W2 : World) (hb2 : Below W1.heap.size W1 W2) => And.intro ((hb2.cell (p := ⟨w.heap.size, 0, none⟩) (by show w.heap.size < W1.heap.size; omega)).trans m0) (And.intro ((hb2.cell (p := ⟨w.heap.size, 1, none⟩) (by show w.heap.size < W1.heap.size; omega)).trans m1) ((hb2.cell (p := ⟨w.heap.size, 2, none⟩) (by show w.heap.size < W1.heap.size; omega)).trans m2))
  have Hch := Lib.hid (check_any Af Ae Ab cf ce cb m W1 (h.on hB1))
  have Hc : Hid (checkN m = 2) := Lib.hid (by unfold checkN; rw [hm]; rfl)
  have HM := Lib.hid (h.on hB1)
  clear h hW1 hB1 hm m0 m1 m2
  go_enter Tryd.func34, Tryd.ntmps34
  go_wp2_with fail
  rw [HW1.out]
  go_wp2_with fail
  refine Hch.out.mono ?_
  rintro e w2 ⟨rfl, hb2⟩
  rw [Hc.out]
  have Hb2 := Lib.hid hb2
  clear hb2
  go_wp2_with fail
  go_ret2
  exact ⟨rfl, HB1.out.trans (Hb2.out.mono (by omega))⟩

set_option maxRecDepth 100000 in
set_option maxHeartbeats 8000000 in
theorem count_any (Af Ae Ab : Option Addr) (cf ce cb : Nat) (m : Met) (w : World) (h : IsMet w w.heap.size Af Ae Ab cf ce cb m) (hm : mayB m = true) :
    Calls Tryd.prog 34 #[.agg #[.slice Af m.feet.length cf, .slice Ae m.ends.length ce, .slice Ab m.brks.length cb]] w fun e w' => e = .returned (.tuple #[.int .i64 (countP m), .int .i64 0]) ∧ Below w.heap.size w w' := by
  generalize hW1 : w.alloc (.cells #[.slice Af m.feet.length cf, .slice Ae m.ends.length ce, .slice Ab m.brks.length cb] 27) = W1
  have sW1 : W1.heap.size = w.heap.size + 1 := by rw [← hW1]; simp
  have hB1 : Below w.heap.size w W1 := by rw [← hW1]; exact (Below.refl _ _).alloc (Nat.le_refl _) _
  have m0 : W1.cell? ⟨w.heap.size, 0, none⟩ = some (.slice Af m.feet.length cf) := by rw [← hW1]; simp
  have m1 : W1.cell? ⟨w.heap.size, 1, none⟩ = some (.slice Ae m.ends.length ce) := by rw [← hW1]; simp
  have m2 : W1.cell? ⟨w.heap.size, 2, none⟩ = some (.slice Ab m.brks.length cb) := by rw [← hW1]; simp
  have HW1 := Lib.hid hW1
  have HB1 := Lib.hid hB1
  have Hkeep := Lib.hid fun (W2 : World) (hb2 : Below W1.heap.size W1 W2) => And.intro ((hb2.cell (p := ⟨w.heap.size, 0, none⟩) (by show w.heap.size < W1.heap.size; omega)).trans m0) (And.intro ((hb2.cell (p := ⟨w.heap.size, 1, none⟩) (by show w.heap.size < W1.heap.size; omega)).trans m1) ((hb2.cell (p := ⟨w.heap.size, 2, none⟩) (by show w.heap.size < W1.heap.size; omega)).trans m2))
  have Hch := Lib.hid (check_any Af Ae Ab cf ce cb m W1 (h.on hB1))
  have Hc : Hid (checkN m = 0) := Lib.hid (by unfold checkN; rw [hm]; rfl)
  have HM := Lib.hid (h.on hB1)
  have HK := Lib.hid (opts_ok hm)
  have HSm := Lib.hid (small_of hm)
  have HP : Hid (countP m = countTo (optsP m) (optsP m).length) := Lib.hid rfl
  clear h hW1 hB1 hm m0 m1 m2
  go_enter Tryd.func34, Tryd.ntmps34
  go_wp2_with fail
  rw [HW1.out]
  go_wp2_with fail
  refine Hch.out.mono ?_
  rintro e w2 ⟨rfl, hb2⟩
  rw [Hc.out]
  obtain ⟨q0, q1, q2⟩ := Hkeep.out _ hb2
  have Hop := Lib.hid (options_any Af Ae Ab cf ce cb m w2 (HM.out.on hb2) HSm.out)
  have Hb2 := Lib.hid hb2
  clear hb2
  go_wp2_with fail
  refine Hop.out.mono ?_
  rintro e w3 ⟨v, vs, rfl, hor, hb3⟩
  obtain ⟨A3, c3, rfl, hc3, hrw⟩ := hor.isRows
  have HR := Lib.hid hrw
  have Hb3 := Lib.hid (Hb2.out.trans (hb3.mono Hb2.out.size))
  have hlen := HK.out.len
  clear hor hrw hb3 Hop q0 q1 q2
  generalize optsP m = rows at *
  go_wp2_with fail
  go_loop [5, 16] (fun n i => ∃ k : Nat, k ≤ rows.length ∧ i = .int .i64 k ∧ n = .int .i64 (countTo rows k)) (fun _ i => rows.length - (intOf i).toNat)
  case atStart => exact ⟨0, by omega, rfl, rfl⟩
  case round =>
    obtain ⟨k, hk, rfl, rfl⟩ := hrel
    have hbd := countTo_bd HK.out k hk
    by_cases hlt : k < rows.length
    · obtain ⟨b, off, rfl, hbb, hrow⟩ := HR.out (by omega)
      obtain ⟨A2, c2, hcell, hcc, hIW⟩ := hrow k hlt
      have hmem := mem_at hlt
      have hpos := HK.out.pos _ hmem
      have hfew := HK.out.few _ hmem
      have Hsu := Lib.hid (countTo_succ rows k hlt)
      have Hmany := Lib.hid fun h => countTo_many HK.out (k + 1) (by omega) h (rows.length - (k + 1)) (by omega)
      have hb2 := countTo_bd HK.out (k + 1) (by omega)
      rw [Hsu.out] at hb2
      clear hrow hIW hmem
      generalize rows.getD k [] = l at *
      generalize countTo rows k = n at *
      by_cases hq : 4611686018427387904 / (l.length : Int) < n
      · have Hend : Hid (countTo rows rows.length = 4611686018427387904) := Lib.hid (by
          have h1 : countTo rows (k + 1) = 4611686018427387904 := by rw [Hsu.out]; unfold timesP; rw [if_pos hq]
          have := Hmany.out h1
          rw [show k + 1 + (rows.length - (k + 1)) = rows.length by omega] at this
          exact this)
        clear hb2
        go_wp2_with fail
        go_ret2
        exact ⟨by rw [HP.out, Hend.out]; rfl, HB1.out.trans (Hb3.out.mono (by omega))⟩
      · have Hn : Hid (timesP n l.length = n * l.length) := Lib.hid (by unfold timesP; rw [if_neg hq])
        rw [Hn.out] at hb2
        go_wp2_with fail
        go_round
        case rel => exact ⟨k + 1, by omega, by go_num, by rw [Hsu.out, Hn.out]⟩
        case measure => simp [intOf]; omega
    · obtain rfl : k = rows.length := by omega
      go_wp2_with fail
      go_ret2
      exact ⟨by rw [HP.out]; rfl, HB1.out.trans (Hb3.out.mono (by omega))⟩

set_option maxRecDepth 100000 in
set_option maxHeartbeats 8000000 in
theorem refcount_any (Af Ae Ab : Option Addr) (cf ce cb : Nat) (m : Met) (w : World) (h : IsMet w w.heap.size Af Ae Ab cf ce cb m) (hm : mayB m = true) :
    Calls Tryd.prog 35 #[.agg #[.slice Af m.feet.length cf, .slice Ae m.ends.length ce, .slice Ab m.brks.length cb]] w fun e w' => e = .returned (.int .i64 (countP m)) ∧ Below w.heap.size w w' := by
  generalize hW1 : w.alloc (.cells #[.slice Af m.feet.length cf, .slice Ae m.ends.length ce, .slice Ab m.brks.length cb] 27) = W1
  have sW1 : W1.heap.size = w.heap.size + 1 := by rw [← hW1]; simp
  have hB1 : Below w.heap.size w W1 := by rw [← hW1]; exact (Below.refl _ _).alloc (Nat.le_refl _) _
  have m0 : W1.cell? ⟨w.heap.size, 0, none⟩ = some (.slice Af m.feet.length cf) := by rw [← hW1]; simp
  have m1 : W1.cell? ⟨w.heap.size, 1, none⟩ = some (.slice Ae m.ends.length ce) := by rw [← hW1]; simp
  have m2 : W1.cell? ⟨w.heap.size, 2, none⟩ = some (.slice Ab m.brks.length cb) := by rw [← hW1]; simp
  have HW1 := Lib.hid hW1
  have HB1 := Lib.hid hB1
  have Hkeep := Lib.hid fun (W2 : World) (hb2 : Below W1.heap.size W1 W2) => And.intro ((hb2.cell (p := ⟨w.heap.size, 0, none⟩) (by show w.heap.size < W1.heap.size; omega)).trans m0) (And.intro ((hb2.cell (p := ⟨w.heap.size, 1, none⟩) (by show w.heap.size < W1.heap.size; omega)).trans m1) ((hb2.cell (p := ⟨w.heap.size, 2, none⟩) (by show w.heap.size < W1.heap.size; omega)).trans m2))
  have HK := Lib.hid (opts_ok hm)
  have HP : Hid (countP m = countTo (optsP m) (optsP m).length) := Lib.hid rfl
  have Hop := Lib.hid (choices_any Af Ae Ab cf ce cb m W1 (h.on hB1) (small_of hm))
  clear h hW1 hB1 hm
  go_enter Tryd.func35, Tryd.ntmps35
  go_wp2_with fail
  rw [HW1.out]
  go_wp2_with fail
  refine Hop.out.mono ?_
  rintro e w3 ⟨v, vs, rfl, hor, hb3⟩
  obtain ⟨A3, c3, rfl, hc3, hrw⟩ := hor.isRows
  have HR := Lib.hid hrw
  have Hb3 := Lib.hid hb3
  have hlen := HK.out.len
  clear hor hrw hb3 Hop m0 m1 m2
  generalize optsP m = rows at *
  go_wp2_with fail
  go_loop [3, 9] (fun n i => ∃ k : Nat, k ≤ rows.length ∧ i = .int .i64 k ∧ n = .int .i64 (countTo rows k)) (fun _ i => rows.length - (intOf i).toNat)
  case atStart => exact ⟨0, by omega, rfl, rfl⟩
  case round =>
    obtain ⟨k, hk, rfl, rfl⟩ := hrel
    have hbd := countTo_bd HK.out k hk
    by_cases hlt : k < rows.length
    · obtain ⟨b, off, rfl, hbb, hrow⟩ := HR.out (by omega)
      obtain ⟨A2, c2, hcell, hcc, hIW⟩ := hrow k hlt
      have hmem := mem_at hlt
      have hpos := HK.out.pos _ hmem
      have hfew := HK.out.few _ hmem
      have Hsu := Lib.hid (countTo_succ rows k hlt)
      clear hrow hIW hmem
      generalize rows.getD k [] = l at *
      generalize countTo rows k = n at *
      have Ht := Lib.hid (times_any n l.length w3 hbd.1 hbd.2 (by omega) (by omega))
      go_wp2_with fail
      refine Ht.out.mono ?_
      rintro e wx ⟨rfl, rfl⟩
      go_wp2_with fail
      go_round
      case rel => exact ⟨k + 1, by omega, by go_num, by rw [Hsu.out]⟩
      case measure => simp [intOf]; omega
    · obtain rfl : k = rows.length := by omega
      go_wp2_with fail
      go_ret
      exact ⟨by rw [HP.out]; rfl, HB1.out.trans (Hb3.out.mono (by omega))⟩

set_option maxRecDepth 100000 in
set_option maxHeartbeats 8000000 in
theorem syllables_any (Af Ae Ab : Option Addr) (cf ce cb : Nat) (m : Met) (w : World) (h : IsMet w w.heap.size Af Ae Ab cf ce cb m) (hm : mayB m = true) :
    Calls Tryd.prog 33 #[.agg #[.slice Af m.feet.length cf, .slice Ae m.ends.length ce, .slice Ab m.brks.length cb]] w fun e w' => e = .returned (.tuple #[.int .i64 (leastSy m), .int .i64 (mostSy m), .int .i64 0]) ∧ Below w.heap.size w w' := by
  generalize hW1 : w.alloc (.cells #[.slice Af m.feet.length cf, .slice Ae m.ends.length ce, .slice Ab m.brks.length cb] 27) = W1
  have sW1 : W1.heap.size = w.heap.size + 1 := by rw [← hW1]; simp
  have hB1 : Below w.heap.size w W1 := by rw [← hW1]; exact (Below.refl _ _).alloc (Nat.le_refl _) _
  have m0 : W1.cell? ⟨w.heap.size, 0, none⟩ = some (.slice Af m.feet.length cf) := by rw [← hW1]; simp
  have m1 : W1.cell? ⟨w.heap.size, 1, none⟩ = some (.slice Ae m.ends.length ce) := by rw [← hW1]; simp
  have m2 : W1.cell? ⟨w.heap.size, 2, none⟩ = some (.slice Ab m.brks.length cb) := by rw [← hW1]; simp
  have HW1 := Lib.hid hW1
  have HB1 := Lib.hid hB1
  have Hkeep := Lib.hid fun (W2 : World) (hb2 : Below W1.heap.size W1 W2) => And.intro ((hb2.cell (p := ⟨w.heap.size, 0, none⟩) (by show w.heap.size < W1.heap.size; omega)).trans m0) (And.intro ((hb2.cell (p := ⟨w.heap.size, 1, none⟩) (by show w.heap.size < W1.heap.size; omega)).trans m1) ((hb2.cell (p := ⟨w.heap.size, 2, none⟩) (by show w.heap.size < W1.heap.size; omega)).trans m2))
  have Hch := Lib.hid (check_any Af Ae Ab cf ce cb m W1 (h.on hB1))
  have Hc : Hid (checkN m = 0) := Lib.hid (by unfold checkN; rw [hm]; rfl)
  have HM := Lib.hid (h.on hB1)
  have HK := Lib.hid (opts_ok hm)
  have HSm := Lib.hid (small_of hm)
  have HP : Hid (leastSy m = sumM minAll (optsP m) (optsP m).length ∧ mostSy m = sumM maxAll (optsP m) (optsP m).length) := Lib.hid ⟨rfl, rfl⟩
  clear h hW1 hB1 hm m0 m1 m2
  go_enter Tryd.func33, Tryd.ntmps33
  go_wp2_with fail
  rw [HW1.out]
  go_wp2_with fail
  refine Hch.out.mono ?_
  rintro e w2 ⟨rfl, hb2⟩
  rw [Hc.out]
  obtain ⟨q0, q1, q2⟩ := Hkeep.out _ hb2
  have Hop := Lib.hid (options_any Af Ae Ab cf ce cb m w2 (HM.out.on hb2) HSm.out)
  have Hb2 := Lib.hid hb2
  clear hb2
  go_wp2_with fail
  refine Hop.out.mono ?_
  rintro e w3 ⟨v, vs, rfl, hor, hb3⟩
  obtain ⟨A3, c3, rfl, hc3, hrw⟩ := hor.isRows
  have HR := Lib.hid hrw
  have Hb3 := Lib.hid (Hb2.out.trans (hb3.mono Hb2.out.size))
  have hlen := HK.out.len
  clear hor hrw hb3 Hop q0 q1 q2
  generalize optsP m = rows at *
  go_wp2_with fail
  go_loopw [7, 8, 19] (fun a n i wr => ∃ k : Nat, k ≤ rows.length ∧ i = .int .i64 k ∧ a = .int .i64 (sumM minAll rows k) ∧ n = .int .i64 (sumM maxAll rows k) ∧ Hid (Below w3.heap.size w3 wr)) (fun _ _ i _ => rows.length - (intOf i).toNat)
  case atStart => exact ⟨0, by omega, rfl, rfl, rfl, Lib.hid (Below.refl _ _)⟩
  case round =>
    rename_i wr
    obtain ⟨k, hk, rfl, rfl, rfl, hbl⟩ := hrel
    have hb1 := sumM_bd (min_four HK.out) k hk
    have hb2 := sumM_bd (max_four HK.out) k hk
    by_cases hlt : k < rows.length
    · obtain ⟨b, off, rfl, hbb, hrow⟩ := HR.out (by omega)
      obtain ⟨A2, c2, hc1, hcc, hIW⟩ := hrow k hlt
      have hmem := mem_at hlt
      have hpos := HK.out.pos _ hmem
      have hfew := HK.out.few _ hmem
      have h4 := HK.out.four _ hmem
      have hcell := (hbl.out.cell (p := ⟨b, off + k, none⟩) hbb).trans hc1
      have Hs1 := Lib.hid (sumM_succ minAll rows k hlt)
      have Hs2 := Lib.hid (sumM_succ maxAll rows k hlt)
      have hx1 := min_four HK.out _ hmem
      have hx2 := max_four HK.out _ hmem
      generalize rows.getD k [] = l at *
      have Hmin := Lib.hid (minfunc_any A2 c2 l wr ((hIW.below hbl.out).more hbl.out.size) hpos (by omega) hcc h4)
      have Hmax := Lib.hid fun (W : World) (hW : Below wr.heap.size wr W) => maxfunc_any A2 c2 l W ((hIW.below (hbl.out.trans (hW.mono hbl.out.size))).more (Nat.le_trans hbl.out.size hW.size)) hpos (by omega) hcc h4
      have He1 : Hid (minAll l = minK l l.length) := Lib.hid rfl
      have He2 : Hid (maxAll l = maxK l l.length) := Lib.hid rfl
      generalize sumM minAll rows k = a at *
      generalize sumM maxAll rows k = n at *
      generalize minAll l = x1 at *
      generalize maxAll l = x2 at *
      clear hrow hIW hmem hc1 h4
      go_wp2_with fail
      refine Hmin.out.mono ?_
      rintro e w5 ⟨u, rfl, hu, hb5⟩
      have hmx := Hmax.out _ hb5
      have hu' : u.1.size = x1 := hu.trans He1.out.symm
      have Hmx := Lib.hid hmx
      have Hb5 := Lib.hid hb5
      have hus : u.1.size ≤ 4 := by omega
      have Hu := Lib.hid hu'
      clear hu hu' hmx hb5 Hmax Hmin
      have hfd := field100
      go_wp2_with fail
      refine Hmx.out.mono ?_
      rintro e w6 ⟨u2, rfl, hu2, hb6⟩
      have hus2 : u2.1.size ≤ 4 := by have := hu2.trans He2.out.symm; omega
      have Hu2 := Lib.hid (hu2.trans He2.out.symm)
      have Hb6 := Lib.hid (hbl.out.trans ((Hb5.out.trans (hb6.mono Hb5.out.size)).mono hbl.out.size))
      clear hu2 hb6 Hmx
      go_wp2_with fail
      go_roundw
      case rel => exact ⟨k + 1, by omega, by go_num, by rw [Hs1.out, ← Hu.out], by rw [Hs2.out, ← Hu2.out], Hb6⟩
      case measure => simp [intOf]; omega
    · obtain rfl : k = rows.length := by omega
      go_wp2_with fail
      go_ret3
      exact ⟨by rw [HP.out.1, HP.out.2]; rfl, HB1.out.trans ((Hb3.out.trans (hbl.out.mono Hb3.out.size)).mono (by omega))⟩

set_option maxRecDepth 100000 in
set_option maxHeartbeats 8000000 in
theorem refsyllables_any (Af Ae Ab : Option Addr) (cf ce cb : Nat) (m : Met) (w : World) (h : IsMet w w.heap.size Af Ae Ab cf ce cb m) (hm : mayB m = true) :
    Calls Tryd.prog 32 #[.agg #[.slice Af m.feet.length cf, .slice Ae m.ends.length ce, .slice Ab m.brks.length cb]] w fun e w' => e = .returned (.tuple #[.int .i64 (leastSy m), .int .i64 (mostSy m)]) ∧ Below w.heap.size w w' := by
  generalize hW1 : w.alloc (.cells #[.slice Af m.feet.length cf, .slice Ae m.ends.length ce, .slice Ab m.brks.length cb] 27) = W1
  have sW1 : W1.heap.size = w.heap.size + 1 := by rw [← hW1]; simp
  have hB1 : Below w.heap.size w W1 := by rw [← hW1]; exact (Below.refl _ _).alloc (Nat.le_refl _) _
  have m0 : W1.cell? ⟨w.heap.size, 0, none⟩ = some (.slice Af m.feet.length cf) := by rw [← hW1]; simp
  have m1 : W1.cell? ⟨w.heap.size, 1, none⟩ = some (.slice Ae m.ends.length ce) := by rw [← hW1]; simp
  have m2 : W1.cell? ⟨w.heap.size, 2, none⟩ = some (.slice Ab m.brks.length cb) := by rw [← hW1]; simp
  have HW1 := Lib.hid hW1
  have HB1 := Lib.hid hB1
  have Hkeep := Lib.hid fun (W2 : World) (hb2 : Below W1.heap.size W1 W2) => And.intro ((hb2.cell (p := ⟨w.heap.size, 0, none⟩) (by show w.heap.size < W1.heap.size; omega)).trans m0) (And.intro ((hb2.cell (p := ⟨w.heap.size, 1, none⟩) (by show w.heap.size < W1.heap.size; omega)).trans m1) ((hb2.cell (p := ⟨w.heap.size, 2, none⟩) (by show w.heap.size < W1.heap.size; omega)).trans m2))
  have HK := Lib.hid (opts_ok hm)
  have HP : Hid (leastSy m = sumM minAll (optsP m) (optsP m).length ∧ mostSy m = sumM maxAll (optsP m) (optsP m).length) := Lib.hid ⟨rfl, rfl⟩
  have Hop := Lib.hid (choices_any Af Ae Ab cf ce cb m W1 (h.on hB1) (small_of hm))
  clear h hW1 hB1 hm
  go_enter Tryd.func32, Tryd.ntmps32
  go_wp2_with fail
  rw [HW1.out]
  go_wp2_with fail
  refine Hop.out.mono ?_
  rintro e w3 ⟨v, vs, rfl, hor, hb3⟩
  obtain ⟨A3, c3, rfl, hc3, hrw⟩ := hor.isRows
  have HR := Lib.hid hrw
  have Hb3 := Lib.hid hb3
  have hlen := HK.out.len
  clear hor hrw hb3 Hop m0 m1 m2
  generalize optsP m = rows at *
  go_wp2_with fail
  go_loopw [4, 5, 15] (fun a n i wr => ∃ k : Nat, k ≤ rows.length ∧ i = .int .i64 k ∧ a = .int .i64 (sumM minAll rows k) ∧ n = .int .i64 (sumM maxAll rows k) ∧ Hid (Below w3.heap.size w3 wr)) (fun _ _ i _ => rows.length - (intOf i).toNat)
  case atStart => exact ⟨0, by omega, rfl, rfl, rfl, Lib.hid (Below.refl _ _)⟩
  case round =>
    rename_i wr
    obtain ⟨k, hk, rfl, rfl, rfl, hbl⟩ := hrel
    have hb1 := sumM_bd (min_four HK.out) k hk
    have hb2 := sumM_bd (max_four HK.out) k hk
    by_cases hlt : k < rows.length
    · obtain ⟨b, off, rfl, hbb, hrow⟩ := HR.out (by omega)
      obtain ⟨A2, c2, hc1, hcc, hIW⟩ := hrow k hlt
      have hmem := mem_at hlt
      have hpos := HK.out.pos _ hmem
      have hfew := HK.out.few _ hmem
      have h4 := HK.out.four _ hmem
      have hcell := (hbl.out.cell (p := ⟨b, off + k, none⟩) hbb).trans hc1
      have Hs1 := Lib.hid (sumM_succ minAll rows k hlt)
      have Hs2 := Lib.hid (sumM_succ maxAll rows k hlt)
      have hx1 := min_four HK.out _ hmem
      have hx2 := max_four HK.out _ hmem
      generalize rows.getD k [] = l at *
      obtain ⟨b2, o2, rfl, hbb2, hrow2⟩ := (hIW.below hbl.out) hpos
      have Hrow2 := Lib.hid hrow2
      have r0 := (hrow2 0 hpos).1
      simp only [Nat.zero_mul, Nat.add_zero] at r0
      have H4 := Lib.hid fun j (hj : j < l.length) => h4 (l.getD j default) (by rw [List.getD_eq_getElem?_getD, List.getElem?_eq_getElem hj]; exact List.getElem_mem hj)
      have hz0 := H4.out 0 hpos
      have He1 : Hid (minAll l = minK l l.length) := Lib.hid rfl
      have He2 : Hid (maxAll l = maxK l l.length) := Lib.hid rfl
      have Hm1 := Lib.hid (fun j (hj : j ≤ l.length) => minK_le l 4 h4 hpos j hj)
      have Hm2 := Lib.hid (fun j (hj : j ≤ l.length) => maxK_le l 4 h4 hpos j hj)
      have Hz : Hid (minK l 0 = (l.getD 0 default).1.size ∧ maxK l 0 = (l.getD 0 default).1.size) := Lib.hid ⟨rfl, rfl⟩
      generalize sumM minAll rows k = a at *
      generalize sumM maxAll rows k = n at *
      generalize minAll l = x1 at *
      generalize maxAll l = x2 at *
      have hd0 : (0 : Int) < (l.length : Int) := by omega
      have hbw : b2 < wr.heap.size := by have := hbl.out.size; omega
      clear hrow hIW hmem hc1 h4 hrow2
      generalize hs0 : (l.getD 0 default).1 = s0 at *
      have Hs0 := Lib.hid hs0
      clear hs0
      go_wp2_with fail
      go_quiet (fail)
      go_wp2_with fail
      go_loopw [8, 9, 31] (fun x y i wi => ∃ j : Nat, j ≤ l.length ∧ i = .int .i64 j ∧ x = .int .i64 (minK l j : Nat) ∧ y = .int .i64 (maxK l j : Nat) ∧ Hid (Below wr.heap.size wr wi)) (fun _ _ i _ => l.length - (intOf i).toNat)
      case atStart => exact ⟨0, by omega, rfl, by rw [Hz.out.1], by rw [Hz.out.2], Lib.hid (belowD (Below.refl _ _) nq)⟩
      case round =>
        rename_i wi
        obtain ⟨j, hj, rfl, rfl, rfl, hbi⟩ := hrel
        have hm1 := Hm1.out j hj
        have hm2 := Hm2.out j hj
        clear r0 hcell
        by_cases hjt : j < l.length
        · have p0 := (hbi.out.cell (p := ⟨b2, o2 + j * 2, none⟩) hbw).trans (Hrow2.out j hjt).1
          have p1 := (hbi.out.cell (p := ⟨b2, o2 + j * 2 + 1, none⟩) hbw).trans (Hrow2.out j hjt).2
          have hv4 := H4.out j hjt
          have Hsu1 : Hid (((minK l (j + 1) : Nat) : Int) = min (minK l j : Int) ((l.getD j default).1.size : Int)) := Lib.hid (by rw [minK_succ l j hjt]; omega)
          have Hsu2 : Hid (((maxK l (j + 1) : Nat) : Int) = max (maxK l j : Int) ((l.getD j default).1.size : Int)) := Lib.hid (by rw [maxK_succ l j hjt]; omega)
          generalize l.getD j default = v at *
          obtain ⟨vs, vc⟩ := v
          simp only [] at p0 p1 hv4 Hsu1 Hsu2
          go_wp2_with fail
          go_quiet (fail)
          go_wp2_with fail
          go_roundw
          case rel => exact ⟨j + 1, by omega, by go_num, by rw [Hsu1.out], by rw [Hsu2.out], Lib.hid (belowD (hbi.out.alloc hbi.out.size _) _)⟩
          case measure => simp [intOf]; omega
        · obtain rfl : j = l.length := by omega
          have hy1 : Hid (minK l l.length = x1) := Lib.hid He1.out.symm
          have hy2 : Hid (maxK l l.length = x2) := Lib.hid He2.out.symm
          rw [hy1.out, hy2.out]
          go_wp2_with fail
          go_roundw
          case rel => exact ⟨k + 1, by omega, by go_num, by rw [Hs1.out], by rw [Hs2.out], Lib.hid (hbl.out.trans (hbi.out.mono hbl.out.size))⟩
          case measure => simp [intOf]; omega
    · obtain rfl : k = rows.length := by omega
      go_wp2_with fail
      go_ret2
      exact ⟨by rw [HP.out.1, HP.out.2]; rfl, HB1.out.trans ((Hb3.out.trans (hbl.out.mono Hb3.out.size)).mono (by omega))⟩
end Go.Proofs.YtkfkkoefpfmjkaaDoor

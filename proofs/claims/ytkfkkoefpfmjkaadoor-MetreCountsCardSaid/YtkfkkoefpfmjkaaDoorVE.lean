import Derived.Test.YtkfkkoefpfmjkaaDoorVD
import Derived.Test.YtkfkkoefpfmjkaaDoorMI
namespace Go.Proofs.YtkfkkoefpfmjkaaDoor
set_option linter.unusedVariables false
set_option linter.unusedSimpArgs false
open Go.RowKit

/- Least. -/
def leastP (m : Met) (s : ByteArray) : Int × Int × Int :=
  if mayB m then
    if 66 < s.size then (0, 0, 4) else if (restR (optsP m) s.data.toList).2 = 0 then (0, 0, 4) else ((restR (optsP m) s.data.toList).1, (restR (optsP m) s.data.toList).2, 0)
  else (0, 0, 2)
theorem waysFrom_all {lg : Int} {own : List ByteArray} : ∀ {pre l : List Way}, waysFrom lg own pre l = true → ∀ v ∈ l, 0 ≤ v.2 ∧ v.2 ≤ 1048576 ∧ signsB v.1 1 lg = true
  | _, [], _ => fun v hv => by cases hv
  | pre, x :: l, h => by
    unfold waysFrom at h
    rw [Bool.and_eq_true] at h
    intro v hv
    rcases List.mem_cons.1 hv with rfl | hv
    · have h1 := h.1
      unfold wayOk at h1
      simp only [Bool.and_eq_true, decide_eq_true_eq] at h1
      exact ⟨h1.1.1.1.2, h1.1.1.2, h1.1.1.1.1⟩
    · exact waysFrom_all h.2 v hv
theorem opts_small {m : Met} (h : mayB m = true) : (optsP m).length ≤ 17 ∧ ∀ l ∈ optsP m, l.length ≤ 16 ∧ ∀ v ∈ l, 0 ≤ v.2 ∧ v.2 ≤ 1048576 := by
  have hs := small_of h
  refine ⟨by rw [optsP_len]; have := hs.feet; omega, fun l hl => ?_⟩
  unfold mayB at h
  simp only [Bool.and_eq_true, decide_eq_true_eq] at h
  obtain ⟨⟨⟨⟨_, _⟩, h3⟩, h4⟩, _⟩ := h
  unfold optsP at hl
  rw [List.mem_append] at hl
  rcases hl with hl | hl
  · obtain ⟨f, hf, rfl⟩ := List.mem_map.1 hl
    have h5 := List.all_eq_true.1 h4 f hf
    unfold footMay waysB at h5
    simp only [Bool.and_eq_true, decide_eq_true_eq] at h5
    refine ⟨by have := hs.ways f hf; simp; omega, fun v hv => ?_⟩
    rcases List.mem_cons.1 hv with rfl | hv
    · exact ⟨Int.le_refl _, by show (0 : Int) ≤ 1048576; decide⟩
    · have := waysFrom_all h5.2.2 v hv; exact ⟨this.1, this.2.1⟩
  · have hl' : l = (⟨#[]⟩, 0) :: m.ends := by simpa using hl
    subst hl'
    unfold waysB at h3
    simp only [Bool.and_eq_true, decide_eq_true_eq] at h3
    refine ⟨by have := hs.ends; simp; omega, fun v hv => ?_⟩
    rcases List.mem_cons.1 hv with rfl | hv
    · exact ⟨Int.le_refl _, by show (0 : Int) ≤ 1048576; decide⟩
    · have := waysFrom_all h3.2 v hv; exact ⟨this.1, this.2.1⟩
theorem metV_eq (Af Ae Ab : Option Addr) (cf ce cb : Nat) (m : Met) : metV Af Ae Ab cf ce cb m = .agg #[.slice Af m.feet.length cf, .slice Ae m.ends.length ce, .slice Ab m.brks.length cb] := rfl

set_option maxRecDepth 100000 in
set_option maxHeartbeats 4000000 in
theorem least_any (Af Ae Ab : Option Addr) (cf ce cb : Nat) (m : Met) (s : ByteArray) (w : World) (h : IsMet w w.heap.size Af Ae Ab cf ce cb m) (hs : s.size ≤ 9223372036854775807) :
    Calls Tryd.prog 23 #[.agg #[.slice Af m.feet.length cf, .slice Ae m.ends.length ce, .slice Ab m.brks.length cb], .string s] w fun e w' =>
      e = .returned (.tuple #[.int .i64 (leastP m s).1, .int .i64 (leastP m s).2.1, .int .i64 (leastP m s).2.2]) ∧ Below w.heap.size w w' := by
  generalize hR : leastP m s = R
  have HR := Lib.hid hR
  clear hR
  generalize hW1 : w.alloc (.cells #[.slice Af m.feet.length cf, .slice Ae m.ends.length ce, .slice Ab m.brks.length cb] 27) = W1
  have sW1 : W1.heap.size = w.heap.size + 1 := by rw [← hW1]; simp
  have hB1 : Below w.heap.size w W1 := by rw [← hW1]; exact (Below.refl _ _).alloc (Nat.le_refl _) _
  have m0 : W1.cell? ⟨w.heap.size, 0, none⟩ = some (.slice Af m.feet.length cf) := by rw [← hW1]; simp
  have m1 : W1.cell? ⟨w.heap.size, 1, none⟩ = some (.slice Ae m.ends.length ce) := by rw [← hW1]; simp
  have m2 : W1.cell? ⟨w.heap.size, 2, none⟩ = some (.slice Ab m.brks.length cb) := by rw [← hW1]; simp
  have HM := Lib.hid (h.on hB1)
  have HW1 := Lib.hid hW1
  have HB1 := Lib.hid hB1
  have Hkeep := Lib.hid fun (W2 : World) (hb2 : Below W1.heap.size W1 W2) => And.intro ((hb2.cell (p := ⟨w.heap.size, 0, none⟩) (by show w.heap.size < W1.heap.size; omega)).trans m0) (And.intro ((hb2.cell (p := ⟨w.heap.size, 1, none⟩) (by show w.heap.size < W1.heap.size; omega)).trans m1) ((hb2.cell (p := ⟨w.heap.size, 2, none⟩) (by show w.heap.size < W1.heap.size; omega)).trans m2))
  have Hch := Lib.hid (check_any Af Ae Ab cf ce cb m W1 HM.out)
  clear h hW1 hB1
  go_enter Tryd.func23, Tryd.ntmps23
  go_wp2_with fail
  rw [HW1.out]
  go_wp2_with fail
  refine Hch.out.mono ?_
  rintro e w2 ⟨rfl, hb2⟩
  obtain ⟨q0, q1, q2⟩ := Hkeep.out _ hb2
  have HM2 := Lib.hid (HM.out.on hb2)
  have Hb2 := Lib.hid hb2
  clear hb2
  cases hm : mayB m with
  | false =>
    have Hl : Hid (leastP m s = (0, 0, 2)) := Lib.hid (by unfold leastP; rw [hm]; rfl)
    have hc : checkN m = 2 := by unfold checkN; rw [hm]; rfl
    rw [hc]
    clear hc hm
    go_wp2_with fail
    go_ret3
    exact ⟨by rw [← HR.out, Hl.out]; rfl, HB1.out.trans (Hb2.out.mono (by omega))⟩
  | true =>
    have hc : checkN m = 0 := by unfold checkN; rw [hm]; rfl
    have Hm := Lib.hid hm
    rw [hc]
    clear hc hm
    by_cases h66 : 66 < s.size
    · have Hl : Hid (leastP m s = (0, 0, 4)) := Lib.hid (by unfold leastP; rw [Hm.out, if_pos rfl, if_pos h66])
      go_wp2_with fail
      go_ret3
      exact ⟨by rw [← HR.out, Hl.out]; rfl, HB1.out.trans (Hb2.out.mono (by omega))⟩
    · have Hl : Hid (leastP m s = if (restR (optsP m) s.data.toList).2 = 0 then (0, 0, 4) else ((restR (optsP m) s.data.toList).1, (restR (optsP m) s.data.toList).2, 0)) := Lib.hid (by unfold leastP; rw [Hm.out, if_pos rfl, if_neg h66])
      have Hop := Lib.hid (options_any Af Ae Ab cf ce cb m w2 HM2.out (small_of Hm.out))
      go_wp2_with fail
      refine Hop.out.mono ?_
      rintro e w3 ⟨v, vs, rfl, hor, hb3⟩
      obtain ⟨A3, c3, rfl, hc3, hrw⟩ := hor.isRows
      obtain ⟨ho1, ho2⟩ := opts_small Hm.out
      have hre := rests_any A3 c3 (optsP m) s w3 hrw hc3 (by rw [optsP_len]; omega) ho1 (by omega) ho2
      have Hre := Lib.hid hre
      have Hb3 := Lib.hid (Hb2.out.trans (hb3.mono Hb2.out.size))
      have hrt : restT (optsP m) s 0 0 = restR (optsP m) s.data.toList := rfl
      have Hrt := Lib.hid hrt
      clear hor hc3 hrw ho1 ho2 hre hb3 hrt
      go_wp2_with fail
      refine Hre.out.mono ?_
      rintro e w4 ⟨rfl, hmem, hb4⟩
      have o1 := hmem.oc 0 (by omega)
      have o2 := hmem.t1 0 0 (by omega) (by omega)
      have o3 := hmem.t2 0 0 (by omega) (by omega)
      simp only [Nat.add_zero, Nat.zero_mul] at o1 o2 o3
      rw [Hrt.out] at o2 o3
      have Hb4 := Lib.hid (Hb3.out.trans (hb4.mono Hb3.out.size))
      generalize restR (optsP m) s.data.toList = C at *
      obtain ⟨c1, c2⟩ := C
      simp only [] at o2 o3 Hl
      have Hsz := Lib.hid hmem.sz
      clear hmem hb4
      cases hz : (c2 == 0) with
      | true =>
        have Hz : Hid (c2 = 0) := Lib.hid (by simpa using hz)
        go_wp2_with fail
        go_ret3
        exact ⟨by rw [← HR.out, Hl.out, if_pos Hz.out]; rfl, HB1.out.trans ((Hb4.out.alloc Hb4.out.size _).mono (by omega))⟩
      | false =>
        have Hz : Hid (¬ c2 = 0) := Lib.hid (by simpa using hz)
        go_wp2_with fail
        go_quiet (fail)
        go_wp2_with fail
        go_ret3
        exact ⟨by rw [← HR.out, Hl.out, if_neg Hz.out]; rfl, HB1.out.trans ((belowD (Hb4.out.alloc Hb4.out.size _) nq).mono (by omega))⟩
end Go.Proofs.YtkfkkoefpfmjkaaDoor
namespace Go.Proofs.YtkfkkoefpfmjkaaDoor
set_option linter.unusedVariables false
set_option linter.unusedSimpArgs false
open Go.RowKit

def WK : ByteArray := ⟨#[50, 32, 105, 97, 109, 98, 59, 32, 97, 110, 121, 32, 47, 32, 49]⟩
def M0 : Met := ⟨[⟨⟨#[120, 47]⟩, [(⟨#[47]⟩, 1)]⟩, ⟨⟨#[120, 47]⟩, [(⟨#[47]⟩, 1)]⟩], [], []⟩
theorem wk_toks : toks WK 0 = [(0, ⟨#[50]⟩), (2, ⟨#[105, 97, 109, 98]⟩), (6, ⟨#[59]⟩), (8, ⟨#[97, 110, 121]⟩), (12, ⟨#[47]⟩), (14, ⟨#[49]⟩), (15, ⟨#[]⟩)] := by decide +kernel
theorem wk_read : readP WK = .ok M0 := by
  unfold readP
  rw [if_neg (by decide +kernel), wk_toks]
  kernel_rfl
theorem wk_least : leastP M0 ⟨#[47, 47]⟩ = (2, 1, 0) := by decide +kernel

theorem own_brks {w : World} {base : Nat} {v : Value} {l : List (Int × Int)} (h : w.ownsRow base 98 2 v l.length (brkCells l)) : ∃ A c, v = .slice A l.length c ∧ l.length ≤ c ∧ IsBrks w w.heap.size A l := by
  rcases h.2 with ⟨rfl, h0⟩ | ⟨g, cap, cur, rfl, _, hg, hcap, _⟩
  · rw [h0]; exact ⟨none, 0, rfl, Nat.le_refl _, fun hl => by omega⟩
  · refine ⟨_, cap, rfl, hcap, fun hl => ⟨g, 0, rfl, (Array.getElem?_eq_some_iff.1 hg).1, fun k hk => ?_⟩⟩
    rw [Nat.zero_add, h.cellAt (k * 2) (by omega), h.cellAt (k * 2 + 1) (by omega)]
    exact brkCells_get l k hk
theorem own_feet {w : World} {base : Nat} {m : Met} {vf ve vb : Value} {vs : List Value} (h : OM w base m vf ve vb vs) : ∃ A c, vf = .slice A m.feet.length c ∧ m.feet.length ≤ c ∧ IsFeet w w.heap.size A m.feet := by
  rcases h.feet.2 with ⟨rfl, h0⟩ | ⟨g, cap, cur, rfl, _, hg, hcap, _⟩
  · rw [h0]; exact ⟨none, 0, rfl, Nat.le_refl _, fun hl => by omega⟩
  · refine ⟨_, cap, rfl, hcap, fun hl => ⟨g, 0, rfl, (Array.getElem?_eq_some_iff.1 hg).1, fun k hk => ?_⟩⟩
    have hgt := ftCells_get m.feet vs k h.vl hk
    obtain ⟨A, c, hv, hc, hw⟩ := own_ways (h.ways k hk)
    unfold FtAt
    rw [Nat.zero_add, h.feet.cellAt (k * 2) (by omega), h.feet.cellAt (k * 2 + 1) (by omega), hgt.1, hgt.2, hv]
    exact ⟨rfl, A, c, rfl, hc, hw⟩
/-- a metre of one's own, read -/
theorem OM.isMet {w : World} {base : Nat} {m : Met} {vf ve vb : Value} {vs : List Value} (h : OM w base m vf ve vb vs) (hb : Bounded m) : ∃ Af Ae Ab cf ce cb, vf = .slice Af m.feet.length cf ∧ ve = .slice Ae m.ends.length ce ∧ vb = .slice Ab m.brks.length cb ∧ IsMet w w.heap.size Af Ae Ab cf ce cb m := by
  obtain ⟨Af, cf, e1, h1, i1⟩ := own_feet h
  obtain ⟨Ae, ce, e2, h2, i2⟩ := own_ways h.ends
  obtain ⟨Ab, cb, e3, h3, i3⟩ := own_brks h.brks
  exact ⟨Af, Ae, Ab, cf, ce, cb, e1, e2, e3, i1, i2, i3, h1, h2, h3, hb⟩
theorem M0_bd : Bounded M0 := by
  refine ⟨by decide, fun f hf => ?_, ⟨by decide, fun v hv => by cases hv⟩, by decide⟩
  simp only [M0, List.mem_cons, List.not_mem_nil, or_false] at hf
  rcases hf with rfl | rfl <;> exact ⟨by decide, by decide, fun v hv => by simp at hv; subst hv; decide⟩
set_option maxRecDepth 100000 in
set_option maxHeartbeats 4000000 in
theorem wakes_any (w : World) (hv : Vars w) : Calls Tryd.prog 11 #[] w fun e w' => e = .returned (.bool true) ∧ Below w.heap.size w w' := by
  have hrd := read_any WK w hv (by decide +kernel)
  have Hrd := Lib.hid hrd
  clear hrd
  go_enter Tryd.func11, Tryd.ntmps11
  go_wp2_with fail
  refine Hrd.out.mono ?_
  rintro e w2 ⟨hb2, hr⟩
  rw [wk_read] at hr
  obtain ⟨hz, vf, ve, vb, vs, rfl, hom⟩ := hr
  obtain ⟨Af, Ae, Ab, cf, ce, cb, rfl, rfl, rfl, him⟩ := hom.isMet M0_bd
  obtain ⟨b, off, rfl, hbb, hft⟩ := him.feet (by decide)
  have hf1 := (hft 1 (by decide)).1
  have hown : (M0.feet.getD 1 default).own = ⟨#[120, 47]⟩ := rfl
  rw [hown] at hf1
  have hn1 : M0.feet.length = 2 := rfl
  have hn2 : M0.ends.length = 0 := rfl
  have hn3 : M0.brks.length = 0 := rfl
  have hcf := him.cf
  rw [hn1] at hcf
  rw [hn1, hn2, hn3]
  generalize hW3 : (w2.alloc (.cells #[.slice (some ⟨b, off, none⟩) 2 cf, .slice Ae 0 ce, .slice Ab 0 cb] 27)).alloc (.cells #[.int .i64 0, .int .i64 0] 30) = W3
  have hb3 : Below w2.heap.size w2 W3 := by rw [← hW3]; exact ((Below.refl _ _).alloc (Nat.le_refl _) _).alloc (by simp) _
  have hls := least_any (some ⟨b, off, none⟩) Ae Ab cf ce cb M0 ⟨#[47, 47]⟩ W3 (him.on hb3) (by decide)
  rw [wk_least, hn1, hn2, hn3] at hls
  have c0 : W3.heap[w2.heap.size]? = some (.cells #[.slice (some ⟨b, off, none⟩) 2 cf, .slice Ae 0 ce, .slice Ab 0 cb] 27 (0, 0)) := by
    rw [← hW3]; exact (Below.heap_alloc _ _ _ (by simp)).trans (World.alloc_heap_new w2 _)
  have c1 : W3.heap[w2.heap.size + 1]? = some (.cells #[.int .i64 0, .int .i64 0] 30 (0, 0)) := by
    rw [← hW3]
    have := World.alloc_heap_new (w2.alloc (.cells #[.slice (some ⟨b, off, none⟩) 2 cf, .slice Ae 0 ce, .slice Ab 0 cb] 27)) (.cells #[.int .i64 0, .int .i64 0] 30)
    rw [World.size_alloc] at this
    exact this
  have hs3 : W3.heap.size = w2.heap.size + 2 := by rw [← hW3]; simp
  have hf1' := (hb3.cell (p := ⟨b, off + 1 * 2, none⟩) hbb).trans hf1
  have HW3 := Lib.hid hW3
  have Hls := Lib.hid hls
  have Hc0 := Lib.hid c0
  have Hc1 := Lib.hid c1
  have Hf1 := Lib.hid hf1'
  have Hb3 := Lib.hid (hb2.trans (hb3.mono hb2.size))
  have hbb3 : b < W3.heap.size := by omega
  have k0 : W3.cell? ⟨w2.heap.size, 0, none⟩ = some (.slice (some ⟨b, off, none⟩) 2 cf) := cell_of_row _ _ _ _ 27 (0, 0) c0
  have k1 : W3.cell? ⟨w2.heap.size, 1, none⟩ = some (.slice Ae 0 ce) := cell_of_row _ _ _ _ 27 (0, 0) c0
  have k2 : W3.cell? ⟨w2.heap.size, 2, none⟩ = some (.slice Ab 0 cb) := cell_of_row _ _ _ _ 27 (0, 0) c0
  have hbs := hb2.size
  clear hW3 hls c0 c1 hf1 hf1' hb3 hft hom him hz hb2 hown hn1 hn2 hn3 k0 k1 k2
  go_wp2_with fail
  rw [HW3.out]
  refine Hls.out.mono ?_
  rintro e w4 ⟨rfl, hb4⟩
  have c0 := (hb4.block w2.heap.size (by omega)).trans Hc0.out
  have c1 := (hb4.block (w2.heap.size + 1) (by omega)).trans Hc1.out
  have hf1 := (hb4.cell (p := ⟨b, off + 1 * 2, none⟩) hbb3).trans Hf1.out
  simp only [Nat.one_mul] at hf1
  have k0 : w4.cell? ⟨w2.heap.size, 0, none⟩ = some (.slice (some ⟨b, off, none⟩) 2 cf) := cell_of_row _ _ _ _ 27 (0, 0) c0
  have k3 : w4.cell? ⟨w2.heap.size + 1, 0, none⟩ = some (.int .i64 0) := cell_of_row _ _ _ _ 30 (0, 0) c1
  have k4 : w4.cell? ⟨w2.heap.size + 1, 1, none⟩ = some (.int .i64 0) := cell_of_row _ _ _ _ 30 (0, 0) c1
  have Hb4 := Lib.hid (Hb3.out.trans (hb4.mono Hb3.out.size))
  clear c0 c1 hb4 hbs hbb3 hs3
  go_wp2_with fail
  go_ret
  exact ⟨rfl, Hb4.out⟩
end Go.Proofs.YtkfkkoefpfmjkaaDoor

import Derived.Test.YtkfkkoefpfmjkaaDoorTB
namespace Go.Proofs.YtkfkkoefpfmjkaaDoor
set_option linter.unusedVariables false
set_option linter.unusedSimpArgs false
open Go.RowKit

/- Same; the reference's Equal. -/
def eqFt (f g : Ft) : Bool := decide (f.own = g.own) && eqL f.ways g.ways
def ftP (f : Ft) : ByteArray × List Way := (f.own, f.ways)
instance : Inhabited (ByteArray × List Way) := ⟨(default, [])⟩
def eqFeet (l r : List Ft) : Bool := eqL (l.map ftP) (r.map ftP)
def equalP (m n : Met) : Bool := eqFeet m.feet n.feet && eqL m.ends n.ends && eqL m.brks n.brks
def sameP (m n : Met) : Bool := mayB m && mayB n && equalP m n
theorem getD_ftP (l : List Ft) (k : Nat) (h : k < l.length) : (l.map ftP).getD k default = ftP (l.getD k default) := by
  simp [List.getD_eq_getElem?_getD, h]
theorem eqFeet_len {l r : List Ft} (h : ¬ l.length = r.length) : eqFeet l r = false := eqL_len (by simpa using h)
theorem eqFeet_miss {l r : List Ft} (k : Nat) (h1 : k < l.length) (h2 : k < r.length) (h : eqFt (l.getD k default) (r.getD k default) = false) : eqFeet l r = false := by
  refine eqL_miss k ?_
  rw [getD_ftP _ _ h1, getD_ftP _ _ h2]
  intro e
  unfold ftP at e
  obtain ⟨e1, e2⟩ := Prod.mk.inj e
  unfold eqFt eqL at h
  rw [e1, e2] at h
  simp at h
theorem eqFt_true {f g : Ft} (h : eqFt f g = true) : ftP f = ftP g := by
  unfold eqFt eqL at h
  simp only [Bool.and_eq_true, decide_eq_true_eq] at h
  unfold ftP; rw [h.1, h.2]
theorem eqFeet_step {l r : List Ft} {k : Nat} (h : (l.map ftP).take k = (r.map ftP).take k) (h1 : k < l.length) (h2 : k < r.length) (he : eqFt (l.getD k default) (r.getD k default) = true) : (l.map ftP).take (k + 1) = (r.map ftP).take (k + 1) :=
  take_eq_succ h (by simpa using h1) (by simpa using h2) (by rw [getD_ftP _ _ h1, getD_ftP _ _ h2]; exact eqFt_true he)
theorem eqFeet_all {l r : List Ft} (hl : l.length = r.length) (h : (l.map ftP).take l.length = (r.map ftP).take l.length) : eqFeet l r = true := eqL_all (by simpa using hl) (by simpa using h)
theorem eqFt_no1 {f g : Ft} (h : ¬ f.own = g.own) : eqFt f g = false := by unfold eqFt; rw [decide_eq_false h]; rfl
theorem eqFt_no2 {f g : Ft} (h : f.own = g.own) : eqFt f g = eqL f.ways g.ways := by unfold eqFt; rw [decide_eq_true h]; rfl

set_option maxRecDepth 100000 in
set_option maxHeartbeats 16000000 in
theorem samefoot_any (f g : Ft) (A C : Option Addr) (c d : Nat) (w : World) (h1 : IsWays w w.heap.size A f.ways) (h2 : IsWays w w.heap.size C g.ways) (b1 : f.ways.length ≤ 4611686018427387904) (b2 : g.ways.length ≤ 4611686018427387904) (c1 : f.ways.length ≤ c) (c2 : g.ways.length ≤ d) :
    Calls Tryd.prog 54 #[.agg #[.string f.own, .slice A f.ways.length c], .agg #[.string g.own, .slice C g.ways.length d]] w fun e w' => e = .returned (.bool (eqFt f g)) ∧ Below w.heap.size w w' := by
  have hb : Below w.heap.size w ((w.alloc (.cells #[.string f.own, .slice A f.ways.length c] 81)).alloc (.cells #[.string g.own, .slice C g.ways.length d] 81)) := ((Below.refl _ w).alloc (Nat.le_refl _) _).alloc (by simp) _
  have Hb := Lib.hid hb
  by_cases he : f.own = g.own
  · have He := Lib.hid (eqFt_no2 he)
    have Hc := Lib.hid (eqways_any A C c d f.ways g.ways _ ((h1.below hb).more hb.size) ((h2.below hb).more hb.size) b1 b2 c1 c2)
    have hs : (f.own.toList == g.own.toList) = true := by rw [he]; simp
    clear h1 h2 hb he
    go_enter Tryd.func54, Tryd.ntmps54
    go_wp2_with fail
    refine Hc.out.mono ?_
    rintro e w2 ⟨rfl, hb2⟩
    have Hb2 := Lib.hid (Hb.out.trans (hb2.mono Hb.out.size))
    clear hb2
    go_wp2_with fail
    go_ret
    exact ⟨by rw [He.out]; rfl, Hb2.out⟩
  · have He := Lib.hid (eqFt_no1 he)
    have hs : (f.own.toList == g.own.toList) = false := str_ne he
    clear h1 h2 hb he
    go_enter Tryd.func54, Tryd.ntmps54
    go_wp2_with fail
    go_ret
    exact ⟨by rw [He.out]; rfl, Hb.out⟩

set_option maxRecDepth 100000 in
set_option maxHeartbeats 16000000 in
theorem eqfeet_any (A C : Option Addr) (c d : Nat) (l r : List Ft) (w : World) (hl : IsFeet w w.heap.size A l) (hr : IsFeet w w.heap.size C r) (hb1 : l.length ≤ 4611686018427387904) (hb2 : r.length ≤ 4611686018427387904) (hc : l.length ≤ c) (hd : r.length ≤ d)
    (w1 : ∀ f ∈ l, f.ways.length ≤ 4611686018427387904) (w2 : ∀ f ∈ r, f.ways.length ≤ 4611686018427387904) :
    Calls Tryd.prog 57 #[.slice A l.length c, .slice C r.length d, .func (.func 54) #[] #[]] w fun e w' => e = .returned (.bool (eqFeet l r)) ∧ Below w.heap.size w w' := by
  by_cases hq : l.length = r.length
  · have Hq := Lib.hid hq
    have HR := Lib.hid hr
    have HL := Lib.hid hl
    have HW1 := Lib.hid w1
    have HW2 := Lib.hid w2
    clear hr hl w1 w2
    rw [← hq] at hd ⊢
    clear hq
    go_enter Tryd.func57, Tryd.ntmps57
    go_wp2_with fail
    go_loopw [17] (fun i wr => ∃ k : Nat, k ≤ l.length ∧ i = .int .i64 k ∧ Hid ((l.map ftP).take k = (r.map ftP).take k) ∧ Hid (Below w.heap.size w wr)) (fun i _ => l.length - (intOf i).toNat)
    case atStart => exact ⟨0, by omega, rfl, Lib.hid rfl, Lib.hid (Below.refl _ _)⟩
    case round =>
      rename_i wr
      obtain ⟨k, hk, rfl, ht, hbl⟩ := hrel
      by_cases hlt : k < l.length
      · obtain ⟨b, off, rfl, hbb, hrow⟩ := (HL.out.below hbl.out) (by omega)
        obtain ⟨b2, off2, rfl, hbb2, hrow2⟩ := (HR.out.below hbl.out) (by rw [← Hq.out]; omega)
        obtain ⟨x1, A1, k1, x2, x3, x4⟩ := hrow k hlt
        obtain ⟨y1, A2, k2, y2, y3, y4⟩ := hrow2 k (by rw [← Hq.out]; omega)
        have Hmiss := Lib.hid (eqFeet_miss (l := l) (r := r) k hlt (by rw [← Hq.out]; omega))
        have Hstep := Lib.hid (eqFeet_step (l := l) (r := r) ht.out hlt (by rw [← Hq.out]; omega))
        have q1 := HW1.out (l.getD k default) (by rw [List.getD_eq_getElem?_getD, List.getElem?_eq_getElem hlt]; exact List.getElem_mem hlt)
        have q2 := HW2.out (r.getD k default) (by rw [List.getD_eq_getElem?_getD, List.getElem?_eq_getElem (by rw [← Hq.out]; omega)]; exact List.getElem_mem _)
        have hbs := hbl.out.size
        clear hrow hrow2
        generalize l.getD k default = f at *
        generalize r.getD k default = g at *
        have hki : (k : Int) < (l.length : Int) := by omega
        have hb4 : Below wr.heap.size wr ((wr.alloc (.cells #[.string f.own, .slice A1 f.ways.length k1] 81)).alloc (.cells #[.string g.own, .slice A2 g.ways.length k2] 81)) := ((Below.refl _ wr).alloc (Nat.le_refl _) _).alloc (by simp) _
        have Hs := Lib.hid (samefoot_any f g A1 A2 k1 k2 _ ((x4.below (hb4.mono hbs)).more (Nat.le_trans hbs hb4.size)) ((y4.below (hb4.mono hbs)).more (Nat.le_trans hbs hb4.size)) q1 q2 x3 y3)
        have Hb4 := Lib.hid (hbl.out.trans (hb4.mono hbs))
        clear hb4 x4 y4
        have hbr : b < wr.heap.size := by omega
        have hbr2 : b2 < wr.heap.size := by omega
        have hne1 : b ≠ wr.heap.size := by omega
        have hne2 : b2 ≠ wr.heap.size := by omega
        cases he : eqFt f g with
        | true =>
          rw [he] at Hs
          have Ht := Lib.hid (Hstep.out he)
          clear Hstep Hmiss he
          go_wp2_with fail
          refine Hs.out.mono ?_
          rintro e w5 ⟨rfl, hb5⟩
          have Hb5 := Lib.hid (Hb4.out.trans (hb5.mono Hb4.out.size))
          clear hb5
          go_wp2_with fail
          go_roundw
          case rel => exact ⟨k + 1, by omega, by go_num, Ht, Hb5⟩
          case measure => simp [intOf]; omega
        | false =>
          rw [he] at Hs
          have Hm := Lib.hid (Hmiss.out he)
          clear Hstep Hmiss he
          go_wp2_with fail
          refine Hs.out.mono ?_
          rintro e w5 ⟨rfl, hb5⟩
          have Hb5 := Lib.hid (Hb4.out.trans (hb5.mono Hb4.out.size))
          clear hb5
          go_wp2_with fail
          go_ret
          exact ⟨by rw [Hm.out]; rfl, Hb5.out⟩
      · obtain rfl : k = l.length := by omega
        have Ha := Lib.hid (eqFeet_all Hq.out ht.out)
        go_wp2_with fail
        go_ret
        exact ⟨by rw [Ha.out]; rfl, hbl.out⟩
  · have Hm := Lib.hid (eqFeet_len hq)
    have hi1 : ((l.length : Int) == (r.length : Int)) = false := by simp; omega
    clear hl hr
    go_enter Tryd.func57, Tryd.ntmps57
    go_wp2_with fail
    go_ret
    exact ⟨by rw [Hm.out]; rfl, Below.refl _ _⟩

theorem sameP_no1 {m n : Met} (h : mayB m = false) : sameP m n = false := by unfold sameP; rw [h]; rfl
theorem sameP_no2 {m n : Met} (h : mayB m = true) (h2 : mayB n = false) : sameP m n = false := by unfold sameP; rw [h, h2]; rfl
theorem sameP_yes {m n : Met} (h : mayB m = true) (h2 : mayB n = true) : sameP m n = equalP m n := by unfold sameP; rw [h, h2]; simp

set_option maxRecDepth 100000 in
set_option maxHeartbeats 16000000 in
theorem same_any (Af Ae Ab : Option Addr) (cf ce cb : Nat) (m : Met) (Bf Be Bb : Option Addr) (df de db : Nat) (n : Met) (w : World) (h : IsMet w w.heap.size Af Ae Ab cf ce cb m) (h2 : IsMet w w.heap.size Bf Be Bb df de db n) :
    Calls Tryd.prog 21 #[.agg #[.slice Af m.feet.length cf, .slice Ae m.ends.length ce, .slice Ab m.brks.length cb], .agg #[.slice Bf n.feet.length df, .slice Be n.ends.length de, .slice Bb n.brks.length db]] w fun e w' => e = .returned (.bool (sameP m n)) ∧ Below w.heap.size w w' := by
  generalize hW1 : (w.alloc (.cells #[.slice Af m.feet.length cf, .slice Ae m.ends.length ce, .slice Ab m.brks.length cb] 27)).alloc (.cells #[.slice Bf n.feet.length df, .slice Be n.ends.length de, .slice Bb n.brks.length db] 27) = W1
  have sW1 : W1.heap.size = w.heap.size + 2 := by rw [← hW1]; simp
  have hB1 : Below w.heap.size w W1 := by rw [← hW1]; exact ((Below.refl _ _).alloc (Nat.le_refl _) _).alloc (by simp) _
  have hx1 : W1.heap[w.heap.size]? = some (.cells #[.slice Af m.feet.length cf, .slice Ae m.ends.length ce, .slice Ab m.brks.length cb] 27 (0, 0)) := by
    rw [← hW1]; exact (Below.heap_alloc _ _ _ (by simp)).trans (World.alloc_heap_new w _)
  have hx2 : W1.heap[w.heap.size + 1]? = some (.cells #[.slice Bf n.feet.length df, .slice Be n.ends.length de, .slice Bb n.brks.length db] 27 (0, 0)) := by
    rw [← hW1]
    have := World.alloc_heap_new (w.alloc (.cells #[.slice Af m.feet.length cf, .slice Ae m.ends.length ce, .slice Ab m.brks.length cb] 27)) (.cells #[.slice Bf n.feet.length df, .slice Be n.ends.length de, .slice Bb n.brks.length db] 27)
    rw [World.size_alloc] at this
    exact this
  have HM := Lib.hid (h.on hB1)
  have HN := Lib.hid (h2.on hB1)
  have HW1 := Lib.hid hW1
  have HB1 := Lib.hid hB1
  have Hkeep := Lib.hid fun (W2 : World) (hb2 : Below W1.heap.size W1 W2) =>
    And.intro (And.intro (cell_of_row _ _ 0 _ 27 (0, 0) ((hb2.block w.heap.size (by omega)).trans hx1)) (And.intro (cell_of_row _ _ 1 _ 27 (0, 0) ((hb2.block w.heap.size (by omega)).trans hx1)) (cell_of_row _ _ 2 _ 27 (0, 0) ((hb2.block w.heap.size (by omega)).trans hx1))))
      (And.intro (cell_of_row _ _ 0 _ 27 (0, 0) ((hb2.block (w.heap.size + 1) (by omega)).trans hx2)) (And.intro (cell_of_row _ _ 1 _ 27 (0, 0) ((hb2.block (w.heap.size + 1) (by omega)).trans hx2)) (cell_of_row _ _ 2 _ 27 (0, 0) ((hb2.block (w.heap.size + 1) (by omega)).trans hx2))))
  have Hnext := Lib.hid fun (W2 W3 : World) (hb2 : Below W1.heap.size W1 W2) (hb3 : Below W2.heap.size W2 W3) => hb2.trans (hb3.mono hb2.size)
  obtain ⟨⟨m0, m1, m2⟩, n0, n1, n2⟩ := Hkeep.out W1 (Below.refl _ _)
  have Hch := Lib.hid (check_any Af Ae Ab cf ce cb m W1 HM.out)
  clear h h2 hW1 hB1 hx1 hx2
  go_enter Tryd.func21, Tryd.ntmps21
  go_wp2_with fail
  rw [HW1.out]
  go_wp2_with fail
  refine Hch.out.mono ?_
  rintro e w2 ⟨rfl, hb2⟩
  obtain ⟨⟨p0, p1, p2⟩, r0, r1, r2⟩ := Hkeep.out w2 hb2
  have Hb2 := Lib.hid hb2
  clear m0 m1 m2 n0 n1 n2 hb2
  cases hm : mayB m with
  | false =>
    have hc : checkN m = 2 := by unfold checkN; rw [hm]; rfl
    have Hs := Lib.hid (sameP_no1 (n := n) hm)
    rw [hc]
    clear hc hm
    go_wp2_with fail
    go_ret
    exact ⟨by rw [Hs.out]; rfl, HB1.out.trans (Hb2.out.mono (by omega))⟩
  | true =>
    have hc : checkN m = 0 := by unfold checkN; rw [hm]; rfl
    have Hm := Lib.hid hm
    rw [hc]
    clear hc hm
    have Hch2 := Lib.hid (check_any Bf Be Bb df de db n w2 (HN.out.on Hb2.out))
    go_wp2_with fail
    refine Hch2.out.mono ?_
    rintro e w3 ⟨rfl, hb3⟩
    have Hb3 := Lib.hid (Hnext.out _ _ Hb2.out hb3)
    obtain ⟨⟨m0, m1, m2⟩, n0, n1, n2⟩ := Hkeep.out w3 Hb3.out
    clear p0 p1 p2 r0 r1 r2 hb3
    cases hn : mayB n with
    | false =>
      have hc : checkN n = 2 := by unfold checkN; rw [hn]; rfl
      have Hs := Lib.hid (sameP_no2 Hm.out hn)
      rw [hc]
      clear hc hn
      go_wp2_with fail
      go_ret
      exact ⟨by rw [Hs.out]; rfl, HB1.out.trans (Hb3.out.mono (by omega))⟩
    | true =>
      have hc : checkN n = 0 := by unfold checkN; rw [hn]; rfl
      have Hs := Lib.hid (sameP_yes Hm.out hn)
      rw [hc]
      clear hc hn
      have HM3 := Lib.hid (HM.out.on Hb3.out)
      have HN3 := Lib.hid (HN.out.on Hb3.out)
      have Hef := Lib.hid (eqfeet_any Af Bf cf df m.feet n.feet w3 HM3.out.feet HN3.out.feet HM3.out.bd.feet HN3.out.bd.feet HM3.out.cf HN3.out.cf (fun f hf => (HM3.out.bd.ways f hf).1) (fun f hf => (HN3.out.bd.ways f hf).1))
      go_wp2_with fail
      refine Hef.out.mono ?_
      rintro e w4 ⟨rfl, hb4⟩
      have Hb4 := Lib.hid (Hnext.out _ _ Hb3.out hb4)
      obtain ⟨⟨p0, p1, p2⟩, r0, r1, r2⟩ := Hkeep.out w4 Hb4.out
      clear m0 m1 m2 n0 n1 n2 hb4
      cases h1 : eqFeet m.feet n.feet with
      | false =>
        have He : Hid (equalP m n = false) := Lib.hid (by unfold equalP; rw [h1]; rfl)
        clear h1
        go_wp2_with fail
        go_ret
        exact ⟨by rw [Hs.out, He.out]; rfl, HB1.out.trans (Hb4.out.mono (by omega))⟩
      | true =>
        have He : Hid (equalP m n = (eqL m.ends n.ends && eqL m.brks n.brks)) := Lib.hid (by unfold equalP; rw [h1]; simp)
        clear h1
        have HM4 := Lib.hid (HM.out.on Hb4.out)
        have HN4 := Lib.hid (HN.out.on Hb4.out)
        have Hee := Lib.hid (eqways_any Ae Be ce de m.ends n.ends w4 HM4.out.ends HN4.out.ends HM4.out.bd.ends.1 HN4.out.bd.ends.1 HM4.out.ce HN4.out.ce)
        go_wp2_with fail
        refine Hee.out.mono ?_
        rintro e w5 ⟨rfl, hb5⟩
        have Hb5 := Lib.hid (Hnext.out _ _ Hb4.out hb5)
        obtain ⟨⟨m0, m1, m2⟩, n0, n1, n2⟩ := Hkeep.out w5 Hb5.out
        clear p0 p1 p2 r0 r1 r2 hb5
        cases h1 : eqL m.ends n.ends with
        | false =>
          rw [h1] at He
          clear h1
          go_wp2_with fail
          go_ret
          exact ⟨by rw [Hs.out, He.out]; rfl, HB1.out.trans (Hb5.out.mono (by omega))⟩
        | true =>
          rw [h1] at He
          clear h1
          have HM5 := Lib.hid (HM.out.on Hb5.out)
          have HN5 := Lib.hid (HN.out.on Hb5.out)
          have Heb := Lib.hid (eqbrks_any Ab Bb cb db m.brks n.brks w5 HM5.out.brks HN5.out.brks HM5.out.bd.brks HN5.out.bd.brks HM5.out.cb HN5.out.cb)
          go_wp2_with fail
          refine Heb.out.mono ?_
          rintro e w6 ⟨rfl, hb6⟩
          have Hb6 := Lib.hid (Hnext.out _ _ Hb5.out hb6)
          clear hb6
          go_wp2_with fail
          go_ret
          exact ⟨by rw [Hs.out, He.out, Bool.true_and]; rfl, HB1.out.trans (Hb6.out.mono (by omega))⟩

theorem equal_lenf {m n : Met} (h : ¬ m.feet.length = n.feet.length) : equalP m n = false := by unfold equalP; rw [eqFeet_len h]; rfl
theorem equal_lenb {m n : Met} (h : ¬ m.brks.length = n.brks.length) : equalP m n = false := by unfold equalP; rw [eqL_len h]; simp
theorem equal_ends {m n : Met} (h : eqL m.ends n.ends = false) : equalP m n = false := by unfold equalP; rw [h]; simp
theorem equal_feet {m n : Met} (h : eqFeet m.feet n.feet = false) : equalP m n = false := by unfold equalP; rw [h]; simp
theorem equal_brks {m n : Met} (h : eqL m.brks n.brks = false) : equalP m n = false := by unfold equalP; rw [h]; simp
theorem equal_yes {m n : Met} (h1 : eqFeet m.feet n.feet = true) (h2 : eqL m.ends n.ends = true) (h3 : eqL m.brks n.brks = true) : equalP m n = true := by unfold equalP; rw [h1, h2, h3]; rfl

set_option maxRecDepth 100000 in
set_option maxHeartbeats 16000000 in
theorem refequal_any (Af Ae Ab : Option Addr) (cf ce cb : Nat) (m : Met) (Bf Be Bb : Option Addr) (df de db : Nat) (n : Met) (w : World) (h : IsMet w w.heap.size Af Ae Ab cf ce cb m) (h2 : IsMet w w.heap.size Bf Be Bb df de db n) :
    Calls Tryd.prog 15 #[.agg #[.slice Af m.feet.length cf, .slice Ae m.ends.length ce, .slice Ab m.brks.length cb], .agg #[.slice Bf n.feet.length df, .slice Be n.ends.length de, .slice Bb n.brks.length db]] w fun e w' => e = .returned (.bool (equalP m n)) ∧ Below w.heap.size w w' := by
  generalize hW1 : (w.alloc (.cells #[.slice Af m.feet.length cf, .slice Ae m.ends.length ce, .slice Ab m.brks.length cb] 27)).alloc (.cells #[.slice Bf n.feet.length df, .slice Be n.ends.length de, .slice Bb n.brks.length db] 27) = W1
  have sW1 : W1.heap.size = w.heap.size + 2 := by rw [← hW1]; simp
  have hB1 : Below w.heap.size w W1 := by rw [← hW1]; exact ((Below.refl _ _).alloc (Nat.le_refl _) _).alloc (by simp) _
  have hx1 : W1.heap[w.heap.size]? = some (.cells #[.slice Af m.feet.length cf, .slice Ae m.ends.length ce, .slice Ab m.brks.length cb] 27 (0, 0)) := by
    rw [← hW1]; exact (Below.heap_alloc _ _ _ (by simp)).trans (World.alloc_heap_new w _)
  have hx2 : W1.heap[w.heap.size + 1]? = some (.cells #[.slice Bf n.feet.length df, .slice Be n.ends.length de, .slice Bb n.brks.length db] 27 (0, 0)) := by
    rw [← hW1]
    have := World.alloc_heap_new (w.alloc (.cells #[.slice Af m.feet.length cf, .slice Ae m.ends.length ce, .slice Ab m.brks.length cb] 27)) (.cells #[.slice Bf n.feet.length df, .slice Be n.ends.length de, .slice Bb n.brks.length db] 27)
    rw [World.size_alloc] at this
    exact this
  have HM := Lib.hid (h.on hB1)
  have HN := Lib.hid (h2.on hB1)
  have HW1 := Lib.hid hW1
  have HB1 := Lib.hid hB1
  have Hkeep := Lib.hid fun (W2 : World) (hb2 : Below W1.heap.size W1 W2) =>
    And.intro (And.intro (cell_of_row _ _ 0 _ 27 (0, 0) ((hb2.block w.heap.size (by omega)).trans hx1)) (And.intro (cell_of_row _ _ 1 _ 27 (0, 0) ((hb2.block w.heap.size (by omega)).trans hx1)) (cell_of_row _ _ 2 _ 27 (0, 0) ((hb2.block w.heap.size (by omega)).trans hx1))))
      (And.intro (cell_of_row _ _ 0 _ 27 (0, 0) ((hb2.block (w.heap.size + 1) (by omega)).trans hx2)) (And.intro (cell_of_row _ _ 1 _ 27 (0, 0) ((hb2.block (w.heap.size + 1) (by omega)).trans hx2)) (cell_of_row _ _ 2 _ 27 (0, 0) ((hb2.block (w.heap.size + 1) (by omega)).trans hx2))))
  have Hnext := Lib.hid fun (W2 W3 : World) (hb2 : Below W1.heap.size W1 W2) (hb3 : Below W2.heap.size W2 W3) => hb2.trans (hb3.mono hb2.size)
  obtain ⟨⟨m0, m1, m2⟩, n0, n1, n2⟩ := Hkeep.out W1 (Below.refl _ _)
  have q1 := h.bd.feet
  have q2 := h2.bd.feet
  have q3 := h.bd.brks
  have q4 := h2.bd.brks
  clear h h2 hW1 hB1 hx1 hx2
  by_cases hf : m.feet.length = n.feet.length
  case neg =>
    have Hm := Lib.hid (equal_lenf hf)
    have hi1 : ((m.feet.length : Int) == (n.feet.length : Int)) = false := by simp; omega
    have hi1' : ((m.feet.length : Int) != (n.feet.length : Int)) = true := by simp [bne, hi1]
    clear hf
    go_enter Tryd.func15, Tryd.ntmps15
    go_wp2_with fail
    rw [HW1.out]
    go_wp2_with fail
    go_ret
    exact ⟨by rw [Hm.out]; rfl, HB1.out⟩
  by_cases hbk : m.brks.length = n.brks.length
  case neg =>
    have Hm := Lib.hid (equal_lenb hbk)
    have hi1 : ((m.feet.length : Int) == (n.feet.length : Int)) = true := by simp [hf]
    have hi2 : ((m.brks.length : Int) == (n.brks.length : Int)) = false := by simp; omega
    have hi1' : ((m.feet.length : Int) != (n.feet.length : Int)) = false := by simp [bne, hi1]
    have hi2' : ((m.brks.length : Int) != (n.brks.length : Int)) = true := by simp [bne, hi2]
    have Hf := Lib.hid hf
    clear hbk hf
    go_enter Tryd.func15, Tryd.ntmps15
    go_wp2_with fail
    rw [HW1.out]
    go_wp2_with fail
    go_ret
    exact ⟨by rw [Hm.out]; rfl, HB1.out⟩
  have Hf := Lib.hid hf
  have Hbk := Lib.hid hbk
  have hi1 : ((m.feet.length : Int) == (n.feet.length : Int)) = true := by simp [hf]
  have hi2 : ((m.brks.length : Int) == (n.brks.length : Int)) = true := by simp [hbk]
  have hi1' : ((m.feet.length : Int) != (n.feet.length : Int)) = false := by simp [bne, hi1]
  have hi2' : ((m.brks.length : Int) != (n.brks.length : Int)) = false := by simp [bne, hi2]
  clear hf hbk
  have Hve := Lib.hid (variants_any Ae Be ce de m.ends n.ends W1 HM.out.ends HN.out.ends HM.out.bd.ends.1 HN.out.bd.ends.1 HM.out.ce HN.out.ce)
  go_enter Tryd.func15, Tryd.ntmps15
  go_wp2_with fail
  rw [HW1.out]
  go_wp2_with fail
  refine Hve.out.mono ?_
  rintro e w2 ⟨rfl, hb2⟩
  obtain ⟨⟨p0, p1, p2⟩, r0, r1, r2⟩ := Hkeep.out w2 hb2
  have Hb2 := Lib.hid hb2
  clear m0 m1 m2 n0 n1 n2 hb2 hi1 hi2 hi1' hi2'
  cases h1 : eqL m.ends n.ends with
  | false =>
    have Hm := Lib.hid (equal_ends h1)
    clear h1
    go_wp2_with fail
    go_ret
    exact ⟨by rw [Hm.out]; rfl, HB1.out.trans (Hb2.out.mono (by omega))⟩
  | true =>
    have H1 := Lib.hid h1
    clear h1
    go_wp2_with fail
    go_loopw [34] (fun i wr => ∃ k : Nat, k ≤ m.feet.length ∧ i = .int .i64 k ∧ Hid ((m.feet.map ftP).take k = (n.feet.map ftP).take k) ∧ Hid (Below W1.heap.size W1 wr)) (fun i _ => m.feet.length - (intOf i).toNat)
    case atStart => exact ⟨0, by omega, rfl, Lib.hid rfl, Hb2⟩
    case round =>
      rename_i wr
      obtain ⟨k, hk, rfl, ht, hbl⟩ := hrel
      obtain ⟨⟨m0, m1, m2⟩, n0, n1, n2⟩ := Hkeep.out wr hbl.out
      clear p0 p1 p2 r0 r1 r2
      have hwr : w.heap.size + 1 < wr.heap.size := by have := hbl.out.size; omega
      by_cases hlt : k < m.feet.length
      · obtain ⟨b, off, rfl, hbb, hrow⟩ := (HM.out.below hbl.out).feet (by omega)
        obtain ⟨b2, off2, rfl, hbb2, hrow2⟩ := (HN.out.below hbl.out).feet (by rw [← Hf.out]; omega)
        obtain ⟨x1, A1, k1, x2, x3, x4⟩ := hrow k hlt
        obtain ⟨y1, A2, k2, y2, y3, y4⟩ := hrow2 k (by rw [← Hf.out]; omega)
        have Hmiss := Lib.hid (eqFeet_miss (l := m.feet) (r := n.feet) k hlt (by rw [← Hf.out]; omega))
        have Hstep := Lib.hid (eqFeet_step (l := m.feet) (r := n.feet) ht.out hlt (by rw [← Hf.out]; omega))
        have w1 := (HM.out.bd.ways (m.feet.getD k default) (by rw [List.getD_eq_getElem?_getD, List.getElem?_eq_getElem hlt]; exact List.getElem_mem hlt)).1
        have w2' := (HN.out.bd.ways (n.feet.getD k default) (by rw [List.getD_eq_getElem?_getD, List.getElem?_eq_getElem (by rw [← Hf.out]; omega)]; exact List.getElem_mem _)).1
        have hki : (k : Int) < (m.feet.length : Int) := by omega
        have hki2 : (k : Int) < (n.feet.length : Int) := by rw [← Hf.out]; omega
        have hk0 : (0 : Int) ≤ (k : Int) := by omega
        have hbr : b < wr.heap.size := by have := hbl.out.size; omega
        have hbr2 : b2 < wr.heap.size := by have := hbl.out.size; omega
        clear hrow hrow2
        generalize m.feet.getD k default = f at *
        generalize n.feet.getD k default = g at *
        obtain ⟨o1, l1⟩ := f
        obtain ⟨o2, l2⟩ := g
        simp only [] at x1 x2 x3 x4 y1 y2 y3 y4 w1 w2'
        have hw0 : w.heap.size < wr.heap.size := by omega
        by_cases ho : o1 = o2
        · have He := Lib.hid (eqFt_no2 (f := ⟨o1, l1⟩) (g := ⟨o2, l2⟩) ho)
          have hs : (o1.toList == o2.toList) = true := by rw [ho]; simp
          have Hva := Lib.hid fun (W : World) (hW : Below wr.heap.size wr W) => variants_any A1 A2 k1 k2 l1 l2 W ((x4.below (hW.mono hbl.out.size)).more (Nat.le_trans hbl.out.size hW.size)) ((y4.below (hW.mono hbl.out.size)).more (Nat.le_trans hbl.out.size hW.size)) w1 w2' x3 y3
          subst ho
          cases hv : eqL l1 l2 with
          | true =>
            have Ht := Lib.hid (Hstep.out (by rw [He.out]; exact hv))
            rw [hv] at Hva
            clear hv Hstep Hmiss x4 y4 He
            go_wp2_with fail
            go_region_held3 (fun w' => Below wr.heap.size wr w' ∧ ∀ b o, b < wr.heap.size → w'.cell? ⟨b, o, none⟩ = wr.cell? ⟨b, o, none⟩) (((repeat (apply keepS; assumption)); exact startS)) (first | (go_at_call 50; refine (Hva.out _ (by first | exact startS.1 | exact And.left (by assumption))).mono ?_; rintro e w9 ⟨rfl, hb9⟩))
            have hS9 : Below wr.heap.size wr w9 := And.left (by assumption)
            have Hb9 := Lib.hid (hbl.out.trans (hS9.mono hbl.out.size))
            clear Hva hS9 hb9
            go_wp2_with fail
            go_roundw
            case rel => exact ⟨k + 1, by omega, by go_num, Ht, Hb9⟩
            case measure => simp [intOf]; omega
          | false =>
            have Hm := Lib.hid (equal_feet (Hmiss.out (by rw [He.out]; exact hv)))
            rw [hv] at Hva
            clear hv Hstep Hmiss x4 y4 He
            go_wp2_with fail
            go_region_held3 (fun w' => Below wr.heap.size wr w' ∧ ∀ b o, b < wr.heap.size → w'.cell? ⟨b, o, none⟩ = wr.cell? ⟨b, o, none⟩) (((repeat (apply keepS; assumption)); exact startS)) (first | (go_at_call 50; refine (Hva.out _ (by first | exact startS.1 | exact And.left (by assumption))).mono ?_; rintro e w9 ⟨rfl, hb9⟩))
            have hS9 : Below wr.heap.size wr w9 := And.left (by assumption)
            have Hb9 := Lib.hid (hbl.out.trans (hS9.mono hbl.out.size))
            clear Hva hS9 hb9
            go_wp2_with fail
            go_ret
            exact ⟨by rw [Hm.out]; rfl, HB1.out.trans (Hb9.out.mono (by omega))⟩
        · have Hm := Lib.hid (equal_feet (Hmiss.out (eqFt_no1 ho)))
          have hs : (o1.toList == o2.toList) = false := str_ne ho
          clear ho Hstep Hmiss x4 y4
          go_wp2_with fail
          go_quiet (fail)
          go_wp2_with fail
          go_ret
          exact ⟨by rw [Hm.out]; rfl, HB1.out.trans ((belowD hbl.out _).mono (by omega))⟩
      · obtain rfl : k = m.feet.length := by omega
        have Ha := Lib.hid (eqFeet_all Hf.out ht.out)
        go_wp2_with fail
        go_loopw [70] (fun i wi => ∃ j : Nat, j ≤ m.brks.length ∧ i = .int .i64 j ∧ Hid (m.brks.take j = n.brks.take j) ∧ Hid (Below W1.heap.size W1 wi)) (fun i _ => m.brks.length - (intOf i).toNat)
        case atStart => exact ⟨0, by omega, rfl, Lib.hid rfl, hbl⟩
        case round =>
          obtain ⟨j, hj, rfl, hbt, hbl3⟩ := hrel
          clear m0 m1 m2 n0 n1 n2
          rename_i wz
          obtain ⟨⟨m0, m1, m2⟩, n0, n1, n2⟩ := Hkeep.out _ hbl3.out
          by_cases hjt : j < m.brks.length
          · obtain ⟨b, off, rfl, hbb, hrow⟩ := (HM.out.below hbl3.out).brks (by omega)
            obtain ⟨b2, off2, rfl, hbb2, hrow2⟩ := (HN.out.below hbl3.out).brks (by rw [← Hbk.out]; omega)
            obtain ⟨c1, c2⟩ := hrow j hjt
            obtain ⟨d1, d2⟩ := hrow2 j (by rw [← Hbk.out]; omega)
            have Hmiss := Lib.hid (eqL_miss (a := m.brks) (b := n.brks) j)
            have Hstep := Lib.hid (take_eq_succ hbt.out hjt (by rw [← Hbk.out]; omega))
            have hki : (j : Int) < (m.brks.length : Int) := by omega
            have hki2 : (j : Int) < (n.brks.length : Int) := by rw [← Hbk.out]; omega
            have hk0 : (0 : Int) ≤ (j : Int) := by omega
            clear hrow hrow2
            generalize m.brks.getD j default = v at *
            generalize n.brks.getD j default = u at *
            obtain ⟨v1, v2⟩ := v
            obtain ⟨u1, u2⟩ := u
            simp only [] at c1 c2 d1 d2
            by_cases he : v1 = u1
            · by_cases he2 : v2 = u2
              · have Hs := Lib.hid (Hstep.out (by rw [he, he2]))
                subst he; subst he2
                clear Hstep Hmiss
                go_wp2_with fail
                go_quiet (fail)
                go_wp2_with fail
                go_roundw
                case rel => exact ⟨j + 1, by omega, by go_num, Hs, Lib.hid (belowD hbl3.out _)⟩
                case measure => simp [intOf]; omega
              · have Hm := Lib.hid (equal_brks (Hmiss.out (by intro e; exact he2 (Prod.mk.inj e).2)))
                have hx2 : (v2 == u2) = false := by simpa using he2
                subst he
                clear Hstep Hmiss he2
                go_wp2_with fail
                go_quiet (fail)
                go_wp2_with fail
                go_ret
                exact ⟨by rw [Hm.out]; rfl, HB1.out.trans ((belowD hbl3.out _).mono (by omega))⟩
            · have Hm := Lib.hid (equal_brks (Hmiss.out (by intro e; exact he (Prod.mk.inj e).1)))
              have hx1 : (v1 == u1) = false := by simpa using he
              clear Hstep Hmiss he
              go_wp2_with fail
              go_quiet (fail)
              go_wp2_with fail
              go_ret
              exact ⟨by rw [Hm.out]; rfl, HB1.out.trans ((belowD hbl3.out _).mono (by omega))⟩
          · obtain rfl : j = m.brks.length := by omega
            have Hy := Lib.hid (equal_yes Ha.out H1.out (eqL_all Hbk.out hbt.out))
            go_wp2_with fail
            go_ret
            exact ⟨by rw [Hy.out]; rfl, HB1.out.trans (hbl3.out.mono (by omega))⟩
end Go.Proofs.YtkfkkoefpfmjkaaDoor

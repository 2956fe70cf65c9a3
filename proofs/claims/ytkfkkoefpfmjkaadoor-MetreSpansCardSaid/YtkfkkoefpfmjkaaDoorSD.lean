import Derived.Test.YtkfkkoefpfmjkaaDoorSC
import Derived.Test.YtkfkkoefpfmjkaaDoorVF
import Derived.Laws.StructEq
namespace Go.Proofs.YtkfkkoefpfmjkaaDoor
set_option linter.unusedVariables false
set_option linter.unusedSimpArgs false
open Go.RowKit

/- Law 8: the walk. -/
/-- append of a whole new block, onto a row of the call's own -/
theorem wpList_append_boxm {P : Program} {ops : Array Oper} {rest : List Oper} {o : Oper} {a : Act} {Q : Exit → Act → World → Prop} (w0 : World) (hgd : o.guard = none) (s x : Operand) (t : TypeId)
    (ho : o.op = .call { callee := .builtin .append, args := #[s, x], argTypes := #[t, t] })
    (base : Nat) (e : TypeId) (i : TypeInfo) (z : Value) (size bytes : Nat) (ht : P.underlying t = some (.slice e)) (hi : P.info? e = some i) (hz : i.zero = some z)
    (hsize : i.size = size) (hby : i.bytes = bytes) (hzs : z.cells.size = size) (hsz : 0 < size)
    (v : Value) (n m : Nat) (xs : List Value) (nw : Array Value) (g : Nat) (hs : a.eval s = v) (hx : a.eval x = .slice (some ⟨g, 0, none⟩) m m) (hg : g = w0.heap.size) (hown : w0.ownsRow base e size v n xs)
    (hl : nw.size = m * size) (h1 : ∀ u ∈ nw.toList, u.oneCell' = true)
    (h63 : n + m ≤ maxLen) (hbytes : (n + m) * bytes ≤ 140737488355328) (hbase : base ≤ w0.heap.size)
    (h : ∀ v' w', w'.ownsRow base e size v' (n + m) (xs ++ nw.toList) → w0.grownBy w' v.ownBlock → wpList P ops Q rest (a.put o.dst v') w') : wpList P ops Q (o :: rest) a (w0.alloc (.cells nw e)) := by
  subst hg
  refine wpList_append_own_at (w0.alloc (.cells nw e)) hgd s x t ho base e i z size bytes ht hi hz hsize hby hzs hsz v n xs hs (hown.alloc _) ⟨w0.heap.size, 0, none⟩ m m nw.toList hx (by simp [hl]) ?_ h1 h63 hbytes (by simp; omega) ?_
  · intro j u hu
    rw [addr_add, Nat.zero_add, cell_of_row (w0.alloc (.cells nw e)) w0.heap.size j nw e (0, 0) (World.alloc_heap_new w0 _)]
    simpa using hu
  · intro v' w' h2 h3 _ _
    exact h v' w' h2 (grown_of_alloc h3)

theorem row_drewN {w : World} {b : Nat} {e : TypeId} {sz : Nat} {v : Value} {n : Nat} {xs : List Value} (h : w.ownsRow b e sz v n xs) (k : Nat) : (w.drewN k).ownsRow b e sz v n xs := h
/-- spoiled up to place j -/
def Rest2 (fs : List Ft) (j n : Nat) (xs : List Value) : Prop := xs.length = n * 2 ∧ ∀ q, j ≤ q → q < n → xs[q * 2]? = some (.int .i64 (preL fs q)) ∧ xs[q * 2 + 1]? = some (.int .i64 (preL fs (q + 1)))
theorem Rest2.start (fs : List Ft) (n : Nat) : Rest2 fs 0 n (spanCells fs n) := ⟨spanCells_len fs n, fun q _ hq => spanCells_get fs n q hq⟩
theorem Rest2.step {fs : List Ft} {j n : Nat} {xs : List Value} (h : Rest2 fs j n xs) (a b : Value) : Rest2 fs (j + 1) n ((xs.set (j * 2) a).set (j * 2 + 1) b) := by
  refine ⟨by simp [h.1], fun q h1 h2 => ?_⟩
  obtain ⟨e1, e2⟩ := h.2 q (by omega) h2
  rw [List.getElem?_set_ne (by omega), List.getElem?_set_ne (by omega), List.getElem?_set_ne (by omega), List.getElem?_set_ne (by omega)]
  exact ⟨e1, e2⟩

set_option maxRecDepth 100000 in
set_option maxHeartbeats 8000000 in
theorem spans8_any (Af Ae Ab : Option Addr) (cf ce cb : Nat) (m : Met) (w : World) (h : IsMet w w.heap.size Af Ae Ab cf ce cb m) (hv : Vars w) :
    Calls Tryd.prog 8 #[.agg #[.slice Af m.feet.length cf, .slice Ae m.ends.length ce, .slice Ab m.brks.length cb]] w fun e w' => e = .returned (.bool true) ∧ Below w.heap.size w w' := by
  generalize hW1 : w.alloc (.cells #[.slice Af m.feet.length cf, .slice Ae m.ends.length ce, .slice Ab m.brks.length cb] 27) = W1
  have sW1 : W1.heap.size = w.heap.size + 1 := by rw [← hW1]; simp
  have hB1 : Below w.heap.size w W1 := by rw [← hW1]; exact (Below.refl _ _).alloc (Nat.le_refl _) _
  have m0 : W1.cell? ⟨w.heap.size, 0, none⟩ = some (.slice Af m.feet.length cf) := by rw [← hW1]; simp
  have m1 : W1.cell? ⟨w.heap.size, 1, none⟩ = some (.slice Ae m.ends.length ce) := by rw [← hW1]; simp
  have m2 : W1.cell? ⟨w.heap.size, 2, none⟩ = some (.slice Ab m.brks.length cb) := by rw [← hW1]; simp
  have HM := Lib.hid (h.on hB1)
  have HV := Lib.hid (hv.below hB1 hv.six)
  have HW1 := Lib.hid hW1
  have HB1 := Lib.hid hB1
  have Hkeep := Lib.hid fun (W2 : World) (hb2 : Below W1.heap.size W1 W2) => And.intro ((hb2.cell (p := ⟨w.heap.size, 0, none⟩) (by show w.heap.size < W1.heap.size; omega)).trans m0) (And.intro ((hb2.cell (p := ⟨w.heap.size, 1, none⟩) (by show w.heap.size < W1.heap.size; omega)).trans m1) ((hb2.cell (p := ⟨w.heap.size, 2, none⟩) (by show w.heap.size < W1.heap.size; omega)).trans m2))
  have Hnext := Lib.hid fun (W2 W3 : World) (hb2 : Below W1.heap.size W1 W2) (hb3 : Below W2.heap.size W2 W3) => hb2.trans (hb3.mono hb2.size)
  have Hwk := Lib.hid fun (W2 : World) (hb2 : Below W1.heap.size W1 W2) => wakes_any W2 (HV.out.below hb2 HV.out.six)
  clear h hv hW1 hB1
  go_enter Tryd.func8, Tryd.ntmps8
  go_wp2_with fail
  rw [HW1.out]
  refine (Hwk.out _ (Below.refl _ _)).mono ?_
  rintro e w2 ⟨rfl, hb2⟩
  obtain ⟨q0, q1, q2⟩ := Hkeep.out _ hb2
  have Hb2 := Lib.hid hb2
  have Hmay := Lib.hid (may_any Af Ae Ab cf ce cb m w2 (HM.out.on hb2))
  clear hb2 m0 m1 m2
  go_wp2_with fail
  refine Hmay.out.mono ?_
  rintro e w3 ⟨rfl, hb3⟩
  have Hb3 := Lib.hid (Hnext.out _ _ Hb2.out hb3)
  obtain ⟨p0, p1, p2⟩ := Hkeep.out _ Hb3.out
  clear hb3 q0 q1 q2
  cases hm : mayB m with
  | false =>
    have Hle := Lib.hid (spans_off Af Ae Ab cf ce cb m w3 (HM.out.on Hb3.out) hm)
    clear hm
    go_wp2_with fail
    refine Hle.out.mono ?_
    rintro e w4 ⟨rfl, hb4⟩
    have Hb4 := Lib.hid (Hnext.out _ _ Hb3.out hb4)
    clear hb4
    go_wp2_with fail
    refine (Hwk.out _ Hb4.out).mono ?_
    rintro e w5 ⟨rfl, hb5⟩
    have Hb5 := Lib.hid (Hnext.out _ _ Hb4.out hb5)
    clear hb5
    go_wp2_with fail
    go_ret
    exact ⟨rfl, HB1.out.trans (Hb5.out.mono (by omega))⟩
  | true =>
    have Hm := Lib.hid hm
    have hn1 := (small_of hm).pos
    have hn2 := (small_of hm).feet
    have Hrl := Lib.hid (refspans_any Af Ae Ab cf ce cb m w3 (HM.out.on Hb3.out) hm)
    clear hm
    go_wp2_with fail
    refine Hrl.out.mono ?_
    rintro e w4 ⟨v4, rfl, hv4, hb4⟩
    obtain ⟨g4, cap4, rfl⟩ := own_form hv4 hn1
    have Hv4 := Lib.hid hv4
    have hg4 : g4 < w4.heap.size := (hv4.lt g4 rfl).2
    have Hb4 := Lib.hid (Hnext.out _ _ Hb3.out hb4)
    have hs4 := hb4.size
    clear hb4 p0 p1 p2 hv4 Hrl
    go_wp2_with fail
    go_loopw [6] (fun r wr => ∃ k : Nat, k ≤ 2 ∧ r = .int .i64 k ∧ Hid (Below w4.heap.size w4 wr)) (fun r _ => 2 - (intOf r).toNat)
    case atStart => exact ⟨0, by omega, rfl, Lib.hid (Below.refl _ _)⟩
    case round =>
      rename_i wr
      obtain ⟨k, hk, rfl, hbr⟩ := hrel
      have Hbr := Lib.hid (Hnext.out _ _ Hb4.out hbr.out)
      obtain ⟨p0, p1, p2⟩ := Hkeep.out _ Hbr.out
      by_cases hlt : k < 2
      · obtain ⟨wo, rfl⟩ : ∃ wo : World, wo = wr := ⟨_, rfl⟩
        have Hsp := Lib.hid (spans_any Af Ae Ab cf ce cb m wo (HM.out.on Hbr.out) Hm.out)
        go_wp2_with fail
        refine Hsp.out.mono ?_
        rintro e w5 ⟨v5, rfl, hv5, hb5⟩
        obtain ⟨g5, cap5, rfl⟩ := own_form hv5 hn1
        have hg5 := (hv5.lt g5 rfl).1
        have Hw5 := Lib.hid ((Hv4.out.kept (only_of_below hbr.out none) some_ne).kept (only_of_below hb5 none) some_ne)
        have Hv5 := Lib.hid hv5
        have Hb5 := Lib.hid hb5
        have hsr := hbr.out.size
        have Hcap : Hid (m.feet.length ≤ cap5 ∧ m.feet.length ≤ cap4) := Lib.hid (by
          constructor
          · rcases hv5.2 with ⟨h', _⟩ | ⟨g', cap', cur, h', _, _, hc, _⟩
            · cases h'
            · cases h'; exact hc
          · rcases Hv4.out.2 with ⟨h', _⟩ | ⟨g', cap', cur, h', _, _, hc, _⟩
            · cases h'
            · cases h'; exact hc)
        have hc5 := Hcap.out.1
        have hc4 := Hcap.out.2
        clear hv5 hb5 Hsp p0 p1 p2
        have hne : decide (m.feet.length = m.feet.length) = true := by simp
        go_wp2_with fail
        go_loopw [54] (fun i wi => ∃ (j : Nat) (xs : List Value), j ≤ m.feet.length ∧ i = .int .i64 j ∧ Hid (wi.ownsRow wo.heap.size 68 2 (.slice (some ⟨g5, 0, none⟩) m.feet.length cap5) m.feet.length xs) ∧ Hid (Rest2 m.feet j m.feet.length xs) ∧ Hid (Below wo.heap.size wo wi)) (fun i _ => m.feet.length - (intOf i).toNat)
        case atStart => exact ⟨0, _, by omega, rfl, Hv5, Lib.hid (Rest2.start _ _), Hb5⟩
        case round =>
          obtain ⟨j, xs, hj, rfl, hrow, hrs, hbi⟩ := hrel
          by_cases hjt : j < m.feet.length
          · have hwant := Hv4.out.kept (only_of_below (hbr.out.trans (hbi.out.mono hsr)) none) some_ne
            obtain ⟨e1, e2⟩ := hrs.out.2 j (Nat.le_refl _) hjt
            obtain ⟨f1, f2⟩ := spanCells_get m.feet m.feet.length j hjt
            have c1 := (hrow.out.cellAt (j * 2) (by omega)).trans e1
            have c2 := (hrow.out.cellAt (j * 2 + 1) (by omega)).trans e2
            have d1 := (hwant.cellAt (j * 2) (by omega)).trans f1
            have d2 := (hwant.cellAt (j * 2 + 1) (by omega)).trans f2
            have z1 := hrow.out.frozenAt (j * 2)
            have z2 := hrow.out.frozenAt (j * 2 + 1)
            have hji : (j : Int) < (m.feet.length : Int) := by omega
            have hj0 : (0 : Int) ≤ (j : Int) := by omega
            clear hwant e1 e2 f1 f2
            go_wp2_with fail
            go_quiet (fail)
            go_wp2_with fail
            go_roundw
            case rel => exact ⟨j + 1, _, by omega, by go_num, Lib.hid (((row_drewN hrow.out nq).stored (j * 2) (.int .i64 (-7))).1.stored (j * 2 + 1) (.int .i64 0)).1, Lib.hid (hrs.out.step _ _), Lib.hid (((belowD hbi.out nq).setCell (p := ⟨g5, j * 2, none⟩) hg5 _).setCell (p := ⟨g5, j * 2 + 1, none⟩) hg5 _)⟩
            case measure => simp [intOf]; omega
          · obtain rfl : j = m.feet.length := by omega
            have hsi := hbi.out.size
            go_wp2_with (at_builtin; go_loud (refine wpList_append_boxm _ rfl _ _ 63 rfl wo.heap.size 68 _ _ 2 16 Tryd.underlying63 info68 zero68 size68 bytes68 rfl (by decide) (.slice (some ⟨g5, 0, none⟩) m.feet.length cap5) m.feet.length 2 xs #[.int .i64 0, .int .i64 0, .int .i64 0, .int .i64 0] _ rfl rfl rfl hrow.out rfl (by intro u hu; simp at hu; subst hu; rfl) (by unfold maxLen; omega) (by omega) hsi ?_; intro v7 w7 hown7 hgr7; obtain ⟨g7, cap7, rfl⟩ := own_form hown7 (by omega); have Hb7 := Lib.hid (hbi.out.grown hgr7 hsi (fun q e => (hrow.out.lt q e).1)); clear hown7 hgr7))
            go_roundw
            case rel => exact ⟨k + 1, by omega, by go_num, Lib.hid (hbr.out.trans (Hb7.out.mono hsr))⟩
            case measure => simp [intOf]; omega
      · obtain rfl : k = 2 := by omega
        have Hsy := Lib.hid (refsyllables_any Af Ae Ab cf ce cb m wr (HM.out.on Hbr.out) Hm.out)
        go_wp2_with fail
        refine Hsy.out.mono ?_
        rintro e w5 ⟨rfl, hb5⟩
        have Hb5 := Lib.hid (Hnext.out _ _ Hbr.out hb5)
        obtain ⟨q0, q1, q2⟩ := Hkeep.out _ Hb5.out
        have Hsy2 := Lib.hid (syllables_any Af Ae Ab cf ce cb m w5 (HM.out.on Hb5.out) Hm.out)
        clear hb5 p0 p1 p2 Hsy
        generalize leastSy m = y1 at *
        generalize mostSy m = y2 at *
        go_wp2_with fail
        refine Hsy2.out.mono ?_
        rintro e w6 ⟨rfl, hb6⟩
        have Hb6 := Lib.hid (Hnext.out _ _ Hb5.out hb6)
        obtain ⟨p0, p1, p2⟩ := Hkeep.out _ Hb6.out
        have Hco := Lib.hid (count_any Af Ae Ab cf ce cb m w6 (HM.out.on Hb6.out) Hm.out)
        clear hb6 q0 q1 q2 Hsy2
        go_wp2_with fail
        refine Hco.out.mono ?_
        rintro e w7 ⟨rfl, hb7⟩
        have Hb7 := Lib.hid (Hnext.out _ _ Hb6.out hb7)
        obtain ⟨q0, q1, q2⟩ := Hkeep.out _ Hb7.out
        have Hrc := Lib.hid (refcount_any Af Ae Ab cf ce cb m w7 (HM.out.on Hb7.out) Hm.out)
        clear hb7 p0 p1 p2 Hco
        generalize countP m = y3 at *
        go_wp2_with fail
        refine Hrc.out.mono ?_
        rintro e w8 ⟨rfl, hb8⟩
        have Hb8 := Lib.hid (Hnext.out _ _ Hb7.out hb8)
        clear hb8 q0 q1 q2 Hrc
        go_wp2_with fail
        refine (Hwk.out _ Hb8.out).mono ?_
        rintro e w9 ⟨rfl, hb9⟩
        have Hb9 := Lib.hid (Hnext.out _ _ Hb8.out hb9)
        clear hb9
        go_wp2_with fail
        go_ret
        exact ⟨rfl, HB1.out.trans (Hb9.out.mono (by omega))⟩
end Go.Proofs.YtkfkkoefpfmjkaaDoor

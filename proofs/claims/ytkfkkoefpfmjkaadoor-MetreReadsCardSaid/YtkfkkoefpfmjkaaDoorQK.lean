import Derived.Test.YtkfkkoefpfmjkaaDoorQI
import Derived.Test.YtkfkkoefpfmjkaaDoorMI
namespace Go.Proofs.YtkfkkoefpfmjkaaDoor
set_option linter.unusedVariables false
set_option linter.unusedSimpArgs false
open Go.RowKit

/- The reference's whole. -/
variable {w w1 w' : World} {base b : Nat} {s : ByteArray} {T cap i : Nat} {m : Met} {ec ep : Int} {vf ve vb : Value} {vs : List Value}
def RW (base b : Nat) (s : ByteArray) (T cap : Nat) (w : World) (r : Except (Int × Nat) Met) (e : Ending) (w' : World) : Prop :=
  Below base w w' ∧ match r with
  | .error (c, p) => e = .returned (.bool false) ∧ w'.cell? ⟨b, 4, none⟩ = some (.int .i64 c) ∧ w'.cell? ⟨b, 5, none⟩ = some (.int .i64 p) ∧ b < w'.heap.size
  | .ok m' => e = .returned (.bool true) ∧ Sized m' ∧ ∃ i' ec ep vf ve vb vs, RQ w' base b s T cap i' m' ec ep vf ve vb vs
theorem RW.err {r : Except (Int × Nat) Met} {c : Int} {p : Nat} (h : r = .error (c, p)) (hb : Below base w w') (hr : RQ w' base b s T cap i m c p vf ve vb vs) : RW base b s T cap w r (.returned (.bool false)) w' := by
  subst h; exact ⟨hb, rfl, hr.rr.rb.c4, hr.rr.rb.c5, hr.bl⟩
theorem RW.good {r : Except (Int × Nat) Met} (h : r = .ok m) (hb : Below base w w') (hz : Sized m) (hr : RQ w' base b s T cap i m ec ep vf ve vb vs) : RW base b s T cap w r (.returned (.bool true)) w' := by
  subst h; exact ⟨hb, rfl, hz, i, ec, ep, vf, ve, vb, vs, hr⟩
theorem RG.split {L : List Tok} {r : Res} {e : Ending} (h : RG base b s T cap w r e w') : (∃ c p, r = .error (c, p) ∧ e = .returned (.bool false) ∧ w'.cell? ⟨b, 4, none⟩ = some (.int .i64 c) ∧ w'.cell? ⟨b, 5, none⟩ = some (.int .i64 p) ∧ b < w'.heap.size) ∨
    (∃ L' m' i' ec ep vf ve vb vs, r = .ok (L', m') ∧ e = .returned (.bool true) ∧ (toks s 0).drop i' = L' ∧ RQ w' base b s T cap i' m' ec ep vf ve vb vs) := by
  obtain ⟨_, h⟩ := h
  cases r with
  | error x => obtain ⟨c, p⟩ := x; exact .inl ⟨c, p, rfl, h⟩
  | ok x => obtain ⟨L', m'⟩ := x; obtain ⟨h1, i', ec, ep, vf, ve, vb, vs, h2, h3⟩ := h; exact .inr ⟨L', m', i', ec, ep, vf, ve, vb, vs, rfl, h1, h2, h3⟩
theorem groups_err {f : Nat} {L : List Tok} {x : Int × Nat} (h : groupP L m = .error x) : groupsP (f + 1) L m = .error x := by unfold groupsP; rw [h]
theorem groups_more {f : Nat} {L L' : List Tok} {m' : Met} (h : groupP L m = .ok (L', m')) (hc : eqS (hd L').2 COMMA = true) : groupsP (f + 1) L m = groupsP f (adv L') m' := by
  conv => lhs; unfold groupsP
  rw [h]; simp only [hc, if_true]
theorem groups_last {f : Nat} {L L' : List Tok} {m' : Met} (h : groupP L m = .ok (L', m')) (hc : eqS (hd L').2 COMMA = false) : groupsP (f + 1) L m = clausesP L'.length L' m' := by
  conv => lhs; unfold groupsP
  rw [h]; simp [hc]
theorem clauses_ok {f : Nat} {L : List Tok} (h : (hd L).2.size = 0) : clausesP (f + 1) L m = .ok m := by unfold clausesP; rw [if_pos h]
theorem clauses_bad {f : Nat} {L : List Tok} (h : (hd L).2.size ≠ 0) (hs : eqS (hd L).2 SEMI = false) : clausesP (f + 1) L m = .error (130, (hd L).1) := by unfold clausesP; rw [if_neg h, hs]; rfl
theorem clauses_err {f : Nat} {L : List Tok} {x : Int × Nat} (h : (hd L).2.size ≠ 0) (hs : eqS (hd L).2 SEMI = true) (hc : clauseP (adv L) m = .error x) : clausesP (f + 1) L m = .error x := by unfold clausesP; rw [if_neg h, hs, hc]; rfl
theorem clauses_more {f : Nat} {L L' : List Tok} {m' : Met} (h : (hd L).2.size ≠ 0) (hs : eqS (hd L).2 SEMI = true) (hc : clauseP (adv L) m = .ok (L', m')) : clausesP (f + 1) L m = clausesP f L' m' := by
  conv => lhs; unfold clausesP
  rw [if_neg h, hs, hc]; rfl
set_option maxRecDepth 100000 in
set_option maxHeartbeats 16000000 in
theorem refwhole_any (h : RQ w base b s T cap i m ec ep vf ve vb vs) (hs : s.size ≤ 65536) (hv : Vars w) (h6 : 6 ≤ base) (hz : Sized m) :
    Calls Tryd.prog 42 #[.pointer (some ⟨b, 0, none⟩)] w (RW base b s T cap w (groupsP ((toks s 0).drop i).length ((toks s 0).drop i) m)) := by
  have H := Lib.hid h
  have Hz := Lib.hid hz
  have Hv := Lib.hid hv
  generalize hR : groupsP ((toks s 0).drop i).length ((toks s 0).drop i) m = R
  have HR := Lib.hid hR
  clear h hz hv hR
  go_enter Tryd.func42, Tryd.ntmps42
  go_wp2_with fail
  go_loopg [] ((toks s 0).drop i).length (fun gg wr => ∃ (j : Nat) (m' : Met) (vf' ve' vb' : Value) (vs' : List Value) (ec' ep' : Int), Hid (((toks s 0).drop j).length ≤ gg) ∧ Hid (groupsP gg ((toks s 0).drop j) m' = R) ∧ Hid (Sized m') ∧
    Hid (RQ wr base b s T cap j m' ec' ep' vf' ve' vb' vs') ∧ Hid (Below base w wr))
  case atStart => exact ⟨i, m, vf, ve, vb, vs, ec, ep, Lib.hid (Nat.le_refl _), HR, Hz, H, Lib.hid (Below.refl _ _)⟩
  case round =>
    obtain ⟨j, m', vf', ve', vb', vs', ec', ep', hgk, hP, hzz, hr, hbr⟩ := hrel
    clear H Hz HR
    have hpos : 0 < ((toks s 0).drop j).length := by have := hr.out.hi; rw [List.length_drop]; omega
    obtain ⟨q, rfl⟩ : ∃ q, gk = q + 1 := ⟨gk - 1, by have := hgk.out; omega⟩
    have hgr := refgroup_any hr.out (Hv.out.below hbr.out h6) h6 hs hzz.out.feet
    have Hgr := Lib.hid hgr
    clear hgr
    go_wp2_with fail
    refine Hgr.out.mono ?_
    rintro e w2 hg2
    have Hb2 := Lib.hid (hbr.out.trans hg2.1)
    rcases hg2.split (L := []) with ⟨c, p, hge, rfl, k4, k5, kb⟩ | ⟨L2, m2, j2, e2, p2, vf2, ve2, vb2, vs2, hge, rfl, hj2, hr2⟩
    · have Hfin : Hid (RW base b s T cap w R (.returned (.bool false)) w2) := Lib.hid (by rw [← hP.out, groups_err hge]; exact ⟨Hb2.out, rfl, k4, k5, kb⟩)
      clear hg2 hge k4 k5 kb
      go_wp2_with fail
      go_ret
      exact Hfin.out
    · have H2 := Lib.hid hr2
      have HJ2 := Lib.hid hj2
      have Hge := Lib.hid hge
      have Hgk := Lib.hid (group_ok hge hzz.out)
      clear hg2 hge hr2 hj2 Hgr
      have c0 := H2.out.rr.rb.c0
      have z0 := H2.out.rr.rb.z 0
      have t0 := H2.out.t0
      have t1 := H2.out.t1
      unfold tokV at c0
      have hN7 : 0 < (toks s 0).length - j2 := by have := H2.out.hi; omega
      have hcp7 : (toks s 0).length - j2 ≤ cap - j2 := by have := H2.out.caps; omega
      have Hcur7 : Hid (Cur s ((toks s 0).drop j2)) := Lib.hid (drop_cur H2.out.hi)
      have HA7 := Lib.hid (fun h0 => drop_adv (s := s) (i := j2) H2.out.hi h0)
      have HN7 : Hid ((hd ((toks s 0).drop j2)).2.size ≠ 0 → 2 ≤ (toks s 0).length - j2) := Lib.hid fun h0 => by have := cur_two Hcur7.out h0; simpa using this
      have HRx7 := Lib.hid fun h0 => H2.out.next h0
      have hbl7 := H2.out.bl
      rw [HJ2.out] at t0 t1 Hcur7 HA7 HN7 HRx7
      have HBx := Lib.hid (Hb2.out.setCell (p := ⟨b, 0, none⟩) H2.out.rr.hb (.slice (some ⟨T, j2 * 2 + 2, none⟩) ((toks s 0).length - j2 - 1) (cap - j2 - 1)))
      have hq7 : eqS (hd L2).2 COMMA = ((hd L2).2.toList == [44]) := eqS_comma _
      generalize hNe7 : (toks s 0).length - j2 = N7 at *
      generalize hCe7 : cap - j2 = C7 at *
      have HNe7 := Lib.hid hNe7
      have HCe7 := Lib.hid hCe7
      clear hNe7 hCe7
      cases hc : eqS (hd L2).2 COMMA with
      | true =>
        have hne : ((hd L2).2.toList == [44]) = true := by rw [← hq7, hc]
        have hne2 : ((hd L2).2.toList != [44]) = false := by simp only [bne, hne]; rfl
        have hz7 : (hd L2).2.size ≠ 0 := fun e => by rw [list_nil e] at hne; cases hne
        have Hw := Lib.hid (groups_more (f := q) Hge.out hc)
        have Hlt := Lib.hid (comma_lt Hcur7.out hc)
        have hN2 := HN7.out hz7
        have HR8 := Lib.hid (HRx7.out hz7)
        have HJ3 := Lib.hid (HA7.out hz7).2
        have hC1 : ¬ C7 = 1 := by omega
        clear hc hq7 hz7 HRx7 HA7 HN7
        go_wp2_with fail
        go_roundg q
        case measure => omega
        case rel => exact ⟨j2 + 1, _, _, _, _, _, e2, p2, Lib.hid (by rw [HJ3.out]; have := hgk.out; have := Hlt.out; have := Hgk.out.2.2.1; omega), Lib.hid (by rw [HJ3.out]; exact Hw.out.symm.trans hP.out), Lib.hid Hgk.out.1, HR8, HBx⟩
      | false =>
        have hne : ((hd L2).2.toList == [44]) = false := by rw [← hq7, hc]
        have hne2 : ((hd L2).2.toList != [44]) = true := by simp only [bne, hne]; rfl
        have HW0 : Hid (clausesP ((toks s 0).drop j2).length ((toks s 0).drop j2) m2 = R) := Lib.hid (by rw [HJ2.out]; exact (groups_last (f := q) Hge.out hc).symm.trans hP.out)
        have HzS := Lib.hid Hgk.out.1
        have HzF := Lib.hid Hgk.out.2.2.2
        clear hc hq7 HRx7 HA7 HN7
        go_upto_region 5 with (fail)
        clear c0 z0 t0 t1 hne hne2 hN7 hcp7 hbl7 HBx Hcur7 hpos
        obtain ⟨wo, hwo⟩ : ∃ wo : World, wo = wr := ⟨_, rfl⟩
        subst hwo
        clear hr hbr hgk hP hzz Hge Hgk HNe7 HCe7
        go_loopg [] ((toks s 0).drop j2).length (fun gg wr => ∃ (j : Nat) (m' : Met) (vf' ve' vb' : Value) (vs' : List Value) (ec' ep' : Int), Hid (((toks s 0).drop j).length ≤ gg) ∧ Hid (clausesP gg ((toks s 0).drop j) m' = R) ∧ Hid (Sized m') ∧ Hid (0 < m'.feet.length) ∧
          Hid (RQ wr base b s T cap j m' ec' ep' vf' ve' vb' vs') ∧ Hid (Below base w wr))
        case atStart => exact ⟨j2, m2, vf2, ve2, vb2, vs2, e2, p2, Lib.hid (Nat.le_refl _), HW0, HzS, HzF, H2, Hb2⟩
        case round =>
          obtain ⟨j3, m3, vf3, ve3, vb3, vs3, e3, p3, hgk, hP, hzz, hzf, hr, hbr⟩ := hrel
          clear H2 Hb2 HW0 HzS HzF HJ2
          have hpos : 0 < ((toks s 0).drop j3).length := by have := hr.out.hi; rw [List.length_drop]; omega
          obtain ⟨q2, rfl⟩ : ∃ q2, gk = q2 + 1 := ⟨gk - 1, by have := hgk.out; omega⟩
          have c0 := hr.out.rr.rb.c0
          have z0 := hr.out.rr.rb.z 0
          have t0 := hr.out.t0
          have t1 := hr.out.t1
          unfold tokV at c0
          have hN8 : 0 < (toks s 0).length - j3 := by have := hr.out.hi; omega
          have hcp8 : (toks s 0).length - j3 ≤ cap - j3 := by have := hr.out.caps; omega
          have Hcur8 : Hid (Cur s ((toks s 0).drop j3)) := Lib.hid (drop_cur hr.out.hi)
          have HA8 := Lib.hid (fun h0 => drop_adv (s := s) (i := j3) hr.out.hi h0)
          have HN8 : Hid ((hd ((toks s 0).drop j3)).2.size ≠ 0 → 2 ≤ (toks s 0).length - j3) := Lib.hid fun h0 => by have := cur_two Hcur8.out h0; simpa using this
          have HRx8 := Lib.hid fun h0 => hr.out.next h0
          have hbl8 := hr.out.bl
          have HBx := Lib.hid (hbr.out.setCell (p := ⟨b, 0, none⟩) hr.out.rr.hb (.slice (some ⟨T, j3 * 2 + 2, none⟩) ((toks s 0).length - j3 - 1) (cap - j3 - 1)))
          have hfl := fail_any 130 (hd ((toks s 0).drop j3)) hr.out
          generalize hLL : (toks s 0).drop j3 = L3 at *
          have HLL := Lib.hid hLL
          clear hLL
          have hq7 : eqS (hd L3).2 SEMI = ((hd L3).2.toList == [59]) := eqS_semi _
          generalize htk : hd L3 = tk at *
          obtain ⟨p, t⟩ := tk
          have Htk := Lib.hid htk
          clear htk
          unfold tokA at hfl
          simp only [] at t0 t1 HN8 HA8 HRx8 hfl hq7
          have Hfl := Lib.hid hfl
          clear hfl
          generalize (toks s 0).length - j3 = N8 at *
          generalize cap - j3 = C8 at *
          cases hc : eqS t SEMI with
          | true =>
            have hne : (t.toList == [59]) = true := by rw [← hq7, hc]
            have hz8 : t.size ≠ 0 := fun e => by rw [list_nil e] at hne; cases hne
            have Hsz : Hid ((hd L3).2.size ≠ 0) := Lib.hid (by rw [Htk.out]; exact hz8)
            have Hsm : Hid (eqS (hd L3).2 SEMI = true) := Lib.hid (by rw [Htk.out]; exact hc)
            have Hlt := Lib.hid (semi_lt Hcur8.out Hsm.out)
            have hN2 := HN8.out hz8
            have hR8 := HRx8.out hz8
            have HJ3 := Lib.hid (HA8.out hz8).2
            have hC1 : ¬ C8 = 1 := by omega
            generalize hw5 : wr.setCell ⟨b, 0, none⟩ (.slice (some ⟨T, j3 * 2 + 2, none⟩) (N8 - 1) (C8 - 1)) = w5 at hR8 HBx
            have H5 := Lib.hid hR8
            have Hw5 := Lib.hid hw5
            clear hc hq7 hz8 HRx8 HA8 HN8 hw5 hR8 Hfl
            have hcl := refclause_any H5.out hs (Hv.out.below HBx.out h6) h6 hzz.out hzf.out
            rw [HJ3.out] at hcl
            have Hcl := Lib.hid hcl
            clear hcl
            go_upto_region 7 with (fail)
            rw [Hw5.out]
            clear c0 z0 t0 t1 hne Hw5
            go_wp2_with fail
            refine Hcl.out.mono ?_
            rintro e w6 hg6
            have Hb6 := Lib.hid (HBx.out.trans hg6.1.1)
            have hz6 := hg6.2
            rcases hg6.1.split (L := []) with ⟨c, p, hge, rfl, k4, k5, kb⟩ | ⟨L6, m6, j6, e6, p6, vf6, ve6, vb6, vs6, hge, rfl, hj6, hr6⟩
            · have Hfin : Hid (RW base b s T cap w R (.returned (.bool false)) w6) := Lib.hid (by rw [← hP.out, clauses_err Hsz.out Hsm.out hge]; exact ⟨Hb6.out, rfl, k4, k5, kb⟩)
              clear hg6 hge k4 k5 kb hz6
              go_wp2_with fail
              go_ret
              exact Hfin.out
            · have H6 := Lib.hid hr6
              have HJ6 := Lib.hid hj6
              have Hge := Lib.hid hge
              rw [hge] at hz6
              have Hz6 : Hid (Sized m6) := Lib.hid hz6
              have Hf6 : Hid (0 < m6.feet.length) := Lib.hid (by rw [clause_feet hge]; exact hzf.out)
              have Hl6 := Lib.hid (clause_len hge)
              clear hg6 hge hr6 hj6 hz6
              go_wp2_with fail
              go_roundg q2
              case measure => omega
              case rel => exact ⟨j6, m6, vf6, ve6, vb6, vs6, e6, p6, Lib.hid (by rw [HJ6.out]; have := hgk.out; have := Hlt.out; have := Hl6.out; omega), Lib.hid (by rw [HJ6.out]; exact (clauses_more (f := q2) Hsz.out Hsm.out Hge.out).symm.trans hP.out), Hz6, Hf6, H6, Hb6⟩
          | false =>
            have hne : (t.toList == [59]) = false := by rw [← hq7, hc]
            have Hsm : Hid (eqS (hd L3).2 SEMI = false) := Lib.hid (by rw [Htk.out]; exact hc)
            clear hc hq7 HRx8 HA8 HN8
            by_cases hz8 : t.size = 0
            · have hne2 : (t.toList == []) = true := by rw [list_nil hz8]; rfl
              have hne3 : t.toList = [] := list_nil hz8
              have HR := Lib.hid (hP.out.symm.trans (clauses_ok (f := q2) (m := m3) (L := L3) (by rw [Htk.out]; exact hz8)))
              clear hz8
              go_wp2_with fail
              go_ret
              exact RW.good HR.out hbr.out hzz.out hr.out
            · have hne2 : (t.toList == []) = false := by
                rw [beq_eq_false_iff_ne]; intro e
                rw [ByteArray.toList_eq] at e
                have h2 := congrArg List.length e
                rw [Array.length_toList] at h2
                exact hz8 h2
              have hne3 : ¬ t.toList = [] := by simpa using hne2
              have hne4 : (!t.toList.isEmpty) = true := by simpa using hne3
              have hne5 : t.toList.isEmpty = false := by simpa using hne3
              have HR := Lib.hid (hP.out.symm.trans (clauses_bad (f := q2) (m := m3) (L := L3) (by rw [Htk.out]; exact hz8) Hsm.out))
              clear hz8
              go_wp2_with fail
              refine Hfl.out.mono ?_
              rintro e w' ⟨rfl, hr9, hb9⟩
              have HR9 := Lib.hid hr9
              have HB9 := Lib.hid (hbr.out.grown hb9 hr.out.bs (fun k e => by cases e; exact hr.out.rr.hb))
              clear hr9 hb9
              go_wp2_with fail
              go_ret
              exact RW.err (HR.out.trans (by rw [Htk.out])) HB9.out HR9.out
end Go.Proofs.YtkfkkoefpfmjkaaDoor
namespace Go.Proofs.YtkfkkoefpfmjkaaDoor
set_option linter.unusedVariables false
set_option linter.unusedSimpArgs false
open Go.RowKit

/- The reference's Read. -/
theorem read_end12 {w W : World} {T : Array Value} {Q : Ending → World → Prop} {v0 v1 v2 v3 v4 : Value} (h2 : T.getD 2 undef = .pointer (some ⟨w.heap.size, 0, none⟩)) (h3 : T.getD 3 undef = .pointer (some ⟨w.heap.size + 1, 0, none⟩))
    (r0 : W.heap[w.heap.size]? = some (.cells #[v0, v1, v2] 27 (0, 0))) (r1 : W.heap[w.heap.size + 1]? = some (.cells #[v3, v4] 30 (0, 0))) (hQ : Q (.returned (.tuple #[.agg #[v0, v1, v2], .agg #[v3, v4]])) W) :
    bodyPost Tryd.prog Tryd.f12 Q Exit.ret { tmps := T, defers := [] } W := by
  have d0 : W.cell? ⟨w.heap.size, 0, none⟩ = some v0 := cell_of_row _ _ _ _ 27 (0, 0) r0
  have d1 : W.cell? ⟨w.heap.size, 1, none⟩ = some v1 := cell_of_row _ _ _ _ 27 (0, 0) r0
  have d2 : W.cell? ⟨w.heap.size, 2, none⟩ = some v2 := cell_of_row _ _ _ _ 27 (0, 0) r0
  have d3 : W.cell? ⟨w.heap.size + 1, 0, none⟩ = some v3 := cell_of_row _ _ _ _ 30 (0, 0) r1
  have d4 : W.cell? ⟨w.heap.size + 1, 1, none⟩ = some v4 := cell_of_row _ _ _ _ 30 (0, 0) r1
  have h2' : T[2]?.getD undef = .pointer (some ⟨w.heap.size, 0, none⟩) := by simpa using h2
  have h3' : T[3]?.getD undef = .pointer (some ⟨w.heap.size + 1, 0, none⟩) := by simpa using h3
  refine bodyPost_ret (v := .tuple #[.agg #[v0, v1, v2], .agg #[v3, v4]]) ?_ rfl hQ
  simp [results, Tryd.f12, go_sem, h2', h3', d0, d1, d2, d3, d4, Tryd.isAgg27, Tryd.isAgg30, Tryd.sizeOf27, Tryd.sizeOf30]
theorem RR.om {w : World} {base b : Nat} {lv : Value} {m : Met} {ec ep : Int} {vf ve vb : Value} {vs : List Value} (h : RR w base b lv m ec ep vf ve vb vs) : OM w base m vf ve vb vs := ⟨h.vl, h.feet, h.ways, h.ends, h.brks, h.apart⟩
theorem RQ.start {w2 : World} {base T cap : Nat} {s : ByteArray} (hb : base ≤ w2.heap.size) (ht : w2.ownsRow base 151 2 (.slice (some ⟨T, 0, none⟩) (toks s 0).length cap) (toks s 0).length (tokCells (toks s 0))) :
    RQ (w2.alloc (.cells #[.slice (some ⟨T, 0, none⟩) (toks s 0).length cap, .slice none 0 0, .slice none 0 0, .slice none 0 0, .int .i64 0, .int .i64 0] 85)) base w2.heap.size s T cap 0 Met.zero 0 0 nilV nilV nilV [] := by
  have e : tokV s T cap 0 = .slice (some ⟨T, 0, none⟩) (toks s 0).length cap := by unfold tokV; simp
  refine ⟨⟨?_, hb, rfl, World.ownsRow_nil _ _ _ _, fun k hk => (by simp [Met.zero] at hk), World.ownsRow_nil _ _ _ _, World.ownsRow_nil _ _ _ _, ?_⟩, ht.alloc _, toks_pos s 0⟩
  · unfold RBr; rw [e]; exact World.alloc_heap_new w2 _
  · intro i j k hi hj hne h1 h2
    simp at hi hj; omega
set_option maxRecDepth 100000 in
set_option maxHeartbeats 16000000 in
theorem refread_any (s : ByteArray) (w : World) (hv : Vars w) :
    Calls Tryd.prog 12 #[.string s] w (ReadOk s w) := by
  by_cases hs6 : 65536 < s.size
  · have HR2 : Hid (readP s = .error (3, 65536)) := Lib.hid (by unfold readP; rw [if_pos hs6])
    go_enter Tryd.func12, Tryd.ntmps12
    go_upto_region 2 with (fail)
    generalize hw1 : (w.alloc (.cells #[.slice none 0 0, .slice none 0 0, .slice none 0 0] 27)).alloc (.cells #[.int .i64 0, .int .i64 0] 30) = w1
    have x2 : w1.heap[w.heap.size]? = some (.cells #[nilV, nilV, nilV] 27 (0, 0)) := by rw [← hw1]; exact (Below.heap_alloc _ _ _ (by simp)).trans (World.alloc_heap_new w _)
    have x3 : w1.heap[w.heap.size + 1]? = some (.cells #[.int .i64 0, .int .i64 0] 30 (0, 0)) := by
      rw [← hw1]
      have := World.alloc_heap_new (w.alloc (.cells #[.slice none 0 0, .slice none 0 0, .slice none 0 0] 27)) (.cells #[.int .i64 0, .int .i64 0] 30)
      rw [World.size_alloc] at this
      exact this
    have hb1 : Below w.heap.size w w1 := by rw [← hw1]; exact ((Below.refl _ _).alloc (Nat.le_refl _) _).alloc (by simp) _
    have k0 : w1.cell? ⟨w.heap.size, 0, none⟩ = some (.slice none 0 0) := cell_of_row _ _ _ _ 27 (0, 0) x2
    have k1 : w1.cell? ⟨w.heap.size, 1, none⟩ = some (.slice none 0 0) := cell_of_row _ _ _ _ 27 (0, 0) x2
    have k2 : w1.cell? ⟨w.heap.size, 2, none⟩ = some (.slice none 0 0) := cell_of_row _ _ _ _ 27 (0, 0) x2
    have l0 : w1.cell? ⟨w.heap.size + 1, 0, none⟩ = some (.int .i64 0) := cell_of_row _ _ _ _ 30 (0, 0) x3
    have l1 : w1.cell? ⟨w.heap.size + 1, 1, none⟩ = some (.int .i64 0) := cell_of_row _ _ _ _ 30 (0, 0) x3
    have z0 := frozen_of_row w1 w.heap.size 0 _ 27 x2
    have z1 := frozen_of_row w1 w.heap.size 1 _ 27 x2
    have z2 := frozen_of_row w1 w.heap.size 2 _ 27 x2
    have y0 := frozen_of_row w1 (w.heap.size + 1) 0 _ 30 x3
    have y1 := frozen_of_row w1 (w.heap.size + 1) 1 _ 30 x3
    have Hb1 := Lib.hid hb1
    have X2 := Lib.hid x2
    have X3 := Lib.hid x3
    clear hb1 hw1 x2 x3
    go_wp2_with fail
    obtain ⟨hbe, r0, r1⟩ := five_cells (v0 := .slice none 0 0) (v1 := .slice none 0 0) (v2 := .slice none 0 0) (v3 := .int .i64 3) (v4 := .int .i64 65536) Hb1.out X2.out X3.out rfl
    exact read_end12 rfl rfl r0 r1 ⟨hbe, by rw [HR2.out]; rfl⟩
  · have hs : s.size ≤ 65536 := by omega
    have HR2 : Hid (readP s = groupsP (toks s 0).length (toks s 0) Met.zero) := Lib.hid (by unfold readP; rw [if_neg hs6])
    go_enter Tryd.func12, Tryd.ntmps12
    go_upto_region 3 with (fail)
    generalize hw1 : (w.alloc (.cells #[.slice none 0 0, .slice none 0 0, .slice none 0 0] 27)).alloc (.cells #[.int .i64 0, .int .i64 0] 30) = w1
    have x2 : w1.heap[w.heap.size]? = some (.cells #[nilV, nilV, nilV] 27 (0, 0)) := by rw [← hw1]; exact (Below.heap_alloc _ _ _ (by simp)).trans (World.alloc_heap_new w _)
    have x3 : w1.heap[w.heap.size + 1]? = some (.cells #[.int .i64 0, .int .i64 0] 30 (0, 0)) := by
      rw [← hw1]
      have := World.alloc_heap_new (w.alloc (.cells #[.slice none 0 0, .slice none 0 0, .slice none 0 0] 27)) (.cells #[.int .i64 0, .int .i64 0] 30)
      rw [World.size_alloc] at this
      exact this
    have Hs1 : Hid (w1.heap.size = w.heap.size + 2) := Lib.hid (by rw [← hw1]; simp)
    have Hb1 : Hid (Below w.heap.size w w1) := Lib.hid (by rw [← hw1]; exact ((Below.refl _ _).alloc (Nat.le_refl _) _).alloc (by simp) _)
    have Hv1 := Lib.hid (hv.below Hb1.out hv.six)
    have X2 := Lib.hid x2
    have X3 := Lib.hid x3
    have H6 := Lib.hid hv.six
    clear hw1 x2 x3 hs6 hv
    go_wp2_with fail
    refine (tokens_any s w1 hs).mono ?_
    rintro e w2 ⟨T, cap, rfl, ht, hb2⟩
    have hrq := RQ.start hb2.size ht
    have Hb2 := Lib.hid hb2
    have Hsz2 : Hid (w1.heap.size ≤ w2.heap.size) := Lib.hid hb2.size
    generalize hw3 : w2.alloc (.cells #[.slice (some ⟨T, 0, none⟩) (toks s 0).length cap, .slice none 0 0, .slice none 0 0, .slice none 0 0, .int .i64 0, .int .i64 0] 85) = w3 at hrq
    have Hb3 : Hid (Below w1.heap.size w1 w3) := Lib.hid (by rw [← hw3]; exact hb2.alloc hb2.size _)
    have HW3 := Lib.hid hw3
    have hwh := refwhole_any hrq hs (Hv1.out.below Hb3.out (by have := Hs1.out; have := H6.out; omega)) (by have := Hs1.out; have := H6.out; omega) ⟨by simp [Met.zero], fun k hk => by simp [Met.zero] at hk, by simp [Met.zero], by simp [Met.zero, aheadOf]⟩
    rw [List.drop_zero, ← HR2.out] at hwh
    have Hwh := Lib.hid hwh
    clear ht hb2 hw3 hrq hwh
    go_upto_region 4 with (fail)
    rw [HW3.out]
    clear HW3
    go_wp2_with fail
    refine Hwh.out.mono ?_
    rintro e w4 ⟨hb4, hr4⟩
    have Hb4 : Hid (Below w.heap.size w w4) := Lib.hid (Hb1.out.trans ((Hb3.out.trans hb4).mono (by have := Hs1.out; omega)))
    have X2' : Hid (w4.heap[w.heap.size]? = some (.cells #[nilV, nilV, nilV] 27 (0, 0))) := Lib.hid (((Hb3.out.trans hb4).block _ (by have := Hs1.out; omega)).trans X2.out)
    have X3' : Hid (w4.heap[w.heap.size + 1]? = some (.cells #[.int .i64 0, .int .i64 0] 30 (0, 0))) := Lib.hid (((Hb3.out.trans hb4).block _ (by have := Hs1.out; omega)).trans X3.out)
    have k0 : w4.cell? ⟨w.heap.size, 0, none⟩ = some (.slice none 0 0) := cell_of_row _ _ _ _ 27 (0, 0) X2'.out
    have k1 : w4.cell? ⟨w.heap.size, 1, none⟩ = some (.slice none 0 0) := cell_of_row _ _ _ _ 27 (0, 0) X2'.out
    have k2 : w4.cell? ⟨w.heap.size, 2, none⟩ = some (.slice none 0 0) := cell_of_row _ _ _ _ 27 (0, 0) X2'.out
    have l0 : w4.cell? ⟨w.heap.size + 1, 0, none⟩ = some (.int .i64 0) := cell_of_row _ _ _ _ 30 (0, 0) X3'.out
    have l1 : w4.cell? ⟨w.heap.size + 1, 1, none⟩ = some (.int .i64 0) := cell_of_row _ _ _ _ 30 (0, 0) X3'.out
    have z0 := frozen_of_row w4 w.heap.size 0 _ 27 X2'.out
    have z1 := frozen_of_row w4 w.heap.size 1 _ 27 X2'.out
    have z2 := frozen_of_row w4 w.heap.size 2 _ 27 X2'.out
    have y0 := frozen_of_row w4 (w.heap.size + 1) 0 _ 30 X3'.out
    have y1 := frozen_of_row w4 (w.heap.size + 1) 1 _ 30 X3'.out
    have hb2ne : w2.heap.size ≠ w.heap.size := by have := Hsz2.out; have := Hs1.out; omega
    have hb2ne1 : w2.heap.size ≠ w.heap.size + 1 := by have := Hsz2.out; have := Hs1.out; omega
    cases hrp : readP s with
    | error x =>
      obtain ⟨c, p⟩ := x
      rw [hrp] at hr4
      obtain ⟨rfl, k4, k5, kb⟩ := hr4
      have HRp := Lib.hid hrp
      clear hrp hb4 Hwh HR2
      go_wp2_with fail
      go_region_with (fail)
      all_goals
        go_wp2_with fail
        obtain ⟨hbe, r0, r1⟩ := five_cells (v0 := .slice none 0 0) (v1 := .slice none 0 0) (v2 := .slice none 0 0) (v3 := .int .i64 c) (v4 := .int .i64 p) Hb4.out X2'.out X3'.out rfl
        exact read_end12 (W := World.drew _) rfl rfl r0 r1 ⟨hbe.drew, by rw [HRp.out]; rfl⟩
    | ok m' =>
      rw [hrp] at hr4
      obtain ⟨rfl, hz, i', ec, ep, vf, ve, vb, vs, hr⟩ := hr4
      have HRp := Lib.hid hrp
      obtain ⟨Af, cf, rfl⟩ := own_slice hr.rr.feet
      obtain ⟨Ae, ce, rfl⟩ := own_slice hr.rr.ends
      obtain ⟨Ab, cb, rfl⟩ := own_slice hr.rr.brks
      have c1 := hr.rr.rb.c1
      have c2 := hr.rr.rb.c2
      have c3 := hr.rr.rb.c3
      have HOM := Lib.hid hr.rr.om
      have Hz := Lib.hid hz
      clear hrp hb4 Hwh HR2 hr hz
      go_wp2_with fail
      obtain ⟨hbe, r0, r1⟩ := five_cells (v0 := .slice Af m'.feet.length cf) (v1 := .slice Ae m'.ends.length ce) (v2 := .slice Ab m'.brks.length cb) (v3 := .int .i64 0) (v4 := .int .i64 0) Hb4.out X2'.out X3'.out rfl
      refine read_end12 rfl rfl r0 r1 ⟨hbe, ?_⟩
      rw [HRp.out]
      have hlt0 : w.heap.size < w1.heap.size := by have := Hs1.out; omega
      have hlt1 : w.heap.size + 1 < w1.heap.size := by have := Hs1.out; omega
      exact ⟨Hz.out, _, _, _, vs, rfl, (((((HOM.out.put hlt0 _ _).put hlt0 _ _).put hlt0 _ _).put hlt1 _ _).put hlt1 _ _).base_le (by omega)⟩
end Go.Proofs.YtkfkkoefpfmjkaaDoor

import Derived.Test.YtkfkkoefpfmjkaaDoorQE
namespace Go.Proofs.YtkfkkoefpfmjkaaDoor
set_option linter.unusedVariables false
set_option linter.unusedSimpArgs false
open Go.RowKit

/- The reference's group. -/
theorem numE_pos {t : ByteArray} {lo hi : Int} (h : (numE t lo hi).2 = 0) : t.size ≠ 0 := by
  unfold numE at h
  cases hn : numB t with
  | none => rw [hn] at h; exact absurd (show (130 : Int) = 0 from h) (by decide)
  | some v => exact fig_size (numB_some hn).1
theorem footB_pos {t : ByteArray} (h : (footB t).2 = 0) : t.size ≠ 0 := by
  intro e
  have e2 : footB t = (⟨#[]⟩, 130) := by
    unfold footB
    have hsg : signsB t 1 4 = false := by
      unfold signsB; rw [e]; simp
    rw [if_neg (by rw [hsg]; simp)]
    exact if_pos (.inl e)
  rw [e2] at h
  exact absurd h (by decide)
variable {w w1 w' : World} {base b : Nat} {s : ByteArray} {T cap i : Nat} {m : Met} {ec ep : Int} {vf ve vb : Value} {vs : List Value}
/-- what a part of the reference's reader comes to -/
def RG (base b : Nat) (s : ByteArray) (T cap : Nat) (w : World) (r : Res) (e : Ending) (w' : World) : Prop :=
  Below base w w' ∧ match r with
  | .error (c, p) => e = .returned (.bool false) ∧ w'.cell? ⟨b, 4, none⟩ = some (.int .i64 c) ∧ w'.cell? ⟨b, 5, none⟩ = some (.int .i64 p) ∧ b < w'.heap.size
  | .ok (L', m') => e = .returned (.bool true) ∧ ∃ i' ec ep vf ve vb vs, (toks s 0).drop i' = L' ∧ RQ w' base b s T cap i' m' ec ep vf ve vb vs
theorem RG.err {r : Res} {c : Int} {p : Nat} (h : r = .error (c, p)) (hb : Below base w w') (hr : RQ w' base b s T cap i m c p vf ve vb vs) : RG base b s T cap w r (.returned (.bool false)) w' := by
  subst h; exact ⟨hb, rfl, hr.rr.rb.c4, hr.rr.rb.c5, hr.bl⟩
theorem RG.good {r : Res} {L : List Tok} (h : r = .ok (L, m)) (hL : (toks s 0).drop i = L) (hb : Below base w w') (hr : RQ w' base b s T cap i m ec ep vf ve vb vs) : RG base b s T cap w r (.returned (.bool true)) w' := by
  subst h; exact ⟨hb, rfl, i, ec, ep, vf, ve, vb, vs, hL, hr⟩
set_option maxRecDepth 100000 in
set_option maxHeartbeats 16000000 in
theorem refgroup_any (h : RQ w base b s T cap i m ec ep vf ve vb vs) (hv : Vars w) (h6 : 6 ≤ base) (hs : s.size ≤ 65536) (h16 : m.feet.length ≤ 16) :
    Calls Tryd.prog 86 #[.pointer (some ⟨b, 0, none⟩)] w (RG base b s T cap w (groupP ((toks s 0).drop i) m)) := by
  have c0 := h.rr.rb.c0
  have t0 := h.t0
  have t1 := h.t1
  have hN : 0 < (toks s 0).length - i := by have := h.hi; omega
  have hcp : (toks s 0).length - i ≤ cap - i := by have := h.caps; omega
  have hi0 := h.hi
  have hbl := h.bl
  have H1 := Lib.hid (h.below ((Below.refl w.heap.size w).alloc (Nat.le_refl _) (.cells #[.int .i64 (hd ((toks s 0).drop i)).1, .string (hd ((toks s 0).drop i)).2] 151)))
  have Hb1 : Hid (World.grownBy w (w.alloc (.cells #[.int .i64 (hd ((toks s 0).drop i)).1, .string (hd ((toks s 0).drop i)).2] 151)) (some b)) := Lib.hid (only_alloc (only_refl w _) _)
  have Hv := Lib.hid (hv.below (gb_below Hb1.out h.bs h.rr.hb) h6)
  have Hgb := Lib.hid (fun (W : World) (hg : w.grownBy W (some b)) => gb_below hg h.bs h.rr.hb)
  unfold tokV at c0
  have HX : Hid ((w.alloc (.cells #[.int .i64 (hd ((toks s 0).drop i)).1, .string (hd ((toks s 0).drop i)).2] 151)).heap[w.heap.size]? = _) := Lib.hid (World.alloc_heap_new w _)
  have hsz1 : (w.alloc (.cells #[.int .i64 (hd ((toks s 0).drop i)).1, .string (hd ((toks s 0).drop i)).2] 151)).heap.size = w.heap.size + 1 := by simp
  have hP : groupP ((toks s 0).drop i) m = if figB (hd ((toks s 0).drop i)).2 then (if (numE (hd ((toks s 0).drop i)).2 1 16).2 = 0 then groupTail (numE (hd ((toks s 0).drop i)).2 1 16).1 (hd ((toks s 0).drop i)).1 (adv ((toks s 0).drop i)) m else .error ((numE (hd ((toks s 0).drop i)).2 1 16).2, (hd ((toks s 0).drop i)).1)) else groupTail 1 (hd ((toks s 0).drop i)).1 ((toks s 0).drop i) m := rfl
  have HAd := Lib.hid (fun h0 => drop_adv (s := s) (i := i) hi0 h0)
  have Hin := Lib.hid (fun h => numE_in (t := (hd ((toks s 0).drop i)).2) (lo := 1) (hi := 16) h)
  have Hps := Lib.hid (fun h => numE_pos (t := (hd ((toks s 0).drop i)).2) (lo := 1) (hi := 16) h)
  clear h hv
  generalize hW1 : w.alloc (.cells #[.int .i64 (hd ((toks s 0).drop i)).1, .string (hd ((toks s 0).drop i)).2] 151) = W1 at H1 Hb1 HX hsz1 Hv
  have HW1 := Lib.hid hW1
  clear hW1
  have hnum := refnumber_any 1 16 H1.out Hv.out h6 hs
  have Hnum := Lib.hid hnum
  clear hnum
  generalize hLL : (toks s 0).drop i = L at *
  have HLL := Lib.hid hLL
  clear hLL
  generalize htk : hd L = tk at *
  have Htk := Lib.hid htk
  clear htk
  generalize (toks s 0).length - i = N at *
  generalize cap - i = C at *
  obtain ⟨p, t⟩ := tk
  simp only [] at t0 t1 HW1 HX hP HAd Hin Hps
  have HF := Lib.hid (reffigure_any t)
  go_enter Tryd.func86, Tryd.ntmps86
  go_upto_region 2 with (fail)
  rw [HW1.out]
  have x0 : W1.cell? ⟨w.heap.size, 0, none⟩ = some (.int .i64 p) := cell_of_row _ _ _ _ 151 (0, 0) HX.out
  have x1 : W1.cell? ⟨w.heap.size, 1, none⟩ = some (.string t) := cell_of_row _ _ _ _ 151 (0, 0) HX.out
  have hxs : w.heap.size < W1.heap.size := by omega
  clear t0 t1 c0 HW1 hsz1
  cases hf : figB t with
  | true =>
    rw [hf, if_pos rfl] at hP
    have HFt : Hid (Calls Tryd.prog 108 #[.string t] W1 fun e w' => e = .returned (.bool true) ∧ W1 = w') := Lib.hid (by have := HF.out W1; rw [hf] at this; exact this)
    unfold RNumOk at Hnum
    simp only [] at Hnum
    generalize hE : numE t 1 16 = E at *
    obtain ⟨n, er⟩ := E
    simp only [] at Hnum Hin hP Hps
    by_cases h0 : er = 0
    · subst h0
      rw [if_pos rfl] at hP
      have HP := Lib.hid hP
      have Hn := Lib.hid (Hin.out rfl)
      have HJ := Lib.hid (HAd.out (Hps.out rfl)).2
      clear hf hE hP Hin Hps HAd
      go_wp2_with fail
      refine HFt.out.mono ?_
      rintro e w' ⟨rfl, rfl⟩
      go_wp2_with fail
      refine Hnum.out.mono ?_
      rintro e w2 ⟨hb2, hr2⟩
      simp only [eq_self, if_true] at hr2
      obtain ⟨rfl, hr2⟩ := hr2
      have H2 := Lib.hid hr2
      have HB2 := Lib.hid (gtr Hb1.out hb2)
      have Hy : Hid (w2.heap[w.heap.size]? = some (.cells #[.int .i64 p, .string t] 151 (0, 0))) := Lib.hid ((hb2.block w.heap.size hxs (by simp; omega)).trans HX.out)
      have y0 : w2.cell? ⟨w.heap.size, 0, none⟩ = some (.int .i64 p) := cell_of_row _ _ _ _ 151 (0, 0) Hy.out
      have y1 : w2.cell? ⟨w.heap.size, 1, none⟩ = some (.string t) := cell_of_row _ _ _ _ 151 (0, 0) Hy.out
      clear hr2 hb2 x0 x1
      have hft := reffoot_any H2.out hs
      rw [HJ.out] at hft
      have T1 := Lib.hid (fun er => tail_err (n := n) (at0 := p) (L := (adv L)) (m := m) (er := er))
      have T2 := Lib.hid (tail_long (n := n) (at0 := p) (L := (adv L)) (m := m))
      have T3 := Lib.hid (tail_ok (n := n) (at0 := p) (L := (adv L)) (m := m))
      have HA2 := Lib.hid (fun h0 => drop_adv (s := s) (i := (i + 1)) H2.out.hi h0)
      have Hfp := Lib.hid (fun h => footB_pos (t := (hd (adv L)).2) h)
      rw [HJ.out] at HA2
      unfold RFootOk at hft
      generalize hF : footB (hd (adv L)).2 = F at *
      obtain ⟨own, er⟩ := F
      simp only [] at hft T1 T2 T3 Hfp
      have Hft := Lib.hid hft
      clear hft hF
      go_wp2_with fail
      refine Hft.out.mono ?_
      rintro e w3 ⟨hb3, hr3⟩
      have HB3 := Lib.hid (gtr HB2.out hb3)
      have q0 : w3.cell? ⟨w.heap.size, 0, none⟩ = some (.int .i64 p) := (World.cell?_of_block (hb3.block w.heap.size (Array.getElem?_eq_some_iff.1 Hy.out).1 (by simp; omega))).trans y0
      have q1 : w3.cell? ⟨w.heap.size, 1, none⟩ = some (.string t) := (World.cell?_of_block (hb3.block w.heap.size (Array.getElem?_eq_some_iff.1 Hy.out).1 (by simp; omega))).trans y1
      by_cases h0 : er = 0
      · subst h0
        simp only [eq_self, if_true] at hr3
        obtain ⟨rfl, hr3⟩ := hr3
        have H3 := Lib.hid hr3
        have HD := Lib.hid (HA2.out (Hfp.out rfl)).2
        clear hr3 hb3 HA2 Hfp Hft y0 y1
        obtain ⟨A0, cc0, hvf⟩ := own_slice H3.out.rr.feet
        subst hvf
        have d1 := H3.out.rr.rb.c1
        have hn1 := Hn.out.1
        have hn2 := Hn.out.2
        by_cases hlong : (m.feet.length : Int) + n ≤ 16
        · have HP2 := Lib.hid (HP.out.trans (T3.out rfl hlong))
          have HB3b := Lib.hid (Hgb.out _ HB3.out)
          clear T1 T2 T3 q0 q1
          go_wp2_with fail
          go_loopw [9] (fun q wr => ∃ (k : Nat) (vf' : Value) (vs' : List Value), (k : Int) ≤ n ∧ q = .int .i64 k ∧ Hid (RQ wr base b s T cap ((i + 1) + 1) (m.more k own) ec ep vf' ve vb vs') ∧ Hid (Below base w wr)) (fun q _ => (n : Int).toNat - (intOf q).toNat)
          case atStart => exact ⟨0, _, vs, by omega, rfl, Lib.hid (by rw [Met.more_zero]; exact H3.out), HB3b⟩
          case round =>
            rename_i wr
            obtain ⟨k, vf', vs', hk, rfl, hr, hbr⟩ := hrel
            clear d1
            by_cases hlt : (k : Int) < n
            · have f1 := hr.out.rr.rb.c1
              have z1 := hr.out.rr.rb.z 1
              have hrb := hr.out.bl
              have hfe := hr.out.rr.feet
              rw [Met.more_len] at hfe
              have hmk : (m.more k own).feet.length = m.feet.length + k := Met.more_len _ _ _
              obtain ⟨A, cc, hvs⟩ := own_slice hfe
              have hne : vf'.ownBlock ≠ some b := by rcases own_neb hr.out.rr.feet hr.out.rr.rb (by decide) with e | e; · rw [e]; simp
                                                     · exact e
              have Hfoot := Lib.hid fun (w4 : World) (v4 : Value) ho hg => hr.out.foot (w1 := w4) (own := own) (v' := v4) (by rw [hmk]; exact ho) hg
              have hrs := hr.out.bs
              have Hzc := Lib.hid fun (w4 : World) (hg : wr.grownBy w4 vf'.ownBlock) => And.intro ((World.frozen?_of_block (w := wr) (w' := w4) (a := ⟨b, 1, none⟩) (hg.block b hrb (fun e => hne e.symm))).trans z1) ((World.cell?_of_block (w := wr) (w' := w4) (a := ⟨b, 1, none⟩) (hg.block b hrb (fun e => hne e.symm))).trans f1)
              have hfb : ∀ q, vf'.ownBlock = some q → base ≤ q := fun q hq => (hfe.lt q hq).1
              have Hbel := Lib.hid fun (w4 : World) (hg : wr.grownBy w4 vf'.ownBlock) (v4 : Value) => (hbr.out.grown hg hrs hfb).setCell (show base ≤ b from hr.out.rr.hb) v4 (p := ⟨b, 1, none⟩)
              have Hfe := Lib.hid hfe
              have hk16 : m.feet.length + k < 16 := by omega
              clear hr hfe hfb hmk hne hbr
              subst hvs
              go_wp2_with (at_builtin; go_loud (refine wpList_append_boxg _ rfl _ _ 23 rfl base 81 _ _ 2 40 Tryd.underlying23 info81 zero81 size81 bytes81 rfl (by decide) (.slice A (m.feet.length + k) cc) (m.feet.length + k) (ftCells (m.more k own).feet vs') _ _ rfl rfl ?c0 (by exact Hfe.out) rfl ?c1 ?c2 ?c3 ?c4 ?_; rotate_right; intro v1 w4 hown1 hg1 hat1; obtain ⟨g1, cap1, rfl⟩ := own_form hown1 (by omega); obtain ⟨hz1, hc3⟩ := Hzc.out _ hg1; have Hfin := Lib.hid (Hfoot.out _ _ hown1 hg1); have Hfin2 := Lib.hid (Hbel.out _ hg1 (.slice (some ⟨g1, 0, none⟩) (m.feet.length + k + 1) cap1)); clear hown1 hg1 hat1))
              case c0 => simp
              case c1 => exact ⟨rfl, rfl⟩
              case c2 => unfold maxLen; omega
              case c3 => omega
              case c4 => exact hrs
              go_roundw
              case rel => exact ⟨k + 1, _, _, by omega, by go_num, Lib.hid (by rw [← Met.more_succ]; exact Hfin.out), Hfin2⟩
              case measure => simp [intOf]; omega
            · have hkn : k = (n : Int).toNat := by omega
              have HP3 : Hid (groupP L m = .ok (adv (adv L), m.more k own)) := Lib.hid (by rw [hkn]; exact HP2.out)
              clear hkn
              go_wp2_with fail
              go_ret
              exact RG.good HP3.out HD.out hbr.out hr.out
        · have HP2 := Lib.hid (HP.out.trans (T2.out rfl (by omega)))
          have hfl := fail_any 3 (p, t) H3.out
          unfold tokA at hfl
          simp only [] at hfl
          have Hfl := Lib.hid hfl
          clear T1 T2 T3 hfl
          go_wp2_with fail
          refine Hfl.out.mono ?_
          rintro e w' ⟨rfl, hr9, hb9⟩
          have HR9 := Lib.hid hr9
          have HB9 := Lib.hid (Hgb.out _ (gtr HB3.out hb9))
          clear hr9 hb9
          go_wp2_with fail
          go_ret
          exact RG.err HP2.out HB9.out HR9.out
      · rw [if_neg h0] at hr3
        obtain ⟨rfl, hr3⟩ := hr3
        have HR9 := Lib.hid hr3
        have HB9 := Lib.hid (Hgb.out _ HB3.out)
        have HP2 := Lib.hid (HP.out.trans (T1.out _ rfl h0))
        clear hr3 hb3
        go_wp2_with fail
        go_ret
        exact RG.err HP2.out HB9.out HR9.out
    · rw [if_neg h0] at hP
      have HP := Lib.hid hP
      have H0 := Lib.hid h0
      clear hf hE hP Hin Hps HAd
      go_wp2_with fail
      refine HFt.out.mono ?_
      rintro e w' ⟨rfl, rfl⟩
      go_wp2_with fail
      refine Hnum.out.mono ?_
      rintro e w2 ⟨hb2, hr2⟩
      rw [if_neg h0] at hr2
      obtain ⟨rfl, hr2⟩ := hr2
      have HR9 := Lib.hid hr2
      have HB9 := Lib.hid (Hgb.out _ (gtr Hb1.out hb2))
      clear hr2 hb2
      go_wp2_with fail
      go_ret
      exact RG.err HP.out HB9.out HR9.out
  | false =>
    rw [hf, if_neg (by decide)] at hP
    have HP := Lib.hid hP
    have HFt : Hid (Calls Tryd.prog 108 #[.string t] W1 fun e w' => e = .returned (.bool false) ∧ W1 = w') := Lib.hid (by have := HF.out W1; rw [hf] at this; exact this)
    have Hn : Hid ((1 : Int) ≤ 1 ∧ (1 : Int) ≤ 16) := Lib.hid (by omega)
    have HJ := HLL
    have Hy := HX
    clear hP hf Hin Hps HAd Hnum
    have y0 := x0
    have y1 := x1
    clear x0 x1
    go_wp2_with fail
    refine HFt.out.mono ?_
    rintro e w2 ⟨rfl, rfl⟩
    have hft := reffoot_any H1.out hs
    rw [HJ.out] at hft
    have T1 := Lib.hid (fun er => tail_err (n := (1 : Int)) (at0 := p) (L := L) (m := m) (er := er))
    have T2 := Lib.hid (tail_long (n := (1 : Int)) (at0 := p) (L := L) (m := m))
    have T3 := Lib.hid (tail_ok (n := (1 : Int)) (at0 := p) (L := L) (m := m))
    have HA2 := Lib.hid (fun h0 => drop_adv (s := s) (i := i) H1.out.hi h0)
    have Hfp := Lib.hid (fun h => footB_pos (t := (hd L).2) h)
    rw [HJ.out] at HA2
    unfold RFootOk at hft
    generalize hF : footB (hd L).2 = F at *
    obtain ⟨own, er⟩ := F
    simp only [] at hft T1 T2 T3 Hfp
    have Hft := Lib.hid hft
    clear hft hF
    go_wp2_with fail
    refine Hft.out.mono ?_
    rintro e w3 ⟨hb3, hr3⟩
    have HB3 := Lib.hid (gtr Hb1.out hb3)
    have q0 : w3.cell? ⟨w.heap.size, 0, none⟩ = some (.int .i64 p) := (World.cell?_of_block (hb3.block w.heap.size (Array.getElem?_eq_some_iff.1 Hy.out).1 (by simp; omega))).trans y0
    have q1 : w3.cell? ⟨w.heap.size, 1, none⟩ = some (.string t) := (World.cell?_of_block (hb3.block w.heap.size (Array.getElem?_eq_some_iff.1 Hy.out).1 (by simp; omega))).trans y1
    by_cases h0 : er = 0
    · subst h0
      simp only [eq_self, if_true] at hr3
      obtain ⟨rfl, hr3⟩ := hr3
      have H3 := Lib.hid hr3
      have HD := Lib.hid (HA2.out (Hfp.out rfl)).2
      clear hr3 hb3 HA2 Hfp Hft y0 y1
      obtain ⟨A0, cc0, hvf⟩ := own_slice H3.out.rr.feet
      subst hvf
      have d1 := H3.out.rr.rb.c1
      have hn1 := Hn.out.1
      have hn2 := Hn.out.2
      by_cases hlong : (m.feet.length : Int) + (1 : Int) ≤ 16
      · have HP2 := Lib.hid (HP.out.trans (T3.out rfl hlong))
        have HB3b := Lib.hid (Hgb.out _ HB3.out)
        clear T1 T2 T3 q0 q1
        go_wp2_with fail
        go_loopw [9] (fun q wr => ∃ (k : Nat) (vf' : Value) (vs' : List Value), (k : Int) ≤ (1 : Int) ∧ q = .int .i64 k ∧ Hid (RQ wr base b s T cap (i + 1) (m.more k own) ec ep vf' ve vb vs') ∧ Hid (Below base w wr)) (fun q _ => ((1 : Int) : Int).toNat - (intOf q).toNat)
        case atStart => exact ⟨0, _, vs, by omega, rfl, Lib.hid (by rw [Met.more_zero]; exact H3.out), HB3b⟩
        case round =>
          rename_i wr
          obtain ⟨k, vf', vs', hk, rfl, hr, hbr⟩ := hrel
          clear d1
          by_cases hlt : (k : Int) < (1 : Int)
          · have f1 := hr.out.rr.rb.c1
            have z1 := hr.out.rr.rb.z 1
            have hrb := hr.out.bl
            have hfe := hr.out.rr.feet
            rw [Met.more_len] at hfe
            have hmk : (m.more k own).feet.length = m.feet.length + k := Met.more_len _ _ _
            obtain ⟨A, cc, hvs⟩ := own_slice hfe
            have hne : vf'.ownBlock ≠ some b := by rcases own_neb hr.out.rr.feet hr.out.rr.rb (by decide) with e | e; · rw [e]; simp
                                                   · exact e
            have Hfoot := Lib.hid fun (w4 : World) (v4 : Value) ho hg => hr.out.foot (w1 := w4) (own := own) (v' := v4) (by rw [hmk]; exact ho) hg
            have hrs := hr.out.bs
            have Hzc := Lib.hid fun (w4 : World) (hg : wr.grownBy w4 vf'.ownBlock) => And.intro ((World.frozen?_of_block (w := wr) (w' := w4) (a := ⟨b, 1, none⟩) (hg.block b hrb (fun e => hne e.symm))).trans z1) ((World.cell?_of_block (w := wr) (w' := w4) (a := ⟨b, 1, none⟩) (hg.block b hrb (fun e => hne e.symm))).trans f1)
            have hfb : ∀ q, vf'.ownBlock = some q → base ≤ q := fun q hq => (hfe.lt q hq).1
            have Hbel := Lib.hid fun (w4 : World) (hg : wr.grownBy w4 vf'.ownBlock) (v4 : Value) => (hbr.out.grown hg hrs hfb).setCell (show base ≤ b from hr.out.rr.hb) v4 (p := ⟨b, 1, none⟩)
            have Hfe := Lib.hid hfe
            have hk16 : m.feet.length + k < 16 := by omega
            clear hr hfe hfb hmk hne hbr
            subst hvs
            go_wp2_with (at_builtin; go_loud (refine wpList_append_boxg _ rfl _ _ 23 rfl base 81 _ _ 2 40 Tryd.underlying23 info81 zero81 size81 bytes81 rfl (by decide) (.slice A (m.feet.length + k) cc) (m.feet.length + k) (ftCells (m.more k own).feet vs') _ _ rfl rfl ?c0 (by exact Hfe.out) rfl ?c1 ?c2 ?c3 ?c4 ?_; rotate_right; intro v1 w4 hown1 hg1 hat1; obtain ⟨g1, cap1, rfl⟩ := own_form hown1 (by omega); obtain ⟨hz1, hc3⟩ := Hzc.out _ hg1; have Hfin := Lib.hid (Hfoot.out _ _ hown1 hg1); have Hfin2 := Lib.hid (Hbel.out _ hg1 (.slice (some ⟨g1, 0, none⟩) (m.feet.length + k + 1) cap1)); clear hown1 hg1 hat1))
            case c0 => simp
            case c1 => exact ⟨rfl, rfl⟩
            case c2 => unfold maxLen; omega
            case c3 => omega
            case c4 => exact hrs
            go_roundw
            case rel => exact ⟨k + 1, _, _, by omega, by go_num, Lib.hid (by rw [← Met.more_succ]; exact Hfin.out), Hfin2⟩
            case measure => simp [intOf]; omega
          · have hkn : k = ((1 : Int) : Int).toNat := by omega
            have HP3 : Hid (groupP L m = .ok (adv L, m.more k own)) := Lib.hid (by rw [hkn]; exact HP2.out)
            clear hkn
            go_wp2_with fail
            go_ret
            exact RG.good HP3.out HD.out hbr.out hr.out
      · have HP2 := Lib.hid (HP.out.trans (T2.out rfl (by omega)))
        have hfl := fail_any 3 (p, t) H3.out
        unfold tokA at hfl
        simp only [] at hfl
        have Hfl := Lib.hid hfl
        clear T1 T2 T3 hfl
        go_wp2_with fail
        refine Hfl.out.mono ?_
        rintro e w' ⟨rfl, hr9, hb9⟩
        have HR9 := Lib.hid hr9
        have HB9 := Lib.hid (Hgb.out _ (gtr HB3.out hb9))
        clear hr9 hb9
        go_wp2_with fail
        go_ret
        exact RG.err HP2.out HB9.out HR9.out
    · rw [if_neg h0] at hr3
      obtain ⟨rfl, hr3⟩ := hr3
      have HR9 := Lib.hid hr3
      have HB9 := Lib.hid (Hgb.out _ HB3.out)
      have HP2 := Lib.hid (HP.out.trans (T1.out _ rfl h0))
      clear hr3 hb3
      go_wp2_with fail
      go_ret
      exact RG.err HP2.out HB9.out HR9.out
end Go.Proofs.YtkfkkoefpfmjkaaDoor

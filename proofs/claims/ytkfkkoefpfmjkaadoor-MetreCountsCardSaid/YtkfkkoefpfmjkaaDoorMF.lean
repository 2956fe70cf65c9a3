import Derived.Test.YtkfkkoefpfmjkaaDoorME
namespace Go.Proofs.YtkfkkoefpfmjkaaDoor
set_option linter.unusedVariables false
set_option linter.unusedSimpArgs false
open Go.RowKit

/- group. -/
theorem number_rs (b : Nat) (t : ByteArray) (lo hi : Int) (w : World) (hc : w.cell? ⟨b, 2, none⟩ = some (.string t)) (hb : b < w.heap.size) (hv : Vars w) (ht : t.size ≤ 65536) :
    Calls Tryd.prog 49 #[.pointer (some ⟨b, 0, none⟩), .int .i64 lo, .int .i64 hi] w fun e w' => e = .returned (.tuple #[.int .i64 (numE t lo hi).1, .int .i64 (numE t lo hi).2]) ∧ Below w.heap.size w w' := by
  refine (number_any b t lo hi w hc hb hv ht).mono ?_
  rintro e w' ⟨rfl, hb⟩
  refine ⟨?_, hb⟩
  unfold numE
  cases numB t with
  | none => rfl
  | some n =>
    simp only []
    by_cases h : n < lo ∨ n > hi
    · rw [if_pos h, if_pos h, if_pos h]
    · rw [if_neg h, if_neg h, if_neg h]
theorem numE_in {t : ByteArray} {lo hi : Int} (h : (numE t lo hi).2 = 0) : lo ≤ (numE t lo hi).1 ∧ (numE t lo hi).1 ≤ hi := by
  unfold numE at h ⊢
  cases hn : numB t with
  | none => rw [hn] at h; simp at h
  | some n =>
    rw [hn] at h
    simp only [] at h ⊢
    by_cases h' : n < lo ∨ n > hi
    · rw [if_pos h'] at h; simp at h
    · rw [if_neg h']; simp only []; omega
theorem own_slice {w : World} {B e z n : Nat} {v : Value} {x : List Value} (h : w.ownsRow B e z v n x) : ∃ A c, v = .slice A n c := by
  rcases h.2 with ⟨rfl, h0⟩ | ⟨g, cap, cur, rfl, _⟩
  · exact ⟨none, 0, by rw [h0]⟩
  · exact ⟨_, cap, rfl⟩
def sliceA : Value → Option Addr | .slice A _ _ => A | _ => none
def sliceC : Value → Nat | .slice _ _ c => c | _ => 0
theorem slice_own {w : World} {B e z n : Nat} {v : Value} {x : List Value} (h : w.ownsRow B e z v n x) : v = .slice (sliceA v) n (sliceC v) := by
  obtain ⟨A, c, rfl⟩ := own_slice h; rfl
/-- what a part of the reader comes to -/
def PartOk (base b : Nat) (s : ByteArray) (ah : Int) (w : World) (r : Res) (ok : Value) (no : Int → Nat → Value) (e : Ending) (w' : World) : Prop :=
  Below base w w' ∧ match r with
  | .error (c, p) => e = .returned (no c p) ∧ c ≠ 0
  | .ok (L', m') => e = .returned ok ∧ Cur s L' ∧ ∃ vf ve vb vs, RS w' base b s (hd L').1 (hd L').2 m' ah vf ve vb vs
def groupOk : Value := .tuple #[.int .i64 0, .int .i64 0]
def groupNo (c : Int) (p : Nat) : Value := .tuple #[.int .i64 c, .int .i64 p]
def Met.more (m : Met) (k : Nat) (own : ByteArray) : Met := { m with feet := m.feet ++ List.replicate k (plainFt own) }
theorem Met.more_zero (m : Met) (own : ByteArray) : m.more 0 own = m := by simp [Met.more]
theorem Met.more_succ (m : Met) (k : Nat) (own : ByteArray) : { m.more k own with feet := (m.more k own).feet ++ [plainFt own] } = m.more (k + 1) own := by simp [Met.more, List.replicate_succ']
theorem Met.more_len (m : Met) (k : Nat) (own : ByteArray) : (m.more k own).feet.length = m.feet.length + k := by simp [Met.more]

theorem tail_err {n : Int} {at0 : Nat} {L : List Tok} {m : Met} {er : Int} (h : (footB (hd L).2).2 = er) (h0 : er ≠ 0) : groupTail n at0 L m = .error (er, (hd L).1) := by
  unfold groupTail; rw [h, if_neg h0]
theorem tail_long {n : Int} {at0 : Nat} {L : List Tok} {m : Met} (h : (footB (hd L).2).2 = 0) (h0 : ¬ (m.feet.length : Int) + n ≤ 16) : groupTail n at0 L m = .error (3, at0) := by
  unfold groupTail; rw [if_pos h, if_neg h0]
theorem tail_ok {n : Int} {at0 : Nat} {L : List Tok} {m : Met} (h : (footB (hd L).2).2 = 0) (h0 : (m.feet.length : Int) + n ≤ 16) : groupTail n at0 L m = .ok (adv L, m.more n.toNat (footB (hd L).2).1) := by
  unfold groupTail; rw [if_pos h, if_pos h0]; rfl
variable {w : World} {base b : Nat} {s : ByteArray} {m : Met} {ah : Int} {vf ve vb : Value} {vs : List Value} {L : List Tok}
set_option maxRecDepth 100000 in
set_option maxHeartbeats 16000000 in
theorem group_any (h : RS w base b s (hd L).1 (hd L).2 m ah vf ve vb vs) (hL : Cur s L) (hs : s.size ≤ 65536) (hv : Vars w) (h6 : 6 ≤ base) (h16 : m.feet.length ≤ 16) :
    Calls Tryd.prog 44 #[.pointer (some ⟨b, 0, none⟩)] w (PartOk base b s ah w (groupP L m) groupOk groupNo) := by
  have c1 := h.rb.c1
  have c2 := h.rb.c2
  have hfig := figure_any b (hd L).2 w c2
  have hbl := h.bl
  have hnum := number_rs b (hd L).2 1 16 w c2 hbl hv (by have := hL.size; omega)
  have hin := fun h => numE_in (t := (hd L).2) (lo := 1) (hi := 16) h
  have hP : groupP L m = if figB (hd L).2 then (if (numE (hd L).2 1 16).2 = 0 then groupTail (numE (hd L).2 1 16).1 (hd L).1 (adv L) m else .error ((numE (hd L).2 1 16).2, (hd L).1)) else groupTail 1 (hd L).1 L m := rfl
  have H := Lib.hid h
  have HL := Lib.hid hL
  clear h
  generalize hat : (hd L).1 = at0 at c1 hP
  have Hat := Lib.hid hat
  clear hat
  cases hf : figB (hd L).2 with
  | true =>
    rw [hf] at hfig hP
    rw [if_pos rfl] at hP
    generalize hE : numE (hd L).2 1 16 = E at *
    obtain ⟨n, er⟩ := E
    simp only [] at hnum hin hP
    by_cases h0 : er = 0
    · subst h0
      rw [if_pos rfl] at hP
      have Hn := Lib.hid (hin rfl)
      have HP := Lib.hid hP
      clear hP hin hf hE
      go_enter Tryd.func44, Tryd.ntmps44
      go_wp2_with fail
      refine hfig.mono ?_
      rintro e w' ⟨rfl, rfl⟩
      go_wp2_with fail
      refine hnum.mono ?_
      rintro e w' ⟨rfl, hb1⟩
      have h' := H.out.below hb1
      have Hb0 := Lib.hid (hb1.mono H.out.bs)
      have hnx := next_rs h' hL hs
      have Hbb := Lib.hid fun w1 hg => below_b (w' := w1) h' hg
      clear h' hb1
      go_wp2_with fail
      refine hnx.mono ?_
      rintro e w1 ⟨rfl, h1, hg1⟩
      have H1 := Lib.hid h1
      have Hb1 := Lib.hid (Hb0.out.trans (Hbb.out w1 hg1))
      have HL1 := Lib.hid hL.adv
      clear h1 hg1 Hbb hnx hfig hnum c1 c2 hbl H HL Hb0
      generalize adv L = L1 at *
      go_wp2_with fail
      -- behind the number: H1 : RS w1 .., HL1 : Cur s L1, HP : groupP L m = groupTail n at0 L1 m, Hb1 : Below base w w1, Hn : 1 ≤ n ∧ n ≤ 16
      have d1 := H1.out.rb.c1
      have d2 := H1.out.rb.c2
      have hbl1 := H1.out.bl
      have hft := foot_any b (hd L1).2 w1 d2 hbl1 (by have := HL1.out.size; omega)
      have T1 := Lib.hid (fun er => tail_err (n := n) (at0 := at0) (L := L1) (m := m) (er := er))
      have T2 := Lib.hid (tail_long (n := n) (at0 := at0) (L := L1) (m := m))
      have T3 := Lib.hid (tail_ok (n := n) (at0 := at0) (L := L1) (m := m))
      unfold FootOk at hft
      generalize hF : footB (hd L1).2 = F at *
      obtain ⟨own, er⟩ := F
      simp only [] at hft
      refine hft.mono ?_
      rintro e w2 ⟨rfl, hb2⟩
      have H2 := Lib.hid (H1.out.below hb2)
      have Hb2 := Lib.hid (Hb1.out.trans (hb2.mono H1.out.bs))
      have d1' := H2.out.rb.c1
      have d3 := H2.out.rb.c3
      have hbl2 := H2.out.bl
      clear hft hb2
      by_cases h0 : er = 0
      · subst h0
        obtain ⟨A0, cc0, hvf⟩ := own_slice H2.out.feet
        subst hvf
        by_cases hlong : (m.feet.length : Int) + n ≤ 16
        · have HP2 := Lib.hid (HP.out.trans (T3.out rfl hlong))
          clear T1 T2 T3
          have hn1 := Hn.out.1
          have hn2 := Hn.out.2
          go_wp2_with fail
          go_loopw [64] (fun q wr => ∃ (k : Nat) (vf' : Value) (vs' : List Value), (k : Int) ≤ n ∧ q = .int .i64 k ∧ RS wr base b s (hd L1).1 (hd L1).2 (m.more k own) ah vf' ve vb vs' ∧ Below base w wr) (fun q _ => (n).toNat - (intOf q).toNat)
          case atStart => exact ⟨0, _, vs, by have := Hn.out; omega, rfl, by rw [Met.more_zero]; exact H2.out, Hb2.out⟩
          case round =>
            rename_i wr
            obtain ⟨k, vf', vs', hk, rfl, hr, hbr⟩ := hrel
            by_cases hlt : (k : Int) < n
            · have f1 := hr.rb.c3
              have z1 := hr.rb.z 3
              have hrb := hr.bl
              have hfe := hr.feet
              rw [Met.more_len] at hfe
              have hmk : (m.more k own).feet.length = m.feet.length + k := Met.more_len _ _ _
              obtain ⟨A, cc, hvs⟩ := own_slice hfe
              have hne : vf'.ownBlock ≠ some b := by rcases own_neb hr.feet hr.rb (by decide) with e | e; · rw [e]; simp
                                                     · exact e
              have Hfoot := Lib.hid fun (w4 : World) (v4 : Value) ho hg => hr.foot (w1 := w4) (own := own) (v' := v4) (by rw [hmk]; exact ho) hg
              have hrs := hr.bs
              have Hzc := Lib.hid fun (w4 : World) (hg : wr.grownBy w4 vf'.ownBlock) => And.intro ((World.frozen?_of_block (w := wr) (w' := w4) (a := ⟨b, 3, none⟩) (hg.block b hrb (fun e => hne e.symm))).trans z1) ((World.cell?_of_block (w := wr) (w' := w4) (a := ⟨b, 3, none⟩) (hg.block b hrb (fun e => hne e.symm))).trans f1)
              have hfb : ∀ q, vf'.ownBlock = some q → base ≤ q := fun q hq => (hfe.lt q hq).1
              have Hbel := Lib.hid fun (w4 : World) (hg : wr.grownBy w4 vf'.ownBlock) (v4 : Value) => (hbr.grown hg hrs hfb).setCell (show base ≤ b from hr.hb) v4 (p := ⟨b, 3, none⟩)
              have Hfe := Lib.hid hfe
              have hk16 : m.feet.length + k < 16 := by omega
              clear hr hfe hfb hmk hne
              subst hvs
              go_wp2_with (at_builtin; go_loud (refine wpList_append_boxg _ rfl _ _ 23 rfl base 81 _ _ 2 40 Tryd.underlying23 info81 zero81 size81 bytes81 rfl (by decide) (.slice A (m.feet.length + k) cc) (m.feet.length + k) (ftCells (m.more k own).feet vs') _ _ rfl rfl ?c0 (by exact Hfe.out) rfl ?c1 ?c2 ?c3 ?c4 ?_; rotate_right; intro v1 w4 hown1 hg1 hat1; obtain ⟨g1, cap1, rfl⟩ := own_form hown1 (by omega); obtain ⟨hz1, hc3⟩ := Hzc.out _ hg1; have Hfin := Lib.hid (Hfoot.out _ _ hown1 hg1); have Hfin2 := Lib.hid (Hbel.out _ hg1 (.slice (some ⟨g1, 0, none⟩) (m.feet.length + k + 1) cap1)); clear hown1 hg1 hat1))
              case c0 => simp
              case c1 => exact ⟨rfl, rfl⟩
              case c2 => unfold maxLen; omega
              case c3 => omega
              case c4 => exact hrs
              go_roundw
              case rel => exact ⟨k + 1, _, _, by omega, by go_num, by rw [← Met.more_succ]; exact Hfin.out, Hfin2.out⟩
              case measure => simp [intOf]; omega
            · have hkn : k = (n).toNat := by omega
              have Hr := Lib.hid hr
              have hnx := next_rs hr HL1.out hs
              clear hr
              go_wp2_with fail
              refine hnx.mono ?_
              rintro e w5 ⟨rfl, h5, hg5⟩
              have Hb5 := Lib.hid (hbr.trans (below_b Hr.out hg5))
              have H5 := Lib.hid h5
              clear h5 hg5 hnx
              go_wp2_with fail
              go_ret2
              unfold PartOk
              rw [HP2.out]
              refine ⟨Hb5.out, rfl, HL1.out.adv, ?_⟩
              rw [← hkn]
              exact ⟨_, _, _, _, H5.out⟩
        · have HP2 := Lib.hid (HP.out.trans (T2.out rfl hlong))
          clear T1 T2 T3
          have hn1 := Hn.out.1
          have hn2 := Hn.out.2
          go_wp2_with fail
          go_ret2
          unfold PartOk
          rw [HP2.out]
          exact ⟨Hb2.out, rfl, by decide⟩
      · have HP2 := Lib.hid (HP.out.trans (T1.out _ rfl h0))
        have h0' : (er != 0) = true := by simpa using h0
        have H0 := Lib.hid h0
        clear T1 T2 T3 h0
        go_wp2_with fail
        go_quiet (fail)
        go_wp2_with fail
        go_ret2
        unfold PartOk
        rw [HP2.out]
        exact ⟨belowD Hb2.out _, rfl, H0.out⟩
    · rw [if_neg h0] at hP
      have h0' : (er != 0) = true := by simpa using h0
      have HP := Lib.hid hP
      have H0 := Lib.hid h0
      clear hP hin hf hE h0
      go_enter Tryd.func44, Tryd.ntmps44
      go_wp2_with fail
      refine hfig.mono ?_
      rintro e w' ⟨rfl, rfl⟩
      go_wp2_with fail
      refine hnum.mono ?_
      rintro e w' ⟨rfl, hb1⟩
      have c1' := (hb1.cell (p := ⟨b, 1, none⟩) hbl).trans c1
      have Hb := Lib.hid (hb1.mono H.out.bs)
      go_wp2_with fail
      go_quiet (fail)
      go_wp2_with fail
      go_ret2
      unfold PartOk
      rw [HP.out]
      exact ⟨belowD Hb.out _, rfl, H0.out⟩
  | false =>
    rw [hf] at hfig hP
    rw [if_neg (by decide)] at hP
    have HP := Lib.hid hP
    have Hn : Hid ((1 : Int) ≤ 1 ∧ (1 : Int) ≤ 16) := Lib.hid (by omega)
    have H1 := H
    have Hb1 := Lib.hid (Below.refl base w)
    clear hP hnum hin H
    go_enter Tryd.func44, Tryd.ntmps44
    go_wp2_with fail
    refine hfig.mono ?_
    rintro e w1 ⟨rfl, rfl⟩
    clear hfig hf
    go_wp2_with fail
    -- behind the number: H1 : RS w .., HL : Cur s L, HP : groupP L m = groupTail n at0 L m, Hb1 : Below base w w, Hn : 1 ≤ n ∧ n ≤ 16
    have d1 := H1.out.rb.c1
    have d2 := H1.out.rb.c2
    have hbl1 := H1.out.bl
    have hft := foot_any b (hd L).2 w d2 hbl1 (by have := HL.out.size; omega)
    have T1 := Lib.hid (fun er => tail_err (n := (1 : Int)) (at0 := at0) (L := L) (m := m) (er := er))
    have T2 := Lib.hid (tail_long (n := (1 : Int)) (at0 := at0) (L := L) (m := m))
    have T3 := Lib.hid (tail_ok (n := (1 : Int)) (at0 := at0) (L := L) (m := m))
    unfold FootOk at hft
    generalize hF : footB (hd L).2 = F at *
    obtain ⟨own, er⟩ := F
    simp only [] at hft
    refine hft.mono ?_
    rintro e w2 ⟨rfl, hb2⟩
    have H2 := Lib.hid (H1.out.below hb2)
    have Hb2 := Lib.hid (Hb1.out.trans (hb2.mono H1.out.bs))
    have d1' := H2.out.rb.c1
    have d3 := H2.out.rb.c3
    have hbl2 := H2.out.bl
    clear hft hb2
    by_cases h0 : er = 0
    · subst h0
      obtain ⟨A0, cc0, hvf⟩ := own_slice H2.out.feet
      subst hvf
      by_cases hlong : (m.feet.length : Int) + (1 : Int) ≤ 16
      · have HP2 := Lib.hid (HP.out.trans (T3.out rfl hlong))
        clear T1 T2 T3
        have hn1 := Hn.out.1
        have hn2 := Hn.out.2
        go_wp2_with fail
        go_loopw [64] (fun q wr => ∃ (k : Nat) (vf' : Value) (vs' : List Value), (k : Int) ≤ (1 : Int) ∧ q = .int .i64 k ∧ RS wr base b s (hd L).1 (hd L).2 (m.more k own) ah vf' ve vb vs' ∧ Below base w wr) (fun q _ => ((1 : Int)).toNat - (intOf q).toNat)
        case atStart => exact ⟨0, _, vs, by have := Hn.out; omega, rfl, by rw [Met.more_zero]; exact H2.out, Hb2.out⟩
        case round =>
          rename_i wr
          obtain ⟨k, vf', vs', hk, rfl, hr, hbr⟩ := hrel
          by_cases hlt : (k : Int) < (1 : Int)
          · have f1 := hr.rb.c3
            have z1 := hr.rb.z 3
            have hrb := hr.bl
            have hfe := hr.feet
            rw [Met.more_len] at hfe
            have hmk : (m.more k own).feet.length = m.feet.length + k := Met.more_len _ _ _
            obtain ⟨A, cc, hvs⟩ := own_slice hfe
            have hne : vf'.ownBlock ≠ some b := by rcases own_neb hr.feet hr.rb (by decide) with e | e; · rw [e]; simp
                                                   · exact e
            have Hfoot := Lib.hid fun (w4 : World) (v4 : Value) ho hg => hr.foot (w1 := w4) (own := own) (v' := v4) (by rw [hmk]; exact ho) hg
            have hrs := hr.bs
            have Hzc := Lib.hid fun (w4 : World) (hg : wr.grownBy w4 vf'.ownBlock) => And.intro ((World.frozen?_of_block (w := wr) (w' := w4) (a := ⟨b, 3, none⟩) (hg.block b hrb (fun e => hne e.symm))).trans z1) ((World.cell?_of_block (w := wr) (w' := w4) (a := ⟨b, 3, none⟩) (hg.block b hrb (fun e => hne e.symm))).trans f1)
            have hfb : ∀ q, vf'.ownBlock = some q → base ≤ q := fun q hq => (hfe.lt q hq).1
            have Hbel := Lib.hid fun (w4 : World) (hg : wr.grownBy w4 vf'.ownBlock) (v4 : Value) => (hbr.grown hg hrs hfb).setCell (show base ≤ b from hr.hb) v4 (p := ⟨b, 3, none⟩)
            have Hfe := Lib.hid hfe
            have hk16 : m.feet.length + k < 16 := by omega
            clear hr hfe hfb hmk hne
            subst hvs
            go_wp2_with (at_builtin; go_loud (refine wpList_append_boxg _ rfl _ _ 23 rfl base 81 _ _ 2 40 Tryd.underlying23 info81 zero81 size81 bytes81 rfl (by decide) (.slice A (m.feet.length + k) cc) (m.feet.length + k) (ftCells (m.more k own).feet vs') _ _ rfl rfl ?c0 (by exact Hfe.out) rfl ?c1 ?c2 ?c3 ?c4 ?_; rotate_right; intro v1 w4 hown1 hg1 hat1; obtain ⟨g1, cap1, rfl⟩ := own_form hown1 (by omega); obtain ⟨hz1, hc3⟩ := Hzc.out _ hg1; have Hfin := Lib.hid (Hfoot.out _ _ hown1 hg1); have Hfin2 := Lib.hid (Hbel.out _ hg1 (.slice (some ⟨g1, 0, none⟩) (m.feet.length + k + 1) cap1)); clear hown1 hg1 hat1))
            case c0 => simp
            case c1 => exact ⟨rfl, rfl⟩
            case c2 => unfold maxLen; omega
            case c3 => omega
            case c4 => exact hrs
            go_roundw
            case rel => exact ⟨k + 1, _, _, by omega, by go_num, by rw [← Met.more_succ]; exact Hfin.out, Hfin2.out⟩
            case measure => simp [intOf]; omega
          · have hkn : k = ((1 : Int)).toNat := by omega
            have Hr := Lib.hid hr
            have hnx := next_rs hr HL.out hs
            clear hr
            go_wp2_with fail
            refine hnx.mono ?_
            rintro e w5 ⟨rfl, h5, hg5⟩
            have Hb5 := Lib.hid (hbr.trans (below_b Hr.out hg5))
            have H5 := Lib.hid h5
            clear h5 hg5 hnx
            go_wp2_with fail
            go_ret2
            unfold PartOk
            rw [HP2.out]
            refine ⟨Hb5.out, rfl, HL.out.adv, ?_⟩
            rw [← hkn]
            exact ⟨_, _, _, _, H5.out⟩
      · have HP2 := Lib.hid (HP.out.trans (T2.out rfl hlong))
        clear T1 T2 T3
        have hn1 := Hn.out.1
        have hn2 := Hn.out.2
        go_wp2_with fail
        go_ret2
        unfold PartOk
        rw [HP2.out]
        exact ⟨Hb2.out, rfl, by decide⟩
    · have HP2 := Lib.hid (HP.out.trans (T1.out _ rfl h0))
      have h0' : (er != 0) = true := by simpa using h0
      have H0 := Lib.hid h0
      clear T1 T2 T3 h0
      go_wp2_with fail
      go_quiet (fail)
      go_wp2_with fail
      go_ret2
      unfold PartOk
      rw [HP2.out]
      exact ⟨belowD Hb2.out _, rfl, H0.out⟩
end Go.Proofs.YtkfkkoefpfmjkaaDoor
namespace Go.Proofs.YtkfkkoefpfmjkaaDoor
set_option linter.unusedVariables false
set_option linter.unusedSimpArgs false
open Go.RowKit

/- What ways, ends and pause need: plain. -/
structure Sized (m : Met) : Prop where
  feet : m.feet.length ≤ 16
  ways : ∀ k, k < m.feet.length → (m.feet.getD k default).ways.length ≤ 15
  ends : m.ends.length ≤ 4
  brk : (m.brks.length : Int) ≤ aheadOf m ∧ aheadOf m ≤ 16
variable {w : World} {base b a : Nat} {s t : ByteArray} {m : Met} {ah : Int} {vf ve vb : Value} {vs : List Value}
theorem RS.isFeet {g cap : Nat} (h : RS w base b s a t m ah (.slice (some ⟨g, 0, none⟩) m.feet.length cap) ve vb vs) (i n : Nat) (hin : i + n ≤ m.feet.length) : IsFeet w w.heap.size (some ⟨g, i * 2, none⟩) ((m.feet.drop i).take n) := fun hl => by
  refine ⟨g, i * 2, rfl, (h.feet.lt g rfl).2, fun k hk => ?_⟩
  have hkn : k < n := by simp at hk; omega
  have hg := ftCells_get m.feet vs (i + k) h.vl (by omega)
  have e1 : i * 2 + k * 2 = (i + k) * 2 := by omega
  have e2 : ((m.feet.drop i).take n).getD k default = m.feet.getD (i + k) default := by
    simp only [List.getD_eq_getElem?_getD, List.getElem?_take, if_pos hkn, List.getElem?_drop]
  obtain ⟨A, c, hv, hc, hw⟩ := own_ways (h.ways (i + k) (by omega))
  unfold FtAt
  rw [e1, e2, h.feet.cellAt ((i + k) * 2) (by omega), h.feet.cellAt ((i + k) * 2 + 1) (by omega), hg.1, hg.2, hv]
  exact ⟨rfl, A, c, rfl, hc, hw⟩
theorem sub_len {α : Type} (l : List α) (i n : Nat) (h : i + n ≤ l.length) : ((l.drop i).take n).length = n := by simp; omega
theorem sub_all {P : Ft → Prop} {l : List Ft} (h : ∀ k, k < l.length → P (l.getD k default)) (i n : Nat) : ∀ f ∈ (l.drop i).take n, P f := fun f hf => by
  have h1 := List.mem_of_mem_drop (List.mem_of_mem_take hf)
  obtain ⟨k, hk, e⟩ := List.getElem_of_mem h1
  have := h k hk
  rw [List.getD_eq_getElem?_getD, List.getElem?_eq_getElem hk] at this
  rw [← e]; exact this
theorem laysE_zero {fs : List Ft} {sg : ByteArray} {all : Bool} (h : laysE fs sg all = 0) : ∀ f ∈ fs, longF sg all f = false := by
  unfold laysE at h
  by_cases h1 : fs.any (againF sg all) = true
  · rw [if_pos h1] at h; exact absurd h (by decide)
  · rw [if_neg h1] at h
    by_cases h2 : fs.any (longF sg all) = true
    · rw [if_pos h2] at h; exact absurd h (by decide)
    · intro f hf
      have := h2
      rw [Bool.not_eq_true, List.any_eq_false] at this
      simpa using this f hf
theorem layF_len {sg : ByteArray} {c : Int} {all : Bool} {f : Ft} (h : longF sg all f = false) (hf : f.ways.length ≤ 15) : (layF sg c all f).ways.length ≤ 15 := by
  unfold layF
  split
  · rename_i hy
    unfold longF at h
    have e : (!(all && eqS f.own sg)) = true := by cases all <;> cases hq : eqS f.own sg <;> simp [hq] at hy ⊢
    rw [e, Bool.true_and] at h
    have := of_decide_eq_false h
    simp; omega
  · exact hf
theorem layR_sized (h : Sized m) {i n : Nat} (hin : i + n ≤ m.feet.length) {sg : ByteArray} {c : Int} {all : Bool} (h0 : laysE ((m.feet.drop i).take n) sg all = 0) : Sized { m with feet := layR m.feet i n sg c all } := by
  refine ⟨by rw [layR_len _ _ _ _ _ _ hin]; exact h.feet, fun k hk => ?_, h.ends, h.brk⟩
  simp only [] at hk ⊢
  rw [layR_len _ _ _ _ _ _ hin] at hk
  rw [layR_get _ _ _ _ _ _ _ hin hk]
  split
  · rename_i hik
    refine layF_len (laysE_zero h0 _ ?_) (h.ways k hk)
    have e2 : ((m.feet.drop i).take n)[k - i]? = some (m.feet.getD k default) := by
      rw [List.getElem?_take, if_pos (by omega), List.getElem?_drop, show i + (k - i) = k by omega, List.getD_eq_getElem?_getD, List.getElem?_eq_getElem hk]; rfl
    exact List.mem_of_getElem? e2
  · exact h.ways k hk

/-- what a clause's part comes to -/
def ClOk (base b : Nat) (s : ByteArray) (w : World) (r : Res) (e : Ending) (w' : World) : Prop :=
  Below base w w' ∧ match r with
  | .error (c, p) => e = .returned (.int .i64 c) ∧ c ≠ 0 ∧ w'.cell? ⟨b, 1, none⟩ = some (.int .i64 p)
  | .ok (L', m') => e = .returned (.int .i64 0) ∧ Cur s L' ∧ Sized m' ∧ ∃ vf ve vb vs, RS w' base b s (hd L').1 (hd L').2 m' (aheadOf m') vf ve vb vs

/- waysP, step by step -/
variable {f : Nat} {L : List Tok} {i n : Nat} {all : Bool} {sg : ByteArray} {er nn : Int}
theorem ways_foot (h : (footB (hd L).2).2 = er) (h0 : er ≠ 0) : waysP (f + 1) L m i n all = .error (er, (hd L).1) := by
  unfold waysP; rw [h, if_neg h0]
theorem ways_lays (h : footB (hd L).2 = (sg, 0)) (h1 : laysE ((m.feet.drop i).take n) sg all = er) (h0 : er ≠ 0) : waysP (f + 1) L m i n all = .error (er, (hd L).1) := by
  unfold waysP; rw [h]; simp only []; rw [h1, if_pos trivial, if_neg h0]
theorem ways_num (h : footB (hd L).2 = (sg, 0)) (h1 : laysE ((m.feet.drop i).take n) sg all = 0) (h2 : (numE (hd (adv L)).2 0 1048576).2 = er) (h0 : er ≠ 0) : waysP (f + 1) L m i n all = .error (er, (hd (adv L)).1) := by
  unfold waysP; simp only [h, h1, h2, if_true, if_neg h0]
theorem ways_more (h : footB (hd L).2 = (sg, 0)) (h1 : laysE ((m.feet.drop i).take n) sg all = 0) (h2 : numE (hd (adv L)).2 0 1048576 = (nn, 0)) (h3 : eqS (hd (adv (adv L))).2 COMMA = true) :
    waysP (f + 1) L m i n all = waysP f (adv (adv (adv L))) { m with feet := layR m.feet i n sg nn all } i n all := by
  conv => lhs; unfold waysP
  simp only [h, h1, h2, h3, if_true]
theorem ways_done (h : footB (hd L).2 = (sg, 0)) (h1 : laysE ((m.feet.drop i).take n) sg all = 0) (h2 : numE (hd (adv L)).2 0 1048576 = (nn, 0)) (h3 : eqS (hd (adv (adv L))).2 COMMA = false) :
    waysP (f + 1) L m i n all = .ok (adv (adv L), { m with feet := layR m.feet i n sg nn all }) := by
  unfold waysP; simp [h, h1, h2, h3]
/-- behind a comma -/
theorem comma_lt (hL : Cur s L) (h : eqS (hd L).2 COMMA = true) : (adv L).length < L.length := by
  obtain ⟨p, hp, rfl⟩ := hL
  refine adv_lt fun e => ?_
  rw [e] at h
  exact absurd h (by decide +kernel)
end Go.Proofs.YtkfkkoefpfmjkaaDoor

import Derived.Test.YtkfkkoefpfmjkaaDoorMF
import Derived.Deep.LoopGhost
import Derived.Deep.RegionLaw
namespace Go.Proofs.YtkfkkoefpfmjkaaDoor
set_option linter.unusedVariables false
set_option linter.unusedSimpArgs false
open Go.RowKit

/- reader.ways. -/
theorem eqS_comma (t : ByteArray) : eqS t COMMA = (t.toList == [44]) := by unfold eqS; rw [show COMMA.toList = [44] by decide +kernel]
theorem eqS_semi (t : ByteArray) : eqS t SEMI = (t.toList == [59]) := by unfold eqS; rw [show SEMI.toList = [59] by decide +kernel]
theorem eqS_any (t : ByteArray) : eqS t ANY = (t.toList == [97, 110, 121]) := by unfold eqS; rw [show ANY.toList = [97, 110, 121] by decide +kernel]
theorem eqS_end (t : ByteArray) : eqS t END = (t.toList == [101, 110, 100]) := by unfold eqS; rw [show END.toList = [101, 110, 100] by decide +kernel]
theorem eqS_break (t : ByteArray) : eqS t BREAK = (t.toList == [98, 114, 101, 97, 107]) := by unfold eqS; rw [show BREAK.toList = [98, 114, 101, 97, 107] by decide +kernel]
variable {w : World} {base b : Nat} {s : ByteArray} {m : Met} {ve vb : Value} {vs : List Value} {L : List Tok}
set_option maxRecDepth 100000 in
set_option maxHeartbeats 16000000 in
theorem waysR_any {g cap : Nat} (h : RS w base b s (hd L).1 (hd L).2 m (aheadOf m) (.slice (some ⟨g, 0, none⟩) m.feet.length cap) ve vb vs) (hL : Cur s L) (hs : s.size ≤ 65536) (hv : Vars w) (h6 : 6 ≤ base) (hz : Sized m)
    (i n c : Nat) (hin : i + n ≤ m.feet.length) (all : Bool) :
    Calls Tryd.prog 45 #[.pointer (some ⟨b, 0, none⟩), .slice (some ⟨g, i * 2, none⟩) n c, .bool all] w (ClOk base b s w (waysP L.length L m i n all)) := by
  have H := Lib.hid h
  have Hz := Lib.hid hz
  have HL := Lib.hid hL
  have Hv := Lib.hid hv
  have hlen0 : m.feet.length ≤ 16 := hz.feet
  generalize hN : m.feet.length = N at *
  generalize hR : waysP L.length L m i n all = R
  have HR := Lib.hid hR
  have HN := Lib.hid hN
  clear h hz hL hv hR
  go_enter Tryd.func45, Tryd.ntmps45
  go_wp2_with fail
  go_loopg [] L.length (fun gg wr => ∃ (L' : List Tok) (m' : Met) (vs' : List Value), Hid (L'.length ≤ gg) ∧ Hid (waysP gg L' m' i n all = R) ∧ Hid (Cur s L') ∧ Hid (Sized m') ∧ Hid (m'.feet.length = N) ∧
    Hid (RS wr base b s (hd L').1 (hd L').2 m' (aheadOf m') (.slice (some ⟨g, 0, none⟩) N cap) ve vb vs') ∧ Hid (Below base w wr))
  case atStart => exact ⟨L, m, vs, Lib.hid (Nat.le_refl _), HR, HL, Hz, HN, H, Lib.hid (Below.refl _ _)⟩
  case round =>
    obtain ⟨L', m', vs', hgk, hP, hLc, hzz, hN', hr, hbr⟩ := hrel
    have hpos : 0 < L'.length := by obtain ⟨p, hp, e⟩ := hLc.out; rw [e]; exact toks_pos s p
    obtain ⟨q, rfl⟩ : ∃ q, gk = q + 1 := ⟨gk - 1, by have := hgk.out; omega⟩
    have d2 := hr.out.rb.c2
    have hbl := hr.out.bl
    have hft := foot_any b (hd L').2 wr d2 hbl (by have := hLc.out.size; omega)
    have Hbs := Lib.hid hr.out.bs
    unfold FootOk at hft
    have hFe : footB (hd L').2 = ((footB (hd L').2).1, (footB (hd L').2).2) := rfl
    generalize (footB (hd L').2).1 = sg at hft hFe
    generalize (footB (hd L').2).2 = er at hft hFe
    have HFe := Lib.hid hFe
    clear hFe
    go_wp2_with fail
    refine hft.mono ?_
    rintro e w2 ⟨rfl, hb2⟩
    have H2 := Lib.hid (hr.out.below hb2)
    have Hb2 := Lib.hid (hbr.out.trans (hb2.mono Hbs.out))
    clear hft hb2 d2 hbl
    by_cases h0 : er = 0
    · subst h0
      have hlays := lays_any (some ⟨g, i * 2, none⟩) c ((m'.feet.drop i).take n) sg all w2 (RS.isFeet (cap := cap) (by rw [hN'.out]; exact H2.out) i n (by rw [hN'.out]; exact hin)) (by rw [sub_len _ _ _ (by rw [hN'.out]; exact hin)]; omega) (sub_all hzz.out.ways i n)
      rw [sub_len _ _ _ (by rw [hN'.out]; exact hin)] at hlays
      generalize hLe : laysE ((m'.feet.drop i).take n) sg all = el at hlays
      have HLe : Hid (laysE ((m'.feet.drop i).take n) sg all = el) := Lib.hid hLe
      clear hLe
      go_wp2_with fail
      refine hlays.mono ?_
      rintro e w3 ⟨rfl, hb3⟩
      have H3 := Lib.hid (H2.out.below hb3)
      have Hb3 := Lib.hid (Hb2.out.trans (hb3.mono H2.out.bs))
      clear hlays hb3
      by_cases hl0 : el = 0
      · subst hl0
        have hnx := next_rs H3.out hLc.out hs
        have Hbb := Lib.hid fun w1 hg => below_b (w' := w1) H3.out hg
        go_wp2_with fail
        refine hnx.mono ?_
        rintro e w4 ⟨rfl, h4, hg4⟩
        have H4 := Lib.hid h4
        have Hb4 := Lib.hid (Hb3.out.trans (Hbb.out w4 hg4))
        clear hnx Hbb h4 hg4
        have hnum := number_rs b (hd (adv L')).2 0 1048576 w4 H4.out.rb.c2 H4.out.bl (Hv.out.below Hb4.out h6) (by have := hLc.out.adv.size; omega)
        have hNe : numE (hd (adv L')).2 0 1048576 = ((numE (hd (adv L')).2 0 1048576).1, (numE (hd (adv L')).2 0 1048576).2) := rfl
        generalize (numE (hd (adv L')).2 0 1048576).1 = nn at hnum hNe
        generalize (numE (hd (adv L')).2 0 1048576).2 = en at hnum hNe
        have HNe := Lib.hid hNe
        clear hNe
        go_wp2_with fail
        refine hnum.mono ?_
        rintro e w5 ⟨rfl, hb5⟩
        have H5 := Lib.hid (H4.out.below hb5)
        have Hb5 := Lib.hid (Hb4.out.trans (hb5.mono H4.out.bs))
        clear hnum hb5
        by_cases hn0 : en = 0
        · subst hn0
          have hlay := lay_any (cap := cap) (g := g) (by rw [hN'.out]; exact H5.out) i n c (by rw [hN'.out]; exact hin) hzz.out.feet hzz.out.ways sg nn all
          rw [hN'.out] at hlay
          have Hm7 := Lib.hid (layR_sized hzz.out (i := i) (n := n) (by rw [hN'.out]; exact hin) (sg := sg) (c := nn) (all := all) HLe.out)
          have Hm8 := Lib.hid ((layR_len m'.feet i n sg nn all (by rw [hN'.out]; exact hin)).trans hN'.out)
          go_wp2_with fail
          refine hlay.mono ?_
          rintro e w6 ⟨rfl, vs6, h6', hb6⟩
          have H6 := Lib.hid h6'
          have Hb6 := Lib.hid (Hb5.out.trans hb6)
          clear hlay h6' hb6
          have hnx := next_rs H6.out hLc.out.adv hs
          have Hbb := Lib.hid fun w1 hg => below_b (w' := w1) H6.out hg
          go_wp2_with fail
          refine hnx.mono ?_
          rintro e w7 ⟨rfl, h7, hg7⟩
          have H7 := Lib.hid h7
          have Hb7 := Lib.hid (Hb6.out.trans (Hbb.out w7 hg7))
          clear hnx Hbb h7 hg7
          have d2 := H7.out.rb.c2
          have hq7 : eqS (hd (adv (adv L'))).2 COMMA = ((hd (adv (adv L'))).2.toList == [44]) := eqS_comma _
          cases hc : eqS (hd (adv (adv L'))).2 COMMA with
          | true =>
            have hne : ((hd (adv (adv L'))).2.toList == [44]) = true := by rw [← hq7, hc]
            have Hw := Lib.hid (ways_more (f := q) (m := m') (i := i) (n := n) (all := all) HFe.out HLe.out HNe.out hc)
            have Hlt := Lib.hid (comma_lt hLc.out.adv.adv hc)
            clear hc hq7
            have hnx := next_rs H7.out hLc.out.adv.adv hs
            have Hbb := Lib.hid fun w1 hg => below_b (w' := w1) H7.out hg
            go_wp2_with fail
            refine hnx.mono ?_
            rintro e w8 ⟨rfl, h8, hg8⟩
            have H8 := Lib.hid h8
            have Hb8 := Lib.hid (Hb7.out.trans (Hbb.out w8 hg8))
            clear hnx Hbb h8 hg8
            go_wp2_with fail
            go_roundg q
            case measure => omega
            case rel => exact ⟨_, _, _, Lib.hid (by have := hgk.out; have := Hlt.out; have := adv_len L'; have := adv_len (adv L'); omega), Lib.hid (Hw.out.symm.trans hP.out), Lib.hid hLc.out.adv.adv.adv, Hm7, Hm8, H8, Hb8⟩
          | false =>
            have hne : ((hd (adv (adv L'))).2.toList == [44]) = false := by rw [← hq7, hc]
            have Hw := Lib.hid (ways_done (f := q) (m := m') (i := i) (n := n) (all := all) HFe.out HLe.out HNe.out hc)
            clear hc hq7
            go_wp2_with fail
            go_ret
            unfold ClOk
            rw [← hP.out, Hw.out]
            exact ⟨Hb7.out, rfl, hLc.out.adv.adv, Hm7.out, _, _, _, _, H7.out⟩
        · have h0' : (en != 0) = true := by simpa using hn0
          have Hw := Lib.hid (ways_num (f := q) (m := m') (i := i) (n := n) (all := all) HFe.out HLe.out (by rw [HNe.out]) hn0)
          have H0 := Lib.hid hn0
          clear hn0
          go_wp2_with fail
          go_ret
          unfold ClOk
          rw [← hP.out, Hw.out]
          exact ⟨Hb5.out, rfl, H0.out, H5.out.rb.c1⟩
      · have h0' : (el != 0) = true := by simpa using hl0
        have Hw := Lib.hid (ways_lays (f := q) (m := m') (i := i) (n := n) (all := all) HFe.out HLe.out hl0)
        have H0 := Lib.hid hl0
        clear hl0
        go_wp2_with fail
        go_ret
        unfold ClOk
        rw [← hP.out, Hw.out]
        exact ⟨Hb3.out, rfl, H0.out, H3.out.rb.c1⟩
    · have h0' : (er != 0) = true := by simpa using h0
      have Hw := Lib.hid (ways_foot (f := q) (m := m') (i := i) (n := n) (all := all) (by rw [HFe.out]) h0)
      have H0 := Lib.hid h0
      clear h0
      go_wp2_with fail
      go_ret
      unfold ClOk
      rw [← hP.out, Hw.out]
      exact ⟨Hb2.out, rfl, H0.out, H2.out.rb.c1⟩
end Go.Proofs.YtkfkkoefpfmjkaaDoor
namespace Go.Proofs.YtkfkkoefpfmjkaaDoor
set_option linter.unusedVariables false
set_option linter.unusedSimpArgs false
open Go.RowKit

/-- append of one element that was just boxed, as a step of a region that draws -/
theorem step_append_boxg {P : Program} {ops : Array Oper} {o : Oper} {a : Act} {K : Act → World → Prop} {Q : Exit → Act → World → Prop} {E : Prop} (w0 : World) (hgd : o.guard = none) (s x : Operand) (t : TypeId)
    (ho : o.op = .call { callee := .builtin .append, args := #[s, x], argTypes := #[t, t] })
    (base : Nat) (e : TypeId) (i : TypeInfo) (z : Value) (size bytes : Nat) (ht : P.underlying t = some (.slice e)) (hi : P.info? e = some i) (hz : i.zero = some z)
    (hsize : i.size = size) (hby : i.bytes = bytes) (hzs : z.cells.size = size) (hsz : 0 < size)
    (v : Value) (n : Nat) (xs : List Value) (nw : Array Value) (g : Nat) (hs : a.eval s = v) (hx : a.eval x = .slice (some ⟨g, 0, none⟩) 1 1) (hg : g = w0.heap.size) (hown : w0.ownsRow base e size v n xs)
    (hl : nw.size = size) (h1 : ∀ u ∈ nw.toList, u.oneCell' = true)
    (h63 : n + 1 ≤ maxLen) (hbytes : (n + 1) * bytes ≤ 140737488355328) (hbase : base ≤ w0.heap.size)
    (h : ∀ v' w', w'.ownsRow base e size v' (n + 1) (xs ++ nw.toList) → w0.grownBy w' v.ownBlock → (v'.ownBlock = v.ownBlock ∨ ∃ b, v'.ownBlock = some b ∧ w0.heap.size ≤ b) → K (a.put o.dst v') w') :
    if Region.wanted o (yielded ops a.tmps) = true then Oper.wp P o a (w0.alloc (.cells nw e)) K Q else E := by
  have hw : Region.wanted o (yielded ops a.tmps) = true := by simp [Region.wanted, hgd]
  rw [if_pos hw]
  subst hg
  obtain ⟨v', w', hr, h2, h3, h4, h5⟩ := run_append_own_at (P := P) (w0.alloc (.cells nw e)) base t o.type e i z size bytes ht hi hz hsize hby hzs hsz v n xs (hown.alloc _) ⟨w0.heap.size, 0, none⟩ 1 1 nw.toList (by simp [hl])
    (fun j u hu => by
      have e1 : (⟨w0.heap.size, 0, none⟩ : Addr).add j = ⟨w0.heap.size, j, none⟩ := by
        unfold Addr.add; by_cases hj : j = 0
        · simp [hj]
        · simp [hj]
      rw [e1, cell_of_row (w0.alloc (.cells nw e)) w0.heap.size j nw e (0, 0) (heap_alloc_new w0 _)]
      simpa using hu) h1 h63 hbytes (by simp; omega)
  unfold Oper.wp execOp
  simp only [ho, resolve, invoke, builtin, Sem.run_bind, Sem.run_pure, Result.andThen_ok, List.map_toArray, List.map_cons, List.map_nil, hs, hx, hr]
  refine h v' w' h2 (grown_of_alloc h3) ?_
  rcases h5 with h5 | h5
  · exact .inl h5
  · exact .inr ⟨_, h5, by simp⟩
end Go.Proofs.YtkfkkoefpfmjkaaDoor

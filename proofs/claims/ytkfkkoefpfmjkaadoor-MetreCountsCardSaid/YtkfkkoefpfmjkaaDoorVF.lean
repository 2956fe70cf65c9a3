import Derived.Test.YtkfkkoefpfmjkaaDoorVA
import Derived.Maps.OwnOps
import Derived.Maps.OwnSet
import Derived.Maps.Views
import Derived.StringKeys
import Derived.Outline
/- A map[string]bool that the call made: the texts that it holds. -/
namespace Go.Proofs.YtkfkkoefpfmjkaaDoor
set_option linter.unusedVariables false
set_option linter.unusedSimpArgs false
open Go.RowKit

def keyL (s : ByteArray) : Lit := .string s.data.toList
def Has (w : World) (b n : Nat) (ks : List ByteArray) : Prop := ∃ D : DataW Unit, Maps.IsMap D ∧ w.ownsMap Tryd.prog 9 (plainElem Tryd.prog 4) b n D ∧ ∀ s : ByteArray, D.atKey (keyL s) (.lit (.bool false)) = .lit (.bool (ownHas ks s))
theorem key_of (s : ByteArray) (hs : s.size ≤ maxLen) : keyOf Tryd.prog 9 (.string s) = some (keyL s) := WideMaps.keyOf_string_mk Tryd.underlying9 hs
theorem K9 : Maps.Keyed Tryd.prog 9 := Maps.string_keyed Tryd.underlying9
theorem zero4 (w : World) : (zeroValue 4).run Tryd.prog w = .ok (.bool false) w := by kernel_rfl
theorem plain4 (x : Bool) : plainElem (H := Unit) Tryd.prog 4 (.bool x) = some (.lit (.bool x), []) := plainElem_bool Tryd.underlying4 x
theorem plainElem_bool_inv {P : Program} {e : TypeId} (he : P.underlying e = some .bool) {v : Value} {x : Bool} {ps : List MemPlace} (h : plainElem (H := Unit) P e v = some (.lit (.bool x), ps)) : v = .bool x := by
  unfold plainElem at h
  rw [he] at h
  cases v <;> simp at h
  rw [h.1]
theorem plain4_inv {v : Value} {x : Bool} {ps : List MemPlace} (h : plainElem (H := Unit) Tryd.prog 4 v = some (.lit (.bool x), ps)) : v = .bool x := plainElem_bool_inv Tryd.underlying4 h
theorem keyL_ne {a b : ByteArray} (h : eqS a b = false) : keyL a ≠ keyL b := by
  intro e
  unfold keyL at e
  have e2 : a.data.toList = b.data.toList := by injection e
  have : eqS a b = true := by unfold eqS; rw [ByteArray.toList_eq, ByteArray.toList_eq, e2]; simp
  rw [this] at h; cases h
theorem Has.made (w : World) : Has (w.alloc (.map #[] 0)) w.heap.size 0 [] := ⟨.map [], Maps.isMap_empty, World.ownsMap_made _ _ _ _, fun s => rfl⟩
theorem Has.kept {w w' : World} {b n : Nat} {ks : List ByteArray} {row : Option Nat} (h : Has w b n ks) (hg : w.grownBy w' row) (hne : some b ≠ row) : Has w' b n ks := by
  obtain ⟨D, h1, h2, h3⟩ := h
  exact ⟨D, h1, h2.kept hg hne, h3⟩
theorem Has.lt {w : World} {b n : Nat} {ks : List ByteArray} (h : Has w b n ks) : b < w.heap.size := by
  obtain ⟨D, h1, h2, h3⟩ := h
  exact h2.lt
theorem Has.alloc {w : World} {b n : Nat} {ks : List ByteArray} (h : Has w b n ks) (o : Obj) : Has (w.alloc o) b n ks := h.kept (World.grownBy_alloc w o none) (by simp)
theorem Has.look {w : World} {b n : Nat} {ks : List ByteArray} (h : Has w b n ks) (s : ByteArray) (hs : s.size ≤ maxLen) : (Instr.lookup 104 (.map (some b)) (.string s) false).run Tryd.prog w = .ok (.bool (ownHas ks s)) w := by
  obtain ⟨D, h1, h2, h3⟩ := h
  obtain ⟨v, ps, hrun, hv⟩ := h2.lookup (t := 104) K9 Tryd.underlying104 (zero4 w) (plain4 false) (key_of s hs)
  rw [h3 s] at hv
  obtain rfl : v = .bool (ownHas ks s) := plain4_inv hv
  exact hrun
theorem Has.store {w : World} {b n : Nat} {ks : List ByteArray} (h : Has w b n ks) (hn : n < maxLen) (s : ByteArray) (hs : s.size ≤ maxLen) :
    ∃ w', (Instr.mapUpdate 104 (.map (some b)) (.string s) (.bool true)).run Tryd.prog w = .ok () w' ∧ Has w' b (n + 1) (ks ++ [s]) ∧ w.grownBy w' (some b) := by
  obtain ⟨D, h1, h2, h3⟩ := h
  obtain ⟨w', hrun, ho, hg⟩ := h2.update (t := 104) K9 Tryd.underlying104 hn (key_of s hs) (plain4 true)
  refine ⟨w', hrun, ⟨D.put (keyL s) (.lit (.bool true)), h1.put _ _, ho, fun x => ?_⟩, hg⟩
  have e : ownHas (ks ++ [s]) x = (ownHas ks x || eqS s x) := by simp [ownHas]
  rw [e]
  cases hq : eqS s x with
  | true =>
    rw [eqS_true hq, Maps.atKey_put_same h1 (show WideAt.IsKeyLit (keyL x) from trivial)]
    simp
  | false =>
    rw [Maps.atKey_put_other (fun e2 => keyL_ne hq e2.symm), h3 x, Bool.or_false]
end Go.Proofs.YtkfkkoefpfmjkaaDoor
namespace Go.Proofs.YtkfkkoefpfmjkaaDoor
set_option linter.unusedVariables false
set_option linter.unusedSimpArgs false
open Go.RowKit

/- The reference's May. -/
theorem ownHas_app (own : List ByteArray) (pre : List Way) (s : ByteArray) : ownHas (own ++ pre.map (·.1)) s = (ownHas own s || pre.any fun u => eqS u.1 s) := by
  unfold ownHas
  rw [List.any_append, List.any_map]
  rfl
/-- a way's test, as the reference asks it -/
theorem wayOk_has (lg : Int) (own : List ByteArray) (pre : List Way) (v : Way) : wayOk lg own pre v = (signsB v.1 1 lg && decide (0 ≤ v.2) && decide (v.2 ≤ 1048576) && !ownHas (own ++ pre.map (·.1)) v.1) := by
  unfold wayOk
  rw [ownHas_app]
  cases ownHas own v.1 <;> cases (pre.any fun u => eqS u.1 v.1) <;> cases signsB v.1 1 lg <;> simp
theorem map_take_fst (l : List Way) (k : Nat) (h : k < l.length) : (l.take (k + 1)).map (·.1) = (l.take k).map (·.1) ++ [(l.getD k default).1] := by
  rw [take_snoc' l k h, List.map_append]; rfl
set_option maxRecDepth 100000 in
set_option maxHeartbeats 8000000 in
theorem may_any (Af Ae Ab : Option Addr) (cf ce cb : Nat) (m : Met) (w : World) (h : IsMet w w.heap.size Af Ae Ab cf ce cb m) :
    Calls Tryd.prog 20 #[.agg #[.slice Af m.feet.length cf, .slice Ae m.ends.length ce, .slice Ab m.brks.length cb]] w fun e w' => e = .returned (.bool (mayB m)) ∧ Below w.heap.size w w' := by
  generalize hR : mayB m = R
  have HR := Lib.hid hR
  clear hR
  have hfl := h.bd.feet
  have hel := h.bd.ends.1
  have hbl := h.bd.brks
  have H := Lib.hid h
  clear h
  have hR0 : R = mayB m := HR.out.symm
  by_cases h1 : m.feet.length < 1
  · have Hm : Hid (mayB m = false) := Lib.hid (by unfold mayB; simp; omega)
    have HR0 := Lib.hid hR0
    clear hR0
    go_enter Tryd.func20, Tryd.ntmps20
    go_wp2_with fail
    go_ret
    exact ⟨ret_bool (by rw [HR0.out, Hm.out]), (Below.refl _ _).alloc (Nat.le_refl _) _⟩
  · by_cases h2 : 16 < m.feet.length
    · have Hm : Hid (mayB m = false) := Lib.hid (by unfold mayB; simp; omega)
      have HR0 := Lib.hid hR0
      clear hR0
      go_enter Tryd.func20, Tryd.ntmps20
      go_wp2_with fail
      go_ret
      exact ⟨ret_bool (by rw [HR0.out, Hm.out]), (Below.refl _ _).alloc (Nat.le_refl _) _⟩
    · by_cases h3 : 4 < m.ends.length
      · have Hm : Hid (mayB m = false) := Lib.hid (by unfold mayB waysB; simp; omega)
        have HR0 := Lib.hid hR0
        clear hR0
        go_enter Tryd.func20, Tryd.ntmps20
        go_wp2_with fail
        go_ret
        exact ⟨ret_bool (by rw [HR0.out, Hm.out]), (Below.refl _ _).alloc (Nat.le_refl _) _⟩
      · have hm : mayB m = ((m.feet.drop 0).all footMay && (waysFrom 2 [] (m.ends.take 0) (m.ends.drop 0) && brksFrom m.feet.length 0 (m.brks.drop 0))) := by
          have a1 : decide (1 ≤ m.feet.length) = true := decide_eq_true (by omega)
          have a2 : decide (m.feet.length ≤ 16) = true := decide_eq_true (by omega)
          have a3 : decide ((m.ends.length : Int) ≤ 4) = true := decide_eq_true (by omega)
          unfold mayB waysB; rw [a1, a2, a3]; simp only [Bool.true_and, List.drop_zero, List.take_zero]
          cases waysFrom 2 [] [] m.ends <;> cases m.feet.all footMay <;> simp
        rw [hm] at hR0
        generalize hW1 : w.alloc (.cells #[.slice Af m.feet.length cf, .slice Ae m.ends.length ce, .slice Ab m.brks.length cb] 27) = W1
        have sW1 : W1.heap.size = w.heap.size + 1 := by rw [← hW1]; simp
        have hB1 : Below w.heap.size w W1 := by rw [← hW1]; exact (Below.refl _ _).alloc (Nat.le_refl _) _
        have m0 : W1.cell? ⟨w.heap.size, 0, none⟩ = some (.slice Af m.feet.length cf) := by rw [← hW1]; simp
        have m1 : W1.cell? ⟨w.heap.size, 1, none⟩ = some (.slice Ae m.ends.length ce) := by rw [← hW1]; simp
        have m2 : W1.cell? ⟨w.heap.size, 2, none⟩ = some (.slice Ab m.brks.length cb) := by rw [← hW1]; simp
        have HM := Lib.hid (H.out.on hB1)
        have HW1 := Lib.hid hW1
        have Hkeep := Lib.hid fun (W2 : World) (hb2 : Below W1.heap.size W1 W2) => And.intro ((hb2.cell (p := ⟨w.heap.size, 0, none⟩) (by show w.heap.size < W1.heap.size; omega)).trans m0) (And.intro ((hb2.cell (p := ⟨w.heap.size, 1, none⟩) (by show w.heap.size < W1.heap.size; omega)).trans m1) ((hb2.cell (p := ⟨w.heap.size, 2, none⟩) (by show w.heap.size < W1.heap.size; omega)).trans m2))
        have HR0 := Lib.hid hR0
        have HB1 := Lib.hid hB1
        have hmm := @run_makeMap Tryd.prog
        clear hW1 hm hR0 hB1
        go_enter Tryd.func20, Tryd.ntmps20
        go_wp2_with fail
        rw [HW1.out]
        go_loopw [33] (fun i wr => ∃ k : Nat, k ≤ m.feet.length ∧ i = .int .i64 k ∧ Hid (R = ((m.feet.drop k).all footMay && (waysFrom 2 [] (m.ends.take 0) (m.ends.drop 0) && brksFrom m.feet.length 0 (m.brks.drop 0)))) ∧ Hid (Below W1.heap.size W1 wr)) (fun i _ => m.feet.length - (intOf i).toNat)
        case atStart => exact ⟨0, by omega, rfl, HR0, Lib.hid (Below.refl _ _)⟩
        case round =>
          rename_i wr
          obtain ⟨k, hk, rfl, hRk, hbl⟩ := hrel
          clear HR0 m0 m1 m2
          by_cases hlt : k < m.feet.length
          · obtain ⟨b, off, rfl, hbb, hrow⟩ := HM.out.feet (by omega)
            obtain ⟨hc1, A2, c2, hc2, hcc, hIW⟩ := hrow k hlt
            have hc1 := (hbl.out.cell (p := ⟨b, off + k * 2, none⟩) hbb).trans hc1
            have hc2 := (hbl.out.cell (p := ⟨b, off + k * 2 + 1, none⟩) hbb).trans hc2
            have Hst := Lib.hid (hRk.out.trans (by rw [all_step m.feet footMay k hlt]))
            have hmem : m.feet.getD k default ∈ m.feet := by
              rw [List.getD_eq_getElem?_getD, List.getElem?_eq_getElem hlt]; exact List.getElem_mem hlt
            obtain ⟨bw, bo, bv⟩ := H.out.bd.ways _ hmem
            have hbs := hbl.out.size
            clear hrow hmem
            generalize m.feet.getD k default = f at *
            obtain ⟨own, ways⟩ := f
            simp only [] at hc1 hc2 hcc hIW bw bo bv
            have hfm : footMay ⟨own, ways⟩ = (signsB own 1 4 && (decide ((ways.length : Int) ≤ 15) && waysFrom 4 [own] (ways.take 0) (ways.drop 0))) := rfl
            rw [hfm] at Hst
            generalize hW3 : wr.alloc (.cells #[.string own, .slice A2 ways.length c2] 81) = W3
            have sW3 : W3.heap.size = wr.heap.size + 1 := by rw [← hW3]; simp
            have hB3 : Below W1.heap.size W1 W3 := by rw [← hW3]; exact hbl.out.alloc hbs _
            have e1 : W3.cell? ⟨wr.heap.size, 0, none⟩ = some (.string own) := by rw [← hW3]; simp
            have e2 : W3.cell? ⟨wr.heap.size, 1, none⟩ = some (.slice A2 ways.length c2) := by rw [← hW3]; simp
            have hB3' : Below wr.heap.size wr W3 := by rw [← hW3]; exact (Below.refl _ _).alloc (Nat.le_refl _) _
            have hsg := refsigns_any own 1 4 W3 bo
            generalize signsB own 1 4 = S at hsg Hst
            have HIW := Lib.hid hIW
            have HW3 := Lib.hid hW3
            have HB3 := Lib.hid hB3
            clear hW3 hfm hB3 hB3' hIW
            go_wp2_with fail
            rw [HW3.out]
            refine hsg.mono ?_
            rintro e w' ⟨rfl, rfl⟩
            cases S with
            | false =>
              go_wp2_with fail
              go_ret
              exact ⟨ret_bool (by rw [Hst.out]; rfl), HB1.out.trans (HB3.out.mono (by omega))⟩
            | true =>
              by_cases h15 : 15 < ways.length
              · go_wp2_with fail
                go_ret
                exact ⟨ret_bool (by rw [Hst.out, decide_eq_false (show ¬ (ways.length : Int) ≤ 15 by omega)]; rfl), HB1.out.trans (HB3.out.mono (by omega))⟩
              · have HR3 : Hid (R = (waysFrom 4 [own] (ways.take 0) (ways.drop 0) && ((m.feet.drop (k + 1)).all footMay && (waysFrom 2 [] (m.ends.take 0) (m.ends.drop 0) && brksFrom m.feet.length 0 (m.brks.drop 0))))) := Lib.hid (by rw [Hst.out, decide_eq_true (show (ways.length : Int) ≤ 15 by omega)]; simp [Bool.and_assoc])
                have hmx : own.size ≤ maxLen := by unfold maxLen; omega
                obtain ⟨W4, hrun, hhas, hgr⟩ := (Has.made W3).store (by unfold maxLen; omega) own hmx
                rw [sW3] at hrun hhas hgr
                have hb34 : Below W3.heap.size W3 W4 := ((Below.refl _ W3).alloc (Nat.le_refl _) _).grown hgr (by simp) (fun q e => by cases e; omega)
                have e3 : W4.cell? ⟨wr.heap.size, 1, none⟩ = some (.slice A2 ways.length c2) := (hb34.cell (p := ⟨wr.heap.size, 1, none⟩) (by show wr.heap.size < W3.heap.size; omega)).trans e2
                have HB4 := Lib.hid (HB3.out.trans (hb34.mono (by omega)))
                have Hhas := Lib.hid hhas
                have Hws := Lib.hid bv
                have hsz34 := hb34.size
                clear hsg Hst hhas hgr hb34 bv
                go_wp2_with fail
                obtain ⟨wo, hwo⟩ : ∃ wo : World, wo = wr := ⟨_, rfl⟩
                subst hwo
                go_loopw [54] (fun i wr => ∃ q : Nat, q ≤ ways.length ∧ i = .int .i64 q ∧ Hid (R = (waysFrom 4 [own] (ways.take q) (ways.drop q) && ((m.feet.drop (k + 1)).all footMay && (waysFrom 2 [] (m.ends.take 0) (m.ends.drop 0) && brksFrom m.feet.length 0 (m.brks.drop 0))))) ∧ Hid (Has wr (wo.heap.size + 1) (q + 1) ([own] ++ (ways.take q).map (·.1))) ∧ Hid (Below W1.heap.size W1 wr)) (fun i _ => ways.length - (intOf i).toNat)
                case atStart => exact ⟨0, by omega, rfl, HR3, Lib.hid (by simpa using Hhas.out), HB4⟩
                case round =>
                  obtain ⟨q, hq, rfl, hRq, hHq, hBq⟩ := hrel
                  clear HR3 e1 e2 e3
                  by_cases hlq : q < ways.length
                  · obtain ⟨b2, off2, rfl, hbb2, hrow2⟩ := (HIW.out.below hBq.out) (by omega)
                    have g1 := (hrow2 q hlq).1
                    have g2 := (hrow2 q hlq).2
                    have Hst := Lib.hid (hRq.out.trans (by rw [waysFrom_step 4 [own] ways q hlq, wayOk_has]))
                    have Hmt := Lib.hid (map_take_fst ways q hlq)
                    have hvs : (ways.getD q default).1.size ≤ 9223372036854775807 := by
                      rw [List.getD_eq_getElem?_getD, List.getElem?_eq_getElem hlq]
                      exact Hws.out _ (List.getElem_mem hlq)
                    have hbs2 := hBq.out.size
                    clear hrow2
                    generalize ways.getD q default = v at *
                    obtain ⟨vs, vn⟩ := v
                    simp only [] at g1 g2 hvs Hst
                    have hvx : vs.size ≤ maxLen := by unfold maxLen; omega
                    generalize hks : [own] ++ (ways.take q).map (·.1) = ks at Hst hHq
                    have Hks : Hid ([own] ++ (ways.take (q + 1)).map (·.1) = ks ++ [vs]) := Lib.hid (by rw [Hmt.out, ← List.append_assoc, hks])
                    clear hks
                    have hlt0 : wo.heap.size + 1 < wr.heap.size := hHq.out.lt
                    generalize hW5 : wr.alloc (.cells #[.string vs, .int .i64 vn] 100) = W5
                    have sW5 : W5.heap.size = wr.heap.size + 1 := by rw [← hW5]; simp
                    have hB5 : Below W1.heap.size W1 W5 := by rw [← hW5]; exact hBq.out.alloc hbs2 _
                    have j1 : W5.cell? ⟨wr.heap.size, 0, none⟩ = some (.string vs) := by rw [← hW5]; simp
                    have j2 : W5.cell? ⟨wr.heap.size, 1, none⟩ = some (.int .i64 vn) := by rw [← hW5]; simp
                    have hh5 : Has W5 (wo.heap.size + 1) (q + 1) ks := by rw [← hW5]; exact hHq.out.alloc _
                    have hlook := hh5.look vs hvx
                    obtain ⟨W6, hrun6, hh6, hg6⟩ := hh5.store (by unfold maxLen; omega) vs hvx
                    have HB6 := Lib.hid (hB5.grown hg6 (by omega) (fun z e => by cases e; omega))
                    have HB5 := Lib.hid hB5
                    have Hh6 := Lib.hid hh6
                    have HW5 := Lib.hid hW5
                    have hsg := fun W2 => refsigns_any vs 1 4 W2 hvs
                    generalize hS : signsB vs 1 4 = S2 at hsg Hst
                    generalize hO : ownHas ks vs = O at hlook Hst
                    have Hsg := Lib.hid hsg
                    clear hW5 hh5 hh6 hg6 hB5 hS hO hsg
                    go_wp2_with fail
                    rw [HW5.out]
                    refine (Hsg.out _).mono ?_
                    rintro e w' ⟨rfl, rfl⟩
                    cases S2 with
                    | false =>
                      go_wp2_with fail
                      go_ret
                      exact ⟨ret_bool (by rw [Hst.out]; rfl), HB1.out.trans (HB5.out.mono (by omega))⟩
                    | true =>
                      by_cases p1 : vn < 0
                      · go_wp2_with fail
                        go_ret
                        exact ⟨ret_bool (by rw [Hst.out, decide_eq_false (show ¬ (0 : Int) ≤ vn by omega)]; rfl), HB1.out.trans (HB5.out.mono (by omega))⟩
                      · by_cases p2 : 1048576 < vn
                        · go_wp2_with fail
                          go_ret
                          exact ⟨ret_bool (by rw [Hst.out, decide_eq_false (show ¬ vn ≤ 1048576 by omega)]; simp), HB1.out.trans (HB5.out.mono (by omega))⟩
                        · cases O with
                          | true =>
                            go_wp2_with fail
                            go_ret
                            exact ⟨ret_bool (by rw [Hst.out]; simp), HB1.out.trans (HB5.out.mono (by omega))⟩
                          | false =>
                            go_wp2_with fail
                            go_roundw
                            case rel => exact ⟨q + 1, by omega, by go_num, Lib.hid (by rw [Hst.out, decide_eq_true (show (0 : Int) ≤ vn by omega), decide_eq_true (show vn ≤ 1048576 by omega)]; simp), Lib.hid (by rw [Hks.out]; exact Hh6.out), HB6⟩
                            case measure => simp [intOf]; omega
                  · obtain rfl : q = ways.length := by omega
                    have HR4 : Hid (R = ((m.feet.drop (k + 1)).all footMay && (waysFrom 2 [] (m.ends.take 0) (m.ends.drop 0) && brksFrom m.feet.length 0 (m.brks.drop 0)))) := Lib.hid (by rw [hRq.out, waysFrom_end]; rfl)
                    go_wp2_with fail
                    go_roundw
                    case rel => exact ⟨k + 1, by omega, by go_num, HR4, hBq⟩
                    case measure => simp [intOf]; omega
          · obtain rfl : k = m.feet.length := by omega
            have HR1 : Hid (R = (waysFrom 2 [] (m.ends.take 0) (m.ends.drop 0) && brksFrom m.feet.length 0 (m.brks.drop 0))) := Lib.hid (by rw [hRk.out, List.drop_length]; rfl)
            obtain ⟨q0, q1, q2⟩ := Hkeep.out _ hbl.out
            have hbs := hbl.out.size
            have hb34 : Below wr.heap.size wr (wr.alloc (.map #[] 0)) := (Below.refl _ wr).alloc (Nat.le_refl _) _
            have q1' := (hb34.cell (p := ⟨w.heap.size, 1, none⟩) (by show w.heap.size < wr.heap.size; omega)).trans q1
            have Hhas := Lib.hid (Has.made wr)
            have HB4 := Lib.hid (hbl.out.trans (hb34.mono hbs))
            have Hws := Lib.hid HM.out.bd.ends.2
            clear hRk hb34 q0 q2
            go_wp2_with fail
            obtain ⟨wo, hwo⟩ : ∃ wo : World, wo = wr := ⟨_, rfl⟩
            subst hwo
            go_loopw [87] (fun i wr => ∃ q : Nat, q ≤ m.ends.length ∧ i = .int .i64 q ∧ Hid (R = (waysFrom 2 [] (m.ends.take q) (m.ends.drop q) && brksFrom m.feet.length 0 (m.brks.drop 0))) ∧ Hid (Has wr wo.heap.size q ([] ++ (m.ends.take q).map (·.1))) ∧ Hid (Below W1.heap.size W1 wr)) (fun i _ => m.ends.length - (intOf i).toNat)
            case atStart => exact ⟨0, by omega, rfl, HR1, Lib.hid (by simpa using Hhas.out), HB4⟩
            case round =>
              obtain ⟨q, hq, rfl, hRq, hHq, hBq⟩ := hrel
              clear HR1 q1 q1'
              by_cases hlq : q < m.ends.length
              · obtain ⟨b2, off2, rfl, hbb2, hrow2⟩ := (HM.out.ends.below hBq.out) (by omega)
                have g1 := (hrow2 q hlq).1
                have g2 := (hrow2 q hlq).2
                have Hst := Lib.hid (hRq.out.trans (by rw [waysFrom_step 2 [] m.ends q hlq, wayOk_has]))
                have Hmt := Lib.hid (map_take_fst m.ends q hlq)
                have hvs : (m.ends.getD q default).1.size ≤ 9223372036854775807 := by
                  rw [List.getD_eq_getElem?_getD, List.getElem?_eq_getElem hlq]
                  exact Hws.out _ (List.getElem_mem hlq)
                have hbs2 := hBq.out.size
                clear hrow2
                generalize m.ends.getD q default = v at *
                obtain ⟨vs, vn⟩ := v
                simp only [] at g1 g2 hvs Hst
                have hvx : vs.size ≤ maxLen := by unfold maxLen; omega
                generalize hks : [] ++ (m.ends.take q).map (·.1) = ks at Hst hHq
                have Hks : Hid ([] ++ (m.ends.take (q + 1)).map (·.1) = ks ++ [vs]) := Lib.hid (by rw [Hmt.out, ← List.append_assoc, hks])
                clear hks
                have hlt0 : wo.heap.size < wr.heap.size := hHq.out.lt
                generalize hW5 : wr.alloc (.cells #[.string vs, .int .i64 vn] 100) = W5
                have sW5 : W5.heap.size = wr.heap.size + 1 := by rw [← hW5]; simp
                have hB5 : Below W1.heap.size W1 W5 := by rw [← hW5]; exact hBq.out.alloc hbs2 _
                have j1 : W5.cell? ⟨wr.heap.size, 0, none⟩ = some (.string vs) := by rw [← hW5]; simp
                have j2 : W5.cell? ⟨wr.heap.size, 1, none⟩ = some (.int .i64 vn) := by rw [← hW5]; simp
                have hh5 : Has W5 wo.heap.size q ks := by rw [← hW5]; exact hHq.out.alloc _
                have hlook := hh5.look vs hvx
                obtain ⟨W6, hrun6, hh6, hg6⟩ := hh5.store (by unfold maxLen; omega) vs hvx
                have HB6 := Lib.hid (hB5.grown hg6 (by omega) (fun z e => by cases e; omega))
                have HB5 := Lib.hid hB5
                have Hh6 := Lib.hid hh6
                have HW5 := Lib.hid hW5
                have hsg := fun W2 => refsigns_any vs 1 2 W2 hvs
                generalize hS : signsB vs 1 2 = S2 at hsg Hst
                generalize hO : ownHas ks vs = O at hlook Hst
                have Hsg := Lib.hid hsg
                clear hW5 hh5 hh6 hg6 hB5 hS hO hsg
                go_wp2_with fail
                rw [HW5.out]
                refine (Hsg.out _).mono ?_
                rintro e w' ⟨rfl, rfl⟩
                cases S2 with
                | false =>
                  go_wp2_with fail
                  go_ret
                  exact ⟨ret_bool (by rw [Hst.out]; rfl), HB1.out.trans (HB5.out.mono (by omega))⟩
                | true =>
                  by_cases p1 : vn < 0
                  · go_wp2_with fail
                    go_ret
                    exact ⟨ret_bool (by rw [Hst.out, decide_eq_false (show ¬ (0 : Int) ≤ vn by omega)]; rfl), HB1.out.trans (HB5.out.mono (by omega))⟩
                  · by_cases p2 : 1048576 < vn
                    · go_wp2_with fail
                      go_ret
                      exact ⟨ret_bool (by rw [Hst.out, decide_eq_false (show ¬ vn ≤ 1048576 by omega)]; simp), HB1.out.trans (HB5.out.mono (by omega))⟩
                    · cases O with
                      | true =>
                        go_wp2_with fail
                        go_ret
                        exact ⟨ret_bool (by rw [Hst.out]; simp), HB1.out.trans (HB5.out.mono (by omega))⟩
                      | false =>
                        go_wp2_with fail
                        go_roundw
                        case rel => exact ⟨q + 1, by omega, by go_num, Lib.hid (by rw [Hst.out, decide_eq_true (show (0 : Int) ≤ vn by omega), decide_eq_true (show vn ≤ 1048576 by omega)]; simp), Lib.hid (by rw [Hks.out]; exact Hh6.out), HB6⟩
                        case measure => simp [intOf]; omega
              · obtain rfl : q = m.ends.length := by omega
                have HR4 : Hid (R = brksFrom m.feet.length 0 (m.brks.drop 0)) := Lib.hid (by rw [hRq.out, waysFrom_end]; rfl)
                obtain ⟨q0, q1, q2⟩ := Hkeep.out _ hBq.out
                clear hRq hHq q1
                go_wp2_with fail
                obtain ⟨wp, hwp⟩ : ∃ wp : World, wp = wr := ⟨_, rfl⟩
                subst hwp
                go_loopw [11, 118] (fun a i wr => ∃ (z : Nat) (af : Int), z ≤ m.brks.length ∧ i = .int .i64 z ∧ a = .int .i64 af ∧ Hid (R = brksFrom m.feet.length af (m.brks.drop z)) ∧ Hid (Below W1.heap.size W1 wr)) (fun _ i _ => m.brks.length - (intOf i).toNat)
                case atStart => exact ⟨0, 0, by omega, rfl, rfl, HR4, hBq⟩
                case round =>
                  obtain ⟨z, af, hz, rfl, rfl, hRz, hbl2⟩ := hrel
                  clear HR4 q0 q2
                  obtain ⟨q0, q1, q2⟩ := Hkeep.out _ hbl2.out
                  by_cases hlz : z < m.brks.length
                  · obtain ⟨b, off, rfl, hbb, hrow⟩ := (HM.out.below hbl2.out).brks (by omega)
                    obtain ⟨hc1, hc2⟩ := hrow z hlz
                    have Hst := Lib.hid (hRz.out.trans (by rw [brksFrom_step m.feet.length af m.brks z hlz]))
                    have hbs := hbl2.out.size
                    clear hrow
                    generalize m.brks.getD z default = x at *
                    obtain ⟨xa, xc⟩ := x
                    simp only [] at hc1 hc2 Hst
                    have hne : w.heap.size < wr.heap.size := by omega
                    have r0 : (wr.alloc (.cells #[.int .i64 xa, .int .i64 xc] 98)).cell? ⟨w.heap.size, 0, none⟩ = some (.slice Af m.feet.length cf) := (((Below.refl wr.heap.size wr).alloc (Nat.le_refl _) _).cell (p := ⟨w.heap.size, 0, none⟩) hne).trans q0
                    have Hb3 : Hid (Below W1.heap.size W1 (wr.alloc (.cells #[.int .i64 xa, .int .i64 xc] 98))) := Lib.hid (hbl2.out.alloc hbs _)
                    by_cases g1 : xa ≤ af
                    · go_wp2_with fail
                      go_ret
                      exact ⟨ret_bool (by rw [Hst.out]; simp; omega), HB1.out.trans (Hb3.out.mono (by omega))⟩
                    · by_cases g2 : (m.feet.length : Int) ≤ xa
                      · go_wp2_with fail
                        go_ret
                        exact ⟨ret_bool (by rw [Hst.out]; simp; omega), HB1.out.trans (Hb3.out.mono (by omega))⟩
                      · by_cases g3 : xc < 1
                        · go_wp2_with fail
                          go_ret
                          exact ⟨ret_bool (by rw [Hst.out]; simp; omega), HB1.out.trans (Hb3.out.mono (by omega))⟩
                        · by_cases g4 : 1048576 < xc
                          · go_wp2_with fail
                            go_ret
                            exact ⟨ret_bool (by rw [Hst.out]; simp; omega), HB1.out.trans (Hb3.out.mono (by omega))⟩
                          · go_wp2_with fail
                            go_roundw
                            case rel => exact ⟨z + 1, xa, by omega, by go_num, rfl, Lib.hid (by rw [Hst.out]; have e1 : decide (af < xa) = true := decide_eq_true (by omega); have e2 : decide (xa < (m.feet.length : Int)) = true := decide_eq_true (by omega); have e3 : decide (1 ≤ xc) = true := decide_eq_true (by omega); have e4 : decide (xc ≤ 1048576) = true := decide_eq_true (by omega); rw [e1, e2, e3, e4]; rfl), Hb3⟩
                            case measure => simp [intOf]; omega
                  · obtain rfl : z = m.brks.length := by omega
                    go_wp2_with fail
                    go_ret
                    exact ⟨ret_bool (by rw [hRz.out, List.drop_length]; rfl), HB1.out.trans (hbl2.out.mono (by omega))⟩
end Go.Proofs.YtkfkkoefpfmjkaaDoor

import Derived.Test.YtkfkkoefpfmjkaaDoorCD
namespace Go.Proofs.YtkfkkoefpfmjkaaDoor
set_option linter.unusedVariables false
set_option linter.unusedSimpArgs false
open Go.RowKit

section
variable {B N0 l Y A C T N : Nat} {rv : Value} {vs : List Value} {rows : List (List Way)} {J Jx : List YP → World → Prop}
def tellArgs (s : ByteArray) (c : Int) (C A Y T : Nat) : Array Value := #[.string s, .int .i64 c, .pointer (some ⟨C, 0, none⟩), .pointer (some ⟨A, 0, none⟩), .pointer (some ⟨Y, 0, none⟩), .pointer (some ⟨T, 0, none⟩)]
/-- what a call of tell asks -/
structure TellIn (B l Y A C T N : Nat) (rv : Value) (vs : List Value) (rows : List (List Way)) (J : List YP → World → Prop) (pre : List YP) (s : ByteArray) (c : Int) (vch : Value) (ch : List Int) (w : World) : Prop where
  ts : TS B l Y A C T rv vs rows J pre vch ch w
  le : ch.length ≤ rows.length
  sz : s.size ≤ 4 * ch.length
  c0 : 0 ≤ c
  c1 : c ≤ 1048576 * (ch.length : Int)
  n : pre.length + (pats (rows.drop ch.length)).length ≤ N
theorem patsK_app (R : List Pat) (v : Way) : ∀ (l : List Way) (k : Nat), patsK R k (l ++ [v]) = patsK R k l ++ R.map (preP v ((k + l.length : Nat) : Int))
  | [], k => by simp [patsK]
  | u :: l, k => by
    show R.map (preP u k) ++ patsK R (k + 1) (l ++ [v]) = (R.map (preP u k) ++ patsK R (k + 1) l) ++ _
    rw [patsK_app R v l (k + 1), List.append_assoc, List.length_cons, show k + 1 + l.length = k + (l.length + 1) by omega]
theorem takeW_snoc (l : List Way) (k : Nat) (h : k < l.length) : l.take (k + 1) = l.take k ++ [l.getD k default] := by
  rw [List.take_succ_eq_append_getElem h]; simp [List.getD_eq_getElem?_getD, h]
theorem memW_at {l : List Way} {k : Nat} (h : k < l.length) : l.getD k default ∈ l := by
  rw [List.getD_eq_getElem?_getD, List.getElem?_eq_getElem h]; exact List.getElem_mem h
theorem drop_row (rows : List (List Way)) (i : Nat) (h : i < rows.length) : rows.drop i = rows.getD i [] :: rows.drop (i + 1) := by
  rw [List.drop_eq_getElem_cons h]; simp [List.getD_eq_getElem?_getD, h]
theorem told_step {s : ByteArray} {c : Int} {ch : List Int} {R : List Pat} {l : List Way} {k : Nat} {xs xs2 : List YP} (hk : k < l.length) (h1 : xs.map YP.pat = (patsK R 0 (l.take k)).map (pre3 s c ch))
    (h2 : xs2.map YP.pat = R.map (pre3 (s ++ (l.getD k default).1) (c + (l.getD k default).2) (ch ++ [(k : Int)]))) : (xs ++ xs2).map YP.pat = (patsK R 0 (l.take (k + 1))).map (pre3 s c ch) := by
  rw [takeW_snoc l k hk, patsK_app, List.map_append, List.map_append, h1, h2, List.map_map, List.length_take_of_le (by omega), Nat.zero_add]
  congr 1
  refine List.map_congr_left fun p _ => ?_
  rw [pre3_pre]; rfl
theorem told_len {R : List Pat} {l : List Way} {k : Nat} {xs : List YP} {f : Pat → Pat} (hk : k < l.length) (h1 : xs.map YP.pat = (patsK R 0 (l.take k)).map f) : xs.length + R.length ≤ l.length * R.length := by
  have : xs.length = k * R.length := by
    have h := congrArg List.length h1
    rw [List.length_map, List.length_map, patsK_len, List.length_take_of_le (by omega)] at h
    exact h
  rw [this, show k * R.length + R.length = (k + 1) * R.length by rw [Nat.add_mul]; omega]
  exact Nat.mul_le_mul_right _ hk

set_option maxRecDepth 100000 in
set_option maxHeartbeats 8000000 in
theorem tell_node (hB : N0 ≤ B) (aJ : AbidesG B yBlk J) (hno : ∀ ps W, ¬ Jx ps W) (hR : RowsOk rows) (hcost : ∀ l ∈ rows, ∀ v ∈ l, 0 ≤ v.2 ∧ v.2 ≤ 1048576) (pre : List YP) (s : ByteArray) (c : Int) (vch : Value) (ch : List Int) (w : World)
    (h : TellIn B l Y A C T N rv vs rows J pre s c vch ch w) (hlt : ch.length < rows.length)
    (IH : ∀ pre s c vch ch' w, ch'.length = ch.length + 1 → TellIn B l Y A C T N rv vs rows J pre s c vch ch' w → Calls Tryd.prog 72 (tellArgs s c C A Y T) w (TellOk B l Y A C T rv vs rows J Jx pre s c ch')) :
    Calls Tryd.prog 72 (tellArgs s c C A Y T) w (TellOk B l Y A C T rv vs rows J Jx pre s c ch) := by
  have hlen17 := hR.len
  have hmem := mem_at hlt
  have hl16 := hR.few _ hmem
  have hd := drop_row rows ch.length hlt
  have hNd : (pats (rows.drop ch.length)).length = (rows.getD ch.length []).length * (pats (rows.drop (ch.length + 1))).length := by
    rw [hd]; exact patsK_len _ _ _
  have hpd : pats (rows.drop ch.length) = patsK (pats (rows.drop (ch.length + 1))) 0 (rows.getD ch.length []) := by rw [hd]; rfl
  have Hv : Hid (∀ k, k < (rows.getD ch.length []).length → ((rows.getD ch.length []).getD k default).1.size ≤ 4 ∧ 0 ≤ ((rows.getD ch.length []).getD k default).2 ∧ ((rows.getD ch.length []).getD k default).2 ≤ 1048576) := Lib.hid fun k hk => by
    have hm : (rows.getD ch.length []).getD k default ∈ rows.getD ch.length [] := memW_at hk
    exact ⟨hR.four _ hmem _ hm, hcost _ hmem _ hm⟩
  obtain ⟨Ac, cc, rfl, hcc, _⟩ := row_ints h.ts.te.row
  obtain ⟨Ar, cr, rfl, hcr, hrw⟩ := h.ts.te.rows.isRows
  obtain ⟨br, offr, rfl, hbr, hrr⟩ := hrw (by omega)
  obtain ⟨A3, c3, hr1, hc3, _⟩ := hrr ch.length hlt
  have hA3 : vs.getD ch.length nilV = .slice A3 (rows.getD ch.length []).length c3 := by
    have h1 := h.ts.te.rows.out
    rcases h1.2 with ⟨h0, _⟩ | ⟨g, cap, cur, e, _, hg, hcap, _⟩
    · cases h0
    · cases e
      have h2 := h1.cellAt ch.length (by omega)
      rw [Nat.zero_add] at hr1
      rw [h2] at hr1
      rw [List.getD_eq_getElem?_getD, hr1]; rfl
  generalize hRow : rows.getD ch.length [] = row at *
  generalize hP : pats (rows.drop (ch.length + 1)) = P at *
  have c0 : w.cell? ⟨C, 0, none⟩ = some (.slice Ac ch.length cc) := cell_of_row _ _ 0 _ 50 (0, 0) h.ts.te.c
  have a0 : w.cell? ⟨A, 0, none⟩ = some (.slice (some ⟨br, offr, none⟩) rows.length cr) := cell_of_row _ _ 0 _ 114 (0, 0) h.ts.te.a
  have g1 : ((ch.length : Int) == (rows.length : Int)) = false := by
    have : ¬ ((ch.length : Int) = (rows.length : Int)) := by omega
    simpa using this
  have H := Lib.hid h
  have HP := Lib.hid hP
  have Hpd := Lib.hid hpd
  have HNd := Lib.hid hNd
  have HIH := Lib.hid IH
  have HA3 := Lib.hid hA3
  have HRow := Lib.hid hRow
  clear h hP hpd hNd hd hA3 hRow hrr hrw hmem IH
  unfold tellArgs
  go_enter Tryd.func72, Tryd.ntmps72
  go_wp2_with fail
  go_loopw [31] (fun i wr => ∃ (k : Nat) (xs : List YP) (v1 : Value), k ≤ row.length ∧ i = .int .i64 k ∧ Hid (xs.map YP.pat = (patsK P 0 (row.take k)).map (pre3 s c ch)) ∧ Hid (TS B l Y A C T (.slice (some ⟨br, offr, none⟩) rows.length cr) vs rows J (pre ++ xs) v1 ch wr)) (fun i _ => row.length - (intOf i).toNat)
  case atStart => exact ⟨0, [], _, by omega, rfl, Lib.hid (by simp [patsK]), Lib.hid (by rw [List.append_nil]; exact H.out.ts)⟩
  case round =>
    rename_i wr
    obtain ⟨k, xs, v1, hk, rfl, hxs, hts⟩ := hrel
    clear c0 a0
    by_cases hlt2 : k < row.length
    · have te := hts.out.te
      obtain ⟨A4, c4, e4, _, hw4⟩ := own_wayss (te.rows.rows ch.length hlt)
      rw [HA3.out, HRow.out] at e4
      cases e4
      rw [HRow.out] at hw4
      obtain ⟨b, off, rfl, hbb, hrow⟩ := hw4 (by omega)
      obtain ⟨hc1, hc2⟩ := hrow k hlt2
      obtain ⟨Av, cv, rfl, hcv, _⟩ := row_ints te.row
      obtain ⟨hv4, hv0, hv1⟩ := Hv.out k hlt2
      have Hst := Lib.hid fun (xs2 : List YP) => told_step (xs2 := xs2) hlt2 hxs.out
      have Htl := Lib.hid (told_len hlt2 hxs.out)
      clear hrow hw4
      generalize row.getD k default = v at *
      obtain ⟨sv, nv⟩ := v
      simp only [] at hc1 hc2 hv4 hv0 hv1 Hst
      have hB1 : Below wr.heap.size wr (wr.alloc (.cells #[.string sv, .int .i64 nv] 100)) := (Below.refl _ _).alloc (Nat.le_refl _) _
      have sW1 : (wr.alloc (.cells #[.string sv, .int .i64 nv] 100)).heap.size = wr.heap.size + 1 := by simp
      have hv100 : (wr.alloc (.cells #[.string sv, .int .i64 nv] 100)).heap[wr.heap.size]? = some (.cells #[.string sv, .int .i64 nv] 100 (0, 0)) := World.alloc_heap_new wr _
      have hts1 := hts.out.below aJ hB1
      have c0 : (wr.alloc (.cells #[.string sv, .int .i64 nv] 100)).cell? ⟨C, 0, none⟩ = some (.slice Av ch.length cv) := cell_of_row _ _ 0 _ 50 (0, 0) hts1.te.c
      have Hts1 := Lib.hid hts1
      have hsz := hts.out.sz
      have hCw : C < wr.heap.size := lt_of hts.out.te.c
      have hws : IntKind.i64.wrap (c + nv) = c + nv := IntWalk.i64_in _ (by have := H.out.c0; have := H.out.c1; omega)
      have hlen1 : (ch ++ [(k : Int)]).length = ch.length + 1 := by simp
      have hs80 : s.size ≤ 80 := by have := H.out.sz; omega
      have Hmid : Hid (∀ (v5 : Value) (w5 : World), w5.ownsRow B 3 1 v5 (ch.length + 1) (intCells ch ++ [.int .i64 k]) → (wr.alloc (.cells #[.string sv, .int .i64 nv] 100)).grownBy w5 (Value.slice Av ch.length cv).ownBlock →
          (v5.ownBlock = (Value.slice Av ch.length cv).ownBlock ∨ ∃ b, v5.ownBlock = some b ∧ (wr.alloc (.cells #[.string sv, .int .i64 nv] 100)).heap.size ≤ b) →
          w5.cell? ⟨C, 0, none⟩ = some (.slice Av ch.length cv) ∧ w5.frozen? ⟨C, 0, none⟩ = false ∧ (w5.setCell ⟨C, 0, none⟩ v5).cell? ⟨wr.heap.size, 0, none⟩ = some (.string sv) ∧ (w5.setCell ⟨C, 0, none⟩ v5).cell? ⟨wr.heap.size, 1, none⟩ = some (.int .i64 nv) ∧
          (w5.setCell ⟨C, 0, none⟩ v5).cell? ⟨T, 0, none⟩ = some (.func (.func 72) #[] #[.pointer (some ⟨C, 0, none⟩), .pointer (some ⟨A, 0, none⟩), .pointer (some ⟨Y, 0, none⟩), .pointer (some ⟨T, 0, none⟩)]) ∧
          Hid (Calls Tryd.prog 72 #[.string (s ++ sv), .int .i64 (c + nv), .pointer (some ⟨C, 0, none⟩), .pointer (some ⟨A, 0, none⟩), .pointer (some ⟨Y, 0, none⟩), .pointer (some ⟨T, 0, none⟩)] (w5.setCell ⟨C, 0, none⟩ v5) (TellOk B l Y A C T (.slice (some ⟨br, offr, none⟩) rows.length cr) vs rows J Jx (pre ++ xs) (s ++ sv) (c + nv) (ch ++ [(k : Int)])))) := Lib.hid (by
        intro v5 w5 hown5 hgr5 hl5
        have hpush := Hts1.out.push aJ (k := (k : Int)) hown5 hgr5 hl5
        have hne : ∀ {b' : Nat} {cs : Array Value} {t' : Nat}, (wr.alloc (.cells #[.string sv, .int .i64 nv] 100)).heap[b']? = some (.cells cs t' (0, 0)) → 3 ≠ t' → w5.heap[b']? = some (.cells cs t' (0, 0)) := fun {b' cs t'} hb ht => by
          refine (hgr5.block b' (lt_of hb) (fun e => ?_)).trans hb
          rcases own_neb Hts1.out.te.row hb ht with h0 | h0
          · rw [h0] at e; cases e
          · exact h0 e.symm
        have c5 := hne Hts1.out.te.c (by decide)
        have e5 := (Below.heap_setCell w5 ⟨C, 0, none⟩ v5 wr.heap.size (by show wr.heap.size ≠ C; omega)).trans (hne hv100 (by decide))
        refine ⟨cell_of_row _ _ 0 _ 50 (0, 0) c5, frozen_of_row _ _ 0 _ 50 c5, cell_of_row _ _ 0 _ 100 (0, 0) e5, cell_of_row _ _ 1 _ 100 (0, 0) e5, cell_of_row _ _ 0 _ 128 (0, 0) hpush.te.t, Lib.hid ?_⟩
        refine HIH.out (pre ++ xs) (s ++ sv) (c + nv) v5 (ch ++ [(k : Int)]) _ hlen1 ⟨hpush, by omega, ?_, by have := H.out.c0; omega, ?_, ?_⟩
        · rw [hlen1, ByteArray.size_append]; have := H.out.sz; omega
        · rw [hlen1]; have := H.out.c1; omega
        · rw [hlen1, HP.out, List.length_append]
          have := H.out.n
          rw [HNd.out] at this
          have := Htl.out
          omega)
      clear hts1 hv100 te hB1
      go_wp2_with (at_builtin; go_loud (refine wpList_append_boxg (wr.alloc (.cells #[.string sv, .int .i64 nv] 100)) rfl _ _ 50 rfl B 3 _ _ 1 8 Tryd.underlying50 info3 zero3 size3 bytes3 rfl (by decide) (.slice Av ch.length cv) ch.length (intCells ch) #[.int .i64 k] (wr.heap.size + 1) rfl rfl (by simp) Hts1.out.te.row rfl (by intro u hu; simp at hu; subst hu; rfl) (by unfold maxLen; omega) (by omega) (by omega) ?_; intro v5 w5 hown5 hgr5 hl5; obtain ⟨d5, z5, f1, f2, f3, Hcall⟩ := Hmid.out v5 w5 hown5 hgr5 hl5; obtain ⟨g5, cap5, rfl⟩ := own_form hown5 (by omega); clear hown5 hgr5 hl5))
      refine Hcall.out.mono ?_
      rintro e w7 ⟨r, rfl, ⟨rfl, xs2, v7, hx2, hts7⟩ | ⟨rfl, ps, hps⟩⟩
      · obtain ⟨g7, cap7, rfl⟩ := own_form hts7.te.row (by omega)
        have hcap7 : ch.length + 1 ≤ cap7 := by
          obtain ⟨_, _, e, hc, _⟩ := row_ints hts7.te.row
          cases e; omega
        rw [hlen1, HP.out] at hx2
        have hts7' := hts7
        rw [hlen1] at hts7'
        have hpop := hts7'.pop aJ
        have c7 : w7.cell? ⟨C, 0, none⟩ = some (.slice (some ⟨g7, 0, none⟩) (ch.length + 1) cap7) := cell_of_row _ _ 0 _ 50 (0, 0) hts7'.te.c
        have z7 := frozen_of_row _ _ 0 _ 50 hts7'.te.c
        have Hx2 := Lib.hid (Hst.out xs2 hx2)
        have Hpop : Hid (TS B l Y A C T (.slice (some ⟨br, offr, none⟩) rows.length cr) vs rows J (pre ++ (xs ++ xs2)) _ ch _) := Lib.hid (by rw [← List.append_assoc]; exact hpop)
        clear hpop hts7 hts7' hx2
        go_wp2_with fail
        go_roundw
        case rel => exact ⟨k + 1, xs ++ xs2, _, by omega, by go_num, Hx2, Hpop⟩
        case measure => simp [intOf]; omega
      · exact (hno _ _ hps).elim
    · obtain rfl : k = row.length := by omega
      go_wp2_with fail
      go_ret
      refine ⟨true, rfl, .inl ⟨rfl, xs, v1, ?_, hts.out⟩⟩
      rw [Hpd.out, hxs.out, List.take_length]
/-- tell, at any choice -/
theorem tell_any (hB : N0 ≤ B) (aJ : AbidesG B yBlk J) (hno : ∀ ps W, ¬ Jx ps W) (hY : Yields B N0 l N J Jx) (hR : RowsOk rows) (hcost : ∀ l ∈ rows, ∀ v ∈ l, 0 ≤ v.2 ∧ v.2 ≤ 1048576) : ∀ (d : Nat) (pre : List YP) (s : ByteArray) (c : Int) (vch : Value) (ch : List Int) (w : World),
    rows.length = ch.length + d → TellIn B l Y A C T N rv vs rows J pre s c vch ch w → Calls Tryd.prog 72 (tellArgs s c C A Y T) w (TellOk B l Y A C T rv vs rows J Jx pre s c ch)
  | 0, pre, s, c, vch, ch, w, hd, h => by
    have h17 := hR.len
    have hsz := h.sz
    have hc := h.c1
    refine (callsIn_wide (n := 0)).1 (tell_leaf 0 hB aJ hY pre s c vch ch w h.ts (by omega) h17 (by omega) h.c0 (by omega) ?_)
    have := h.n
    rw [List.drop_eq_nil_of_le (by omega)] at this
    have e : (pats []).length = 1 := rfl
    omega
  | d + 1, pre, s, c, vch, ch, w, hd, h => by
    refine tell_node hB aJ hno hR hcost pre s c vch ch w h (by omega) ?_
    intro pre' s' c' vch' ch' w' hl h'
    exact tell_any hB aJ hno hY hR hcost d pre' s' c' vch' ch' w' (by omega) h'
end
end Go.Proofs.YtkfkkoefpfmjkaaDoor

import Derived.Test.YtkfkkoefpfmjkaaDoorKH
import Derived.Test.YtkfkkoefpfmjkaaDoorJB
import Derived.Test.YtkfkkoefpfmjkaaDoorTD
namespace Go.Proofs.YtkfkkoefpfmjkaaDoor
set_option linter.unusedVariables false
set_option linter.unusedSimpArgs false
open Go.RowKit

/- MetreJoins, walked. -/
theorem below_next7 {A W2 W3 : World} (h : Below A.heap.size A W2) (h2 : Below W2.heap.size W2 W3) : Below A.heap.size A W3 := h.trans (h2.mono h.size)
theorem bounded_join {m n : Met} (hm : Bounded m) (hn : Bounded n) (fm : Few m) (fn : Few n) : Bounded (joinP m n) := by
  refine ⟨?_, fun f hf => ?_, hn.ends, ?_⟩
  · have := fm.feet; have := fn.feet; simp only [joinP, List.length_append]; omega
  · rcases List.mem_append.1 hf with h | h
    · exact hm.ways f h
    · exact hn.ways f h
  · have := fm.brks; have := fn.brks; simp only [joinP, List.length_append, brkAdd_len]; omega
theorem OM.away_hi {W W' : World} {B E C : Nat} {m : Met} {vf ve vb : Value} {vs : List Value} (h : OM W C m vf ve vb vs) (ha : Away B E W W') (hE : E ≤ C) : OM W' C m vf ve vb vs := by
  have q : ∀ {e n : Nat} {v : Value} {c : List Value}, W.ownsRow C e 2 v n c → W'.ownsRow C e 2 v n c := fun {e n v c} hu => by
    refine ⟨hu.1, ?_⟩
    rcases hu.2 with h1 | ⟨g, cap, cur, h1, h2, h3, h4⟩
    · exact .inl h1
    · exact .inr ⟨g, cap, cur, h1, h2, (ha.block g (lt_of_heap h3) (.inr (by omega))).trans h3, h4⟩
  exact ⟨h.vl, q h.feet, fun k hk => q (h.ways k hk), q h.ends, q h.brks, h.apart⟩
theorem few_of {m : Met} (h : mayB m = true) : Few m := by
  have hs := small_of h
  have hl := slim_of h
  refine ⟨by have := hs.feet; omega, fun k hk => ?_, by have := hs.ends; omega, by have := hl.len; omega⟩
  have hmem : m.feet.getD k default ∈ m.feet := by rw [List.getD_eq_getElem?_getD, List.getElem?_eq_getElem hk]; exact List.getElem_mem hk
  have := hs.ways _ hmem; omega
theorem equal_self (m : Met) : equalP m m = true := by
  unfold equalP eqFeet
  rw [eqL_self, eqL_self, eqL_self]; simp
/-- the frame in the drawn region of two copies -/
def FrR7 (y2 y3 y7 y8 x6 x7 xa x1 xb x3 : Value) (a : Act) : Prop := ∃ f : Nat → Value, a = { tmps := #[f 0, f 1, y2, y3, f 4, f 5, f 6, y7, y8, x6, x7, f 11, f 12, f 13, f 14, f 15, f 16, f 17, f 18, f 19, f 20, f 21, f 22, f 23, f 24, f 25, f 26, f 27, f 28, f 29, f 30, f 31, f 32, f 33, f 34, f 35, f 36, f 37, f 38, f 39, xa, x1, xb, x3, f 44, f 45, f 46, f 47, f 48, f 49, f 50, f 51, f 52, f 53, f 54, f 55, f 56, f 57, f 58, f 59, f 60, f 61, f 62, f 63, f 64, f 65, f 66, f 67, f 68, f 69, f 70, f 71, f 72, f 73, f 74, f 75, f 76, f 77, f 78, f 79, f 80, f 81, f 82, f 83, f 84], defers := [] }
theorem FrR7.of (v0 v1 v2 v3 v4 v5 v6 v7 v8 v9 v10 v11 v12 v13 v14 v15 v16 v17 v18 v19 v20 v21 v22 v23 v24 v25 v26 v27 v28 v29 v30 v31 v32 v33 v34 v35 v36 v37 v38 v39 v40 v41 v42 v43 v44 v45 v46 v47 v48 v49 v50 v51 v52 v53 v54 v55 v56 v57 v58 v59 v60 v61 v62 v63 v64 v65 v66 v67 v68 v69 v70 v71 v72 v73 v74 v75 v76 v77 v78 v79 v80 v81 v82 v83 v84 : Value) : FrR7 v2 v3 v7 v8 v9 v10 v40 v41 v42 v43 { tmps := #[v0, v1, v2, v3, v4, v5, v6, v7, v8, v9, v10, v11, v12, v13, v14, v15, v16, v17, v18, v19, v20, v21, v22, v23, v24, v25, v26, v27, v28, v29, v30, v31, v32, v33, v34, v35, v36, v37, v38, v39, v40, v41, v42, v43, v44, v45, v46, v47, v48, v49, v50, v51, v52, v53, v54, v55, v56, v57, v58, v59, v60, v61, v62, v63, v64, v65, v66, v67, v68, v69, v70, v71, v72, v73, v74, v75, v76, v77, v78, v79, v80, v81, v82, v83, v84], defers := [] } := ⟨fun i => (#[v0, v1, v2, v3, v4, v5, v6, v7, v8, v9, v10, v11, v12, v13, v14, v15, v16, v17, v18, v19, v20, v21, v22, v23, v24, v25, v26, v27, v28, v29, v30, v31, v32, v33, v34, v35, v36, v37, v38, v39, v40, v41, v42, v43, v44, v45, v46, v47, v48, v49, v50, v51, v52, v53, v54, v55, v56, v57, v58, v59, v60, v61, v62, v63, v64, v65, v66, v67, v68, v69, v70, v71, v72, v73, v74, v75, v76, v77, v78, v79, v80, v81, v82, v83, v84]).getD i undef, rfl⟩
set_option maxRecDepth 100000 in
set_option maxHeartbeats 16000000 in
theorem joins7_any (Af Ae Ab : Option Addr) (cf ce cb : Nat) (m : Met) (Bf Be Bb : Option Addr) (df de db : Nat) (n : Met) (w : World) (h : IsMet w w.heap.size Af Ae Ab cf ce cb m) (h2 : IsMet w w.heap.size Bf Be Bb df de db n)
    (hr : MetReach m) (hr2 : MetReach n) (hv : Vars w) :
    Calls Tryd.prog 7 #[.agg #[.slice Af m.feet.length cf, .slice Ae m.ends.length ce, .slice Ab m.brks.length cb], .agg #[.slice Bf n.feet.length df, .slice Be n.ends.length de, .slice Bb n.brks.length db]] w fun e w' => e = .returned (.bool true) ∧ Below w.heap.size w w' := by
  generalize hW1 : (w.alloc (.cells #[.slice Af m.feet.length cf, .slice Ae m.ends.length ce, .slice Ab m.brks.length cb] 27)).alloc (.cells #[.slice Bf n.feet.length df, .slice Be n.ends.length de, .slice Bb n.brks.length db] 27) = W1
  have sW1 : W1.heap.size = w.heap.size + 2 := by rw [← hW1]; simp
  have hB1 : Below w.heap.size w W1 := by rw [← hW1]; exact ((Below.refl _ _).alloc (Nat.le_refl _) _).alloc (by simp) _
  have hx1 : W1.heap[w.heap.size]? = some (.cells #[.slice Af m.feet.length cf, .slice Ae m.ends.length ce, .slice Ab m.brks.length cb] 27 (0, 0)) := by
    rw [← hW1]; exact (Below.heap_alloc _ _ _ (by simp)).trans (World.alloc_heap_new w _)
  have hx2 : W1.heap[w.heap.size + 1]? = some (.cells #[.slice Bf n.feet.length df, .slice Be n.ends.length de, .slice Bb n.brks.length db] 27 (0, 0)) := by
    rw [← hW1]
    have := World.alloc_heap_new (w.alloc (.cells #[.slice Af m.feet.length cf, .slice Ae m.ends.length ce, .slice Ab m.brks.length cb] 27)) (.cells #[.slice Bf n.feet.length df, .slice Be n.ends.length de, .slice Bb n.brks.length db] 27)
    rw [World.size_alloc] at this
    exact this
  have HM := Lib.hid (h.on hB1)
  have HN := Lib.hid (h2.on hB1)
  have HW1 := Lib.hid hW1
  have HB1 := Lib.hid hB1
  have Hkeep := Lib.hid fun (W2 : World) (hb2 : Below W1.heap.size W1 W2) =>
    And.intro (And.intro (cell_of_row _ _ 0 _ 27 (0, 0) ((hb2.block w.heap.size (by omega)).trans hx1)) (And.intro (cell_of_row _ _ 1 _ 27 (0, 0) ((hb2.block w.heap.size (by omega)).trans hx1)) (cell_of_row _ _ 2 _ 27 (0, 0) ((hb2.block w.heap.size (by omega)).trans hx1))))
      (And.intro (cell_of_row _ _ 0 _ 27 (0, 0) ((hb2.block (w.heap.size + 1) (by omega)).trans hx2)) (And.intro (cell_of_row _ _ 1 _ 27 (0, 0) ((hb2.block (w.heap.size + 1) (by omega)).trans hx2)) (cell_of_row _ _ 2 _ 27 (0, 0) ((hb2.block (w.heap.size + 1) (by omega)).trans hx2))))
  have Hnext := Lib.hid fun (W2 W3 : World) (hb2 : Below W1.heap.size W1 W2) (hb3 : Below W2.heap.size W2 W3) => hb2.trans (hb3.mono hb2.size)
  have HV := Lib.hid (hv.below hB1 hv.six)
  have Hwk := Lib.hid fun (W2 : World) (hb2 : Below W1.heap.size W1 W2) => wakes_any W2 (HV.out.below hb2 HV.out.six)
  have HBm := Lib.hid h.bd
  have HBn := Lib.hid h2.bd
  have HRm := Lib.hid hr
  have HRn := Lib.hid hr2
  clear h h2 hW1 hB1 hx1 hx2 hv hr hr2
  go_enter Tryd.func7, Tryd.ntmps7
  go_wp2_with fail
  rw [HW1.out]
  refine (Hwk.out _ (Below.refl _ _)).mono ?_
  rintro e w2 ⟨rfl, hb2⟩
  obtain ⟨⟨m0, m1, m2⟩, n0, n1, n2⟩ := Hkeep.out _ hb2
  have Hb2 := Lib.hid hb2
  have Hmay := Lib.hid (may_any Af Ae Ab cf ce cb m w2 (HM.out.on hb2))
  clear hb2
  have off : ∀ W : World, Below W1.heap.size W1 W → (mayB m = false ∨ mayB n = false) → Calls Tryd.prog 28 #[.agg #[.slice Af m.feet.length cf, .slice Ae m.ends.length ce, .slice Ab m.brks.length cb], .agg #[.slice Bf n.feet.length df, .slice Be n.ends.length de, .slice Bb n.brks.length db]] W fun e w' => e = .returned (.tuple #[.agg #[.slice none 0 0, .slice none 0 0, .slice none 0 0], .int .i64 2]) ∧ Below W.heap.size W w' :=
    fun W hb hno => join_off Af Ae Ab cf ce cb m Bf Be Bb df de db n W (HM.out.on hb) (HN.out.on hb) hno
  have Hoff := Lib.hid off
  clear off
  cases hm : mayB m with
  | false =>
    have Ho := Lib.hid fun (W : World) (hb : Below W1.heap.size W1 W) => Hoff.out W hb (.inl hm)
    rw [hm] at Hmay
    clear hm Hoff
    go_wp2_with fail
    refine Hmay.out.mono ?_
    rintro e w3 ⟨rfl, hb3⟩
    have Hb3 := Lib.hid (Hnext.out _ _ Hb2.out hb3)
    clear hb3 m0 m1 m2 n0 n1 n2 Hmay
    obtain ⟨⟨m0, m1, m2⟩, n0, n1, n2⟩ := Hkeep.out _ Hb3.out
    go_wp2_with fail
    refine (Ho.out _ Hb3.out).mono ?_
    rintro e w4 ⟨rfl, hb4⟩
    have Hb4 := Lib.hid (((Hnext.out _ _ Hb3.out hb4)).alloc (by have := (Hnext.out _ _ Hb3.out hb4).size; exact this) (.cells #[.slice none 0 0, .slice none 0 0, .slice none 0 0] 27))
    clear hb4 m0 m1 m2 n0 n1 n2
    go_wp2_with fail
    refine (Hwk.out _ Hb4.out).mono ?_
    rintro e w5 ⟨rfl, hb5⟩
    have Hb5 := Lib.hid (Hnext.out _ _ Hb4.out hb5)
    clear hb5
    go_wp2_with fail
    go_ret
    exact ⟨rfl, HB1.out.trans (Hb5.out.mono (by omega))⟩
  | true =>
    have Hm := Lib.hid hm
    rw [hm] at Hmay
    clear hm
    go_wp2_with fail
    refine Hmay.out.mono ?_
    rintro e w3 ⟨rfl, hb3⟩
    have Hb3 := Lib.hid (Hnext.out _ _ Hb2.out hb3)
    clear hb3 m0 m1 m2 n0 n1 n2 Hmay
    obtain ⟨⟨m0, m1, m2⟩, n0, n1, n2⟩ := Hkeep.out _ Hb3.out
    have Hmay2 := Lib.hid (may_any Bf Be Bb df de db n w3 (HN.out.on Hb3.out))
    cases hn : mayB n with
    | false =>
      have Ho := Lib.hid fun (W : World) (hb : Below W1.heap.size W1 W) => Hoff.out W hb (.inr hn)
      rw [hn] at Hmay2
      clear hn Hoff
      go_wp2_with fail
      refine Hmay2.out.mono ?_
      rintro e w4 ⟨rfl, hb4⟩
      have Hb4 := Lib.hid (Hnext.out _ _ Hb3.out hb4)
      clear hb4 m0 m1 m2 n0 n1 n2 Hmay2
      obtain ⟨⟨m0, m1, m2⟩, n0, n1, n2⟩ := Hkeep.out _ Hb4.out
      go_wp2_with fail
      refine (Ho.out _ Hb4.out).mono ?_
      rintro e w5 ⟨rfl, hb5⟩
      have Hb5 := Lib.hid (((Hnext.out _ _ Hb4.out hb5)).alloc (by have := (Hnext.out _ _ Hb4.out hb5).size; exact this) (.cells #[.slice none 0 0, .slice none 0 0, .slice none 0 0] 27))
      clear hb5 m0 m1 m2 n0 n1 n2
      go_wp2_with fail
      refine (Hwk.out _ Hb5.out).mono ?_
      rintro e w6 ⟨rfl, hb6⟩
      have Hb6 := Lib.hid (Hnext.out _ _ Hb5.out hb6)
      clear hb6
      go_wp2_with fail
      go_ret
      exact ⟨rfl, HB1.out.trans (Hb6.out.mono (by omega))⟩
    | true =>
      have Hn := Lib.hid hn
      rw [hn] at Hmay2
      clear hn Hoff
      go_wp2_with fail
      refine Hmay2.out.mono ?_
      rintro e w4 ⟨rfl, hb4⟩
      have Hb4 := Lib.hid (Hnext.out _ _ Hb3.out hb4)
      clear hb4 m0 m1 m2 n0 n1 n2 Hmay2
      obtain ⟨⟨m0, m1, m2⟩, n0, n1, n2⟩ := Hkeep.out _ Hb4.out
      have Hrj := Lib.hid (refjoin_any Af Ae Ab cf ce cb m Bf Be Bb df de db n w4 (HM.out.on Hb4.out) (HN.out.on Hb4.out) HRm.out HRn.out (slim_of Hm.out) (slim_of Hn.out) (small_of Hm.out).feet (small_of Hn.out).feet)
      go_wp2_with fail
      refine Hrj.out.mono ?_
      rintro e w5 ⟨hb5, hans⟩
      have Hb5 := Lib.hid (Hnext.out _ _ Hb4.out hb5)
      clear m0 m1 m2 n0 n1 n2 Hrj
      have hgen : ∃ (V0 V1 V2 : Value) (bfit : Bool), e = .returned (.tuple #[.agg #[V0, V1, V2], .bool bfit]) ∧ (∃ A k c, V0 = .slice A k c) ∧ (∃ A k c, V1 = .slice A k c) ∧ (∃ A k c, V2 = .slice A k c) ∧ (bfit = false → 16 < m.feet.length + n.feet.length) ∧
          (bfit = true → ¬ 16 < m.feet.length + n.feet.length ∧ ∃ vs, OM w5 w4.heap.size (joinP m n) V0 V1 V2 vs) := by
        by_cases hlong : 16 < m.feet.length + n.feet.length
        · rw [if_pos hlong] at hans
          exact ⟨_, _, _, false, hans, ⟨_, _, _, rfl⟩, ⟨_, _, _, rfl⟩, ⟨_, _, _, rfl⟩, fun _ => hlong, fun h => by cases h⟩
        · rw [if_neg hlong] at hans
          obtain ⟨vf, ve, vb, vs, e1, hom⟩ := hans
          have r0 := row_slice hom.feet
          have r1 := row_slice hom.ends
          have r2 := row_slice hom.brks
          exact ⟨vf, ve, vb, true, e1, let ⟨A, c, e⟩ := r0; ⟨A, _, c, e⟩, let ⟨A, c, e⟩ := r1; ⟨A, _, c, e⟩, let ⟨A, c, e⟩ := r2; ⟨A, _, c, e⟩, fun h => (by cases h), fun _ => ⟨hlong, vs, hom⟩⟩
      obtain ⟨V0, V1, V2, bfit, rfl, ⟨a0, kk0, c0, rfl⟩, ⟨a1, kk1, c1, rfl⟩, ⟨a2, kk2, c2, rfl⟩, hno, hyes⟩ := hgen
      have Hno := Lib.hid hno
      have Hyes := Lib.hid hyes
      obtain ⟨X5, hX5⟩ : ∃ X, X = w5.alloc (.cells #[.slice a0 kk0 c0, .slice a1 kk1 c1, .slice a2 kk2 c2] 27) := ⟨_, rfl⟩
      have hx5 : Below w5.heap.size w5 X5 := by rw [hX5]; exact (Below.refl _ _).alloc (Nat.le_refl _) _
      have Hw5 := Lib.hid (show X5.heap[w5.heap.size]? = some (.cells #[.slice a0 kk0 c0, .slice a1 kk1 c1, .slice a2 kk2 c2] 27 (0, 0)) by rw [hX5]; exact World.alloc_heap_new _ _)
      have HX5 := Lib.hid (Hnext.out _ _ Hb5.out hx5)
      have Hx5 := Lib.hid hx5
      have hX5' := hX5.symm
      have HXe := Lib.hid hX5'
      clear hno hyes hans hX5 hX5' hx5 hb5
      have Hcm := Lib.hid fun (W : World) (hb : Below X5.heap.size X5 W) => copy_any Af Ae Ab cf ce cb m W (HM.out.on (Hnext.out _ _ HX5.out hb)) HRm.out
      have Hcn := Lib.hid fun (W : World) (hb : Below X5.heap.size X5 W) => copy_any Bf Be Bb df de db n W (HN.out.on (Hnext.out _ _ HX5.out hb)) HRn.out
      go_wp2_with fail
      rw [HXe.out]
      obtain ⟨⟨m0, m1, m2⟩, n0, n1, n2⟩ := Hkeep.out _ HX5.out
      refine wp_region_X (S := fun w' => w'.cell? ⟨w.heap.size, 0, none⟩ = some (.slice Af m.feet.length cf) ∧ w'.cell? ⟨w.heap.size, 1, none⟩ = some (.slice Ae m.ends.length ce) ∧ w'.cell? ⟨w.heap.size, 2, none⟩ = some (.slice Ab m.brks.length cb) ∧ w'.cell? ⟨w.heap.size + 1, 0, none⟩ = some (.slice Bf n.feet.length df) ∧ w'.cell? ⟨w.heap.size + 1, 1, none⟩ = some (.slice Be n.ends.length de) ∧ w'.cell? ⟨w.heap.size + 1, 2, none⟩ = some (.slice Bb n.brks.length db)) (X := fun x => [].contains x) (by kernel_rfl) ?_
      have hHeld : X5.drew.cell? ⟨w.heap.size, 0, none⟩ = some (.slice Af m.feet.length cf) ∧ X5.drew.cell? ⟨w.heap.size, 1, none⟩ = some (.slice Ae m.ends.length ce) ∧ X5.drew.cell? ⟨w.heap.size, 2, none⟩ = some (.slice Ab m.brks.length cb) ∧ X5.drew.cell? ⟨w.heap.size + 1, 0, none⟩ = some (.slice Bf n.feet.length df) ∧ X5.drew.cell? ⟨w.heap.size + 1, 1, none⟩ = some (.slice Be n.ends.length de) ∧ X5.drew.cell? ⟨w.heap.size + 1, 2, none⟩ = some (.slice Bb n.brks.length db) := ⟨m0, m1, m2, n0, n1, n2⟩
      refine wpAnyX_take (i := 0) (v := ?_) rfl (by kernel_rfl) (by kernel_rfl) (by kernel_rfl) (by kernel_rfl) (fun _ _ _ h => h) (Or.inl ⟨by rfl, ?_⟩) (by assumption) ?_
      rotate_left
      · intro w hSw
        obtain ⟨hS1, hS2, hS3, hS4, hS5, hS6⟩ := hSw
        go_simp
        try with_reducible rfl
      simp only [Act.put, List.getElem_toArray, List.getElem_cons_zero, List.getElem_cons_succ, List.setIfInBounds_toArray, List.set_cons_zero, List.set_cons_succ]
      refine wpAnyX_take (i := 2) (v := ?_) rfl (by kernel_rfl) (by kernel_rfl) (by kernel_rfl) (by kernel_rfl) (fun _ _ _ h => h) (Or.inl ⟨by rfl, ?_⟩) (by assumption) ?_
      rotate_left
      · intro w hSw
        obtain ⟨hS1, hS2, hS3, hS4, hS5, hS6⟩ := hSw
        go_simp
        try with_reducible rfl
      simp only [Act.put, List.getElem_toArray, List.getElem_cons_zero, List.getElem_cons_succ, List.setIfInBounds_toArray, List.set_cons_zero, List.set_cons_succ]
      refine wpAnyX_inv (fun listed a wx => ∃ (D : Nat) (b1 b3 b4 b5 b6 b7 : Bool) (x1 x3 x6 x7 : Value), listed = #[true, b1, true, b3, b4, b5, b6, b7] ∧ FrR7 (.pointer (some ⟨w.heap.size, 0, none⟩)) (.pointer (some ⟨w.heap.size + 1, 0, none⟩)) (.pointer (some ⟨w5.heap.size, 0, none⟩)) (.bool bfit) x6 x7 (.agg #[.slice Af m.feet.length cf, .slice Ae m.ends.length ce, .slice Ab m.brks.length cb]) x1 (.agg #[.slice Bf n.feet.length df, .slice Be n.ends.length de, .slice Bb n.brks.length db]) x3 a ∧ (b6 = true → b1 = true ∧ b4 = true) ∧ (b7 = true → b3 = true ∧ b5 = true) ∧ Cy X5.heap.size D m n b1 b3 b4 b5 b6 b7 x1 x3 x6 x7 X5 wx) ?hend ?hstep _ _ _ _ (by decide) ⟨0, false, false, false, false, false, false, undef, undef, undef, undef, rfl, FrR7.of _ _ _ _ _ _ _ _ _ _ _ _ _ _ _ _ _ _ _ _ _ _ _ _ _ _ _ _ _ _ _ _ _ _ _ _ _ _ _ _ _ _ _ _ _ _ _ _ _ _ _ _ _ _ _ _ _ _ _ _ _ _ _ _ _ _ _ _ _ _ _ _ _ _ _ _ _ _ _ _ _ _ _ _ _, (fun h => by cases h), (fun h => by cases h), Cy.start rfl⟩
      case hstep =>
        intro listed a wx i hI hi
        obtain ⟨D, b1, b3, b4, b5, b6, b7, x1, x3, x6, x7, rfl, hF, h6, h7, hC⟩ := hI
        have hop := ready_open hi
        have hi8 : i < 8 := by
          have := (List.getElem?_eq_some_iff.1 hop).1
          simpa using this
        obtain ⟨f, rfl⟩ := hF
        have hSx : ∀ wy : World, Below X5.heap.size X5 wy → wy.cell? ⟨w.heap.size, 0, none⟩ = some (.slice Af m.feet.length cf) ∧ wy.cell? ⟨w.heap.size, 1, none⟩ = some (.slice Ae m.ends.length ce) ∧ wy.cell? ⟨w.heap.size, 2, none⟩ = some (.slice Ab m.brks.length cb) ∧ wy.cell? ⟨w.heap.size + 1, 0, none⟩ = some (.slice Bf n.feet.length df) ∧ wy.cell? ⟨w.heap.size + 1, 1, none⟩ = some (.slice Be n.ends.length de) ∧ wy.cell? ⟨w.heap.size + 1, 2, none⟩ = some (.slice Bb n.brks.length db) := fun wy hb => by obtain ⟨⟨a0, a1, a2⟩, c0, c1, c2⟩ := Hkeep.out _ (Hnext.out _ _ HX5.out hb); exact ⟨a0, a1, a2, c0, c1, c2⟩
        rcases below8 i hi8 with rfl | rfl | rfl | rfl | rfl | rfl | rfl | rfl
        all_goals first | (exfalso; revert hop; clear hi; simp; done) | skip
        · have hb : b1 = false := by simpa using hop
          subst hb
          have hn6 : b6 = false := by
            cases h : b6 with
            | false => rfl
            | true => have := (h6 h).1; cases this
          subst hn6
          refine wpOp_of rfl rfl (opCall (f := 22) (args := #[(.agg #[.slice Af m.feet.length cf, .slice Ae m.ends.length ce, .slice Ab m.brks.length cb])]) (by go_simp; try rfl) ((Hcm.out wx hC.bl).mono ?_))
          rintro e w' ⟨vf, ve, vb, vs, rfl, ho, hb⟩
          have hC' := hC.s1 rfl hb ho
          refine ⟨_, rfl, ?_⟩
          exact ⟨.inr (hSx _ hC'.bl), D, true, b3, b4, b5, false, b7, _, x3, x6, x7, rfl, ⟨f, rfl⟩, (fun h => by cases h), h7, hC'⟩
        · have hb : b3 = false := by simpa using hop
          subst hb
          have hd1 : b1 = true := ready_dep hi rfl 1 (by kernel_rfl)
          subst hd1
          have hn7 : b7 = false := by
            cases h : b7 with
            | false => rfl
            | true => have := (h7 h).1; cases this
          subst hn7
          refine wpOp_of rfl rfl (opCall (f := 22) (args := #[(.agg #[.slice Bf n.feet.length df, .slice Be n.ends.length de, .slice Bb n.brks.length db])]) (by go_simp; try rfl) ((Hcn.out wx hC.bl).mono ?_))
          rintro e w' ⟨vf, ve, vb, vs, rfl, ho, hb⟩
          have hC' := hC.s3 rfl hb ho
          refine ⟨_, rfl, ?_⟩
          exact ⟨.inr (hSx _ hC'.bl), _, true, true, b4, b5, b6, false, x1, _, x6, x7, rfl, ⟨f, rfl⟩, h6, (fun h => by cases h), hC'⟩
        · have hb : b4 = false := by simpa using hop
          subst hb
          have hn6 : b6 = false := by
            cases h : b6 with
            | false => rfl
            | true => have := (h6 h).2; cases this
          subst hn6
          have hC' := hC.s4
          refine wpOp_of rfl rfl (opValue (v := .pointer (some ⟨wx.heap.size, 0, none⟩)) (w' := wx.alloc (.cells #[.slice none 0 0, .slice none 0 0, .slice none 0 0] 27)) (by go_simp; try rfl) ?_)
          exact ⟨.inr (hSx _ hC'.bl), D, b1, b3, true, b5, false, b7, x1, x3, _, x7, rfl, ⟨f, rfl⟩, (fun h => by cases h), h7, hC'⟩
        · have hb : b5 = false := by simpa using hop
          subst hb
          have hn7 : b7 = false := by
            cases h : b7 with
            | false => rfl
            | true => have := (h7 h).2; cases this
          subst hn7
          have hC' := hC.s5
          refine wpOp_of rfl rfl (opValue (v := .pointer (some ⟨wx.heap.size, 0, none⟩)) (w' := wx.alloc (.cells #[.slice none 0 0, .slice none 0 0, .slice none 0 0] 27)) (by go_simp; try rfl) ?_)
          exact ⟨.inr (hSx _ hC'.bl), D, b1, b3, b4, true, b6, false, x1, x3, x6, _, rfl, ⟨f, rfl⟩, h6, (fun h => by cases h), hC'⟩
        · have hb : b6 = false := by simpa using hop
          subst hb
          have hd1 : b1 = true := ready_dep hi rfl 1 (by kernel_rfl)
          subst hd1
          have hd4 : b4 = true := ready_dep hi rfl 4 (by kernel_rfl)
          subst hd4
          obtain ⟨p, y0, y1, y2, v0, v1, v2, e6, hq, e1, ⟨A0, k0, d0, r0⟩, ⟨A1, k1, d1, r1⟩, ⟨A2, k2, d2, r2⟩, hC'⟩ := hC.s6
          subst e6; subst e1; subst r0; subst r1; subst r2
          have c0 : wx.cell? ⟨p, 0, none⟩ = some y0 := cell_of_row _ _ 0 _ 27 (0, 0) hq
          have c1' : wx.cell? ⟨p, 1, none⟩ = some y1 := cell_of_row _ _ 1 _ 27 (0, 0) hq
          have c2' : wx.cell? ⟨p, 2, none⟩ = some y2 := cell_of_row _ _ 2 _ 27 (0, 0) hq
          have f0 : wx.frozen? ⟨p, 0, none⟩ = false := frozen_of_row _ _ 0 _ 27 hq
          have f1 : wx.frozen? ⟨p, 1, none⟩ = false := frozen_of_row _ _ 1 _ 27 hq
          have f2 : wx.frozen? ⟨p, 2, none⟩ = false := frozen_of_row _ _ 2 _ 27 hq
          refine wpOp_of rfl rfl (opSkip (w' := ((wx.setCell ⟨p, 0, none⟩ (.slice A0 k0 d0)).setCell ⟨p, 1, none⟩ (.slice A1 k1 d1)).setCell ⟨p, 2, none⟩ (.slice A2 k2 d2)) (by go_simp; try rfl) ?_)
          exact ⟨.inr (hSx _ hC'.bl), D, true, b3, true, b5, true, b7, _, x3, _, x7, rfl, ⟨f, rfl⟩, (fun _ => ⟨rfl, rfl⟩), h7, hC'⟩
        · have hb : b7 = false := by simpa using hop
          subst hb
          have hd3 : b3 = true := ready_dep hi rfl 3 (by kernel_rfl)
          subst hd3
          have hd5 : b5 = true := ready_dep hi rfl 5 (by kernel_rfl)
          subst hd5
          obtain ⟨p, y0, y1, y2, v0, v1, v2, e6, hq, e1, ⟨A0, k0, d0, r0⟩, ⟨A1, k1, d1, r1⟩, ⟨A2, k2, d2, r2⟩, hC'⟩ := hC.s7
          subst e6; subst e1; subst r0; subst r1; subst r2
          have c0 : wx.cell? ⟨p, 0, none⟩ = some y0 := cell_of_row _ _ 0 _ 27 (0, 0) hq
          have c1' : wx.cell? ⟨p, 1, none⟩ = some y1 := cell_of_row _ _ 1 _ 27 (0, 0) hq
          have c2' : wx.cell? ⟨p, 2, none⟩ = some y2 := cell_of_row _ _ 2 _ 27 (0, 0) hq
          have f0 : wx.frozen? ⟨p, 0, none⟩ = false := frozen_of_row _ _ 0 _ 27 hq
          have f1 : wx.frozen? ⟨p, 1, none⟩ = false := frozen_of_row _ _ 1 _ 27 hq
          have f2 : wx.frozen? ⟨p, 2, none⟩ = false := frozen_of_row _ _ 2 _ 27 hq
          refine wpOp_of rfl rfl (opSkip (w' := ((wx.setCell ⟨p, 0, none⟩ (.slice A0 k0 d0)).setCell ⟨p, 1, none⟩ (.slice A1 k1 d1)).setCell ⟨p, 2, none⟩ (.slice A2 k2 d2)) (by go_simp; try rfl) ?_)
          exact ⟨.inr (hSx _ hC'.bl), D, b1, true, b4, true, b6, true, x1, _, x6, _, rfl, ⟨f, rfl⟩, h6, (fun _ => ⟨rfl, rfl⟩), hC'⟩
      case hend =>
        intro listed a wx hI hre
        obtain ⟨D, b1, b3, b4, b5, b6, b7, x1, x3, x6, x7, rfl, hF, h6, h7, hC⟩ := hI
        have h1z : b1 = true := not_ready (i := 1) hre rfl (by kernel_rfl)
        subst h1z
        have h3z : b3 = true := not_ready (i := 3) hre rfl (by kernel_rfl)
        subst h3z
        have h4z : b4 = true := not_ready (i := 4) hre rfl (by kernel_rfl)
        subst h4z
        have h5z : b5 = true := not_ready (i := 5) hre rfl (by kernel_rfl)
        subst h5z
        have h6z : b6 = true := not_ready (i := 6) hre rfl (by kernel_rfl)
        subst h6z
        have h7z : b7 = true := not_ready (i := 7) hre rfl (by kernel_rfl)
        subst h7z
        obtain ⟨vf, ve, vb, vs, ex1, hx, hahead⟩ := hC.c1 rfl
        obtain ⟨_, hCD, hDW, wf, we, wb, us, ex3, hy⟩ := hC.c3 rfl
        obtain ⟨p6, e6, hp6, z0, z1, z2, hb6, hz6⟩ := hC.a4 rfl
        obtain ⟨p7, e7, hp7, y0, y1, y2, hb7, hz7⟩ := hC.a5 rfl
        have e1 := ex1.symm.trans (hz6 rfl)
        have e3 := ex3.symm.trans (hz7 rfl)
        simp only [Value.agg.injEq, Array.mk.injEq, List.cons.injEq, and_true] at e1 e3
        obtain ⟨rfl, rfl, rfl⟩ := e1
        obtain ⟨rfl, rfl, rfl⟩ := e3
        have hah := hahead rfl
        clear hahead
        have hpq : p6 ≠ p7 := by rintro rfl; exact hC.ne rfl rfl (e6.trans e7.symm)
        subst e6; subst e7; subst ex1; subst ex3
        obtain ⟨f, rfl⟩ := hF
        have hbl := hC.bl
        clear hC hre h6 h7 hz6 hz7
        obtain ⟨Xf, Xe, Xb, gf, ge, gb, r1, r2, r3, hxm⟩ := hx.isMet HBm.out
        obtain ⟨Yf, Ye, Yb, kf, ke, kb, r4, r5, r6, hym⟩ := hy.isMet HBn.out
        subst r1; subst r2; subst r3; subst r4; subst r5; subst r6
        have Hx := Lib.hid hx
        have Hy := Lib.hid hy
        have Hxm := Lib.hid hxm
        have Hym := Lib.hid hym
        have Hah := Lib.hid hah
        have Hdims := Lib.hid (And.intro hCD hDW)
        have Hb6' := Lib.hid hb6
        have Hb7' := Lib.hid hb7
        have Hblx := Lib.hid (Hnext.out _ _ HX5.out hbl)
        have Hblc := Lib.hid hbl
        have k0 := cell_of_row _ _ 0 _ 27 (0, 0) hb6
        have k1 := cell_of_row _ _ 1 _ 27 (0, 0) hb6
        have k2 := cell_of_row _ _ 2 _ 27 (0, 0) hb6
        have j0 := cell_of_row _ _ 0 _ 27 (0, 0) hb7
        have j1 := cell_of_row _ _ 1 _ 27 (0, 0) hb7
        have j2 := cell_of_row _ _ 2 _ 27 (0, 0) hb7
        have Hjn := Lib.hid (join_any _ _ m n _ _ _ _ _ _ _ _ wx hx hy Hm.out Hn.out HBm.out HBn.out)
        clear hx hy hxm hym hah hCD hDW hb6 hb7 hbl hHeld m0 m1 m2 n0 n1 n2
        go_wp2_with fail
        refine Hjn.out.mono ?_
        rintro e w6 ⟨hb6, hans6⟩
        have HB6 := Lib.hid fun (W : World) (hb : Below wx.heap.size wx W) => And.intro (And.intro (cell_of_row _ _ 0 _ 27 (0, 0) ((hb.block p6 (lt_of_heap Hb6'.out)).trans Hb6'.out)) (And.intro (cell_of_row _ _ 1 _ 27 (0, 0) ((hb.block p6 (lt_of_heap Hb6'.out)).trans Hb6'.out)) (cell_of_row _ _ 2 _ 27 (0, 0) ((hb.block p6 (lt_of_heap Hb6'.out)).trans Hb6'.out))))
          (And.intro (cell_of_row _ _ 0 _ 27 (0, 0) ((hb.block p7 (lt_of_heap Hb7'.out)).trans Hb7'.out)) (And.intro (cell_of_row _ _ 1 _ 27 (0, 0) ((hb.block p7 (lt_of_heap Hb7'.out)).trans Hb7'.out)) (cell_of_row _ _ 2 _ 27 (0, 0) ((hb.block p7 (lt_of_heap Hb7'.out)).trans Hb7'.out))))
        have Heq1 := Lib.hid fun (W : World) (hb : Below wx.heap.size wx W) => refequal_any Xf Xe Xb gf ge gb m Af Ae Ab cf ce cb m W (Hxm.out.on hb) (HM.out.on (Hnext.out _ _ Hblx.out hb))
        have Heq2 := Lib.hid fun (W : World) (hb : Below wx.heap.size wx W) => refequal_any Yf Ye Yb kf ke kb n Bf Be Bb df de db n W (Hym.out.on hb) (HN.out.on (Hnext.out _ _ Hblx.out hb))
        rw [equal_self] at Heq1 Heq2
        have hgen6 : ∃ (U0 U1 U2 : Value) (cr : Int), e = .returned (.tuple #[.agg #[U0, U1, U2], .int .i64 cr]) ∧ (∃ A k c, U0 = .slice A k c) ∧ (∃ A k c, U1 = .slice A k c) ∧ (∃ A k c, U2 = .slice A k c) ∧ (bfit = false → cr = 3 ∧ U0 = .slice none 0 0 ∧ U1 = .slice none 0 0 ∧ U2 = .slice none 0 0) ∧
            (bfit = true → cr = 0 ∧ ∃ zs, OM w6 wx.heap.size (joinP m n) U0 U1 U2 zs) := by
          cases hbf : bfit with
          | false =>
            rw [if_pos (Hno.out hbf)] at hans6
            exact ⟨_, _, _, 3, hans6, ⟨_, _, _, rfl⟩, ⟨_, _, _, rfl⟩, ⟨_, _, _, rfl⟩, fun _ => ⟨rfl, rfl, rfl, rfl⟩, fun h => by cases h⟩
          | true =>
            rw [if_neg (Hyes.out hbf).1] at hans6
            obtain ⟨vf, ve, vb, zs, e1, hom⟩ := hans6
            have r0 := row_slice hom.feet
            have r1 := row_slice hom.ends
            have r2 := row_slice hom.brks
            exact ⟨vf, ve, vb, 0, e1, let ⟨A, c, e⟩ := r0; ⟨A, _, c, e⟩, let ⟨A, c, e⟩ := r1; ⟨A, _, c, e⟩, let ⟨A, c, e⟩ := r2; ⟨A, _, c, e⟩, fun h => (by cases h), fun _ => ⟨rfl, zs, hom⟩⟩
        obtain ⟨U0, U1, U2, cr, rfl, ⟨o0, h0, d0, rfl⟩, ⟨o1, h1, d1, rfl⟩, ⟨o2, h2, d2, rfl⟩, hno6, hyes6⟩ := hgen6
        have Hno6 := Lib.hid hno6
        have Hyes6 := Lib.hid hyes6
        obtain ⟨X7, hX7⟩ : ∃ X, X = w6.alloc (.cells #[.slice o0 h0 d0, .slice o1 h1 d1, .slice o2 h2 d2] 27) := ⟨_, rfl⟩
        have hx7 : Below w6.heap.size w6 X7 := by rw [hX7]; exact (Below.refl _ _).alloc (Nat.le_refl _) _
        have Hw7 := Lib.hid (show X7.heap[w6.heap.size]? = some (.cells #[.slice o0 h0 d0, .slice o1 h1 d1, .slice o2 h2 d2] 27 (0, 0)) by rw [hX7]; exact World.alloc_heap_new _ _)
        have Hx7 := Lib.hid hx7
        have Hc7 := Lib.hid (below_next7 hb6 hx7)
        have Hb7x := Lib.hid (Hnext.out _ _ Hblx.out Hc7.out)
        have Hc6 := Lib.hid hb6
        have hX7' := hX7.symm
        have HX7 := Lib.hid hX7'
        obtain ⟨⟨k0, k1, k2⟩, j0, j1, j2⟩ := HB6.out _ Hc7.out
        obtain ⟨⟨m0, m1, m2⟩, n0, n1, n2⟩ := Hkeep.out _ Hb7x.out
        rw [← HX7.out] at k0 k1 k2 j0 j1 j2 m0 m1 m2 n0 n1 n2
        clear hno6 hyes6 hans6 hX7 hX7' hx7 hb6
        go_wp2_with fail
        rw [HX7.out]
        refine (Heq1.out _ Hc7.out).mono ?_
        rintro e w8 ⟨rfl, hb8⟩
        have Hc8 := Lib.hid (below_next7 Hc7.out hb8)
        have Hb8 := Lib.hid (Hnext.out _ _ Hb7x.out hb8)
        have He8 := Lib.hid hb8
        clear hb8 k0 k1 k2 j0 j1 j2 m0 m1 m2 n0 n1 n2
        obtain ⟨⟨k0, k1, k2⟩, j0, j1, j2⟩ := HB6.out _ Hc8.out
        obtain ⟨⟨m0, m1, m2⟩, n0, n1, n2⟩ := Hkeep.out _ Hb8.out
        go_wp2_with fail
        refine (Heq2.out _ Hc8.out).mono ?_
        rintro e w9 ⟨rfl, hb9⟩
        have Hc9 := Lib.hid (below_next7 Hc8.out hb9)
        have Hb9 := Lib.hid (Hnext.out _ _ Hb8.out hb9)
        have He9 := Lib.hid (below_next7 He8.out hb9)
        clear hb9 k0 k1 k2 j0 j1 j2 m0 m1 m2 n0 n1 n2
        have hw9 := (He9.out.block w6.heap.size (lt_of_heap Hw7.out)).trans Hw7.out
        have i0 := cell_of_row _ _ 0 _ 27 (0, 0) hw9
        have i1 := cell_of_row _ _ 1 _ 27 (0, 0) hw9
        have i2 := cell_of_row _ _ 2 _ 27 (0, 0) hw9
        cases hbf : bfit with
        | false =>
          obtain ⟨rfl, z0, z1, z2⟩ := Hno6.out hbf
          cases z0; cases z1; cases z2
          clear hw9
          go_wp2_with fail
          refine (zero_nil w9).mono ?_
          rintro e w10 ⟨rfl, hb10⟩
          have Hb10 := Lib.hid (Hnext.out _ _ Hb9.out hb10)
          clear hb10 i0 i1 i2
          go_wp2_with fail
          refine (Hwk.out _ Hb10.out).mono ?_
          rintro e w11 ⟨rfl, hb11⟩
          have Hb11 := Lib.hid (Hnext.out _ _ Hb10.out hb11)
          clear hb11
          go_wp2_with fail
          go_ret
          exact ⟨rfl, HB1.out.trans (Hb11.out.mono (by omega))⟩
        | true =>
          obtain ⟨rfl, zs, hom⟩ := Hyes6.out hbf
          clear hw9
          obtain ⟨⟨k0, k1, k2⟩, j0, j1, j2⟩ := HB6.out _ Hc9.out
          go_wp2_with fail
          have hD1 := Hdims.out.1
          have hD2 := Hdims.out.2
          have hs9 := Hc9.out.size
          have hx9 := Hx.out.below Hc9.out
          have hy9 := Hy.out.below Hc9.out
          have hM9 := hom.below (Below.trans (Hx7.out) (He9.out.mono Hx7.out.size))
          have hsx := HX5.out.size
          have hb7q := (Hc9.out.block p7 (lt_of_heap Hb7'.out)).trans Hb7'.out
          have h59 : Below w5.heap.size w5 w9 := Hx5.out.trans (((Hblc.out.trans (Hc9.out.mono Hblc.out.size))).mono Hx5.out.size)
          have hw5q := (h59.trans (Below.refl _ _))
          have h5box : w9.heap[w5.heap.size]? = some (.cells #[.slice a0 kk0 c0, .slice a1 kk1 c1, .slice a2 kk2 c2] 27 (0, 0)) := ((Hblc.out.trans (Hc9.out.mono Hblc.out.size)).block _ (lt_of_heap Hw5.out)).trans Hw5.out
          have h6box : w9.heap[w6.heap.size]? = some (.cells #[.slice o0 h0 d0, .slice o1 h1 d1, .slice o2 h2 d2] 27 (0, 0)) := (He9.out.block w6.heap.size (lt_of_heap Hw7.out)).trans Hw7.out
          refine (spoil_any X5.heap.size D m _ _ _ vs w9 hx9 Hah.out (by omega) (few_of Hm.out) hD1).mono ?_
          rintro e w10 ⟨⟨vr, rfl⟩, haw⟩
          have hy10 := hy9.away_hi haw (Nat.le_refl _)
          have hM10 := hM9.away_hi haw (by omega)
          have hb10 := haw.below (by omega : X5.heap.size ≤ w9.heap.size)
          have hq7 := haw.box _ _ hb7q
          have hq5 := haw.box _ _ h5box
          have hq6 := haw.box _ _ h6box
          have j0 := cell_of_row _ _ 0 _ 27 (0, 0) hq7
          have j1 := cell_of_row _ _ 1 _ 27 (0, 0) hq7
          have j2 := cell_of_row _ _ 2 _ 27 (0, 0) hq7
          have H10 := Lib.hid (And.intro hy10 (And.intro hM10 (And.intro hb10 (And.intro hq5 (And.intro hq6 haw.size)))))
          have H59 := Lib.hid h59
          clear hy10 hM10 hb10 hq7 hq5 hq6 haw hx9 hy9 hM9 hb7q h59 hw5q h5box h6box i0 i1 i2 k0 k1 k2 hom
          go_wp2_with fail
          obtain ⟨hy10, hM10, hb10, hq5, hq6, hs10⟩ := H10.out
          refine (spoil_any D wx.heap.size n _ _ _ us w10 hy10 Hy.out.lt (by omega) (few_of Hn.out) hD2).mono ?_
          rintro e w11 ⟨⟨vr2, rfl⟩, haw⟩
          have hM11 := hM10.away_hi haw (Nat.le_refl _)
          have hb11 := haw.below (by omega : D ≤ w10.heap.size)
          have r5 := haw.box _ _ hq5
          have r6 := haw.box _ _ hq6
          have t0 := cell_of_row _ _ 0 _ 27 (0, 0) r5
          have t1 := cell_of_row _ _ 1 _ 27 (0, 0) r5
          have t2 := cell_of_row _ _ 2 _ 27 (0, 0) r5
          have i0 := cell_of_row _ _ 0 _ 27 (0, 0) r6
          have i1 := cell_of_row _ _ 1 _ 27 (0, 0) r6
          have i2 := cell_of_row _ _ 2 _ 27 (0, 0) r6
          have hbj : Bounded (joinP m n) := bounded_join HBm.out HBn.out (few_of Hm.out) (few_of Hn.out)
          obtain ⟨_, ws, hwant⟩ := Hyes.out hbf
          have hwb : Below w5.heap.size w5 w11 := H59.out.trans (((hb10.mono (by have := Hx5.out.size; omega)).trans (hb11.mono (by have := Hx5.out.size; omega))))
          have hW11 : Below W1.heap.size W1 w11 := Hb9.out.trans (((hb10.mono (by omega)).trans (hb11.mono (by omega))))
          obtain ⟨q0, q1, q2, g0, g1, g2, e0, e1, e2, hmw⟩ := hwant.isMet hbj
          obtain ⟨v0, v1, v2, f0, f1, f2, l0, l1, l2, hmm⟩ := hM11.isMet hbj
          cases e0; cases e1; cases e2; cases l0; cases l1; cases l2
          have Hfe := Lib.hid (refequal_any _ _ _ _ _ _ (joinP m n) _ _ _ _ _ _ (joinP m n) w11 hmm (hmw.on hwb))
          rw [equal_self] at Hfe
          have HW11 := Lib.hid hW11
          clear hy10 hM10 hb10 hq5 hq6 hs10 haw hM11 hb11 r5 r6 hbj hwant hwb hW11 hmw hmm j0 j1 j2
          go_wp2_with fail
          refine Hfe.out.mono ?_
          rintro e w12 ⟨rfl, hb12⟩
          have Hb12 := Lib.hid (Hnext.out _ _ HW11.out hb12)
          clear hb12 i0 i1 i2 t0 t1 t2
          go_wp2_with fail
          refine (Hwk.out _ Hb12.out).mono ?_
          rintro e w13 ⟨rfl, hb13⟩
          have Hb13 := Lib.hid (Hnext.out _ _ Hb12.out hb13)
          clear hb13
          go_wp2_with fail
          go_ret
          exact ⟨rfl, HB1.out.trans (Hb13.out.mono (by omega))⟩
end Go.Proofs.YtkfkkoefpfmjkaaDoor

import Derived.Test.YtkfkkoefpfmjkaaDoorKG
namespace Go.Proofs.YtkfkkoefpfmjkaaDoor
set_option linter.unusedVariables false
set_option linter.unusedSimpArgs false
open Go.RowKit

/-- the frame in the drawn region -/
def FrJ (y2 y3 y4 y5 x6 x31 x32 x33 x34 x35 x36 x37 x38 x39 x40 x41 x42 x43 : Value) (a : Act) : Prop := ∃ f : Nat → Value, a = { tmps := #[f 0, f 1, y2, y3, y4, y5, x6, f 7, f 8, f 9, f 10, f 11, f 12, f 13, f 14, f 15, f 16, f 17, f 18, f 19, f 20, f 21, f 22, f 23, f 24, f 25, f 26, f 27, f 28, f 29, f 30, x31, x32, x33, x34, x35, x36, x37, x38, x39, x40, x41, x42, x43, f 44, f 45, f 46, f 47, f 48, f 49, f 50, f 51, f 52, f 53, f 54, f 55, f 56, f 57, f 58, f 59, f 60, f 61, f 62, f 63, f 64, f 65, f 66, f 67, f 68, f 69, f 70, f 71, f 72, f 73, f 74, f 75, f 76, f 77, f 78, f 79, f 80, f 81, f 82], defers := [] }
theorem FrJ.of (v0 v1 v2 v3 v4 v5 v6 v7 v8 v9 v10 v11 v12 v13 v14 v15 v16 v17 v18 v19 v20 v21 v22 v23 v24 v25 v26 v27 v28 v29 v30 v31 v32 v33 v34 v35 v36 v37 v38 v39 v40 v41 v42 v43 v44 v45 v46 v47 v48 v49 v50 v51 v52 v53 v54 v55 v56 v57 v58 v59 v60 v61 v62 v63 v64 v65 v66 v67 v68 v69 v70 v71 v72 v73 v74 v75 v76 v77 v78 v79 v80 v81 v82 : Value) : FrJ v2 v3 v4 v5 v6 v31 v32 v33 v34 v35 v36 v37 v38 v39 v40 v41 v42 v43 { tmps := #[v0, v1, v2, v3, v4, v5, v6, v7, v8, v9, v10, v11, v12, v13, v14, v15, v16, v17, v18, v19, v20, v21, v22, v23, v24, v25, v26, v27, v28, v29, v30, v31, v32, v33, v34, v35, v36, v37, v38, v39, v40, v41, v42, v43, v44, v45, v46, v47, v48, v49, v50, v51, v52, v53, v54, v55, v56, v57, v58, v59, v60, v61, v62, v63, v64, v65, v66, v67, v68, v69, v70, v71, v72, v73, v74, v75, v76, v77, v78, v79, v80, v81, v82], defers := [] } := ⟨fun i => (#[v0, v1, v2, v3, v4, v5, v6, v7, v8, v9, v10, v11, v12, v13, v14, v15, v16, v17, v18, v19, v20, v21, v22, v23, v24, v25, v26, v27, v28, v29, v30, v31, v32, v33, v34, v35, v36, v37, v38, v39, v40, v41, v42, v43, v44, v45, v46, v47, v48, v49, v50, v51, v52, v53, v54, v55, v56, v57, v58, v59, v60, v61, v62, v63, v64, v65, v66, v67, v68, v69, v70, v71, v72, v73, v74, v75, v76, v77, v78, v79, v80, v81, v82]).getD i undef, rfl⟩
theorem below15 (i : Nat) (h : i < 15) : i = 0 ∨ i = 1 ∨ i = 2 ∨ i = 3 ∨ i = 4 ∨ i = 5 ∨ i = 6 ∨ i = 7 ∨ i = 8 ∨ i = 9 ∨ i = 10 ∨ i = 11 ∨ i = 12 ∨ i = 13 ∨ i = 14 := by omega
def JoinOk (m n : Met) (w : World) (e : Ending) (w' : World) : Prop := Below w.heap.size w w' ∧
  if 16 < m.feet.length + n.feet.length then e = .returned (.tuple #[.agg #[.slice none 0 0, .slice none 0 0, .slice none 0 0], .int .i64 3])
  else ∃ vf ve vb vs, e = .returned (.tuple #[.agg #[vf, ve, vb], .int .i64 0]) ∧ OM w' w.heap.size (joinP m n) vf ve vb vs
set_option maxRecDepth 100000 in
set_option maxHeartbeats 8000000 in
theorem join_any (B B2 : Nat) (m n : Met) (vf ve vb wf we wb : Value) (vs us : List Value) (w : World) (h : OM w B m vf ve vb vs) (h2 : OM w B2 n wf we wb us) (hm : mayB m = true) (hn : mayB n = true) (hbm : Bounded m) (hbn : Bounded n) :
    Calls Tryd.prog 28 #[.agg #[vf, ve, vb], .agg #[wf, we, wb]] w (JoinOk m n w) := by
  obtain ⟨Af, Ae, Ab, cf, ce, cb, rfl, rfl, rfl, him⟩ := h.isMet hbm
  obtain ⟨Bf, Be, Bb, df, de, db, rfl, rfl, rfl, hin⟩ := h2.isMet hbn
  generalize hW1 : ((w.alloc (.cells #[.slice Af m.feet.length cf, .slice Ae m.ends.length ce, .slice Ab m.brks.length cb] 27)).alloc (.cells #[.slice Bf n.feet.length df, .slice Be n.ends.length de, .slice Bb n.brks.length db] 27)).alloc (.cells #[.slice none 0 0, .slice none 0 0, .slice none 0 0] 27) = W1
  have sW1 : W1.heap.size = w.heap.size + 3 := by rw [← hW1]; simp
  have hB1 : Below w.heap.size w W1 := by rw [← hW1]; exact (((Below.refl _ _).alloc (Nat.le_refl _) _).alloc (by simp) _).alloc (by simp; omega) _
  have hx1 : W1.heap[w.heap.size]? = some (.cells #[.slice Af m.feet.length cf, .slice Ae m.ends.length ce, .slice Ab m.brks.length cb] 27 (0, 0)) := by
    rw [← hW1]; exact (Below.heap_alloc _ _ _ (by simp; omega)).trans ((Below.heap_alloc _ _ _ (by simp)).trans (World.alloc_heap_new w _))
  have hx2 : W1.heap[w.heap.size + 1]? = some (.cells #[.slice Bf n.feet.length df, .slice Be n.ends.length de, .slice Bb n.brks.length db] 27 (0, 0)) := by
    rw [← hW1]
    have := World.alloc_heap_new (w.alloc (.cells #[.slice Af m.feet.length cf, .slice Ae m.ends.length ce, .slice Ab m.brks.length cb] 27)) (.cells #[.slice Bf n.feet.length df, .slice Be n.ends.length de, .slice Bb n.brks.length db] 27)
    rw [World.size_alloc] at this
    exact (Below.heap_alloc _ _ _ (by simp)).trans this
  have hx3 : W1.heap[w.heap.size + 2]? = some (.cells #[.slice none 0 0, .slice none 0 0, .slice none 0 0] 27 (0, 0)) := by
    rw [← hW1]
    have := World.alloc_heap_new ((w.alloc (.cells #[.slice Af m.feet.length cf, .slice Ae m.ends.length ce, .slice Ab m.brks.length cb] 27)).alloc (.cells #[.slice Bf n.feet.length df, .slice Be n.ends.length de, .slice Bb n.brks.length db] 27)) (.cells #[.slice none 0 0, .slice none 0 0, .slice none 0 0] 27)
    rw [World.size_alloc, World.size_alloc] at this
    exact this
  have Hkeep := Lib.hid fun (W2 : World) (hb2 : Below W1.heap.size W1 W2) =>
    And.intro (And.intro (cell_of_row _ _ 0 _ 27 (0, 0) ((hb2.block w.heap.size (by omega)).trans hx1)) (And.intro (cell_of_row _ _ 1 _ 27 (0, 0) ((hb2.block w.heap.size (by omega)).trans hx1)) (cell_of_row _ _ 2 _ 27 (0, 0) ((hb2.block w.heap.size (by omega)).trans hx1))))
      (And.intro (cell_of_row _ _ 0 _ 27 (0, 0) ((hb2.block (w.heap.size + 1) (by omega)).trans hx2)) (And.intro (cell_of_row _ _ 1 _ 27 (0, 0) ((hb2.block (w.heap.size + 1) (by omega)).trans hx2)) (cell_of_row _ _ 2 _ 27 (0, 0) ((hb2.block (w.heap.size + 1) (by omega)).trans hx2))))
  have Hres := Lib.hid fun (W2 : World) (hb2 : Below W1.heap.size W1 W2) => (hb2.block (w.heap.size + 2) (by omega)).trans hx3
  have Hnext := Lib.hid fun (W2 W3 : World) (hb2 : Below W1.heap.size W1 W2) (hb3 : Below W2.heap.size W2 W3) => hb2.trans (hb3.mono hb2.size)
  have HB1 := Lib.hid hB1
  have HW1 := Lib.hid hW1
  have Hsz := Lib.hid sW1
  have hwB : Below w.heap.size w W1 := hB1
  have HO := Lib.hid fun (W2 : World) (hb2 : Below W1.heap.size W1 W2) => h.below (hB1.trans (hb2.mono (by omega)))
  have HO2 := Lib.hid fun (W2 : World) (hb2 : Below W1.heap.size W1 W2) => h2.below (hB1.trans (hb2.mono (by omega)))
  have Hck := Lib.hid fun (W2 : World) (hb2 : Below W1.heap.size W1 W2) => check_any Af Ae Ab cf ce cb m W2 (him.on (hB1.trans (hb2.mono (by omega))))
  have Hck2 := Lib.hid fun (W2 : World) (hb2 : Below W1.heap.size W1 W2) => check_any Bf Be Bb df de db n W2 (hin.on (hB1.trans (hb2.mono (by omega))))
  have hcm : checkN m = 0 := by unfold checkN; rw [hm]; rfl
  have hcn : checkN n = 0 := by unfold checkN; rw [hn]; rfl
  rw [hcm] at Hck
  rw [hcn] at Hck2
  have hsm := small_of hm
  have hsn := small_of hn
  have l1 := hsm.feet
  have l2 := hsn.feet
  have Hsm := Lib.hid hsm
  have Hlm := Lib.hid (slim_of hm)
  have Hln := Lib.hid (slim_of hn)
  have Hsn := Lib.hid hsn
  clear h h2 hm hn hbm hbn him hin hW1 hB1 hx1 hx2 hx3 sW1 hcm hcn hwB hsm hsn
  go_enter Tryd.func28, Tryd.ntmps28
  obtain ⟨⟨m0, m1, m2⟩, n0, n1, n2⟩ := Hkeep.out _ (Below.refl _ _)
  rw [← HW1.out] at m0 m1 m2 n0 n1 n2
  go_wp2_with fail
  rw [HW1.out]
  refine (Hck.out _ (Below.refl _ _)).mono ?_
  rintro e w2 ⟨rfl, hb2⟩
  have Hb2 := Lib.hid hb2
  clear hb2 m0 m1 m2 n0 n1 n2
  obtain ⟨⟨m0, m1, m2⟩, n0, n1, n2⟩ := Hkeep.out _ Hb2.out
  go_wp2_with fail
  refine (Hck2.out _ Hb2.out).mono ?_
  rintro e w3 ⟨rfl, hb3⟩
  have Hb3 := Lib.hid (Hnext.out _ _ Hb2.out hb3)
  clear hb3 m0 m1 m2 n0 n1 n2
  obtain ⟨⟨m0, m1, m2⟩, n0, n1, n2⟩ := Hkeep.out _ Hb3.out
  have hadd : wrap64 ((m.feet.length : Int) + (n.feet.length : Int)) = (m.feet.length : Int) + (n.feet.length : Int) := by unfold wrap64; omega
  by_cases hlong : 16 < m.feet.length + n.feet.length
  · have hgt : (16 : Int) < (m.feet.length : Int) + (n.feet.length : Int) := by omega
    have hres := Hres.out _ Hb3.out
    have r0 := cell_of_row _ _ 0 _ 27 (0, 0) hres
    have r1 := cell_of_row _ _ 1 _ 27 (0, 0) hres
    have r2 := cell_of_row _ _ 2 _ 27 (0, 0) hres
    have z0 := frozen_of_row _ _ 0 _ 27 hres
    have z1 := frozen_of_row _ _ 1 _ 27 hres
    have z2 := frozen_of_row _ _ 2 _ 27 hres
    have hres' := Lib.hid hres
    clear hres
    go_wp2_with fail
    refine join_ret (b := .int .i64 3) rfl rfl (three27 hres'.out _ _ _) ⟨((( HB1.out.trans (Hb3.out.mono (by rw [Hsz.out]; omega))).setCell (p := ⟨w.heap.size + 2, 0, none⟩) (by show w.heap.size ≤ w.heap.size + 2; omega) _).setCell (p := ⟨w.heap.size + 2, 1, none⟩) (by show w.heap.size ≤ w.heap.size + 2; omega) _).setCell (p := ⟨w.heap.size + 2, 2, none⟩) (by show w.heap.size ≤ w.heap.size + 2; omega) _, ?_⟩
    rw [if_pos hlong]
  · have hle : ¬ (16 : Int) < (m.feet.length : Int) + (n.feet.length : Int) := by omega
    go_wp2_with fail
    refine wp_region_X (S := fun w' => w'.cell? ⟨w.heap.size, 0, none⟩ = some (.slice Af m.feet.length cf) ∧ w'.cell? ⟨w.heap.size, 2, none⟩ = some (.slice Ab m.brks.length cb) ∧ w'.cell? ⟨w.heap.size + 1, 0, none⟩ = some (.slice Bf n.feet.length df) ∧ w'.cell? ⟨w.heap.size + 1, 1, none⟩ = some (.slice Be n.ends.length de)) (X := fun x => [].contains x) (by kernel_rfl) ?_
    have hHeld : w3.drew.cell? ⟨w.heap.size, 0, none⟩ = some (.slice Af m.feet.length cf) ∧ w3.drew.cell? ⟨w.heap.size, 2, none⟩ = some (.slice Ab m.brks.length cb) ∧ w3.drew.cell? ⟨w.heap.size + 1, 0, none⟩ = some (.slice Bf n.feet.length df) ∧ w3.drew.cell? ⟨w.heap.size + 1, 1, none⟩ = some (.slice Be n.ends.length de) := ⟨m0, m2, n0, n1⟩
    refine wpAnyX_take (i := 0) (v := ?_) rfl (by kernel_rfl) (by kernel_rfl) (by kernel_rfl) (by kernel_rfl) (fun _ _ _ h => h) (Or.inl ⟨by rfl, ?_⟩) (by assumption) ?_
    rotate_left
    · intro w hSw
      obtain ⟨hS1, hS2, hS3, hS4⟩ := hSw
      go_simp
      try with_reducible rfl
    simp only [Act.put, List.getElem_toArray, List.getElem_cons_zero, List.getElem_cons_succ, List.setIfInBounds_toArray, List.set_cons_zero, List.set_cons_succ]
    refine wpAnyX_take (i := 1) (v := ?_) rfl (by kernel_rfl) (by kernel_rfl) (by kernel_rfl) (by kernel_rfl) (fun _ _ _ h => h) (Or.inl ⟨by rfl, ?_⟩) (by assumption) ?_
    rotate_left
    · intro w hSw
      obtain ⟨hS1, hS2, hS3, hS4⟩ := hSw
      go_simp
      try with_reducible rfl
    simp only [Act.put, List.getElem_toArray, List.getElem_cons_zero, List.getElem_cons_succ, List.setIfInBounds_toArray, List.set_cons_zero, List.set_cons_succ]
    refine wpAnyX_take (i := 2) (v := ?_) rfl (by kernel_rfl) (by kernel_rfl) (by kernel_rfl) (by kernel_rfl) (fun _ _ _ h => h) (Or.inl ⟨by rfl, ?_⟩) (by assumption) ?_
    rotate_left
    · intro w hSw
      obtain ⟨hS1, hS2, hS3, hS4⟩ := hSw
      go_simp
      try with_reducible rfl
    simp only [Act.put, List.getElem_toArray, List.getElem_cons_zero, List.getElem_cons_succ, List.setIfInBounds_toArray, List.set_cons_zero, List.set_cons_succ]
    refine wpAnyX_take (i := 3) (v := ?_) rfl (by kernel_rfl) (by kernel_rfl) (by kernel_rfl) (by kernel_rfl) (fun _ _ _ h => h) (Or.inl ⟨by rfl, ?_⟩) (by assumption) ?_
    rotate_left
    · intro w hSw
      obtain ⟨hS1, hS2, hS3, hS4⟩ := hSw
      go_simp
      try with_reducible rfl
    simp only [Act.put, List.getElem_toArray, List.getElem_cons_zero, List.getElem_cons_succ, List.setIfInBounds_toArray, List.set_cons_zero, List.set_cons_succ]
    refine wpAnyX_take (i := 6) (v := ?_) rfl (by kernel_rfl) (by kernel_rfl) (by kernel_rfl) (by kernel_rfl) (fun _ _ _ h => h) (Or.inl ⟨by rfl, ?_⟩) (by assumption) ?_
    rotate_left
    · intro w hSw
      obtain ⟨hS1, hS2, hS3, hS4⟩ := hSw
      go_simp
      try with_reducible rfl
    simp only [Act.put, List.getElem_toArray, List.getElem_cons_zero, List.getElem_cons_succ, List.setIfInBounds_toArray, List.set_cons_zero, List.set_cons_succ]
    refine wpAnyX_take (i := 7) (v := ?_) rfl (by kernel_rfl) (by kernel_rfl) (by kernel_rfl) (by kernel_rfl) (fun _ _ _ h => h) (Or.inl ⟨by rfl, ?_⟩) (by assumption) ?_
    rotate_left
    · intro w hSw
      obtain ⟨hS1, hS2, hS3, hS4⟩ := hSw
      go_simp
      try with_reducible rfl
    simp only [Act.put, List.getElem_toArray, List.getElem_cons_zero, List.getElem_cons_succ, List.setIfInBounds_toArray, List.set_cons_zero, List.set_cons_succ]
    refine wpAnyX_take (i := 9) (v := ?_) rfl (by kernel_rfl) (by kernel_rfl) (by kernel_rfl) (by kernel_rfl) (fun _ _ _ h => h) (Or.inl ⟨by rfl, ?_⟩) (by assumption) ?_
    rotate_left
    · intro w hSw
      obtain ⟨hS1, hS2, hS3, hS4⟩ := hSw
      go_simp
      try with_reducible rfl
    simp only [Act.put, List.getElem_toArray, List.getElem_cons_zero, List.getElem_cons_succ, List.setIfInBounds_toArray, List.set_cons_zero, List.set_cons_succ]
    refine wpAnyX_take (i := 10) (v := ?_) rfl (by kernel_rfl) (by kernel_rfl) (by kernel_rfl) (by kernel_rfl) (fun _ _ _ h => h) (Or.inl ⟨by rfl, ?_⟩) (by assumption) ?_
    rotate_left
    · intro w hSw
      obtain ⟨hS1, hS2, hS3, hS4⟩ := hSw
      go_simp
      try with_reducible rfl
    simp only [Act.put, List.getElem_toArray, List.getElem_cons_zero, List.getElem_cons_succ, List.setIfInBounds_toArray, List.set_cons_zero, List.set_cons_succ]
    refine wpAnyX_inv (fun listed a wx => ∃ (b4 b5 b8 b11 b12 b13 b14 : Bool) (x6 x35 x36 x39 x42 x43 : Value), listed = #[true, true, true, true, b4, b5, true, true, b8, true, true, b11, b12, b13, b14] ∧ FrJ (.pointer (some ⟨w.heap.size, 0, none⟩)) (.pointer (some ⟨w.heap.size + 1, 0, none⟩)) (.pointer (some ⟨w.heap.size + 2, 0, none⟩)) (.int .i64 0) x6 (.pointer (some ⟨w.heap.size, 0, none⟩)) (.slice Af m.feet.length cf) (.pointer (some ⟨w.heap.size + 1, 0, none⟩)) (.slice Bf n.feet.length df) x35 x36 (.pointer (some ⟨w.heap.size + 1, 1, none⟩)) (.slice Be n.ends.length de) x39 (.pointer (some ⟨w.heap.size, 2, none⟩)) (.slice Ab m.brks.length cb) x42 x43 a ∧ (b14 = false → Js w3.heap.size (m.feet.length + n.feet.length) n.ends.length m.brks.length (ftCells m.feet vs ++ ftCells n.feet us) (wayCells n.ends) (brkCells m.brks) (.slice Af m.feet.length cf) (.slice Bf n.feet.length df) b4 b5 b8 b11 b12 b13 x35 x36 x39 x42 x43 x6 w3 wx) ∧ (b14 = true → (b4 = true ∧ b5 = true ∧ b8 = true ∧ b11 = true ∧ b12 = true ∧ b13 = true) ∧ ∃ p, x6 = .pointer (some ⟨p, 0, none⟩) ∧ Jd w3.heap.size (m.feet.length + n.feet.length) n.ends.length m.brks.length (ftCells m.feet vs ++ ftCells n.feet us) (wayCells n.ends) (brkCells m.brks) p x36 x39 x42 w3 wx)) ?hend ?hstep _ _ _ _ (by decide) ⟨false, false, false, false, false, false, false, undef, undef, undef, undef, undef, undef, rfl, FrJ.of _ _ _ _ _ _ _ _ _ _ _ _ _ _ _ _ _ _ _ _ _ _ _ _ _ _ _ _ _ _ _ _ _ _ _ _ _ _ _ _ _ _ _ _ _ _ _ _ _ _ _ _ _ _ _ _ _ _ _ _ _ _ _ _ _ _ _ _ _ _ _ _ _ _ _ _ _ _ _ _ _ _ _, (fun _ => Js.start rfl), (fun h => by cases h)⟩
    case hstep =>
      intro listed a wx i hI hi
      obtain ⟨b4, b5, b8, b11, b12, b13, b14, x6, x35, x36, x39, x42, x43, rfl, hF, hJ, hD⟩ := hI
      have hop := ready_open hi
      have hi15 : i < 15 := by
        have := (List.getElem?_eq_some_iff.1 hop).1
        simpa using this
      obtain ⟨f, rfl⟩ := hF
      have hSx : ∀ wy : World, Below w3.heap.size w3 wy → wy.cell? ⟨w.heap.size, 0, none⟩ = some (.slice Af m.feet.length cf) ∧ wy.cell? ⟨w.heap.size, 2, none⟩ = some (.slice Ab m.brks.length cb) ∧ wy.cell? ⟨w.heap.size + 1, 0, none⟩ = some (.slice Bf n.feet.length df) ∧ wy.cell? ⟨w.heap.size + 1, 1, none⟩ = some (.slice Be n.ends.length de) := fun wy hb => by
        obtain ⟨⟨a0, a1, a2⟩, c0, c1, c2⟩ := Hkeep.out _ (Hnext.out _ _ Hb3.out hb)
        exact ⟨a0, a2, c0, c1⟩
      rcases below15 i hi15 with rfl | rfl | rfl | rfl | rfl | rfl | rfl | rfl | rfl | rfl | rfl | rfl | rfl | rfl | rfl
      all_goals first | (exfalso; revert hop; clear hi; simp; done) | skip
      · have hb : b4 = false := by simpa using hop
        subst hb
        have h14 : b14 = false := by
          cases h : b14 with
          | false => rfl
          | true => have := (hD h).1; simp at this
        subst h14
        have hC := hJ rfl
        obtain rfl : b5 = false := hC.p45 rfl
        have hC' := hC.build
        refine wpOp_of rfl rfl (opValue (v := .slice (some ⟨wx.heap.size, 0, none⟩) 2 2) (w' := wx.alloc (.cells #[.slice Af m.feet.length cf, .slice Bf n.feet.length df] 23)) (by go_simp; try rfl) ?_)
        exact ⟨.inr (hSx _ hC'.bl), true, false, b8, b11, b12, b13, false, x6, _, x36, x39, x42, x43, rfl, ⟨f, rfl⟩, (fun _ => hC'), (fun h => by cases h)⟩
      · have hb : b5 = false := by simpa using hop
        subst hb
        have h14 : b14 = false := by
          cases h : b14 with
          | false => rfl
          | true => have := (hD h).1; simp at this
        subst h14
        have hC := hJ rfl
        have hd4 : b4 = true := ready_dep hi rfl 4 (by kernel_rfl)
        subst hd4
        obtain ⟨g, eg, hg, hgC⟩ := hC.lit rfl rfl
        subst eg
        have hbx := Hnext.out _ _ Hb3.out hC.bl
        have hO := HO.out _ hbx
        have hO2 := HO2.out _ hbx
        refine wpOp_of rfl rfl (opCall (f := 64) (args := #[.slice (some ⟨g, 0, none⟩) 2 2]) (by go_simp; try rfl) ((concat_any 0 g m.feet.length n.feet.length _ _ _ _ wx (cell_of_row _ _ 0 _ 23 (0, 0) hg) (cell_of_row _ _ 1 _ 23 (0, 0) hg) (lt_of_heap hg) (own_mono hO.feet (Nat.zero_le _)) (own_mono hO2.feet (Nat.zero_le _)) hO.ones hO2.ones (by omega) (by omega)).mono ?_))
        rintro e w' ⟨x, rfl, ho, hb⟩
        have hC' := hC.s5 hb ho
        refine ⟨_, rfl, ?_⟩
        exact ⟨.inr (hSx _ hC'.bl), true, true, b8, b11, b12, b13, false, x6, _, _, x39, x42, x43, rfl, ⟨f, rfl⟩, (fun _ => hC'), (fun h => by cases h)⟩
      · have hb : b8 = false := by simpa using hop
        subst hb
        have h14 : b14 = false := by
          cases h : b14 with
          | false => rfl
          | true => have := (hD h).1; simp at this
        subst h14
        have hC := hJ rfl
        have hbx := Hnext.out _ _ Hb3.out hC.bl
        refine wpOp_of rfl rfl (opCall (f := 65) (args := #[.slice Be n.ends.length de]) (by go_simp; try rfl) ((clonew_own _ n.ends.length _ _ wx (HO2.out _ hbx).ends (wayCells_one _) (by have := Hsn.out.ends; omega)).mono ?_))
        rintro e w' ⟨x, rfl, ho, hb⟩
        have hC' := hC.s8 hb ho
        refine ⟨_, rfl, ?_⟩
        exact ⟨.inr (hSx _ hC'.bl), b4, b5, true, b11, b12, b13, false, x6, x35, x36, _, x42, x43, rfl, ⟨f, rfl⟩, (fun _ => hC'), (fun h => by cases h)⟩
      · have hb : b11 = false := by simpa using hop
        subst hb
        have h14 : b14 = false := by
          cases h : b14 with
          | false => rfl
          | true => have := (hD h).1; simp at this
        subst h14
        have hC := hJ rfl
        have hbx := Hnext.out _ _ Hb3.out hC.bl
        refine wpOp_of rfl rfl (opCall (f := 66) (args := #[.slice Ab m.brks.length cb]) (by go_simp; try rfl) ((cloneb_own _ m.brks.length _ _ wx (HO.out _ hbx).brks (brkCells_one _) (by have := Hlm.out.len; omega)).mono ?_))
        rintro e w' ⟨x, rfl, ho, hb⟩
        have hC' := hC.s11 hb ho
        refine ⟨_, rfl, ?_⟩
        exact ⟨.inr (hSx _ hC'.bl), b4, b5, b8, true, b12, b13, false, x6, x35, x36, x39, _, x43, rfl, ⟨f, rfl⟩, (fun _ => hC'), (fun h => by cases h)⟩
      · have hb : b12 = false := by simpa using hop
        subst hb
        have h14 : b14 = false := by
          cases h : b14 with
          | false => rfl
          | true => have := (hD h).1; simp at this
        subst h14
        have hC := hJ rfl
        have hd5 : b5 = true := ready_dep hi rfl 5 (by kernel_rfl)
        subst hd5
        have hd8 : b8 = true := ready_dep hi rfl 8 (by kernel_rfl)
        subst hd8
        have hd11 : b11 = true := ready_dep hi rfl 11 (by kernel_rfl)
        subst hd11
        obtain ⟨A1, c1, e1⟩ := row_slice (hC.r36 rfl)
        obtain ⟨A2, c2, e2⟩ := row_slice (hC.r39 rfl)
        obtain ⟨A3, c3, e3⟩ := row_slice (hC.r42 rfl)
        subst e1; subst e2; subst e3
        have hC' := hC.s12
        refine wpOp_of rfl rfl (opValue (v := .agg #[.slice A1 (m.feet.length + n.feet.length) c1, .slice A2 n.ends.length c2, .slice A3 m.brks.length c3]) (w' := wx) (by go_simp; try rfl) ?_)
        exact ⟨.inr (hSx _ hC'.bl), b4, true, true, true, true, b13, false, x6, x35, _, _, _, _, rfl, ⟨f, rfl⟩, (fun _ => hC'), (fun h => by cases h)⟩
      · have hb : b13 = false := by simpa using hop
        subst hb
        have h14 : b14 = false := by
          cases h : b14 with
          | false => rfl
          | true => have := (hD h).1; simp at this
        subst h14
        have hC := hJ rfl
        have hC' := hC.s13
        refine wpOp_of rfl rfl (opValue (v := .pointer (some ⟨wx.heap.size, 0, none⟩)) (w' := wx.alloc (.cells #[.slice none 0 0, .slice none 0 0, .slice none 0 0] 27)) (by go_simp; try rfl) ?_)
        exact ⟨.inr (hSx _ hC'.bl), b4, b5, b8, b11, b12, true, false, _, x35, x36, x39, x42, x43, rfl, ⟨f, rfl⟩, (fun _ => hC'), (fun h => by cases h)⟩
      · have hb : b14 = false := by simpa using hop
        subst hb
        have hC := hJ rfl
        have hd12 : b12 = true := ready_dep hi rfl 12 (by kernel_rfl)
        subst hd12
        have hd13 : b13 = true := ready_dep hi rfl 13 (by kernel_rfl)
        subst hd13
        obtain ⟨d5, d8, d11, e43⟩ := hC.bd rfl
        subst d5; subst d8; subst d11; subst e43
        have hd4 : b4 = true := ready_dep hi rfl 4 (by kernel_rfl)
        subst hd4
        obtain ⟨A1, c1, e1⟩ := row_slice (hC.r36 rfl)
        obtain ⟨A2, c2, e2⟩ := row_slice (hC.r39 rfl)
        obtain ⟨A3, c3, e3⟩ := row_slice (hC.r42 rfl)
        subst e1; subst e2; subst e3
        obtain ⟨p, e6, hq, hC'⟩ := hC.stored
        subst e6
        have c0 : wx.cell? ⟨p, 0, none⟩ = some (.slice none 0 0) := cell_of_row _ _ 0 _ 27 (0, 0) hq
        have c1' : wx.cell? ⟨p, 1, none⟩ = some (.slice none 0 0) := cell_of_row _ _ 1 _ 27 (0, 0) hq
        have c2' : wx.cell? ⟨p, 2, none⟩ = some (.slice none 0 0) := cell_of_row _ _ 2 _ 27 (0, 0) hq
        have f0 : wx.frozen? ⟨p, 0, none⟩ = false := frozen_of_row _ _ 0 _ 27 hq
        have f1 : wx.frozen? ⟨p, 1, none⟩ = false := frozen_of_row _ _ 1 _ 27 hq
        have f2 : wx.frozen? ⟨p, 2, none⟩ = false := frozen_of_row _ _ 2 _ 27 hq
        refine wpOp_of rfl rfl (opSkip (w' := ((wx.setCell ⟨p, 0, none⟩ (.slice A1 (m.feet.length + n.feet.length) c1)).setCell ⟨p, 1, none⟩ (.slice A2 n.ends.length c2)).setCell ⟨p, 2, none⟩ (.slice A3 m.brks.length c3)) (by go_simp; try rfl) ?_)
        exact ⟨.inr (hSx _ hC'.bl), true, true, true, true, true, true, true, _, _, _, _, _, _, rfl, ⟨f, rfl⟩, (fun h => by cases h), fun _ => ⟨⟨rfl, rfl, rfl, rfl, rfl, rfl⟩, p, rfl, hC'⟩⟩
    case hend =>
      intro listed a wx hI hre
      obtain ⟨b4, b5, b8, b11, b12, b13, b14, x6, x35, x36, x39, x42, x43, rfl, hF, hJ, hD⟩ := hI
      have h4z : b4 = true := not_ready (i := 4) hre rfl (by kernel_rfl)
      subst h4z
      have h5z : b5 = true := not_ready (i := 5) hre rfl (by kernel_rfl)
      subst h5z
      have h8z : b8 = true := not_ready (i := 8) hre rfl (by kernel_rfl)
      subst h8z
      have h11z : b11 = true := not_ready (i := 11) hre rfl (by kernel_rfl)
      subst h11z
      have h13z : b13 = true := not_ready (i := 13) hre rfl (by kernel_rfl)
      subst h13z
      have h12z : b12 = true := not_ready (i := 12) hre rfl (by kernel_rfl)
      subst h12z
      have h14z : b14 = true := not_ready (i := 14) hre rfl (by kernel_rfl)
      subst h14z
      obtain ⟨_, p, rfl, hd⟩ := hD rfl
      obtain ⟨f, rfl⟩ := hF
      clear hJ hre hHeld m0 m1 m2 n0 n1 n2 hD
      have Hd := Lib.hid hd
      obtain ⟨A1, c1, e1⟩ := row_slice hd.r36
      obtain ⟨A2, c2, e2⟩ := row_slice hd.r39
      obtain ⟨A3, c3, e3⟩ := row_slice hd.r42
      subst e1; subst e2; subst e3
      have k0 := cell_of_row _ _ 0 _ 27 (0, 0) hd.box
      have k1 := cell_of_row _ _ 1 _ 27 (0, 0) hd.box
      have k2 := cell_of_row _ _ 2 _ 27 (0, 0) hd.box
      have hFl : (m.feet ++ n.feet).length = m.feet.length + n.feet.length := List.length_append
      have hd' : Jd w3.heap.size (m.feet ++ n.feet).length n.ends.length m.brks.length (ftCells (m.feet ++ n.feet) (vs ++ us)) (wayCells n.ends) (brkCells m.brks) p (.slice A1 (m.feet.length + n.feet.length) c1) (.slice A2 n.ends.length c2) (.slice A3 m.brks.length c3) w3 wx := by
        rw [hFl, ftCells_append m.feet n.feet vs us (HO.out _ Hb3.out).vl]; exact hd
      have Hjl := Lib.hid hd'.start
      have HFl := Lib.hid hFl
      have Hold := Lib.hid fun (W : World) (hb : Below w3.heap.size w3 W) => old_row (HO.out _ (Hnext.out _ _ Hb3.out hb)) (HO2.out _ (Hnext.out _ _ Hb3.out hb))
      have Hfew := Lib.hid (ways_few Hsm.out Hsn.out)
      have Hol : Hid ((vs ++ us).length = (m.feet ++ n.feet).length) := Lib.hid (by rw [List.length_append, (HO.out _ Hb3.out).vl, (HO2.out _ Hb3.out).vl, List.length_append])
      clear hd hd' hFl
      go_wp2_with fail
      clear k0 k1 k2
      go_loopw [47] (fun a wr => ∃ (i : Nat) (news : List Value), i ≤ m.feet.length + n.feet.length ∧ a = .int .i64 i ∧ Hid (Jl w3.heap.size w3 (m.feet ++ n.feet) n.ends.length m.brks.length (wayCells n.ends) (brkCells m.brks) (vs ++ us) p (.slice A1 (m.feet.length + n.feet.length) c1) (.slice A2 n.ends.length c2) (.slice A3 m.brks.length c3) i news wr)) (fun a _ => m.feet.length + n.feet.length - (RowKit.intOf a).toNat)
      case atStart => exact ⟨0, [], by omega, rfl, Hjl⟩
      case round =>
        rename_i wr
        obtain ⟨i, news, hi, rfl, hJ⟩ := hrel
        have hFl := HFl.out
        by_cases hlt : i < m.feet.length + n.feet.length
        · have hfe := hJ.out.feet
          rw [hFl] at hfe
          obtain ⟨g1, rfl⟩ := own_addr hfe (by omega)
          clear hfe
          obtain ⟨hc0, hc1, hz, hgl⟩ := hJ.out.cell Hol.out (by omega) (by rw [hFl])
          have hrow := Hold.out _ hJ.out.bl i (by omega)
          obtain ⟨A, c, hA⟩ := row_slice hrow
          have hwl := Hfew.out i (by omega)
          rw [hA] at hc1 hrow
          generalize hL : ((m.feet ++ n.feet).getD i default).ways.length = L at hc1 hrow hwl
          generalize hown : ((m.feet ++ n.feet).getD i default).own = own at hc0
          have HL := Lib.hid hL
          clear hA hL hown
          have k0 := cell_of_row _ _ 0 _ 27 (0, 0) hJ.out.box
          have i1 : (0 : Int) ≤ (i : Int) := by omega
          have i2 : (i : Int) < (m.feet.length : Int) + (n.feet.length : Int) := by omega
          clear hFl
          go_wp2_with fail
          have HJ := Lib.hid hJ.out
          obtain ⟨W5, hW5⟩ : ∃ W5, W5 = wr.alloc (.cells #[.string own, .slice A L c] 81) := ⟨_, rfl⟩
          have hb5 : Below wr.heap.size wr W5 := by rw [hW5]; exact (Below.refl _ _).alloc (Nat.le_refl _) _
          have s5 : W5.heap.size = wr.heap.size + 1 := by rw [hW5]; simp
          have t8 : W5.cell? ⟨wr.heap.size, 1, none⟩ = some (.slice A L c) := by rw [hW5]; exact cell_of_row _ _ 1 _ 81 (0, 0) (World.alloc_heap_new _ _)
          have hpl := lt_of_heap hJ.out.box
          have k5 := (hb5.cell (p := ⟨p, 0, none⟩) hpl).trans k0
          have c5 := (hb5.cell (p := ⟨g1, i * 2 + 1, none⟩) hgl).trans hc1
          have z5 := (hb5.frozen (p := ⟨g1, i * 2 + 1, none⟩) hgl).trans (hz (i * 2 + 1))
          have hp5 : p < W5.heap.size := by omega
          have hg5 : g1 < W5.heap.size := by omega
          have ht5 : wr.heap.size < W5.heap.size := by omega
          have Kc := Lib.hid fun (W' : World) (hb : Below W5.heap.size W5 W') => clonew_own 0 L (.slice A L c) _ W' ((hrow.kept (only_of_below hb5 none) (by cases (Value.slice A L c).ownBlock <;> simp)).kept (only_of_below hb none) (by cases (Value.slice A L c).ownBlock <;> simp)) (wayCells_one _) (by omega)
          have Hb5 := Lib.hid hb5
          have Hs5 := Lib.hid s5
          rw [← hW5]
          clear hW5 hb5 s5 k0 hc0 hc1 hz hgl hpl hrow hwl hJ
          refine wp_region_X (S := fun w' => w'.cell? ⟨p, 0, none⟩ = some (.slice (some ⟨g1, 0, none⟩) (m.feet.length + n.feet.length) c1) ∧ w'.cell? ⟨wr.heap.size, 1, none⟩ = some (.slice A L c) ∧ Below W5.heap.size W5 w') (X := fun x => [8].contains x) (by kernel_rfl) ?_
          have hHeld : W5.drew.cell? ⟨p, 0, none⟩ = some (.slice (some ⟨g1, 0, none⟩) (m.feet.length + n.feet.length) c1) ∧ W5.drew.cell? ⟨wr.heap.size, 1, none⟩ = some (.slice A L c) ∧ Below W5.heap.size W5 W5.drew := ⟨k5, t8, (Below.refl _ _).drew⟩
          refine wpAnyX_take (i := 0) (v := ?_) rfl (by kernel_rfl) (by kernel_rfl) (by kernel_rfl) (by kernel_rfl) (fun _ _ _ h => h) (Or.inl ⟨by rfl, ?_⟩) (by assumption) ?_
          rotate_left
          · intro w hSw
            obtain ⟨hS1, hS2, hS3⟩ := hSw
            go_simp
            try with_reducible rfl
          simp only [Act.put, List.getElem_toArray, List.getElem_cons_zero, List.getElem_cons_succ, List.setIfInBounds_toArray, List.set_cons_zero, List.set_cons_succ]
          refine wpAnyX_take (i := 1) (v := ?_) rfl (by kernel_rfl) (by kernel_rfl) (by kernel_rfl) (by kernel_rfl) (fun _ _ _ h => h) (Or.inl ⟨by rfl, ?_⟩) (by assumption) ?_
          rotate_left
          · intro w hSw
            obtain ⟨hS1, hS2, hS3⟩ := hSw
            go_simp
            try with_reducible rfl
          simp only [Act.put, List.getElem_toArray, List.getElem_cons_zero, List.getElem_cons_succ, List.setIfInBounds_toArray, List.set_cons_zero, List.set_cons_succ]
          refine wpAnyX_take (i := 2) (v := ?_) rfl (by kernel_rfl) (by kernel_rfl) (by kernel_rfl) (by kernel_rfl) (fun _ _ _ h => h) (Or.inl ⟨by rfl, ?_⟩) (by assumption) ?_
          rotate_left
          · intro w hSw
            obtain ⟨hS1, hS2, hS3⟩ := hSw
            go_simp
            try with_reducible rfl
          simp only [Act.put, List.getElem_toArray, List.getElem_cons_zero, List.getElem_cons_succ, List.setIfInBounds_toArray, List.set_cons_zero, List.set_cons_succ]
          refine wpAnyX_take (i := 3) (v := ?_) rfl (by kernel_rfl) (by kernel_rfl) (by kernel_rfl) (by kernel_rfl) (fun _ _ _ h => h) (Or.inl ⟨by rfl, ?_⟩) (by assumption) ?_
          rotate_left
          · intro w hSw
            obtain ⟨hS1, hS2, hS3⟩ := hSw
            go_simp
            try with_reducible rfl
          simp only [Act.put, List.getElem_toArray, List.getElem_cons_zero, List.getElem_cons_succ, List.setIfInBounds_toArray, List.set_cons_zero, List.set_cons_succ]
          refine wpAnyX_take (i := 4) (v := ?_) rfl (by kernel_rfl) (by kernel_rfl) (by kernel_rfl) (by kernel_rfl) (fun _ _ _ h => h) (Or.inl ⟨by rfl, ?_⟩) (by assumption) ?_
          rotate_left
          · intro w hSw
            obtain ⟨hS1, hS2, hS3⟩ := hSw
            go_simp
            try with_reducible rfl
          simp only [Act.put, List.getElem_toArray, List.getElem_cons_zero, List.getElem_cons_succ, List.setIfInBounds_toArray, List.set_cons_zero, List.set_cons_succ]
          refine wpAnyX_one (i := 5) (by kernel_rfl) (wpOp_of rfl rfl (opCall (f := 65) (args := #[.slice A L c]) (by go_simp; try rfl) ((Kc.out _ hHeld.2.2).mono ?_)))
          rintro e w9 ⟨x9, rfl, ho9, hb9⟩
          have hb9' : Below W5.heap.size W5 w9 := hHeld.2.2.trans (hb9.mono hHeld.2.2.size)
          have hHeld9 : w9.cell? ⟨p, 0, none⟩ = some (.slice (some ⟨g1, 0, none⟩) (m.feet.length + n.feet.length) c1) ∧ w9.cell? ⟨wr.heap.size, 1, none⟩ = some (.slice A L c) ∧ Below W5.heap.size W5 w9 := ⟨(hb9'.cell (p := ⟨p, 0, none⟩) hp5).trans k5, (hb9'.cell (p := ⟨wr.heap.size, 1, none⟩) ht5).trans t8, hb9'⟩
          have c9 := (hb9'.cell (p := ⟨g1, i * 2 + 1, none⟩) hg5).trans c5
          have z9 := (hb9'.frozen (p := ⟨g1, i * 2 + 1, none⟩) hg5).trans z5
          obtain ⟨A9, cap9, e9⟩ := row_slice ho9
          subst e9
          refine ⟨_, rfl, .inr hHeld9, ?_⟩
          simp only [Act.put, List.getElem_toArray, List.getElem_cons_zero, List.getElem_cons_succ, List.setIfInBounds_toArray, List.set_cons_zero, List.set_cons_succ]
          refine wpAnyX_one (i := 6) (by kernel_rfl) (wpOp_of rfl rfl (opValue (v := .pointer (some ⟨g1, i * 2, none⟩)) (w' := w9) (by go_simp; try rfl) ?_))
          refine ⟨.inr hHeld9, ?_⟩
          simp only [Act.put, List.getElem_toArray, List.getElem_cons_zero, List.getElem_cons_succ, List.setIfInBounds_toArray, List.set_cons_zero, List.set_cons_succ]
          refine wpAnyX_take (i := 7) (v := ?_) rfl (by kernel_rfl) (by kernel_rfl) (by kernel_rfl) (by kernel_rfl) (fun _ _ _ h => h) (Or.inl ⟨by rfl, ?_⟩) (by assumption) ?_
          rotate_left
          · intro w hSw
            obtain ⟨hS1, hS2, hS3⟩ := hSw
            go_simp
            try with_reducible rfl
          simp only [Act.put, List.getElem_toArray, List.getElem_cons_zero, List.getElem_cons_succ, List.setIfInBounds_toArray, List.set_cons_zero, List.set_cons_succ]
          refine wpAnyX_one (i := 8) (by kernel_rfl) (wpOp_of rfl rfl (opSkip (w' := w9.setCell ⟨g1, i * 2 + 1, none⟩ (.slice A9 L cap9)) (by go_simp; try rfl) ?_))
          refine ⟨.inl rfl, ?_⟩
          simp only [Act.put, List.getElem_toArray, List.getElem_cons_zero, List.getElem_cons_succ, List.setIfInBounds_toArray, List.set_cons_zero, List.set_cons_succ]
          refine wpAnyX_done (by kernel_rfl) ?_ _
          have Hst := Lib.hid (HJ.out.step Hol.out (by rw [HFl.out]; exact hlt) (by rw [HFl.out]) (Hb5.out.trans (hb9'.mono (by have := Hs5.out; omega))) (by rw [HL.out]; exact own_mono ho9 (by have := Hs5.out; have := hHeld.2.2.size; omega)))
          clear hHeld hHeld9 hb9' hb9 c9 z9 k5 c5 z5 t8
          go_wp2_with fail
          go_roundw
          case rel => exact ⟨i + 1, _, by omega, by go_num, Hst⟩
          case measure => simp [RowKit.intOf]; omega
        · obtain rfl : i = m.feet.length + n.feet.length := by omega
          clear Hold Hfew Hd Hjl
          obtain ⟨⟨m0, m1, m2⟩, n0, n1, n2⟩ := Hkeep.out _ (Hnext.out _ _ Hb3.out hJ.out.bl)
          rw [show ((m.feet.length + n.feet.length : Nat) : Int) = (m.feet.length : Int) + (n.feet.length : Int) from by omega]
          go_wp2_with fail
          clear m0 m1 m2 n0 n1 n2
          have HJ0 : Jl w3.heap.size w3 (m.feet ++ n.feet) n.ends.length m.brks.length (wayCells n.ends) (brkCells m.brks) (vs ++ us) p (.slice A1 (m.feet.length + n.feet.length) c1) (.slice A2 n.ends.length c2) (.slice A3 m.brks.length c3) (m.feet ++ n.feet).length news wr := by rw [HFl.out]; exact hJ.out
          have HJb : Hid (Jb w3.heap.size w3 (m.feet ++ n.feet) n.ends m.brks (brkAdd m.feet.length n.brks) p (.slice A1 (m.feet.length + n.feet.length) c1) (.slice A2 n.ends.length c2) news 0 (.slice A3 m.brks.length c3) wr) := Lib.hid (HJ0.jb Hol.out)
          clear HJ0 hJ
          have l3 := Hlm.out.len
          have l4 := Hln.out.len
          obtain ⟨wo, rfl⟩ : ∃ wo : World, wo = wr := ⟨_, rfl⟩
          go_loopw [64] (fun a wr => ∃ (j : Nat) (x42 : Value), j ≤ n.brks.length ∧ a = .int .i64 j ∧ Hid (Jb w3.heap.size w3 (m.feet ++ n.feet) n.ends m.brks (brkAdd m.feet.length n.brks) p (.slice A1 (m.feet.length + n.feet.length) c1) (.slice A2 n.ends.length c2) news j x42 wr)) (fun a _ => n.brks.length - (RowKit.intOf a).toNat)
          case atStart => exact ⟨0, _, by omega, rfl, HJb⟩
          case round =>
            clear HJb
            obtain ⟨w5, rfl⟩ : ∃ w5 : World, w5 = wr := ⟨_, rfl⟩
            obtain ⟨j, x42, hj, rfl, hJ⟩ := hrel
            obtain ⟨⟨m0, m1, m2⟩, n0, n1, n2⟩ := Hkeep.out _ (Hnext.out _ _ Hb3.out hJ.out.bl)
            have k0 := cell_of_row _ _ 0 _ 27 (0, 0) hJ.out.box
            have k1 := cell_of_row _ _ 1 _ 27 (0, 0) hJ.out.box
            have k2 := cell_of_row _ _ 2 _ 27 (0, 0) hJ.out.box
            obtain ⟨A5, c5, rfl⟩ := row_slice hJ.out.brks
            by_cases hjl : j < n.brks.length
            · have hrow := (HO2.out _ (Hnext.out _ _ Hb3.out hJ.out.bl)).brks
              obtain ⟨g2, rfl⟩ := own_addr hrow (by omega)
              obtain ⟨e1, e2⟩ := brkCells_get n.brks j hjl
              have hc1 := (hrow.cellAt (j * 2) (by omega)).trans e1
              have hc2 := (hrow.cellAt (j * 2 + 1) (by omega)).trans e2
              obtain ⟨q1, q2, q3, q4⟩ := Hln.out.at_ j hjl
              have hat := brkAdd_at m.feet.length n.brks j hjl
              generalize (n.brks.getD j default) = kk at hc1 hc2 q1 q2 q3 q4 hat
              obtain ⟨ka, kb⟩ := kk
              simp only [] at hc1 hc2 q1 q2 q3 q4 hat
              have hsum : wrap64 (ka + (m.feet.length : Int)) = ka + (m.feet.length : Int) := by unfold wrap64; omega
              have j1 : (0 : Int) ≤ (j : Int) := by omega
              have j2 : (j : Int) < (n.brks.length : Int) := by omega
              have Hat := Lib.hid hat
              have hs3 := (Hnext.out _ _ Hb3.out hJ.out.bl).size
              have hs1 := Hsz.out
              have hlt0 : w.heap.size < w5.heap.size := by omega
              have hlt1 : p < w5.heap.size := lt_of_heap hJ.out.box
              clear hrow e1 e2 hat
              go_wp2_with (at_builtin; refine Hid.out ?_)
              refine Lib.hid ?_
              refine wpList_append_lit (w5.alloc (.cells #[.int .i64 (ka + (m.feet.length : Int)), .int .i64 kb] 98)) rfl _ _ 25 rfl w3.heap.size 98 _ _ 2 16 Tryd.underlying25 info98 zero98 size98 bytes98 rfl (by decide) (.slice A5 (m.brks.length + j) c5) (m.brks.length + j) _ 1 #[.int .i64 (ka + (m.feet.length : Int)), .int .i64 kb] (w5.heap.size + 1) rfl rfl (by simp) (hJ.out.brks.alloc _) rfl (by intro u hu; simp at hu; rcases hu with rfl | rfl <;> rfl) (by unfold maxLen; omega) (by omega) (by simp; have := hJ.out.sz; omega) ?_
              intro v9 w9 ho9 hg9 _
              obtain ⟨A9, c9, rfl⟩ := row_slice ho9
              have hb6 : Below w5.heap.size w5 (w5.alloc (.cells #[.int .i64 (ka + (m.feet.length : Int)), .int .i64 kb] 98)) := (Below.refl _ w5).alloc (Nat.le_refl _) _
              have hbox9 := hJ.out.box9 hb6 hg9
              have Hst := Lib.hid (hJ.out.step (by rw [brkAdd_len]; exact hjl) hb6 hg9 (by rw [Hat.out]; exact ho9))
              have q2' := cell_of_row _ _ 2 _ 27 (0, 0) hbox9
              have qz := frozen_of_row _ _ 2 _ 27 hbox9
              clear hb6 hbox9 ho9 hg9 k0 k1 k2 m0 m1 m2 n0 n1 n2 hc1 hc2 hJ Hat
              go_wp2_with fail
              go_roundw
              case rel => exact ⟨j + 1, _, by omega, by go_num, Hst⟩
              case measure => simp [RowKit.intOf]; omega
            · obtain rfl : j = n.brks.length := by omega
              have hres := Hres.out _ (Hnext.out _ _ Hb3.out hJ.out.bl)
              have r0 := cell_of_row _ _ 0 _ 27 (0, 0) hres
              have r1 := cell_of_row _ _ 1 _ 27 (0, 0) hres
              have r2 := cell_of_row _ _ 2 _ 27 (0, 0) hres
              have z0 := frozen_of_row _ _ 0 _ 27 hres
              have z1 := frozen_of_row _ _ 1 _ 27 hres
              have z2 := frozen_of_row _ _ 2 _ 27 hres
              have Hrs := Lib.hid hres
              clear hres m0 m1 m2 n0 n1 n2
              go_wp2_with fail
              have hom := (hJ.out.om).base (B2 := w.heap.size) (by have := Hb3.out.size; have := Hsz.out; omega)
              have hbw := HB1.out.trans ((Hnext.out _ _ Hb3.out hJ.out.bl).mono (by have := Hsz.out; omega))
              have hq1 := heap_setCell_same w5 (w.heap.size + 2) 0 _ 27 (.slice A1 (m.feet.length + n.feet.length) c1) Hrs.out
              have hq2 := heap_setCell_same _ (w.heap.size + 2) 1 _ 27 (.slice A2 n.ends.length c2) hq1
              refine join_ret (b := .int .i64 0) rfl rfl (three27 Hrs.out _ _ _) ⟨((hbw.setCell (p := ⟨w.heap.size + 2, 0, none⟩) (by show w.heap.size ≤ w.heap.size + 2; omega) _).setCell (p := ⟨w.heap.size + 2, 1, none⟩) (by show w.heap.size ≤ w.heap.size + 2; omega) _).setCell (p := ⟨w.heap.size + 2, 2, none⟩) (by show w.heap.size ≤ w.heap.size + 2; omega) _, ?_⟩
              rw [if_neg hlong]
              exact ⟨_, _, _, _, rfl, ((hom.putBox Hrs.out 0 _).putBox hq1 1 _).putBox hq2 2 _⟩
end Go.Proofs.YtkfkkoefpfmjkaaDoor

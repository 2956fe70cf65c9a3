import Derived.Test.YtkfkkoefpfmjkaaDoorJC
namespace Go.Proofs.YtkfkkoefpfmjkaaDoor
set_option linter.unusedVariables false
set_option linter.unusedSimpArgs false
open Go.RowKit

theorem below18 (i : Nat) (h : i < 18) : i = 0 ∨ i = 1 ∨ i = 2 ∨ i = 3 ∨ i = 4 ∨ i = 5 ∨ i = 6 ∨ i = 7 ∨ i = 8 ∨ i = 9 ∨ i = 10 ∨ i = 11 ∨ i = 12 ∨ i = 13 ∨ i = 14 ∨ i = 15 ∨ i = 16 ∨ i = 17 := by omega
theorem away_up {B E : Nat} {w W : World} (h : Away B E w W) : w.heap.size ≤ W.heap.size := h.size
/-- the frame in the last region -/
def FrS (x7 x8 x9 x78 x79 x80 x81 x82 x83 x84 x85 x86 x87 x88 x89 x90 x91 x92 : Value) (a : Act) : Prop := ∃ f : Nat → Value, a = { tmps := #[f 0, f 1, f 2, f 3, f 4, f 5, f 6, x7, x8, x9, f 10, f 11, f 12, f 13, f 14, f 15, f 16, f 17, f 18, f 19, f 20, f 21, f 22, f 23, f 24, f 25, f 26, f 27, f 28, f 29, f 30, f 31, f 32, f 33, f 34, f 35, f 36, f 37, f 38, f 39, f 40, f 41, f 42, f 43, f 44, f 45, f 46, f 47, f 48, f 49, f 50, f 51, f 52, f 53, f 54, f 55, f 56, f 57, f 58, f 59, f 60, f 61, f 62, f 63, f 64, f 65, f 66, f 67, f 68, f 69, f 70, f 71, f 72, f 73, f 74, f 75, f 76, f 77, x78, x79, x80, x81, x82, x83, x84, x85, x86, x87, x88, x89, x90, x91, x92, f 93, f 94, f 95, f 96, f 97, f 98, f 99, f 100, f 101], defers := [] }
theorem FrS.of (v0 v1 v2 v3 v4 v5 v6 v7 v8 v9 v10 v11 v12 v13 v14 v15 v16 v17 v18 v19 v20 v21 v22 v23 v24 v25 v26 v27 v28 v29 v30 v31 v32 v33 v34 v35 v36 v37 v38 v39 v40 v41 v42 v43 v44 v45 v46 v47 v48 v49 v50 v51 v52 v53 v54 v55 v56 v57 v58 v59 v60 v61 v62 v63 v64 v65 v66 v67 v68 v69 v70 v71 v72 v73 v74 v75 v76 v77 v78 v79 v80 v81 v82 v83 v84 v85 v86 v87 v88 v89 v90 v91 v92 v93 v94 v95 v96 v97 v98 v99 v100 v101 : Value) : FrS v7 v8 v9 v78 v79 v80 v81 v82 v83 v84 v85 v86 v87 v88 v89 v90 v91 v92 { tmps := #[v0, v1, v2, v3, v4, v5, v6, v7, v8, v9, v10, v11, v12, v13, v14, v15, v16, v17, v18, v19, v20, v21, v22, v23, v24, v25, v26, v27, v28, v29, v30, v31, v32, v33, v34, v35, v36, v37, v38, v39, v40, v41, v42, v43, v44, v45, v46, v47, v48, v49, v50, v51, v52, v53, v54, v55, v56, v57, v58, v59, v60, v61, v62, v63, v64, v65, v66, v67, v68, v69, v70, v71, v72, v73, v74, v75, v76, v77, v78, v79, v80, v81, v82, v83, v84, v85, v86, v87, v88, v89, v90, v91, v92, v93, v94, v95, v96, v97, v98, v99, v100, v101], defers := [] } := ⟨fun i => (#[v0, v1, v2, v3, v4, v5, v6, v7, v8, v9, v10, v11, v12, v13, v14, v15, v16, v17, v18, v19, v20, v21, v22, v23, v24, v25, v26, v27, v28, v29, v30, v31, v32, v33, v34, v35, v36, v37, v38, v39, v40, v41, v42, v43, v44, v45, v46, v47, v48, v49, v50, v51, v52, v53, v54, v55, v56, v57, v58, v59, v60, v61, v62, v63, v64, v65, v66, v67, v68, v69, v70, v71, v72, v73, v74, v75, v76, v77, v78, v79, v80, v81, v82, v83, v84, v85, v86, v87, v88, v89, v90, v91, v92, v93, v94, v95, v96, v97, v98, v99, v100, v101]).getD i undef, rfl⟩
set_option maxRecDepth 100000 in
set_option maxHeartbeats 8000000 in
theorem spoil_any (B E : Nat) (m : Met) (vf ve vb : Value) (vs : List Value) (w : World) (h : OM w B m vf ve vb vs) (ha : Ahead E m vf ve vb vs) (hEw : E ≤ w.heap.size) (hf : Few m) (hBE : B ≤ E) :
    Calls Tryd.prog 16 #[.agg #[vf, ve, vb]] w fun e w' => (∃ v, e = .returned v) ∧ Away B E w w' := by
  obtain ⟨Af, cf, rfl⟩ := row_slice h.feet
  obtain ⟨Ae, ce, rfl⟩ := row_slice h.ends
  obtain ⟨Ab, cb, rfl⟩ := row_slice h.brks
  generalize hW1 : w.alloc (.cells #[.slice Af m.feet.length cf, .slice Ae m.ends.length ce, .slice Ab m.brks.length cb] 27) = W1
  have hg1 : w.grownBy W1 none := by rw [← hW1]; exact World.grownBy_alloc w _ none
  have hs1 : Sk B E w m Af Ae Ab cf ce cb vs 0 W1 := ⟨(Away.refl B E w).grown hg1 (fun k e => by cases e) (fun k e => by cases e), h.sp.off hg1, by rw [← hW1]; exact World.alloc_heap_new w _⟩
  have Hs1 := Lib.hid hs1
  have HW1 := Lib.hid hW1
  have hn := hf.feet
  have hne := hf.ends
  have hnb := hf.brks
  obtain ⟨m0, m1, m2⟩ := hs1.cells
  rw [← hW1] at m0 m1 m2
  have Ha := Lib.hid ha
  have Hf := Lib.hid hf
  clear h ha hf hg1 hs1 hW1
  go_enter Tryd.func16, Tryd.ntmps16
  go_wp2_with fail
  rw [HW1.out]
  clear m0 m1 m2
  go_loopw [13] (fun a wr => ∃ i : Nat, i ≤ m.feet.length ∧ a = .int .i64 i ∧ Hid (Sk B E w m Af Ae Ab cf ce cb vs i wr)) (fun a _ => m.feet.length - (RowKit.intOf a).toNat)
  case atStart => exact ⟨0, by omega, rfl, Hs1⟩
  case round =>
    rename_i wr
    obtain ⟨i, hi, rfl, hS⟩ := hrel
    by_cases hlt : i < m.feet.length
    · obtain ⟨m0, m1, m2⟩ := hS.out.cells
      obtain ⟨g, A, c, hAf, hvi, hcell, hfz, x, hx⟩ := hS.out.foot hlt
      subst hAf
      have hLn := Hf.out.ways i hlt
      generalize hL : (m.feet.getD i default).ways.length = L at hcell hx hvi hLn
      have i1 : (0 : Int) ≤ (i : Int) := by omega
      have i2 : (i : Int) < (m.feet.length : Int) := by omega
      go_wp2_with fail
      obtain ⟨wo, rfl⟩ : ∃ wo : World, wo = wr := ⟨_, rfl⟩
      have HvL := Lib.hid (And.intro hvi hL)
      clear hcell hfz hx m0 m1 m2 hvi
      go_loopw [23] (fun a wr => ∃ j : Nat, j ≤ L ∧ a = .int .i64 j ∧ Hid (Sk B E w m (some ⟨g, 0, none⟩) Ae Ab cf ce cb vs i wr)) (fun a _ => L - (RowKit.intOf a).toNat)
      case atStart => exact ⟨0, by omega, rfl, hS⟩
      case round =>
        obtain ⟨w3, rfl⟩ : ∃ w3 : World, w3 = wr := ⟨_, rfl⟩
        obtain ⟨j, hj, rfl, hS3⟩ := hrel
        obtain ⟨m0, m1, m2⟩ := hS3.out.cells
        obtain ⟨hcell, hfz, x, hx⟩ := hS3.out.foot2 hlt rfl (by rw [HvL.out.1, HvL.out.2])
        rw [HvL.out.2] at hcell hx
        by_cases hjl : j < L
        · obtain ⟨g2, rfl⟩ := own_addr hx (by omega)
          obtain ⟨⟨u1, hc1⟩, ⟨u2, hc2⟩, hz1, hz2, hz3⟩ := row_cells hx hjl
          have hz4 := hz3 (.string ⟨#[63]⟩)
          have j1 : (0 : Int) ≤ (j : Int) := by omega
          have j2 : (j : Int) < (L : Int) := by omega
          clear hx hz3
          go_wp2_with fail
          go_roundw
          case rel => exact ⟨j + 1, by omega, by go_num, Lib.hid (hS3.out.wayput Ha.out hEw hlt (by rw [HvL.out.1, HvL.out.2]) j _ _)⟩
          case measure => simp [RowKit.intOf]; omega
        · obtain rfl : j = L := by omega
          obtain ⟨d, hd, hdk⟩ := hS3.out.sp.feet
          go_wp2_with (at_builtin; refine Hid.out ?_)
          refine Lib.hid ?_
          refine wpList_append_lit w3 rfl _ _ 24 rfl B 100 _ _ 2 24 Tryd.underlying24 info100 zero100 size100 bytes100 rfl (by decide) (.slice A j c) j x 3 #[.string ⟨#[33]⟩, .int .i64 0, .string ⟨#[]⟩, .int .i64 0, .string ⟨#[]⟩, .int .i64 0] w3.heap.size rfl rfl rfl hx rfl (by intro u hu; simp at hu; rcases hu with rfl | rfl | rfl | rfl | rfl | rfl <;> rfl) (by unfold maxLen; omega) (by omega) (by have := hS3.out.away.size; omega) ?_
          intro v9 w9 ho9 hg9 hb9
          obtain ⟨A9, c9, rfl⟩ := row_slice ho9
          have hS9 := Lib.hid (hS3.out.next Ha.out hEw hlt (by rw [HvL.out.1]; exact hg9))
          obtain ⟨n0, n1, n2⟩ := hS9.out.cells
          obtain ⟨d9, hd9, _⟩ := hS9.out.sp.feet
          obtain ⟨⟨u1, hu1⟩, ⟨u2, hu2⟩, hz1, hz2, hz3⟩ := row_cells hd9 hlt
          have hz4 := hz3 (.string ⟨#[63]⟩)
          clear hd9 ho9 hg9 hb9 m0 m1 m2 hcell hfz hx hz3 hS3
          go_wp2_with fail
          go_roundw
          case rel => exact ⟨i + 1, by omega, by go_num, Lib.hid (hS9.out.footput Ha.out hEw rfl _ _)⟩
          case measure => simp [RowKit.intOf]; omega
    · obtain rfl : i = m.feet.length := by omega
      obtain ⟨m0, m1, m2⟩ := hS.out.cells
      go_wp2_with fail
      clear m0 m1 m2
      obtain ⟨wo, rfl⟩ : ∃ wo : World, wo = wr := ⟨_, rfl⟩
      go_loopw [57] (fun a wr => ∃ j : Nat, j ≤ m.ends.length ∧ a = .int .i64 j ∧ Hid (Sk B E w m Af Ae Ab cf ce cb vs m.feet.length wr)) (fun a _ => m.ends.length - (RowKit.intOf a).toNat)
      case atStart => exact ⟨0, by omega, rfl, hS⟩
      case round =>
        obtain ⟨w4, rfl⟩ : ∃ w3 : World, w3 = wr := ⟨_, rfl⟩
        obtain ⟨j, hj, rfl, hS_w4⟩ := hrel
        obtain ⟨m0, m1, m2⟩ := hS_w4.out.cells
        by_cases hjl : j < m.ends.length
        · obtain ⟨x, hx⟩ := hS_w4.out.sp.ends
          obtain ⟨g2, rfl⟩ := own_addr hx (by omega)
          obtain ⟨⟨u1, hc1⟩, ⟨u2, hc2⟩, hz1, hz2, hz3⟩ := row_cells hx hjl
          have hz4 := hz3 (.string ⟨#[63]⟩)
          have j1 : (0 : Int) ≤ (j : Int) := by omega
          have j2 : (j : Int) < (m.ends.length : Int) := by omega
          clear hx hz3
          go_wp2_with fail
          go_roundw
          case rel => exact ⟨j + 1, by omega, by go_num, Lib.hid (hS_w4.out.endput Ha.out hEw rfl j _ _)⟩
          case measure => simp [RowKit.intOf]; omega
        · obtain rfl : j = m.ends.length := by omega
          go_wp2_with fail
          clear m0 m1 m2
          clear hS
          obtain ⟨wp, rfl⟩ : ∃ wp : World, wp = w4 := ⟨_, rfl⟩
          go_loopw [69] (fun a wr => ∃ j : Nat, j ≤ m.brks.length ∧ a = .int .i64 j ∧ Hid (Sk B E w m Af Ae Ab cf ce cb vs m.feet.length wr)) (fun a _ => m.brks.length - (RowKit.intOf a).toNat)
          case atStart => exact ⟨0, by omega, rfl, hS_w4⟩
          case round =>
            obtain ⟨w5, rfl⟩ : ∃ w3 : World, w3 = wr := ⟨_, rfl⟩
            obtain ⟨j, hj, rfl, hS_w5⟩ := hrel
            obtain ⟨m0, m1, m2⟩ := hS_w5.out.cells
            by_cases hjl : j < m.brks.length
            · obtain ⟨x, hx⟩ := hS_w5.out.sp.brks
              obtain ⟨g2, rfl⟩ := own_addr hx (by omega)
              obtain ⟨⟨u1, hc1⟩, ⟨u2, hc2⟩, hz1, hz2, hz3⟩ := row_cells hx hjl
              have hz4 := hz3 (.int .i64 (-7))
              have j1 : (0 : Int) ≤ (j : Int) := by omega
              have j2 : (j : Int) < (m.brks.length : Int) := by omega
              clear hx hz3
              go_wp2_with fail
              go_roundw
              case rel => exact ⟨j + 1, by omega, by go_num, Lib.hid (hS_w5.out.brkput Ha.out hEw rfl j _ _)⟩
              case measure => simp [RowKit.intOf]; omega
            · obtain rfl : j = m.brks.length := by omega
              clear hS_w4
              go_wp2_with fail
              obtain ⟨m0, m1, m2⟩ := hS_w5.out.cells
              have hS3 := Lib.hid hS_w5.out.s3
              refine wp_region_X (S := fun w' => w'.cell? ⟨w.heap.size, 0, none⟩ = some (.slice Af m.feet.length cf) ∧ w'.cell? ⟨w.heap.size, 1, none⟩ = some (.slice Ae m.ends.length ce) ∧ w'.cell? ⟨w.heap.size, 2, none⟩ = some (.slice Ab m.brks.length cb)) (X := fun x => [].contains x) (by kernel_rfl) ?_
              have hHeld : w5.drew.cell? ⟨w.heap.size, 0, none⟩ = some (.slice Af m.feet.length cf) ∧ w5.drew.cell? ⟨w.heap.size, 1, none⟩ = some (.slice Ae m.ends.length ce) ∧ w5.drew.cell? ⟨w.heap.size, 2, none⟩ = some (.slice Ab m.brks.length cb) := ⟨m0, m1, m2⟩
              refine wpAnyX_take (i := 0) (v := ?_) rfl (by kernel_rfl) (by kernel_rfl) (by kernel_rfl) (by kernel_rfl) (fun _ _ _ h => h) (Or.inl ⟨by rfl, ?_⟩) (by assumption) ?_
              rotate_left
              · intro w hSw
                obtain ⟨hS1, hS2, hS3⟩ := hSw
                go_simp
                try with_reducible rfl
              simp only [Act.put, List.getElem_toArray, List.getElem_cons_zero, List.getElem_cons_succ, List.setIfInBounds_toArray, List.set_cons_zero, List.set_cons_succ]
              refine wpAnyX_take (i := 1) (v := ?_) rfl (by kernel_rfl) (by kernel_rfl) (by kernel_rfl) (by kernel_rfl) (fun _ _ _ h => h) (Or.inl ⟨by rfl, ?_⟩) (by assumption) ?_
              rotate_left
              · intro w hSw
                obtain ⟨hS1, hS2, hS3⟩ := hSw
                go_simp
                try with_reducible rfl
              simp only [Act.put, List.getElem_toArray, List.getElem_cons_zero, List.getElem_cons_succ, List.setIfInBounds_toArray, List.set_cons_zero, List.set_cons_succ]
              refine wpAnyX_take (i := 2) (v := ?_) rfl (by kernel_rfl) (by kernel_rfl) (by kernel_rfl) (by kernel_rfl) (fun _ _ _ h => h) (Or.inl ⟨by rfl, ?_⟩) (by assumption) ?_
              rotate_left
              · intro w hSw
                obtain ⟨hS1, hS2, hS3⟩ := hSw
                go_simp
                try with_reducible rfl
              simp only [Act.put, List.getElem_toArray, List.getElem_cons_zero, List.getElem_cons_succ, List.setIfInBounds_toArray, List.set_cons_zero, List.set_cons_succ]
              refine wpAnyX_take (i := 5) (v := ?_) rfl (by kernel_rfl) (by kernel_rfl) (by kernel_rfl) (by kernel_rfl) (fun _ _ _ h => h) (Or.inl ⟨by rfl, ?_⟩) (by assumption) ?_
              rotate_left
              · intro w hSw
                obtain ⟨hS1, hS2, hS3⟩ := hSw
                go_simp
                try with_reducible rfl
              simp only [Act.put, List.getElem_toArray, List.getElem_cons_zero, List.getElem_cons_succ, List.setIfInBounds_toArray, List.set_cons_zero, List.set_cons_succ]
              refine wpAnyX_take (i := 6) (v := ?_) rfl (by kernel_rfl) (by kernel_rfl) (by kernel_rfl) (by kernel_rfl) (fun _ _ _ h => h) (Or.inl ⟨by rfl, ?_⟩) (by assumption) ?_
              rotate_left
              · intro w hSw
                obtain ⟨hS1, hS2, hS3⟩ := hSw
                go_simp
                try with_reducible rfl
              simp only [Act.put, List.getElem_toArray, List.getElem_cons_zero, List.getElem_cons_succ, List.setIfInBounds_toArray, List.set_cons_zero, List.set_cons_succ]
              refine wpAnyX_take (i := 7) (v := ?_) rfl (by kernel_rfl) (by kernel_rfl) (by kernel_rfl) (by kernel_rfl) (fun _ _ _ h => h) (Or.inl ⟨by rfl, ?_⟩) (by assumption) ?_
              rotate_left
              · intro w hSw
                obtain ⟨hS1, hS2, hS3⟩ := hSw
                go_simp
                try with_reducible rfl
              simp only [Act.put, List.getElem_toArray, List.getElem_cons_zero, List.getElem_cons_succ, List.setIfInBounds_toArray, List.set_cons_zero, List.set_cons_succ]
              refine wpAnyX_take (i := 10) (v := ?_) rfl (by kernel_rfl) (by kernel_rfl) (by kernel_rfl) (by kernel_rfl) (fun _ _ _ h => h) (Or.inl ⟨by rfl, ?_⟩) (by assumption) ?_
              rotate_left
              · intro w hSw
                obtain ⟨hS1, hS2, hS3⟩ := hSw
                go_simp
                try with_reducible rfl
              simp only [Act.put, List.getElem_toArray, List.getElem_cons_zero, List.getElem_cons_succ, List.setIfInBounds_toArray, List.set_cons_zero, List.set_cons_succ]
              refine wpAnyX_take (i := 11) (v := ?_) rfl (by kernel_rfl) (by kernel_rfl) (by kernel_rfl) (by kernel_rfl) (fun _ _ _ h => h) (Or.inl ⟨by rfl, ?_⟩) (by assumption) ?_
              rotate_left
              · intro w hSw
                obtain ⟨hS1, hS2, hS3⟩ := hSw
                go_simp
                try with_reducible rfl
              simp only [Act.put, List.getElem_toArray, List.getElem_cons_zero, List.getElem_cons_succ, List.setIfInBounds_toArray, List.set_cons_zero, List.set_cons_succ]
              refine wpAnyX_take (i := 12) (v := ?_) rfl (by kernel_rfl) (by kernel_rfl) (by kernel_rfl) (by kernel_rfl) (fun _ _ _ h => h) (Or.inl ⟨by rfl, ?_⟩) (by assumption) ?_
              rotate_left
              · intro w hSw
                obtain ⟨hS1, hS2, hS3⟩ := hSw
                go_simp
                try with_reducible rfl
              simp only [Act.put, List.getElem_toArray, List.getElem_cons_zero, List.getElem_cons_succ, List.setIfInBounds_toArray, List.set_cons_zero, List.set_cons_succ]
              refine wpAnyX_inv (fun listed a wx => ∃ (b3 b4 b8 b9 b13 b14 b15 b16 b17 : Bool) (x7 x8 x9 x81 x82 x86 x87 x91 x92 : Value), listed = #[true, true, true, b3, b4, true, true, true, b8, b9, true, true, true, b13, b14, b15, b16, b17] ∧ FrS x7 x8 x9 (.pointer (some ⟨w.heap.size, 0, none⟩)) (.slice Af m.feet.length cf) (.agg #[.string ⟨#[33]⟩, .slice none 0 0]) x81 x82 (.pointer (some ⟨w.heap.size, 1, none⟩)) (.slice Ae m.ends.length ce) (.agg #[.string ⟨#[33]⟩, .int .i64 0]) x86 x87 (.pointer (some ⟨w.heap.size, 2, none⟩)) (.slice Ab m.brks.length cb) (.agg #[.int .i64 (-9), .int .i64 0]) x91 x92 a ∧ (b15 = true → b4 = true ∧ x7 = x82) ∧ (b16 = true → b9 = true ∧ x8 = x87) ∧ (b17 = true → b14 = true ∧ x9 = x92) ∧ S3 B E w m Af Ae Ab cf ce cb b3 b4 b8 b9 b13 b14 x81 x82 x86 x87 x91 x92 wx) ?hend ?hstep _ _ _ _ (by decide) ⟨false, false, false, false, false, false, false, false, false, undef, undef, undef, undef, undef, undef, undef, undef, undef, rfl, FrS.of _ _ _ _ _ _ _ _ _ _ _ _ _ _ _ _ _ _ _ _ _ _ _ _ _ _ _ _ _ _ _ _ _ _ _ _ _ _ _ _ _ _ _ _ _ _ _ _ _ _ _ _ _ _ _ _ _ _ _ _ _ _ _ _ _ _ _ _ _ _ _ _ _ _ _ _ _ _ _ _ _ _ _ _ _ _ _ _ _ _ _ _ _ _ _ _ _ _ _ _ _ _, (fun h => by cases h), (fun h => by cases h), (fun h => by cases h), hS3.out⟩
              case hstep =>
                intro listed a wx i hI hi
                obtain ⟨b3, b4, b8, b9, b13, b14, b15, b16, b17, x7, x8, x9, x81, x82, x86, x87, x91, x92, rfl, hF, h15, h16, h17, hC⟩ := hI
                have hop := ready_open hi
                have hi18 : i < 18 := by
                  have := (List.getElem?_eq_some_iff.1 hop).1
                  simpa using this
                have hwz := hC.away.size
                obtain ⟨f, rfl⟩ := hF
                rcases below18 i hi18 with rfl | rfl | rfl | rfl | rfl | rfl | rfl | rfl | rfl | rfl | rfl | rfl | rfl | rfl | rfl | rfl | rfl | rfl
                all_goals first | (exfalso; revert hop; clear hi; simp; done) | skip
                · have hb : b3 = false := by simpa using hop
                  subst hb
                  have hC' := hC.buildf
                  refine wpOp_of rfl rfl (opValue (v := .slice (some ⟨wx.heap.size, 0, none⟩) 1 1) (w' := wx.alloc (.cells lcF 81)) (by go_simp; try rfl) ?_)
                  exact ⟨.inr hC'.cells, true, b4, b8, b9, b13, b14, b15, b16, b17, x7, x8, x9, _, x82, x86, x87, x91, x92, rfl, ⟨f, rfl⟩, h15, h16, h17, hC'⟩
                · have hb : b4 = false := by simpa using hop
                  subst hb
                  have hd : b3 = true := ready_dep hi rfl 3 (by kernel_rfl)
                  subst hd
                  obtain ⟨g, eg, hg⟩ := hC.f.lit rfl rfl
                  subst eg
                  obtain ⟨c, hc⟩ := hC.f.pre rfl
                  refine wpOp_of rfl rfl (opAppend (.tmp 79) (.tmp 81) 23 rfl B 81 _ _ 2 40 Tryd.underlying23 info81 zero81 size81 bytes81 rfl (by decide) (.slice Af m.feet.length cf) m.feet.length c rfl hc (some ⟨g, 0, none⟩) 1 1 lcF.toList rfl (fun h => by cases h) rfl (lit_at hg) (by intro u hu; simp [lcF] at hu; rcases hu with rfl | rfl <;> rfl) (by unfold maxLen; omega) (by omega) (by omega) fun v1 w1 ho hg1 hk => ?_)
                  have hC' := hC.appf Ha.out hEw hg1 ho hk
                  exact ⟨.inr hC'.cells, true, true, b8, b9, b13, b14, b15, b16, b17, x7, x8, x9, _, _, x86, x87, x91, x92, rfl, ⟨f, rfl⟩, (fun h => by have := (h15 h).1; cases this), h16, h17, hC'⟩
                · have hb : b8 = false := by simpa using hop
                  subst hb
                  have hC' := hC.builde
                  refine wpOp_of rfl rfl (opValue (v := .slice (some ⟨wx.heap.size, 0, none⟩) 1 1) (w' := wx.alloc (.cells lcE 100)) (by go_simp; try rfl) ?_)
                  exact ⟨.inr hC'.cells, b3, b4, true, b9, b13, b14, b15, b16, b17, x7, x8, x9, x81, x82, _, x87, x91, x92, rfl, ⟨f, rfl⟩, h15, h16, h17, hC'⟩
                · have hb : b9 = false := by simpa using hop
                  subst hb
                  have hd : b8 = true := ready_dep hi rfl 8 (by kernel_rfl)
                  subst hd
                  obtain ⟨g, eg, hg⟩ := hC.e.lit rfl rfl
                  subst eg
                  obtain ⟨c, hc⟩ := hC.e.pre rfl
                  refine wpOp_of rfl rfl (opAppend (.tmp 84) (.tmp 86) 24 rfl B 100 _ _ 2 24 Tryd.underlying24 info100 zero100 size100 bytes100 rfl (by decide) (.slice Ae m.ends.length ce) m.ends.length c rfl hc (some ⟨g, 0, none⟩) 1 1 lcE.toList rfl (fun h => by cases h) rfl (lit_at hg) (by intro u hu; simp [lcE] at hu; rcases hu with rfl | rfl <;> rfl) (by unfold maxLen; omega) (by omega) (by omega) fun v1 w1 ho hg1 hk => ?_)
                  have hC' := hC.appe Ha.out hEw hg1 ho hk
                  exact ⟨.inr hC'.cells, b3, b4, true, true, b13, b14, b15, b16, b17, x7, x8, x9, x81, x82, _, _, x91, x92, rfl, ⟨f, rfl⟩, h15, (fun h => by have := (h16 h).1; cases this), h17, hC'⟩
                · have hb : b13 = false := by simpa using hop
                  subst hb
                  have hC' := hC.buildb
                  refine wpOp_of rfl rfl (opValue (v := .slice (some ⟨wx.heap.size, 0, none⟩) 1 1) (w' := wx.alloc (.cells lcB 98)) (by go_simp; try rfl) ?_)
                  exact ⟨.inr hC'.cells, b3, b4, b8, b9, true, b14, b15, b16, b17, x7, x8, x9, x81, x82, x86, x87, _, x92, rfl, ⟨f, rfl⟩, h15, h16, h17, hC'⟩
                · have hb : b14 = false := by simpa using hop
                  subst hb
                  have hd : b13 = true := ready_dep hi rfl 13 (by kernel_rfl)
                  subst hd
                  obtain ⟨g, eg, hg⟩ := hC.b.lit rfl rfl
                  subst eg
                  obtain ⟨c, hc⟩ := hC.b.pre rfl
                  refine wpOp_of rfl rfl (opAppend (.tmp 89) (.tmp 91) 25 rfl B 98 _ _ 2 16 Tryd.underlying25 info98 zero98 size98 bytes98 rfl (by decide) (.slice Ab m.brks.length cb) m.brks.length c rfl hc (some ⟨g, 0, none⟩) 1 1 lcB.toList rfl (fun h => by cases h) rfl (lit_at hg) (by intro u hu; simp [lcB] at hu; rcases hu with rfl | rfl <;> rfl) (by unfold maxLen; omega) (by omega) (by omega) fun v1 w1 ho hg1 hk => ?_)
                  have hC' := hC.appb Ha.out hEw hg1 ho hk
                  exact ⟨.inr hC'.cells, b3, b4, b8, b9, true, true, b15, b16, b17, x7, x8, x9, x81, x82, x86, x87, _, _, rfl, ⟨f, rfl⟩, h15, h16, (fun h => by have := (h17 h).1; cases this), hC'⟩
                · have hb : b15 = false := by simpa using hop
                  subst hb
                  have hd : b4 = true := ready_dep hi rfl 4 (by kernel_rfl)
                  subst hd
                  have hC' := hC
                  refine wpOp_of rfl rfl (opValue (v := x82) (w' := wx) (by go_simp; try rfl) ?_)
                  exact ⟨.inr hC'.cells, b3, true, b8, b9, b13, b14, true, b16, b17, _, x8, x9, x81, x82, x86, x87, x91, x92, rfl, ⟨f, rfl⟩, (fun _ => ⟨rfl, rfl⟩), h16, h17, hC'⟩
                · have hb : b16 = false := by simpa using hop
                  subst hb
                  have hd : b9 = true := ready_dep hi rfl 9 (by kernel_rfl)
                  subst hd
                  have hC' := hC
                  refine wpOp_of rfl rfl (opValue (v := x87) (w' := wx) (by go_simp; try rfl) ?_)
                  exact ⟨.inr hC'.cells, b3, b4, b8, true, b13, b14, b15, true, b17, x7, _, x9, x81, x82, x86, x87, x91, x92, rfl, ⟨f, rfl⟩, h15, (fun _ => ⟨rfl, rfl⟩), h17, hC'⟩
                · have hb : b17 = false := by simpa using hop
                  subst hb
                  have hd : b14 = true := ready_dep hi rfl 14 (by kernel_rfl)
                  subst hd
                  have hC' := hC
                  refine wpOp_of rfl rfl (opValue (v := x92) (w' := wx) (by go_simp; try rfl) ?_)
                  exact ⟨.inr hC'.cells, b3, b4, b8, b9, b13, true, b15, b16, true, x7, x8, _, x81, x82, x86, x87, x91, x92, rfl, ⟨f, rfl⟩, h15, h16, (fun _ => ⟨rfl, rfl⟩), hC'⟩
              case hend =>
                intro listed a wx hI hre
                obtain ⟨b3, b4, b8, b9, b13, b14, b15, b16, b17, x7, x8, x9, x81, x82, x86, x87, x91, x92, rfl, hF, h15, h16, h17, hC⟩ := hI
                have h3z : b3 = true := not_ready (i := 3) hre rfl (by kernel_rfl)
                subst h3z
                have h4z : b4 = true := not_ready (i := 4) hre rfl (by kernel_rfl)
                subst h4z
                have h8z : b8 = true := not_ready (i := 8) hre rfl (by kernel_rfl)
                subst h8z
                have h9z : b9 = true := not_ready (i := 9) hre rfl (by kernel_rfl)
                subst h9z
                have h13z : b13 = true := not_ready (i := 13) hre rfl (by kernel_rfl)
                subst h13z
                have h14z : b14 = true := not_ready (i := 14) hre rfl (by kernel_rfl)
                subst h14z
                have h15z : b15 = true := not_ready (i := 15) hre rfl (by kernel_rfl)
                subst h15z
                have h16z : b16 = true := not_ready (i := 16) hre rfl (by kernel_rfl)
                subst h16z
                have h17z : b17 = true := not_ready (i := 17) hre rfl (by kernel_rfl)
                subst h17z
                obtain ⟨_, rfl⟩ := h15 rfl
                obtain ⟨_, rfl⟩ := h16 rfl
                obtain ⟨_, rfl⟩ := h17 rfl
                obtain ⟨y1, hy1⟩ := hC.f.post rfl
                obtain ⟨y2, hy2⟩ := hC.e.post rfl
                obtain ⟨y3, hy3⟩ := hC.b.post rfl
                have ne12 := own_ne hy1 hy2 (by decide)
                have ne13 := own_ne hy1 hy3 (by decide)
                have ne23 := own_ne hy2 hy3 (by decide)
                obtain ⟨A1, c1, rfl⟩ := row_slice hy1
                obtain ⟨A2, c2, rfl⟩ := row_slice hy2
                obtain ⟨A3, c3, rfl⟩ := row_slice hy3
                obtain ⟨g1, rfl⟩ := own_addr hy1 (by omega)
                obtain ⟨g2, rfl⟩ := own_addr hy2 (by omega)
                obtain ⟨g3, rfl⟩ := own_addr hy3 (by omega)
                have p1 := hC.pf rfl g1 rfl
                have p2 := hC.pe rfl g2 rfl
                have p3 := hC.pb rfl g3 rfl
                have q1 := (hy1.lt g1 rfl).1
                have q2 := (hy2.lt g2 rfl).1
                have q3 := (hy3.lt g3 rfl).1
                obtain ⟨⟨u1, hu1⟩, _, hz1, _, _⟩ := row_cells hy1 (i := 0) (by omega)
                obtain ⟨⟨u2, hu2⟩, _, hz2, _, _⟩ := row_cells hy2 (i := 0) (by omega)
                obtain ⟨⟨u3, hu3⟩, _, hz3, _, _⟩ := row_cells hy3 (i := 0) (by omega)
                simp only [Nat.zero_mul] at hu1 hz1 hu2 hz2 hu3 hz3
                have n12 : g1 ≠ g2 := by rintro rfl; rcases ne12 with h | h <;> simp [Value.ownBlock] at h
                have n13 : g1 ≠ g3 := by rintro rfl; rcases ne13 with h | h <;> simp [Value.ownBlock] at h
                have n23 : g2 ≠ g3 := by rintro rfl; rcases ne23 with h | h <;> simp [Value.ownBlock] at h
                have haw := Lib.hid hC.away
                have kd1 := Lib.hid (row_kind hy1 (g := g1) rfl (by decide))
                have kd2 := Lib.hid (row_kind hy2 (g := g2) rfl (by decide))
                have kd3 := Lib.hid (row_kind hy3 (g := g3) rfl (by decide))
                obtain ⟨f, rfl⟩ := hF
                clear hre hHeld hC hy1 hy2 hy3 h15 h16 h17 ne12 ne13 ne23 m0 m1 m2
                go_wp2_with fail
                go_end0
                have kx2 : ∀ u, ∃ c e, (wx.setCell ⟨g1, 0, none⟩ u).heap[g2]? = some (.cells c e (0, 0)) ∧ e ≠ 27 := fun u => by
                  obtain ⟨c, e, h1, h2⟩ := kd2.out; exact ⟨c, e, (Below.heap_setCell _ _ _ _ (Ne.symm n12)).trans h1, h2⟩
                have kx3 : ∀ u u', ∃ c e, ((wx.setCell ⟨g1, 0, none⟩ u).setCell ⟨g2, 0, none⟩ u').heap[g3]? = some (.cells c e (0, 0)) ∧ e ≠ 27 := fun u u' => by
                  obtain ⟨c, e, h1, h2⟩ := kd3.out; exact ⟨c, e, (Below.heap_setCell _ _ _ _ (Ne.symm n23)).trans ((Below.heap_setCell _ _ _ _ (Ne.symm n13)).trans h1), h2⟩
                exact ⟨⟨_, rfl⟩, ((haw.out.set q1 p1 kd1.out _).set q2 p2 (kx2 _) _).set q3 p3 (kx3 _ _) _⟩
end Go.Proofs.YtkfkkoefpfmjkaaDoor

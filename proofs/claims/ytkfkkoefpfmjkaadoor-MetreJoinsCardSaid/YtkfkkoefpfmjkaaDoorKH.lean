import Derived.Test.YtkfkkoefpfmjkaaDoorKK
namespace Go.Proofs.YtkfkkoefpfmjkaaDoor
set_option linter.unusedVariables false
set_option linter.unusedSimpArgs false
open Go.RowKit

theorem row_none {W : World} {B e z n c : Nat} {A : Option Addr} {x : List Value} (h : W.ownsRow B e z (.slice A n c) n x) (hA : A = none) : n = 0 := by
  rcases h.2 with ⟨_, h2⟩ | ⟨g, cap, cur, h1, _⟩
  · exact h2
  · rw [hA] at h1; cases h1
theorem row_at {W : World} {B e z n c : Nat} {A : Option Addr} {x : List Value} (h : W.ownsRow B e z (.slice A n c) n x) : ∀ ad, A = some ad → ∀ j u, x[j]? = some u → W.cell? (ad.add j) = some u := by
  intro ad hA j u hu
  rcases h.2 with ⟨h1, _⟩ | ⟨g, cap, cur, h1, _⟩
  · rw [hA] at h1; cases h1
  · rw [hA] at h1; cases h1; subst hA; exact h.cells (g := g) rfl j u hu
/-- the frame in the drawn region of two copies -/
def FrR29 (y2 y3 y4 y5 x6 x7 xa x1 xb x3 : Value) (a : Act) : Prop := ∃ f : Nat → Value, a = { tmps := #[f 0, f 1, y2, y3, y4, y5, x6, x7, f 8, f 9, f 10, f 11, f 12, f 13, f 14, f 15, f 16, f 17, f 18, f 19, xa, x1, xb, x3, f 24, f 25, f 26, f 27, f 28, f 29, f 30, f 31, f 32, f 33, f 34, f 35, f 36, f 37, f 38, f 39, f 40, f 41, f 42, f 43, f 44, f 45, f 46, f 47, f 48, f 49, f 50, f 51, f 52, f 53, f 54, f 55, f 56], defers := [] }
theorem FrR29.of (v0 v1 v2 v3 v4 v5 v6 v7 v8 v9 v10 v11 v12 v13 v14 v15 v16 v17 v18 v19 v20 v21 v22 v23 v24 v25 v26 v27 v28 v29 v30 v31 v32 v33 v34 v35 v36 v37 v38 v39 v40 v41 v42 v43 v44 v45 v46 v47 v48 v49 v50 v51 v52 v53 v54 v55 v56 : Value) : FrR29 v2 v3 v4 v5 v6 v7 v20 v21 v22 v23 { tmps := #[v0, v1, v2, v3, v4, v5, v6, v7, v8, v9, v10, v11, v12, v13, v14, v15, v16, v17, v18, v19, v20, v21, v22, v23, v24, v25, v26, v27, v28, v29, v30, v31, v32, v33, v34, v35, v36, v37, v38, v39, v40, v41, v42, v43, v44, v45, v46, v47, v48, v49, v50, v51, v52, v53, v54, v55, v56], defers := [] } := ⟨fun i => (#[v0, v1, v2, v3, v4, v5, v6, v7, v8, v9, v10, v11, v12, v13, v14, v15, v16, v17, v18, v19, v20, v21, v22, v23, v24, v25, v26, v27, v28, v29, v30, v31, v32, v33, v34, v35, v36, v37, v38, v39, v40, v41, v42, v43, v44, v45, v46, v47, v48, v49, v50, v51, v52, v53, v54, v55, v56]).getD i undef, rfl⟩
theorem below8 (i : Nat) (h : i < 8) : i = 0 ∨ i = 1 ∨ i = 2 ∨ i = 3 ∨ i = 4 ∨ i = 5 ∨ i = 6 ∨ i = 7 := by omega
/-- the frame in the second drawn region -/
def FrQ29 (y2 y3 y4 y5 y6 y7 x8 x24 x25 x26 x27 x28 x29 x30 x31 x32 x33 : Value) (a : Act) : Prop := ∃ f : Nat → Value, a = { tmps := #[f 0, f 1, y2, y3, y4, y5, y6, y7, x8, f 9, f 10, f 11, f 12, f 13, f 14, f 15, f 16, f 17, f 18, f 19, f 20, f 21, f 22, f 23, x24, x25, x26, x27, x28, x29, x30, x31, x32, x33, f 34, f 35, f 36, f 37, f 38, f 39, f 40, f 41, f 42, f 43, f 44, f 45, f 46, f 47, f 48, f 49, f 50, f 51, f 52, f 53, f 54, f 55, f 56], defers := [] }
theorem FrQ29.of (v0 v1 v2 v3 v4 v5 v6 v7 v8 v9 v10 v11 v12 v13 v14 v15 v16 v17 v18 v19 v20 v21 v22 v23 v24 v25 v26 v27 v28 v29 v30 v31 v32 v33 v34 v35 v36 v37 v38 v39 v40 v41 v42 v43 v44 v45 v46 v47 v48 v49 v50 v51 v52 v53 v54 v55 v56 : Value) : FrQ29 v2 v3 v4 v5 v6 v7 v8 v24 v25 v26 v27 v28 v29 v30 v31 v32 v33 { tmps := #[v0, v1, v2, v3, v4, v5, v6, v7, v8, v9, v10, v11, v12, v13, v14, v15, v16, v17, v18, v19, v20, v21, v22, v23, v24, v25, v26, v27, v28, v29, v30, v31, v32, v33, v34, v35, v36, v37, v38, v39, v40, v41, v42, v43, v44, v45, v46, v47, v48, v49, v50, v51, v52, v53, v54, v55, v56], defers := [] } := ⟨fun i => (#[v0, v1, v2, v3, v4, v5, v6, v7, v8, v9, v10, v11, v12, v13, v14, v15, v16, v17, v18, v19, v20, v21, v22, v23, v24, v25, v26, v27, v28, v29, v30, v31, v32, v33, v34, v35, v36, v37, v38, v39, v40, v41, v42, v43, v44, v45, v46, v47, v48, v49, v50, v51, v52, v53, v54, v55, v56]).getD i undef, rfl⟩
theorem below12 (i : Nat) (h : i < 12) : i = 0 ∨ i = 1 ∨ i = 2 ∨ i = 3 ∨ i = 4 ∨ i = 5 ∨ i = 6 ∨ i = 7 ∨ i = 8 ∨ i = 9 ∨ i = 10 ∨ i = 11 := by omega
def RefJoinOk (m n : Met) (w : World) (e : Ending) (w' : World) : Prop := Below w.heap.size w w' ∧
  if 16 < m.feet.length + n.feet.length then e = .returned (.tuple #[.agg #[.slice none 0 0, .slice none 0 0, .slice none 0 0], .bool false])
  else ∃ vf ve vb vs, e = .returned (.tuple #[.agg #[vf, ve, vb], .bool true]) ∧ OM w' w.heap.size (joinP m n) vf ve vb vs
theorem refjoin_ret {W : World} {T : Array Value} {Q : Ending → World → Prop} {P : Nat} {v0 v1 v2 b : Value} (h4 : T.getD 4 undef = .pointer (some ⟨P, 0, none⟩)) (h5 : T.getD 5 undef = b)
    (r : W.heap[P]? = some (.cells #[v0, v1, v2] 27 (0, 0))) (hQ : Q (.returned (.tuple #[.agg #[v0, v1, v2], b])) W) : bodyPost Tryd.prog Tryd.f29 Q Exit.ret { tmps := T, defers := [] } W := by
  have d0 : W.cell? ⟨P, 0, none⟩ = some v0 := cell_of_row _ _ _ _ 27 (0, 0) r
  have d1 : W.cell? ⟨P, 1, none⟩ = some v1 := cell_of_row _ _ _ _ 27 (0, 0) r
  have d2 : W.cell? ⟨P, 2, none⟩ = some v2 := cell_of_row _ _ _ _ 27 (0, 0) r
  have h4' : T[4]?.getD undef = .pointer (some ⟨P, 0, none⟩) := by simpa using h4
  have h5' : T[5]?.getD undef = b := by simpa using h5
  refine bodyPost_ret (v := .tuple #[.agg #[v0, v1, v2], b]) ?_ rfl hQ
  simp [results, Tryd.f29, go_sem, h4', h5', d0, d1, d2, Tryd.isAgg27, Tryd.sizeOf27]
set_option maxRecDepth 100000 in
set_option maxHeartbeats 8000000 in
theorem refjoin_any (Af Ae Ab : Option Addr) (cf ce cb : Nat) (m : Met) (Bf Be Bb : Option Addr) (df de db : Nat) (n : Met) (w : World) (him : IsMet w w.heap.size Af Ae Ab cf ce cb m) (hin : IsMet w w.heap.size Bf Be Bb df de db n)
    (hrm : MetReach m) (hrn : MetReach n) (hlm : Slim m) (hln : Slim n) (l1 : m.feet.length ≤ 16) (l2 : n.feet.length ≤ 16) :
    Calls Tryd.prog 29 #[.agg #[.slice Af m.feet.length cf, .slice Ae m.ends.length ce, .slice Ab m.brks.length cb], .agg #[.slice Bf n.feet.length df, .slice Be n.ends.length de, .slice Bb n.brks.length db]] w (RefJoinOk m n w) := by
  generalize hW1 : ((w.alloc (.cells #[.slice Af m.feet.length cf, .slice Ae m.ends.length ce, .slice Ab m.brks.length cb] 27)).alloc (.cells #[.slice Bf n.feet.length df, .slice Be n.ends.length de, .slice Bb n.brks.length db] 27)).alloc (.cells #[.slice none 0 0, .slice none 0 0, .slice none 0 0] 27) = W1
  have sW1 : W1.heap.size = w.heap.size + 3 := by rw [← hW1]; simp
  have hB1 : Below w.heap.size w W1 := by rw [← hW1]; exact (((Below.refl _ _).alloc (Nat.le_refl _) _).alloc (by simp) _).alloc (by simp; omega) _
  have hx1 : W1.heap[w.heap.size]? = some (.cells #[.slice Af m.feet.length cf, .slice Ae m.ends.length ce, .slice Ab m.brks.length cb] 27 (0, 0)) := by
    rw [← hW1]; exact (Below.heap_alloc _ _ _ (by simp; omega)).trans ((Below.heap_alloc _ _ _ (by simp)).trans (World.alloc_heap_new w _))
  have hx2 : W1.heap[w.heap.size + 1]? = some (.cells #[.slice Bf n.feet.length df, .slice Be n.ends.length de, .slice Bb n.brks.length db] 27 (0, 0)) := by
    rw [← hW1]
    have := World.alloc_heap_new (w.alloc (.cells #[.slice Af m.feet.length cf, .slice Ae m.ends.length ce, .slice Ab m.brks.length cb] 27)) (.cells #[.slice Bf n.feet.length df, .slice Be n.ends.length de, .slice Bb n.brks.length db] 27)
    rw [World.size_alloc] at this
    exact (Below.heap_alloc _ _ _ (by simp)).trans this
  have hx3 : W1.heap[w.heap.size + 2]? = some (.cells #[.slice none 0 0, .slice none 0 0, .slice none 0 0] 27 (0, 0)) := by
    rw [← hW1]
    have := World.alloc_heap_new ((w.alloc (.cells #[.slice Af m.feet.length cf, .slice Ae m.ends.length ce, .slice Ab m.brks.length cb] 27)).alloc (.cells #[.slice Bf n.feet.length df, .slice Be n.ends.length de, .slice Bb n.brks.length db] 27)) (.cells #[.slice none 0 0, .slice none 0 0, .slice none 0 0] 27)
    rw [World.size_alloc, World.size_alloc] at this
    exact this
  have Hkeep := Lib.hid fun (W2 : World) (hb2 : Below W1.heap.size W1 W2) =>
    And.intro (And.intro (cell_of_row _ _ 0 _ 27 (0, 0) ((hb2.block w.heap.size (by omega)).trans hx1)) (And.intro (cell_of_row _ _ 1 _ 27 (0, 0) ((hb2.block w.heap.size (by omega)).trans hx1)) (cell_of_row _ _ 2 _ 27 (0, 0) ((hb2.block w.heap.size (by omega)).trans hx1))))
      (And.intro (cell_of_row _ _ 0 _ 27 (0, 0) ((hb2.block (w.heap.size + 1) (by omega)).trans hx2)) (And.intro (cell_of_row _ _ 1 _ 27 (0, 0) ((hb2.block (w.heap.size + 1) (by omega)).trans hx2)) (cell_of_row _ _ 2 _ 27 (0, 0) ((hb2.block (w.heap.size + 1) (by omega)).trans hx2))))
  have Hres := Lib.hid fun (W2 : World) (hb2 : Below W1.heap.size W1 W2) => (hb2.block (w.heap.size + 2) (by omega)).trans hx3
  have Hnext := Lib.hid fun (W2 W3 : World) (hb2 : Below W1.heap.size W1 W2) (hb3 : Below W2.heap.size W2 W3) => hb2.trans (hb3.mono hb2.size)
  have HB1 := Lib.hid hB1
  have HW1 := Lib.hid hW1
  have Hsz := Lib.hid sW1
  have hwB : Below w.heap.size w W1 := hB1
  have HM := Lib.hid fun (W2 : World) (hb2 : Below W1.heap.size W1 W2) => him.on (hB1.trans (hb2.mono (by omega)))
  have HN := Lib.hid fun (W2 : World) (hb2 : Below W1.heap.size W1 W2) => hin.on (hB1.trans (hb2.mono (by omega)))
  have Hlm := Lib.hid hlm
  have Hln := Lib.hid hln
  have Hcm := Lib.hid fun (W2 : World) (hb2 : Below W1.heap.size W1 W2) => copy_any Af Ae Ab cf ce cb m W2 (HM.out W2 hb2) hrm
  have Hcn := Lib.hid fun (W2 : World) (hb2 : Below W1.heap.size W1 W2) => copy_any Bf Be Bb df de db n W2 (HN.out W2 hb2) hrn
  clear him hin hW1 hB1 hx1 hx2 hx3 sW1 hwB hrm hrn hlm hln
  go_enter Tryd.func29, Tryd.ntmps29
  obtain ⟨⟨m0, m1, m2⟩, n0, n1, n2⟩ := Hkeep.out _ (Below.refl _ _)
  have hadd : wrap64 ((m.feet.length : Int) + (n.feet.length : Int)) = (m.feet.length : Int) + (n.feet.length : Int) := by unfold wrap64; omega
  by_cases hlong : 16 < m.feet.length + n.feet.length
  · have hgt : (16 : Int) < (m.feet.length : Int) + (n.feet.length : Int) := by omega
    have hres := Hres.out _ (Below.refl _ _)
    have r0 := cell_of_row _ _ 0 _ 27 (0, 0) hres
    have r1 := cell_of_row _ _ 1 _ 27 (0, 0) hres
    have r2 := cell_of_row _ _ 2 _ 27 (0, 0) hres
    have z0 := frozen_of_row _ _ 0 _ 27 hres
    have z1 := frozen_of_row _ _ 1 _ 27 hres
    have z2 := frozen_of_row _ _ 2 _ 27 hres
    have hres' := Lib.hid hres
    rw [← HW1.out] at m0 m1 m2 n0 n1 n2 r0 r1 r2 z0 z1 z2
    clear hres
    go_wp2_with fail
    rw [HW1.out]
    refine refjoin_ret (P := w.heap.size + 2) (b := .bool false) rfl rfl hres'.out ⟨HB1.out, ?_⟩
    rw [if_pos hlong]
  · have hle : ¬ (16 : Int) < (m.feet.length : Int) + (n.feet.length : Int) := by omega
    rw [← HW1.out] at m0 m1 m2 n0 n1 n2
    go_wp2_with fail
    rw [HW1.out]
    obtain ⟨⟨m0, m1, m2⟩, n0, n1, n2⟩ := Hkeep.out _ (Below.refl _ _)
    refine wp_region_X (S := fun w' => w'.cell? ⟨w.heap.size, 0, none⟩ = some (.slice Af m.feet.length cf) ∧ w'.cell? ⟨w.heap.size, 1, none⟩ = some (.slice Ae m.ends.length ce) ∧ w'.cell? ⟨w.heap.size, 2, none⟩ = some (.slice Ab m.brks.length cb) ∧ w'.cell? ⟨w.heap.size + 1, 0, none⟩ = some (.slice Bf n.feet.length df) ∧ w'.cell? ⟨w.heap.size + 1, 1, none⟩ = some (.slice Be n.ends.length de) ∧ w'.cell? ⟨w.heap.size + 1, 2, none⟩ = some (.slice Bb n.brks.length db)) (X := fun x => [].contains x) (by kernel_rfl) ?_
    have hHeld : W1.drew.cell? ⟨w.heap.size, 0, none⟩ = some (.slice Af m.feet.length cf) ∧ W1.drew.cell? ⟨w.heap.size, 1, none⟩ = some (.slice Ae m.ends.length ce) ∧ W1.drew.cell? ⟨w.heap.size, 2, none⟩ = some (.slice Ab m.brks.length cb) ∧ W1.drew.cell? ⟨w.heap.size + 1, 0, none⟩ = some (.slice Bf n.feet.length df) ∧ W1.drew.cell? ⟨w.heap.size + 1, 1, none⟩ = some (.slice Be n.ends.length de) ∧ W1.drew.cell? ⟨w.heap.size + 1, 2, none⟩ = some (.slice Bb n.brks.length db) := ⟨m0, m1, m2, n0, n1, n2⟩
    refine wpAnyX_take (i := 0) (v := ?_) rfl (by kernel_rfl) (by kernel_rfl) (by kernel_rfl) (by kernel_rfl) (fun _ _ _ h => h) (Or.inl ⟨by rfl, ?_⟩) (by assumption) ?_
    rotate_left
    · intro w hSw
      obtain ⟨hS1, hS2, hS3, hS4, hS5, hS6⟩ := hSw
      go_simp
      try with_reducible rfl
    simp only [Act.put, List.getElem_toArray, List.getElem_cons_zero, List.getElem_cons_succ, List.setIfInBounds_toArray, List.set_cons_zero, List.set_cons_succ]
    refine wpAnyX_take (i := 2) (v := ?_) rfl (by kernel_rfl) (by kernel_rfl) (by kernel_rfl) (by kernel_rfl) (fun _ _ _ h => h) (Or.inl ⟨by rfl, ?_⟩) (by assumption) ?_
    rotate_left
    · intro w hSw
      obtain ⟨hS1, hS2, hS3, hS4, hS5, hS6⟩ := hSw
      go_simp
      try with_reducible rfl
    simp only [Act.put, List.getElem_toArray, List.getElem_cons_zero, List.getElem_cons_succ, List.setIfInBounds_toArray, List.set_cons_zero, List.set_cons_succ]
    refine wpAnyX_inv (fun listed a wx => ∃ (D : Nat) (b1 b3 b4 b5 b6 b7 : Bool) (x1 x3 x6 x7 : Value), listed = #[true, b1, true, b3, b4, b5, b6, b7] ∧ FrR29 (.pointer (some ⟨w.heap.size, 0, none⟩)) (.pointer (some ⟨w.heap.size + 1, 0, none⟩)) (.pointer (some ⟨w.heap.size + 1 + 1, 0, none⟩)) (.bool false) x6 x7 (.agg #[.slice Af m.feet.length cf, .slice Ae m.ends.length ce, .slice Ab m.brks.length cb]) x1 (.agg #[.slice Bf n.feet.length df, .slice Be n.ends.length de, .slice Bb n.brks.length db]) x3 a ∧ (b6 = true → b1 = true ∧ b4 = true) ∧ (b7 = true → b3 = true ∧ b5 = true) ∧ Cy W1.heap.size D m n b1 b3 b4 b5 b6 b7 x1 x3 x6 x7 W1 wx) ?hend ?hstep _ _ _ _ (by decide) ⟨0, false, false, false, false, false, false, undef, undef, undef, undef, rfl, FrR29.of _ _ _ _ _ _ _ _ _ _ _ _ _ _ _ _ _ _ _ _ _ _ _ _ _ _ _ _ _ _ _ _ _ _ _ _ _ _ _ _ _ _ _ _ _ _ _ _ _ _ _ _ _ _ _ _ _, (fun h => by cases h), (fun h => by cases h), Cy.start rfl⟩
    case hstep =>
      intro listed a wx i hI hi
      obtain ⟨D, b1, b3, b4, b5, b6, b7, x1, x3, x6, x7, rfl, hF, h6, h7, hC⟩ := hI
      have hop := ready_open hi
      have hi8 : i < 8 := by
        have := (List.getElem?_eq_some_iff.1 hop).1
        simpa using this
      obtain ⟨f, rfl⟩ := hF
      have hSx : ∀ wy : World, Below W1.heap.size W1 wy → wy.cell? ⟨w.heap.size, 0, none⟩ = some (.slice Af m.feet.length cf) ∧ wy.cell? ⟨w.heap.size, 1, none⟩ = some (.slice Ae m.ends.length ce) ∧ wy.cell? ⟨w.heap.size, 2, none⟩ = some (.slice Ab m.brks.length cb) ∧ wy.cell? ⟨w.heap.size + 1, 0, none⟩ = some (.slice Bf n.feet.length df) ∧ wy.cell? ⟨w.heap.size + 1, 1, none⟩ = some (.slice Be n.ends.length de) ∧ wy.cell? ⟨w.heap.size + 1, 2, none⟩ = some (.slice Bb n.brks.length db) := fun wy hb => by obtain ⟨⟨a0, a1, a2⟩, c0, c1, c2⟩ := Hkeep.out _ hb; exact ⟨a0, a1, a2, c0, c1, c2⟩
      rcases below8 i hi8 with rfl | rfl | rfl | rfl | rfl | rfl | rfl | rfl
      all_goals first | (exfalso; revert hop; clear hi; simp; done) | skip
      · have hb : b1 = false := by simpa using hop
        subst hb
        have hn6 : b6 = false := by
          cases h : b6 with
          | false => rfl
          | true => have := (h6 h).1; cases this
        subst hn6
        refine wpOp_of rfl rfl (opCall (f := 22) (args := #[(.agg #[.slice Af m.feet.length cf, .slice Ae m.ends.length ce, .slice Ab m.brks.length cb])]) (by go_simp; try rfl) ((Hcm.out wx hC.bl).mono ?_))
        rintro e w' ⟨vf, ve, vb, vs, rfl, ho, hb⟩
        have hC' := hC.s1 rfl hb ho
        refine ⟨_, rfl, ?_⟩
        exact ⟨.inr (hSx _ hC'.bl), D, true, b3, b4, b5, false, b7, _, x3, x6, x7, rfl, ⟨f, rfl⟩, (fun h => by cases h), h7, hC'⟩
      · have hb : b3 = false := by simpa using hop
        subst hb
        have hd1 : b1 = true := ready_dep hi rfl 1 (by kernel_rfl)
        subst hd1
        have hn7 : b7 = false := by
          cases h : b7 with
          | false => rfl
          | true => have := (h7 h).1; cases this
        subst hn7
        refine wpOp_of rfl rfl (opCall (f := 22) (args := #[(.agg #[.slice Bf n.feet.length df, .slice Be n.ends.length de, .slice Bb n.brks.length db])]) (by go_simp; try rfl) ((Hcn.out wx hC.bl).mono ?_))
        rintro e w' ⟨vf, ve, vb, vs, rfl, ho, hb⟩
        have hC' := hC.s3 rfl hb ho
        refine ⟨_, rfl, ?_⟩
        exact ⟨.inr (hSx _ hC'.bl), _, true, true, b4, b5, b6, false, x1, _, x6, x7, rfl, ⟨f, rfl⟩, h6, (fun h => by cases h), hC'⟩
      · have hb : b4 = false := by simpa using hop
        subst hb
        have hn6 : b6 = false := by
          cases h : b6 with
          | false => rfl
          | true => have := (h6 h).2; cases this
        subst hn6
        have hC' := hC.s4
        refine wpOp_of rfl rfl (opValue (v := .pointer (some ⟨wx.heap.size, 0, none⟩)) (w' := wx.alloc (.cells #[.slice none 0 0, .slice none 0 0, .slice none 0 0] 27)) (by go_simp; try rfl) ?_)
        exact ⟨.inr (hSx _ hC'.bl), D, b1, b3, true, b5, false, b7, x1, x3, _, x7, rfl, ⟨f, rfl⟩, (fun h => by cases h), h7, hC'⟩
      · have hb : b5 = false := by simpa using hop
        subst hb
        have hn7 : b7 = false := by
          cases h : b7 with
          | false => rfl
          | true => have := (h7 h).2; cases this
        subst hn7
        have hC' := hC.s5
        refine wpOp_of rfl rfl (opValue (v := .pointer (some ⟨wx.heap.size, 0, none⟩)) (w' := wx.alloc (.cells #[.slice none 0 0, .slice none 0 0, .slice none 0 0] 27)) (by go_simp; try rfl) ?_)
        exact ⟨.inr (hSx _ hC'.bl), D, b1, b3, b4, true, b6, false, x1, x3, x6, _, rfl, ⟨f, rfl⟩, h6, (fun h => by cases h), hC'⟩
      · have hb : b6 = false := by simpa using hop
        subst hb
        have hd1 : b1 = true := ready_dep hi rfl 1 (by kernel_rfl)
        subst hd1
        have hd4 : b4 = true := ready_dep hi rfl 4 (by kernel_rfl)
        subst hd4
        obtain ⟨p, y0, y1, y2, v0, v1, v2, e6, hq, e1, ⟨A0, k0, d0, r0⟩, ⟨A1, k1, d1, r1⟩, ⟨A2, k2, d2, r2⟩, hC'⟩ := hC.s6
        subst e6; subst e1; subst r0; subst r1; subst r2
        have c0 : wx.cell? ⟨p, 0, none⟩ = some y0 := cell_of_row _ _ 0 _ 27 (0, 0) hq
        have c1' : wx.cell? ⟨p, 1, none⟩ = some y1 := cell_of_row _ _ 1 _ 27 (0, 0) hq
        have c2' : wx.cell? ⟨p, 2, none⟩ = some y2 := cell_of_row _ _ 2 _ 27 (0, 0) hq
        have f0 : wx.frozen? ⟨p, 0, none⟩ = false := frozen_of_row _ _ 0 _ 27 hq
        have f1 : wx.frozen? ⟨p, 1, none⟩ = false := frozen_of_row _ _ 1 _ 27 hq
        have f2 : wx.frozen? ⟨p, 2, none⟩ = false := frozen_of_row _ _ 2 _ 27 hq
        refine wpOp_of rfl rfl (opSkip (w' := ((wx.setCell ⟨p, 0, none⟩ (.slice A0 k0 d0)).setCell ⟨p, 1, none⟩ (.slice A1 k1 d1)).setCell ⟨p, 2, none⟩ (.slice A2 k2 d2)) (by go_simp; try rfl) ?_)
        exact ⟨.inr (hSx _ hC'.bl), D, true, b3, true, b5, true, b7, _, x3, _, x7, rfl, ⟨f, rfl⟩, (fun _ => ⟨rfl, rfl⟩), h7, hC'⟩
      · have hb : b7 = false := by simpa using hop
        subst hb
        have hd3 : b3 = true := ready_dep hi rfl 3 (by kernel_rfl)
        subst hd3
        have hd5 : b5 = true := ready_dep hi rfl 5 (by kernel_rfl)
        subst hd5
        obtain ⟨p, y0, y1, y2, v0, v1, v2, e6, hq, e1, ⟨A0, k0, d0, r0⟩, ⟨A1, k1, d1, r1⟩, ⟨A2, k2, d2, r2⟩, hC'⟩ := hC.s7
        subst e6; subst e1; subst r0; subst r1; subst r2
        have c0 : wx.cell? ⟨p, 0, none⟩ = some y0 := cell_of_row _ _ 0 _ 27 (0, 0) hq
        have c1' : wx.cell? ⟨p, 1, none⟩ = some y1 := cell_of_row _ _ 1 _ 27 (0, 0) hq
        have c2' : wx.cell? ⟨p, 2, none⟩ = some y2 := cell_of_row _ _ 2 _ 27 (0, 0) hq
        have f0 : wx.frozen? ⟨p, 0, none⟩ = false := frozen_of_row _ _ 0 _ 27 hq
        have f1 : wx.frozen? ⟨p, 1, none⟩ = false := frozen_of_row _ _ 1 _ 27 hq
        have f2 : wx.frozen? ⟨p, 2, none⟩ = false := frozen_of_row _ _ 2 _ 27 hq
        refine wpOp_of rfl rfl (opSkip (w' := ((wx.setCell ⟨p, 0, none⟩ (.slice A0 k0 d0)).setCell ⟨p, 1, none⟩ (.slice A1 k1 d1)).setCell ⟨p, 2, none⟩ (.slice A2 k2 d2)) (by go_simp; try rfl) ?_)
        exact ⟨.inr (hSx _ hC'.bl), D, b1, true, b4, true, b6, true, x1, _, x6, _, rfl, ⟨f, rfl⟩, h6, (fun _ => ⟨rfl, rfl⟩), hC'⟩
    case hend =>
      intro listed a wx hI hre
      obtain ⟨D, b1, b3, b4, b5, b6, b7, x1, x3, x6, x7, rfl, hF, h6, h7, hC⟩ := hI
      have h1z : b1 = true := not_ready (i := 1) hre rfl (by kernel_rfl)
      subst h1z
      have h3z : b3 = true := not_ready (i := 3) hre rfl (by kernel_rfl)
      subst h3z
      have h4z : b4 = true := not_ready (i := 4) hre rfl (by kernel_rfl)
      subst h4z
      have h5z : b5 = true := not_ready (i := 5) hre rfl (by kernel_rfl)
      subst h5z
      have h6z : b6 = true := not_ready (i := 6) hre rfl (by kernel_rfl)
      subst h6z
      have h7z : b7 = true := not_ready (i := 7) hre rfl (by kernel_rfl)
      subst h7z
      obtain ⟨vf, ve, vb, vs, ex1, hx, hahead⟩ := hC.c1 rfl
      obtain ⟨_, hCD, hDW, wf, we, wb, us, ex3, hy⟩ := hC.c3 rfl
      obtain ⟨p6, e6, hp6, z0, z1, z2, hb6, hz6⟩ := hC.a4 rfl
      obtain ⟨p7, e7, hp7, y0, y1, y2, hb7, hz7⟩ := hC.a5 rfl
      have e1 := ex1.symm.trans (hz6 rfl)
      have e3 := ex3.symm.trans (hz7 rfl)
      simp only [Value.agg.injEq, Array.mk.injEq, List.cons.injEq, and_true] at e1 e3
      obtain ⟨rfl, rfl, rfl⟩ := e1
      obtain ⟨rfl, rfl, rfl⟩ := e3
      have hah := hahead rfl
      clear hahead
      have hpq : p6 ≠ p7 := by rintro rfl; exact hC.ne rfl rfl (e6.trans e7.symm)
      subst e6; subst e7; subst ex1; subst ex3
      obtain ⟨f, rfl⟩ := hF
      have hbl := hC.bl
      have hC5 := hC.sz
      clear hC hre h6 h7 hz6 hz7
      obtain ⟨Xf, gf, r1⟩ := row_slice hx.feet
      obtain ⟨Xe, ge, r2⟩ := row_slice hx.ends
      obtain ⟨Xb, gb, r3⟩ := row_slice hx.brks
      obtain ⟨Yf, kf, r4⟩ := row_slice hy.feet
      obtain ⟨Ye, ke, r5⟩ := row_slice hy.ends
      obtain ⟨Yb, kb, r6⟩ := row_slice hy.brks
      subst r1; subst r2; subst r3; subst r4; subst r5; subst r6
      go_wp2_with fail
      have s0 : wx.cell? ⟨p6, 0, none⟩ = some (.slice Xf m.feet.length gf) := cell_of_row _ _ 0 _ 27 (0, 0) hb6
      have s2 : wx.cell? ⟨p6, 2, none⟩ = some (.slice Xb m.brks.length gb) := cell_of_row _ _ 2 _ 27 (0, 0) hb6
      have t0 : wx.cell? ⟨p7, 0, none⟩ = some (.slice Yf n.feet.length kf) := cell_of_row _ _ 0 _ 27 (0, 0) hb7
      have t1 : wx.cell? ⟨p7, 1, none⟩ = some (.slice Ye n.ends.length ke) := cell_of_row _ _ 1 _ 27 (0, 0) hb7
      refine wp_region_X (S := fun w' => w'.cell? ⟨p6, 0, none⟩ = some (.slice Xf m.feet.length gf) ∧ w'.cell? ⟨p6, 2, none⟩ = some (.slice Xb m.brks.length gb) ∧ w'.cell? ⟨p7, 0, none⟩ = some (.slice Yf n.feet.length kf) ∧ w'.cell? ⟨p7, 1, none⟩ = some (.slice Ye n.ends.length ke)) (X := fun x => [].contains x) (by kernel_rfl) ?_
      have hHeld2 : wx.drew.cell? ⟨p6, 0, none⟩ = some (.slice Xf m.feet.length gf) ∧ wx.drew.cell? ⟨p6, 2, none⟩ = some (.slice Xb m.brks.length gb) ∧ wx.drew.cell? ⟨p7, 0, none⟩ = some (.slice Yf n.feet.length kf) ∧ wx.drew.cell? ⟨p7, 1, none⟩ = some (.slice Ye n.ends.length ke) := ⟨s0, s2, t0, t1⟩
      refine wpAnyX_take (i := 0) (v := ?_) rfl (by kernel_rfl) (by kernel_rfl) (by kernel_rfl) (by kernel_rfl) (fun _ _ _ h => h) (Or.inl ⟨by rfl, ?_⟩) (by assumption) ?_
      rotate_left
      · intro w hSw
        obtain ⟨hS1, hS2, hS3, hS4⟩ := hSw
        go_simp
        try with_reducible rfl
      simp only [Act.put, List.getElem_toArray, List.getElem_cons_zero, List.getElem_cons_succ, List.setIfInBounds_toArray, List.set_cons_zero, List.set_cons_succ]
      refine wpAnyX_take (i := 1) (v := ?_) rfl (by kernel_rfl) (by kernel_rfl) (by kernel_rfl) (by kernel_rfl) (fun _ _ _ h => h) (Or.inl ⟨by rfl, ?_⟩) (by assumption) ?_
      rotate_left
      · intro w hSw
        obtain ⟨hS1, hS2, hS3, hS4⟩ := hSw
        go_simp
        try with_reducible rfl
      simp only [Act.put, List.getElem_toArray, List.getElem_cons_zero, List.getElem_cons_succ, List.setIfInBounds_toArray, List.set_cons_zero, List.set_cons_succ]
      refine wpAnyX_take (i := 2) (v := ?_) rfl (by kernel_rfl) (by kernel_rfl) (by kernel_rfl) (by kernel_rfl) (fun _ _ _ h => h) (Or.inl ⟨by rfl, ?_⟩) (by assumption) ?_
      rotate_left
      · intro w hSw
        obtain ⟨hS1, hS2, hS3, hS4⟩ := hSw
        go_simp
        try with_reducible rfl
      simp only [Act.put, List.getElem_toArray, List.getElem_cons_zero, List.getElem_cons_succ, List.setIfInBounds_toArray, List.set_cons_zero, List.set_cons_succ]
      refine wpAnyX_take (i := 3) (v := ?_) rfl (by kernel_rfl) (by kernel_rfl) (by kernel_rfl) (by kernel_rfl) (fun _ _ _ h => h) (Or.inl ⟨by rfl, ?_⟩) (by assumption) ?_
      rotate_left
      · intro w hSw
        obtain ⟨hS1, hS2, hS3, hS4⟩ := hSw
        go_simp
        try with_reducible rfl
      simp only [Act.put, List.getElem_toArray, List.getElem_cons_zero, List.getElem_cons_succ, List.setIfInBounds_toArray, List.set_cons_zero, List.set_cons_succ]
      refine wpAnyX_take (i := 5) (v := ?_) rfl (by kernel_rfl) (by kernel_rfl) (by kernel_rfl) (by kernel_rfl) (fun _ _ _ h => h) (Or.inl ⟨by rfl, ?_⟩) (by assumption) ?_
      rotate_left
      · intro w hSw
        obtain ⟨hS1, hS2, hS3, hS4⟩ := hSw
        go_simp
        try with_reducible rfl
      simp only [Act.put, List.getElem_toArray, List.getElem_cons_zero, List.getElem_cons_succ, List.setIfInBounds_toArray, List.set_cons_zero, List.set_cons_succ]
      refine wpAnyX_take (i := 6) (v := ?_) rfl (by kernel_rfl) (by kernel_rfl) (by kernel_rfl) (by kernel_rfl) (fun _ _ _ h => h) (Or.inl ⟨by rfl, ?_⟩) (by assumption) ?_
      rotate_left
      · intro w hSw
        obtain ⟨hS1, hS2, hS3, hS4⟩ := hSw
        go_simp
        try with_reducible rfl
      simp only [Act.put, List.getElem_toArray, List.getElem_cons_zero, List.getElem_cons_succ, List.setIfInBounds_toArray, List.set_cons_zero, List.set_cons_succ]
      refine wpAnyX_take (i := 7) (v := ?_) rfl (by kernel_rfl) (by kernel_rfl) (by kernel_rfl) (by kernel_rfl) (fun _ _ _ h => h) (Or.inl ⟨by rfl, ?_⟩) (by assumption) ?_
      rotate_left
      · intro w hSw
        obtain ⟨hS1, hS2, hS3, hS4⟩ := hSw
        go_simp
        try with_reducible rfl
      simp only [Act.put, List.getElem_toArray, List.getElem_cons_zero, List.getElem_cons_succ, List.setIfInBounds_toArray, List.set_cons_zero, List.set_cons_succ]
      refine wpAnyX_take (i := 8) (v := ?_) rfl (by kernel_rfl) (by kernel_rfl) (by kernel_rfl) (by kernel_rfl) (fun _ _ _ h => h) (Or.inl ⟨by rfl, ?_⟩) (by assumption) ?_
      rotate_left
      · intro w hSw
        obtain ⟨hS1, hS2, hS3, hS4⟩ := hSw
        go_simp
        try with_reducible rfl
      simp only [Act.put, List.getElem_toArray, List.getElem_cons_zero, List.getElem_cons_succ, List.setIfInBounds_toArray, List.set_cons_zero, List.set_cons_succ]
      refine wpAnyX_inv (fun listed a wy => ∃ (b4 b9 b10 b11 : Bool) (x28 x33 x8 : Value), listed = #[true, true, true, true, b4, true, true, true, true, b9, b10, b11] ∧ FrQ29 (.pointer (some ⟨w.heap.size, 0, none⟩)) (.pointer (some ⟨w.heap.size + 1, 0, none⟩)) (.pointer (some ⟨w.heap.size + 1 + 1, 0, none⟩)) (.bool false) (.pointer (some ⟨p6, 0, none⟩)) (.pointer (some ⟨p7, 0, none⟩)) x8 (.pointer (some ⟨p6, 0, none⟩)) (.slice Xf m.feet.length gf) (.pointer (some ⟨p7, 0, none⟩)) (.slice Yf n.feet.length kf) x28 (.pointer (some ⟨p7, 1, none⟩)) (.slice Ye n.ends.length ke) (.pointer (some ⟨p6, 2, none⟩)) (.slice Xb m.brks.length gb) x33 a ∧ (b11 = true → b4 = true ∧ b9 = true ∧ b10 = true) ∧ Jq W1.heap.size p6 p7 m n (.slice Xf m.feet.length gf) (.slice Xe m.ends.length ge) (.slice Xb m.brks.length gb) (.slice Yf n.feet.length kf) (.slice Ye n.ends.length ke) (.slice Yb n.brks.length kb) vs us b4 b9 b10 b11 x28 x33 x8 W1 wx wy) ?hend2 ?hstep2 _ _ _ _ (by decide) ⟨false, false, false, false, _, _, _, rfl, FrQ29.of _ _ _ _ _ _ _ _ _ _ _ _ _ _ _ _ _ _ _ _ _ _ _ _ _ _ _ _ _ _ _ _ _ _ _ _ _ _ _ _ _ _ _ _ _ _ _ _ _ _ _ _ _ _ _ _ _, (fun h => by cases h), Jq.start hbl hC5 hb6 hb7⟩
      case hstep2 =>
        intro listed a wy i hI hi
        obtain ⟨b4, b9, b10, b11, x28, x33, x8, rfl, hF, h11, hQ⟩ := hI
        have hop := ready_open hi
        have hi12 : i < 12 := by
          have := (List.getElem?_eq_some_iff.1 hop).1
          simpa using this
        obtain ⟨f, rfl⟩ := hF
        have hSx : ∀ {b4 b9 b10 b11 : Bool} {x28 x33 x8 : Value} {wy : World}, Jq W1.heap.size p6 p7 m n (.slice Xf m.feet.length gf) (.slice Xe m.ends.length ge) (.slice Xb m.brks.length gb) (.slice Yf n.feet.length kf) (.slice Ye n.ends.length ke) (.slice Yb n.brks.length kb) vs us b4 b9 b10 b11 x28 x33 x8 W1 wx wy → wy.cell? ⟨p6, 0, none⟩ = some (.slice Xf m.feet.length gf) ∧ wy.cell? ⟨p6, 2, none⟩ = some (.slice Xb m.brks.length gb) ∧ wy.cell? ⟨p7, 0, none⟩ = some (.slice Yf n.feet.length kf) ∧ wy.cell? ⟨p7, 1, none⟩ = some (.slice Ye n.ends.length ke) := fun h => ⟨cell_of_row _ _ 0 _ 27 (0, 0) h.bx6, cell_of_row _ _ 2 _ 27 (0, 0) h.bx6, cell_of_row _ _ 0 _ 27 (0, 0) h.bx7, cell_of_row _ _ 1 _ 27 (0, 0) h.bx7⟩
        rcases below12 i hi12 with rfl | rfl | rfl | rfl | rfl | rfl | rfl | rfl | rfl | rfl | rfl | rfl
        all_goals first | (exfalso; revert hop; clear hi; simp; done) | skip
        · have hb : b4 = false := by simpa using hop
          subst hb
          have hn11 : b11 = false := by
            cases h : b11 with
            | false => rfl
            | true => have := h11 h; simp at this
          subst hn11
          have hxy := hx.below (hQ.pre rfl)
          have hyy := hy.below (hQ.pre rfl)
          refine wpOp_of rfl rfl (opAppend (.tmp 25) (.tmp 27) 23 rfl W1.heap.size 81 _ _ 2 40 Tryd.underlying23 info81 zero81 size81 bytes81 rfl (by decide) (.slice Xf m.feet.length gf) m.feet.length _ rfl hxy.feet Yf n.feet.length kf (ftCells n.feet us) rfl (fun e => row_none hyy.feet e) hyy.feet.1 (row_at hyy.feet) hyy.ones (by unfold maxLen; omega) (by omega) hQ.sz fun v1 w1 ho hg1 _ => ?_)
          have hQ' := hQ.s4 hx hy hCD hg1 ho
          exact ⟨.inr (hSx hQ'), true, b9, b10, false, _, x33, x8, rfl, ⟨f, rfl⟩, (fun h => by cases h), hQ'⟩
        · have hb : b9 = false := by simpa using hop
          subst hb
          have hd4 : b4 = true := ready_dep hi rfl 4 (by kernel_rfl)
          subst hd4
          have hn11 : b11 = false := by
            cases h : b11 with
            | false => rfl
            | true => have := h11 h; simp at this
          subst hn11
          obtain ⟨A1, c1, e1⟩ := row_slice (hQ.post rfl).feet
          subst e1
          have hQ' := hQ.s9
          refine wpOp_of rfl rfl (opValue (v := .agg #[.slice A1 (m.feet ++ n.feet).length c1, .slice Ye n.ends.length ke, .slice Xb m.brks.length gb]) (w' := wy) (by go_simp; try rfl) ?_)
          exact ⟨.inr (hSx hQ'), true, true, b10, false, _, _, x8, rfl, ⟨f, rfl⟩, (fun h => by cases h), hQ'⟩
        · have hb : b10 = false := by simpa using hop
          subst hb
          have hn11 : b11 = false := by
            cases h : b11 with
            | false => rfl
            | true => have := h11 h; simp at this
          subst hn11
          have hQ' := hQ.s10
          refine wpOp_of rfl rfl (opValue (v := .pointer (some ⟨wy.heap.size, 0, none⟩)) (w' := wy.alloc (.cells #[.slice none 0 0, .slice none 0 0, .slice none 0 0] 27)) (by go_simp; try rfl) ?_)
          exact ⟨.inr (hSx hQ'), b4, b9, true, false, x28, x33, _, rfl, ⟨f, rfl⟩, (fun h => by cases h), hQ'⟩
        · have hb : b11 = false := by simpa using hop
          subst hb
          have hd4 : b4 = true := ready_dep hi rfl 4 (by kernel_rfl)
          have hd9 : b9 = true := ready_dep hi rfl 9 (by kernel_rfl)
          have hd10 : b10 = true := ready_dep hi rfl 10 (by kernel_rfl)
          subst hd4; subst hd9; subst hd10
          obtain ⟨_, e33⟩ := hQ.bd rfl
          subst e33
          obtain ⟨A1, c1, e1⟩ := row_slice (hQ.post rfl).feet
          subst e1
          obtain ⟨p, y0, y1, y2, e8, hq, hQ'⟩ := hQ.s11
          subst e8
          have c0 : wy.cell? ⟨p, 0, none⟩ = some y0 := cell_of_row _ _ 0 _ 27 (0, 0) hq
          have c1' : wy.cell? ⟨p, 1, none⟩ = some y1 := cell_of_row _ _ 1 _ 27 (0, 0) hq
          have c2' : wy.cell? ⟨p, 2, none⟩ = some y2 := cell_of_row _ _ 2 _ 27 (0, 0) hq
          have f0 : wy.frozen? ⟨p, 0, none⟩ = false := frozen_of_row _ _ 0 _ 27 hq
          have f1 : wy.frozen? ⟨p, 1, none⟩ = false := frozen_of_row _ _ 1 _ 27 hq
          have f2 : wy.frozen? ⟨p, 2, none⟩ = false := frozen_of_row _ _ 2 _ 27 hq
          refine wpOp_of rfl rfl (opSkip (w' := ((wy.setCell ⟨p, 0, none⟩ (.slice A1 (m.feet ++ n.feet).length c1)).setCell ⟨p, 1, none⟩ (.slice Ye n.ends.length ke)).setCell ⟨p, 2, none⟩ (.slice Xb m.brks.length gb)) (by go_simp; try rfl) ?_)
          exact ⟨.inr (hSx hQ'), true, true, true, true, _, _, _, rfl, ⟨f, rfl⟩, (fun _ => ⟨rfl, rfl, rfl⟩), hQ'⟩
      case hend2 =>
        intro listed a wy hI hre
        obtain ⟨b4, b9, b10, b11, x28, x33, x8, rfl, hF, h11, hQ⟩ := hI
        have h4z : b4 = true := not_ready (i := 4) hre rfl (by kernel_rfl)
        subst h4z
        have h9z : b9 = true := not_ready (i := 9) hre rfl (by kernel_rfl)
        subst h9z
        have h10z : b10 = true := not_ready (i := 10) hre rfl (by kernel_rfl)
        subst h10z
        have h11z : b11 = true := not_ready (i := 11) hre rfl (by kernel_rfl)
        subst h11z
        obtain ⟨p, e8, hpC, _, _, y0, y1, y2, hbox, hy3⟩ := hQ.al rfl
        obtain ⟨rfl, rfl, rfl⟩ := hy3 rfl
        subst e8
        have hjr := hQ.post rfl
        have hap := join_apart hx hah hy
        obtain ⟨A1, c1, e1⟩ := row_slice hjr.feet
        rw [List.length_append] at e1
        subst e1
        obtain ⟨f, rfl⟩ := hF
        have hl : (vs ++ us).length = (m.feet ++ n.feet).length := by rw [List.length_append, hx.vl, hy.vl, List.length_append]
        have HJb := Lib.hid (hjr.jb hQ.bl hQ.sz hpC hbox hl hap (brkAdd m.feet.length n.brks))
        have Hmo : Hid (Mo W1.heap.size n.brks (.slice Yb n.brks.length kb) (.slice Xb m.brks.length gb) wy) := Lib.hid ⟨hjr.more, by
          cases hw : (Value.slice Yb n.brks.length kb).ownBlock with
          | none => exact .inl rfl
          | some g => exact .inr fun e => by have := (hy.brks.lt g hw).1; have := hah.brks g e.symm; omega⟩
        have y2c : wy.cell? ⟨p7, 2, none⟩ = some (.slice Yb n.brks.length kb) := cell_of_row _ _ 2 _ 27 (0, 0) hQ.bx7
        clear hre h11 hy3 hQ hHeld hHeld2 s0 s2 t0 t1 hjr hap hl hx hy hah hbl hb6 hb7 hbox hCD hDW
        go_wp2_with fail
        have l3 := Hlm.out.len
        have l4 := Hln.out.len
        clear y2c
        go_loopw [37] (fun a wr => ∃ (j : Nat) (x42 : Value), j ≤ n.brks.length ∧ a = .int .i64 j ∧ Hid (Jb W1.heap.size W1 (m.feet ++ n.feet) n.ends m.brks (brkAdd m.feet.length n.brks) p (.slice A1 (m.feet.length + n.feet.length) c1) (.slice Ye n.ends.length ke) (vs ++ us) j x42 wr) ∧ Hid (Mo W1.heap.size n.brks (.slice Yb n.brks.length kb) x42 wr)) (fun a _ => n.brks.length - (RowKit.intOf a).toNat)
        case atStart => exact ⟨0, _, by omega, rfl, HJb, Hmo⟩
        case round =>
          clear HJb Hmo
          obtain ⟨w5, rfl⟩ : ∃ w5 : World, w5 = wr := ⟨_, rfl⟩
          obtain ⟨j, x42, hj, rfl, hJ, hM⟩ := hrel
          obtain ⟨⟨m0, m1, m2⟩, n0, n1, n2⟩ := Hkeep.out _ hJ.out.bl
          have k0 := cell_of_row _ _ 0 _ 27 (0, 0) hJ.out.box
          have k1 := cell_of_row _ _ 1 _ 27 (0, 0) hJ.out.box
          have k2 := cell_of_row _ _ 2 _ 27 (0, 0) hJ.out.box
          obtain ⟨A5, c5, rfl⟩ := row_slice hJ.out.brks
          by_cases hjl : j < n.brks.length
          · have hrow := hM.out.1
            obtain ⟨g2, rfl⟩ := own_addr hrow (by omega)
            obtain ⟨e1, e2⟩ := brkCells_get n.brks j hjl
            have hc1 := (hrow.cellAt (j * 2) (by omega)).trans e1
            have hc2 := (hrow.cellAt (j * 2 + 1) (by omega)).trans e2
            obtain ⟨q1, q2, q3, q4⟩ := Hln.out.at_ j hjl
            have hat := brkAdd_at m.feet.length n.brks j hjl
            generalize (n.brks.getD j default) = kk at hc1 hc2 q1 q2 q3 q4 hat
            obtain ⟨ka, kb⟩ := kk
            simp only [] at hc1 hc2 q1 q2 q3 q4 hat
            have hsum : wrap64 (ka + (m.feet.length : Int)) = ka + (m.feet.length : Int) := by unfold wrap64; omega
            have j1 : (0 : Int) ≤ (j : Int) := by omega
            have j2 : (j : Int) < (n.brks.length : Int) := by omega
            have Hat := Lib.hid hat
            have hs3 := hJ.out.bl.size
            have hs1 := Hsz.out
            have hlt0 : w.heap.size < w5.heap.size := by omega
            have hlt1 : p < w5.heap.size := lt_of_heap hJ.out.box
            clear hrow e1 e2 hat
            go_wp2_with (at_builtin; refine Hid.out ?_)
            refine Lib.hid ?_
            have hb6 : Below w5.heap.size w5 (w5.alloc (.cells #[.int .i64 ka, .int .i64 kb] 98)) := (Below.refl _ w5).alloc (Nat.le_refl _) _
            refine wpList_append_lit (w5.alloc (.cells #[.int .i64 ka, .int .i64 kb] 98)) rfl _ _ 25 rfl W1.heap.size 98 _ _ 2 16 Tryd.underlying25 info98 zero98 size98 bytes98 rfl (by decide) (.slice A5 (m.brks.length + j) c5) (m.brks.length + j) _ 1 #[.int .i64 (ka + (m.feet.length : Int)), .int .i64 kb] (w5.heap.size + 1) rfl rfl (by simp) (hJ.out.brks.alloc _) rfl (by intro u hu; simp at hu; rcases hu with rfl | rfl <;> rfl) (by unfold maxLen; omega) (by omega) (by simp; have := hJ.out.sz; omega) ?_
            intro v9 w9 ho9 hg9 hk9
            obtain ⟨A9, c9, rfl⟩ := row_slice ho9
            have hbox9 := hJ.out.box9 hb6 hg9
            have Hst := Lib.hid (hJ.out.step (by rw [brkAdd_len]; exact hjl) hb6 hg9 (by rw [Hat.out]; exact ho9))
            have Hsm := Lib.hid (hM.out.step hb6 hg9 hk9 hbox9 (.slice A9 (m.brks.length + j + 1) c9) 2)
            have q2' := cell_of_row _ _ 2 _ 27 (0, 0) hbox9
            have qz := frozen_of_row _ _ 2 _ 27 hbox9
            clear hb6 hbox9 ho9 hg9 hk9 k0 k1 k2 m0 m1 m2 n0 n1 n2 hc1 hc2 hJ hM Hat
            go_wp2_with fail
            go_roundw
            case rel => exact ⟨j + 1, _, by omega, by go_num, Hst, Hsm⟩
            case measure => simp [RowKit.intOf]; omega
          · obtain rfl : j = n.brks.length := by omega
            have hres := Hres.out _ hJ.out.bl
            have r0 := cell_of_row _ _ 0 _ 27 (0, 0) hres
            have r1 := cell_of_row _ _ 1 _ 27 (0, 0) hres
            have r2 := cell_of_row _ _ 2 _ 27 (0, 0) hres
            have z0 := frozen_of_row _ _ 0 _ 27 hres
            have z1 := frozen_of_row _ _ 1 _ 27 hres
            have z2 := frozen_of_row _ _ 2 _ 27 hres
            have Hrs := Lib.hid hres
            clear hres m0 m1 m2 n0 n1 n2
            go_wp2_with fail
            have hom := (hJ.out.om).base (B2 := w.heap.size) (by have := Hsz.out; omega)
            have hbw := HB1.out.trans (hJ.out.bl.mono (by have := Hsz.out; omega))
            have hq1 := heap_setCell_same w5 (w.heap.size + 2) 0 _ 27 (.slice A1 (m.feet.length + n.feet.length) c1) Hrs.out
            have hq2 := heap_setCell_same _ (w.heap.size + 2) 1 _ 27 (.slice Ye n.ends.length ke) hq1
            refine refjoin_ret (P := w.heap.size + 2) (b := .bool true) rfl rfl (three27 Hrs.out _ _ _) ⟨((hbw.setCell (p := ⟨w.heap.size + 2, 0, none⟩) (by show w.heap.size ≤ w.heap.size + 2; omega) _).setCell (p := ⟨w.heap.size + 2, 1, none⟩) (by show w.heap.size ≤ w.heap.size + 2; omega) _).setCell (p := ⟨w.heap.size + 2, 2, none⟩) (by show w.heap.size ≤ w.heap.size + 2; omega) _, ?_⟩
            rw [if_neg hlong]
            exact ⟨_, _, _, _, rfl, ((hom.putBox Hrs.out 0 _).putBox hq1 1 _).putBox hq2 2 _⟩
end Go.Proofs.YtkfkkoefpfmjkaaDoor

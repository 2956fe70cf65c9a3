import Derived.Test.YtgcdopafblcbhaaGreatDoorVM
import Derived.Laws.ResultCell
/- The reference's phone 'a'. -/
namespace Go.Proofs.YtgcdopafblcbhaaGreatDoor
set_option linter.unusedVariables false
set_option linter.unusedSimpArgs false
open Go.RowKit Go.Lib Go.Shelf
attribute [local go_sem] Oper.semAt_some

theorem results_row_tmp {P : Program} {fn : Func} {p u : Tmp} {ty : TypeId} (h : fn.results = #[.cell p ty, .tmp u]) (tmps : Array Value) (w : World) (g : Nat) (t : TypeId) (cs : Array Value) (fr : Nat × Nat) (d : TypeDesc)
    (hp : tmps.getD p undef = .pointer (some ⟨g, 0, none⟩)) (hg : w.heap[g]? = some (.cells cs t fr))
    (hu : P.underlying ty = some d) (hd : (match d with | .struct _ | .array _ _ => true | _ => false) = true) (hi : (P.info? ty).map (·.size) = some cs.size) :
    (results fn tmps).run P w = .ok (.tuple #[.agg cs, tmps.getD u undef]) w := by
  rw [results_cell_tmp h, hp]
  simp [asAddr, run_loadVar_row w g t ty cs fr d hg hu hd hi, Result.andThen]
set_option maxHeartbeats 4000000 in
theorem put7 {V : World} {u : Nat} {a0 a1 a2 a3 a4 a5 a6 : Value} {t : TypeId} (h : V.heap[u]? = some (.cells #[a0, a1, a2, a3, a4, a5, a6] t (0, 0))) (v0 v1 v2 v3 v4 v5 v6 : Value) :
    (((((((V.setCell ⟨u, 0, none⟩ v0).setCell ⟨u, 1, none⟩ v1).setCell ⟨u, 2, none⟩ v2).setCell ⟨u, 3, none⟩ v3).setCell ⟨u, 4, none⟩ v4).setCell ⟨u, 5, none⟩ v5).setCell ⟨u, 6, none⟩ v6).heap[u]? = some (.cells #[v0, v1, v2, v3, v4, v5, v6] t (0, 0)) :=
  heap_setCell_same _ _ 6 _ _ v6 (heap_setCell_same _ _ 5 _ _ v5 (heap_setCell_same _ _ 4 _ _ v4 (heap_setCell_same _ _ 3 _ _ v3 (heap_setCell_same _ _ 2 _ _ v2 (heap_setCell_same _ _ 1 _ _ v1 (heap_setCell_same _ _ 0 _ _ v0 h))))))
theorem low7 {B : Nat} {w V : World} (h : Below B w V) {u : Nat} (hu : B ≤ u) (v0 v1 v2 v3 v4 v5 v6 : Value) : Below B w (((((((V.setCell ⟨u, 0, none⟩ v0).setCell ⟨u, 1, none⟩ v1).setCell ⟨u, 2, none⟩ v2).setCell ⟨u, 3, none⟩ v3).setCell ⟨u, 4, none⟩ v4).setCell ⟨u, 5, none⟩ v5).setCell ⟨u, 6, none⟩ v6) :=
  ((((((h.setCell hu _).setCell hu _).setCell hu _).setCell hu _).setCell hu _).setCell hu _).setCell hu _
/-- a vowel's traits -/
def VowT (v : Value) : Prop := ∃ (h b : Int) (ro : Bool) (p m : Int) (vo : Bool), v = .agg #[.bool true, .int .i64 h, .int .i64 b, .bool ro, .int .i64 p, .int .i64 m, .bool vo]
set_option maxRecDepth 100000 in
set_option maxHeartbeats 8000000 in
theorem of_a (w : World) : Calls Tryz.prog 125 #[.int .i32 97] w fun e w' => (∃ v, VowT v ∧ e = .returned (.tuple #[v, .bool true])) ∧ Below w.heap.size w w' := by
  obtain ⟨W1, hW1⟩ : ∃ W1, w.alloc (.cells #[.bool false, .int .i64 0, .int .i64 0, .bool false, .int .i64 0, .int .i64 0, .bool false] 202) = W1 := ⟨_, rfl⟩
  have hb1 : Below w.heap.size w W1 := by rw [← hW1]; exact (Below.refl _ _).alloc (Nat.le_refl _) _
  have hx1 : W1.heap[w.heap.size]? = some (.cells #[.bool false, .int .i64 0, .int .i64 0, .bool false, .int .i64 0, .int .i64 0, .bool false] 202 (0, 0)) := by rw [← hW1]; exact World.alloc_heap_new w _
  have Hr := Lib.hid (rows_any W1)
  have HW1 := Lib.hid hW1
  have Hx1 := Lib.hid hx1
  have Hb1 := Lib.hid hb1
  clear hW1 hx1 hb1
  go_enter Tryz.func125, Tryz.ntmps125
  go_upto_region 1 with (fail)
  rw [HW1.out]
  go_wp2_with fail
  refine Hr.out.mono ?_
  rintro e w2 ⟨⟨v, rfl, g, R, rfl, hG, hR⟩, hb2⟩
  have Hx2 := Lib.hid (keptB Hx1.out hb2)
  have Hb2 := Lib.hid (Hb1.out.trans (hb2.mono Hb1.out.size))
  have HG := Lib.hid (And.intro hG hR)
  clear hb2 hG hR Hr
  go_wp2_with fail
  go_loopw [5] (fun t5 wr => ∃ i : Nat, i ≤ 38 ∧ t5 = .int .i64 i ∧ Hid (∀ j, j < i → (R.getD j nilR).r ≠ 97) ∧ w2 = wr) (fun t5 _ => 38 - (intOf t5).toNat)
  case atStart => exact ⟨0, by omega, rfl, Lib.hid (fun j hj => by omega), rfl⟩
  case round =>
    obtain ⟨i, hi, rfl, hno, rfl⟩ := hrel
    by_cases hlt : i < 38
    · obtain ⟨hG, hR⟩ := HG.out
      have c0 := rw_rune hR i hlt
      by_cases h97 : (R.getD i nilR).r = 97
      · have hv := hG.v i hlt h97
        have c1 := rw_cell hR i hlt 1 (by omega)
        have c2 : w2.cell? ⟨g, i * 8 + 1 + 1, none⟩ = _ := rw_cell hR i hlt 2 (by omega)
        have c3 : w2.cell? ⟨g, i * 8 + 1 + 2, none⟩ = _ := rw_cell hR i hlt 3 (by omega)
        have c4 : w2.cell? ⟨g, i * 8 + 1 + 3, none⟩ = _ := rw_cell hR i hlt 4 (by omega)
        have c5 : w2.cell? ⟨g, i * 8 + 1 + 4, none⟩ = _ := rw_cell hR i hlt 5 (by omega)
        have c6 : w2.cell? ⟨g, i * 8 + 1 + 5, none⟩ = _ := rw_cell hR i hlt 6 (by omega)
        have c7 : w2.cell? ⟨g, i * 8 + 1 + 6, none⟩ = _ := rw_cell hR i hlt 7 (by omega)
        generalize R.getD i nilR = x at *
        simp only [RowV.cells, List.getElem?_cons_zero, List.getElem?_cons_succ] at c1 c2 c3 c4 c5 c6 c7
        rw [h97] at c0
        rw [hv] at c1
        have d0 := cell_of_row _ _ 0 _ _ (0, 0) Hx2.out
        have d1 := cell_of_row _ _ 1 _ _ (0, 0) Hx2.out
        have d2 := cell_of_row _ _ 2 _ _ (0, 0) Hx2.out
        have d3 := cell_of_row _ _ 3 _ _ (0, 0) Hx2.out
        have d4 := cell_of_row _ _ 4 _ _ (0, 0) Hx2.out
        have d5 := cell_of_row _ _ 5 _ _ (0, 0) Hx2.out
        have d6 := cell_of_row _ _ 6 _ _ (0, 0) Hx2.out
        simp only [List.getElem?_toArray, List.getElem?_cons_zero, List.getElem?_cons_succ] at d0 d1 d2 d3 d4 d5 d6
        have z0 := frozen_of_row _ w.heap.size 0 _ _ Hx2.out
        have z1 := frozen_of_row _ w.heap.size 1 _ _ Hx2.out
        have z2 := frozen_of_row _ w.heap.size 2 _ _ Hx2.out
        have z3 := frozen_of_row _ w.heap.size 3 _ _ Hx2.out
        have z4 := frozen_of_row _ w.heap.size 4 _ _ Hx2.out
        have z5 := frozen_of_row _ w.heap.size 5 _ _ Hx2.out
        have z6 := frozen_of_row _ w.heap.size 6 _ _ Hx2.out
        clear hG hR h97 hv
        go_wp2_with fail
        refine bodyPost_ret (results_row_tmp rfl _ _ w.heap.size 202 #[.bool true, .int .i64 x.h, .int .i64 x.b, .bool x.ro, .int .i64 x.p, .int .i64 x.m, .bool x.vo] (0, 0) _ rfl (put7 Hx2.out _ _ _ _ _ _ _) Tryz.underlying202 (by rfl) (by kernel_rfl)) rfl ?_
        exact ⟨⟨_, ⟨_, _, _, _, _, _, rfl⟩, rfl⟩, low7 Hb2.out (Nat.le_refl _) _ _ _ _ _ _ _⟩
      · have H97 := Lib.hid h97
        obtain ⟨r, hr⟩ : ∃ r, (R.getD i nilR).r = r := ⟨_, rfl⟩
        rw [hr] at c0 h97
        have q1 : (r == 97) = false := by simpa using h97
        clear hr
        clear hG hR h97
        go_wp2_with fail
        go_roundw
        case rel => exact ⟨i + 1, by omega, by go_num, Lib.hid (fun j hj => by
          by_cases e : j = i
          · rw [e]; exact H97.out
          · exact hno.out j (by omega)), by first | rfl | trivial⟩
        case measure => simp [intOf]; omega
    · obtain ⟨j, hj, hr⟩ := HG.out.1.a
      exact absurd hr (hno.out j (by omega))
/-- the phone 'a' as a value -/
def phA : Value := .agg #[.int .i32 97, .bool false, .int .i32 0]
set_option maxRecDepth 100000 in
set_option maxHeartbeats 8000000 in
theorem is_a (w : World) : Calls Tryz.prog 124 #[phA] w fun e w' => e = .returned (.bool true) ∧ Below w.heap.size w w' := by
  obtain ⟨W1, hW1⟩ : ∃ W1, w.alloc (.cells #[.int .i32 97, .bool false, .int .i32 0] 58) = W1 := ⟨_, rfl⟩
  have hb1 : Below w.heap.size w W1 := by rw [← hW1]; exact (Below.refl _ _).alloc (Nat.le_refl _) _
  have hx1 : W1.heap[w.heap.size]? = some (.cells #[.int .i32 97, .bool false, .int .i32 0] 58 (0, 0)) := by rw [← hW1]; exact World.alloc_heap_new w _
  have c0 : W1.cell? ⟨w.heap.size, 0, none⟩ = some (.int .i32 97) := cell_of_row _ _ 0 _ _ (0, 0) hx1
  have Ho := Lib.hid (of_a W1)
  have HW1 := Lib.hid hW1
  have Hx1 := Lib.hid hx1
  have Hb1 := Lib.hid hb1
  clear hW1 hx1 hb1
  unfold phA
  go_enter Tryz.func124, Tryz.ntmps124
  go_upto_region 1 with (fail)
  rw [HW1.out]
  go_wp2_with fail
  refine Ho.out.mono ?_
  rintro e w2 ⟨⟨v, ⟨h, b, ro, p, m, vo, rfl⟩, rfl⟩, hb2⟩
  have hx2 := keptB Hx1.out hb2
  obtain ⟨W3, hW3⟩ : ∃ W3, w2.alloc (.cells #[.bool true, .int .i64 h, .int .i64 b, .bool ro, .int .i64 p, .int .i64 m, .bool vo] 202) = W3 := ⟨_, rfl⟩
  have hb0 := Hb1.out.trans (hb2.mono Hb1.out.size)
  have hb3 : Below w.heap.size w W3 := by rw [← hW3]; exact hb0.alloc hb0.size _
  have c2 : W3.cell? ⟨w.heap.size, 2, none⟩ = some (.int .i32 0) := by rw [← hW3]; exact cell_of_row _ _ 2 _ _ (0, 0) (al_at hx2 _)
  have HW3 := Lib.hid hW3
  have Hb3 := Lib.hid hb3
  clear hx2 hW3 hb3 hb2 c0 hb0
  go_upto_region 2 with (fail)
  rw [HW3.out]
  go_wp2_with fail
  go_ret
  exact ⟨rfl, Hb3.out⟩
set_option maxRecDepth 100000 in
set_option maxHeartbeats 8000000 in
theorem vow_a (w : World) : Calls Tryz.prog 76 #[phA] w fun e w' => e = .returned (.bool true) ∧ Below w.heap.size w w' := by
  obtain ⟨W1, hW1⟩ : ∃ W1, w.alloc (.cells #[.int .i32 97, .bool false, .int .i32 0] 58) = W1 := ⟨_, rfl⟩
  have hb1 : Below w.heap.size w W1 := by rw [← hW1]; exact (Below.refl _ _).alloc (Nat.le_refl _) _
  have hx1 : W1.heap[w.heap.size]? = some (.cells #[.int .i32 97, .bool false, .int .i32 0] 58 (0, 0)) := by rw [← hW1]; exact World.alloc_heap_new w _
  have c0 : W1.cell? ⟨w.heap.size, 0, none⟩ = some (.int .i32 97) := cell_of_row _ _ 0 _ _ (0, 0) hx1
  have Ho := Lib.hid (of_a W1)
  have HW1 := Lib.hid hW1
  have Hb1 := Lib.hid hb1
  clear hW1 hx1 hb1
  unfold phA
  go_enter Tryz.func76, Tryz.ntmps76
  go_upto_region 1 with (fail)
  rw [HW1.out]
  go_wp2_with fail
  refine Ho.out.mono ?_
  rintro e w2 ⟨⟨v, ⟨h, b, ro, p, m, vo, rfl⟩, rfl⟩, hb2⟩
  obtain ⟨W3, hW3⟩ : ∃ W3, w2.alloc (.cells #[.bool true, .int .i64 h, .int .i64 b, .bool ro, .int .i64 p, .int .i64 m, .bool vo] 202) = W3 := ⟨_, rfl⟩
  have hb0 := Hb1.out.trans (hb2.mono Hb1.out.size)
  have hb3 : Below w.heap.size w W3 := by rw [← hW3]; exact hb0.alloc hb0.size _
  have c3 : W3.cell? ⟨w2.heap.size, 0, none⟩ = some (.bool true) := by rw [← hW3]; exact cell_of_row _ _ 0 _ _ (0, 0) (World.alloc_heap_new w2 _)
  have HW3 := Lib.hid hW3
  have Hb3 := Lib.hid hb3
  clear hW3 hb3 hb2 c0 hb0
  go_upto_region 2 with (fail)
  rw [HW3.out]
  go_wp2_with fail
  go_ret
  exact ⟨rfl, Hb3.out⟩
/-- a row of one phone, 'a' -/
structure RowA (G : Nat) (w : World) : Prop where
  c : w.heap[G]? = some (.cells #[.int .i32 97, .bool false, .int .i32 0] 58 (0, 0))
theorem RowA.below {G : Nat} {w w' : World} (h : RowA G w) (hb : Below w.heap.size w w') : RowA G w' := ⟨keptB h.c hb⟩
set_option maxRecDepth 100000 in
set_option maxHeartbeats 8000000 in
theorem all_a (G : Nat) (w : World) (h : RowA G w) : Calls Tryz.prog 75 #[.slice (some ⟨G, 0, none⟩) 1 1] w fun e w' => e = .returned (.bool true) ∧ Below w.heap.size w w' := by
  have c0 : w.cell? ⟨G, 0, none⟩ = some (.int .i32 97) := cell_of_row _ _ 0 _ _ (0, 0) h.c
  have c1 : w.cell? ⟨G, 1, none⟩ = some (.bool false) := cell_of_row _ _ 1 _ _ (0, 0) h.c
  have c2 : w.cell? ⟨G, 2, none⟩ = some (.int .i32 0) := cell_of_row _ _ 2 _ _ (0, 0) h.c
  have Hi := Lib.hid (is_a w)
  unfold phA at Hi
  clear h
  go_enter Tryz.func75, Tryz.ntmps75
  go_wp2_with fail
  go_loopw [3] (fun t3 wr => ∃ i : Nat, i ≤ 1 ∧ t3 = .int .i64 i ∧ (i = 0 → w = wr) ∧ Hid (Below w.heap.size w wr)) (fun t3 _ => 1 - (intOf t3).toNat)
  case atStart => exact ⟨0, by omega, rfl, fun _ => rfl, Lib.hid (Below.refl _ _)⟩
  case round =>
    obtain ⟨i, hi, rfl, h0, hB⟩ := hrel
    by_cases hlt : i = 0
    · subst hlt
      obtain rfl := h0 rfl
      clear h0
      go_wp2_with fail
      refine Hi.out.mono ?_
      rintro e w2 ⟨rfl, hb2⟩
      have Hb2 := Lib.hid hb2
      clear hb2
      go_wp2_with fail
      go_roundw
      case rel => exact ⟨1, by omega, rfl, fun e => by omega, Hb2⟩
      case measure => simp [intOf]
    · obtain rfl : i = 1 := by omega
      clear h0
      go_wp2_with fail
      go_ret
      exact ⟨rfl, hB.out⟩
set_option maxRecDepth 100000 in
set_option maxHeartbeats 8000000 in
theorem heavy_a (G : Nat) (w : World) (h : RowA G w) : Calls Tryz.prog 78 #[.slice (some ⟨G, 0, none⟩) 1 1, .agg #[.int .i64 0, .int .i64 0, .int .i64 1, .int .i64 0, .bool false]] w fun e w' => e = .returned (.bool false) ∧ Below w.heap.size w w' := by
  obtain ⟨W1, hW1⟩ : ∃ W1, w.alloc (.cells #[.int .i64 0, .int .i64 0, .int .i64 1, .int .i64 0, .bool false] 110) = W1 := ⟨_, rfl⟩
  have hb1 : Below w.heap.size w W1 := by rw [← hW1]; exact (Below.refl _ _).alloc (Nat.le_refl _) _
  have hx1 : W1.heap[w.heap.size]? = some (.cells #[.int .i64 0, .int .i64 0, .int .i64 1, .int .i64 0, .bool false] 110 (0, 0)) := by rw [← hW1]; exact World.alloc_heap_new w _
  have d1 : W1.cell? ⟨w.heap.size, 1, none⟩ = some (.int .i64 0) := cell_of_row _ _ 1 _ _ (0, 0) hx1
  have d2 : W1.cell? ⟨w.heap.size, 2, none⟩ = some (.int .i64 1) := cell_of_row _ _ 2 _ _ (0, 0) hx1
  have hc := (h.below hb1).c
  have c1 : W1.cell? ⟨G, 1, none⟩ = some (.bool false) := cell_of_row _ _ 1 _ _ (0, 0) hc
  have c2 : W1.cell? ⟨G, 2, none⟩ = some (.int .i32 0) := cell_of_row _ _ 2 _ _ (0, 0) hc
  have HW1 := Lib.hid hW1
  have Hb1 := Lib.hid hb1
  clear hW1 hx1 hb1 hc h
  go_enter Tryz.func78, Tryz.ntmps78
  go_upto_region 1 with (fail)
  rw [HW1.out]
  go_wp2_with fail
  go_ret
  exact ⟨rfl, Hb1.out⟩
end Go.Proofs.YtgcdopafblcbhaaGreatDoor

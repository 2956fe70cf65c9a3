import Derived.Test.YtgcdopafblcbhaaGreatDoorVK
import Derived.Test.YtgcdopafblcbhaaGreatDoorVJ
import Derived.BigQuiet
import Derived.Deep.CutBlock
/- The reference's rows of phones. Printed by tools/gen_vm.py. -/
namespace Go.Proofs.YtgcdopafblcbhaaGreatDoor
set_option linter.unusedVariables false
set_option linter.unusedSimpArgs false
open Go.RowKit Go.Lib Go.Shelf

set_option maxRecDepth 100000 in
set_option maxHeartbeats 4000000 in
theorem rvowel_any (r h b : Int) (ro : Bool) (w : World) : Calls Tryz.prog 216 #[.int .i32 r, .int .i64 h, .int .i64 b, .bool ro] w fun e w' => e = .returned (.agg (RowV.mk r true h b ro 0 0 false).cells.toArray) ∧ Below w.heap.size w w' := by
  go_enter Tryz.func216, Tryz.ntmps216
  go_wp2_with fail
  refine bodyPost_ret (results_cell_row rfl _ _ w.heap.size 258 #[.int .i32 r, .bool true, .int .i64 h, .int .i64 b, .bool ro, .int .i64 0, .int .i64 0, .bool false] (0, 0) _ rfl (World.alloc_heap_new w _) Tryz.underlying258 (by rfl) (by kernel_rfl)) rfl ?_
  exact ⟨rfl, (Below.refl _ _).alloc (Nat.le_refl _) _⟩
set_option maxRecDepth 100000 in
set_option maxHeartbeats 4000000 in
theorem rcons_any (r p m : Int) (vo : Bool) (w : World) : Calls Tryz.prog 217 #[.int .i32 r, .int .i64 p, .int .i64 m, .bool vo] w fun e w' => e = .returned (.agg (RowV.mk r false 0 0 false p m vo).cells.toArray) ∧ Below w.heap.size w w' := by
  go_enter Tryz.func217, Tryz.ntmps217
  go_wp2_with fail
  refine bodyPost_ret (results_cell_row rfl _ _ w.heap.size 258 #[.int .i32 r, .bool false, .int .i64 0, .int .i64 0, .bool false, .int .i64 p, .int .i64 m, .bool vo] (0, 0) _ rfl (World.alloc_heap_new w _) Tryz.underlying258 (by rfl) (by kernel_rfl)) rfl ?_
  exact ⟨rfl, (Below.refl _ _).alloc (Nat.le_refl _) _⟩
def ROWS8 : List RowV := [⟨105, true, 6, 0, false, 0, 0, false⟩, ⟨121, true, 6, 0, true, 0, 0, false⟩, ⟨117, true, 6, 2, true, 0, 0, false⟩, ⟨101, true, 4, 0, false, 0, 0, false⟩, ⟨248, true, 4, 0, true, 0, 0, false⟩, ⟨111, true, 4, 2, true, 0, 0, false⟩, ⟨601, true, 3, 1, false, 0, 0, false⟩, ⟨603, true, 2, 0, false, 0, 0, false⟩, ⟨596, true, 2, 2, true, 0, 0, false⟩, ⟨230, true, 1, 0, false, 0, 0, false⟩, ⟨97, true, 0, 1, false, 0, 0, false⟩, ⟨593, true, 0, 2, false, 0, 0, false⟩, ⟨112, false, 0, 0, false, 0, 0, false⟩, ⟨98, false, 0, 0, false, 0, 0, true⟩, ⟨116, false, 0, 0, false, 2, 0, false⟩, ⟨100, false, 0, 0, false, 2, 0, true⟩, ⟨107, false, 0, 0, false, 5, 0, false⟩, ⟨103, false, 0, 0, false, 5, 0, true⟩, ⟨660, false, 0, 0, false, 6, 0, false⟩, ⟨679, false, 0, 0, false, 3, 1, false⟩, ⟨676, false, 0, 0, false, 3, 1, true⟩, ⟨102, false, 0, 0, false, 0, 2, false⟩, ⟨118, false, 0, 0, false, 0, 2, true⟩, ⟨952, false, 0, 0, false, 1, 2, false⟩, ⟨240, false, 0, 0, false, 1, 2, true⟩, ⟨115, false, 0, 0, false, 2, 2, false⟩, ⟨122, false, 0, 0, false, 2, 2, true⟩, ⟨643, false, 0, 0, false, 3, 2, false⟩, ⟨658, false, 0, 0, false, 3, 2, true⟩, ⟨120, false, 0, 0, false, 5, 2, false⟩, ⟨104, false, 0, 0, false, 6, 2, false⟩, ⟨109, false, 0, 0, false, 0, 3, true⟩, ⟨110, false, 0, 0, false, 2, 3, true⟩, ⟨331, false, 0, 0, false, 5, 3, true⟩, ⟨108, false, 0, 0, false, 2, 4, true⟩, ⟨114, false, 0, 0, false, 3, 4, true⟩, ⟨119, false, 0, 0, false, 0, 5, true⟩, ⟨106, false, 0, 0, false, 4, 5, true⟩]
theorem rows8_good : GoodR ROWS8 := by
  refine ⟨rfl, ⟨10, by decide, rfl⟩, ?_⟩
  have h : ∀ i : Fin 38, (ROWS8.getD i.val nilR).r = 97 → (ROWS8.getD i.val nilR).vow = true := by decide +kernel
  exact fun i hi => h ⟨i, hi⟩
theorem build_rows (W : World) : (Instr.buildSlice 255 38 #[(0, .agg (RowV.mk 105 true 6 0 false 0 0 false).cells.toArray), (1, .agg (RowV.mk 121 true 6 0 true 0 0 false).cells.toArray), (2, .agg (RowV.mk 117 true 6 2 true 0 0 false).cells.toArray), (3, .agg (RowV.mk 101 true 4 0 false 0 0 false).cells.toArray), (4, .agg (RowV.mk 248 true 4 0 true 0 0 false).cells.toArray), (5, .agg (RowV.mk 111 true 4 2 true 0 0 false).cells.toArray), (6, .agg (RowV.mk 601 true 3 1 false 0 0 false).cells.toArray), (7, .agg (RowV.mk 603 true 2 0 false 0 0 false).cells.toArray), (8, .agg (RowV.mk 596 true 2 2 true 0 0 false).cells.toArray), (9, .agg (RowV.mk 230 true 1 0 false 0 0 false).cells.toArray), (10, .agg (RowV.mk 97 true 0 1 false 0 0 false).cells.toArray), (11, .agg (RowV.mk 593 true 0 2 false 0 0 false).cells.toArray), (12, .agg (RowV.mk 112 false 0 0 false 0 0 false).cells.toArray), (13, .agg (RowV.mk 98 false 0 0 false 0 0 true).cells.toArray), (14, .agg (RowV.mk 116 false 0 0 false 2 0 false).cells.toArray), (15, .agg (RowV.mk 100 false 0 0 false 2 0 true).cells.toArray), (16, .agg (RowV.mk 107 false 0 0 false 5 0 false).cells.toArray), (17, .agg (RowV.mk 103 false 0 0 false 5 0 true).cells.toArray), (18, .agg (RowV.mk 660 false 0 0 false 6 0 false).cells.toArray), (19, .agg (RowV.mk 679 false 0 0 false 3 1 false).cells.toArray), (20, .agg (RowV.mk 676 false 0 0 false 3 1 true).cells.toArray), (21, .agg (RowV.mk 102 false 0 0 false 0 2 false).cells.toArray), (22, .agg (RowV.mk 118 false 0 0 false 0 2 true).cells.toArray), (23, .agg (RowV.mk 952 false 0 0 false 1 2 false).cells.toArray), (24, .agg (RowV.mk 240 false 0 0 false 1 2 true).cells.toArray), (25, .agg (RowV.mk 115 false 0 0 false 2 2 false).cells.toArray), (26, .agg (RowV.mk 122 false 0 0 false 2 2 true).cells.toArray), (27, .agg (RowV.mk 643 false 0 0 false 3 2 false).cells.toArray), (28, .agg (RowV.mk 658 false 0 0 false 3 2 true).cells.toArray), (29, .agg (RowV.mk 120 false 0 0 false 5 2 false).cells.toArray), (30, .agg (RowV.mk 104 false 0 0 false 6 2 false).cells.toArray), (31, .agg (RowV.mk 109 false 0 0 false 0 3 true).cells.toArray), (32, .agg (RowV.mk 110 false 0 0 false 2 3 true).cells.toArray), (33, .agg (RowV.mk 331 false 0 0 false 5 3 true).cells.toArray), (34, .agg (RowV.mk 108 false 0 0 false 2 4 true).cells.toArray), (35, .agg (RowV.mk 114 false 0 0 false 3 4 true).cells.toArray), (36, .agg (RowV.mk 119 false 0 0 false 0 5 true).cells.toArray), (37, .agg (RowV.mk 106 false 0 0 false 4 5 true).cells.toArray)]).run Tryz.prog W = .ok (.slice (some ⟨W.heap.size, 0, none⟩) 38 38) (W.alloc (.cells (cellsR ROWS8).toArray 258)) := by kernel_rfl
/-- a row of rows that are good -/
def RwOk (B : Nat) (v : Value) (W : World) : Prop := ∃ (g : Nat) (R : List RowV), v = .slice (some ⟨g, 0, none⟩) 38 38 ∧ GoodR R ∧ W.ownsRow B 258 8 (.slice (some ⟨g, 0, none⟩) 38 38) 38 (cellsR R)
def RwG (B g : Nat) (W : World) : Prop := ∃ R : List RowV, GoodR R ∧ W.ownsRow B 258 8 (.slice (some ⟨g, 0, none⟩) 38 38) 38 (cellsR R)
theorem rw_rune {B g : Nat} {W : World} {R : List RowV} (h : W.ownsRow B 258 8 (.slice (some ⟨g, 0, none⟩) 38 38) 38 (cellsR R)) (k : Nat) (hk : k < 38) : W.cell? ⟨g, k * 8, none⟩ = some (.int .i32 (R.getD k nilR).r) := by
  have hl : R.length = 38 := by have := h.1; rw [cellsR_len] at this; omega
  rw [h.cellAt (k * 8) (by omega)]
  exact cellsR_get R k (by omega) 0 (by omega)
theorem rw_cell {B g : Nat} {W : World} {R : List RowV} (h : W.ownsRow B 258 8 (.slice (some ⟨g, 0, none⟩) 38 38) 38 (cellsR R)) (k : Nat) (hk : k < 38) (j : Nat) (hj : j < 8) : W.cell? ⟨g, k * 8 + j, none⟩ = (R.getD k nilR).cells[j]? := by
  have hl : R.length = 38 := by have := h.1; rw [cellsR_len] at this; omega
  rw [h.cellAt (k * 8 + j) (by omega)]
  exact cellsR_get R k (by omega) j hj
theorem rw_drewN {B b g n : Nat} {w0 W W2 : World} {R : List RowV} (h : W.ownsRow B 258 8 (.slice (some ⟨g, 0, none⟩) 38 38) 38 (cellsR R) ∧ Below b w0 W) (e : W.drewN n = W2) : W2.ownsRow B 258 8 (.slice (some ⟨g, 0, none⟩) 38 38) 38 (cellsR R) ∧ Below b w0 W2 := by
  subst e
  exact ⟨⟨h.1.1, h.1.2⟩, h.2.os, h.2.tape, h.2.output, h.2.size, h.2.block⟩
def setManyR (xs : List Value) (o : Nat) : List Value → List Value
  | [] => xs
  | v :: r => setManyR (xs.set o v) (o + 1) r
theorem setManyR_eq (cs : List Value) : ∀ (xs : List Value) (o : Nat), o + cs.length ≤ xs.length → setManyR xs o cs = xs.take o ++ cs ++ xs.drop (o + cs.length) := by
  induction cs with
  | nil => intro xs o h; simp [setManyR]
  | cons v r ih =>
    intro xs o h
    rw [setManyR, ih _ _ (by simp at h ⊢; omega)]
    have := list_seg_step xs o v r (by simpa using h)
    simpa using this
theorem own_setCellsR {base : Nat} {e : TypeId} {size g n cap : Nat} (cs : List Value) : ∀ {w : World} {xs : List Value} (o : Nat), w.ownsRow base e size (.slice (some ⟨g, 0, none⟩) n cap) n xs →
    (w.setCells g o cs).ownsRow base e size (.slice (some ⟨g, 0, none⟩) n cap) n (setManyR xs o cs) := by
  induction cs with
  | nil => intro w xs o h; exact h
  | cons v r ih => intro w xs o h; exact ih (o + 1) (h.stored o v).1
theorem below_setCellsR {B g : Nat} (hB : B ≤ g) (cs : List Value) : ∀ {w0 w : World} (o : Nat), Below B w0 w → Below B w0 (w.setCells g o cs) := by
  induction cs with
  | nil => intro w0 w o h; exact h
  | cons v r ih => intro w0 w o h; exact ih (o + 1) (h.setCell hB v)
theorem setMany_rows {R : List RowV} {k : Nat} (hk : k < R.length) (x : RowV) : setManyR (cellsR R) (k * 8) x.cells = cellsR (R.set k x) := by
  rw [setManyR_eq _ _ _ (by rw [cells_len, cellsR_len]; omega), cells_len]
  exact cellsR_set R k hk x
set_option maxHeartbeats 1000000 in
theorem rw_swap {B g k : Nat} {w W : World} {R : List RowV} (hG : GoodR R) (h : W.ownsRow B 258 8 (.slice (some ⟨g, 0, none⟩) 38 38) 38 (cellsR R)) (hb : Below B w W) (hk0 : 0 < k) (hk : k < 38) :
    RwG B g (World.drew (World.setCells (World.setCells W g (k * 8) (R.getD (k - 1) nilR).cells) g ((k - 1) * 8) (R.getD k nilR).cells)) ∧ Below B w (World.drew (World.setCells (World.setCells W g (k * 8) (R.getD (k - 1) nilR).cells) g ((k - 1) * 8) (R.getD k nilR).cells)) := by
  have hn := hG.n
  have hB : B ≤ g := by
    rcases h.2 with ⟨e1, _⟩ | ⟨g', cap', cur, e1, e2, _⟩
    · cases e1
    · cases e1; exact e2
  have h1 := own_setCellsR (R.getD (k - 1) nilR).cells (k * 8) h
  rw [setMany_rows (by omega)] at h1
  have h2 := own_setCellsR (R.getD k nilR).cells ((k - 1) * 8) h1
  rw [setMany_rows (by rw [List.length_set]; omega)] at h2
  have hb2 := below_setCellsR hB (R.getD k nilR).cells ((k - 1) * 8) (below_setCellsR hB (R.getD (k - 1) nilR).cells (k * 8) hb)
  have hs := hG.swap hk0 hk
  unfold swapR at hs
  generalize (R.set k (R.getD (k - 1) nilR)).set (k - 1) (R.getD k nilR) = S at *
  generalize World.setCells (World.setCells W g (k * 8) (R.getD (k - 1) nilR).cells) g ((k - 1) * 8) (R.getD k nilR).cells = X at *
  exact ⟨⟨S, hs, ⟨h2.1, h2.2⟩⟩, hb2.drew⟩
theorem rw_first {w W : World} (hb : Below w.heap.size w W) : RwOk w.heap.size (.slice (some ⟨W.heap.size, 0, none⟩) 38 38) (W.alloc (.cells (cellsR ROWS8).toArray 258)) ∧ Below w.heap.size w (W.alloc (.cells (cellsR ROWS8).toArray 258)) :=
  ⟨⟨_, ROWS8, rfl, rows8_good, by simp [cellsR_len]; rfl, .inr ⟨W.heap.size, 38, _, rfl, hb.size, World.alloc_heap_new W _, Nat.le_refl _, by unfold maxLen; omega, by simp [cellsR_len]; rfl, by rw [List.toList_toArray, List.take_of_length_le (by rw [cellsR_len]; decide)]⟩⟩, hb.alloc hb.size _⟩
set_option maxRecDepth 100000 in
set_option maxHeartbeats 32000000 in
theorem rows_any (w : World) : Calls Tryz.prog 168 #[] w fun e w' => (∃ v, e = .returned v ∧ RwOk w.heap.size v w') ∧ Below w.heap.size w w' := by
  have Hv := fun r h b ro W => Lib.hid (rvowel_any r h b ro W)
  have Hc := fun r p m vo W => Lib.hid (rcons_any r p m vo W)
  have HV := Lib.hid Hv
  have HC := Lib.hid Hc
  have Hb0 := Lib.hid (Below.refl w.heap.size w)
  clear Hv Hc
  go_enter Tryz.func168, Tryz.ntmps168
  go_upto_region 1 with fail
  go_cut [1] from 4 to 84 (fun v1 wx => Hid (RwOk w.heap.size v1 wx ∧ Below w.heap.size w wx))
  case first =>
    go_wp2_with fail
    refine (HV.out 105 6 0 false _).out.mono ?_
    rintro e w1 ⟨rfl, hb⟩
    have Hb1 := Lib.hid (Hb0.out.trans (hb.mono Hb0.out.size))
    clear hb Hb0
    go_wp2_with fail
    refine (HV.out 121 6 0 true _).out.mono ?_
    rintro e w2 ⟨rfl, hb⟩
    have Hb2 := Lib.hid (Hb1.out.trans (hb.mono Hb1.out.size))
    clear hb Hb1
    go_wp2_with fail
    refine (HV.out 117 6 2 true _).out.mono ?_
    rintro e w3 ⟨rfl, hb⟩
    have Hb3 := Lib.hid (Hb2.out.trans (hb.mono Hb2.out.size))
    clear hb Hb2
    go_wp2_with fail
    refine (HV.out 101 4 0 false _).out.mono ?_
    rintro e w4 ⟨rfl, hb⟩
    have Hb4 := Lib.hid (Hb3.out.trans (hb.mono Hb3.out.size))
    clear hb Hb3
    go_wp2_with fail
    refine (HV.out 248 4 0 true _).out.mono ?_
    rintro e w5 ⟨rfl, hb⟩
    have Hb5 := Lib.hid (Hb4.out.trans (hb.mono Hb4.out.size))
    clear hb Hb4
    go_wp2_with fail
    refine (HV.out 111 4 2 true _).out.mono ?_
    rintro e w6 ⟨rfl, hb⟩
    have Hb6 := Lib.hid (Hb5.out.trans (hb.mono Hb5.out.size))
    clear hb Hb5
    go_wp2_with fail
    refine (HV.out 601 3 1 false _).out.mono ?_
    rintro e w7 ⟨rfl, hb⟩
    have Hb7 := Lib.hid (Hb6.out.trans (hb.mono Hb6.out.size))
    clear hb Hb6
    go_wp2_with fail
    refine (HV.out 603 2 0 false _).out.mono ?_
    rintro e w8 ⟨rfl, hb⟩
    have Hb8 := Lib.hid (Hb7.out.trans (hb.mono Hb7.out.size))
    clear hb Hb7
    go_wp2_with fail
    refine (HV.out 596 2 2 true _).out.mono ?_
    rintro e w9 ⟨rfl, hb⟩
    have Hb9 := Lib.hid (Hb8.out.trans (hb.mono Hb8.out.size))
    clear hb Hb8
    go_wp2_with fail
    refine (HV.out 230 1 0 false _).out.mono ?_
    rintro e w10 ⟨rfl, hb⟩
    have Hb10 := Lib.hid (Hb9.out.trans (hb.mono Hb9.out.size))
    clear hb Hb9
    go_wp2_with fail
    refine (HV.out 97 0 1 false _).out.mono ?_
    rintro e w11 ⟨rfl, hb⟩
    have Hb11 := Lib.hid (Hb10.out.trans (hb.mono Hb10.out.size))
    clear hb Hb10
    go_wp2_with fail
    refine (HV.out 593 0 2 false _).out.mono ?_
    rintro e w12 ⟨rfl, hb⟩
    have Hb12 := Lib.hid (Hb11.out.trans (hb.mono Hb11.out.size))
    clear hb Hb11
    go_wp2_with fail
    refine (HC.out 112 0 0 false _).out.mono ?_
    rintro e w13 ⟨rfl, hb⟩
    have Hb13 := Lib.hid (Hb12.out.trans (hb.mono Hb12.out.size))
    clear hb Hb12
    go_wp2_with fail
    refine (HC.out 98 0 0 true _).out.mono ?_
    rintro e w14 ⟨rfl, hb⟩
    have Hb14 := Lib.hid (Hb13.out.trans (hb.mono Hb13.out.size))
    clear hb Hb13
    go_wp2_with fail
    refine (HC.out 116 2 0 false _).out.mono ?_
    rintro e w15 ⟨rfl, hb⟩
    have Hb15 := Lib.hid (Hb14.out.trans (hb.mono Hb14.out.size))
    clear hb Hb14
    go_wp2_with fail
    refine (HC.out 100 2 0 true _).out.mono ?_
    rintro e w16 ⟨rfl, hb⟩
    have Hb16 := Lib.hid (Hb15.out.trans (hb.mono Hb15.out.size))
    clear hb Hb15
    go_wp2_with fail
    refine (HC.out 107 5 0 false _).out.mono ?_
    rintro e w17 ⟨rfl, hb⟩
    have Hb17 := Lib.hid (Hb16.out.trans (hb.mono Hb16.out.size))
    clear hb Hb16
    go_wp2_with fail
    refine (HC.out 103 5 0 true _).out.mono ?_
    rintro e w18 ⟨rfl, hb⟩
    have Hb18 := Lib.hid (Hb17.out.trans (hb.mono Hb17.out.size))
    clear hb Hb17
    go_wp2_with fail
    refine (HC.out 660 6 0 false _).out.mono ?_
    rintro e w19 ⟨rfl, hb⟩
    have Hb19 := Lib.hid (Hb18.out.trans (hb.mono Hb18.out.size))
    clear hb Hb18
    go_wp2_with fail
    refine (HC.out 679 3 1 false _).out.mono ?_
    rintro e w20 ⟨rfl, hb⟩
    have Hb20 := Lib.hid (Hb19.out.trans (hb.mono Hb19.out.size))
    clear hb Hb19
    go_wp2_with fail
    refine (HC.out 676 3 1 true _).out.mono ?_
    rintro e w21 ⟨rfl, hb⟩
    have Hb21 := Lib.hid (Hb20.out.trans (hb.mono Hb20.out.size))
    clear hb Hb20
    go_wp2_with fail
    refine (HC.out 102 0 2 false _).out.mono ?_
    rintro e w22 ⟨rfl, hb⟩
    have Hb22 := Lib.hid (Hb21.out.trans (hb.mono Hb21.out.size))
    clear hb Hb21
    go_wp2_with fail
    refine (HC.out 118 0 2 true _).out.mono ?_
    rintro e w23 ⟨rfl, hb⟩
    have Hb23 := Lib.hid (Hb22.out.trans (hb.mono Hb22.out.size))
    clear hb Hb22
    go_wp2_with fail
    refine (HC.out 952 1 2 false _).out.mono ?_
    rintro e w24 ⟨rfl, hb⟩
    have Hb24 := Lib.hid (Hb23.out.trans (hb.mono Hb23.out.size))
    clear hb Hb23
    go_wp2_with fail
    refine (HC.out 240 1 2 true _).out.mono ?_
    rintro e w25 ⟨rfl, hb⟩
    have Hb25 := Lib.hid (Hb24.out.trans (hb.mono Hb24.out.size))
    clear hb Hb24
    go_wp2_with fail
    refine (HC.out 115 2 2 false _).out.mono ?_
    rintro e w26 ⟨rfl, hb⟩
    have Hb26 := Lib.hid (Hb25.out.trans (hb.mono Hb25.out.size))
    clear hb Hb25
    go_wp2_with fail
    refine (HC.out 122 2 2 true _).out.mono ?_
    rintro e w27 ⟨rfl, hb⟩
    have Hb27 := Lib.hid (Hb26.out.trans (hb.mono Hb26.out.size))
    clear hb Hb26
    go_wp2_with fail
    refine (HC.out 643 3 2 false _).out.mono ?_
    rintro e w28 ⟨rfl, hb⟩
    have Hb28 := Lib.hid (Hb27.out.trans (hb.mono Hb27.out.size))
    clear hb Hb27
    go_wp2_with fail
    refine (HC.out 658 3 2 true _).out.mono ?_
    rintro e w29 ⟨rfl, hb⟩
    have Hb29 := Lib.hid (Hb28.out.trans (hb.mono Hb28.out.size))
    clear hb Hb28
    go_wp2_with fail
    refine (HC.out 120 5 2 false _).out.mono ?_
    rintro e w30 ⟨rfl, hb⟩
    have Hb30 := Lib.hid (Hb29.out.trans (hb.mono Hb29.out.size))
    clear hb Hb29
    go_wp2_with fail
    refine (HC.out 104 6 2 false _).out.mono ?_
    rintro e w31 ⟨rfl, hb⟩
    have Hb31 := Lib.hid (Hb30.out.trans (hb.mono Hb30.out.size))
    clear hb Hb30
    go_wp2_with fail
    refine (HC.out 109 0 3 true _).out.mono ?_
    rintro e w32 ⟨rfl, hb⟩
    have Hb32 := Lib.hid (Hb31.out.trans (hb.mono Hb31.out.size))
    clear hb Hb31
    go_wp2_with fail
    refine (HC.out 110 2 3 true _).out.mono ?_
    rintro e w33 ⟨rfl, hb⟩
    have Hb33 := Lib.hid (Hb32.out.trans (hb.mono Hb32.out.size))
    clear hb Hb32
    go_wp2_with fail
    refine (HC.out 331 5 3 true _).out.mono ?_
    rintro e w34 ⟨rfl, hb⟩
    have Hb34 := Lib.hid (Hb33.out.trans (hb.mono Hb33.out.size))
    clear hb Hb33
    go_wp2_with fail
    refine (HC.out 108 2 4 true _).out.mono ?_
    rintro e w35 ⟨rfl, hb⟩
    have Hb35 := Lib.hid (Hb34.out.trans (hb.mono Hb34.out.size))
    clear hb Hb34
    go_wp2_with fail
    refine (HC.out 114 3 4 true _).out.mono ?_
    rintro e w36 ⟨rfl, hb⟩
    have Hb36 := Lib.hid (Hb35.out.trans (hb.mono Hb35.out.size))
    clear hb Hb35
    go_wp2_with fail
    refine (HC.out 119 0 5 true _).out.mono ?_
    rintro e w37 ⟨rfl, hb⟩
    have Hb37 := Lib.hid (Hb36.out.trans (hb.mono Hb36.out.size))
    clear hb Hb36
    go_wp2_with fail
    refine (HC.out 106 4 5 true _).out.mono ?_
    rintro e w38 ⟨rfl, hb⟩
    have Hb38 := Lib.hid (Hb37.out.trans (hb.mono Hb37.out.size))
    clear hb Hb37
    go_wp2_with fail
    refine opValue (v := .slice (some ⟨w38.heap.size, 0, none⟩) 38 38) (w' := w38.alloc (.cells (cellsR ROWS8).toArray 258)) (by kernel_rfl) ?_
    have HR := Lib.hid (rw_first Hb38.out)
    clear Hb38
    generalize World.alloc w38 _ = W at *
    go_wp2_with fail
    go_meet
    exact HR
  case rest =>
    obtain ⟨⟨g, R0, rfl, hG0, hR0⟩, hB0⟩ := hcut.out
    have H0 := Lib.hid (And.intro (show RwG w.heap.size g wc from ⟨R0, hG0, hR0⟩) hB0)
    clear HV HC Hb0 hcut hG0 hR0 hB0
    go_wp2_with fail
    go_loopw [2, 3] (fun t2 t3 wr => ∃ i : Nat, i ≤ 38 ∧ t2 = .int .i64 i ∧ Hid (RwG w.heap.size g wr ∧ Below w.heap.size w wr)) (fun t2 _ _ => 38 - (intOf t2).toNat)
    case atStart => exact ⟨0, by omega, rfl, H0⟩
    case round =>
      obtain ⟨wo, hwo⟩ : ∃ W : World, W = wr := ⟨_, rfl⟩
      subst hwo
      obtain ⟨i, hi, rfl, HH⟩ := hrel
      clear H0
      by_cases hlt : i < 38
      · go_wp2_with fail
        go_loopw [3] (fun t3 wr => ∃ k : Nat, k ≤ i ∧ t3 = .int .i64 k ∧ Hid (RwG w.heap.size g wr ∧ Below w.heap.size w wr)) (fun t3 _ => (intOf t3).toNat)
        case atStart => exact ⟨i, Nat.le_refl _, rfl, HH⟩
        case round =>
          obtain ⟨wi, hwi⟩ : ∃ W : World, W = wr := ⟨_, rfl⟩
          subst hwi
          obtain ⟨k, hk, rfl, HK⟩ := hrel
          clear HH
          by_cases hk0 : 0 < k
          · obtain ⟨R, hG, hR⟩ := HK.out.1
            have e1 := rw_rune hR k (by omega)
            have e2 := rw_rune hR (k - 1) (by omega)
            have d1 : decide ((k : Int) > 0) = true := decide_eq_true (by omega)
            have HG := Lib.hid (And.intro hG hR)
            clear hG hR
            generalize hx : R.getD k nilR = x at *
            generalize hy : R.getD (k - 1) nilR = y at *
            have Hxy := Lib.hid (And.intro hx hy)
            clear hx hy
            by_cases hr : x.r < y.r
            · have d2 : decide (x.r < y.r) = true := decide_eq_true hr
              go_wp2_with fail
              go_quiet (fail)
              generalize hW2 : World.drewN wi nq = W2
              have H2 := rw_drewN (And.intro HG.out.2 HK.out.2) hW2
              rw [← Hxy.out.1] at e1
              have c0 := rw_cell H2.1 k (by omega) 0 (by omega)
              have c1 := rw_cell H2.1 k (by omega) 1 (by omega)
              have c2 := rw_cell H2.1 k (by omega) 2 (by omega)
              have c3 := rw_cell H2.1 k (by omega) 3 (by omega)
              have c4 := rw_cell H2.1 k (by omega) 4 (by omega)
              have c5 := rw_cell H2.1 k (by omega) 5 (by omega)
              have c6 := rw_cell H2.1 k (by omega) 6 (by omega)
              have c7 := rw_cell H2.1 k (by omega) 7 (by omega)
              have b0 := rw_cell H2.1 (k - 1) (by omega) 0 (by omega)
              have b1 := rw_cell H2.1 (k - 1) (by omega) 1 (by omega)
              have b2 := rw_cell H2.1 (k - 1) (by omega) 2 (by omega)
              have b3 := rw_cell H2.1 (k - 1) (by omega) 3 (by omega)
              have b4 := rw_cell H2.1 (k - 1) (by omega) 4 (by omega)
              have b5 := rw_cell H2.1 (k - 1) (by omega) 5 (by omega)
              have b6 := rw_cell H2.1 (k - 1) (by omega) 6 (by omega)
              have b7 := rw_cell H2.1 (k - 1) (by omega) 7 (by omega)
              rw [Hxy.out.1] at c0 c1 c2 c3 c4 c5 c6 c7 e1
              rw [Hxy.out.2] at b0 b1 b2 b3 b4 b5 b6 b7
              simp only [RowV.cells, List.getElem?_cons_zero, List.getElem?_cons_succ, Nat.add_zero] at c0 c1 c2 c3 c4 c5 c6 c7 b0 b1 b2 b3 b4 b5 b6 b7
              have HH2 := Lib.hid H2
              clear H2 hW2 e1 e2
              go_wp2_with fail
              have z0 : W2.frozen? ⟨g, k * 8, none⟩ = false := HH2.out.1.frozenAt _
              have z1 : W2.frozen? ⟨g, k * 8 + 1, none⟩ = false := HH2.out.1.frozenAt _
              have z2 : W2.frozen? ⟨g, k * 8 + 2, none⟩ = false := HH2.out.1.frozenAt _
              have z3 : W2.frozen? ⟨g, k * 8 + 3, none⟩ = false := HH2.out.1.frozenAt _
              have z4 : W2.frozen? ⟨g, k * 8 + 4, none⟩ = false := HH2.out.1.frozenAt _
              have z5 : W2.frozen? ⟨g, k * 8 + 5, none⟩ = false := HH2.out.1.frozenAt _
              have z6 : W2.frozen? ⟨g, k * 8 + 6, none⟩ = false := HH2.out.1.frozenAt _
              have z7 : W2.frozen? ⟨g, k * 8 + 7, none⟩ = false := HH2.out.1.frozenAt _
              have y0 : W2.frozen? ⟨g, (k - 1) * 8, none⟩ = false := HH2.out.1.frozenAt _
              have y1 : W2.frozen? ⟨g, (k - 1) * 8 + 1, none⟩ = false := HH2.out.1.frozenAt _
              have y2 : W2.frozen? ⟨g, (k - 1) * 8 + 2, none⟩ = false := HH2.out.1.frozenAt _
              have y3 : W2.frozen? ⟨g, (k - 1) * 8 + 3, none⟩ = false := HH2.out.1.frozenAt _
              have y4 : W2.frozen? ⟨g, (k - 1) * 8 + 4, none⟩ = false := HH2.out.1.frozenAt _
              have y5 : W2.frozen? ⟨g, (k - 1) * 8 + 5, none⟩ = false := HH2.out.1.frozenAt _
              have y6 : W2.frozen? ⟨g, (k - 1) * 8 + 6, none⟩ = false := HH2.out.1.frozenAt _
              have y7 : W2.frozen? ⟨g, (k - 1) * 8 + 7, none⟩ = false := HH2.out.1.frozenAt _
              go_region
              generalize hWs : World.drew (World.setCell _ _ _) = Ws
              have HS : RwG w.heap.size g Ws ∧ Below w.heap.size w Ws := by
                rw [← hWs, ← Hxy.out.1, ← Hxy.out.2]
                exact rw_swap HG.out.1 HH2.out.1 HH2.out.2 (by omega) (by omega)
              have HS2 := Lib.hid HS
              clear HS hWs c0 c1 c2 c3 c4 c5 c6 c7 b0 b1 b2 b3 b4 b5 b6 b7 z0 z1 z2 z3 z4 z5 z6 z7 y0 y1 y2 y3 y4 y5 y6 y7 HH2 HG
              go_wp2_with fail
              go_roundw
              case rel => exact ⟨k - 1, by omega, by congr 1; omega, HS2⟩
              case measure => simp [intOf]; omega
            · have d2 : decide (x.r < y.r) = false := decide_eq_false hr
              go_wp2_with fail
              go_quiet (fail)
              generalize hW2 : World.drewN wi nq = W2
              have H2 := rw_drewN (And.intro HG.out.2 HK.out.2) hW2
              have HH2 := Lib.hid H2
              clear H2 hW2 e1 e2
              go_wp2_with fail
              go_roundw
              case rel => exact ⟨i + 1, by omega, by go_num, Lib.hid ⟨⟨R, HG.out.1, HH2.out.1⟩, HH2.out.2⟩⟩
              case measure => simp [intOf]; omega
          · obtain rfl : k = 0 := by omega
            obtain ⟨R, hG, hR⟩ := HK.out.1
            have HG := Lib.hid (And.intro hG hR)
            clear hG hR
            go_wp2_with fail
            go_quiet (fail)
            generalize hW2 : World.drewN wi nq = W2
            have H2 := rw_drewN (And.intro HG.out.2 HK.out.2) hW2
            have HH2 := Lib.hid H2
            clear H2 hW2
            go_wp2_with fail
            go_roundw
            case rel => exact ⟨i + 1, by omega, by go_num, Lib.hid ⟨⟨R, HG.out.1, HH2.out.1⟩, HH2.out.2⟩⟩
            case measure => simp [intOf]; omega
      · go_wp2_with fail
        go_ret
        obtain ⟨⟨R, hG, hR⟩, hB⟩ := HH.out
        exact ⟨⟨_, rfl, g, R, rfl, hG, hR⟩, hB⟩
end Go.Proofs.YtgcdopafblcbhaaGreatDoor

import Derived.Test.YtgcdopafblcbhaaGreatDoorVN
/- The reference's Lay of one phone: one syllable, no error. -/
namespace Go.Proofs.YtgcdopafblcbhaaGreatDoor
set_option linter.unusedVariables false
set_option linter.unusedSimpArgs false
open Go.RowKit Go.Lib Go.Shelf
attribute [local go_sem] Oper.semAt_some

theorem infoIn : Tryz.prog.info? 3 = some Tryz.t3 := by kernel_rfl
theorem zeroIn : Tryz.t3.zero = some (.int .i64 0) := by kernel_rfl
theorem sizeIn : Tryz.t3.size = 1 := by kernel_rfl
theorem bytesIn : Tryz.t3.bytes = 8 := by kernel_rfl
theorem infoSy : Tryz.prog.info? 110 = some Tryz.t110 := by kernel_rfl
theorem zeroSy : Tryz.t110.zero = some (.agg #[.int .i64 0, .int .i64 0, .int .i64 0, .int .i64 0, .bool false]) := by kernel_rfl
theorem sizeSy : Tryz.t110.size = 5 := by kernel_rfl
theorem bytesSy : Tryz.t110.bytes = 40 := by kernel_rfl
theorem place_a (w : World) : Calls Tryz.prog 79 #[.int .i64 1, .int .i64 1, .bool false] w fun e w' => e = .returned (.int .i64 0) ∧ w = w' := by
  go_enter Tryz.func79, Tryz.ntmps79
  go_wp2_with fail
  go_ret
  exact ⟨rfl, rfl⟩
def syl0 : List Value := [.int .i64 0, .int .i64 0, .int .i64 1, .int .i64 0, .bool false]
set_option maxRecDepth 100000 in
set_option maxHeartbeats 8000000 in
theorem split_a (G : Nat) (w : World) (h : RowA G w) : Calls Tryz.prog 38 #[.slice (some ⟨G, 0, none⟩) 1 1] w fun e w' => (∃ v, e = .returned (.tuple #[v, .int .i64 0]) ∧ w'.ownsRow w.heap.size 110 5 v 1 syl0) ∧ Below w.heap.size w w' := by
  have Ha := Lib.hid (all_a G w h)
  have Hh := Lib.hid h
  clear h
  go_enter Tryz.func38, Tryz.ntmps38
  go_wp2_with fail
  refine Ha.out.mono ?_
  rintro e w2 ⟨rfl, hb2⟩
  have hR2 := Hh.out.below hb2
  have HR2 := Lib.hid hR2
  have Hb2 := Lib.hid hb2
  clear hb2 Ha hR2
  go_wp2_with fail
  go_loopw [4, 5] (fun t4 t5 wr => ∃ i : Nat, i ≤ 1 ∧ t5 = .int .i64 i ∧ Hid (RowA G wr) ∧ Hid (Below w.heap.size w wr) ∧ (i = 0 → t4 = .slice none 0 0) ∧ (i = 1 → wr.ownsRow w.heap.size 3 1 t4 1 [.int .i64 0])) (fun _ t5 _ => 1 - (intOf t5).toNat)
  case atStart => exact ⟨0, by omega, rfl, HR2, Hb2, fun _ => rfl, fun e => by omega⟩
  case round =>
    obtain ⟨wi, hwi⟩ : ∃ W : World, W = wr := ⟨_, rfl⟩
    subst hwi
    obtain ⟨i, hi, rfl, hR, hB, h0, h1⟩ := hrel
    by_cases hlt : i = 0
    · subst hlt
      obtain rfl := h0 rfl
      have c0 : wi.cell? ⟨G, 0, none⟩ = some (.int .i32 97) := cell_of_row _ _ 0 _ _ (0, 0) hR.out.c
      have c1 : wi.cell? ⟨G, 1, none⟩ = some (.bool false) := cell_of_row _ _ 1 _ _ (0, 0) hR.out.c
      have c2 : wi.cell? ⟨G, 2, none⟩ = some (.int .i32 0) := cell_of_row _ _ 2 _ _ (0, 0) hR.out.c
      have Hv := Lib.hid (vow_a wi)
      unfold phA at Hv
      clear h0 h1
      go_wp2_with fail
      refine Hv.out.mono ?_
      rintro e w3 ⟨rfl, hb3⟩
      have hR3 := hR.out.below hb3
      have HB3 := Lib.hid (hB.out.trans (hb3.mono hB.out.size))
      have HR3 := Lib.hid hR3
      clear hb3 hR3 c0 c1 c2
      go_wp2_with (at_builtin; go_loud (refine wpList_append_boxg w3 rfl _ _ 102 rfl w.heap.size 3 _ _ 1 8 Tryz.underlying102 infoIn zeroIn sizeIn bytesIn rfl (by decide) (.slice none 0 0) 0 [] #[.int .i64 0] w3.heap.size rfl rfl rfl (World.ownsRow_nil _ _ _ _) rfl (by intro u hu; simp at hu; subst hu; rfl) (by unfold maxLen; omega) (by omega) HB3.out.size ?_; intro v5 w5 ho5 hg5 hn5; have HF := Lib.hid (And.intro ho5 (And.intro (HB3.out.grown hg5 HB3.out.size (fun r e => by cases e)) (RowA.mk (G := G) (w := w5) ((hg5.block _ (Array.getElem?_eq_some_iff.1 HR3.out.c).1 (fun e => by cases e)).trans HR3.out.c)))); clear ho5 hg5 hn5))
      go_roundw
      case rel => exact ⟨1, by omega, rfl, Lib.hid HF.out.2.2, Lib.hid HF.out.2.1, fun e => by omega, fun _ => HF.out.1⟩
      case measure => simp [intOf]
    · obtain rfl : i = 1 := by omega
      have ho := h1 rfl
      obtain ⟨g, cap, rfl⟩ := own_form1 ho (by omega)
      have k0 : wi.cell? ⟨g, 0, none⟩ = some (.int .i64 0) := ho.cellAt 0 (by omega)
      have hgl := World.block_lt_of_cell? wi _ k0
      clear h0 h1 ho
      obtain ⟨ws, hws⟩ : ∃ W : World, W = wi := ⟨_, rfl⟩
      subst hws
      go_wp2_with fail
      go_loopw [6, 7] (fun t6 t7 wr => ∃ k : Nat, k ≤ 1 ∧ t7 = .int .i64 k ∧ (k = 0 → t6 = .slice none 0 0 ∧ ws = wr) ∧ (k = 1 → Hid (Below w.heap.size w wr ∧ wr.ownsRow w.heap.size 110 5 t6 1 syl0))) (fun _ t7 _ => 1 - (intOf t7).toNat)
      case atStart => exact ⟨0, by omega, rfl, fun _ => ⟨rfl, rfl⟩, fun e => by omega⟩
      case round =>
        obtain ⟨k, hk, rfl, g0, g1⟩ := hrel
        by_cases hlk : k = 0
        · subst hlk
          obtain ⟨rfl, rfl⟩ := g0 rfl
          obtain ⟨W1, hW1⟩ : ∃ W1, ws.alloc (.cells #[.int .i64 0, .int .i64 0, .int .i64 1, .int .i64 0, .bool false] 110) = W1 := ⟨_, rfl⟩
          have hbw : Below ws.heap.size ws W1 := by rw [← hW1]; exact (Below.refl _ _).alloc (Nat.le_refl _) _
          have hb1 : Below w.heap.size w W1 := hB.out.trans (hbw.mono hB.out.size)
          have hx1 : W1.heap[ws.heap.size]? = some (.cells #[.int .i64 0, .int .i64 0, .int .i64 1, .int .i64 0, .bool false] 110 (0, 0)) := by rw [← hW1]; exact World.alloc_heap_new ws _
          have d0 : W1.cell? ⟨ws.heap.size, 0, none⟩ = some (.int .i64 0) := cell_of_row _ _ 0 _ _ (0, 0) hx1
          have d1 : W1.cell? ⟨ws.heap.size, 1, none⟩ = some (.int .i64 0) := cell_of_row _ _ 1 _ _ (0, 0) hx1
          have d2 : W1.cell? ⟨ws.heap.size, 2, none⟩ = some (.int .i64 1) := cell_of_row _ _ 2 _ _ (0, 0) hx1
          have d3 : W1.cell? ⟨ws.heap.size, 3, none⟩ = some (.int .i64 0) := cell_of_row _ _ 3 _ _ (0, 0) hx1
          have d4 : W1.cell? ⟨ws.heap.size, 4, none⟩ = some (.bool false) := cell_of_row _ _ 4 _ _ (0, 0) hx1
          have Hhv := Lib.hid (heavy_a G W1 (hR.out.below hbw))
          have HW1 := Lib.hid hW1
          have Hx1 := Lib.hid hx1
          have Hb1 := Lib.hid hb1
          clear hW1 hx1 hb1 hbw g0 g1
          go_upto_region 20 with (fail)
          rw [HW1.out]
          go_wp2_with fail
          refine Hhv.out.mono ?_
          rintro e w5 ⟨rfl, hb5⟩
          have hx5 := keptB Hx1.out hb5
          obtain ⟨W6, hW6⟩ : ∃ W6, w5.setCell ⟨ws.heap.size, 4, none⟩ (.bool false) = W6 := ⟨_, rfl⟩
          have hB5 := Hb1.out.trans (hb5.mono Hb1.out.size)
          have hb6 : Below w.heap.size w W6 := by rw [← hW6]; exact hB5.setCell (p := ⟨ws.heap.size, 4, none⟩) hB.out.size _
          have hx6 : W6.heap[ws.heap.size]? = some (.cells #[.int .i64 0, .int .i64 0, .int .i64 1, .int .i64 0, .bool false] 110 (0, 0)) := by rw [← hW6]; exact heap_setCell_same w5 ws.heap.size 4 _ _ _ hx5
          have z4 := frozen_of_row _ ws.heap.size 4 _ _ hx5
          have e4 : w5.cell? ⟨ws.heap.size, 4, none⟩ = some (.bool false) := cell_of_row _ _ 4 _ _ (0, 0) hx5
          have f0 : W6.cell? ⟨ws.heap.size, 0, none⟩ = some (.int .i64 0) := cell_of_row _ _ 0 _ _ (0, 0) hx6
          have f1 : W6.cell? ⟨ws.heap.size, 1, none⟩ = some (.int .i64 0) := cell_of_row _ _ 1 _ _ (0, 0) hx6
          have f2 : W6.cell? ⟨ws.heap.size, 2, none⟩ = some (.int .i64 1) := cell_of_row _ _ 2 _ _ (0, 0) hx6
          have f3 : W6.cell? ⟨ws.heap.size, 3, none⟩ = some (.int .i64 0) := cell_of_row _ _ 3 _ _ (0, 0) hx6
          have f4 : W6.cell? ⟨ws.heap.size, 4, none⟩ = some (.bool false) := cell_of_row _ _ 4 _ _ (0, 0) hx6
          have HW6 := Lib.hid hW6
          have HB6 := Lib.hid hb6
          clear hx5 hW6 hB5 hb6 hx6 hb5 d0 d1 d2 d3 d4
          go_upto_region 30 with (fail)
          rw [HW6.out]
          clear z4 e4
          go_wp2_with (at_builtin; go_loud (refine wpList_append_boxg W6 rfl _ _ 54 rfl w.heap.size 110 _ _ 5 40 Tryz.underlying54 infoSy zeroSy sizeSy bytesSy rfl (by decide) (.slice none 0 0) 0 [] #[.int .i64 0, .int .i64 0, .int .i64 1, .int .i64 0, .bool false] W6.heap.size rfl rfl rfl (World.ownsRow_nil _ _ _ _) rfl (by intro u hu; simp at hu; rcases hu with rfl | rfl | rfl | rfl | rfl <;> rfl) (by unfold maxLen; omega) (by omega) HB6.out.size ?_; intro v7 w7 ho7 hg7 hn7; have HF := Lib.hid (And.intro (HB6.out.grown hg7 HB6.out.size (fun r e => by cases e)) ho7); clear ho7 hg7 hn7))
          go_roundw
          case rel => exact ⟨1, by omega, rfl, fun e => by omega, fun _ => HF⟩
          case measure => simp [intOf]
        · obtain rfl : k = 1 := by omega
          obtain ⟨hb, ho⟩ := (g1 rfl).out
          clear g0 g1 k0
          have HF := Lib.hid (And.intro hb ho)
          clear hb ho
          go_wp2_with fail
          go_ret2
          exact ⟨⟨_, rfl, HF.out.2⟩, HF.out.1⟩
set_option maxRecDepth 100000 in
set_option maxHeartbeats 8000000 in
theorem stress_a (v : Value) (w : World) (B : Nat) (h : w.ownsRow B 110 5 v 1 syl0) : Calls Tryz.prog 39 #[v, .int .i64 1] w fun e w' => (∃ A c, e = .returned (.tuple #[.slice A 1 c, .int .i64 0])) ∧ Below w.heap.size w w' := by
  obtain ⟨g, cap, rfl⟩ := own_form1 h (by omega)
  have c0 : w.cell? ⟨g, 0, none⟩ = some (.int .i64 0) := h.cellAt 0 (by omega)
  have c1 : w.cell? ⟨g, 1, none⟩ = some (.int .i64 0) := h.cellAt 1 (by omega)
  have c2 : w.cell? ⟨g, 2, none⟩ = some (.int .i64 1) := h.cellAt 2 (by omega)
  have c3 : w.cell? ⟨g, 3, none⟩ = some (.int .i64 0) := h.cellAt 3 (by omega)
  have c4 : w.cell? ⟨g, 4, none⟩ = some (.bool false) := h.cellAt 4 (by omega)
  have Hp := Lib.hid (place_a w)
  clear h
  go_enter Tryz.func39, Tryz.ntmps39
  go_wp2_with fail
  refine Hp.out.mono ?_
  rintro e w2 ⟨rfl, rfl⟩
  go_wp2_with fail
  go_loopw [7, 8] (fun t7 t8 wr => ∃ k : Nat, k ≤ 1 ∧ t8 = .int .i64 k ∧ (k = 0 → t7 = .slice none 0 0 ∧ w = wr) ∧ (k = 1 → ∃ A c, t7 = .slice A 1 c) ∧ Hid (Below w.heap.size w wr)) (fun _ t8 _ => 1 - (intOf t8).toNat)
  case atStart => exact ⟨0, by omega, rfl, fun _ => ⟨rfl, rfl⟩, fun e => by omega, Lib.hid (Below.refl _ _)⟩
  case round =>
    obtain ⟨k, hk, rfl, g0, g1, hB⟩ := hrel
    by_cases hlk : k = 0
    · subst hlk
      obtain ⟨rfl, rfl⟩ := g0 rfl
      clear g0 g1
      go_wp2_with fail
      go_roundw
      case rel => exact ⟨1, by omega, rfl, fun e => by omega, fun _ => ⟨_, _, rfl⟩, Lib.hid (((((Below.refl _ _).alloc (Nat.le_refl _) _).alloc (by simp) _).alloc (by simp; omega) _).drew)⟩
      case measure => simp [intOf]
    · obtain rfl : k = 1 := by omega
      obtain ⟨A, c, rfl⟩ := g1 rfl
      clear g0 g1
      go_wp2_with fail
      go_ret2
      exact ⟨⟨_, _, rfl⟩, hB.out⟩
set_option maxRecDepth 100000 in
set_option maxHeartbeats 8000000 in
theorem lay_a (G : Nat) (w : World) (h : RowA G w) : Calls Tryz.prog 14 #[.slice (some ⟨G, 0, none⟩) 1 1, .slice none 0 0, .int .i64 1] w fun e w' => (∃ A c, e = .returned (.tuple #[.slice A 1 c, .int .i64 0])) ∧ Below w.heap.size w w' := by
  have Hs := Lib.hid (split_a G w h)
  clear h
  go_enter Tryz.func14, Tryz.ntmps14
  go_wp2_with fail
  refine Hs.out.mono ?_
  rintro e w2 ⟨⟨v, rfl, ho⟩, hb2⟩
  have Ht := Lib.hid (stress_a v w2 _ ho)
  have Hb2 := Lib.hid hb2
  clear ho hb2
  go_wp2_with fail
  refine Ht.out.mono ?_
  rintro e w3 ⟨⟨A, c, rfl⟩, hb3⟩
  have Hb3 := Lib.hid (Hb2.out.trans (hb3.mono Hb2.out.size))
  clear hb3
  go_wp2_with fail
  go_ret2
  exact ⟨⟨_, _, rfl⟩, Hb3.out⟩
end Go.Proofs.YtgcdopafblcbhaaGreatDoor

import Derived.Test.YtgcdopafblcbhaaGreatDoorVG
import Derived.Lib.AppendStr
import Derived.Laws.IdiomStrings
/- What one unit is, written. -/
namespace Go.Proofs.YtgcdopafblcbhaaGreatDoor
set_option linter.unusedVariables false
set_option linter.unusedSimpArgs false
open Go.RowKit Go.Lib Go.Shelf

theorem infoB8 : Tryz.prog.info? 5 = some Tryz.t5 := by kernel_rfl
theorem zeroB8 : Tryz.t5.zero = some (.int .u8 0) := by kernel_rfl
theorem sizeB8 : Tryz.t5.size = 1 := by kernel_rfl
theorem bytesB8 : Tryz.t5.bytes = 1 := by kernel_rfl
theorem conv_row {W : World} {B : Nat} {v : Value} {s : ByteArray} (h : W.ownsRow B 5 1 v (0 + s.size) ([] ++ strCells s)) : ∃ t' : ByteArray, (Go.convert 52 9 v).run Tryz.prog W = .ok (.string t') W := by
  have hz : s.data.toList.length = 0 + s.size := by rw [Nat.zero_add]; simp
  rcases h.2 with ⟨rfl, h0⟩ | ⟨g, cap, cur, rfl, _⟩
  · exact ⟨⟨#[]⟩, by kernel_rfl⟩
  · have := run_convert_bytes_back (P := Tryz.prog) W 52 9 5 ⟨g, 0, none⟩ cap s.data.toList Tryz.underlying52 Tryz.underlying5 Tryz.underlying9 (fun j hj => by
      have e1 : (⟨g, 0, none⟩ : Addr).add j = ⟨g, j, none⟩ := by
        unfold Addr.add; by_cases hj : j = 0
        · simp [hj]
        · simp [hj]
      rw [e1, h.cellAt j (by omega)]
      simp [strCells, List.getElem?_eq_getElem hj])
    rw [hz] at this
    exact ⟨_, this⟩
set_option maxRecDepth 100000 in
set_option maxHeartbeats 8000000 in
theorem written_one (v : Value) (x : List Value) (w : World) (B : Nat) (ho : w.ownsRow B 187 5 v 1 x) (hx : Shape x) : Calls Tryz.prog 96 #[v, .func (.func 98) #[] #[]] w fun e w' => (∃ t : ByteArray, e = .returned (.string t)) ∧ Below w.heap.size w w' := by
  obtain ⟨base, Al, nl, cl, Ah, nh, ch, rfl⟩ := hx
  obtain ⟨g, cap, rfl⟩ := own_form1 ho (by omega)
  have k0 := ho.cellAt 0 (by omega)
  have k1 := ho.cellAt 1 (by omega)
  have k2 := ho.cellAt 2 (by omega)
  have k3 := ho.cellAt 3 (by omega)
  have k4 := ho.cellAt 4 (by omega)
  clear ho
  go_enter Tryz.func96, Tryz.ntmps96
  have hgl := World.block_lt_of_cell? w _ k0
  go_wp2_with fail
  go_loopw [5, 7, 10] (fun t5 t7 t10 wr => ∃ j : Nat, t10 = .int .i64 j ∧ j ≤ 1 ∧ Hid (Below w.heap.size w wr) ∧ (j = 0 → t5 = .slice none 0 0) ∧ (j = 1 → ∃ s : ByteArray, wr.ownsRow w.heap.size 5 1 t5 (0 + s.size) ([] ++ strCells s))) (fun _ _ t10 _ => 1 - (intOf t10).toNat)
  case atStart => exact ⟨0, rfl, by omega, Lib.hid (Below.refl _ _), fun _ => rfl, fun e => by cases e⟩
  case round =>
    obtain ⟨wi, hwi⟩ : ∃ W : World, W = wr := ⟨_, rfl⟩
    subst hwi
    obtain ⟨j, rfl, hj, hB, h0, h1⟩ := hrel
    by_cases hlt : j = 0
    · subst hlt
      obtain rfl := h0 rfl
      have c0 := (hB.out.cell (p := ⟨g, 0, none⟩) hgl).trans k0
      have c1 := (hB.out.cell (p := ⟨g, 1, none⟩) hgl).trans k1
      have c2 := (hB.out.cell (p := ⟨g, 2, none⟩) hgl).trans k2
      have c3 := (hB.out.cell (p := ⟨g, 3, none⟩) hgl).trans k3
      have c4 := (hB.out.cell (p := ⟨g, 4, none⟩) hgl).trans k4
      clear k0 k1 k2 k3 k4 h0 h1
      obtain ⟨W1, hW1⟩ : ∃ W1, wi.alloc (.cells #[.int .i64 0, .int .u8 0, .int .i32 base, .slice Al nl cl, .slice Ah nh ch] 187) = W1 := ⟨_, rfl⟩
      have hb1 : Below w.heap.size w W1 := by rw [← hW1]; exact hB.out.alloc hB.out.size _
      have hx1 : W1.heap[wi.heap.size]? = some (.cells #[.int .i64 0, .int .u8 0, .int .i32 base, .slice Al nl cl, .slice Ah nh ch] 187 (0, 0)) := by rw [← hW1]; exact World.alloc_heap_new wi _
      have u0 := cell_of_row _ _ 0 _ _ (0, 0) hx1
      have u1 := cell_of_row _ _ 1 _ _ (0, 0) hx1
      have u2 := cell_of_row _ _ 2 _ _ (0, 0) hx1
      have u3 := cell_of_row _ _ 3 _ _ (0, 0) hx1
      have u4 := cell_of_row _ _ 4 _ _ (0, 0) hx1
      have hl0 : w.heap.size ≤ W1.heap.size := hb1.size
      have HW1 := Lib.hid hW1
      have Hb1 := Lib.hid hb1
      have Hp := Lib.hid (plain_any 0 0 base Al Ah nl nh cl ch W1)
      clear hW1 hb1 hx1
      by_cases hbs : base < 0
      · have d0 : decide (base < 0) = true := decide_eq_true hbs
        go_upto_region 5 with (fail)
        rw [HW1.out]
        go_wp2_with (at_builtin; go_loud (refine wpList_append_boxg W1 rfl _ _ 52 rfl w.heap.size 5 _ _ 1 1 Tryz.underlying52 infoB8 zeroB8 sizeB8 bytesB8 rfl (by decide) (.slice none 0 0) 0 [] #[.int .u8 0] W1.heap.size rfl rfl rfl (World.ownsRow_nil _ _ _ _) rfl (by intro u hu; simp at hu; subst hu; rfl) (by unfold maxLen; omega) (by omega) hl0 ?_; intro v5 w5 ho5 hg5 hn5; have HF := Lib.hid (And.intro ho5 (Hb1.out.grown hg5 Hb1.out.size (fun r e => by cases e))); clear ho5 hg5 hn5))
        go_roundw
        case rel => exact ⟨1, rfl, by omega, Lib.hid HF.out.2, fun e => by omega, fun _ => ⟨⟨#[0]⟩, HF.out.1⟩⟩
        case measure => simp [intOf]
      · have d0 : decide (base < 0) = false := decide_eq_false hbs
        go_upto_region 5 with (fail)
        rw [HW1.out]
        go_wp2_with fail
        refine Hp.out.mono ?_
        rintro e w2 ⟨⟨t, rfl, ht⟩, hb2⟩
        have Hb2 := Lib.hid (Hb1.out.trans (hb2.mono Hb1.out.size))
        have hl2 : w.heap.size ≤ w2.heap.size := Hb2.out.size
        go_wp2_with (at_builtin; refine Hid.out ?_)
        refine Lib.hid ?_
        refine wpList_append_own_string w2 rfl _ _ 52 9 rfl w.heap.size 5 Tryz.t5 Tryz.underlying52 Tryz.underlying9 infoB8 zeroB8 sizeB8 bytesB8 (.slice none 0 0) 0 [] rfl (World.ownsRow_nil _ _ _ _) t rfl (by unfold maxLen; omega) (by omega) hl2 ?_
        intro v5 w5 ho5 hg5 hn5
        have HF := Lib.hid (And.intro ho5 (Hb2.out.grown hg5 Hb2.out.size (fun r e => by cases e)))
        clear ho5 hg5 hn5
        go_wp2_with fail
        go_roundw
        case rel => exact ⟨1, rfl, by omega, Lib.hid HF.out.2, fun e => by omega, fun _ => ⟨_, HF.out.1⟩⟩
        case measure => simp [intOf]
    · obtain rfl : j = 1 := by omega
      obtain ⟨s, ho⟩ := h1 rfl
      obtain ⟨t', ht'⟩ := conv_row ho
      clear h0 h1 ho
      go_wp2_with fail
      go_ret
      exact ⟨⟨_, rfl⟩, hB.out⟩
end Go.Proofs.YtgcdopafblcbhaaGreatDoor

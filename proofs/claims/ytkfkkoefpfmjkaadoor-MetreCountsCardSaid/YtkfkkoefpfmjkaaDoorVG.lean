import Derived.Test.YtkfkkoefpfmjkaaDoorVB
import Derived.Test.YtkfkkoefpfmjkaaDoorVD
import Derived.Deep.RegionHeld3
namespace Go.Proofs.YtkfkkoefpfmjkaaDoor
set_option linter.unusedVariables false
set_option linter.unusedSimpArgs false
open Go.RowKit

/- The reference's choices. -/
theorem row_le {w : World} {base base' : Nat} {v : Value} {n : Nat} {xs : List Value} (h : w.ownsRow base 100 2 v n xs) (hb : base' ≤ base) : w.ownsRow base' 100 2 v n xs :=
  ⟨h.1, h.2.imp id fun ⟨g, cp, cur, a1, a2, a3⟩ => ⟨g, cp, cur, a1, by omega, a3⟩⟩
set_option maxRecDepth 100000 in
set_option maxHeartbeats 8000000 in
theorem choices_any (Af Ae Ab : Option Addr) (cf ce cb : Nat) (m : Met) (w : World) (h : IsMet w w.heap.size Af Ae Ab cf ce cb m) (hm : Small m) :
    Calls Tryd.prog 62 #[.agg #[.slice Af m.feet.length cf, .slice Ae m.ends.length ce, .slice Ab m.brks.length cb]] w (OptsOk m w) := by
  have hfl := hm.feet
  have hel := hm.ends
  have HM := Lib.hid hm
  generalize hW1 : w.alloc (.cells #[.slice Af m.feet.length cf, .slice Ae m.ends.length ce, .slice Ab m.brks.length cb] 27) = W1
  have sW1 : W1.heap.size = w.heap.size + 1 := by rw [← hW1]; simp
  have hB1 : Below w.heap.size w W1 := by rw [← hW1]; exact (Below.refl _ _).alloc (Nat.le_refl _) _
  have m1 : W1.cell? ⟨w.heap.size, 1, none⟩ = some (.slice Ae m.ends.length ce) := by rw [← hW1]; simp
  have m0 : W1.cell? ⟨w.heap.size, 0, none⟩ = some (.slice Af m.feet.length cf) := by rw [← hW1]; simp
  have H := Lib.hid (h.on hB1)
  have HW1 := Lib.hid hW1
  have Hkeep := Lib.hid fun (W2 : World) (hb2 : Below W1.heap.size W1 W2) => (hb2.cell (p := ⟨w.heap.size, 1, none⟩) (by show w.heap.size < W1.heap.size; omega)).trans m1
  have HB1 := Lib.hid hB1
  clear h hm hW1 hB1 m1
  go_enter Tryd.func62, Tryd.ntmps62
  go_wp2_with fail
  rw [HW1.out]
  go_loopw [3, 9] (fun v i wr => ∃ (k : Nat) (A : Option Addr) (c : Nat) (vs : List Value), k ≤ m.feet.length ∧ i = .int .i64 k ∧ v = .slice A k c ∧ Hid (OR wr W1.heap.size (.slice A k c) vs ((m.feet.take k).map footRow)) ∧ Hid (Below W1.heap.size W1 wr)) (fun _ i _ => m.feet.length - (intOf i).toNat)
  case atStart => exact ⟨0, none, 0, [], by omega, rfl, rfl, Lib.hid ⟨rfl, World.ownsRow_nil _ _ _ _, fun k hk => absurd hk (Nat.not_lt_zero _)⟩, Lib.hid (Below.refl _ _)⟩
  case round =>
    rename_i wr
    obtain ⟨k, A, c, vs, hk, rfl, rfl, hor, hbl⟩ := hrel
    clear m0
    by_cases hlt : k < m.feet.length
    · obtain ⟨b, off, rfl, hbb, hrow⟩ := (H.out.below hbl.out).feet (by omega)
      obtain ⟨hc1, A2, c2, hc2, hcc, hIW⟩ := hrow k hlt
      have hmem : m.feet.getD k default ∈ m.feet := by
        rw [List.getD_eq_getElem?_getD, List.getElem?_eq_getElem hlt]; exact List.getElem_mem hlt
      have hw15 := HM.out.ways _ hmem
      have Hst := Lib.hid (map_take_succ m.feet k hlt)
      have hbs := hbl.out.size
      clear hrow hmem
      generalize m.feet.getD k default = f at *
      obtain ⟨own, ways⟩ := f
      simp only [] at hc1 hc2 hcc hIW hw15
      generalize hW3 : wr.alloc (.cells #[.string own, .slice A2 ways.length c2] 81) = W3
      have sW3 : W3.heap.size = wr.heap.size + 1 := by rw [← hW3]; simp
      have hB3' : Below wr.heap.size wr W3 := by rw [← hW3]; exact (Below.refl _ _).alloc (Nat.le_refl _) _
      have hb4 : Below W3.heap.size W3 (W3.alloc (.cells #[.string own, .int .i64 0] 100)) := (Below.refl _ W3).alloc (Nat.le_refl _) _
      have hown4 : (W3.alloc (.cells #[.string own, .int .i64 0] 100)).ownsRow (wr.heap.size + 1) 100 2 (.slice (some ⟨wr.heap.size + 1, 0, none⟩) 1 1) 1 (#[.string own, .int .i64 0] : Array Value).toList := by
        rw [← sW3]; exact ownsRow_block (World.alloc_heap_new W3 _) (Nat.le_refl _) rfl
      have Hfin := Lib.hid (fun (v1 : Value) (w1 : World) (ho : w1.ownsRow (wr.heap.size + 1) 100 2 v1 (1 + ways.length) ((#[.string own, .int .i64 0] : Array Value).toList ++ wayCells ways)) (hg : (W3.alloc (.cells #[.string own, .int .i64 0] 100)).grownBy w1 (some (wr.heap.size + 1))) =>
        (show OR w1 W1.heap.size (.slice A k c) vs ((m.feet.take k).map footRow) ∧ w1.ownsRow W1.heap.size 100 2 v1 (footRow ⟨own, ways⟩).length (wayCells (footRow ⟨own, ways⟩)) ∧ Below W1.heap.size W1 w1 ∧ W1.heap.size ≤ w1.heap.size from
          ⟨(hor.out.below hB3').below (hb4.grown hg (by simp) (fun q e => by cases e; omega)), by rw [Nat.add_comm 1] at ho; exact row_le ho (by omega),
            hbl.out.trans ((hB3'.trans ((hb4.grown hg (by simp) (fun q e => by cases e; omega)).mono (by omega))).mono (by omega)), by have := hg.size; simp at this; omega⟩))
      have Hown4 := Lib.hid hown4
      have HIW := Lib.hid (hIW.below ((hB3'.trans (hb4.mono (by omega))).mono (by omega)))
      have Hrl : Hid (((m.feet.take k).map footRow).length = k) := Lib.hid (by simp; omega)
      have Hsz : Hid (wr.heap.size + 1 ≤ (W3.alloc (.cells #[.string own, .int .i64 0] 100)).heap.size) := Lib.hid (by simp; omega)
      clear hB3' hIW hb4 hown4 sW3
      subst hW3
      go_wp2_with (first
        | (at_builtin; refine wpList_append_ways rfl _ _ rfl (wr.heap.size + 1) W1.heap.size (.slice (some ⟨wr.heap.size + 1, 0, none⟩) 1 1) 1 _ rfl Hown4.out A2 c2 ways rfl HIW.out (by omega) Hsz.out ?_; intro v1 w1 hown1 hgr1; have hfin := Hfin.out _ _ hown1 hgr1; obtain ⟨g1, cap1, rfl⟩ := own_form hown1 (by omega); rw [Nat.add_comm 1] at hfin; have Hor4 := Lib.hid hfin.1; have Hv4 := Lib.hid hfin.2.1; have Hb4 := Lib.hid hfin.2.2.1; have hs4 := hfin.2.2.2; have Hout : Hid (w1.ownsRow W1.heap.size 24 1 (.slice A k c) k vs) := Lib.hid (by have := hfin.1.out; rw [Hrl.out] at this; exact this); clear hfin hown1 hgr1)
        | (at_builtin; refine wpList_append_boxg _ rfl _ _ 114 rfl W1.heap.size 24 _ _ 1 24 Tryd.underlying114 info24 zero24 size24 bytes24 rfl (by decide) (.slice A k c) k vs #[.slice (some ⟨g1, 0, none⟩) (1 + ways.length) cap1] w1.heap.size rfl rfl rfl Hout.out rfl (by intro u hu; simp at hu; subst hu; rfl) (by unfold maxLen; omega) (by omega) (by omega) ?_; intro v5 w5 hown5 hgr5 _))
      have hor5 := Hor4.out.snoc (l := footRow ⟨own, ways⟩) Hv4.out (by rw [Hrl.out]; rw [Nat.add_comm 1] at hown5; exact hown5) hgr5
      rw [← Hst.out] at hor5
      have hb5 := Hb4.out.grown hgr5 hs4 (fun q e => (Hout.out.lt q e).1)
      obtain ⟨g5, cap5, rfl⟩ := own_form hown5 (by omega)
      have Hor5 := Lib.hid hor5
      have Hb5 := Lib.hid hb5
      clear hor5 hb5 hown5 hgr5
      go_wp2_with fail
      go_roundw
      case rel => exact ⟨k + 1, some ⟨g5, 0, none⟩, cap5, _, by omega, by go_num, rfl, Hor5, Hb5⟩
      case measure => simp [intOf]; omega
    · obtain rfl : k = m.feet.length := by omega
      have m1 := Hkeep.out _ hbl.out
      have hbs := hbl.out.size
      have hb4 : Below wr.heap.size wr (wr.alloc (.cells #[.string ⟨#[]⟩, .int .i64 0] 100)) := (Below.refl _ wr).alloc (Nat.le_refl _) _
      have hown4 : (wr.alloc (.cells #[.string ⟨#[]⟩, .int .i64 0] 100)).ownsRow wr.heap.size 100 2 (.slice (some ⟨wr.heap.size, 0, none⟩) 1 1) 1 (#[.string ⟨#[]⟩, .int .i64 0] : Array Value).toList := ownsRow_block (World.alloc_heap_new wr _) (Nat.le_refl _) rfl
      have Hfin := Lib.hid (fun (v1 : Value) (w1 : World) (ho : w1.ownsRow wr.heap.size 100 2 v1 (1 + m.ends.length) ((#[.string ⟨#[]⟩, .int .i64 0] : Array Value).toList ++ wayCells m.ends)) (hg : (wr.alloc (.cells #[.string ⟨#[]⟩, .int .i64 0] 100)).grownBy w1 (some wr.heap.size)) =>
        (show OR w1 W1.heap.size (.slice A m.feet.length c) vs ((m.feet.take m.feet.length).map footRow) ∧ w1.ownsRow W1.heap.size 100 2 v1 ((⟨#[]⟩, 0) :: m.ends : List Way).length (wayCells ((⟨#[]⟩, 0) :: m.ends)) ∧ Below W1.heap.size W1 w1 ∧ W1.heap.size ≤ w1.heap.size from
          ⟨hor.out.below (hb4.grown hg (by simp) (fun q e => by cases e; omega)), by rw [Nat.add_comm 1] at ho; exact row_le ho (by omega),
            hbl.out.trans ((hb4.grown hg (by simp) (fun q e => by cases e; omega)).mono (by omega)), by have := hg.size; simp at this; omega⟩))
      have Hown4 := Lib.hid hown4
      have HIW := Lib.hid ((H.out.below (hbl.out.trans (hb4.mono hbs))).ends)
      have Hrl : Hid (((m.feet.take m.feet.length).map footRow).length = m.feet.length) := Lib.hid (by simp)
      have Hsz : Hid (wr.heap.size ≤ (wr.alloc (.cells #[.string ⟨#[]⟩, .int .i64 0] 100)).heap.size) := Lib.hid (by simp)
      have m1' := (hb4.cell (p := ⟨w.heap.size, 1, none⟩) (by show w.heap.size < wr.heap.size; omega)).trans m1
      clear hb4 hown4
      go_wp2_with (first
        | (at_builtin; refine wpList_append_ways rfl _ _ rfl wr.heap.size W1.heap.size (.slice (some ⟨wr.heap.size, 0, none⟩) 1 1) 1 _ rfl Hown4.out Ae ce m.ends rfl HIW.out (by omega) Hsz.out ?_; intro v1 w1 hown1 hgr1; have hfin := Hfin.out _ _ hown1 hgr1; obtain ⟨g1, cap1, rfl⟩ := own_form hown1 (by omega); rw [Nat.add_comm 1] at hfin; have Hor4 := Lib.hid hfin.1; have Hv4 := Lib.hid hfin.2.1; have Hb4 := Lib.hid hfin.2.2.1; have hs4 := hfin.2.2.2; have Hout : Hid (w1.ownsRow W1.heap.size 24 1 (.slice A m.feet.length c) m.feet.length vs) := Lib.hid (by have := hfin.1.out; rw [Hrl.out] at this; exact this); clear hfin hown1 hgr1)
        | (at_builtin; refine wpList_append_boxg _ rfl _ _ 114 rfl W1.heap.size 24 _ _ 1 24 Tryd.underlying114 info24 zero24 size24 bytes24 rfl (by decide) (.slice A m.feet.length c) m.feet.length vs #[.slice (some ⟨g1, 0, none⟩) (1 + m.ends.length) cap1] w1.heap.size rfl rfl rfl Hout.out rfl (by intro u hu; simp at hu; subst hu; rfl) (by unfold maxLen; omega) (by omega) (by omega) ?_; intro v5 w5 hown5 hgr5 _; have hor5 := Hor4.out.snoc (l := (⟨#[]⟩, 0) :: m.ends) Hv4.out (by rw [Hrl.out]; rw [Nat.add_comm 1] at hown5; exact hown5) hgr5; rw [List.take_length, ← optsP_def] at hor5; have hb5 := Hb4.out.grown hgr5 hs4 (fun q e => (Hout.out.lt q e).1); obtain ⟨g5, cap5, rfl⟩ := own_form hown5 (by omega); have Hor5 := Lib.hid hor5; have Hb5 := Lib.hid hb5; clear hor5 hb5 hown5 hgr5))
      go_ret
      exact ⟨_, _, rfl, Hor5.out.base_le (by omega), HB1.out.trans (Hb5.out.mono (by omega))⟩
end Go.Proofs.YtkfkkoefpfmjkaaDoor
/- The reference's table of states in memory. -/
namespace Go.Proofs.YtkfkkoefpfmjkaaDoor
set_option linter.unusedVariables false
set_option linter.unusedSimpArgs false
open Go.RowKit

theorem info118 : Tryd.prog.info? 118 = some Tryd.t118 := by kernel_rfl
theorem zero118 : Tryd.t118.zero = some (.slice none 0 0) := by kernel_rfl
theorem size118 : Tryd.t118.size = 1 := by kernel_rfl
theorem bytes118 : Tryd.t118.bytes = 24 := by kernel_rfl
theorem info117 : Tryd.prog.info? 117 = some Tryd.t117 := by kernel_rfl
theorem zero117 : Tryd.t117.zero = some (.agg #[.int .i64 0, .int .i64 0]) := by kernel_rfl
theorem size117 : Tryd.t117.size = 2 := by kernel_rfl
theorem bytes117 : Tryd.t117.bytes = 16 := by kernel_rfl
theorem make_outer2 (n : Nat) (hn : n ≤ 100) (W : World) : (Instr.makeSlice 119 (.int .i64 ((n : Int) + 1)) (.int .i64 ((n : Int) + 1))).run Tryd.prog W = .ok (.slice (some ⟨W.heap.size, 0, none⟩) (n + 1) (n + 1)) (W.alloc (.cells (madeCells #[.slice none 0 0] (n + 1)) 118)) := by
  have h := run_make (P := Tryd.prog) W 119 118 _ _ Tryd.underlying119 info118 zero118 .i64 .i64 ((n : Int) + 1) ((n : Int) + 1) (by omega) (by omega) (by rw [bytes118]; omega) (by omega)
  rw [h, size118, show ((n : Int) + 1).toNat = n + 1 by omega, Nat.mul_one]
  rfl
theorem make_row2 (n : Nat) (hn : n ≤ 100) (W : World) : (Instr.makeSlice 118 (.int .i64 ((n : Int) + 1)) (.int .i64 ((n : Int) + 1))).run Tryd.prog W = .ok (.slice (some ⟨W.heap.size, 0, none⟩) (n + 1) (n + 1)) (W.alloc (.cells (madeCells #[.int .i64 0, .int .i64 0] ((n + 1) * 2)) 117)) := by
  have h := run_make (P := Tryd.prog) W 118 117 _ _ Tryd.underlying118 info117 zero117 .i64 .i64 ((n : Int) + 1) ((n : Int) + 1) (by omega) (by omega) (by rw [bytes117]; omega) (by omega)
  rw [h, size117, show ((n : Int) + 1).toNat = n + 1 by omega]
  rfl
/-- the table: the outer row in block G, the rows behind it -/
structure Tab (W : World) (G n ln : Nat) (t : Tb) : Prop where
  oc : ∀ k, k ≤ n → W.cell? ⟨G, k, none⟩ = some (.slice (some ⟨G + 1 + k, 0, none⟩) (ln + 1) (ln + 1))
  t1 : ∀ k a, k ≤ n → a ≤ ln → W.cell? ⟨G + 1 + k, a * 2, none⟩ = some (.int .i64 (t k a).1)
  t2 : ∀ k a, k ≤ n → a ≤ ln → W.cell? ⟨G + 1 + k, a * 2 + 1, none⟩ = some (.int .i64 (t k a).2)
  z : ∀ k o, k ≤ n → W.frozen? ⟨G + 1 + k, o, none⟩ = false
  sz : G + 1 + n + 1 ≤ W.heap.size
theorem Tab.below {W W' : World} {G n ln : Nat} {t : Tb} (h : Tab W G n ln t) (hb : Below (G + 1 + n + 1) W W') : Tab W' G n ln t :=
  ⟨fun k hk => (hb.cell (p := ⟨G, k, none⟩) (by show G < _; omega)).trans (h.oc k hk), fun k a hk ha => (hb.cell (p := ⟨G + 1 + k, _, none⟩) (by show G + 1 + k < _; omega)).trans (h.t1 k a hk ha), fun k a hk ha => (hb.cell (p := ⟨G + 1 + k, _, none⟩) (by show G + 1 + k < _; omega)).trans (h.t2 k a hk ha),
    fun k o hk => (hb.frozen (p := ⟨G + 1 + k, o, none⟩) (by show G + 1 + k < _; omega)).trans (h.z k o hk), Nat.le_trans h.sz hb.size⟩
theorem Tab.congr {W : World} {G n ln : Nat} {t t' : Tb} (h : Tab W G n ln t) (e : ∀ k a, k ≤ n → a ≤ ln → t k a = t' k a) : Tab W G n ln t' :=
  ⟨h.oc, fun k a hk ha => by rw [← e k a hk ha]; exact h.t1 k a hk ha, fun k a hk ha => by rw [← e k a hk ha]; exact h.t2 k a hk ha, h.z, h.sz⟩
theorem Tab.put {W : World} {G n ln : Nat} {t : Tb} (h : Tab W G n ln t) {i a : Nat} (hi : i ≤ n) (ha : a ≤ ln) (c : Cell) :
    Tab ((W.setCell ⟨G + 1 + i, a * 2, none⟩ (.int .i64 c.1)).setCell ⟨G + 1 + i, a * 2 + 1, none⟩ (.int .i64 c.2)) G n ln (upd t i a c) := by
  have far : ∀ {b o : Nat} {v : Value}, b ≠ G + 1 + i → W.cell? ⟨b, o, none⟩ = some v → ((W.setCell ⟨G + 1 + i, a * 2, none⟩ (.int .i64 c.1)).setCell ⟨G + 1 + i, a * 2 + 1, none⟩ (.int .i64 c.2)).cell? ⟨b, o, none⟩ = some v := fun hb hc =>
    (World.cell?_setCell_far _ _ _ _ (fun e => hb e.symm)).trans ((World.cell?_setCell_far W _ _ _ (fun e => hb e.symm)).trans hc)
  refine ⟨fun k hk => far (by omega) (h.oc k hk), fun k b hk hb => ?_, fun k b hk hb => ?_, fun k o hk => by rw [World.frozen?_setCell, World.frozen?_setCell]; exact h.z k o hk, by rw [World.size_setCell, World.size_setCell]; exact h.sz⟩
  · by_cases e : k = i ∧ b = a
    · obtain ⟨rfl, rfl⟩ := e
      rw [upd_same, World.cell?_setCell_other _ _ _ _ (fun q => by simp at q <;> omega), World.cell?_setCell_same W _ _ (h.t1 k b hk hb)]
    · have e1 : upd t i a c k b = t k b := by unfold upd; rw [if_neg e]
      rw [e1, World.cell?_setCell_other _ _ _ _ (fun q => by simp at q <;> omega), World.cell?_setCell_other W _ _ _ (fun q => e (by simp at q <;> omega))]
      exact h.t1 k b hk hb
  · by_cases e : k = i ∧ b = a
    · obtain ⟨rfl, rfl⟩ := e
      have h2 : (W.setCell ⟨G + 1 + k, b * 2, none⟩ (.int .i64 c.1)).cell? ⟨G + 1 + k, b * 2 + 1, none⟩ = some (.int .i64 (t k b).2) := by
        rw [World.cell?_setCell_other W _ _ _ (fun q => by simp at q <;> omega)]; exact h.t2 k b hk hb
      rw [upd_same, World.cell?_setCell_same _ _ _ h2]
    · have e1 : upd t i a c k b = t k b := by unfold upd; rw [if_neg e]
      rw [e1, World.cell?_setCell_other _ _ _ _ (fun q => e (by simp at q <;> omega)), World.cell?_setCell_other W _ _ _ (fun q => by simp at q <;> omega)]
      exact h.t2 k b hk hb
structure Fill2 (w W : World) (G n ln k : Nat) : Prop where
  oc : ∀ j, j < k → W.cell? ⟨G, j, none⟩ = some (.slice (some ⟨G + 1 + j, 0, none⟩) (ln + 1) (ln + 1))
  on : ∀ j, k ≤ j → j ≤ n → W.cell? ⟨G, j, none⟩ = some (.slice none 0 0)
  oz : ∀ j, W.frozen? ⟨G, j, none⟩ = false
  r : ∀ j o, j < k → o < (ln + 1) * 2 → W.cell? ⟨G + 1 + j, o, none⟩ = some (.int .i64 0)
  z : ∀ j o, j < k → W.frozen? ⟨G + 1 + j, o, none⟩ = false
  sz : W.heap.size = G + 1 + k
  bl : Below G w W
theorem Fill2.step {w W : World} {G n ln k : Nat} (h : Fill2 w W G n ln k) (hk : k ≤ n) :
    Fill2 w ((W.alloc (.cells (madeCells #[.int .i64 0, .int .i64 0] ((ln + 1) * 2)) 117)).setCell ⟨G, k, none⟩ (.slice (some ⟨G + 1 + k, 0, none⟩) (ln + 1) (ln + 1))) G n ln (k + 1) := by
  generalize hM : madeCells #[.int .i64 0, .int .i64 0] ((ln + 1) * 2) = M
  have hsz := h.sz
  have old : ∀ {b o : Nat} {v : Value}, b < W.heap.size → W.cell? ⟨b, o, none⟩ = some v → (W.alloc (.cells M 117)).cell? ⟨b, o, none⟩ = some v := fun hb hc => (World.cell?_alloc_lt W _ _ hb).trans hc
  have oldz : ∀ {b o : Nat}, b < W.heap.size → W.frozen? ⟨b, o, none⟩ = false → (W.alloc (.cells M 117)).frozen? ⟨b, o, none⟩ = false := fun hb hc => (World.frozen?_alloc_old W _ _ (Nat.ne_of_lt hb)).trans hc
  have far : ∀ {b o : Nat} {v : Value}, b ≠ G → (W.alloc (.cells M 117)).cell? ⟨b, o, none⟩ = some v → ((W.alloc (.cells M 117)).setCell ⟨G, k, none⟩ (.slice (some ⟨G + 1 + k, 0, none⟩) (ln + 1) (ln + 1))).cell? ⟨b, o, none⟩ = some v := fun hb hc => (World.cell?_setCell_far _ _ _ _ (fun e => hb e.symm)).trans hc
  have hnew : ∀ o, o < (ln + 1) * 2 → (W.alloc (.cells M 117)).cell? ⟨G + 1 + k, o, none⟩ = some (.int .i64 0) := fun o ho => by
    have := World.cell?_alloc_new W M 117 o
    rw [hsz] at this
    rw [this, ← hM, made_zero _ _ ho]
  have hnz : ∀ o, (W.alloc (.cells M 117)).frozen? ⟨G + 1 + k, o, none⟩ = false := fun o => by
    have := World.frozen?_alloc_new W M 117 o
    rw [hsz] at this
    exact this
  refine ⟨fun j hj => ?_, fun j hj hjn => ?_, fun j => by rw [World.frozen?_setCell]; exact oldz (by omega) (h.oz j), fun j o hj ho => ?_, fun j o hj => ?_, by rw [World.size_setCell]; simp; omega, ?_⟩
  · by_cases e : j = k
    · subst e
      exact World.cell?_setCell_same _ _ _ (old (by omega) (h.on j (Nat.le_refl _) hk))
    · rw [World.cell?_setCell_other _ _ _ _ (fun q => e (by simp at q <;> omega))]
      exact old (by omega) (h.oc j (by omega))
  · rw [World.cell?_setCell_other _ _ _ _ (fun q => by simp at q <;> omega)]
    exact old (by omega) (h.on j (by omega) hjn)
  · refine far (by omega) ?_
    by_cases e : j = k
    · subst e; exact hnew o ho
    · exact old (by omega) (h.r j o (by omega) ho)
  · rw [World.frozen?_setCell]
    by_cases e : j = k
    · subst e; exact hnz o
    · exact oldz (by omega) (h.z j o (by omega))
  · exact (h.bl.alloc (by show G ≤ W.heap.size; omega) _).setCell (p := ⟨G, k, none⟩) (by show G ≤ G; omega) _
theorem Fill2.tab {w W : World} {G n ln : Nat} (h : Fill2 w W G n ln (n + 1)) : Tab W G n ln (fun _ _ => (0, 0)) :=
  ⟨fun k hk => h.oc k (by omega), fun k a hk ha => h.r k _ (by omega) (by omega), fun k a hk ha => h.r k _ (by omega) (by omega), fun k o hk => h.z k o (by omega), by have := h.sz; omega⟩
/-- the rows that are done -/
def tabS (rows : List (List Way)) (s : ByteArray) (n j : Nat) : Tb := fun k a => if n - j ≤ k then restT rows s k a else (0, 0)
theorem tabS_start (rows : List (List Way)) (s : ByteArray) : ∀ k a, k ≤ rows.length → a ≤ s.size → upd (fun _ _ => (0, 0)) rows.length s.size (0, 1) k a = tabS rows s rows.length 0 k a := by
  intro k a hk ha
  have e := tab_desc rows s.data.toList 0 (Nat.zero_le _) k a hk (by simpa using ha)
  unfold tabS upd restT
  have hl : s.data.toList.length = s.size := by simp
  rw [← e]
  show _ = tab0 rows.length s.data.toList.length k a
  rw [hl]
  rfl
/-- row i, as far as place A -/
def tabT (rows : List (List Way)) (s : ByteArray) (n i A : Nat) : Tb := fun k a => if i < k ∨ (k = i ∧ a < A) then restT rows s k a else (0, 0)
theorem restT_row (rows : List (List Way)) (s : ByteArray) (i a : Nat) (hi : i < rows.length) : restT rows s i a = (rows.getD i []).foldl (stepR (s.data.toList.drop a) (fun q => restT rows s (i + 1) (a + q))) (0, 0) := by
  unfold restT
  have hd : rows.drop i = rows.getD i [] :: rows.drop (i + 1) := by
    rw [List.drop_eq_getElem_cons hi]; simp [List.getD_eq_getElem?_getD, hi]
  rw [hd]
  show (rows.getD i []).foldl (stepR (s.data.toList.drop a) (fun q => restR (rows.drop (i + 1)) ((s.data.toList.drop a).drop q))) (0, 0) = _
  refine fold_congr (fun q _ => ?_) _ _
  rw [drop_drop']
theorem rest_cost {rows : List (List Way)} {s : ByteArray} (hr : ∀ l ∈ rows, ∀ v ∈ l, 0 ≤ v.2 ∧ v.2 ≤ 1048576) (k a : Nat) (hk : k ≤ rows.length) (ha : a ≤ s.size) : 0 ≤ (restT rows s k a).1 ∧ (restT rows s k a).1 ≤ (rows.length : Int) * 1048576 := by
  have h1 := tabOf_costs (s := s.data.toList) (n := rows.length) (ln := s.size) hr (descF rows.length rows.length) _ 0 (tab0_costs rows.length s.size)
  rw [Nat.zero_add, descF_len _ _ (Nat.le_refl _)] at h1
  have h2 := h1 k a
  have h3 := tab_all rows s rows.length rfl k a hk ha
  unfold tabOf at h3
  rw [h3] at h2
  exact h2
end Go.Proofs.YtkfkkoefpfmjkaaDoor
namespace Go.Proofs.YtkfkkoefpfmjkaaDoor
set_option linter.unusedVariables false
set_option linter.unusedSimpArgs false
open Go.RowKit

/- The reference's states. -/
def tabK (rows : List (List Way)) (s : ByteArray) (K : Nat) : Tb := fun k a => if K ≤ k then restT rows s k a else (0, 0)
def StatesOk (rows : List (List Way)) (s : ByteArray) (w : World) (e : Ending) (w' : World) : Prop :=
  e = .returned (.slice (some ⟨w.heap.size, 0, none⟩) (rows.length + 1) (rows.length + 1)) ∧ Tab w' w.heap.size rows.length s.size (restT rows s) ∧ Below w.heap.size w w'
theorem tabT_zero (rows : List (List Way)) (s : ByteArray) (n i : Nat) : tabT rows s n i 0 = tabK rows s (i + 1) := by
  funext k a; unfold tabT tabK
  by_cases h : i + 1 ≤ k
  · rw [if_pos (.inl h), if_pos h]
  · rw [if_neg (by omega), if_neg h]
theorem tabT_full (rows : List (List Way)) (s : ByteArray) (n i : Nat) : ∀ k a, k ≤ n → a ≤ s.size → tabT rows s n i (s.size + 1) k a = tabK rows s i k a := by
  intro k a hk ha; unfold tabT tabK
  by_cases h : i ≤ k
  · rw [if_pos (by omega), if_pos h]
  · rw [if_neg (by omega), if_neg h]
theorem tabT_succ (rows : List (List Way)) (s : ByteArray) (n i A : Nat) : tabT rows s n i (A + 1) = upd (tabT rows s n i A) i A (restT rows s i A) := by
  funext k a
  show (if i < k ∨ (k = i ∧ a < A + 1) then restT rows s k a else (0, 0)) = (if k = i ∧ a = A then restT rows s i A else (if i < k ∨ (k = i ∧ a < A) then restT rows s k a else (0, 0)))
  by_cases h : k = i ∧ a = A
  · rw [if_pos (by omega), if_pos h, h.1, h.2]
  · rw [if_neg h]
    by_cases h2 : i < k ∨ (k = i ∧ a < A)
    · rw [if_pos (by omega), if_pos h2]
    · rw [if_neg (by omega), if_neg h2]
theorem has_ext (s : ByteArray) (a : Nat) (v : ByteArray) (h : a + v.size ≤ s.size) : Lib.hasPrefix (s.data.toList.drop a) v.data.toList = ((s.extract a (a + v.size)).toList == v.toList) := by
  have e : (s.extract a (a + v.size)).data.toList = (s.data.toList.drop a).take v.data.toList.length := by
    rw [ByteArray.data_extract, Array.toList_extract, List.extract_eq_take_drop]
    congr 1
    simp
  rw [ByteArray.toList_eq, ByteArray.toList_eq, e, Bool.eq_iff_iff, beq_iff_eq]
  unfold Lib.hasPrefix
  rw [List.isPrefixOf_iff_prefix, List.prefix_iff_eq_take]
  exact eq_comm
theorem stepR_no {D : List UInt8} {nx : Nat → Cell} {b : Cell} {v : Way} (h : Lib.hasPrefix D v.1.data.toList = false) : stepR D nx b v = b := by
  unfold stepR; rw [h]; rfl
theorem stepR_big {s : ByteArray} {a : Nat} {nx : Nat → Cell} {b : Cell} {v : Way} (ha : a ≤ s.size) (h : s.size < a + v.1.size) : stepR (s.data.toList.drop a) nx b v = b := by
  refine stepR_no ?_
  cases hp : Lib.hasPrefix (s.data.toList.drop a) v.1.data.toList with
  | false => rfl
  | true =>
    have := hasPrefix_len hp
    simp only [List.length_drop, Array.length_toList, ByteArray.size_data] at this
    omega
theorem stepR_yes {D : List UInt8} {nx : Nat → Cell} {b : Cell} {v : Way} (h : Lib.hasPrefix D v.1.data.toList = true) : stepR D nx b v = stepB true (nx v.1.size) v.2 b := by
  unfold stepR stepB; rw [if_pos h, if_pos rfl]
set_option maxRecDepth 100000 in
set_option maxHeartbeats 4000000 in
theorem states_any (A : Option Addr) (c : Nat) (rows : List (List Way)) (s : ByteArray) (w : World) (h : IsRows w w.heap.size A rows) (hcap : rows.length ≤ c) (h0 : 0 < rows.length) (hn : rows.length ≤ 17) (hs : s.size ≤ 66)
    (hl : ∀ l ∈ rows, l.length ≤ 16 ∧ ∀ v ∈ l, 0 ≤ v.2 ∧ v.2 ≤ 1048576) (hv : ∀ l ∈ rows, ∀ v ∈ l, v.1.size ≤ 1000) :
    Calls Tryd.prog 61 #[.slice A rows.length c, .string s] w (StatesOk rows s w) := by
  have hmk1 := make_outer2 rows.length (by omega)
  have hmk2 := make_row2 s.size (by omega)
  have H := Lib.hid h
  have Hl := Lib.hid hl
  have Hv := Lib.hid hv
  have Hcs := Lib.hid (fun k a hk ha => rest_cost (s := s) (fun l hll => (hl l hll).2) k a hk ha)
  have Hstart := Lib.hid (tabS_start rows s)
  have Hrow := Lib.hid (restT_row rows s)
  generalize hn' : rows.length = n at *
  have Hn := Lib.hid hn'
  clear h hl hn' hv
  go_enter Tryd.func61, Tryd.ntmps61
  go_wp2_with fail
  generalize hW2 : w.alloc (.cells (madeCells #[.slice none 0 0] (n + 1)) 118) = W2
  have hF0 : Fill2 w W2 w.heap.size n s.size 0 := by
    have b1 := World.size_alloc w (.cells (madeCells #[.slice none 0 0] (n + 1)) 118)
    have c1 : W2.heap[w.heap.size]? = some (.cells (madeCells #[.slice none 0 0] (n + 1)) 118 (0, 0)) := by rw [← hW2]; exact World.alloc_heap_new w _
    refine ⟨fun j hj => by omega, fun j _ hj => ?_, fun j => frozen_of_row _ _ j _ 118 c1, fun j o hj => by omega, fun j o hj => by omega, by rw [← hW2, b1], by rw [← hW2]; exact (Below.refl _ w).alloc (Nat.le_refl _) _⟩
    rw [cell_of_row W2 _ j _ 118 (0, 0) c1]; exact made_nil _ _ (by omega)
  have HF0 := Lib.hid hF0
  clear hF0 hW2 hmk1
  go_loopw [20] (fun i wr => ∃ k : Nat, k ≤ n + 1 ∧ i = .int .i64 k ∧ Hid (Fill2 w wr w.heap.size n s.size k)) (fun i _ => n + 1 - (intOf i).toNat)
  case atStart => exact ⟨0, by omega, rfl, HF0⟩
  case round =>
    rename_i wr
    obtain ⟨k, hk, rfl, hF⟩ := hrel
    clear HF0
    by_cases hlt : k < n + 1
    · have hsz := hF.out.sz
      have f3 := hF.out.on k (Nat.le_refl _) (by omega)
      have f4 := hF.out.oz k
      have hab : Below wr.heap.size wr (wr.alloc (.cells (madeCells #[.int .i64 0, .int .i64 0] ((s.size + 1) * 2)) 117)) := (Below.refl _ wr).alloc (Nat.le_refl _) _
      have a3 := (hab.cell (p := ⟨w.heap.size, k, none⟩) (by show w.heap.size < wr.heap.size; omega)).trans f3
      have a4 := (hab.frozen (p := ⟨w.heap.size, k, none⟩) (by show w.heap.size < wr.heap.size; omega)).trans f4
      clear hab
      have Hst := Lib.hid (hF.out.step (by omega))
      have i1 : (0 : Int) ≤ (k : Int) := by omega
      have i2 : (k : Int) < (n : Int) + 1 := by omega
      go_wp2_with fail
      go_roundw
      case rel => exact ⟨k + 1, by omega, by go_num, Lib.hid Hst.out⟩
      case measure => simp [intOf]; omega
    · obtain rfl : k = n + 1 := by omega
      have hsz := hF.out.sz
      have hT0 := hF.out.tab
      have f3 := hT0.oc n (by omega)
      have f5 := hT0.t1 n s.size (by omega) (by omega)
      have f6 := hT0.t2 n s.size (by omega) (by omega)
      have f7 := hT0.z n (s.size * 2) (by omega)
      have f8 := hT0.z n (s.size * 2 + 1) (by omega)
      have i1 : (0 : Int) ≤ (n : Int) := by omega
      have i2 : (n : Int) < (n : Int) + 1 := by omega
      have i3 : (0 : Int) ≤ (s.size : Int) := by omega
      have i4 : (s.size : Int) < (s.size : Int) + 1 := by omega
      have hT1 := (hT0.put (i := n) (a := s.size) (by omega) (by omega) (0, 1)).congr (t' := tabK rows s n) (fun k a hk ha => by rw [Hstart.out k a hk ha]; rfl)
      have HT1 := Lib.hid hT1
      have HB1 := Lib.hid ((hF.out.bl.setCell (p := ⟨w.heap.size + 1 + n, s.size * 2, none⟩) (by show w.heap.size ≤ w.heap.size + 1 + n; omega) (.int .i64 0)).setCell (p := ⟨w.heap.size + 1 + n, s.size * 2 + 1, none⟩) (by show w.heap.size ≤ w.heap.size + 1 + n; omega) (.int .i64 1))
      clear hT0 hT1 hF
      go_wp2_with fail
      obtain ⟨wo, hwo⟩ : ∃ wo : World, wo = wr := ⟨_, rfl⟩
      subst hwo
      obtain ⟨b, off, hA, hbb, hrow⟩ := H.out (by rw [Hn.out]; omega)
      subst hA
      have Hrw := Lib.hid hrow
      clear hrow f3 f5 f6 f7 f8
      go_loopw [7] (fun i wr => ∃ K : Nat, K ≤ n ∧ i = .int .i64 ((K : Int) - 1) ∧ Hid (Tab wr w.heap.size n s.size (tabK rows s K)) ∧ Hid (Below w.heap.size w wr)) (fun i _ => (intOf i + 1).toNat)
      case atStart => exact ⟨n, Nat.le_refl _, rfl, HT1, HB1⟩
      case round =>
        obtain ⟨K, hK, rfl, hT, hB⟩ := hrel
        clear HT1 HB1
        cases K with
        | zero =>
          rw [show ((0 : Nat) : Int) - 1 = -1 by omega]
          go_wp2_with fail
          go_ret
          exact ⟨by rw [Hn.out]; rfl, by rw [Hn.out]; exact hT.out, hB.out⟩
        | succ i =>
          have e1 : ((i + 1 : Nat) : Int) - 1 = (i : Int) := by omega
          rw [e1]
          clear e1
          have hin : i < n := by omega
          have hrR : i < rows.length := by rw [Hn.out]; exact hin
          obtain ⟨A', c', q1, q2, q3⟩ := Hrw.out i hrR
          have hmemr : rows.getD i [] ∈ rows := by rw [List.getD_eq_getElem?_getD, List.getElem?_eq_getElem hrR]; exact List.getElem_mem _
          have hll := (Hl.out _ hmemr).1
          have Hvc := Lib.hid (Hl.out _ hmemr).2
          have Hvz := Lib.hid (Hv.out _ hmemr)
          have Hrr := Lib.hid (fun a => Hrow.out i a hin)
          have Hq1 := Lib.hid q1
          have Hq3 := Lib.hid q3
          generalize rows.getD i [] = row at *
          have i5 : (0 : Int) ≤ (i : Int) := by omega
          have i6 : (i : Int) < (n : Int) := by omega
          have i7 : (i : Int) + 1 < (n : Int) + 1 := by omega
          have hTT : Hid (Tab wr w.heap.size n s.size (tabT rows s n i 0)) := Lib.hid (by rw [tabT_zero]; exact hT.out)
          clear hmemr q1 q3 hT
          obtain ⟨wq, hwq⟩ : ∃ wq : World, wq = wr := ⟨_, rfl⟩
          subst hwq
          go_wp2_with fail
          go_loopw [8] (fun at' wr => ∃ a : Nat, a ≤ s.size + 1 ∧ at' = .int .i64 a ∧ Hid (Tab wr w.heap.size n s.size (tabT rows s n i a)) ∧ Hid (Below w.heap.size w wr)) (fun at' _ => s.size + 1 - (intOf at').toNat)
          case atStart => exact ⟨0, by omega, rfl, hTT, hB⟩
          case round =>
            obtain ⟨a, ha, rfl, hTa, hBa⟩ := hrel
            clear hTT hB
            by_cases hla : a < s.size + 1
            · have j3 : (0 : Int) ≤ (a : Int) := by omega
              have j5 : (a : Int) ≤ (s.size : Int) := by omega
              have g0 := (hBa.out.cell (p := ⟨b, off + i, none⟩) hbb).trans Hq1.out
              have hszT := hTa.out.sz
              generalize hW3 : wr.alloc (.cells #[.int .i64 0, .int .i64 0] 117) = W3
              have sW3 : W3.heap.size = wr.heap.size + 1 := by rw [← hW3]; simp
              have hb3 : Below wr.heap.size wr W3 := by rw [← hW3]; exact (Below.refl _ _).alloc (Nat.le_refl _) _
              have g0' := (hb3.cell (p := ⟨b, off + i, none⟩) (by show b < wr.heap.size; omega)).trans g0
              have g0l : (wr.alloc (.cells #[.int .i64 0, .int .i64 0] 117)).cell? ⟨b, off + i, none⟩ = some (.slice A' row.length c') := by rw [hW3]; exact g0'
              have c1 : W3.heap[wr.heap.size]? = some (.cells #[.int .i64 0, .int .i64 0] 117 (0, 0)) := by rw [← hW3]; exact World.alloc_heap_new wr _
              have HT3 := Lib.hid (hTa.out.below (hb3.mono (by omega)))
              have HB3 := Lib.hid (hBa.out.trans (hb3.mono (by omega)))
              have Hc1 := Lib.hid c1
              have HW3 := Lib.hid hW3
              clear hW3 c1 hb3 hTa hBa g0 g0'
              go_wp2_with fail
              rw [HW3.out]
              obtain ⟨wa, hwa⟩ : ∃ wa : World, wa = wr := ⟨_, rfl⟩
              subst hwa
              clear g0l
              go_loopw [58] (fun i' wr => ∃ k : Nat, k ≤ row.length ∧ i' = .int .i64 k ∧ Hid (Tab wr w.heap.size n s.size (tabT rows s n i a)) ∧ Hid (Below w.heap.size w wr) ∧ ∃ cc : Cell, Hid (cc = (row.take k).foldl (stepR (s.data.toList.drop a) (fun q => restT rows s (i + 1) (a + q))) (0, 0)) ∧ Hid (wr.heap[wa.heap.size]? = some (.cells #[.int .i64 cc.1, .int .i64 cc.2] 117 (0, 0)))) (fun i' _ => row.length - (intOf i').toNat)
              case atStart => exact ⟨0, by omega, rfl, HT3, HB3, (0, 0), Lib.hid rfl, Hc1⟩
              case round =>
                obtain ⟨k, hk, rfl, hT4, hB4, cc, hcc, hC4⟩ := hrel
                clear HT3 HB3 Hc1
                by_cases hlk : k < row.length
                · obtain ⟨bw, ow, rfl, hbw, hcw⟩ := Hq3.out (by omega)
                  have g1 := (hB4.out.cell (p := ⟨bw, ow + k * 2, none⟩) hbw).trans (hcw k hlk).1
                  have g2 := (hB4.out.cell (p := ⟨bw, ow + k * 2 + 1, none⟩) hbw).trans (hcw k hlk).2
                  have hmem : row.getD k default ∈ row := by rw [List.getD_eq_getElem?_getD, List.getElem?_eq_getElem hlk]; exact List.getElem_mem hlk
                  have hvc := Hvc.out _ hmem
                  have hvz := Hvz.out _ hmem
                  have hfs := foldl_snoc (stepR (s.data.toList.drop a) (fun q => restT rows s (i + 1) (a + q))) (0, 0) row k hlk
                  rw [← hcc.out] at hfs
                  have Hfs := Lib.hid hfs
                  clear hmem hcw hfs
                  generalize row.getD k default = v at *
                  obtain ⟨vs, vc⟩ := v
                  simp only [] at g1 g2 hvc hvz
                  obtain ⟨c1, c2⟩ := cc
                  have hC0 := hC4.out
                  simp only [] at hC0
                  have hszT := hT4.out.sz
                  have hwaL : wa.heap.size < wr.heap.size := (Array.getElem?_eq_some_iff.1 hC0).1
                  generalize hW5 : wr.alloc (.cells #[.string vs, .int .i64 vc] 100) = W5
                  have sW5 : W5.heap.size = wr.heap.size + 1 := by rw [← hW5]; simp
                  have hb5 : Below wr.heap.size wr W5 := by rw [← hW5]; exact (Below.refl _ _).alloc (Nat.le_refl _) _
                  have HT5 := Lib.hid (hT4.out.below (hb5.mono (by omega)))
                  have HB5 := Lib.hid (hB4.out.trans (hb5.mono (by omega)))
                  have v1 : W5.cell? ⟨wr.heap.size, 0, none⟩ = some (.string vs) := by rw [← hW5]; simp
                  have v2 : W5.cell? ⟨wr.heap.size, 1, none⟩ = some (.int .i64 vc) := by rw [← hW5]; simp
                  have HC5 : Hid (W5.heap[wa.heap.size]? = some (.cells #[.int .i64 c1, .int .i64 c2] 117 (0, 0))) := Lib.hid ((hb5.block _ hwaL).trans hC0)
                  have HW5 := Lib.hid hW5
                  clear hW5 hb5 hC0 hT4 hB4
                  have hend : ∀ (c' : Cell) (W' : World), stepR (s.data.toList.drop a) (fun q => restT rows s (i + 1) (a + q)) (c1, c2) (vs, vc) = c' → Tab W' w.heap.size n s.size (tabT rows s n i a) → Below w.heap.size w W' → W'.heap[wa.heap.size]? = some (.cells #[.int .i64 c'.1, .int .i64 c'.2] 117 (0, 0)) →
                      Tab W' w.heap.size n s.size (tabT rows s n i a) ∧ Below w.heap.size w W' ∧ ∃ cc : Cell, Hid (cc = (row.take (k + 1)).foldl (stepR (s.data.toList.drop a) (fun q => restT rows s (i + 1) (a + q))) (0, 0)) ∧ Hid (W'.heap[wa.heap.size]? = some (.cells #[.int .i64 cc.1, .int .i64 cc.2] 117 (0, 0))) :=
                    fun c' W' hc h1 h2 h3 => ⟨h1, h2, c', Lib.hid (by rw [Hfs.out, hc]), Lib.hid h3⟩
                  have Hend := Lib.hid hend
                  clear hend
                  by_cases hbig : s.size < a + vs.size
                  · have hd : decide ((s.size : Int) < (a : Int) + (vs.size : Int)) = true := decide_eq_true (by omega)
                    have hd' : (s.size : Int) < (a : Int) + (vs.size : Int) := by omega
                    have Hst := Lib.hid (stepR_big (nx := fun q => restT rows s (i + 1) (a + q)) (b := (c1, c2)) (v := (vs, vc)) (by omega) hbig)
                    go_wp2_with fail
                    rw [HW5.out]
                    go_quiet (fail)
                    obtain ⟨hE1, hE2, hE3⟩ := Hend.out (c1, c2) (W5.drewN nq) Hst.out ⟨HT5.out.oc, HT5.out.t1, HT5.out.t2, HT5.out.z, HT5.out.sz⟩ (belowD HB5.out nq) HC5.out
                    have HE1 := Lib.hid hE1
                    have HE2 := Lib.hid hE2
                    clear hE1 hE2
                    go_wp2_with fail
                    go_roundw
                    case rel => exact ⟨k + 1, by omega, by go_num, HE1, HE2, hE3⟩
                    case measure => simp [intOf]; omega
                  · have hd : decide ((s.size : Int) < (a : Int) + (vs.size : Int)) = false := decide_eq_false (by omega)
                    have hd' : ¬ (s.size : Int) < (a : Int) + (vs.size : Int) := by omega
                    have hd2 : (a : Int) + (vs.size : Int) ≤ (s.size : Int) := by omega
                    have hd3 : (0 : Int) ≤ (a : Int) + (vs.size : Int) := by omega
                    have hd4 : (a : Int) ≤ (a : Int) + (vs.size : Int) := by omega
                    have htn : ((a : Int) + (vs.size : Int)).toNat = a + vs.size := by omega
                    have Hhp := Lib.hid (has_ext s a vs (by omega))
                    cases hne : ((s.extract a (a + vs.size)).toList == vs.toList) with
                    | false =>
                      have hne' : ((s.extract a (a + vs.size)).toList != vs.toList) = true := by simp [bne, hne]
                      have Hst := Lib.hid (stepR_no (nx := fun q => restT rows s (i + 1) (a + q)) (b := (c1, c2)) (v := (vs, vc)) (D := s.data.toList.drop a) (Hhp.out.trans hne))
                      go_wp2_with fail
                      rw [HW5.out]
                      go_quiet (fail)
                      obtain ⟨hE1, hE2, hE3⟩ := Hend.out (c1, c2) (W5.drewN nq) Hst.out ⟨HT5.out.oc, HT5.out.t1, HT5.out.t2, HT5.out.z, HT5.out.sz⟩ (belowD HB5.out nq) HC5.out
                      have HE1 := Lib.hid hE1
                      have HE2 := Lib.hid hE2
                      clear hE1 hE2
                      go_wp2_with fail
                      go_roundw
                      case rel => exact ⟨k + 1, by omega, by go_num, HE1, HE2, hE3⟩
                      case measure => simp [intOf]; omega
                    | true =>
                      have hne' : ((s.extract a (a + vs.size)).toList != vs.toList) = false := by simp [bne, hne]
                      have Hst := Lib.hid (stepR_yes (nx := fun q => restT rows s (i + 1) (a + q)) (b := (c1, c2)) (v := (vs, vc)) (D := s.data.toList.drop a) (Hhp.out.trans hne))
                      have f3 := HT5.out.oc (i + 1) (by omega)
                      have hr1 := HT5.out.t1 (i + 1) (a + vs.size) (by omega) (by omega)
                      have hr2 := HT5.out.t2 (i + 1) (a + vs.size) (by omega) (by omega)
                      have hcs := Hcs.out (i + 1) (a + vs.size) (by omega) (by omega)
                      have htv : tabT rows s n i a (i + 1) (a + vs.size) = restT rows s (i + 1) (a + vs.size) := by unfold tabT; rw [if_pos (.inl (by omega))]
                      rw [htv] at hr1 hr2
                      simp only [] at Hst
                      generalize restT rows s (i + 1) (a + vs.size) = rc at *
                      obtain ⟨r1, r2⟩ := rc
                      simp only [] at hr1 hr2 hcs Hst
                      have hr17 : r1 ≤ 17 * 1048576 := by have := hcs.2; omega
                      have hr0 := hcs.1
                      have k7 : (a : Int) + (vs.size : Int) < (s.size : Int) + 1 := by omega
                      clear htv
                      cases h0 : (r2 == 0) with
                      | true =>
                        have Hst2 := Lib.hid (Hst.out.trans (by rw [stepB]; simp at h0; simp [h0]) : _ = (c1, c2))
                        go_wp2_with fail
                        rw [HW5.out]
                        go_quiet (fail)
                        obtain ⟨hE1, hE2, hE3⟩ := Hend.out (c1, c2) (W5.drewN nq) Hst2.out ⟨HT5.out.oc, HT5.out.t1, HT5.out.t2, HT5.out.z, HT5.out.sz⟩ (belowD HB5.out nq) HC5.out
                        have HE1 := Lib.hid hE1
                        have HE2 := Lib.hid hE2
                        clear hE1 hE2
                        go_wp2_with fail
                        go_roundw
                        case rel => exact ⟨k + 1, by omega, by go_num, HE1, HE2, hE3⟩
                        case measure => simp [intOf]; omega
                      | false =>
                        go_wp2_with fail
                        rw [HW5.out]
                        go_quiet (fail)
                        have HT6 : Hid (Tab (W5.drewN nq) w.heap.size n s.size (tabT rows s n i a)) := Lib.hid ⟨HT5.out.oc, HT5.out.t1, HT5.out.t2, HT5.out.z, HT5.out.sz⟩
                        have HB6 : Hid (Below w.heap.size w (W5.drewN nq)) := Lib.hid (belowD HB5.out nq)
                        have HC6 : Hid ((W5.drewN nq).heap[wa.heap.size]? = some (.cells #[.int .i64 c1, .int .i64 c2] 117 (0, 0))) := Lib.hid HC5.out
                        have v2' : (W5.drewN nq).cell? ⟨wr.heap.size, 1, none⟩ = some (.int .i64 vc) := v2
                        have f3' : (W5.drewN nq).cell? ⟨w.heap.size, i + 1, none⟩ = some (.slice (some ⟨w.heap.size + 1 + (i + 1), 0, none⟩) (s.size + 1) (s.size + 1)) := f3
                        have hr1' : (W5.drewN nq).cell? ⟨w.heap.size + 1 + (i + 1), (a + vs.size) * 2, none⟩ = some (.int .i64 r1) := hr1
                        have hr2' : (W5.drewN nq).cell? ⟨w.heap.size + 1 + (i + 1), (a + vs.size) * 2 + 1, none⟩ = some (.int .i64 r2) := hr2
                        have sW6 : (W5.drewN nq).heap.size = wr.heap.size + 1 := sW5
                        clear v1 v2 f3 hr1 hr2 sW5 hd hd' hne hne'
                        generalize W5.drewN nq = W6 at *
                        obtain ⟨hvc0, hvc1⟩ := hvc
                        have hw1 : IntKind.i64.wrap ((i : Int) + 1) = (i : Int) + 1 := IntWalk.i64_in _ (by omega)
                        have hw2 : IntKind.i64.wrap (r1 + vc) = r1 + vc := IntWalk.i64_in _ (by omega)
                        have i8 : (0 : Int) ≤ (i : Int) + 1 := by omega
                        have i9 : ((i : Int) + 1).toNat = i + 1 := by omega
                        go_wp2_with fail
                        go_region_held3 (fun W' => W'.cell? ⟨w.heap.size, i + 1, none⟩ = some (.slice (some ⟨w.heap.size + 1 + (i + 1), 0, none⟩) (s.size + 1) (s.size + 1)) ∧ W'.cell? ⟨w.heap.size + 1 + (i + 1), (a + vs.size) * 2, none⟩ = some (.int .i64 r1) ∧ W'.cell? ⟨w.heap.size + 1 + (i + 1), (a + vs.size) * 2 + 1, none⟩ = some (.int .i64 r2) ∧ W'.cell? ⟨wr.heap.size, 1, none⟩ = some (.int .i64 vc)) (go_keep) (fail)
                        have hal : Below W6.heap.size W6 (W6.alloc (.cells #[.int .i64 (r1 + vc), .int .i64 r2] 117)).drew := ((Below.refl _ W6).alloc (Nat.le_refl _) _).drew
                        have hwaL6 : wa.heap.size < W6.heap.size := by omega
                        have HT7 : Hid (Tab (W6.alloc (.cells #[.int .i64 (r1 + vc), .int .i64 r2] 117)).drew w.heap.size n s.size (tabT rows s n i a)) := Lib.hid (HT6.out.below (hal.mono (by omega)))
                        have HB7 : Hid (Below w.heap.size w (W6.alloc (.cells #[.int .i64 (r1 + vc), .int .i64 r2] 117)).drew) := Lib.hid (HB6.out.trans (hal.mono (by omega)))
                        have HC7 : Hid ((W6.alloc (.cells #[.int .i64 (r1 + vc), .int .i64 r2] 117)).drew.heap[wa.heap.size]? = some (.cells #[.int .i64 c1, .int .i64 c2] 117 (0, 0))) := Lib.hid ((hal.block _ hwaL6).trans HC6.out)
                        have n1 : (W6.alloc (.cells #[.int .i64 (r1 + vc), .int .i64 r2] 117)).drew.cell? ⟨wr.heap.size + 1, 0, none⟩ = some (.int .i64 (r1 + vc)) := by rw [← sW6]; simp
                        have n2 : (W6.alloc (.cells #[.int .i64 (r1 + vc), .int .i64 r2] 117)).drew.cell? ⟨wr.heap.size + 1, 1, none⟩ = some (.int .i64 r2) := by rw [← sW6]; simp
                        clear v2' f3' hr1' hr2' sW6 hal hwaL6 HT6 HB6 HC6 hw1 hw2
                        generalize (W6.alloc (.cells #[.int .i64 (r1 + vc), .int .i64 r2] 117)).drew = W7 at *
                        have s1 : W7.cell? ⟨wa.heap.size, 0, none⟩ = some (.int .i64 c1) := cell_of_row _ _ _ _ 117 (0, 0) HC7.out
                        have s2 : W7.cell? ⟨wa.heap.size, 1, none⟩ = some (.int .i64 c2) := cell_of_row _ _ _ _ 117 (0, 0) HC7.out
                        have z1 := frozen_of_row W7 wa.heap.size 0 _ 117 HC7.out
                        have z2 := frozen_of_row W7 wa.heap.size 1 _ 117 HC7.out
                        have hr20 : ¬ r2 = 0 := by simpa using h0
                        have Hs1 := Lib.hid (Hst.out.trans (show stepB true (r1, r2) vc (c1, c2) = (if c2 = 0 ∨ r1 + vc < c1 then (r1 + vc, r2) else if r1 + vc = c1 then (c1, min (addW c2 r2) manyN) else (c1, c2)) by unfold stepB; rw [if_pos rfl, if_neg hr20]))
                        clear hr20 h0
                        cases hc0 : (c2 == 0) with
                        | true =>
                          obtain ⟨hE1, hE2, hE3⟩ := Hend.out (r1 + vc, r2) ((W7.setCell ⟨wa.heap.size, 0, none⟩ (.int .i64 (r1 + vc))).setCell ⟨wa.heap.size, 1, none⟩ (.int .i64 r2)) (by rw [Hs1.out, if_pos (.inl (by simpa using hc0))]) (HT7.out.below (((Below.refl (w.heap.size + 1 + n + 1) W7).setCell (p := ⟨wa.heap.size, 0, none⟩) (by show _ ≤ wa.heap.size; omega) _).setCell (p := ⟨wa.heap.size, 1, none⟩) (by show _ ≤ wa.heap.size; omega) _)) ((HB7.out.setCell (p := ⟨wa.heap.size, 0, none⟩) (by show w.heap.size ≤ wa.heap.size; omega) _).setCell (p := ⟨wa.heap.size, 1, none⟩) (by show w.heap.size ≤ wa.heap.size; omega) _) (heap_setCell_same _ wa.heap.size 1 _ 117 (.int .i64 r2) (heap_setCell_same W7 wa.heap.size 0 _ 117 (.int .i64 (r1 + vc)) HC7.out))
                          have HE1 := Lib.hid hE1
                          have HE2 := Lib.hid hE2
                          have HE3 := Lib.hid hE3
                          clear hE1 hE2 hE3
                          go_wp2_with fail
                          go_roundw
                          case rel => exact ⟨k + 1, by omega, by go_num, HE1, HE2, HE3.out⟩
                          case measure => simp [intOf]; omega
                        | false =>
                          have Hc0 : Hid (¬ c2 = 0) := Lib.hid (by simpa using hc0)
                          by_cases hlt : r1 + vc < c1
                          · obtain ⟨hE1, hE2, hE3⟩ := Hend.out (r1 + vc, r2) ((W7.setCell ⟨wa.heap.size, 0, none⟩ (.int .i64 (r1 + vc))).setCell ⟨wa.heap.size, 1, none⟩ (.int .i64 r2)) (by rw [Hs1.out, if_pos (.inr hlt)]) (HT7.out.below (((Below.refl (w.heap.size + 1 + n + 1) W7).setCell (p := ⟨wa.heap.size, 0, none⟩) (by show _ ≤ wa.heap.size; omega) _).setCell (p := ⟨wa.heap.size, 1, none⟩) (by show _ ≤ wa.heap.size; omega) _)) ((HB7.out.setCell (p := ⟨wa.heap.size, 0, none⟩) (by show w.heap.size ≤ wa.heap.size; omega) _).setCell (p := ⟨wa.heap.size, 1, none⟩) (by show w.heap.size ≤ wa.heap.size; omega) _) (heap_setCell_same _ wa.heap.size 1 _ 117 (.int .i64 r2) (heap_setCell_same W7 wa.heap.size 0 _ 117 (.int .i64 (r1 + vc)) HC7.out))
                            have HE1 := Lib.hid hE1
                            have HE2 := Lib.hid hE2
                            have HE3 := Lib.hid hE3
                            clear hE1 hE2 hE3
                            go_wp2_with fail
                            go_roundw
                            case rel => exact ⟨k + 1, by omega, by go_num, HE1, HE2, HE3.out⟩
                            case measure => simp [intOf]; omega
                          · have Hs2 := Lib.hid (Hs1.out.trans (if_neg (fun h => h.elim Hc0.out hlt)))
                            cases heq : (r1 + vc == c1) with
                            | false =>
                              obtain ⟨hE1, hE2, hE3⟩ := Hend.out (c1, c2) W7 (by rw [Hs2.out, if_neg (by simpa using heq)]) HT7.out HB7.out HC7.out
                              have HE1 := Lib.hid hE1
                              have HE2 := Lib.hid hE2
                              have HE3 := Lib.hid hE3
                              clear hE1 hE2 hE3
                              go_wp2_with fail
                              go_roundw
                              case rel => exact ⟨k + 1, by omega, by go_num, HE1, HE2, HE3.out⟩
                              case measure => simp [intOf]; omega
                            | true =>
                              have Hs3 := Lib.hid (Hs2.out.trans (if_pos (by simpa using heq)))
                              have hwv : (min (addW c2 r2) manyN : Int) = min (wrap64 (c2 + r2)) 4611686018427387904 := by unfold addW manyN; rw [IntWalk.i64_left]
                              obtain ⟨hE1, hE2, hE3⟩ := Hend.out (c1, min (wrap64 (c2 + r2)) 4611686018427387904) (W7.setCell ⟨wa.heap.size, 1, none⟩ (.int .i64 (min (wrap64 (c2 + r2)) 4611686018427387904))) (by rw [Hs3.out, hwv]) (HT7.out.below ((Below.refl (w.heap.size + 1 + n + 1) W7).setCell (p := ⟨wa.heap.size, 1, none⟩) (by show _ ≤ wa.heap.size; omega) _)) (HB7.out.setCell (p := ⟨wa.heap.size, 1, none⟩) (by show w.heap.size ≤ wa.heap.size; omega) _) (heap_setCell_same W7 wa.heap.size 1 _ 117 (.int .i64 (min (wrap64 (c2 + r2)) 4611686018427387904)) HC7.out)
                              have HE1 := Lib.hid hE1
                              have HE2 := Lib.hid hE2
                              have HE3 := Lib.hid hE3
                              clear hE1 hE2 hE3 hwv
                              go_wp2_with fail
                              go_roundw
                              case rel => exact ⟨k + 1, by omega, by go_num, HE1, HE2, HE3.out⟩
                              case measure => simp [intOf]; omega
                · obtain rfl : k = row.length := by omega
                  have Hfull : Hid (cc = restT rows s i a) := Lib.hid (by rw [hcc.out, List.take_length, Hrr.out])
                  have hC9 := hC4.out
                  rw [Hfull.out] at hC9
                  have hsu := tabT_succ rows s n i a
                  have hputT := hT4.out.put (i := i) (a := a) (by omega) (by omega) (restT rows s i a)
                  rw [← hsu] at hputT
                  generalize restT rows s i a = cf at *
                  obtain ⟨d1, d2⟩ := cf
                  simp only [] at hC9 hputT
                  have HP := Lib.hid hputT
                  have HPB := Lib.hid ((hB4.out.setCell (p := ⟨w.heap.size + 1 + i, a * 2, none⟩) (by show w.heap.size ≤ w.heap.size + 1 + i; omega) (.int .i64 d1)).setCell (p := ⟨w.heap.size + 1 + i, a * 2 + 1, none⟩) (by show w.heap.size ≤ w.heap.size + 1 + i; omega) (.int .i64 d2))
                  have f3 := hT4.out.oc i (by omega)
                  have t1 := hT4.out.t1 i a (by omega) (by omega)
                  have t2 := hT4.out.t2 i a (by omega) (by omega)
                  have z1 := hT4.out.z i (a * 2) (by omega)
                  have z2 := hT4.out.z i (a * 2 + 1) (by omega)
                  have s1 : wr.cell? ⟨wa.heap.size, 0, none⟩ = some (.int .i64 d1) := cell_of_row _ _ _ _ 117 (0, 0) hC9
                  have s2 : wr.cell? ⟨wa.heap.size, 1, none⟩ = some (.int .i64 d2) := cell_of_row _ _ _ _ 117 (0, 0) hC9
                  have i8 : (i : Int) < (n : Int) + 1 := by omega
                  have j6 : (a : Int) < (s.size : Int) + 1 := by omega
                  clear hcc Hfull hC4 hC9 hsu hputT hT4 hB4
                  go_wp2_with fail
                  go_region
                  all_goals
                    go_wp2_with fail
                    go_roundw
                    case rel => exact ⟨a + 1, by omega, by go_num, Lib.hid ⟨HP.out.oc, HP.out.t1, HP.out.t2, HP.out.z, HP.out.sz⟩, Lib.hid HPB.out.drew⟩
                    case measure => simp [intOf]; omega
            · obtain rfl : a = s.size + 1 := by omega
              have hTK : Hid (Tab wr w.heap.size n s.size (tabK rows s i)) := Lib.hid (hTa.out.congr (tabT_full rows s n i))
              go_wp2_with fail
              go_roundw
              case rel => exact ⟨i, by omega, rfl, hTK, hBa⟩
              case measure => simp [intOf]
end Go.Proofs.YtkfkkoefpfmjkaaDoor

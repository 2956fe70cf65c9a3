import Derived.Test.YtkfkkoefpfmjkaaDoorVE
namespace Go.Proofs.YtkfkkoefpfmjkaaDoor
set_option linter.unusedVariables false
set_option linter.unusedSimpArgs false
open Go.RowKit

/- Spans. -/
def preL (fs : List Ft) (k : Nat) : Int := ((fs.take k).map fun f => (f.own.size : Int)).sum
theorem preL_zero (fs : List Ft) : preL fs 0 = 0 := rfl
theorem preL_succ (fs : List Ft) (k : Nat) (h : k < fs.length) : preL fs (k + 1) = preL fs k + ((fs.getD k default).own.size : Int) := by
  unfold preL; rw [take_snoc' fs k h, List.map_append, List.sum_append]; simp
def OwnFour (fs : List Ft) : Prop := ∀ f ∈ fs, f.own.size ≤ 4
theorem preL_bd {fs : List Ft} (h : OwnFour fs) : ∀ k, k ≤ fs.length → 0 ≤ preL fs k ∧ preL fs k ≤ 4 * k
  | 0, _ => by rw [preL_zero]; omega
  | k + 1, hk => by
    have ih := preL_bd h k (by omega)
    rw [preL_succ fs k (by omega)]
    have hm : fs.getD k default ∈ fs := by
      rw [List.getD_eq_getElem?_getD, List.getElem?_eq_getElem (by omega)]; exact List.getElem_mem (by omega)
    have := h _ hm
    omega
theorem own_four {m : Met} (h : mayB m = true) : OwnFour m.feet := fun f hf => by
  unfold mayB at h
  simp only [Bool.and_eq_true, decide_eq_true_eq] at h
  have h5 := List.all_eq_true.1 h.1.2 f hf
  unfold footMay signsB at h5
  simp only [Bool.and_eq_true, decide_eq_true_eq] at h5
  omega
def spanCells (fs : List Ft) (k : Nat) : List Value := (List.range k).flatMap fun i => [.int .i64 (preL fs i), .int .i64 (preL fs (i + 1))]
theorem spanCells_succ (fs : List Ft) (k : Nat) : spanCells fs (k + 1) = spanCells fs k ++ (#[.int .i64 (preL fs k), .int .i64 (preL fs (k + 1))] : Array Value).toList := by
  unfold spanCells; rw [List.range_succ, List.flatMap_append]; simp
theorem spanCells_len (fs : List Ft) (k : Nat) : (spanCells fs k).length = k * 2 := by
  induction k with
  | zero => rfl
  | succ k ih => rw [spanCells_succ, List.length_append, ih]; simp; omega
theorem spanCells_get (fs : List Ft) (n k : Nat) (h : k < n) : (spanCells fs n)[k * 2]? = some (.int .i64 (preL fs k)) ∧ (spanCells fs n)[k * 2 + 1]? = some (.int .i64 (preL fs (k + 1))) := by
  induction n with
  | zero => omega
  | succ n ih =>
    rw [spanCells_succ]
    have hl := spanCells_len fs n
    by_cases e : k < n
    · obtain ⟨h1, h2⟩ := ih e
      rw [List.getElem?_append_left (by omega), List.getElem?_append_left (by omega)]; exact ⟨h1, h2⟩
    · obtain rfl : k = n := by omega
      rw [List.getElem?_append_right (by omega), List.getElem?_append_right (by omega), hl]
      simp
theorem info68 : Tryd.prog.info? 68 = some Tryd.t68 := by kernel_rfl
theorem zero68 : Tryd.t68.zero = some (.agg #[.int .i64 0, .int .i64 0]) := by kernel_rfl
theorem size68 : Tryd.t68.size = 2 := by kernel_rfl
theorem bytes68 : Tryd.t68.bytes = 16 := by kernel_rfl
theorem cell_of_grown {w w' : World} {v : Value} {B k j : Nat} (hg : w.grownBy w' v.ownBlock) (hl : ∀ q, v.ownBlock = some q → q < B) (hB : B ≤ k) (hk : k < w.heap.size) : w'.cell? ⟨k, j, none⟩ = w.cell? ⟨k, j, none⟩ :=
  World.cell?_of_block (hg.block k hk fun e => by have := hl k e.symm; omega)
/-- spans of one's own -/
def SpansAt (m : Met) (w : World) (v : Value) (w' : World) : Prop := w'.ownsRow w.heap.size 68 2 v m.feet.length (spanCells m.feet m.feet.length) ∧ Below w.heap.size w w'
theorem own_base {w : World} {b b' : Nat} {e : TypeId} {sz : Nat} {v : Value} {n : Nat} {xs : List Value} (h : w.ownsRow b e sz v n xs) (hb : b' ≤ b) : w.ownsRow b' e sz v n xs :=
  ⟨h.1, h.2.imp id fun ⟨g, cp, cur, a1, a2, a3⟩ => ⟨g, cp, cur, a1, by omega, a3⟩⟩

set_option maxRecDepth 100000 in
set_option maxHeartbeats 8000000 in
theorem refspans_any (Af Ae Ab : Option Addr) (cf ce cb : Nat) (m : Met) (w : World) (h : IsMet w w.heap.size Af Ae Ab cf ce cb m) (hm : mayB m = true) :
    Calls Tryd.prog 31 #[.agg #[.slice Af m.feet.length cf, .slice Ae m.ends.length ce, .slice Ab m.brks.length cb]] w fun e w' => ∃ v, e = .returned v ∧ SpansAt m w v w' := by
  have hfl := (small_of hm).feet
  generalize hW1 : w.alloc (.cells #[.slice Af m.feet.length cf, .slice Ae m.ends.length ce, .slice Ab m.brks.length cb] 27) = W1
  have sW1 : W1.heap.size = w.heap.size + 1 := by rw [← hW1]; simp
  have hB1 : Below w.heap.size w W1 := by rw [← hW1]; exact (Below.refl _ _).alloc (Nat.le_refl _) _
  have m0 : W1.cell? ⟨w.heap.size, 0, none⟩ = some (.slice Af m.feet.length cf) := by rw [← hW1]; simp
  have m1 : W1.cell? ⟨w.heap.size, 1, none⟩ = some (.slice Ae m.ends.length ce) := by rw [← hW1]; simp
  have m2 : W1.cell? ⟨w.heap.size, 2, none⟩ = some (.slice Ab m.brks.length cb) := by rw [← hW1]; simp
  have HF := Lib.hid (own_four hm)
  have HW1 := Lib.hid hW1
  have HB1 := Lib.hid hB1
  have H := Lib.hid (h.on hB1)
  clear h hm hW1 hB1 m1 m2
  go_enter Tryd.func31, Tryd.ntmps31
  go_wp2_with fail
  rw [HW1.out]
  go_loopw [3, 4, 10] (fun v a i wr => ∃ (k : Nat) (A : Option Addr) (c : Nat), k ≤ m.feet.length ∧ i = .int .i64 k ∧ a = .int .i64 (preL m.feet k) ∧ v = .slice A k c ∧ Hid (wr.ownsRow W1.heap.size 68 2 (.slice A k c) k (spanCells m.feet k)) ∧ Hid (Below W1.heap.size W1 wr)) (fun _ _ i _ => m.feet.length - (intOf i).toNat)
  case atStart => exact ⟨0, none, 0, by omega, rfl, by rw [preL_zero], rfl, Lib.hid (World.ownsRow_nil _ _ _ _), Lib.hid (Below.refl _ _)⟩
  case round =>
    rename_i wr
    obtain ⟨k, A, c, hk, rfl, rfl, rfl, hown, hbl⟩ := hrel
    by_cases hlt : k < m.feet.length
    · obtain ⟨b, off, rfl, hbb, hrow⟩ := (H.out.below hbl.out).feet (by omega)
      obtain ⟨hc1, A2, c2, hc2, hcc, hIW⟩ := hrow k hlt
      have hp := preL_bd HF.out k (by omega)
      have Hsu := Lib.hid (preL_succ m.feet k hlt)
      have Hcs := Lib.hid (spanCells_succ m.feet k)
      have hbs := hbl.out.size
      have hmem : m.feet.getD k default ∈ m.feet := by
        rw [List.getD_eq_getElem?_getD, List.getElem?_eq_getElem hlt]; exact List.getElem_mem hlt
      have h4 := HF.out _ hmem
      clear hrow hIW hmem
      generalize m.feet.getD k default = f at *
      obtain ⟨own, ways⟩ := f
      simp only [] at hc1 hc2 hcc h4 Hsu
      have Hlt := Lib.hid hown.out.lt
      go_wp2_with (at_builtin; refine wpList_append_boxg _ rfl _ _ 63 rfl W1.heap.size 68 _ _ 2 16 Tryd.underlying63 info68 zero68 size68 bytes68 rfl (by decide) (.slice A k c) k (spanCells m.feet k) #[.int .i64 (preL m.feet k), .int .i64 (preL m.feet k + (own.size : Int))] (wr.heap.size + 1) rfl rfl (by simp) (hown.out.alloc _) rfl (by intro u hu; simp at hu; rcases hu with rfl | rfl <;> rfl) (by unfold maxLen; omega) (by omega) (by simp; omega) ?_; intro v5 w5 hown5 hgr5 _; rw [show preL m.feet k + (own.size : Int) = preL m.feet (k + 1) from Hsu.out.symm, ← Hcs.out] at hown5; have hcf := (cell_of_grown (j := 0) hgr5 (fun q e => (Hlt.out q e).2) (Nat.le_refl _) (by simp)).trans (cell_of_row _ _ 0 _ 81 (0, 0) (World.alloc_heap_new wr _)); have Hb5 := Lib.hid ((hbl.out.alloc hbs (.cells #[.string own, .slice A2 ways.length c2] 81)).grown hgr5 (by simp; omega) (fun q e => (Hlt.out q e).1)); obtain ⟨g5, cap5, rfl⟩ := own_form hown5 (by omega); have Hown5 := Lib.hid hown5; clear hown5 hgr5)
      go_roundw
      case rel => exact ⟨k + 1, some ⟨g5, 0, none⟩, cap5, by omega, by go_num, by rw [Hsu.out], rfl, Hown5, Hb5⟩
      case measure => simp [intOf]; omega
    · obtain rfl : k = m.feet.length := by omega
      go_wp2_with fail
      go_ret
      exact ⟨_, rfl, own_base hown.out (by omega), HB1.out.trans (hbl.out.mono (by omega))⟩

set_option maxRecDepth 100000 in
set_option maxHeartbeats 8000000 in
theorem spans_off (Af Ae Ab : Option Addr) (cf ce cb : Nat) (m : Met) (w : World) (h : IsMet w w.heap.size Af Ae Ab cf ce cb m) (hm : mayB m = false) :
    Calls Tryd.prog 30 #[.agg #[.slice Af m.feet.length cf, .slice Ae m.ends.length ce, .slice Ab m.brks.length cb]] w fun e w' => e = .returned (.tuple #[.slice none 0 0, .int .i64 2]) ∧ Below w.heap.size w w' := by
  generalize hW1 : w.alloc (.cells #[.slice Af m.feet.length cf, .slice Ae m.ends.length ce, .slice Ab m.brks.length cb] 27) = W1
  have sW1 : W1.heap.size = w.heap.size + 1 := by rw [← hW1]; simp
  have hB1 : Below w.heap.size w W1 := by rw [← hW1]; exact (Below.refl _ _).alloc (Nat.le_refl _) _
  have m0 : W1.cell? ⟨w.heap.size, 0, none⟩ = some (.slice Af m.feet.length cf) := by rw [← hW1]; simp
  have m1 : W1.cell? ⟨w.heap.size, 1, none⟩ = some (.slice Ae m.ends.length ce) := by rw [← hW1]; simp
  have m2 : W1.cell? ⟨w.heap.size, 2, none⟩ = some (.slice Ab m.brks.length cb) := by rw [← hW1]; simp
  have HW1 := Lib.hid hW1
  have HB1 := Lib.hid hB1
  have Hch := Lib.hid (check_any Af Ae Ab cf ce cb m W1 (h.on hB1))
  have Hc : Hid (checkN m = 2) := Lib.hid (by unfold checkN; rw [hm]; rfl)
  clear h hW1 hB1 hm
  go_enter Tryd.func30, Tryd.ntmps30
  go_wp2_with fail
  rw [HW1.out]
  go_wp2_with fail
  refine Hch.out.mono ?_
  rintro e w2 ⟨rfl, hb2⟩
  rw [Hc.out]
  have Hb2 := Lib.hid hb2
  clear hb2
  go_wp2_with fail
  go_ret2
  exact ⟨rfl, HB1.out.trans (Hb2.out.mono (by omega))⟩

set_option maxRecDepth 100000 in
set_option maxHeartbeats 8000000 in
theorem spans_any (Af Ae Ab : Option Addr) (cf ce cb : Nat) (m : Met) (w : World) (h : IsMet w w.heap.size Af Ae Ab cf ce cb m) (hm : mayB m = true) :
    Calls Tryd.prog 30 #[.agg #[.slice Af m.feet.length cf, .slice Ae m.ends.length ce, .slice Ab m.brks.length cb]] w fun e w' => ∃ v, e = .returned (.tuple #[v, .int .i64 0]) ∧ SpansAt m w v w' := by
  have hfl := (small_of hm).feet
  generalize hW1 : w.alloc (.cells #[.slice Af m.feet.length cf, .slice Ae m.ends.length ce, .slice Ab m.brks.length cb] 27) = W1
  have sW1 : W1.heap.size = w.heap.size + 1 := by rw [← hW1]; simp
  have hB1 : Below w.heap.size w W1 := by rw [← hW1]; exact (Below.refl _ _).alloc (Nat.le_refl _) _
  have m0 : W1.cell? ⟨w.heap.size, 0, none⟩ = some (.slice Af m.feet.length cf) := by rw [← hW1]; simp
  have m1 : W1.cell? ⟨w.heap.size, 1, none⟩ = some (.slice Ae m.ends.length ce) := by rw [← hW1]; simp
  have m2 : W1.cell? ⟨w.heap.size, 2, none⟩ = some (.slice Ab m.brks.length cb) := by rw [← hW1]; simp
  have HF := Lib.hid (own_four hm)
  have HW1 := Lib.hid hW1
  have HB1 := Lib.hid hB1
  have Hch := Lib.hid (check_any Af Ae Ab cf ce cb m W1 (h.on hB1))
  have Hc : Hid (checkN m = 0) := Lib.hid (by unfold checkN; rw [hm]; rfl)
  have HM := Lib.hid (h.on hB1)
  have Hkeep := Lib.hid fun (W2 : World) (hb2 : Below W1.heap.size W1 W2) => (hb2.cell (p := ⟨w.heap.size, 0, none⟩) (by show w.heap.size < W1.heap.size; omega)).trans m0
  clear h hW1 hB1 hm
  go_enter Tryd.func30, Tryd.ntmps30
  go_wp2_with fail
  rw [HW1.out]
  go_wp2_with fail
  refine Hch.out.mono ?_
  rintro e w2 ⟨rfl, hb2⟩
  rw [Hc.out]
  have q0 := Hkeep.out _ hb2
  have H := Lib.hid (HM.out.on hb2)
  have Hb2 := Lib.hid hb2
  have hs2 := hb2.size
  clear hb2
  go_wp2_with fail
  go_loopw [5, 6, 17] (fun v a i wr => ∃ (k : Nat) (A : Option Addr) (c : Nat), k ≤ m.feet.length ∧ i = .int .i64 k ∧ a = .int .i64 (preL m.feet k) ∧ v = .slice A k c ∧ Hid (wr.ownsRow w2.heap.size 68 2 (.slice A k c) k (spanCells m.feet k)) ∧ Hid (Below w2.heap.size w2 wr)) (fun _ _ i _ => m.feet.length - (intOf i).toNat)
  case atStart => exact ⟨0, none, 0, by omega, rfl, by rw [preL_zero], rfl, Lib.hid (World.ownsRow_nil _ _ _ _), Lib.hid (Below.refl _ _)⟩
  case round =>
    rename_i wr
    obtain ⟨k, A, c, hk, rfl, rfl, rfl, hown, hbl⟩ := hrel
    by_cases hlt : k < m.feet.length
    · obtain ⟨b, off, rfl, hbb, hrow⟩ := (H.out.below hbl.out).feet (by omega)
      obtain ⟨hc1, A2, c2, hc2, hcc, hIW⟩ := hrow k hlt
      have hp := preL_bd HF.out k (by omega)
      have Hsu := Lib.hid (preL_succ m.feet k hlt)
      have Hcs := Lib.hid (spanCells_succ m.feet k)
      have hbs := hbl.out.size
      have hmem : m.feet.getD k default ∈ m.feet := by
        rw [List.getD_eq_getElem?_getD, List.getElem?_eq_getElem hlt]; exact List.getElem_mem hlt
      have h4 := HF.out _ hmem
      clear hrow hIW hmem
      generalize m.feet.getD k default = f at *
      obtain ⟨own, ways⟩ := f
      simp only [] at hc1 hc2 hcc h4 Hsu
      have Hlt := Lib.hid hown.out.lt
      go_wp2_with (at_builtin; refine wpList_append_boxg _ rfl _ _ 63 rfl w2.heap.size 68 _ _ 2 16 Tryd.underlying63 info68 zero68 size68 bytes68 rfl (by decide) (.slice A k c) k (spanCells m.feet k) #[.int .i64 (preL m.feet k), .int .i64 (preL m.feet k + (own.size : Int))] (wr.heap.size + 1) rfl rfl (by simp) (hown.out.alloc _) rfl (by intro u hu; simp at hu; rcases hu with rfl | rfl <;> rfl) (by unfold maxLen; omega) (by omega) (by simp; omega) ?_; intro v5 w5 hown5 hgr5 _; rw [show preL m.feet k + (own.size : Int) = preL m.feet (k + 1) from Hsu.out.symm, ← Hcs.out] at hown5; have hcf := (cell_of_grown (j := 0) hgr5 (fun q e => (Hlt.out q e).2) (Nat.le_refl _) (by simp)).trans (cell_of_row _ _ 0 _ 81 (0, 0) (World.alloc_heap_new wr _)); have Hb5 := Lib.hid ((hbl.out.alloc hbs (.cells #[.string own, .slice A2 ways.length c2] 81)).grown hgr5 (by simp; omega) (fun q e => (Hlt.out q e).1)); obtain ⟨g5, cap5, rfl⟩ := own_form hown5 (by omega); have Hown5 := Lib.hid hown5; clear hown5 hgr5)
      go_roundw
      case rel => exact ⟨k + 1, some ⟨g5, 0, none⟩, cap5, by omega, by go_num, by rw [Hsu.out], rfl, Hown5, Hb5⟩
      case measure => simp [intOf]; omega
    · obtain rfl : k = m.feet.length := by omega
      go_wp2_with fail
      go_ret2
      exact ⟨_, rfl, own_base hown.out (by omega), HB1.out.trans ((Hb2.out.trans (hbl.out.mono (by omega))).mono (by omega))⟩
end Go.Proofs.YtkfkkoefpfmjkaaDoor

import Derived.Test.YtgcdopafblcbhaaGreatDoorVD
/- A mark behind a unit of fold. -/
namespace Go.Proofs.YtgcdopafblcbhaaGreatDoor
set_option linter.unusedVariables false
set_option linter.unusedSimpArgs false
open Go.RowKit Go.Lib Go.Shelf

def LowR (r : Int) : Prop := (790 ≤ r ∧ r ≤ 793) ∨ (796 ≤ r ∧ r ≤ 800) ∨ (803 ≤ r ∧ r ≤ 819) ∨ (825 ≤ r ∧ r ≤ 828) ∨ (837 ≤ r ∧ r ≤ 841) ∨ (845 ≤ r ∧ r ≤ 846) ∨ (851 ≤ r ∧ r ≤ 854) ∨ (857 ≤ r ∧ r ≤ 858)
instance (r : Int) : Decidable (LowR r) := by unfold LowR; infer_instance
theorem low_any_reg (r : Int) : r < 790 ∨ (790 ≤ r ∧ r < 794) ∨ (794 ≤ r ∧ r < 796) ∨ (796 ≤ r ∧ r < 801) ∨ (801 ≤ r ∧ r < 803) ∨ (803 ≤ r ∧ r < 820) ∨ (820 ≤ r ∧ r < 825) ∨ (825 ≤ r ∧ r < 829) ∨ (829 ≤ r ∧ r < 837) ∨ (837 ≤ r ∧ r < 842) ∨ (842 ≤ r ∧ r < 845) ∨ (845 ≤ r ∧ r < 847) ∨ (847 ≤ r ∧ r < 851) ∨ (851 ≤ r ∧ r < 855) ∨ (855 ≤ r ∧ r < 857) ∨ (857 ≤ r ∧ r < 859) ∨ 859 ≤ r := by omega
set_option maxRecDepth 100000 in
set_option maxHeartbeats 4000000 in
theorem low_any (r : Int) (w : World) : Calls Tryz.prog 186 #[.int .i32 r] w fun e w' => e = .returned (.bool (decide (LowR r))) ∧ w = w' := by
  rcases low_any_reg r with h | h | h | h | h | h | h | h | h | h | h | h | h | h | h | h | h
  all_goals
    first | have f0 : decide (r ≥ 790) = true := decide_eq_true (by omega) | have f0 : decide (r ≥ 790) = false := decide_eq_false (by omega)
    first | have f1 : decide (r ≤ 793) = true := decide_eq_true (by omega) | have f1 : decide (r ≤ 793) = false := decide_eq_false (by omega)
    first | have f2 : decide (r ≥ 796) = true := decide_eq_true (by omega) | have f2 : decide (r ≥ 796) = false := decide_eq_false (by omega)
    first | have f3 : decide (r ≤ 800) = true := decide_eq_true (by omega) | have f3 : decide (r ≤ 800) = false := decide_eq_false (by omega)
    first | have f4 : decide (r ≥ 803) = true := decide_eq_true (by omega) | have f4 : decide (r ≥ 803) = false := decide_eq_false (by omega)
    first | have f5 : decide (r ≤ 819) = true := decide_eq_true (by omega) | have f5 : decide (r ≤ 819) = false := decide_eq_false (by omega)
    first | have f6 : decide (r ≥ 825) = true := decide_eq_true (by omega) | have f6 : decide (r ≥ 825) = false := decide_eq_false (by omega)
    first | have f7 : decide (r ≤ 828) = true := decide_eq_true (by omega) | have f7 : decide (r ≤ 828) = false := decide_eq_false (by omega)
    first | have f8 : decide (r ≥ 837) = true := decide_eq_true (by omega) | have f8 : decide (r ≥ 837) = false := decide_eq_false (by omega)
    first | have f9 : decide (r ≤ 841) = true := decide_eq_true (by omega) | have f9 : decide (r ≤ 841) = false := decide_eq_false (by omega)
    first | have f10 : decide (r ≥ 845) = true := decide_eq_true (by omega) | have f10 : decide (r ≥ 845) = false := decide_eq_false (by omega)
    first | have f11 : decide (r ≤ 846) = true := decide_eq_true (by omega) | have f11 : decide (r ≤ 846) = false := decide_eq_false (by omega)
    first | have f12 : decide (r ≥ 851) = true := decide_eq_true (by omega) | have f12 : decide (r ≥ 851) = false := decide_eq_false (by omega)
    first | have f13 : decide (r ≤ 854) = true := decide_eq_true (by omega) | have f13 : decide (r ≤ 854) = false := decide_eq_false (by omega)
    first | have f14 : decide (r ≥ 857) = true := decide_eq_true (by omega) | have f14 : decide (r ≥ 857) = false := decide_eq_false (by omega)
    first | have f15 : decide (r ≤ 858) = true := decide_eq_true (by omega) | have f15 : decide (r ≤ 858) = false := decide_eq_false (by omega)
    go_enter Tryz.func186, Tryz.ntmps186
    go_wp2_with fail
    go_ret
    refine ⟨?_, rfl⟩
    first | (have e : decide (LowR r) = true := decide_eq_true (by unfold LowR; omega); rw [e]; rfl) | (have e : decide (LowR r) = false := decide_eq_false (by unfold LowR; omega); rw [e]; rfl)

theorem grown_of_alloc {w0 w' : World} {o : Obj} {row : Option Nat} (h : (w0.alloc o).grownBy w' row) : w0.grownBy w' row :=
  ⟨h.os, h.tape, h.output, Nat.le_trans (by simp) h.size, fun k hk hne => (h.block k (by simp; omega) hne).trans (Below.heap_alloc w0 o k hk)⟩
/-- append of one element that was just boxed, onto a row of the call's own: with what is turned and where the new row lies -/
theorem wpList_append_boxg {P : Program} {ops : Array Oper} {rest : List Oper} {o : Oper} {a : Act} {Q : Exit → Act → World → Prop} (w0 : World) (hgd : o.guard = none) (s x : Operand) (t : TypeId)
    (ho : o.op = .call { callee := .builtin .append, args := #[s, x], argTypes := #[t, t] })
    (base : Nat) (e : TypeId) (i : TypeInfo) (z : Value) (size bytes : Nat) (ht : P.underlying t = some (.slice e)) (hi : P.info? e = some i) (hz : i.zero = some z)
    (hsize : i.size = size) (hby : i.bytes = bytes) (hzs : z.cells.size = size) (hsz : 0 < size)
    (v : Value) (n : Nat) (xs : List Value) (nw : Array Value) (g : Nat) (hs : a.eval s = v) (hx : a.eval x = .slice (some ⟨g, 0, none⟩) 1 1) (hg : g = w0.heap.size) (hown : w0.ownsRow base e size v n xs)
    (hl : nw.size = size) (h1 : ∀ u ∈ nw.toList, u.oneCell' = true)
    (h63 : n + 1 ≤ maxLen) (hbytes : (n + 1) * bytes ≤ 140737488355328) (hbase : base ≤ w0.heap.size)
    (h : ∀ v' w', w'.ownsRow base e size v' (n + 1) (xs ++ nw.toList) → w0.grownBy w' v.ownBlock → (v'.ownBlock = v.ownBlock ∨ ∃ b, v'.ownBlock = some b ∧ w0.heap.size ≤ b) → wpList P ops Q rest (a.put o.dst v') w') : wpList P ops Q (o :: rest) a (w0.alloc (.cells nw e)) := by
  subst hg
  refine wpList_append_own_at (w0.alloc (.cells nw e)) hgd s x t ho base e i z size bytes ht hi hz hsize hby hzs hsz v n xs hs (hown.alloc _) ⟨w0.heap.size, 0, none⟩ 1 1 nw.toList hx (by simp [hl]) ?_ h1 h63 hbytes (by simp; omega) ?_
  · intro j u hu
    have e1 : (⟨w0.heap.size, 0, none⟩ : Addr).add j = ⟨w0.heap.size, j, none⟩ := by
      unfold Addr.add; by_cases hj : j = 0
      · simp [hj]
      · simp [hj]
    rw [e1, cell_of_row (w0.alloc (.cells nw e)) w0.heap.size j nw e (0, 0) (heap_alloc_new w0 _)]
    simpa using hu
  · intro v' w' h2 h3 _ h5
    refine h v' w' h2 (grown_of_alloc h3) ?_
    rcases h5 with h5 | h5
    · exact .inl h5
    · exact .inr ⟨_, h5, by simp⟩
theorem own_form1 {w : World} {base e size n : Nat} {v : Value} {xs : List Value} (h : w.ownsRow base e size v n xs) (hn : 0 < n) : ∃ g cap, v = .slice (some ⟨g, 0, none⟩) n cap := by
  rcases h.2 with ⟨_, h2⟩ | ⟨g, cap, cur, h1, _⟩
  · omega
  · exact ⟨g, cap, h1⟩
/-- nothing below S has changed but block u -/
structure But (S u : Nat) (w w' : World) : Prop where
  os : w'.os = w.os
  tape : w'.tape = w.tape
  output : w'.output = w.output
  size : w.heap.size ≤ w'.heap.size
  block : ∀ i, i < S → i ≠ u → w'.heap[i]? = w.heap[i]?
theorem But.trans {S u : Nat} {a b c : World} (h : But S u a b) (k : But S u b c) : But S u a c := ⟨k.os.trans h.os, k.tape.trans h.tape, k.output.trans h.output, Nat.le_trans h.size k.size, fun i h1 h2 => (k.block i h1 h2).trans (h.block i h1 h2)⟩
theorem But.refl (S u : Nat) (w : World) : But S u w w := ⟨rfl, rfl, rfl, Nat.le_refl _, fun _ _ _ => rfl⟩
/-- a unit in memory: its place, its byte, its base; its marks lie in rows from S on -/
structure UM (S u : Nat) (at_ br base : Int) (k : Nat) (W : World) : Prop where
  ex : ∃ lo hi nl nh xl xh, W.heap[u]? = some (.cells #[.int .i64 at_, .int .u8 br, .int .i32 base, lo, hi] 187 (0, 0)) ∧ W.ownsRow S 21 1 lo nl xl ∧ W.ownsRow S 21 1 hi nh xh ∧ nl ≤ k ∧ nh ≤ k ∧ ∀ b, lo.ownBlock = some b → hi.ownBlock ≠ some b
theorem row_slice {w : World} {B e z n : Nat} {v : Value} {x : List Value} (h : w.ownsRow B e z v n x) : ∃ A c, v = .slice A n c := by
  rcases h.2 with ⟨h1, h2⟩ | ⟨g, cap, cur, h1, _⟩
  · exact ⟨none, 0, by rw [h1, h2]⟩
  · exact ⟨_, cap, h1⟩
theorem UM.below {S u k : Nat} {at_ br base : Int} {W W' : World} (h : UM S u at_ br base k W) (hb : Below W.heap.size W W') : UM S u at_ br base k W' := by
  obtain ⟨lo, hi, nl, nh, xl, xh, h1, h2, h3, h4⟩ := h.ex
  exact ⟨lo, hi, nl, nh, xl, xh, keptB h1 hb, h2.kept (only_below hb none) (by cases lo.ownBlock <;> simp), h3.kept (only_below hb none) (by cases hi.ownBlock <;> simp), h4⟩
theorem row_off {w : World} {B e z n u t : Nat} {v : Value} {x : List Value} {cs : Array Value} (h : w.ownsRow B e z v n x) (hu : w.heap[u]? = some (.cells cs t (0, 0))) (hne : e ≠ t) : v.ownBlock = none ∨ v.ownBlock ≠ some u := by
  right
  intro e1
  obtain ⟨cur, hc⟩ := row_type h e1
  rw [hu] at hc
  cases hc
  exact hne rfl
theorem fin_3 {S u nl nh cl ch k : Nat} {at_ br base r : Int} {Al Ah : Option Addr} {xl xh : List Value} {w w5 : World} {v5 : Value} (h1 : w.heap[u]? = some (.cells #[.int .i64 at_, .int .u8 br, .int .i32 base, .slice Al nl cl, .slice Ah nh ch] 187 (0, 0)))
    (h2 : w.ownsRow S 21 1 (.slice Al nl cl) nl xl) (h3 : w.ownsRow S 21 1 (.slice Ah nh ch) nh xh) (h4 : nl ≤ k) (h5 : nh ≤ k) (h6 : ∀ b, (Value.slice Al nl cl).ownBlock = some b → (Value.slice Ah nh ch).ownBlock ≠ some b) (hSw : S ≤ w.heap.size)
    (ho : w5.ownsRow S 21 1 v5 (nl + 1) (xl ++ [iV r])) (hg : w.grownBy w5 (Value.slice Al nl cl).ownBlock) (hat : v5.ownBlock = (Value.slice Al nl cl).ownBlock ∨ ∃ b, v5.ownBlock = some b ∧ w.heap.size ≤ b) :
    w5.frozen? ⟨u, 3, none⟩ = false ∧ (∃ x, w5.cell? ⟨u, 3, none⟩ = some x) ∧ UM S u at_ br base (k + 1) (w5.setCell ⟨u, 3, none⟩ v5) ∧ But S u w (w5.setCell ⟨u, 3, none⟩ v5) := by
  have hne : some u ≠ (Value.slice Al nl cl).ownBlock := by
    intro e
    obtain ⟨cur, hc⟩ := row_type h2 e.symm
    rw [h1] at hc
    cases hc
  have hu5 := (hg.block u (Array.getElem?_eq_some_iff.1 h1).1 hne).trans h1
  have hq5 := h3.kept hg (by
    cases e : (Value.slice Ah nh ch).ownBlock with
    | none => exact .inl rfl
    | some b => exact .inr (fun e2 => (fun b e1 e2 => h6 b e2 e1) b e e2.symm))
  have hu6 := heap_setCell_same w5 u 3 _ _ v5 hu5
  have ho6 := ho.kept (grown_put w5 u 3 v5) (row_off ho hu5 (by decide))
  have hq6 := hq5.kept (grown_put w5 u 3 v5) (row_off hq5 hu5 (by decide))
  have hap : ∀ b, v5.ownBlock = some b → (Value.slice Ah nh ch).ownBlock ≠ some b := by
    intro b e1 e2
    rcases hat with e3 | ⟨b', e3, hb'⟩
    · exact h6 b (by rw [← e3]; exact e1) e2
    · rw [e1] at e3; cases e3
      have := (h3.lt b e2).2; omega
  exact ⟨frozen_of_row _ _ 3 _ _ hu5, ⟨_, cell_of_row _ _ 3 _ _ (0, 0) hu5⟩, ⟨⟨_, _, _, _, _, _, hu6, ho6, hq6, by omega, by omega, hap⟩⟩, ⟨hg.os, hg.tape, hg.output, Nat.le_trans hg.size (by simp [World.setCell]), fun i a1 a2 => (Below.heap_setCell _ _ _ _ a2).trans (hg.block i (Nat.lt_of_lt_of_le a1 hSw) (fun e => by have := (h2.lt i e.symm).1; omega))⟩⟩
theorem fin_4 {S u nl nh cl ch k : Nat} {at_ br base r : Int} {Al Ah : Option Addr} {xl xh : List Value} {w w5 : World} {v5 : Value} (h1 : w.heap[u]? = some (.cells #[.int .i64 at_, .int .u8 br, .int .i32 base, .slice Al nl cl, .slice Ah nh ch] 187 (0, 0)))
    (h2 : w.ownsRow S 21 1 (.slice Al nl cl) nl xl) (h3 : w.ownsRow S 21 1 (.slice Ah nh ch) nh xh) (h4 : nl ≤ k) (h5 : nh ≤ k) (h6 : ∀ b, (Value.slice Al nl cl).ownBlock = some b → (Value.slice Ah nh ch).ownBlock ≠ some b) (hSw : S ≤ w.heap.size)
    (ho : w5.ownsRow S 21 1 v5 (nh + 1) (xh ++ [iV r])) (hg : w.grownBy w5 (Value.slice Ah nh ch).ownBlock) (hat : v5.ownBlock = (Value.slice Ah nh ch).ownBlock ∨ ∃ b, v5.ownBlock = some b ∧ w.heap.size ≤ b) :
    w5.frozen? ⟨u, 4, none⟩ = false ∧ (∃ x, w5.cell? ⟨u, 4, none⟩ = some x) ∧ UM S u at_ br base (k + 1) (w5.setCell ⟨u, 4, none⟩ v5) ∧ But S u w (w5.setCell ⟨u, 4, none⟩ v5) := by
  have hne : some u ≠ (Value.slice Ah nh ch).ownBlock := by
    intro e
    obtain ⟨cur, hc⟩ := row_type h3 e.symm
    rw [h1] at hc
    cases hc
  have hu5 := (hg.block u (Array.getElem?_eq_some_iff.1 h1).1 hne).trans h1
  have hq5 := h2.kept hg (by
    cases e : (Value.slice Al nl cl).ownBlock with
    | none => exact .inl rfl
    | some b => exact .inr (fun e2 => (fun b e1 e2 => h6 b e1 e2) b e e2.symm))
  have hu6 := heap_setCell_same w5 u 4 _ _ v5 hu5
  have ho6 := ho.kept (grown_put w5 u 4 v5) (row_off ho hu5 (by decide))
  have hq6 := hq5.kept (grown_put w5 u 4 v5) (row_off hq5 hu5 (by decide))
  have hap : ∀ b, (Value.slice Al nl cl).ownBlock = some b → v5.ownBlock ≠ some b := by
    intro b e2 e1
    rcases hat with e3 | ⟨b', e3, hb'⟩
    · exact h6 b e2 (by rw [← e3]; exact e1)
    · rw [e1] at e3; cases e3
      have := (h2.lt b e2).2; omega
  exact ⟨frozen_of_row _ _ 4 _ _ hu5, ⟨_, cell_of_row _ _ 4 _ _ (0, 0) hu5⟩, ⟨⟨_, _, _, _, _, _, hu6, hq6, ho6, by omega, by omega, hap⟩⟩, ⟨hg.os, hg.tape, hg.output, Nat.le_trans hg.size (by simp [World.setCell]), fun i a1 a2 => (Below.heap_setCell _ _ _ _ a2).trans (hg.block i (Nat.lt_of_lt_of_le a1 hSw) (fun e => by have := (h3.lt i e.symm).1; omega))⟩⟩
set_option maxRecDepth 100000 in
set_option maxHeartbeats 8000000 in
theorem mark_unit (S u : Nat) (at_ br base r : Int) (k : Nat) (hk : k ≤ 100) (w : World) (h : UM S u at_ br base k w) (hSw : S ≤ w.heap.size) :
    Calls Tryz.prog 141 #[.pointer (some ⟨u, 0, none⟩), .int .i32 r] w fun e w' => (∃ v, e = .returned v) ∧ UM S u at_ br base (k + 1) w' ∧ But S u w w' := by
  obtain ⟨lo, hi, nl, nh, xl, xh, h1, h2, h3, h4, h5, h6⟩ := h.ex
  obtain ⟨Al, cl, rfl⟩ := row_slice h2
  obtain ⟨Ah, ch, rfl⟩ := row_slice h3
  have c3 : w.cell? ⟨u, 3, none⟩ = some (.slice Al nl cl) := cell_of_row _ _ 3 _ _ (0, 0) h1
  have c4 : w.cell? ⟨u, 4, none⟩ = some (.slice Ah nh ch) := cell_of_row _ _ 4 _ _ (0, 0) h1
  have z3 := frozen_of_row _ _ 3 _ _ h1
  have z4 := frozen_of_row _ _ 4 _ _ h1
  have hul := (Array.getElem?_eq_some_iff.1 h1).1
  have Hlw := Lib.hid (low_any r w)
  clear h
  by_cases hl : LowR r
  · rw [decide_eq_true hl] at Hlw
    have H2 := Lib.hid h2
    have H3 := Lib.hid h3
    have H1 := Lib.hid h1
    clear h1 h2 h3
    go_enter Tryz.func141, Tryz.ntmps141
    go_wp2_with fail
    refine Hlw.out.mono ?_
    rintro e w2 ⟨rfl, rfl⟩
    have Hf := Lib.hid fun (v5 : Value) (w5 : World) (ho : w5.ownsRow S 21 1 v5 (nl + 1) (xl ++ [iV r])) (hg : w.grownBy w5 (Value.slice Al nl cl).ownBlock) (hat : v5.ownBlock = (Value.slice Al nl cl).ownBlock ∨ ∃ b, v5.ownBlock = some b ∧ w.heap.size ≤ b) => fin_3 (r := r) H1.out H2.out H3.out h4 h5 h6 hSw ho hg hat
    go_wp2_with (at_builtin; go_loud (refine wpList_append_boxg w rfl _ _ 144 rfl S 21 _ _ 1 4 Tryz.underlying144 infoR zeroR sizeR bytesR rfl (by decide) (.slice Al nl cl) nl xl #[.int .i32 r] w.heap.size rfl rfl rfl H2.out rfl (by intro u hu; simp at hu; subst hu; rfl) (by unfold maxLen; omega) (by omega) hSw ?_; intro v5 w5 hown5 hgr5 hl5; obtain ⟨g5, cap5, rfl⟩ := own_form1 hown5 (by omega); obtain ⟨hz5, ⟨x5, hx5⟩, hF5⟩ := Hf.out _ w5 hown5 hgr5 hl5; have HF5 := Lib.hid hF5; clear hown5 hgr5 hl5))
    go_end0
    exact ⟨⟨_, rfl⟩, HF5.out⟩
  · rw [decide_eq_false hl] at Hlw
    have H2 := Lib.hid h2
    have H3 := Lib.hid h3
    have H1 := Lib.hid h1
    clear h1 h2 h3
    go_enter Tryz.func141, Tryz.ntmps141
    go_wp2_with fail
    refine Hlw.out.mono ?_
    rintro e w2 ⟨rfl, rfl⟩
    have Hf := Lib.hid fun (v5 : Value) (w5 : World) (ho : w5.ownsRow S 21 1 v5 (nh + 1) (xh ++ [iV r])) (hg : w.grownBy w5 (Value.slice Ah nh ch).ownBlock) (hat : v5.ownBlock = (Value.slice Ah nh ch).ownBlock ∨ ∃ b, v5.ownBlock = some b ∧ w.heap.size ≤ b) => fin_4 (r := r) H1.out H2.out H3.out h4 h5 h6 hSw ho hg hat
    go_wp2_with (at_builtin; go_loud (refine wpList_append_boxg w rfl _ _ 144 rfl S 21 _ _ 1 4 Tryz.underlying144 infoR zeroR sizeR bytesR rfl (by decide) (.slice Ah nh ch) nh xh #[.int .i32 r] w.heap.size rfl rfl rfl H3.out rfl (by intro u hu; simp at hu; subst hu; rfl) (by unfold maxLen; omega) (by omega) hSw ?_; intro v5 w5 hown5 hgr5 hl5; obtain ⟨g5, cap5, rfl⟩ := own_form1 hown5 (by omega); obtain ⟨hz5, ⟨x5, hx5⟩, hF5⟩ := Hf.out _ w5 hown5 hgr5 hl5; have HF5 := Lib.hid hF5; clear hown5 hgr5 hl5))
    go_end0
    exact ⟨⟨_, rfl⟩, HF5.out⟩
end Go.Proofs.YtgcdopafblcbhaaGreatDoor

import Derived.Test.YthmpfnmdplknlaaGreatLH
/- line.New at a text of noughts: a line without words. -/
namespace Go.Proofs.YthmpfnmdplknlaaGreat
set_option linter.unusedVariables false
set_option linter.unusedSimpArgs false
open Go.RowKit Go.Lib Go.Shelf
attribute [local go_sem] Oper.semAt_some
/-- what lies while the words are gone through -/
structure NI (N B : Nat) (V : World) : Prop where
  r0 : InBox (B + 3) 23 (.pointer none) V
  r1 : InBox (B + 4) 26 (.int .i64 0) V
  ln : V.heap[B + 5]? = some (.cells #[.string (Zt N), .slice none 0 0, .slice none 0 0, .slice none 0 0, .slice none 0 0] 60 (0, 0))
  pl : InBox (B + 6) 23 (.pointer (some ⟨B + 5, 0, none⟩)) V
  al : InBox (B + 7) 3 (.int .i64 0) V
theorem NI.grown {N B M : Nat} {V V' : World} {row : Option Nat} (h : NI N B V) (hg : V.grownBy V' row) (hr : ∀ r, row = some r → M ≤ r) (hM : B + 8 ≤ M) : NI N B V' :=
  ⟨old_at h.r0 hg hr (by omega), old_at h.r1 hg hr (by omega), old_at h.ln hg hr (by omega), old_at h.pl hg hr (by omega), old_at h.al hg hr (by omega)⟩
theorem LineM.grown {lb r : Nat} {V V' : World} (h : LineM lb V) (hg : V.grownBy V' (some r)) (h1 : lb ≠ r) (h2 : ∀ cs, V.heap[r]? = some (.cells cs 101 (0, 0)) → False) : LineM lb V' := by
  obtain ⟨g, s, a, b⟩ := h
  exact ⟨g, s, keptG a hg h1, keptG b hg (fun e => h2 _ (by rw [← e]; exact b))⟩
theorem at_alloc {V : World} {n : Nat} (h : V.heap.size = n) (o : Obj) : (V.alloc o).heap[n]? = some o := by rw [← h]; exact World.alloc_heap_new V o
theorem NI.start {N B : Nat} {V0 : World} (h0 : V0.heap.size = B + 3) : NI N B (((((V0.alloc (.cells #[.pointer none] 23)).alloc (.cells #[.int .i64 0] 26)).alloc (.cells #[.string (Zt N), .slice none 0 0, .slice none 0 0, .slice none 0 0, .slice none 0 0] 60)).alloc (.cells #[.pointer (some ⟨B + 5, 0, none⟩)] 23)).alloc (.cells #[.int .i64 0] 3)) := by
  refine ⟨al_at (al_at (al_at (al_at (at_alloc h0 _) _) _) _) _, al_at (al_at (al_at (at_alloc ?_ _) _) _) _, al_at (al_at (at_alloc ?_ _) _) _, al_at (at_alloc ?_ _) _, at_alloc ?_ _⟩
  · rw [World.size_alloc, h0]
  · rw [World.size_alloc, World.size_alloc, h0]
  · rw [World.size_alloc, World.size_alloc, World.size_alloc, h0]
  · rw [World.size_alloc, World.size_alloc, World.size_alloc, World.size_alloc, h0]
set_option maxRecDepth 100000 in
set_option maxHeartbeats 4000000 in
theorem new_fine (N p : Nat) (hN : N ≤ 1024) (w : World) : Calls Tryz.prog 12 #[.pointer (some ⟨p, 0, none⟩), .int .i64 4, .string (Zt N)] w fun e w' => ∃ lb, e = .returned (.tuple #[.pointer (some ⟨lb, 0, none⟩), .int .i64 0]) ∧ LineM lb w' ∧ Below w.heap.size w w' := by
  refine (callsIn_wide (n := 20)).1 ?_
  refine callsIn_of_wp_marks Tryz.func12 rfl trivial ?_ rfl
  simp only [Tryz.ntmps12, List.size_toArray, List.length_cons, List.length_nil, Nat.reduceAdd, Nat.reduceSub, Array.replicate_succ, Array.replicate_zero, List.push_toArray, List.append_toArray, List.nil_append, List.cons_append]
  have hs := Zt_size N
  have hs' : ¬ ((N : Int) > 1024) := by omega
  have hs2 : decide ((N : Int) > 1024) = false := decide_eq_false hs'
  have hm := Lib.hid (words_make (Zt N))
  gi_wp2
  simp only [Nat.add_assoc, Nat.reduceAdd]
  have h3 : (((w.alloc (.cells #[.pointer (some ⟨p, 0, none⟩)] 49)).alloc (.cells #[.int .i64 4] 3)).alloc (.cells #[.string (Zt N)] 9)).heap.size = w.heap.size + 3 := al3_size _ _ _ _
  have hN8 := NI.start (N := N) h3
  have hb3 := al3_below w (.cells #[.pointer (some ⟨p, 0, none⟩)] 49) (.cells #[.int .i64 4] 3) (.cells #[.string (Zt N)] 9)
  generalize hV0 : ((w.alloc (.cells #[.pointer (some ⟨p, 0, none⟩)] 49)).alloc (.cells #[.int .i64 4] 3)).alloc (.cells #[.string (Zt N)] 9) = V0 at *
  have hb8 : Below w.heap.size w (((((V0.alloc (.cells #[.pointer none] 23)).alloc (.cells #[.int .i64 0] 26)).alloc (.cells #[.string (Zt N), .slice none 0 0, .slice none 0 0, .slice none 0 0, .slice none 0 0] 60)).alloc (.cells #[.pointer (some ⟨w.heap.size + 5, 0, none⟩)] 23)).alloc (.cells #[.int .i64 0] 3)) :=
    ((((hb3.alloc (by omega) _).alloc (by rw [World.size_alloc]; omega) _).alloc (by rw [World.size_alloc, World.size_alloc]; omega) _).alloc (by rw [World.size_alloc, World.size_alloc, World.size_alloc]; omega) _).alloc (by rw [World.size_alloc, World.size_alloc, World.size_alloc, World.size_alloc]; omega) _
  have s8 : (((((V0.alloc (.cells #[.pointer none] 23)).alloc (.cells #[.int .i64 0] 26)).alloc (.cells #[.string (Zt N), .slice none 0 0, .slice none 0 0, .slice none 0 0, .slice none 0 0] 60)).alloc (.cells #[.pointer (some ⟨w.heap.size + 5, 0, none⟩)] 23)).alloc (.cells #[.int .i64 0] 3)).heap.size = w.heap.size + 8 := by
    rw [World.size_alloc, World.size_alloc, World.size_alloc, World.size_alloc, World.size_alloc, h3]
  generalize hV8 : ((((V0.alloc _).alloc _).alloc _).alloc _).alloc _ = V8 at *
  clear hV8 hV0 hb3 h3
  refine ⟨trivial, CallsIn.mono (callsIn_wide.2 (hm.out V8)) ?_⟩
  rintro e W3 ⟨rfl, hW3⟩
  rw [s8]
  have g3 : InBox (w.heap.size + 8) 9 (.string (Zt N)) W3 := by rw [hW3]; exact at_alloc s8 _
  have g4 : Below w.heap.size w W3 := by rw [hW3]; exact hb8.alloc (by rw [s8]; omega) _
  have s3 : W3.heap.size = w.heap.size + 9 := by rw [hW3, World.size_alloc, s8]
  have g5 : NI N w.heap.size W3 := by rw [hW3]; exact hN8.grown (World.grownBy_alloc V8 _ none) (fun r e => by cases e) (Nat.le_refl _)
  clear hW3 hm hN8 hb8 s8
  gi_wp2
  refine range_list (F := Fence.wide) rfl (by omega) (gf := 38) (lb := #[.pointer (some ⟨w.heap.size + 8, 0, none⟩)]) rfl trivial (enters_of Tryz.func38 (by kernel_rfl) rfl) (bs := [w.heap.size + 8]) (by intro i hi; simp at hi; omega)
    (encs := fun _ => #[.agg #[.int .i64 0, .int .i64 0]]) (words_seq 19 N (by omega) (by omega) (w.heap.size + 8) _ W3 g3) (fun _ => rfl) (fun _ V => NI N w.heap.size V ∧ Below w.heap.size w V) ?hI ⟨g5, g4⟩ (fun _ _ _ => True) ?assign ?body ?hAx ?done
  case hI =>
    rintro k A B row ⟨i1, i2⟩ hg hr
    exact ⟨i1.grown hg hr (by omega), i2.grown hg i2.size (fun r e => by have := hr r e; omega)⟩
  case hAx =>
    exact fun x a' => fun s A B row h hg hr => trivial
  case assign =>
    intro l2 k x V K i1 hsz hK
    gi_wp2
    exact hK _ _ (KeepsAll.alloc _ _ _) (KeepsSome.only (World.grownBy_alloc V _ none) (fun k e => by cases e)) ⟨i1.1.grown (World.grownBy_alloc V _ none) (fun r e => by cases e) (Nat.le_refl _), i1.2.alloc (by omega) _⟩ trivial
  case body =>
    intro l2 k x a' V hx
    simp at hx
  case done =>
    rintro D V hD ⟨i1, i2⟩ hK
    rw [s3] at hD
    have c7 : V.cell? ⟨w.heap.size + 7, 0, none⟩ = some (.int .i64 0) := cell_of_row _ _ 0 _ _ (0, 0) i1.al
    have c6 : V.cell? ⟨w.heap.size + 6, 0, none⟩ = some (.pointer (some ⟨w.heap.size + 5, 0, none⟩)) := cell_of_row _ _ 0 _ _ (0, 0) i1.pl
    have hct := Lib.hid (count_none (w.heap.size + 5) (Zt N) V i1.ln)
    gi_wp2
    refine ⟨trivial, CallsIn.mono (callsIn_wide.2 hct.out) ?_⟩
    rintro e V4 ⟨⟨v, rfl⟩, hL, hg⟩
    have c6 : V4.cell? ⟨w.heap.size + 6, 0, none⟩ = some (.pointer (some ⟨w.heap.size + 5, 0, none⟩)) := cell_of_row _ _ 0 _ _ (0, 0) (keptG i1.pl hg (by omega))
    have r0 := keptG i1.r0 hg (by omega)
    have r1 := keptG i1.r1 hg (by omega)
    have c3 : V4.cell? ⟨w.heap.size + 3, 0, none⟩ = some (.pointer none) := cell_of_row _ _ 0 _ _ (0, 0) r0
    have c4 : V4.cell? ⟨w.heap.size + 4, 0, none⟩ = some (.int .i64 0) := cell_of_row _ _ 0 _ _ (0, 0) r1
    have z3 := frozen_of_row V4 (w.heap.size + 3) 0 _ _ r0
    have z4 := frozen_of_row V4 (w.heap.size + 4) 0 _ _ r1
    have hK4 := keptG hK hg (by omega)
    gi_wp2
    have q0 := heap_setCell_same V4 (w.heap.size + 3) 0 _ _ (.pointer (some ⟨w.heap.size + 5, 0, none⟩)) r0
    have e1 : V4.grownBy (V4.setCell ⟨w.heap.size + 3, 0, none⟩ (.pointer (some ⟨w.heap.size + 5, 0, none⟩))) (some (w.heap.size + 3)) := only_set (only_below (Below.refl _ V4) _) (.inl rfl) _
    have hL1 := hL.grown e1 (by omega) (fun cs h => by rw [r0] at h; cases h)
    have r1' := keptG r1 e1 (by omega)
    have hK5 := keptG hK4 e1 (by omega)
    have b5 := i2.grown hg i2.size (fun k e => by cases e; omega)
    have b6 := b5.grown e1 b5.size (fun k e => by cases e; omega)
    generalize V4.setCell ⟨w.heap.size + 3, 0, none⟩ (.pointer (some ⟨w.heap.size + 5, 0, none⟩)) = V5 at *
    have q1 := heap_setCell_same V5 (w.heap.size + 4) 0 _ _ (.int .i64 0) r1'
    have e2 : V5.grownBy (V5.setCell ⟨w.heap.size + 4, 0, none⟩ (.int .i64 0)) (some (w.heap.size + 4)) := only_set (only_below (Below.refl _ V5) _) (.inl rfl) _
    have hL2 := hL1.grown e2 (by omega) (fun cs h => by rw [r1'] at h; cases h)
    have q0' := keptG q0 e2 (by omega)
    have hK6 := keptG hK5 e2 (by omega)
    have b7 := b6.grown e2 b6.size (fun k e => by cases e; omega)
    generalize V5.setCell ⟨w.heap.size + 4, 0, none⟩ (.int .i64 0) = V6 at *
    refine ⟨by simp, .inl ⟨_, _, rfl, run_takeDeferred hK6, ?_⟩⟩
    have e3 := grownBy_putObj' V6 D (.deferred none)
    exact ⟨_, res_new rfl rfl (keptG q0' e3 (by omega)) (keptG q1 e3 (by omega)), ⟨_, rfl, hL2.grown e3 (by omega) (fun cs h => by rw [hK6] at h; cases h), b7.grown e3 b7.size (fun k e => by cases e; omega)⟩⟩
end Go.Proofs.YthmpfnmdplknlaaGreat

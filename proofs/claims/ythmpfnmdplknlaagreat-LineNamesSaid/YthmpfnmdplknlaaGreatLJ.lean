import Derived.Test.YthmpfnmdplknlaaGreatLI
import Derived.BigQuiet
import Derived.Deep.QuietTactic
/- What is told of a nil line, and of a line without words. -/
namespace Go.Proofs.YthmpfnmdplknlaaGreat
set_option linter.unusedVariables false
set_option linter.unusedSimpArgs false
open Go.RowKit Go.Lib Go.Shelf
attribute [local go_sem] Oper.semAt_some

theorem forms_nil (w : World) : Calls Tryz.prog 6 #[.pointer none, .int .i64 0] w fun e w' => e = .returned (.tuple #[.slice none 0 0, .int .i64 1]) ∧ Below w.heap.size w w' := by
  go_enter Tryz.func6, Tryz.ntmps6
  go_wp2_with fail
  refine bodyPost_ret (results_tmp2 rfl _ _ _) rfl ?_
  exact ⟨rfl, Below.refl _ _⟩
theorem beats_nil (w : World) : Calls Tryz.prog 7 #[.pointer none, .slice none 0 0] w fun e w' => e = .returned (.tuple #[.slice none 0 0, .int .i64 1]) ∧ Below w.heap.size w w' := by
  go_enter Tryz.func7, Tryz.ntmps7
  go_wp2_with fail
  refine bodyPost_ret (results_tmp2 rfl _ _ _) rfl ?_
  exact ⟨rfl, Below.refl _ _⟩
theorem nth_nil (w : World) : Calls Tryz.prog 8 #[.pointer none, .int .i64 0] w fun e w' => e = .returned (.tuple #[.slice none 0 0, .int .i64 1]) ∧ Below w.heap.size w w' := by
  go_enter Tryz.func8, Tryz.ntmps8
  go_wp2_with fail
  go_step3
  go_wp2_with fail
  rw [Exit.noGoto_ret]
  exact bodyPost_ret (results_tmp2 rfl _ _ _) rfl ⟨rfl, ((Below.refl _ w).alloc (Nat.le_refl _) _).alloc (by simp) _⟩
theorem rank_nil (w : World) : Calls Tryz.prog 9 #[.pointer none, .slice none 0 0] w fun e w' => e = .returned (.tuple #[.int .i64 0, .int .i64 1]) ∧ Below w.heap.size w w' := by
  go_enter Tryz.func9, Tryz.ntmps9
  go_wp2_with fail
  refine bodyPost_ret (results_tmp2 rfl _ _ _) rfl ?_
  exact ⟨rfl, (Below.refl _ w).alloc (Nat.le_refl _) _⟩
theorem span_nil (w : World) : Calls Tryz.prog 10 #[.pointer none] w fun e w' => e = .returned (.tuple #[.int .i64 0, .int .i64 0]) ∧ Below w.heap.size w w' := by
  go_enter Tryz.func10, Tryz.ntmps10
  go_wp2_with fail
  refine bodyPost_ret (results_tmp2 rfl _ _ _) rfl ?_
  exact ⟨rfl, Below.refl _ _⟩
theorem count_nil (w : World) : Calls Tryz.prog 14 #[.pointer none] w fun e w' => e = .returned (.int .i64 0) ∧ Below w.heap.size w w' := by
  go_enter Tryz.func14, Tryz.ntmps14
  go_wp2_with fail
  go_ret
  exact ⟨rfl, Below.refl _ _⟩
theorem words_nil (w : World) : Calls Tryz.prog 15 #[.pointer none] w fun e w' => e = .returned (.int .i64 0) ∧ Below w.heap.size w w' := by
  go_enter Tryz.func15, Tryz.ntmps15
  go_wp2_with fail
  go_ret
  exact ⟨rfl, Below.refl _ _⟩
theorem with_nil (w : World) : Calls Tryz.prog 16 #[.pointer none, .int .i64 0] w fun e w' => e = .returned (.int .i64 0) ∧ Below w.heap.size w w' := by
  go_enter Tryz.func16, Tryz.ntmps16
  go_wp2_with fail
  go_ret
  exact ⟨rfl, Below.refl _ _⟩
theorem text_nil (w : World) : Calls Tryz.prog 17 #[.pointer none] w fun e w' => e = .returned (.string ⟨#[]⟩) ∧ Below w.heap.size w w' := by
  go_enter Tryz.func17, Tryz.ntmps17
  go_wp2_with fail
  go_ret
  exact ⟨rfl, Below.refl _ _⟩
theorem near_nil (w : World) : Calls Tryz.prog 18 #[.pointer none, .int .i64 0] w fun e w' => e = .returned (.bool false) ∧ Below w.heap.size w w' := by
  go_enter Tryz.func18, Tryz.ntmps18
  go_wp2_with fail
  go_ret
  exact ⟨rfl, Below.refl _ _⟩
theorem res_word {W : World} {T : Array Value} {p : Nat} {x y z : Value} (h2 : T.getD 4 undef = .pointer (some ⟨p, 0, none⟩)) (h3 : T.getD 5 undef = z) (hp : W.heap[p]? = some (.cells #[x, y] 25 (0, 0))) :
    (results Tryz.f5 T).run Tryz.prog W = .ok (.tuple #[.agg #[x, y], z]) W := by
  have d0 : W.cell? ⟨p, 0, none⟩ = some x := cell_of_row _ _ 0 _ _ (0, 0) hp
  have d1 : W.cell? ⟨p, 1, none⟩ = some y := cell_of_row _ _ 1 _ _ (0, 0) hp
  have h2' : T[4]?.getD undef = .pointer (some ⟨p, 0, none⟩) := by simpa using h2
  have h3' : T[5]?.getD undef = z := by simpa using h3
  simp [results, Tryz.f5, go_sem, h2', h3', d0, d1, Tryz.isAgg25, Tryz.sizeOf25]
theorem word_nil (w : World) : Calls Tryz.prog 5 #[.pointer none, .int .i64 0] w fun e w' => e = .returned (.tuple #[.agg #[.int .i64 0, .int .i64 0], .int .i64 1]) ∧ Below w.heap.size w w' := by
  go_enter Tryz.func5, Tryz.ntmps5
  go_wp2_with fail
  have hh := World.alloc_heap_new w (.cells #[.int .i64 0, .int .i64 0] 25)
  exact bodyPost_ret (res_word rfl rfl hh) rfl ⟨rfl, (Below.refl _ _).alloc (Nat.le_refl _) _⟩
theorem each_nil (w : World) : Calls Tryz.prog 11 #[.pointer none] w fun e w' => e = .returned (.func (.func 27) #[] #[.pointer (some ⟨w.heap.size, 0, none⟩)]) ∧ w' = w.alloc (.cells #[.pointer none] 23) := by
  go_enter Tryz.func11, Tryz.ntmps11
  go_wp2_with fail
  go_ret
  exact ⟨rfl, rfl⟩
theorem each_seq (n : Nat) (hn : 2 ≤ n) (b : Nat) (encs : Nat → Array Value) (w : World) (hb : InBox b 23 (.pointer none) w) :
    SeqL Fence.wide n Tryz.prog 27 #[.pointer (some ⟨b, 0, none⟩)] encs [] [b] w := fun l J W hW hJ hY h0 => by
  refine callsIn_of_wp Tryz.func27 rfl trivial ?_ rfl
  simp only [Tryz.ntmps27, List.size_toArray, List.length_cons, List.length_nil, Nat.reduceAdd, Nat.reduceSub, Array.replicate_succ, Array.replicate_zero, List.push_toArray, List.append_toArray, List.nil_append, List.cons_append]
  have hbl : b < w.heap.size := (Array.getElem?_eq_some_iff.1 hb).1
  have hws := hW.size
  have hbW : InBox b 23 (.pointer none) W := (hW.block _ hbl).trans hb
  have c0 : W.cell? ⟨b, 0, none⟩ = some (.pointer none) := cell_of_row _ _ 0 _ _ (0, 0) hbW
  have hb1 : b < W.heap.size := by omega
  gi_wp2
  refine bodyPost_ret (results_none rfl _ _ _) rfl ?_
  exact ⟨⟨_, rfl⟩, hJ.alloc _ h0⟩
theorem count_line (lb : Nat) (w : World) (h : LineM lb w) : Calls Tryz.prog 14 #[.pointer (some ⟨lb, 0, none⟩)] w fun e w' => e = .returned (.int .i64 1) ∧ w = w' := by
  obtain ⟨g, s, h1, h2⟩ := h
  have d4 : w.cell? ⟨lb, 4, none⟩ = some (.slice (some ⟨g, 0, none⟩) 1 1) := cell_of_row _ _ 4 _ _ (0, 0) h1
  have e0 : w.cell? ⟨g, 0, none⟩ = some (.int .i64 1) := cell_of_row _ _ 0 _ _ (0, 0) h2
  go_enter Tryz.func14, Tryz.ntmps14
  go_wp2_with fail
  go_ret
  exact ⟨rfl, rfl⟩
theorem words_line (lb : Nat) (w : World) (h : LineM lb w) : Calls Tryz.prog 15 #[.pointer (some ⟨lb, 0, none⟩)] w fun e w' => e = .returned (.int .i64 0) ∧ w = w' := by
  obtain ⟨g, s, h1, h2⟩ := h
  have d1 : w.cell? ⟨lb, 1, none⟩ = some (.slice none 0 0) := cell_of_row _ _ 1 _ _ (0, 0) h1
  go_enter Tryz.func15, Tryz.ntmps15
  go_wp2_with fail
  go_ret
  exact ⟨rfl, rfl⟩
theorem clip_none (g : Nat) (w : World) : Calls Tryz.prog 24 #[.slice (some ⟨g, 0, none⟩) 0 0] w fun e w' => (∃ A c, e = .returned (.slice A 0 c)) ∧ w = w' := by
  go_enter Tryz.func24, Tryz.ntmps24
  go_wp2_with fail
  go_ret
  exact ⟨⟨_, _, rfl⟩, rfl⟩
set_option maxRecDepth 100000 in
theorem nth_line (lb : Nat) (w : World) (h : LineM lb w) : Calls Tryz.prog 8 #[.pointer (some ⟨lb, 0, none⟩), .int .i64 0] w fun e w' => (∃ v, e = .returned (.tuple #[v, .int .i64 0]) ∧ ∃ A c, v = .slice A 0 c) ∧ Below w.heap.size w w' := by
  have hc := Lib.hid (count_line lb w h)
  obtain ⟨g, s, h1, h2⟩ := h
  have d2 : w.cell? ⟨lb, 2, none⟩ = some (.slice none 0 0) := cell_of_row _ _ 2 _ _ (0, 0) h1
  go_enter Tryz.func8, Tryz.ntmps8
  go_wp2_with fail
  go_step3
  go_wp2_with fail
  obtain ⟨W2, hW2⟩ : ∃ W2, (w.alloc (.cells #[.pointer (some ⟨lb, 0, none⟩)] 23)).alloc (.cells #[.int .i64 0] 3) = W2 := ⟨_, rfl⟩
  rw [hW2]
  have c0 : W2.cell? ⟨w.heap.size, 0, none⟩ = some (.pointer (some ⟨lb, 0, none⟩)) := by rw [← hW2]; exact cell_of_row _ _ 0 _ _ (0, 0) (al_at (World.alloc_heap_new w _) _)
  have c1 : W2.cell? ⟨w.heap.size + 1, 0, none⟩ = some (.int .i64 0) := by rw [← hW2]; exact cell_of_row _ _ 0 _ _ (0, 0) (at_alloc (by rw [World.size_alloc]) _)
  have hL2 : LineM lb W2 := by rw [← hW2]; exact ⟨g, s, al_at (al_at h1 _) _, al_at (al_at h2 _) _⟩
  have hcn := Lib.hid fun m => (count_line lb (W2.drewN m) hL2).mono (fun e w' (h : e = .returned (.int .i64 1) ∧ W2.drewN m = w') => (⟨h.1, h.2.symm⟩ : e = .returned (.int .i64 1) ∧ w' = W2.drewN m))
  have d2' : W2.cell? ⟨lb, 2, none⟩ = some (.slice none 0 0) := by rw [← hW2]; exact cell_of_row _ _ 2 _ _ (0, 0) (al_at (al_at h1 _) _)
  have hb2 : Below w.heap.size w W2 := by rw [← hW2]; exact ((Below.refl _ w).alloc (Nat.le_refl _) _).alloc (by simp) _
  have Hb2 := Lib.hid hb2
  clear hW2 hc d2 hL2 hb2
  go_quiet ((go_at_call 14; exact Calls.quiet_of_same (hcn.out _)))
  replace c0 : (W2.drewN nq).cell? ⟨w.heap.size, 0, none⟩ = some (.pointer (some ⟨lb, 0, none⟩)) := c0
  replace d2' : (W2.drewN nq).cell? ⟨lb, 2, none⟩ = some (.slice none 0 0) := d2'
  have hb3 : Below w.heap.size w (W2.drewN nq) := ⟨Hb2.out.os, Hb2.out.tape, Hb2.out.output, Hb2.out.size, Hb2.out.block⟩
  have hl : lb < (W2.drewN nq).heap.size := Nat.lt_of_lt_of_le (Array.getElem?_eq_some_iff.1 h1).1 hb3.size
  have hw0 : w.heap.size < (W2.drewN nq).heap.size := block_lt_of_cell c0
  have Hb3 := Lib.hid hb3
  clear hcn c1 Hb2 hb3
  generalize W2.drewN nq = W3 at *
  have hl1 : lb < W3.heap.size + 1 := by omega
  have hl2 : lb < W3.heap.size + 1 + 1 := by omega
  have hw1 : w.heap.size < W3.heap.size + 1 := by omega
  have hw2 : w.heap.size < W3.heap.size + 1 + 1 := by omega
  go_wp2_with fail
  go_step3
  go_wp2_with fail
  obtain ⟨W6, hW6⟩ : ∃ W6, ((W3.alloc (.cells #[] 73)).alloc (.cells #[.slice (some ⟨W3.heap.size, 0, none⟩) 0 0] 36)).alloc (.cells #[.bool false] 4) = W6 := ⟨_, rfl⟩
  have c6 : W6.cell? ⟨W3.heap.size + 1, 0, none⟩ = some (.slice (some ⟨W3.heap.size, 0, none⟩) 0 0) := by rw [← hW6]; exact cell_of_row _ _ 0 _ _ (0, 0) (al3_1 W3 _ _ _)
  have hb6 : Below w.heap.size w W6 := by rw [← hW6]; exact ((Hb3.out.alloc (by omega) _).alloc (by rw [World.size_alloc]; omega) _).alloc (by rw [World.size_alloc, World.size_alloc]; omega) _
  have Hb6 := Lib.hid hb6
  have hcl := Lib.hid (clip_none W3.heap.size W6)
  rw [hW6]
  clear hW6 hb6 c0 d2'
  go_loopw [29] (fun i wr => i = .int .i64 0 ∧ wr = W6) (fun _ _ => 0)
  case atStart => exact ⟨rfl, rfl⟩
  case round =>
    obtain ⟨rfl, rfl⟩ := hrel
    go_wp2_with fail
    refine hcl.out.mono ?_
    rintro e w' ⟨⟨A, c, rfl⟩, rfl⟩
    go_wp2_with fail
    rw [Exit.noGoto_ret]
    exact bodyPost_ret (results_tmp2 rfl _ _ _) rfl ⟨⟨_, rfl, _, _, rfl⟩, Hb6.out⟩
end Go.Proofs.YthmpfnmdplknlaaGreat

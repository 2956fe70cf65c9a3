import Derived.Test.YtgcdopafblcbhaaGreatDoorVQ
/- A vocabulary without entries: adding nothing, taking away what is not there; reading a long text; printing nil. -/
namespace Go.Proofs.YtgcdopafblcbhaaGreatDoor
set_option linter.unusedVariables false
set_option linter.unusedSimpArgs false
open Go.RowKit Go.Lib Go.Shelf
attribute [local go_sem] Oper.semAt_some

set_option maxRecDepth 100000 in
theorem vread_nil (s : ByteArray) (w : World) : Calls Tryz.prog 13 #[.pointer none, .string s] w fun e w' => e = .returned (.agg #[.int .i64 1, .int .i64 0]) ∧ Below w.heap.size w w' := by
  go_enter Tryz.func13, Tryz.ntmps13
  go_wp2_with fail
  exact bodyPost_ret (results_cell_row rfl _ _ w.heap.size 47 #[.int .i64 1, .int .i64 0] (0, 0) _ rfl (World.alloc_heap_new w _) Tryz.underlying47 (by rfl) (by kernel_rfl)) rfl ⟨rfl, (Below.refl _ w).alloc (Nat.le_refl _) _⟩
set_option maxRecDepth 100000 in
theorem vread_long (p : Nat) (s : ByteArray) (hs : s.size = 65537) (w : World) : Calls Tryz.prog 13 #[.pointer (some ⟨p, 0, none⟩), .string s] w fun e w' => e = .returned (.agg #[.int .i64 3, .int .i64 65536]) ∧ Below w.heap.size w w' := by
  have d1 : decide ((s.size : Int) > 65536) = true := decide_eq_true (by omega)
  have Hs := Lib.hid hs
  clear hs
  go_enter Tryz.func13, Tryz.ntmps13
  go_wp2_with fail
  exact bodyPost_ret (results_cell_row rfl _ _ w.heap.size 47 #[.int .i64 3, .int .i64 65536] (0, 0) _ rfl (World.alloc_heap_new w _) Tryz.underlying47 (by rfl) (by kernel_rfl)) rfl ⟨rfl, (Below.refl _ w).alloc (Nat.le_refl _) _⟩
set_option maxRecDepth 100000 in
theorem clone_none (w : World) : Calls Tryz.prog 42 #[.slice none 0 0] w fun e w' => e = .returned (.slice none 0 0) ∧ w = w' := by
  have hq : (binOp BinOp.eql 76 (.slice none 0 0) (.slice none 0 0)).run Tryz.prog w = .ok (.bool true) w := by kernel_rfl
  go_enter Tryz.func42, Tryz.ntmps42
  go_wp2_with fail
  go_ret
  exact ⟨rfl, rfl⟩
set_option maxRecDepth 100000 in
theorem insert_none (f : Value) (w : World) : Calls Tryz.prog 159 #[.slice none 0 0, .int .i64 0, .int .i64 0, f] w fun e w' => (∃ x, e = .returned x) ∧ w = w' := by
  go_enter Tryz.func159, Tryz.ntmps159
  go_wp2_with fail
  go_loopw [8] (fun t8 wr => t8 = .int .i64 1 ∧ w = wr) (fun _ _ => 0)
  case atStart => exact ⟨rfl, rfl⟩
  case round =>
    obtain ⟨rfl, rfl⟩ := hrel
    go_wp2_with fail
    go_end0
    exact ⟨⟨_, rfl⟩, rfl⟩
set_option maxRecDepth 100000 in
theorem stable_none (f : Value) (w : World) : Calls Tryz.prog 122 #[.slice none 0 0, .int .i64 0, f] w fun e w' => (∃ x, e = .returned x) ∧ w = w' := by
  have Hi := Lib.hid (insert_none f w)
  go_enter Tryz.func122, Tryz.ntmps122
  go_wp2_with fail
  go_loopw [7, 8] (fun t7 t8 wr => t7 = .int .i64 0 ∧ t8 = .int .i64 20 ∧ w = wr) (fun _ _ _ => 0)
  case atStart => exact ⟨rfl, rfl, rfl⟩
  case round =>
    obtain ⟨rfl, rfl, rfl⟩ := hrel
    go_wp2_with fail
    refine Hi.out.mono ?_
    rintro e w2 ⟨⟨x, rfl⟩, rfl⟩
    go_wp2_with fail
    go_loopw [6, 7, 8, 9] (fun t6 t7 t8 t9 wr => t6 = .int .i64 20 ∧ w = wr) (fun _ _ _ _ _ => 0)
    case atStart => exact ⟨rfl, rfl⟩
    case round =>
      obtain ⟨rfl, rfl⟩ := hrel
      go_wp2_with fail
      go_end0
      exact ⟨⟨_, rfl⟩, rfl⟩
set_option maxRecDepth 100000 in
theorem sort_none (f : Value) (w : World) : Calls Tryz.prog 73 #[.slice none 0 0, f] w fun e w' => (∃ x, e = .returned x) ∧ w = w' := by
  have Hi := Lib.hid (stable_none f w)
  go_enter Tryz.func73, Tryz.ntmps73
  go_wp2_with fail
  refine Hi.out.mono ?_
  rintro e w2 ⟨⟨x, rfl⟩, rfl⟩
  go_wp2_with fail
  go_end0
  exact ⟨⟨_, rfl⟩, rfl⟩
set_option maxRecDepth 100000 in
theorem print_nil (w : World) : Calls Tryz.prog 18 #[.pointer none] w fun e w' => e = .returned (.string ⟨#[]⟩) ∧ Below w.heap.size w w' := by
  refine (callsIn_wide (n := 9)).1 ?_
  refine callsIn_of_wp_marks Tryz.func18 rfl trivial ?_ rfl
  simp only [Tryz.ntmps18, List.size_toArray, List.length_cons, List.length_nil, Nat.reduceAdd, Nat.reduceSub, Array.replicate_succ, Array.replicate_zero, List.push_toArray, List.append_toArray, List.nil_append, List.cons_append]
  obtain ⟨W1, hW1⟩ : ∃ W1, w.alloc (.cells #[.pointer none, .slice none 0 0] 116) = W1 := ⟨_, rfl⟩
  have s1 : W1.heap.size = w.heap.size + 1 := by rw [← hW1]; simp
  have hb1 : Below w.heap.size w W1 := by rw [← hW1]; exact (Below.refl _ _).alloc (Nat.le_refl _) _
  have hx1 : W1.heap[w.heap.size]? = some (.cells #[.pointer none, .slice none 0 0] 116 (0, 0)) := by rw [← hW1]; exact World.alloc_heap_new w _
  have Hm := Lib.hid (all_make W1)
  have HW1 := Lib.hid hW1
  clear hW1
  gi_wp2
  rw [HW1.out]
  gi_wp2
  refine ⟨trivial, CallsIn.mono (callsIn_wide.2 Hm.out) ?_⟩
  rintro e W2 ⟨rfl, hW2⟩
  have hb2 : Below W1.heap.size W1 W2 := by rw [hW2]; exact (Below.refl _ _).alloc (Nat.le_refl _) _
  have hy : W2.heap[W1.heap.size]? = some (.cells #[.pointer none] 23 (0, 0)) := by rw [hW2]; exact World.alloc_heap_new W1 _
  have h0 : Below w.heap.size w W2 ∧ W2.heap[w.heap.size]? = some (.cells #[.pointer none, .slice none 0 0] 116 (0, 0)) := ⟨hb1.trans (hb2.mono hb1.size), keptB hx1 hb2⟩
  have hwW : w.heap.size < W2.heap.size := (Array.getElem?_eq_some_iff.1 h0.2).1
  have H0 := Lib.hid h0
  have HS := Lib.hid (all_nil (9 - 1) W1.heap.size W2 hy)
  clear hW2 hb2 hy h0 hb1 hx1 s1 Hm
  gi_wp2
  refine range_y (F := Fence.wide) rfl (by omega) (gf := 24) (lb := #[.pointer (some ⟨W1.heap.size, 0, none⟩)]) rfl trivial (enters_of Tryz.func24 (by kernel_rfl) rfl) (bs := []) (by intro i hi; cases hi)
    HS.out (fun _ => rfl) (fun k V => Below w.heap.size w V ∧ V.heap[w.heap.size]? = some (.cells #[.pointer none, .slice none 0 0] 116 (0, 0))) (fun _ _ _ => False) ?hI ?hIx H0.out (fun _ _ _ => True) ?assign ?body ?hAx ?done ?stop
  case hI =>
    rintro k A B row ⟨h1, h2⟩ hg hr
    exact ⟨h1.grown hg h1.size (fun r e => by have := (hr r e).1; omega), (hg.block _ (Array.getElem?_eq_some_iff.1 h2).1 (fun e => by have := (hr _ e.symm).1; omega)).trans h2⟩
  case hIx => exact fun c => fun _ _ _ _ h _ _ => h.elim
  case hAx => exact fun _ _ _ _ _ _ h _ _ => h
  case stop => exact fun _ _ _ _ _ _ h _ => h.elim
  case assign =>
    intro l2 k x V K hx
    simp at hx
  case body =>
    intro l2 k x a' V hx
    simp at hx
  case done =>
    intro D V hD hi hDd
    have Hs := Lib.hid (bstr_none w.heap.size V hi.2)
    have hlt : D < V.heap.size := (Array.getElem?_eq_some_iff.1 hDd).1
    have HI := Lib.hid hi
    have HD := Lib.hid hDd
    clear hi hDd
    gi_wp2
    refine ⟨trivial, CallsIn.mono (callsIn_wide.2 Hs.out) ?_⟩
    rintro e V2 ⟨rfl, hb2⟩
    have hD2 := keptB HD.out hb2
    have hB2 := HI.out.1.trans (hb2.mono HI.out.1.size)
    clear hb2
    gi_wp2
    refine ⟨by simp, .inl ⟨_, _, rfl, run_takeDeferred hD2, ?_⟩⟩
    have e1 := grownBy_putObj' V2 D (.deferred none)
    refine ⟨_, by simp [results, Tryz.f18, go_sem], rfl, hB2.grown e1 hB2.size (fun k e => by cases e; omega)⟩
end Go.Proofs.YtgcdopafblcbhaaGreatDoor

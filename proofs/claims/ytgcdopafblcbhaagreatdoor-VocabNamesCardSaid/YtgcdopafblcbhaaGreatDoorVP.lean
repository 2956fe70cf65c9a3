import Derived.Test.YtgcdopafblcbhaaGreatDoorVL
/- The empty text: where a byte lies in it, its lines, an order's text without lines. -/
namespace Go.Proofs.YtgcdopafblcbhaaGreatDoor
set_option linter.unusedVariables false
set_option linter.unusedSimpArgs false
open Go.RowKit Go.Lib Go.Shelf
attribute [local go_sem] Oper.semAt_some

theorem ext_none (W : World) : (callFunc 232 #[.string ⟨#[]⟩, .int .u8 10]).run Tryz.prog W = .ok (.value (.int .i64 (-1))) W := by kernel_rfl
set_option maxRecDepth 100000 in
set_option maxHeartbeats 4000000 in
theorem indexb_e (w : World) : Calls Tryz.prog 188 #[.string ⟨#[]⟩, .int .u8 10] w fun e w' => e = .returned (.int .i64 (-1)) ∧ w = w' := by
  have hd := ext_none w
  go_enter Tryz.func188, Tryz.ntmps188
  go_wp2_with fail
  go_ret
  exact ⟨rfl, rfl⟩
set_option maxRecDepth 100000 in
set_option maxHeartbeats 4000000 in
theorem indexl_e (w : World) : Calls Tryz.prog 147 #[.string ⟨#[]⟩, .string ⟨#[10]⟩] w fun e w' => e = .returned (.int .i64 (-1)) ∧ w = w' := by
  have Hi := Lib.hid (indexb_e w)
  go_enter Tryz.func147, Tryz.ntmps147
  go_wp2_with fail
  refine Hi.out.mono ?_
  rintro e w2 ⟨rfl, rfl⟩
  go_wp2_with fail
  go_ret
  exact ⟨rfl, rfl⟩
set_option maxRecDepth 100000 in
set_option maxHeartbeats 4000000 in
theorem index_e (w : World) : Calls Tryz.prog 107 #[.string ⟨#[]⟩, .string ⟨#[10]⟩] w fun e w' => e = .returned (.int .i64 (-1)) ∧ w = w' := by
  have Hi := Lib.hid (indexl_e w)
  go_enter Tryz.func107, Tryz.ntmps107
  go_wp2_with fail
  refine Hi.out.mono ?_
  rintro e w2 ⟨rfl, rfl⟩
  go_wp2_with fail
  go_ret
  exact ⟨rfl, rfl⟩
set_option maxRecDepth 100000 in
set_option maxHeartbeats 4000000 in
theorem splits_make (s : ByteArray) (t : ByteArray) (w : World) : Calls Tryz.prog 63 #[.string s, .string t, .int .i64 0] w fun e w' => e = .returned (.func (.func 105) #[] #[.pointer (some ⟨w.heap.size + 1, 0, none⟩), .pointer (some ⟨w.heap.size, 0, none⟩), .pointer (some ⟨w.heap.size + 1 + 1, 0, none⟩)]) ∧ w' = ((w.alloc (.cells #[.string s] 9)).alloc (.cells #[.string t] 9)).alloc (.cells #[.int .i64 0] 3) := by
  go_enter Tryz.func63, Tryz.ntmps63
  go_wp2_with fail
  go_ret
  exact ⟨rfl, rfl⟩
set_option maxRecDepth 100000 in
set_option maxHeartbeats 4000000 in
theorem split_make (s : ByteArray) (t : ByteArray) (w : World) : Calls Tryz.prog 32 #[.string s, .string t] w fun e w' => e = .returned (.func (.func 105) #[] #[.pointer (some ⟨w.heap.size + 1, 0, none⟩), .pointer (some ⟨w.heap.size, 0, none⟩), .pointer (some ⟨w.heap.size + 1 + 1, 0, none⟩)]) ∧ w' = ((w.alloc (.cells #[.string s] 9)).alloc (.cells #[.string t] 9)).alloc (.cells #[.int .i64 0] 3) := by
  have Hm := Lib.hid (splits_make s t w)
  go_enter Tryz.func32, Tryz.ntmps32
  go_wp2_with fail
  refine Hm.out.mono ?_
  rintro e w2 ⟨rfl, hw2⟩
  have Hw2 := Lib.hid hw2
  clear hw2
  go_wp2_with fail
  go_ret
  exact ⟨rfl, Hw2.out⟩
set_option maxRecDepth 100000 in
set_option maxHeartbeats 4000000 in
theorem words_e (w : World) : Calls Tryz.prog 33 #[.string ⟨#[]⟩, .int .i64 0] w fun e w' => e = .returned (.slice none 0 0) ∧ w = w' := by
  go_enter Tryz.func33, Tryz.ntmps33
  go_wp2_with fail
  go_loopw [5, 10] (fun t5 t10 wr => t5 = .slice none 0 0 ∧ t10 = .int .i64 0 ∧ w = wr) (fun _ _ _ => 0)
  case atStart => exact ⟨rfl, rfl, rfl⟩
  case round =>
    obtain ⟨rfl, rfl, rfl⟩ := hrel
    go_wp2_with fail
    go_ret
    exact ⟨rfl, rfl⟩
set_option maxRecDepth 100000 in
set_option maxHeartbeats 4000000 in
/-- the lines of the empty text: one -/
theorem split_seq (n : Nat) (hn : 5 ≤ n) (b : Nat) (w : World) (h0 : InBox b 9 (.string ⟨#[]⟩) w) (h1 : InBox (b + 1) 9 (.string ⟨#[10]⟩) w) :
    SeqY Fence.wide n Tryz.prog 105 #[.pointer (some ⟨b + 1, 0, none⟩), .pointer (some ⟨b, 0, none⟩), .pointer (some ⟨b + 1 + 1, 0, none⟩)] (fun s : ByteArray => #[.string s]) [⟨#[]⟩] [b, b + 1] w := fun l J Jx W hW hJ hJx hY hJ0 => by
  refine callsIn_of_wp Tryz.func105 rfl trivial ?_ rfl
  simp only [Tryz.ntmps105, List.size_toArray, List.length_cons, List.length_nil, Nat.reduceAdd, Nat.reduceSub, Array.replicate_succ, Array.replicate_zero, List.push_toArray, List.append_toArray, List.nil_append, List.cons_append]
  have hb0 : InBox b 9 (.string ⟨#[]⟩) W := (hW.block _ (Array.getElem?_eq_some_iff.1 h0).1).trans h0
  have hb1 : InBox (b + 1) 9 (.string ⟨#[10]⟩) W := (hW.block _ (Array.getElem?_eq_some_iff.1 h1).1).trans h1
  have c0 : W.cell? ⟨b, 0, none⟩ = some (.string ⟨#[]⟩) := cell_of_row _ _ 0 _ _ (0, 0) hb0
  have c1 : W.cell? ⟨b + 1, 0, none⟩ = some (.string ⟨#[10]⟩) := cell_of_row _ _ 0 _ _ (0, 0) hb1
  have Hi := Lib.hid (index_e W)
  have HY := Lib.hid (hY 0 ⟨#[]⟩ W rfl hJ0)
  clear hY hJ0 hb0 hb1
  gi_wp2
  gi_loopw [] (fun wr => W = wr) (fun _ => 0)
  case atStart => rfl
  case round =>
    subst hrel
    gi_wp2
    refine ⟨trivial, fun _ => by omega, CallsIn.mono (callsIn_wide.2 Hi.out) ?_⟩
    rintro e w2 ⟨rfl, rfl⟩
    obtain ⟨fn, tmps, assign, body, hy, hR⟩ := HY.out
    have HR := Lib.hid hR
    clear hR
    gi_wp2
    refine And.intro (fun _ => (by omega)) (RoundIn.mono (F := Fence.wide) (roundAny rfl _ HR.out) ?_)
    rintro e W4 ⟨hk4, hs4, (⟨rfl, hJ4⟩ | ⟨rfl, hJ4⟩)⟩
    · gi_wp2
      go_end0
      exact ⟨⟨_, rfl⟩, .inl hJ4⟩
    · gi_wp2
      go_end0
      exact ⟨⟨_, rfl⟩, .inr ⟨0, by omega, hJ4⟩⟩
/-- while an order is read -/
structure RdI (w : World) (S : Nat) (p : Value) (k : Nat) (V : World) : Prop where
  b : Below w.heap.size w V
  x2 : V.heap[w.heap.size]? = some (.cells #[.pointer none] 45 (0, 0))
  x3 : V.heap[w.heap.size + 1]? = some (.cells #[.int .i64 0, .int .i64 0] 47 (0, 0))
  x4 : V.heap[S]? = some (.cells #[p] 45 (0, 0))
  x5 : ∃ i : Int, V.heap[S + 1]? = some (.cells #[.int .i64 i] 3 (0, 0)) ∧ (k = 0 → i = 0)
theorem RdI.from {w : World} {S B : Nat} {p : Value} (hS : w.heap.size + 2 ≤ S) (hB : S + 2 ≤ B) : OwnFrom B (fun k V => RdI w S p k V) := by
  intro k V V' row h hg hr
  have old : ∀ {i : Nat} {o : Obj}, i < S + 2 → V.heap[i]? = some o → V'.heap[i]? = some o := fun hi ho => (hg.block _ (Array.getElem?_eq_some_iff.1 ho).1 (fun e => by have := (hr _ e.symm).1; omega)).trans ho
  obtain ⟨i, h5, h6⟩ := h.x5
  exact ⟨h.b.grown hg h.b.size (fun r e => by have := (hr r e).1; omega), old (by omega) h.x2, old (by omega) h.x3, old (by omega) h.x4, i, old (by omega) h5, h6⟩
set_option maxRecDepth 100000 in
set_option maxHeartbeats 16000000 in
theorem read_e (w : World) : Calls Tryz.prog 11 #[.string ⟨#[]⟩] w fun e w' => (∃ p, e = .returned (.tuple #[.pointer (some ⟨p, 0, none⟩), .agg #[.int .i64 0, .int .i64 0]])) ∧ Below w.heap.size w w' := by
  refine (callsIn_wide (n := 9)).1 ?_
  refine callsIn_of_wp_marks Tryz.func11 rfl trivial ?_ rfl
  simp only [Tryz.ntmps11, List.size_toArray, List.length_cons, List.length_nil, Nat.reduceAdd, Nat.reduceSub, Array.replicate_succ, Array.replicate_zero, List.push_toArray, List.append_toArray, List.nil_append, List.cons_append]
  obtain ⟨W1, hW1⟩ : ∃ W1, (w.alloc (.cells #[.pointer none] 45)).alloc (.cells #[.int .i64 0, .int .i64 0] 47) = W1 := ⟨_, rfl⟩
  have s1 : W1.heap.size = w.heap.size + 2 := by rw [← hW1]; simp
  have hb1 : Below w.heap.size w W1 := by rw [← hW1]; exact ((Below.refl _ _).alloc (Nat.le_refl _) _).alloc (by simp) _
  have hx2 : W1.heap[w.heap.size]? = some (.cells #[.pointer none] 45 (0, 0)) := by rw [← hW1]; exact al_at (World.alloc_heap_new w _) _
  have hx3 : W1.heap[w.heap.size + 1]? = some (.cells #[.int .i64 0, .int .i64 0] 47 (0, 0)) := by
    rw [← hW1]
    have := World.alloc_heap_new (w.alloc (.cells #[.pointer none] 45)) (.cells #[.int .i64 0, .int .i64 0] 47)
    rw [World.size_alloc] at this
    exact this
  have Hg := Lib.hid (begun_any W1)
  have HW1 := Lib.hid hW1
  have H1 := Lib.hid (And.intro s1 (And.intro hb1 (And.intro hx2 hx3)))
  clear hW1 hb1 hx2 hx3 s1
  gi_wp2
  rw [HW1.out]
  refine wpIn_scope_straight ?_
  gi_wp2
  refine ⟨trivial, CallsIn.mono (callsIn_wide.2 Hg.out) ?_⟩
  rintro e W2 ⟨⟨p, rfl⟩, hb2⟩
  obtain ⟨W4, hW4⟩ : ∃ W4, (W2.alloc (.cells #[.pointer (some ⟨p, 0, none⟩)] 45)).alloc (.cells #[.int .i64 0] 3) = W4 := ⟨_, rfl⟩
  obtain ⟨s1, hb1, hx2, hx3⟩ := H1.out
  have hw2 : w.heap.size + 2 ≤ W2.heap.size := by have := hb2.size; omega
  have s4 : W4.heap.size = W2.heap.size + 2 := by rw [← hW4]; simp
  have hb4 : Below W2.heap.size W2 W4 := by rw [← hW4]; exact ((Below.refl _ _).alloc (Nat.le_refl _) _).alloc (by simp) _
  have hx4 : W4.heap[W2.heap.size]? = some (.cells #[.pointer (some ⟨p, 0, none⟩)] 45 (0, 0)) := by rw [← hW4]; exact al_at (World.alloc_heap_new W2 _) _
  have hx5 : W4.heap[W2.heap.size + 1]? = some (.cells #[.int .i64 0] 3 (0, 0)) := by
    rw [← hW4]
    have := World.alloc_heap_new (W2.alloc (.cells #[.pointer (some ⟨p, 0, none⟩)] 45)) (.cells #[.int .i64 0] 3)
    rw [World.size_alloc] at this
    exact this
  have h4 : RdI w W2.heap.size (.pointer (some ⟨p, 0, none⟩)) 0 W4 := ⟨(hb1.trans (hb2.mono hb1.size)).trans (hb4.mono (by omega)), keptB (keptB hx2 hb2) hb4, keptB (keptB hx3 hb2) hb4, hx4, 0, hx5, fun _ => rfl⟩
  have HM := Lib.hid (split_make ⟨#[]⟩ ⟨#[10]⟩ W4)
  have H4 := Lib.hid h4
  have HW4 := Lib.hid hW4
  clear hW4 s1 hb1 hx2 hx3 hb2 hb4 hx4 hx5 h4 Hg H1
  gi_wp2
  rw [HW4.out]
  refine wpIn_label ?_
  gi_wp2
  refine ⟨trivial, CallsIn.mono (callsIn_wide.2 HM.out) ?_⟩
  rintro e W5 ⟨rfl, hW5⟩
  have s5 : W5.heap.size = W4.heap.size + 3 := by rw [hW5]; simp
  have hb5 : Below W4.heap.size W4 W5 := by rw [hW5]; exact (((Below.refl _ _).alloc (Nat.le_refl _) _).alloc (by simp) _).alloc (by simp; omega) _
  have hy0 : InBox W4.heap.size 9 (.string ⟨#[]⟩) W5 := by rw [hW5]; exact al_at (al_at (World.alloc_heap_new W4 _) _) _
  have hy1 : InBox (W4.heap.size + 1) 9 (.string ⟨#[10]⟩) W5 := by
    rw [hW5]
    have := World.alloc_heap_new (W4.alloc (.cells #[.string ⟨#[]⟩] 9)) (.cells #[.string ⟨#[10]⟩] 9)
    rw [World.size_alloc] at this
    exact al_at this _
  have h5 : RdI w W2.heap.size (.pointer (some ⟨p, 0, none⟩)) 0 W5 := by
    obtain ⟨i, h5, h6⟩ := H4.out.x5
    exact ⟨H4.out.b.trans (hb5.mono H4.out.b.size), keptB H4.out.x2 hb5, keptB H4.out.x3 hb5, keptB H4.out.x4 hb5, i, keptB h5 hb5, h6⟩
  have H5 := Lib.hid h5
  have HS := Lib.hid (split_seq (9 - 1) (by omega) W4.heap.size W5 hy0 hy1)
  have HW4s := Lib.hid (And.intro s4 s5)
  clear hW5 hb5 hy0 hy1 h5 HM HW4 H4 s4 s5
  gi_wp2
  generalize hS : W2.heap.size = S at *
  generalize hS4 : W4.heap.size = S4 at *
  obtain ⟨s4, s5⟩ := HW4s.out
  clear HW4s
  subst s4
  refine range_y (F := Fence.wide) rfl (by omega) (gf := 105) (lb := #[.pointer (some ⟨S + 2 + 1, 0, none⟩), .pointer (some ⟨S + 2, 0, none⟩), .pointer (some ⟨S + 2 + 1 + 1, 0, none⟩)]) rfl trivial (enters_of Tryz.func105 (by kernel_rfl) rfl) (bs := [S + 2, S + 2 + 1]) (by intro i hi; simp at hi; omega)
    HS.out (fun _ => rfl) (fun k V => RdI w S (.pointer (some ⟨p, 0, none⟩)) k V) (fun _ _ _ => False) ?hI ?hIx H5.out
    (fun x a' V => a' = { tmps := #[.string ⟨#[]⟩, undef, .pointer (some ⟨w.heap.size, 0, none⟩), .pointer (some ⟨w.heap.size + 1, 0, none⟩), .pointer (some ⟨S, 0, none⟩), .pointer (some ⟨S + 1, 0, none⟩), .string ⟨#[]⟩, undef, undef, undef, .string ⟨#[]⟩, .int .i64 0, .bool false, undef, .pointer (some ⟨p, 0, none⟩), .string ⟨#[]⟩, .func (.func 105) #[] #[.pointer (some ⟨S + 2 + 1, 0, none⟩), .pointer (some ⟨S + 2, 0, none⟩), .pointer (some ⟨S + 2 + 1 + 1, 0, none⟩)], .string ⟨#[]⟩, undef, undef, undef, undef, undef, undef, undef, undef, undef, undef, undef, undef, undef, undef, undef, undef, undef, undef, undef, undef, undef, undef, undef, undef, undef], defers := [] }) ?assign ?body ?hAx ?done ?stop
  case hI => exact RdI.from (by omega) (by omega)
  case hIx => exact fun c => fun _ _ _ _ h _ _ => h.elim
  case hAx => exact fun _ _ _ _ _ _ h _ _ => h
  case stop => exact fun _ _ _ _ _ _ h _ => h.elim
  case assign =>
    intro l2 k x V K hx hi hsz hK
    obtain rfl : (⟨#[]⟩ : ByteArray) = x := by
      have := (List.getElem?_eq_some_iff.1 hx).1
      obtain rfl : k = 0 := by simpa using this
      simpa using hx
    gi_wp2
    exact hK _ _ (KeepsAll.refl _ _) (KeepsSome.refl _ _) hi rfl
  case body =>
    rintro l2 k x a' V hx hi rfl hsz
    obtain rfl : k = 0 := by
      have := (List.getElem?_eq_some_iff.1 hx).1
      simpa using this
    obtain ⟨i, h5, h6⟩ := hi.x5
    obtain rfl := h6 rfl
    have c5 : V.cell? ⟨S + 1, 0, none⟩ = some (.int .i64 0) := cell_of_row _ _ 0 _ _ (0, 0) h5
    have z5 := frozen_of_row _ _ 0 _ _ h5
    have hgs := grown_put V (S + 1) 0 (.int .i64 1)
    have far : ∀ {i : Nat} {o : Obj}, i ≠ S + 1 → V.heap[i]? = some o → (V.setCell ⟨S + 1, 0, none⟩ (.int .i64 1)).heap[i]? = some o := fun hi ho => keptG ho hgs hi
    have hN : RdI w S (.pointer (some ⟨p, 0, none⟩)) (0 + 1) (V.setCell ⟨S + 1, 0, none⟩ (.int .i64 1)) := ⟨hi.b.setCell (p := ⟨S + 1, 0, none⟩) (by show w.heap.size ≤ S + 1; omega) _, far (by omega) hi.x2, far (by omega) hi.x3, far (by omega) hi.x4, 1, heap_setCell_same V (S + 1) 0 _ _ _ h5, fun e => by omega⟩
    have hKA : KeepsAll W5.heap.size V (V.setCell ⟨S + 1, 0, none⟩ (.int .i64 1)) := ⟨hgs.size, fun i o h1 h2 => far (by omega) h2⟩
    have hKS : KeepsSome [S + 2, S + 2 + 1] V (V.setCell ⟨S + 1, 0, none⟩ (.int .i64 1)) := fun i hi o h2 => far (by simp at hi; omega) h2
    have HN := Lib.hid (And.intro hN (And.intro hKA hKS))
    have Hw := Lib.hid (words_e (V.setCell ⟨S + 1, 0, none⟩ (.int .i64 1)))
    clear h5 h6 hgs hN hKA hKS hi far hx
    gi_wp2
    refine ⟨trivial, CallsIn.inRound _ (CallsIn.mono (callsIn_wide.2 Hw.out) ?_)⟩
    rintro e V2 ⟨rfl, rfl⟩
    gi_wp2
    exact ⟨HN.out.2.1, HN.out.2.2, HN.out.1⟩
  case done =>
    intro D V hD hi hDd
    have x2 := hi.x2
    have x3 := hi.x3
    have x4 := hi.x4
    have hB := hi.b
    have c4 : V.cell? ⟨S, 0, none⟩ = some (.pointer (some ⟨p, 0, none⟩)) := cell_of_row _ _ 0 _ _ (0, 0) x4
    have c2 : V.cell? ⟨w.heap.size, 0, none⟩ = some (.pointer none) := cell_of_row _ _ 0 _ _ (0, 0) x2
    have z2 := frozen_of_row _ w.heap.size 0 _ _ x2
    have c30 : V.cell? ⟨w.heap.size + 1, 0, none⟩ = some (.int .i64 0) := cell_of_row _ _ 0 _ _ (0, 0) x3
    have c31 : V.cell? ⟨w.heap.size + 1, 1, none⟩ = some (.int .i64 0) := cell_of_row _ _ 1 _ _ (0, 0) x3
    have z30 := frozen_of_row _ (w.heap.size + 1) 0 _ _ x3
    have z31 := frozen_of_row _ (w.heap.size + 1) 1 _ _ x3
    have HX := Lib.hid (And.intro x2 (And.intro x3 hB))
    have HD := Lib.hid hDd
    clear hi x2 x3 x4 hB hDd
    gi_wp2
    obtain ⟨x2, x3, hB⟩ := HX.out
    have g2 := heap_setCell_same V w.heap.size 0 _ _ (.pointer (some ⟨p, 0, none⟩)) x2
    have g3 := heap_setCell_same (V.setCell ⟨w.heap.size, 0, none⟩ (.pointer (some ⟨p, 0, none⟩))) (w.heap.size + 1) 0 _ _ (.int .i64 0) (keptG x3 (grown_put V w.heap.size 0 _) (by omega))
    have g4 := heap_setCell_same _ (w.heap.size + 1) 1 _ _ (.int .i64 0) g3
    have g2' := keptG (keptG g2 (grown_put _ (w.heap.size + 1) 0 (.int .i64 0)) (by omega)) (grown_put _ (w.heap.size + 1) 1 (.int .i64 0)) (by omega)
    have hD3 := keptG (keptG (keptG HD.out (grown_put V w.heap.size 0 (.pointer (some ⟨p, 0, none⟩))) (by omega)) (grown_put _ (w.heap.size + 1) 0 (.int .i64 0)) (by omega)) (grown_put _ (w.heap.size + 1) 1 (.int .i64 0)) (by omega)
    have hB3 := ((hB.setCell (p := ⟨w.heap.size, 0, none⟩) (Nat.le_refl _) (.pointer (some ⟨p, 0, none⟩))).setCell (p := ⟨w.heap.size + 1, 0, none⟩) (Nat.le_succ _) (.int .i64 0)).setCell (p := ⟨w.heap.size + 1, 1, none⟩) (Nat.le_succ _) (.int .i64 0)
    generalize (((V.setCell ⟨w.heap.size, 0, none⟩ (.pointer (some ⟨p, 0, none⟩))).setCell ⟨w.heap.size + 1, 0, none⟩ (.int .i64 0)).setCell ⟨w.heap.size + 1, 1, none⟩ (.int .i64 0)) = V3 at *
    clear c4 c2 z2 c30 c31 z30 z31 g2 g3 x2 x3 hB
    refine ⟨by simp, .inl ⟨_, _, rfl, run_takeDeferred hD3, ?_⟩⟩
    have e1 := grownBy_putObj' V3 D (.deferred none)
    have f2 : (V3.putObj D (.deferred none)).heap[w.heap.size]? = some (.cells #[.pointer (some ⟨p, 0, none⟩)] 45 (0, 0)) := (World.putObj_heap_other (by omega)).trans g2'
    have f3 : (V3.putObj D (.deferred none)).heap[w.heap.size + 1]? = some (.cells #[.int .i64 0, .int .i64 0] 47 (0, 0)) := (World.putObj_heap_other (by omega)).trans g4
    have hB4 := hB3.grown e1 hB3.size (fun k e => by cases e; omega)
    generalize V3.putObj D (.deferred none) = V4 at *
    have k2 : V4.cell? ⟨w.heap.size, 0, none⟩ = some (.pointer (some ⟨p, 0, none⟩)) := cell_of_row _ _ 0 _ _ (0, 0) f2
    have k3 : V4.cell? ⟨w.heap.size + 1, 0, none⟩ = some (.int .i64 0) := cell_of_row _ _ 0 _ _ (0, 0) f3
    have k4 : V4.cell? ⟨w.heap.size + 1, 1, none⟩ = some (.int .i64 0) := cell_of_row _ _ 1 _ _ (0, 0) f3
    refine ⟨_, by simp [results, Tryz.f11, go_sem, k2, k3, k4]; rfl, ⟨_, rfl⟩, hB4⟩
end Go.Proofs.YtgcdopafblcbhaaGreatDoor

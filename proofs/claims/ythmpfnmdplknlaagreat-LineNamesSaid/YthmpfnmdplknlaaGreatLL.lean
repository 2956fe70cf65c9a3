import Derived.Test.YthmpfnmdplknlaaGreatLK
/- LineNames, walked. -/
namespace Go.Proofs.YthmpfnmdplknlaaGreat
set_option linter.unusedVariables false
set_option linter.unusedSimpArgs false
open Go.RowKit Go.Lib Go.Shelf
attribute [local go_sem] Oper.semAt_some
/-- what lies while the law runs -/
structure ST (w : World) (S : Nat) (V : World) : Prop where
  r : InBox w.heap.size 4 (.bool false) V
  s : V.heap[S]? = some (.cells #[.int .i64 0, .int .i64 0] 25 (0, 0))
  b : Below w.heap.size w V
  lt : w.heap.size < S
theorem ST.below {w V V' : World} {S : Nat} (h : ST w S V) (hb : Below V.heap.size V V') : ST w S V' := ⟨keptB h.r hb, keptB h.s hb, h.b.trans (hb.mono h.b.size), h.lt⟩
theorem ST.grown {w V V' : World} {S M : Nat} {row : Option Nat} (h : ST w S V) (hg : V.grownBy V' row) (hr : ∀ r, row = some r → M ≤ r) (hM : S < M) : ST w S V' :=
  ⟨old_at h.r hg hr (by have := h.lt; omega), old_at h.s hg hr hM, h.b.grown hg h.b.size (fun r e => by have := hr r e; have := h.lt; omega), h.lt⟩
theorem al_below (V : World) (o : Obj) : Below V.heap.size V (V.alloc o) := (Below.refl _ V).alloc (Nat.le_refl _) _
theorem below_al {V V' : World} {o : Obj} (h : Below (V.alloc o).heap.size (V.alloc o) V') : Below V.heap.size V V' := (al_below V o).trans (h.mono (by simp))
/-- what lies while the law's later half runs -/
structure SU (w : World) (S D : Nat) (V : World) : Prop where
  t : ST w S V
  d : V.heap[D]? = some (.deferred (some []))
theorem SU.below {w V V' : World} {S D : Nat} (h : SU w S D V) (hb : Below V.heap.size V V') : SU w S D V' := ⟨h.t.below hb, keptB h.d hb⟩
theorem LineM.below {lb : Nat} {V V' : World} (h : LineM lb V) (hb : Below V.heap.size V V') : LineM lb V' := by
  obtain ⟨g, s, h1, h2⟩ := h
  exact ⟨g, s, keptB h1 hb, keptB h2 hb⟩
theorem res_law {W : World} {T : Array Value} {p : Nat} {x : Value} (h2 : T.getD 0 undef = .pointer (some ⟨p, 0, none⟩)) (hp : W.heap[p]? = some (.cells #[x] 4 (0, 0))) :
    (results Tryz.f3 T).run Tryz.prog W = .ok x W := by
  have d0 : W.cell? ⟨p, 0, none⟩ = some x := cell_of_row _ _ 0 _ _ (0, 0) hp
  have h2' : T[0]?.getD undef = .pointer (some ⟨p, 0, none⟩) := by simpa using h2
  simp [results, Tryz.f3, go_sem, h2', d0]
set_option maxRecDepth 100000 in
set_option maxHeartbeats 8000000 in
theorem names_any (w : World) : Calls Tryz.prog 3 #[] w fun e w' => e = .returned (.bool true) ∧ Below w.heap.size w w' := by
  refine (callsIn_wide (n := 40)).1 ?_
  refine callsIn_of_wp_marks Tryz.func3 rfl trivial ?_ rfl
  simp only [Tryz.ntmps3, List.size_toArray, List.length_cons, List.length_nil, Nat.reduceAdd, Nat.reduceSub, Array.replicate_succ, Array.replicate_zero, List.push_toArray, List.append_toArray, List.nil_append, List.cons_append]
  have hwk := Lib.hid wakes_any
  have hword := Lib.hid word_nil
  have hforms := Lib.hid forms_nil
  have hbeats := Lib.hid beats_nil
  have hnth := Lib.hid nth_nil
  have hrank := Lib.hid rank_nil
  have hspan := Lib.hid span_nil
  have heach := Lib.hid each_nil
  gi_wp2
  refine ⟨trivial, CallsIn.mono (callsIn_wide.2 (hwk.out _)) ?_⟩
  rintro e w1 ⟨rfl, hb1⟩
  have r1 : InBox w.heap.size 4 (.bool false) w1 := keptB (World.alloc_heap_new w _) hb1
  have b1 : Below w.heap.size w w1 := ((Below.refl _ w).alloc (Nat.le_refl _) _).trans (hb1.mono (by simp))
  have R1 := Lib.hid r1
  have B1 := Lib.hid b1
  clear hb1 r1 b1
  gi_wp2
  refine ⟨trivial, CallsIn.mono (callsIn_wide.2 (hword.out _)) ?_⟩
  rintro e w2 ⟨rfl, hb2⟩
  have hS : ST w w2.heap.size (w2.alloc (.cells #[.int .i64 0, .int .i64 0] 25)) :=
    ⟨al_at (keptB R1.out hb2) _, World.alloc_heap_new w2 _, (B1.out.trans (hb2.mono B1.out.size)).alloc (B1.out.trans (hb2.mono B1.out.size)).size _, (Array.getElem?_eq_some_iff.1 (keptB R1.out hb2)).1⟩
  have HS := Lib.hid hS
  clear hb2 hS R1 B1
  gi_wp2
  refine ⟨trivial, CallsIn.mono (callsIn_wide.2 (hforms.out _)) ?_⟩
  rintro e w3 ⟨rfl, hb3⟩
  have HS3 := Lib.hid (HS.out.below hb3)
  clear hb3 HS
  gi_wp2
  refine ⟨trivial, CallsIn.mono (callsIn_wide.2 (hbeats.out _)) ?_⟩
  rintro e w4 ⟨rfl, hb4⟩
  have HS4 := Lib.hid (HS3.out.below hb4)
  clear hb4 HS3
  gi_wp2
  refine ⟨trivial, CallsIn.mono (callsIn_wide.2 (hnth.out _)) ?_⟩
  rintro e w5 ⟨rfl, hb5⟩
  have HS5 := Lib.hid (HS4.out.below hb5)
  clear hb5 HS4
  gi_wp2
  refine ⟨trivial, CallsIn.mono (callsIn_wide.2 (hrank.out _)) ?_⟩
  rintro e w6 ⟨rfl, hb6⟩
  have HS6 := Lib.hid (HS5.out.below hb6)
  clear hb6 HS5
  gi_wp2
  refine ⟨trivial, CallsIn.mono (callsIn_wide.2 (hspan.out _)) ?_⟩
  rintro e w7 ⟨rfl, hb7⟩
  have HS7 := Lib.hid (HS6.out.below hb7)
  clear hb7 HS6
  gi_wp2
  refine ⟨trivial, CallsIn.mono (callsIn_wide.2 (heach.out _)) ?_⟩
  rintro e w8 ⟨rfl, hw8⟩
  have h78 : Below w7.heap.size w7 w8 := by rw [hw8]; exact (Below.refl _ _).alloc (Nat.le_refl _) _
  have HS8 := Lib.hid (HS7.out.below h78)
  have hbx : InBox w7.heap.size 23 (.pointer none) w8 := by rw [hw8]; exact World.alloc_heap_new w7 _
  have hlt8 : w2.heap.size < w8.heap.size := (Array.getElem?_eq_some_iff.1 HS8.out.s).1
  have hlt7 : w7.heap.size < w8.heap.size := (Array.getElem?_eq_some_iff.1 hbx).1
  clear hw8 HS7 h78
  gi_wp2
  refine range_list (F := Fence.wide) rfl (by omega) (gf := 27) (lb := #[.pointer (some ⟨w7.heap.size, 0, none⟩)]) rfl trivial (enters_of Tryz.func27 (by kernel_rfl) rfl) (bs := [w7.heap.size]) (by intro i hi; simp at hi; omega)
    (encs := fun _ => #[.slice none 0 0]) (each_seq 39 (by omega) w7.heap.size _ w8 hbx) (fun _ => rfl) (fun _ V => ST w w2.heap.size V) ?hI HS8.out (fun _ _ _ => True) ?assign ?body ?hAx ?done
  case hI =>
    rintro k A B row i1 hg hr
    exact i1.grown hg hr hlt8
  case hAx =>
    exact fun x a' => fun s A B row h hg hr => trivial
  case assign =>
    intro l2 k x V K i1 hsz hK
    gi_wp2
    exact hK _ _ (KeepsAll.refl _ _) (fun i hi o ho => ho) i1 trivial
  case body =>
    intro l2 k x a' V hx
    simp at hx
  case done =>
    rintro D V hD i1 hK
    have hwD : w.heap.size ≤ D := by have := i1.lt; omega
    have hDS : w2.heap.size ≠ D := by omega
    have hDR : w.heap.size ≠ D := by have := i1.lt; omega
    have HU := Lib.hid (SU.mk i1 hK)
    clear i1 hK HS8 hbx hD hlt8 hlt7
    have hnil := Lib.hid new_nil
    have harg := Lib.hid new_arg
    have hlong := Lib.hid new_long
    have hfine := Lib.hid fun p w => new_fine 1024 p (by omega) w
    have hlex := Lib.hid lexnew_any
    have hm5 : ∀ W : World, (Instr.makeSlice 48 (.int .i64 1025) (.int .i64 1025)).run Tryz.prog W = .ok (.slice (some ⟨W.heap.size, 0, none⟩) 1025 1025) (W.alloc (.cells (zC 1025) 5)) := fun W => make_zt 1025 (by omega) W
    have hm4 : ∀ W : World, (Instr.makeSlice 48 (.int .i64 1024) (.int .i64 1024)).run Tryz.prog W = .ok (.slice (some ⟨W.heap.size, 0, none⟩) 1024 1024) (W.alloc (.cells (zC 1024) 5)) := fun W => make_zt 1024 (by omega) W
    have ht5 : ∀ W : World, (Go.convert 48 9 (.slice (some ⟨W.heap.size, 0, none⟩) 1025 1025)).run Tryz.prog (W.alloc (.cells (zC 1025) 5)) = .ok (.string (Zt 1025)) (W.alloc (.cells (zC 1025) 5)) := fun W => text_zt 1025 (by omega) W
    have ht4 : ∀ W : World, (Go.convert 48 9 (.slice (some ⟨W.heap.size, 0, none⟩) 1024 1024)).run Tryz.prog (W.alloc (.cells (zC 1024) 5)) = .ok (.string (Zt 1024)) (W.alloc (.cells (zC 1024) 5)) := fun W => text_zt 1024 (by omega) W
    gi_wp2
    refine ⟨trivial, CallsIn.mono (callsIn_wide.2 (hnil.out _ _ _)) ?_⟩
    rintro e v1 ⟨rfl, hv1⟩
    have HU1 := Lib.hid (HU.out.below (below_al hv1))
    clear hv1 HU
    gi_wp2
    refine ⟨trivial, CallsIn.mono (callsIn_wide.2 (hlex.out _)) ?_⟩
    rintro e v2 ⟨⟨p, rfl⟩, hv2⟩
    have HU2 := Lib.hid (HU1.out.below hv2)
    clear hv2 HU1
    gi_wp2
    refine ⟨trivial, CallsIn.mono (callsIn_wide.2 (harg.out _ _ _)) ?_⟩
    rintro e v3 ⟨rfl, hv3⟩
    have HU3 := Lib.hid (HU2.out.below hv3)
    clear hv3 HU2
    gi_wp2
    refine ⟨trivial, CallsIn.mono (callsIn_wide.2 (hlong.out _ _)) ?_⟩
    rintro e v4 ⟨rfl, hv4⟩
    have HU4 := Lib.hid (HU3.out.below (below_al hv4))
    clear hv4 HU3
    gi_wp2
    refine ⟨trivial, CallsIn.mono (callsIn_wide.2 (hfine.out _ _)) ?_⟩
    rintro e v5 ⟨lb, rfl, hl5, hv5⟩
    have HU5 := Lib.hid (HU4.out.below (below_al hv5))
    have HL5 := Lib.hid hl5
    have hct := Lib.hid (count_line lb v5 hl5)
    have hwd := Lib.hid (words_line lb v5 hl5)
    have hwi := Lib.hid (with_line lb v5 hl5)
    clear hv5 HU4 hl5 hm4 hm5 ht4 ht5
    gi_wp2
    refine ⟨trivial, CallsIn.mono (callsIn_wide.2 hct.out) ?_⟩
    rintro e v6 ⟨rfl, rfl⟩
    gi_wp2
    refine ⟨trivial, CallsIn.mono (callsIn_wide.2 hwd.out) ?_⟩
    rintro e v6 ⟨rfl, rfl⟩
    gi_wp2
    refine ⟨trivial, CallsIn.mono (callsIn_wide.2 hwi.out) ?_⟩
    rintro e v6 ⟨rfl, hv6⟩
    have HU6 := Lib.hid (HU5.out.below hv6)
    have hnl := Lib.hid (nth_line lb v6 (HL5.out.below hv6))
    have htx := Lib.hid text_nil
    have hww := Lib.hid words_nil
    have hnr := Lib.hid near_nil
    have hcc := Lib.hid count_nil
    have hwt := Lib.hid with_nil
    clear hv6 HU5 HL5
    gi_wp2
    refine ⟨trivial, CallsIn.mono (callsIn_wide.2 hnl.out) ?_⟩
    rintro e v7 ⟨⟨v, rfl, A, c, rfl⟩, hv7⟩
    have HU7 := Lib.hid (HU6.out.below hv7)
    clear hv7 HU6
    gi_wp2
    refine ⟨trivial, CallsIn.mono (callsIn_wide.2 (htx.out _)) ?_⟩
    rintro e v8 ⟨rfl, hv8⟩
    have HU8 := Lib.hid (HU7.out.below hv8)
    clear hv8 HU7
    gi_wp2
    refine ⟨trivial, CallsIn.mono (callsIn_wide.2 (hww.out _)) ?_⟩
    rintro e v9 ⟨rfl, hv9⟩
    have HU9 := Lib.hid (HU8.out.below hv9)
    have c0 : v9.cell? ⟨w2.heap.size, 0, none⟩ = some (.int .i64 0) := cell_of_row _ _ 0 _ _ (0, 0) HU9.out.t.s
    have c1 : v9.cell? ⟨w2.heap.size, 1, none⟩ = some (.int .i64 0) := cell_of_row _ _ 1 _ _ (0, 0) HU9.out.t.s
    clear hv9 HU8
    gi_wp2
    refine ⟨trivial, CallsIn.mono (callsIn_wide.2 (hnr.out _)) ?_⟩
    rintro e va ⟨rfl, hva⟩
    have HUa := Lib.hid (HU9.out.below hva)
    clear hva HU9 c0 c1
    gi_wp2
    refine ⟨trivial, CallsIn.mono (callsIn_wide.2 (hcc.out _)) ?_⟩
    rintro e vb ⟨rfl, hvb⟩
    have HUb := Lib.hid (HUa.out.below hvb)
    clear hvb HUa
    gi_wp2
    refine ⟨trivial, CallsIn.mono (callsIn_wide.2 (hwt.out _)) ?_⟩
    rintro e vc ⟨rfl, hvc⟩
    have HUc := Lib.hid (HUb.out.below hvc)
    have c0 : vc.cell? ⟨w.heap.size, 0, none⟩ = some (.bool false) := cell_of_row _ _ 0 _ _ (0, 0) HUc.out.t.r
    have z0 := frozen_of_row vc w.heap.size 0 _ _ HUc.out.t.r
    clear hvc HUb
    gi_wp2
    have r0 := heap_setCell_same vc w.heap.size 0 _ _ (.bool true) HUc.out.t.r
    have e0 : vc.grownBy (vc.setCell ⟨w.heap.size, 0, none⟩ (.bool true)) (some w.heap.size) := only_set (only_below (Below.refl _ vc) _) (.inl rfl) _
    have hne : D ≠ w.heap.size := fun e => by
      have h1 := HUc.out.d
      have h2 := HUc.out.t.r
      unfold InBox at h2
      rw [e, h2] at h1
      cases h1
    have d0 := keptG HUc.out.d e0 hne
    have b0 := HUc.out.t.b.grown e0 HUc.out.t.b.size (fun k e => by cases e; omega)
    generalize vc.setCell ⟨w.heap.size, 0, none⟩ (.bool true) = vd at *
    refine ⟨by simp, .inl ⟨_, _, rfl, run_takeDeferred d0, ?_⟩⟩
    have e1 := grownBy_putObj' vd D (.deferred none)
    exact ⟨_, res_law rfl (keptG r0 e1 (Ne.symm hne)), rfl, b0.grown e1 b0.size (fun k e => by cases e; omega)⟩
end Go.Proofs.YthmpfnmdplknlaaGreat

import Derived.Test.YtgcdopafblcbhaaGreatDoorVA
import Derived.Deep.RegionHeld
import Derived.Maps.OwnOps
/- Both tables of the joined letters. -/
namespace Go.Proofs.YtgcdopafblcbhaaGreatDoor
set_option linter.unusedVariables false
set_option linter.unusedSimpArgs false
open Go.RowKit Go.Lib Go.Shelf
attribute [local go_sem] Oper.semAt_some

theorem opSkip {P : Program} {Q : Exit → Act → World → Prop} {o : Oper} {a : Act} {w w' : World} {K : Act → World → Prop} (h : (execOp a.eval o).run P w = .ok .skip w') (hk : K (a.put o.dst undef) w') : o.wp P a w K Q := by
  unfold Oper.wp
  rw [h]
  exact hk
theorem wpOp_of {P : Program} {ops : Array Oper} {Q : Exit → Act → World → Prop} {i : Nat} {o : Oper} {a : Act} {w : World} {K : Act → World → Prop} (hi : ops[i]? = some o) (hg : o.guard = none) (h : o.wp P a w K Q) : wpOp P ops Q i K a w := by
  unfold wpOp
  rw [hi]
  have hw : Region.wanted o (yielded ops a.tmps) = true := by simp [Region.wanted, hg]
  simp only [hw, if_true]
  exact .inl h
theorem Kr : KeyOk Tryz.prog 21 (fun a : Int => Value.int .i32 a) := keyOk_int Tryz.underlying21
theorem Kp : KeyOk Tryz.prog 191 pairV := keyOk_pair (info := Tryz.t21) Tryz.underlying191 Tryz.underlying21 (by kernel_rfl) (by kernel_rfl)
def joinE (x : (Int × Int) × Int) : (Int × Int) × Value := (x.1, .int .i32 x.2)
def splitE (x : (Int × Int) × Int) : Int × Value := (x.2, pairV x.1)
theorem nd_take {β γ : Type} (f : β → γ) {l : List β} (h : (l.map f).Nodup) {k : Nat} {x : β} (hx : l[k]? = some x) : f x ∉ (l.take k).map f := by
  intro hm
  obtain ⟨hk, e⟩ := List.getElem?_eq_some_iff.1 hx
  have h1 : l = l.take k ++ x :: l.drop (k + 1) := by
    rw [← e, ← List.drop_eq_getElem_cons hk, List.take_append_drop]
  rw [h1, List.map_append, List.map_cons] at h
  have := (List.nodup_append.1 h).2.2 _ hm _ List.mem_cons_self
  exact this rfl
theorem take_one {β : Type} {l : List β} {k : Nat} {x : β} (hx : l[k]? = some x) : l.take (k + 1) = l.take k ++ [x] := by
  obtain ⟨hk, e⟩ := List.getElem?_eq_some_iff.1 hx
  rw [List.take_add_one, hx]; rfl
theorem join_put {k : Nat} {x : (Int × Int) × Int} (hx : PAIRS[k]? = some x) : putA x.1 (.int .i32 x.2) ((PAIRS.take k).map joinE) = (PAIRS.take (k + 1)).map joinE := by
  rw [put_new _ _ _ (by rw [List.map_map]; exact nd_take (fun x => x.1) pairs_nd.1 hx), take_one hx, List.map_append]; rfl
theorem split_put {k : Nat} {x : (Int × Int) × Int} (hx : PAIRS[k]? = some x) : putA x.2 (pairV x.1) ((PAIRS.take k).map splitE) = (PAIRS.take (k + 1)).map splitE := by
  rw [put_new _ _ _ (by rw [List.map_map]; exact nd_take (fun x => x.2) pairs_nd.2 hx), take_one hx, List.map_append]; rfl
/-- the tables so far -/
structure TbI (w : World) (k : Nat) (V : World) : Prop where
  b : Below w.heap.size w V
  j : MapL pairV V w.heap.size ((PAIRS.take k).map joinE)
  s : MapL (fun a : Int => Value.int .i32 a) V (w.heap.size + 1) ((PAIRS.take k).map splitE)
  bj : V.heap[w.heap.size + 2]? = some (.cells #[.map (some w.heap.size)] 178 (0, 0))
  bs : V.heap[w.heap.size + 3]? = some (.cells #[.map (some (w.heap.size + 1))] 179 (0, 0))
theorem TbI.grown {w V V' : World} {k M : Nat} {row : Option Nat} (h : TbI w k V) (hg : V.grownBy V' row) (hr : ∀ r, row = some r → M ≤ r) (hM : w.heap.size + 4 ≤ M) : TbI w k V' := by
  have old : ∀ i, i < w.heap.size + 4 → i < V.heap.size → V'.heap[i]? = V.heap[i]? := fun i h1 h2 => hg.block i h2 (fun e => by have := hr i e.symm; omega)
  exact ⟨h.b.grown hg h.b.size (fun r e => by have := hr r e; omega), h.j.of (old _ (by omega) h.j.lt), h.s.of (old _ (by omega) h.s.lt), (old _ (by omega) (Array.getElem?_eq_some_iff.1 h.bj).1).trans h.bj, (old _ (by omega) (Array.getElem?_eq_some_iff.1 h.bs).1).trans h.bs⟩
set_option maxRecDepth 100000 in
set_option maxHeartbeats 8000000 in
theorem tables_any (w : World) : Calls Tryz.prog 102 #[] w fun e w' => e = .returned (.tuple #[.map (some w.heap.size), .map (some (w.heap.size + 1))]) ∧ Below w.heap.size w w' ∧ MapL pairV w' w.heap.size (PAIRS.map joinE) ∧ MapL (fun a : Int => Value.int .i32 a) w' (w.heap.size + 1) (PAIRS.map splitE) := by
  refine (callsIn_wide (n := 6)).1 ?_
  refine callsIn_of_wp_marks Tryz.func102 rfl trivial ?_ rfl
  simp only [Tryz.ntmps102, List.size_toArray, List.length_cons, List.length_nil, Nat.reduceAdd, Nat.reduceSub, Array.replicate_succ, Array.replicate_zero, List.push_toArray, List.append_toArray, List.nil_append, List.cons_append]
  have hmm := @run_makeMap Tryz.prog
  obtain ⟨W4, hW4⟩ : ∃ W4, ((((w.alloc (.map #[] 0)).alloc (.map #[] 0)).alloc (.cells #[.map (some w.heap.size)] 178)).alloc (.cells #[.map (some (w.heap.size + 1))] 179)) = W4 := ⟨_, rfl⟩
  have s4 : W4.heap.size = w.heap.size + 4 := by rw [← hW4]; simp
  have h0 : TbI w 0 W4 := by
    rw [← hW4]
    have e2 := World.alloc_heap_new ((w.alloc (.map #[] 0)).alloc (.map #[] 0)) (.cells #[.map (some w.heap.size)] 178)
    have e3 := World.alloc_heap_new (((w.alloc (.map #[] 0)).alloc (.map #[] 0)).alloc (.cells #[.map (some w.heap.size)] 178)) (.cells #[.map (some (w.heap.size + 1))] 179)
    have e1 := World.alloc_heap_new (w.alloc (.map #[] 0)) (.map #[] 0)
    simp only [World.size_alloc] at e1 e2 e3
    refine ⟨((((Below.refl _ _).alloc (Nat.le_refl _) _).alloc (by simp) _).alloc (by simp; omega) _).alloc (by simp; omega) _, ⟨#[], 0, al_at (al_at (al_at (World.alloc_heap_new w _) _) _) _, rfl⟩, ⟨#[], 0, al_at (al_at e1 _) _, rfl⟩, al_at e2 _, e3⟩
  have H0 := Lib.hid h0
  have HW4 := Lib.hid hW4
  clear h0 hW4
  gi_wp2
  rw [HW4.out]
  refine range_x (F := Fence.wide) rfl (by omega) (gf := 144) (lb := #[]) rfl trivial (enters_of Tryz.func144 (by kernel_rfl) rfl) (bs := []) (by intro i hi; cases hi)
    (pairs_seq 5 (by omega) W4) (fun _ => rfl) (fun k V => TbI w k V) (fun _ _ _ => False) ?hI ?hIx H0.out
    (fun x a' V => ∃ Bx, w.heap.size + 4 ≤ Bx ∧ V.heap[Bx]? = some (.cells #[.int .i32 x.1.1, .int .i32 x.1.2] 191 (0, 0)) ∧ a' = { tmps := #[.map none, .map none, .pointer (some ⟨w.heap.size + 2, 0, none⟩), .pointer (some ⟨w.heap.size + 3, 0, none⟩), .pointer (some ⟨Bx, 0, none⟩), .int .i32 x.2, .map (some w.heap.size), .map (some (w.heap.size + 1)), pairV x.1, .int .i32 x.2, undef, undef, undef, undef, undef, undef, undef, undef], defers := [] }) ?assign ?body ?hAx ?done ?stop
  case hI =>
    rintro k A B row i1 hg hr
    exact i1.grown hg hr (by omega)
  case hIx => exact fun c k A B row h _ _ => h.elim
  case hAx =>
    rintro x a' s A B row ⟨Bx, h1, h2, h3⟩ hg hr
    refine ⟨Bx, h1, (hg.block Bx (Array.getElem?_eq_some_iff.1 h2).1 (fun e => ?_)).trans h2, h3⟩
    obtain ⟨_, o, ho, hc⟩ := hr Bx e.symm
    rw [h2] at ho; cases ho; cases hc
  case stop => exact fun _ _ _ _ _ _ h _ => h.elim
  case assign =>
    intro l2 k x V K hx hi hsz hK
    unfold pairV
    gi_wp2
    refine hK _ _ (KeepsAll.alloc _ _ _) (KeepsSome.only (World.grownBy_alloc V _ none) (fun k e => by cases e)) (hi.grown (World.grownBy_alloc V _ none) (fun r e => by cases e) (M := V.heap.size) (by omega)) ⟨V.heap.size, by omega, World.alloc_heap_new V _, rfl⟩
  case body =>
    rintro l2 k x a' V hx hi ⟨Bx, hBx, hxx, rfl⟩ hsz
    have d2 : V.cell? ⟨w.heap.size + 2, 0, none⟩ = some (.map (some w.heap.size)) := cell_of_row _ _ 0 _ _ (0, 0) hi.bj
    have d3 : V.cell? ⟨w.heap.size + 3, 0, none⟩ = some (.map (some (w.heap.size + 1))) := cell_of_row _ _ 0 _ _ (0, 0) hi.bs
    have e0 : V.cell? ⟨Bx, 0, none⟩ = some (.int .i32 x.1.1) := cell_of_row _ _ 0 _ _ (0, 0) hxx
    have e1 : V.cell? ⟨Bx, 1, none⟩ = some (.int .i32 x.1.2) := cell_of_row _ _ 1 _ _ (0, 0) hxx
    unfold pairV
    gi_wp2
    refine wpIn_region_held_round (S := fun W' => W'.cell? ⟨w.heap.size + 2, 0, none⟩ = some (.map (some w.heap.size)) ∧ W'.cell? ⟨w.heap.size + 3, 0, none⟩ = some (.map (some (w.heap.size + 1))) ∧ W'.cell? ⟨Bx, 0, none⟩ = some (.int .i32 x.1.1) ∧ W'.cell? ⟨Bx, 1, none⟩ = some (.int .i32 x.1.2)) (by kernel_rfl) (by kernel_rfl) (fun ⟨_, _, h⟩ => h) ⟨d2, d3, e0, e1⟩ (fun hHeld => ?_)
    refine wpAnyH_take (i := 0) (v := ?_) rfl (by kernel_rfl) (by kernel_rfl) (by kernel_rfl) (fun _ _ _ h => h) (Or.inl ⟨by rfl, ?_⟩) (by assumption) ?_
    rotate_left
    · intro w hSw
      obtain ⟨hS1, hS2, hS3, hS4⟩ := hSw
      go_simp
      try with_reducible rfl
    simp only [Act.put, List.getElem_toArray, List.getElem_cons_zero, List.getElem_cons_succ, List.setIfInBounds_toArray, List.set_cons_zero, List.set_cons_succ]
    refine wpAnyH_take (i := 1) (v := ?_) rfl (by kernel_rfl) (by kernel_rfl) (by kernel_rfl) (fun _ _ _ h => h) (Or.inl ⟨by rfl, ?_⟩) (by assumption) ?_
    rotate_left
    · intro w hSw
      obtain ⟨hS1, hS2, hS3, hS4⟩ := hSw
      go_simp
      try with_reducible rfl
    simp only [Act.put, List.getElem_toArray, List.getElem_cons_zero, List.getElem_cons_succ, List.setIfInBounds_toArray, List.set_cons_zero, List.set_cons_succ]
    refine wpAnyH_take (i := 2) (v := ?_) rfl (by kernel_rfl) (by kernel_rfl) (by kernel_rfl) (fun _ _ _ h => h) (Or.inl ⟨by rfl, ?_⟩) (by assumption) ?_
    rotate_left
    · intro w hSw
      obtain ⟨hS1, hS2, hS3, hS4⟩ := hSw
      go_simp
      try with_reducible rfl
    simp only [Act.put, List.getElem_toArray, List.getElem_cons_zero, List.getElem_cons_succ, List.setIfInBounds_toArray, List.set_cons_zero, List.set_cons_succ]
    refine wpAnyH_take (i := 3) (v := ?_) rfl (by kernel_rfl) (by kernel_rfl) (by kernel_rfl) (fun _ _ _ h => h) (Or.inl ⟨by rfl, ?_⟩) (by assumption) ?_
    rotate_left
    · intro w hSw
      obtain ⟨hS1, hS2, hS3, hS4⟩ := hSw
      go_simp
      try with_reducible rfl
    simp only [Act.put, List.getElem_toArray, List.getElem_cons_zero, List.getElem_cons_succ, List.setIfInBounds_toArray, List.set_cons_zero, List.set_cons_succ]
    refine wpAnyH_take (i := 4) (v := ?_) rfl (by kernel_rfl) (by kernel_rfl) (by kernel_rfl) (fun _ _ _ h => h) (Or.inl ⟨by rfl, ?_⟩) (by assumption) ?_
    rotate_left
    · intro w hSw
      obtain ⟨hS1, hS2, hS3, hS4⟩ := hSw
      go_simp
      try with_reducible rfl
    simp only [Act.put, List.getElem_toArray, List.getElem_cons_zero, List.getElem_cons_succ, List.setIfInBounds_toArray, List.set_cons_zero, List.set_cons_succ]
    refine wpAnyH_take (i := 5) (v := ?_) rfl (by kernel_rfl) (by kernel_rfl) (by kernel_rfl) (fun _ _ _ h => h) (Or.inl ⟨by rfl, ?_⟩) (by assumption) ?_
    rotate_left
    · intro w hSw
      obtain ⟨hS1, hS2, hS3, hS4⟩ := hSw
      go_simp
      try with_reducible rfl
    simp only [Act.put, List.getElem_toArray, List.getElem_cons_zero, List.getElem_cons_succ, List.setIfInBounds_toArray, List.set_cons_zero, List.set_cons_succ]
    obtain ⟨V1, hr1, hm1, hg1⟩ := (hi.j.of (w' := V.drew) rfl).store Kp Tryz.underlying178 x.1 (.int .i32 x.2)
    have hs1 : MapL (fun a : Int => Value.int .i32 a) V1 (w.heap.size + 1) ((PAIRS.take k).map splitE) := hi.s.of (hg1.block _ (by exact hi.s.lt) (by simp))
    obtain ⟨V2, hr2, hm2, hg2⟩ := hs1.store Kr Tryz.underlying179 x.2 (pairV x.1)
    have hlt1 := hm1.lt
    rw [join_put hx] at hm1
    rw [split_put hx] at hm2
    have hj2 := hm1.of (hg2.block _ hlt1 (by simp))
    have keep : ∀ i, i ≠ w.heap.size → i ≠ w.heap.size + 1 → i < V.heap.size → V2.heap[i]? = V.heap[i]? := fun i h1 h2 h3 =>
      (hg2.block i (Nat.lt_of_lt_of_le h3 hg1.size) (fun e => h2 (by cases e; rfl))).trans (hg1.block i h3 (fun e => h1 (by cases e; rfl)))
    have hT : TbI w (k + 1) V2 := ⟨(hi.b.drew.grown hg1 hi.b.size (fun r e => by cases e; exact Nat.le_refl _)).grown hg2 (Nat.le_trans hi.b.size hg1.size) (fun r e => by cases e; exact Nat.le_succ _), hj2, hm2, (keep _ (by omega) (by omega) (Array.getElem?_eq_some_iff.1 hi.bj).1).trans hi.bj, (keep _ (by omega) (by omega) (Array.getElem?_eq_some_iff.1 hi.bs).1).trans hi.bs⟩
    have hK : KeepsAll W4.heap.size V V2 := ⟨Nat.le_trans hg1.size hg2.size, fun i o h1 h2 => (keep i (by omega) (by omega) (Array.getElem?_eq_some_iff.1 h2).1).trans h2⟩
    have hS1 : V1.cell? ⟨w.heap.size + 2, 0, none⟩ = some (.map (some w.heap.size)) ∧ V1.cell? ⟨w.heap.size + 3, 0, none⟩ = some (.map (some (w.heap.size + 1))) ∧ V1.cell? ⟨Bx, 0, none⟩ = some (.int .i32 x.1.1) ∧ V1.cell? ⟨Bx, 1, none⟩ = some (.int .i32 x.1.2) :=
      ⟨hg1.cell d2 (by simp), hg1.cell d3 (by simp), hg1.cell e0 (by simp; omega), hg1.cell e1 (by simp; omega)⟩
    have hS2 : V2.cell? ⟨w.heap.size + 2, 0, none⟩ = some (.map (some w.heap.size)) ∧ V2.cell? ⟨w.heap.size + 3, 0, none⟩ = some (.map (some (w.heap.size + 1))) ∧ V2.cell? ⟨Bx, 0, none⟩ = some (.int .i32 x.1.1) ∧ V2.cell? ⟨Bx, 1, none⟩ = some (.int .i32 x.1.2) :=
      ⟨hg2.cell hS1.1 (by simp), hg2.cell hS1.2.1 (by simp), hg2.cell hS1.2.2.1 (by simp; omega), hg2.cell hS1.2.2.2 (by simp; omega)⟩
    unfold pairV at hr1 hr2
    refine wpAnyH_all (rs := [6]) (by kernel_rfl) (by simp) (fun i hi6 => ?_)
    simp only [List.mem_singleton] at hi6
    subst hi6
    refine wpOp_of rfl rfl (opSkip (w' := V1) (by go_simp; try rfl) ⟨hS1, ?_⟩)
    simp only [Act.put, List.getElem_toArray, List.getElem_cons_zero, List.getElem_cons_succ, List.setIfInBounds_toArray, List.set_cons_zero, List.set_cons_succ]
    refine wpAnyH_all (rs := [7]) (by kernel_rfl) (by simp) (fun i hi6 => ?_)
    simp only [List.mem_singleton] at hi6
    subst hi6
    refine wpOp_of rfl rfl (opSkip (w' := V2) (by go_simp; try rfl) ⟨hS2, ?_⟩)
    refine wpAnyH_done (by kernel_rfl) ?_ _
    exact ⟨hK, (fun i hi => (by cases hi)), hT⟩
  case done =>
    intro D W hD hi hDd
    have d2 : W.cell? ⟨w.heap.size + 2, 0, none⟩ = some (.map (some w.heap.size)) := cell_of_row _ _ 0 _ _ (0, 0) hi.bj
    have d3 : W.cell? ⟨w.heap.size + 3, 0, none⟩ = some (.map (some (w.heap.size + 1))) := cell_of_row _ _ 0 _ _ (0, 0) hi.bs
    have d2' : W.cell? ⟨w.heap.size + 1 + 1, 0, none⟩ = some (.map (some w.heap.size)) := d2
    have d3' : W.cell? ⟨w.heap.size + 1 + 1 + 1, 0, none⟩ = some (.map (some (w.heap.size + 1))) := d3
    have hi2 := hi
    have hj := hi.j
    have hs := hi.s
    have hb := hi.b
    rw [List.take_length] at hj hs
    have HH := Lib.hid (And.intro hb (And.intro hj hs))
    clear hi hi2 hj hs hb
    have hDd2 : W.drew.heap[D]? = some (.deferred (some [])) := hDd
    gi_wp2
    gi_region
    gi_wp2
    refine ⟨by simp, .inl ⟨_, _, rfl, run_takeDeferred hDd2, ?_⟩⟩
    have hbp : ∀ i, i < w.heap.size + 4 → (W.drew.putObj D (.deferred none)).heap[i]? = W.heap[i]? := fun i hi => World.putObj_heap_other (by omega)
    refine ⟨_, by simp [results, Tryz.f102, go_sem], rfl, ⟨HH.out.1.os, HH.out.1.tape, HH.out.1.output, by rw [World.putObj_size]; exact HH.out.1.size, fun k hk => (hbp k (by omega)).trans (HH.out.1.block k hk)⟩, HH.out.2.1.of (hbp _ (by omega)), HH.out.2.2.of (hbp _ (by omega))⟩
end Go.Proofs.YtgcdopafblcbhaaGreatDoor

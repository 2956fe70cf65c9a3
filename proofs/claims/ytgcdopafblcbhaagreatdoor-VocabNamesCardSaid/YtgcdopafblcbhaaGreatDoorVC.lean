import Derived.Test.YtgcdopafblcbhaaGreatDoorVB
import Derived.Deep.Cut
import Derived.Laws.AppendOwnNone
import Derived.Maps.AppendAt
/- What a rune is made of. -/
namespace Go.Proofs.YtgcdopafblcbhaaGreatDoor
set_option linter.unusedVariables false
set_option linter.unusedSimpArgs false
open Go.RowKit Go.Lib Go.Shelf

section
variable {P : Program} {ops : Array Oper} {Q : Exit → Act → World → Prop}
theorem opValue {o : Oper} {a : Act} {w w' : World} {v : Value} {K : Act → World → Prop} (h : (execOp a.eval o).run P w = .ok (.value v) w') (hk : K (a.put o.dst v) w') : o.wp P a w K Q := by
  unfold Oper.wp
  rw [h]
  exact hk
theorem opAppend {o : Oper} {a : Act} {w : World} {K : Act → World → Prop} (s x : Operand) (t : TypeId) (ho : o.op = .call { callee := .builtin .append, args := #[s, x], argTypes := #[t, t] })
    (base : Nat) (e : TypeId) (i : TypeInfo) (z : Value) (size bytes : Nat) (ht : P.underlying t = some (.slice e)) (hi : P.info? e = some i) (hz : i.zero = some z)
    (hsize : i.size = size) (hby : i.bytes = bytes) (hzs : z.cells.size = size) (hsz : 0 < size)
    (v : Value) (n : Nat) (xs : List Value) (hs : a.eval s = v) (hown : w.ownsRow base e size v n xs)
    (ad : Addr) (m c : Nat) (news : List Value) (hx : a.eval x = .slice (some ad) m c) (hl : news.length = m * size) (hnews : ∀ j u, news[j]? = some u → w.cell? (ad.add j) = some u) (h1 : ∀ u ∈ news, u.oneCell' = true)
    (h63 : n + m ≤ maxLen) (hbytes : (n + m) * bytes ≤ 140737488355328) (hbase : base ≤ w.heap.size)
    (h : ∀ v' w', w'.ownsRow base e size v' (n + m) (xs ++ news) → w.grownBy w' v.ownBlock → (v'.ownBlock = v.ownBlock ∨ v'.ownBlock = some w.heap.size) → K (a.put o.dst v') w') : o.wp P a w K Q := by
  obtain ⟨v', w', hr, h2, h3, h4, h5⟩ := run_append_own_at (P := P) w base t o.type e i z size bytes ht hi hz hsize hby hzs hsz v n xs hown ad m c news hl hnews h1 h63 hbytes hbase
  unfold Oper.wp execOp
  simp only [ho, resolve, invoke, builtin, Sem.run_bind, Sem.run_pure, Result.andThen_ok, List.map_toArray, List.map_cons, List.map_nil, hs, hx, hr, Oper.upon]
  exact h v' w' h2 h3 h5
end
abbrev iV (a : Int) : Value := .int .i32 a
theorem infoR : Tryz.prog.info? 21 = some Tryz.t21 := by kernel_rfl
theorem zeroR : Tryz.t21.zero = some (.int .i32 0) := by kernel_rfl
theorem sizeR : Tryz.t21.size = 1 := by kernel_rfl
theorem bytesR : Tryz.t21.bytes = 4 := by kernel_rfl
theorem zeroPair (w : World) : (zeroValue 191).run Tryz.prog w = .ok (.agg #[.int .i32 0, .int .i32 0]) w := by kernel_rfl
theorem own_low {W : World} {B C e z n : Nat} {v : Value} {c : List Value} (h : W.ownsRow B e z v n c) (hC : C ≤ B) : W.ownsRow C e z v n c := by
  refine ⟨h.1, h.2.imp id ?_⟩
  rintro ⟨g, cap, cur, h1, h2, h3⟩
  exact ⟨g, cap, cur, h1, Nat.le_trans hC h2, h3⟩
theorem call_op {P : Program} {o : Oper} {a : Act} {w : World} {f : FuncId} {args : Array Value} {K : Act → World → Prop} {Q : Exit → Act → World → Prop} (h : (execOp a.eval o).run P w = .ok (.enter f args) w)
    (hc : Calls P f args w fun e w' => ∃ v, e = .returned v ∧ K (a.put o.dst v) w') : o.wp P a w K Q := by
  unfold Oper.wp
  rw [h]
  refine Calls.mono hc ?_
  rintro e w' ⟨v, rfl, hk⟩
  exact hk
theorem row_lit (w : World) (B e : Nat) (x : Value) (hB : B ≤ w.heap.size) : (w.alloc (.cells #[x] e)).ownsRow B e 1 (.slice (some ⟨w.heap.size, 0, none⟩) 1 1) 1 [x] :=
  ⟨by simp, .inr ⟨w.heap.size, 1, #[x], rfl, hB, World.alloc_heap_new w _, Nat.le_refl _, by decide, by simp, by simp⟩⟩
theorem partF_len : ∀ (n : Nat) (r : Int), (partF n r).length ≤ n + 1
  | 0, r => by simp [partF]
  | n + 1, r => by
    unfold partF
    split
    · simp
    · have := partF_len n (by assumption)
      simp only [List.length_append, List.length_singleton]
      rename_i a m _
      have := partF_len n a
      omega
theorem split_get (r : Int) : getA r (PAIRS.map splitE) = (splitP r).map pairV := by
  have := get_find (fun x : (Int × Int) × Int => x.2) (fun x => pairV x.1) r PAIRS
  unfold splitE
  rw [this]
  unfold splitP
  rw [Option.map_map]
  have e : (fun x : (Int × Int) × Int => decide (x.2 = r)) = (fun x => x.2 == r) := by
    funext x
    by_cases h : x.2 = r
    · simp [h]
    · simp [h]
  rw [e]; rfl
theorem row_type {w : World} {B e z n g : Nat} {v : Value} {ys : List Value} (h : w.ownsRow B e z v n ys) (hg : v.ownBlock = some g) : ∃ cur, w.heap[g]? = some (.cells cur e (0, 0)) := by
  rcases h.2 with ⟨h1, _⟩ | ⟨g', cap, cur, h1, _, h2, _⟩
  · rw [h1] at hg; cases hg
  · rw [h1] at hg; cases hg; exact ⟨_, h2⟩
set_option maxRecDepth 100000 in
set_option maxHeartbeats 8000000 in
theorem parted_none (r : Int) (B : Nat) (w : World) (hs : splitP r = none) (hm : MapL iV w B (PAIRS.map splitE)) :
    Calls Tryz.prog 103 #[.map (some B), .int .i32 r] w fun e w' => ∃ v, e = .returned v ∧ w'.ownsRow w.heap.size 21 1 v 1 [iV r] ∧ Below w.heap.size w w' := by
  have hl := hm.look Kr Tryz.underlying179 (zeroPair w) r true
  rw [split_get, hs] at hl
  simp only [if_true, Option.map_none, Option.getD_none, Option.isSome_none] at hl
  clear hm
  go_enter Tryz.func103, Tryz.ntmps103
  go_wp2_with fail
  go_ret
  refine ⟨_, rfl, ?_, ((Below.refl _ _).alloc (Nat.le_refl _) _).alloc (by simp) _⟩
  have := row_lit (w.alloc (.cells #[.int .i32 0, .int .i32 0] 191)) w.heap.size 21 (iV r) (by simp)
  rw [World.size_alloc] at this
  exact this
set_option maxRecDepth 100000 in
set_option maxHeartbeats 16000000 in
theorem parted_some (n : Nat) (hn : n ≤ 100) (r : Int) (p : Int × Int) (B : Nat) (w : World) (hs : splitP r = some p) (hm : MapL iV w B (PAIRS.map splitE))
    (ih : ∀ w : World, MapL iV w B (PAIRS.map splitE) → Calls Tryz.prog 103 #[.map (some B), .int .i32 p.1] w fun e w' => ∃ v, e = .returned v ∧ w'.ownsRow w.heap.size 21 1 v (partF n p.1).length ((partF n p.1).map iV) ∧ Below w.heap.size w w') :
    Calls Tryz.prog 103 #[.map (some B), .int .i32 r] w fun e w' => ∃ v, e = .returned v ∧ w'.ownsRow w.heap.size 21 1 v (partF (n + 1) r).length ((partF (n + 1) r).map iV) ∧ Below w.heap.size w w' := by
  have hl := hm.look Kr Tryz.underlying179 (zeroPair w) r true
  rw [split_get, hs] at hl
  simp only [if_true, Option.map_some, Option.getD_some, Option.isSome_some, pairV] at hl
  have hpn : ∀ (v5 : Value) (w5 : World), w5.ownsRow w.heap.size 21 1 v5 ((partF n p.1).length + 1) ((partF n p.1).map iV ++ [iV p.2]) → w5.ownsRow w.heap.size 21 1 v5 (partF (n + 1) r).length ((partF (n + 1) r).map iV) := by
    intro v5 w5 h
    have e : partF (n + 1) r = partF n p.1 ++ [p.2] := by
      obtain ⟨a, m⟩ := p
      show (match splitP r with | none => [r] | some (a, m) => partF n a ++ [m]) = _
      rw [hs]
    rw [e, List.length_append, List.length_singleton, List.map_append]
    exact h
  obtain ⟨W1, hW1⟩ : ∃ W1, w.alloc (.cells #[.int .i32 p.1, .int .i32 p.2] 191) = W1 := ⟨_, rfl⟩
  have hb1 : Below w.heap.size w W1 := by rw [← hW1]; exact (Below.refl _ _).alloc (Nat.le_refl _) _
  have hx1 : W1.heap[w.heap.size]? = some (.cells #[.int .i32 p.1, .int .i32 p.2] 191 (0, 0)) := by rw [← hW1]; exact World.alloc_heap_new w _
  have s1 : W1.heap.size = w.heap.size + 1 := by rw [← hW1]; simp
  have hm1 : MapL iV W1 B (PAIRS.map splitE) := hm.below hb1
  have HW1 := Lib.hid hW1
  clear hW1 hm
  go_enter Tryz.func103, Tryz.ntmps103
  go_upto_region 4 with (fail)
  rw [HW1.out]
  clear hl
  refine wp_region_held_drew (S := fun W' => W'.cell? ⟨w.heap.size, 0, none⟩ = some (.int .i32 p.1) ∧ W'.cell? ⟨w.heap.size, 1, none⟩ = some (.int .i32 p.2) ∧ Below w.heap.size w W') (by kernel_rfl) ⟨cell_of_row _ _ 0 _ _ (0, 0) hx1, cell_of_row _ _ 1 _ _ (0, 0) hx1, hb1.drew⟩ (fun hHeld => ?_)
  refine wpAnyH_take (i := 0) (v := ?_) rfl (by kernel_rfl) (by kernel_rfl) (by kernel_rfl) (fun _ _ _ h => h) (Or.inl ⟨by rfl, ?_⟩) (by assumption) ?_
  rotate_left
  · intro w hSw
    obtain ⟨hS1, hS2, hS3⟩ := hSw
    go_simp
    try with_reducible rfl
  simp only [Act.put, List.getElem_toArray, List.getElem_cons_zero, List.getElem_cons_succ, List.setIfInBounds_toArray, List.set_cons_zero, List.set_cons_succ]
  refine wpAnyH_take (i := 1) (v := ?_) rfl (by kernel_rfl) (by kernel_rfl) (by kernel_rfl) (fun _ _ _ h => h) (Or.inl ⟨by rfl, ?_⟩) (by assumption) ?_
  rotate_left
  · intro w hSw
    obtain ⟨hS1, hS2, hS3⟩ := hSw
    go_simp
    try with_reducible rfl
  simp only [Act.put, List.getElem_toArray, List.getElem_cons_zero, List.getElem_cons_succ, List.setIfInBounds_toArray, List.set_cons_zero, List.set_cons_succ]
  refine wpAnyH_take (i := 2) (v := ?_) rfl (by kernel_rfl) (by kernel_rfl) (by kernel_rfl) (fun _ _ _ h => h) (Or.inl ⟨by rfl, ?_⟩) (by assumption) ?_
  rotate_left
  · intro w hSw
    obtain ⟨hS1, hS2, hS3⟩ := hSw
    go_simp
    try with_reducible rfl
  simp only [Act.put, List.getElem_toArray, List.getElem_cons_zero, List.getElem_cons_succ, List.setIfInBounds_toArray, List.set_cons_zero, List.set_cons_succ]
  refine wpAnyH_take (i := 4) (v := ?_) rfl (by kernel_rfl) (by kernel_rfl) (by kernel_rfl) (fun _ _ _ h => h) (Or.inl ⟨by rfl, ?_⟩) (by assumption) ?_
  rotate_left
  · intro w hSw
    obtain ⟨hS1, hS2, hS3⟩ := hSw
    go_simp
    try with_reducible rfl
  simp only [Act.put, List.getElem_toArray, List.getElem_cons_zero, List.getElem_cons_succ, List.setIfInBounds_toArray, List.set_cons_zero, List.set_cons_succ]
  refine wpAnyH_take (i := 5) (v := ?_) rfl (by kernel_rfl) (by kernel_rfl) (by kernel_rfl) (fun _ _ _ h => h) (Or.inl ⟨by rfl, ?_⟩) (by assumption) ?_
  rotate_left
  · intro w hSw
    obtain ⟨hS1, hS2, hS3⟩ := hSw
    go_simp
    try with_reducible rfl
  simp only [Act.put, List.getElem_toArray, List.getElem_cons_zero, List.getElem_cons_succ, List.setIfInBounds_toArray, List.set_cons_zero, List.set_cons_succ]
  refine wpAnyH_all (rs := [3, 6]) (by kernel_rfl) (by simp) (fun i hi6 => ?_)
  simp only [List.mem_cons, List.not_mem_nil, or_false] at hi6
  rcases hi6 with rfl | rfl
  · refine wpOp_of rfl rfl (call_op (f := 103) (args := #[.map (some B), .int .i32 p.1]) (by go_simp; try rfl) ((ih W1.drew (hm1.of rfl)).mono ?_))
    rintro e w9 ⟨v9, rfl, ho9, hb9⟩
    have hb9' : Below W1.heap.size W1 w9 := (Below.refl _ W1).drew.trans hb9
    have hx9 := (hb9'.block _ (Array.getElem?_eq_some_iff.1 hx1).1).trans hx1
    have hbw9 : Below w.heap.size w w9 := hb1.trans (hb9'.mono hb1.size)
    refine ⟨_, rfl, ⟨cell_of_row _ _ 0 _ _ (0, 0) hx9, cell_of_row _ _ 1 _ _ (0, 0) hx9, hbw9⟩, ?_⟩
    simp only [Act.put, List.getElem_toArray, List.getElem_cons_zero, List.getElem_cons_succ, List.setIfInBounds_toArray, List.set_cons_zero, List.set_cons_succ]
    refine wpAnyH_all (rs := [6]) (by kernel_rfl) (by simp) (fun i hi6 => ?_)
    simp only [List.mem_singleton] at hi6
    subst hi6
    have hxX := al_at hx9 (.cells #[.int .i32 p.2] 21)
    refine wpOp_of rfl rfl (opValue (v := .slice (some ⟨w9.heap.size, 0, none⟩) 1 1) (w' := w9.alloc (.cells #[.int .i32 p.2] 21)) (by go_simp; try rfl) ⟨⟨cell_of_row _ _ 0 _ _ (0, 0) hxX, cell_of_row _ _ 1 _ _ (0, 0) hxX, hbw9.alloc hbw9.size _⟩, ?_⟩)
    simp only [Act.put, List.getElem_toArray, List.getElem_cons_zero, List.getElem_cons_succ, List.setIfInBounds_toArray, List.set_cons_zero, List.set_cons_succ]
    have hoX : (w9.alloc (.cells #[.int .i32 p.2] 21)).ownsRow w.heap.size 21 1 v9 (partF n p.1).length ((partF n p.1).map iV) := (own_low ho9 (show w.heap.size ≤ W1.heap.size by omega)).alloc _
    have hcX : (w9.alloc (.cells #[.int .i32 p.2] 21)).cell? ⟨w9.heap.size, 0, none⟩ = some (iV p.2) := cell_of_row _ _ 0 _ _ (0, 0) (World.alloc_heap_new w9 _)
    have hpX := hxX
    have hbX : Below w.heap.size w (w9.alloc (.cells #[.int .i32 p.2] 21)) := hbw9.alloc hbw9.size _
    have hszX : w.heap.size ≤ (w9.alloc (.cells #[.int .i32 p.2] 21)).heap.size := hbX.size
    generalize hGB : w9.heap.size = GB at *
    generalize w9.alloc (.cells #[.int .i32 p.2] 21) = wX at *
    refine wpAnyH_all (rs := [7]) (by kernel_rfl) (by simp) (fun i hi6 => ?_)
    simp only [List.mem_singleton] at hi6
    subst hi6
    refine wpOp_of rfl rfl (opAppend (.tmp 20) (.tmp 23) 144 rfl w.heap.size 21 _ _ 1 4 Tryz.underlying144 infoR zeroR sizeR bytesR rfl (by decide) v9 (partF n p.1).length ((partF n p.1).map iV) rfl hoX ⟨GB, 0, none⟩ 1 1 [iV p.2] rfl rfl (by
      intro j u hu
      cases j with
      | zero => simp at hu; subst hu; exact hcX
      | succ j => simp at hu) (by intro u hu; simp at hu; subst hu; rfl) (by have := partF_len n p.1; unfold maxLen; omega) (by have := partF_len n p.1; omega) hszX ?_)
    intro v5 w5 ho5 hg5 hat5
    have hb5 : Below w.heap.size w w5 := hbX.grown hg5 hbX.size (fun r e => (hoX.lt r e).1)
    have hne : some w.heap.size ≠ v9.ownBlock := by
      intro e
      have h1 := hoX.lt w.heap.size e.symm
      rcases row_type hoX e.symm with ⟨cs, hc⟩
      rw [hpX] at hc
      cases hc
    have hp5 := (hg5.block _ (Array.getElem?_eq_some_iff.1 hpX).1 hne).trans hpX
    refine ⟨⟨cell_of_row _ _ 0 _ _ (0, 0) hp5, cell_of_row _ _ 1 _ _ (0, 0) hp5, hb5⟩, ?_⟩
    simp only [Act.put, List.getElem_toArray, List.getElem_cons_zero, List.getElem_cons_succ, List.setIfInBounds_toArray, List.set_cons_zero, List.set_cons_succ]
    refine wpAnyH_all (rs := [8]) (by kernel_rfl) (by simp) (fun i hi6 => ?_)
    simp only [List.mem_singleton] at hi6
    subst hi6
    refine wpOp_of rfl rfl (opValue (v := v5) (w' := w5) (by go_simp; try rfl) ⟨⟨cell_of_row _ _ 0 _ _ (0, 0) hp5, cell_of_row _ _ 1 _ _ (0, 0) hp5, hb5⟩, ?_⟩)
    simp only [Act.put, List.getElem_toArray, List.getElem_cons_zero, List.getElem_cons_succ, List.setIfInBounds_toArray, List.set_cons_zero, List.set_cons_succ]
    refine wpAnyH_done (by kernel_rfl) ?_ _
    have Ho5 := Lib.hid (And.intro ho5 hb5)
    clear ho5 hb5 hg5 hat5 hp5 hoX hpX hcX hbX hszX hne
    go_wp2_with fail
    go_ret
    exact ⟨v5, rfl, hpn v5 w5 Ho5.out.1, Ho5.out.2⟩
  · have hxA := al_at (w := W1.drew) hx1 (.cells #[.int .i32 p.2] 21)
    refine wpOp_of rfl rfl (opValue (v := .slice (some ⟨W1.heap.size, 0, none⟩) 1 1) (w' := W1.drew.alloc (.cells #[.int .i32 p.2] 21)) (by go_simp; try rfl) ⟨⟨cell_of_row _ _ 0 _ _ (0, 0) hxA, cell_of_row _ _ 1 _ _ (0, 0) hxA, hb1.drew.alloc hb1.size _⟩, ?_⟩)
    simp only [Act.put, List.getElem_toArray, List.getElem_cons_zero, List.getElem_cons_succ, List.setIfInBounds_toArray, List.set_cons_zero, List.set_cons_succ]
    refine wpAnyH_all (rs := [3]) (by kernel_rfl) (by simp) (fun i hi6 => ?_)
    simp only [List.mem_singleton] at hi6
    subst hi6
    obtain ⟨W2, hW2⟩ : ∃ W2, W1.drew.alloc (.cells #[.int .i32 p.2] 21) = W2 := ⟨_, rfl⟩
    have hb2 : Below W1.heap.size W1 W2 := by rw [← hW2]; exact (Below.refl _ W1).drew.alloc (Nat.le_refl _) _
    have hg2 : W2.heap[W1.heap.size]? = some (.cells #[.int .i32 p.2] 21 (0, 0)) := by rw [← hW2]; exact World.alloc_heap_new W1.drew _
    rw [hW2]
    refine wpOp_of rfl rfl (call_op (f := 103) (args := #[.map (some B), .int .i32 p.1]) (by go_simp; try rfl) ((ih W2 (hm1.below hb2)).mono ?_))
    rintro e wX ⟨v9, rfl, ho9, hb9⟩
    have hbX1 : Below W1.heap.size W1 wX := hb2.trans (hb9.mono hb2.size)
    have hpX := (hbX1.block _ (Array.getElem?_eq_some_iff.1 hx1).1).trans hx1
    have hbX : Below w.heap.size w wX := hb1.trans (hbX1.mono hb1.size)
    have hcX : wX.cell? ⟨W1.heap.size, 0, none⟩ = some (iV p.2) := cell_of_row _ _ 0 _ _ (0, 0) ((hb9.block _ (Array.getElem?_eq_some_iff.1 hg2).1).trans hg2)
    have hszX : w.heap.size ≤ wX.heap.size := hbX.size
    have hoX : wX.ownsRow w.heap.size 21 1 v9 (partF n p.1).length ((partF n p.1).map iV) := own_low ho9 (by have := hb2.size; omega)
    refine ⟨_, rfl, ⟨cell_of_row _ _ 0 _ _ (0, 0) hpX, cell_of_row _ _ 1 _ _ (0, 0) hpX, hbX⟩, ?_⟩
    simp only [Act.put, List.getElem_toArray, List.getElem_cons_zero, List.getElem_cons_succ, List.setIfInBounds_toArray, List.set_cons_zero, List.set_cons_succ]
    generalize hGB : W1.heap.size = GB at *
    refine wpAnyH_all (rs := [7]) (by kernel_rfl) (by simp) (fun i hi6 => ?_)
    simp only [List.mem_singleton] at hi6
    subst hi6
    refine wpOp_of rfl rfl (opAppend (.tmp 20) (.tmp 23) 144 rfl w.heap.size 21 _ _ 1 4 Tryz.underlying144 infoR zeroR sizeR bytesR rfl (by decide) v9 (partF n p.1).length ((partF n p.1).map iV) rfl hoX ⟨GB, 0, none⟩ 1 1 [iV p.2] rfl rfl (by
      intro j u hu
      cases j with
      | zero => simp at hu; subst hu; exact hcX
      | succ j => simp at hu) (by intro u hu; simp at hu; subst hu; rfl) (by have := partF_len n p.1; unfold maxLen; omega) (by have := partF_len n p.1; omega) hszX ?_)
    intro v5 w5 ho5 hg5 hat5
    have hb5 : Below w.heap.size w w5 := hbX.grown hg5 hbX.size (fun r e => (hoX.lt r e).1)
    have hne : some w.heap.size ≠ v9.ownBlock := by
      intro e
      have h1 := hoX.lt w.heap.size e.symm
      rcases row_type hoX e.symm with ⟨cs, hc⟩
      rw [hpX] at hc
      cases hc
    have hp5 := (hg5.block _ (Array.getElem?_eq_some_iff.1 hpX).1 hne).trans hpX
    refine ⟨⟨cell_of_row _ _ 0 _ _ (0, 0) hp5, cell_of_row _ _ 1 _ _ (0, 0) hp5, hb5⟩, ?_⟩
    simp only [Act.put, List.getElem_toArray, List.getElem_cons_zero, List.getElem_cons_succ, List.setIfInBounds_toArray, List.set_cons_zero, List.set_cons_succ]
    refine wpAnyH_all (rs := [8]) (by kernel_rfl) (by simp) (fun i hi6 => ?_)
    simp only [List.mem_singleton] at hi6
    subst hi6
    refine wpOp_of rfl rfl (opValue (v := v5) (w' := w5) (by go_simp; try rfl) ⟨⟨cell_of_row _ _ 0 _ _ (0, 0) hp5, cell_of_row _ _ 1 _ _ (0, 0) hp5, hb5⟩, ?_⟩)
    simp only [Act.put, List.getElem_toArray, List.getElem_cons_zero, List.getElem_cons_succ, List.setIfInBounds_toArray, List.set_cons_zero, List.set_cons_succ]
    refine wpAnyH_done (by kernel_rfl) ?_ _
    have Ho5 := Lib.hid (And.intro ho5 hb5)
    clear ho5 hb5 hg5 hat5 hp5 hoX hpX hcX hbX hszX hne
    go_wp2_with fail
    go_ret
    exact ⟨v5, rfl, hpn v5 w5 Ho5.out.1, Ho5.out.2⟩
theorem parted_any : ∀ (n : Nat), n ≤ 100 → ∀ (r : Int) (B : Nat) (w : World), endsIn n r = true → MapL iV w B (PAIRS.map splitE) →
    Calls Tryz.prog 103 #[.map (some B), .int .i32 r] w fun e w' => ∃ v, e = .returned v ∧ w'.ownsRow w.heap.size 21 1 v (partF n r).length ((partF n r).map iV) ∧ Below w.heap.size w w'
  | 0, hn, r, B, w, he, hm => parted_none r B w (by simpa [endsIn] using he) hm
  | n + 1, hn, r, B, w, he, hm => by
    cases hs : splitP r with
    | none =>
      have hp : partF (n + 1) r = [r] := by unfold partF; rw [hs]
      rw [hp]
      exact parted_none r B w hs hm
    | some p =>
      obtain ⟨a, m⟩ := p
      have he2 : endsIn n a = true := by unfold endsIn at he; rw [hs] at he; exact he
      exact parted_some n (by omega) r (a, m) B w hs hm (fun w hm => parted_any n (by omega) a B w he2 hm)
end Go.Proofs.YtgcdopafblcbhaaGreatDoor

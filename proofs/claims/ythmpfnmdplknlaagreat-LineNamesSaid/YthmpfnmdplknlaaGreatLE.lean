import Derived.Test.YthmpfnmdplknlaaGreatLD
import Derived.Shelf.Abstract
/- The units of a text of noughts. -/
namespace Go.Proofs.YthmpfnmdplknlaaGreat
set_option linter.unusedVariables false
set_option linter.unusedSimpArgs false
open Go.RowKit Go.Lib Go.Shelf
attribute [local go_sem] Oper.semAt_some
def unitV (i : Nat) : Value := .agg #[.int .i64 9, .int .i32 0, .int .i64 i, .int .i64 (i + 1), .bool true]
theorem units_make (s : ByteArray) (w : World) : Calls Tryz.prog 48 #[.string s] w fun e w' => e = .returned (.func (.func 69) #[] #[.pointer (some ⟨w.heap.size, 0, none⟩)]) ∧ w' = w.alloc (.cells #[.string s] 9) := by
  go_enter Tryz.func48, Tryz.ntmps48
  go_wp2_with fail
  go_ret
  exact ⟨rfl, rfl⟩
def uC (k : Nat) : Array Value := match k with
  | 0 => #[.int .i64 0, .int .i32 0, .int .i64 0, .int .i64 0, .bool false]
  | k + 1 => #[.int .i64 9, .int .i32 0, .int .i64 k, .int .i64 (k + 1), .bool true]
def UI (J : Nat → World → Prop) (b y u N l : Nat) (k : Nat) (V : World) : Prop := J (k - 1) V ∧ InBox b 9 (.string (Zt N)) V ∧ InBox y 167 (.func (.yield l) #[] #[]) V ∧ V.heap[u]? = some (.cells (uC k) 124 (0, 0))
theorem old_at {A B : World} {row : Option Nat} {k M : Nat} {o : Obj} (ho : A.heap[k]? = some o) (hg : A.grownBy B row) (hr : ∀ r, row = some r → M ≤ r) (hk : k < M) : B.heap[k]? = some o :=
  (hg.block _ (Array.getElem?_eq_some_iff.1 ho).1 (fun e => by have := hr _ e.symm; omega)).trans ho
theorem keptB {W W' : World} {k : Nat} {o : Obj} (h : W.heap[k]? = some o) (hb : Below W.heap.size W W') : W'.heap[k]? = some o := (hb.block _ (Array.getElem?_eq_some_iff.1 h).1).trans h
theorem only_set {a w : World} {g : Nat} (h : a.grownBy w (some g)) {p : Addr} (hp : p.block = g ∨ a.heap.size ≤ p.block) (u : Value) : a.grownBy (w.setCell p u) (some g) :=
  ⟨h.os, h.tape, h.output, by simpa [World.setCell] using h.size, fun i hi hne => (Below.heap_setCell w p u i (by
    rintro rfl
    rcases hp with hp | hp
    · exact hne (by rw [hp])
    · omega)).trans (h.block i hi hne)⟩
theorem put5 {V : World} {u : Nat} {a0 a1 a2 a3 a4 : Value} {t : TypeId} (h : V.heap[u]? = some (.cells #[a0, a1, a2, a3, a4] t (0, 0))) (v0 v1 v2 v3 v4 : Value) :
    (((((V.setCell ⟨u, 0, none⟩ v0).setCell ⟨u, 1, none⟩ v1).setCell ⟨u, 2, none⟩ v2).setCell ⟨u, 3, none⟩ v3).setCell ⟨u, 4, none⟩ v4).heap[u]? = some (.cells #[v0, v1, v2, v3, v4] t (0, 0)) ∧
    V.grownBy (((((V.setCell ⟨u, 0, none⟩ v0).setCell ⟨u, 1, none⟩ v1).setCell ⟨u, 2, none⟩ v2).setCell ⟨u, 3, none⟩ v3).setCell ⟨u, 4, none⟩ v4) (some u) :=
  ⟨heap_setCell_same _ _ 4 _ _ v4 (heap_setCell_same _ _ 3 _ _ v3 (heap_setCell_same _ _ 2 _ _ v2 (heap_setCell_same _ _ 1 _ _ v1 (heap_setCell_same _ _ 0 _ _ v0 h)))), by
    refine only_set ?_ (.inl rfl) _
    refine only_set ?_ (.inl rfl) _
    refine only_set ?_ (.inl rfl) _
    refine only_set ?_ (.inl rfl) _
    exact only_set (only_below (Below.refl _ V) _) (.inl rfl) _⟩
theorem keptG {W W' : World} {k u : Nat} {o : Obj} (h : W.heap[k]? = some o) (hg : W.grownBy W' (some u)) (hk : k ≠ u) : W'.heap[k]? = some o := (hg.block _ (Array.getElem?_eq_some_iff.1 h).1 (fun e => hk (by cases e; rfl))).trans h
def UA (y b N l : Nat) (x : Nat) (a' : Act) (V : World) : Prop := ∃ Bx, y + 3 ≤ Bx ∧ V.heap[Bx]? = some (.cells #[.int .i64 x, .int .i64 1, .int .i32 0, .bool false] 137 (0, 0)) ∧
  a' = { tmps := #[.func (.yield l) #[] #[], .pointer (some ⟨b, 0, none⟩), .pointer (some ⟨y, 0, none⟩), .pointer (some ⟨y + 1, 0, none⟩), .pointer (some ⟨Bx, 0, none⟩), undef, .string (Zt N), .func (.func 75) #[] #[.pointer (some ⟨y + 2, 0, none⟩)], pieceV x, undef, undef, undef, undef, undef, undef, undef, undef, undef, undef, undef, undef, undef, undef, undef, undef, undef, undef, undef, undef, undef, undef, undef, undef, undef, undef, undef, undef, undef, undef, undef, undef, undef, undef, undef, undef, undef, undef, undef, undef, undef, undef, undef, undef, undef, undef, undef, undef, undef, undef, undef, undef, undef, undef], defers := [] }
set_option maxRecDepth 100000 in
set_option maxHeartbeats 4000000 in
theorem units_seq (n N : Nat) (hn : 5 ≤ n) (hN : N < 2000) (b : Nat) (w : World) (hb : InBox b 9 (.string (Zt N)) w) :
    SeqL Fence.wide n Tryz.prog 69 #[.pointer (some ⟨b, 0, none⟩)] (fun i => #[unitV i]) (List.range N) [b] w := fun l J W hW hJ hY h0 => by
  refine callsIn_of_wp_marks Tryz.func69 rfl trivial ?_ rfl
  simp only [Tryz.ntmps69, List.size_toArray, List.length_cons, List.length_nil, Nat.reduceAdd, Nat.reduceSub, Array.replicate_succ, Array.replicate_zero, List.push_toArray, List.append_toArray, List.nil_append, List.cons_append]
  have hbl : b < w.heap.size := (Array.getElem?_eq_some_iff.1 hb).1
  have hws := hW.size
  have hbW : InBox b 9 (.string (Zt N)) W := (hW.block _ hbl).trans hb
  have c0 : W.cell? ⟨b, 0, none⟩ = some (.string (Zt N)) := cell_of_row _ _ 0 _ _ (0, 0) hbW
  have hb1 : b < W.heap.size := by omega
  have hb2 : b < W.heap.size + 1 := by omega
  have hm := pieces_make (Zt N) ((W.alloc (.cells #[.func (.yield l) #[] #[]] 167)).alloc (.cells (uC 0) 124))
  simp only [World.size_alloc, Nat.add_assoc, Nat.reduceAdd] at hm
  have hm := Lib.hid hm
  gi_wp2
  refine ⟨trivial, fun _ => by omega, CallsIn.mono (callsIn_wide.2 hm.out) ?_⟩
  rintro e W3 ⟨rfl, hW3⟩
  have s3 : W3.heap.size = W.heap.size + 3 := by rw [hW3]; exact al3_size _ _ _ _
  have g1 : InBox W.heap.size 167 (.func (.yield l) #[] #[]) W3 := by rw [hW3]; exact al3_0 _ _ _ _
  have g2 : W3.heap[W.heap.size + 1]? = some (.cells (uC 0) 124 (0, 0)) := by rw [hW3]; exact al3_1 _ _ _ _
  have g3 : InBox (W.heap.size + 2) 9 (.string (Zt N)) W3 := by rw [hW3]; exact al3_2 _ _ _ _
  have g4 : Below W.heap.size W W3 := by rw [hW3]; exact al3_below _ _ _ _
  have g5 : InBox b 9 (.string (Zt N)) W3 := (g4.block _ hb1).trans hbW
  have g0 : J 0 W3 := hJ _ _ _ none h0 (only_below g4 none) (fun r e => by cases e)
  clear hW3 hm c0
  gi_wp2
  refine range_list (F := Fence.wide) rfl (by omega) (gf := 75) (lb := #[.pointer (some ⟨W.heap.size + 2, 0, none⟩)]) rfl trivial (enters_of Tryz.func75 (by kernel_rfl) rfl) (bs := [W.heap.size + 2]) (by intro i hi; simp at hi; omega)
    (pieces_seq (n - 1) N (by omega) hN (W.heap.size + 2) W3 g3) (fun _ => rfl) (UI J b W.heap.size (W.heap.size + 1) N l) ?hI ⟨g0, g5, g1, g2⟩ (UA W.heap.size b N l) ?assign ?body ?hAx ?done
  case hI =>
    rintro k A B row ⟨i1, i2, i3, i4⟩ hg hr
    exact ⟨hJ _ A B row i1 hg (fun r e => by have := hr r e; omega), old_at i2 hg hr (by omega), old_at i3 hg hr (by omega), old_at i4 hg hr (by omega)⟩
  case hAx =>
    rintro x a' s A B row ⟨Bx, h1, h2, h3⟩ hg hr
    refine ⟨Bx, h1, (hg.block Bx (Array.getElem?_eq_some_iff.1 h2).1 (fun e => ?_)).trans h2, h3⟩
    obtain ⟨_, o, ho, hc⟩ := hr Bx e.symm
    rw [h2] at ho; cases ho; cases hc
  case assign =>
    intro l2 k x V K hi hsz hK
    obtain ⟨i1, i2, i3, i4⟩ := hi
    unfold pieceV
    gi_wp2
    refine hK _ _ (KeepsAll.alloc _ _ _) (KeepsSome.only (World.grownBy_alloc V _ none) (fun k e => by cases e)) ⟨hJ.alloc _ i1, al_at i2 _, al_at i3 _, al_at i4 _⟩ ⟨V.heap.size, by omega, World.alloc_heap_new V _, rfl⟩
  case body =>
    rintro l2 k x a' V hx ⟨i1, i2, i3, i4⟩ ⟨Bx, hBx, hxx, rfl⟩ hsz
    have ek : x = k := by
      have := List.getElem?_eq_some_iff.1 hx
      obtain ⟨h1, h2⟩ := this
      simpa using h2.symm
    subst ek
    have hof := of_nought x V
    unfold pieceV at hof
    have Hof := Lib.hid hof
    have p0 : V.cell? ⟨Bx, 0, none⟩ = some (.int .i64 x) := cell_of_row _ _ 0 _ _ (0, 0) hxx
    have p1 : V.cell? ⟨Bx, 1, none⟩ = some (.int .i64 1) := cell_of_row _ _ 1 _ _ (0, 0) hxx
    have p2 : V.cell? ⟨Bx, 2, none⟩ = some (.int .i32 0) := cell_of_row _ _ 2 _ _ (0, 0) hxx
    have p3 : V.cell? ⟨Bx, 3, none⟩ = some (.bool false) := cell_of_row _ _ 3 _ _ (0, 0) hxx
    clear hof
    gi_wp2
    refine ⟨trivial, fun _ => by omega, CallsIn.inRound _ (CallsIn.mono (callsIn_wide.2 Hof.out) ?_)⟩
    rintro e V1 ⟨rfl, hb1'⟩
    have k1 : KeepsAll (W.heap.size + 3) V V1 := KeepsAll.of_below _ hb1'
    have t1 : KeepsSome [W.heap.size + 2] V V1 := KeepsSome.only (only_below hb1' none) (fun k e => by cases e)
    have i1 : J (x - 1) V1 := hJ _ _ _ none i1 (only_below hb1' none) (fun r e => by cases e)
    have i2 : InBox b 9 (.string (Zt N)) V1 := keptB i2 hb1'
    have i3 : InBox W.heap.size 167 (.func (.yield l) #[] #[]) V1 := keptB i3 hb1'
    have i4 := keptB i4 hb1'
    have hxx := keptB hxx hb1'
    clear p0 p1 p2 p3
    have p0 : V1.cell? ⟨Bx, 0, none⟩ = some (.int .i64 x) := cell_of_row _ _ 0 _ _ (0, 0) hxx
    have p1 : V1.cell? ⟨Bx, 1, none⟩ = some (.int .i64 1) := cell_of_row _ _ 1 _ _ (0, 0) hxx
    have p2 : V1.cell? ⟨Bx, 2, none⟩ = some (.int .i32 0) := cell_of_row _ _ 2 _ _ (0, 0) hxx
    have p3 : V1.cell? ⟨Bx, 3, none⟩ = some (.bool false) := cell_of_row _ _ 3 _ _ (0, 0) hxx
    have y0 : V1.cell? ⟨W.heap.size, 0, none⟩ = some (.func (.yield l) #[] #[]) := cell_of_row _ _ 0 _ _ (0, 0) i3
    have hNx : x < N := by simpa using (List.getElem?_eq_some_iff.1 hx).1
    have K1 := Lib.hid k1
    have T1 := Lib.hid t1
    clear k1 t1 hx hb1'
    cases x with
    | zero =>
      have q3 : V1.cell? ⟨W.heap.size + 1, 3, none⟩ = some (.int .i64 0) := cell_of_row _ _ 3 _ _ (0, 0) i4
      have q0 : V1.cell? ⟨W.heap.size + 1, 0, none⟩ = some (.int .i64 0) := cell_of_row _ _ 0 _ _ (0, 0) i4
      have q1 : V1.cell? ⟨W.heap.size + 1, 1, none⟩ = some (.int .i32 0) := cell_of_row _ _ 1 _ _ (0, 0) i4
      have q2 : V1.cell? ⟨W.heap.size + 1, 2, none⟩ = some (.int .i64 0) := cell_of_row _ _ 2 _ _ (0, 0) i4
      have q4 : V1.cell? ⟨W.heap.size + 1, 4, none⟩ = some (.bool false) := cell_of_row _ _ 4 _ _ (0, 0) i4
      have z0 := frozen_of_row V1 (W.heap.size + 1) 0 _ _ i4
      have z1 := frozen_of_row V1 (W.heap.size + 1) 1 _ _ i4
      have z2 := frozen_of_row V1 (W.heap.size + 1) 2 _ _ i4
      have z3 := frozen_of_row V1 (W.heap.size + 1) 3 _ _ i4
      have z4 := frozen_of_row V1 (W.heap.size + 1) 4 _ _ i4
      gi_wp2
      refine ⟨trivial, ?_⟩
      gi_wp2
      refine ⟨fun _ h => (by cases h), ?_⟩
      gi_wp2
      obtain ⟨hu, hg⟩ := put5 i4 (.int .i64 9) (.int .i32 0) (.int .i64 0) (.int .i64 1) (.bool true)
      refine ⟨by rw [s3]; exact K1.out.trans (KeepsAll.only hg (fun k e => by cases e; omega)), T1.out.trans (KeepsSome.only hg (fun k e => by cases e; simp)), hJ _ _ _ (some _) i1 hg (fun r e => by cases e; omega), keptG i2 hg (by omega), keptG i3 hg (by omega), hu⟩
    | succ x =>
      have q3 : V1.cell? ⟨W.heap.size + 1, 3, none⟩ = some (.int .i64 (x + 1)) := cell_of_row _ _ 3 _ _ (0, 0) i4
      have q0 : V1.cell? ⟨W.heap.size + 1, 0, none⟩ = some (.int .i64 9) := cell_of_row _ _ 0 _ _ (0, 0) i4
      have q1 : V1.cell? ⟨W.heap.size + 1, 1, none⟩ = some (.int .i32 0) := cell_of_row _ _ 1 _ _ (0, 0) i4
      have q2 : V1.cell? ⟨W.heap.size + 1, 2, none⟩ = some (.int .i64 x) := cell_of_row _ _ 2 _ _ (0, 0) i4
      have q4 : V1.cell? ⟨W.heap.size + 1, 4, none⟩ = some (.bool true) := cell_of_row _ _ 4 _ _ (0, 0) i4
      obtain ⟨fn, tmps, assign, body, hy, hR⟩ := hY x x V1 (by rw [List.getElem?_range (by omega)]) i1
      have HR := Lib.hid hR
      unfold unitV at hy
      have hpos : ((x : Int) + 1 > 0) := by omega
      have hpos' : decide ((x : Int) + 1 > 0) = true := decide_eq_true hpos
      clear hR
      gi_wp2
      refine ⟨trivial, ?_⟩
      gi_wp2
      refine And.intro (fun _ => (by omega)) (RoundIn.mono (F := Fence.wide) (roundAny rfl _ HR.out) ?_)
      rintro e V4 ⟨rfl, hJ4, hk4, hs4⟩
      have K4 := Lib.hid (K1.out.trans (hk4.mono (show W.heap.size ≤ W.heap.size + 3 by omega)))
      have T4 : Hid (KeepsSome [W.heap.size + 2] V V4) := Lib.hid (fun i hi o ho => hk4.2 i o (by simp at hi; omega) (T1.out i hi o ho))
      have j2 : InBox b 9 (.string (Zt N)) V4 := hs4 b (by simp) _ i2
      have j3 : InBox W.heap.size 167 (.func (.yield l) #[] #[]) V4 := hk4.2 _ _ (Nat.le_refl _) i3
      have j4 := hk4.2 _ _ (by omega) i4
      have jxx := hk4.2 _ _ (by omega) hxx
      clear hk4 hs4 hxx i1 i2 i3 i4 p0 p1 p2 p3 q0 q1 q2 q3 q4
      have p0 : V4.cell? ⟨Bx, 0, none⟩ = some (.int .i64 (x + 1)) := cell_of_row _ _ 0 _ _ (0, 0) jxx
      have p1 : V4.cell? ⟨Bx, 1, none⟩ = some (.int .i64 1) := cell_of_row _ _ 1 _ _ (0, 0) jxx
      have p2 : V4.cell? ⟨Bx, 2, none⟩ = some (.int .i32 0) := cell_of_row _ _ 2 _ _ (0, 0) jxx
      have q3 : V4.cell? ⟨W.heap.size + 1, 3, none⟩ = some (.int .i64 (x + 1)) := cell_of_row _ _ 3 _ _ (0, 0) j4
      have q0 : V4.cell? ⟨W.heap.size + 1, 0, none⟩ = some (.int .i64 9) := cell_of_row _ _ 0 _ _ (0, 0) j4
      have q1 : V4.cell? ⟨W.heap.size + 1, 1, none⟩ = some (.int .i32 0) := cell_of_row _ _ 1 _ _ (0, 0) j4
      have q2 : V4.cell? ⟨W.heap.size + 1, 2, none⟩ = some (.int .i64 x) := cell_of_row _ _ 2 _ _ (0, 0) j4
      have q4 : V4.cell? ⟨W.heap.size + 1, 4, none⟩ = some (.bool true) := cell_of_row _ _ 4 _ _ (0, 0) j4
      have z0 := frozen_of_row V4 (W.heap.size + 1) 0 _ _ j4
      have z1 := frozen_of_row V4 (W.heap.size + 1) 1 _ _ j4
      have z2 := frozen_of_row V4 (W.heap.size + 1) 2 _ _ j4
      have z3 := frozen_of_row V4 (W.heap.size + 1) 3 _ _ j4
      have z4 := frozen_of_row V4 (W.heap.size + 1) 4 _ _ j4
      gi_wp2
      obtain ⟨hu, hg⟩ := put5 j4 (.int .i64 9) (.int .i32 0) (.int .i64 (x + 1)) (.int .i64 (x + 1 + 1)) (.bool true)
      refine ⟨by rw [s3]; exact K4.out.trans (KeepsAll.only hg (fun k e => by cases e; omega)), T4.out.trans (KeepsSome.only hg (fun k e => by cases e; simp)), hJ _ _ _ (some _) hJ4 hg (fun r e => by cases e; omega), keptG j2 hg (by omega), keptG j3 hg (by omega), ?_⟩
      rw [hu]
      simp [uC]
  case done =>
    rintro D V hD ⟨i1, i2, i3, i4⟩ hK
    rw [List.length_range] at i1 i4
    have y0 : V.cell? ⟨W.heap.size, 0, none⟩ = some (.func (.yield l) #[] #[]) := cell_of_row _ _ 0 _ _ (0, 0) i3
    rw [s3] at hD
    cases N with
    | zero =>
      have q3 : V.cell? ⟨W.heap.size + 1, 3, none⟩ = some (.int .i64 0) := cell_of_row _ _ 3 _ _ (0, 0) i4
      gi_wp2
      refine ⟨by simp, .inl ⟨_, _, rfl, run_takeDeferred hK, ?_⟩⟩
      exact ⟨_, results_none rfl _ _ _, ⟨_, rfl⟩, hJ.put _ i1 (by omega)⟩
    | succ x =>
      have q3 : V.cell? ⟨W.heap.size + 1, 3, none⟩ = some (.int .i64 (x + 1)) := cell_of_row _ _ 3 _ _ (0, 0) i4
      have q0 : V.cell? ⟨W.heap.size + 1, 0, none⟩ = some (.int .i64 9) := cell_of_row _ _ 0 _ _ (0, 0) i4
      have q1 : V.cell? ⟨W.heap.size + 1, 1, none⟩ = some (.int .i32 0) := cell_of_row _ _ 1 _ _ (0, 0) i4
      have q2 : V.cell? ⟨W.heap.size + 1, 2, none⟩ = some (.int .i64 x) := cell_of_row _ _ 2 _ _ (0, 0) i4
      have q4 : V.cell? ⟨W.heap.size + 1, 4, none⟩ = some (.bool true) := cell_of_row _ _ 4 _ _ (0, 0) i4
      obtain ⟨fn, tmps, assign, body, hy, hR⟩ := hY x x V (by rw [List.getElem?_range (by omega)]) i1
      have HR := Lib.hid hR
      unfold unitV at hy
      have hpos : ((x : Int) + 1 > 0) := by omega
      have hpos' : decide ((x : Int) + 1 > 0) = true := decide_eq_true hpos
      clear hR
      gi_wp2
      refine And.intro (fun _ => (by omega)) (RoundIn.mono (F := Fence.wide) (roundAny rfl _ HR.out) ?_)
      rintro e V4 ⟨rfl, hJ4, hk4, hs4⟩
      have hK4 := hk4.2 _ _ (by omega) hK
      gi_wp2
      refine ⟨by simp, .inl ⟨_, _, rfl, run_takeDeferred hK4, ?_⟩⟩
      exact ⟨_, results_none rfl _ _ _, ⟨_, rfl⟩, by rw [List.length_range]; exact hJ.put _ hJ4 (by omega)⟩
end Go.Proofs.YthmpfnmdplknlaaGreat

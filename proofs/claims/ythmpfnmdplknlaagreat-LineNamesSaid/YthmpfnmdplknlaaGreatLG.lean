import Derived.Test.YthmpfnmdplknlaaGreatLF
import Derived.WalkMore
/- The tokens and the words of a text of noughts. -/
namespace Go.Proofs.YthmpfnmdplknlaaGreat
set_option linter.unusedVariables false
set_option linter.unusedSimpArgs false
open Go.RowKit Go.Lib Go.Shelf
attribute [local go_sem] Oper.semAt_some
section
variable {F : Fence} {n : Nat} {P : Program} {Q : Exit → Act → World → Prop} {a : Act} {w : World} {b : Frame} {k : List Item} {cs : List Frame}
theorem stepR_scope {c : Code} : step P (lone (b.atR a (.code (.scope c) :: k)) cs w) = .next (lone (b.atR a (.code c :: .inScope c :: k)) cs w) :=
  step_lone_go (by simp [stepG, stepG.exec, Frame.atR])
theorem stepR_inScope {c : Code} : step P (lone (b.atR a (.inScope c :: k)) cs w) = .next (lone (b.atR a k) cs w) :=
  step_lone_go (by simp [stepG, stepG.exec, Frame.atR])
theorem wpIn_scope_straight {c : Code} (h : c.wpIn F n P (Exit.noGoto Q) a w) : (Code.scope c).wpIn F n P Q a w := by
  intro b k cs hro hb hr
  have h0 : (lone (b.atR a (.code (.scope c) :: k)) cs w).fenced P F := fenced_calm hb hr rfl
  obtain ⟨e, a₁, w₁, hq, harr⟩ := h b (.inScope c :: k) cs hro hb hr
  cases e with
  | normal => exact ⟨.normal, a₁, w₁, hq, .head h0 stepR_scope (StepsIn.trans harr (.one (fenced_calm hb hr rfl) stepR_inScope))⟩
  | exit id =>
    have hx : exitTo id (.inScope c :: k) = exitTo id k := by simp [exitTo]
    exact ⟨.exit id, a₁, w₁, hq, fun k' hk => .head h0 stepR_scope (harr.1 k' (by rw [hx]; exact hk)),
      fun hr' hk => let ⟨k₁, h1, h2⟩ := harr.2 hr' (by rw [hx]; exact hk); ⟨k₁, h1, .head h0 stepR_scope h2⟩⟩
  | goto l => exact hq.elim
  | ret => exact ⟨_, a₁, w₁, hq, .of_steps (.one h0 stepR_scope) harr⟩
  | panic ch => exact ⟨_, a₁, w₁, hq, .of_steps (.one h0 stepR_scope) harr⟩
  | outgrown => exact ⟨_, a₁, w₁, hq, .of_steps (.one h0 stepR_scope) harr⟩
end
theorem scan_make (s : ByteArray) (w : World) : Calls Tryz.prog 39 #[.string s] w fun e w' => e = .returned (.func (.func 47) #[] #[.pointer (some ⟨w.heap.size, 0, none⟩)]) ∧ w' = w.alloc (.cells #[.string s] 9) := by
  go_enter Tryz.func39, Tryz.ntmps39
  go_wp2_with fail
  go_ret
  exact ⟨rfl, rfl⟩
theorem words_make (s : ByteArray) (w : World) : Calls Tryz.prog 30 #[.string s] w fun e w' => e = .returned (.func (.func 38) #[] #[.pointer (some ⟨w.heap.size, 0, none⟩)]) ∧ w' = w.alloc (.cells #[.string s] 9) := by
  go_enter Tryz.func30, Tryz.ntmps30
  go_wp2_with fail
  go_ret
  exact ⟨rfl, rfl⟩
def SI (J : Nat → World → Prop) (b y u N l : Nat) (k : Nat) (V : World) : Prop := J (k - 1) V ∧ InBox b 9 (.string (Zt N)) V ∧ InBox y 121 (.func (.yield l) #[] #[]) V ∧ ScM u k V
def SA (y b N l : Nat) (x : Nat) (a' : Act) (V : World) : Prop := ∃ Bx, y + 3 ≤ Bx ∧ V.heap[Bx]? = some (.cells #[.int .i64 9, .int .i32 0, .int .i64 x, .int .i64 (x + 1), .bool true] 124 (0, 0)) ∧
  a' = { tmps := #[.func (.yield l) #[] #[], .pointer (some ⟨b, 0, none⟩), .pointer (some ⟨y, 0, none⟩), .pointer (some ⟨y + 1, 0, none⟩), .pointer (some ⟨Bx, 0, none⟩), .string (Zt N), .func (.func 69) #[] #[.pointer (some ⟨y + 2, 0, none⟩)], unitV x, undef, undef, undef, undef, undef, undef, undef, undef, undef, undef, undef, undef, undef, undef, undef, undef, undef, undef, undef], defers := [] }
set_option maxRecDepth 100000 in
set_option maxHeartbeats 4000000 in
theorem scan_seq (n N : Nat) (hn : 8 ≤ n) (hN : N < 2000) (b : Nat) (w : World) (hb : InBox b 9 (.string (Zt N)) w) :
    SeqL Fence.wide n Tryz.prog 47 #[.pointer (some ⟨b, 0, none⟩)] (fun i => #[tokV i]) (List.range N) [b] w := fun l J W hW hJ hY h0 => by
  refine callsIn_of_wp_marks Tryz.func47 rfl trivial ?_ rfl
  simp only [Tryz.ntmps47, List.size_toArray, List.length_cons, List.length_nil, Nat.reduceAdd, Nat.reduceSub, Array.replicate_succ, Array.replicate_zero, List.push_toArray, List.append_toArray, List.nil_append, List.cons_append]
  have hbl : b < w.heap.size := (Array.getElem?_eq_some_iff.1 hb).1
  have hws := hW.size
  have hbW : InBox b 9 (.string (Zt N)) W := (hW.block _ hbl).trans hb
  have c0 : W.cell? ⟨b, 0, none⟩ = some (.string (Zt N)) := cell_of_row _ _ 0 _ _ (0, 0) hbW
  have hb1 : b < W.heap.size := by omega
  have hb2 : b < W.heap.size + 1 := by omega
  have hm := units_make (Zt N) ((W.alloc (.cells #[.func (.yield l) #[] #[]] 121)).alloc (.cells (scC 0) 126))
  simp only [World.size_alloc, Nat.add_assoc, Nat.reduceAdd] at hm
  have hm := Lib.hid hm
  gi_wp2
  refine ⟨trivial, fun _ => by omega, CallsIn.mono (callsIn_wide.2 hm.out) ?_⟩
  rintro e W3 ⟨rfl, hW3⟩
  have s3 : W3.heap.size = W.heap.size + 3 := by rw [hW3]; exact al3_size _ _ _ _
  have g1 : InBox W.heap.size 121 (.func (.yield l) #[] #[]) W3 := by rw [hW3]; exact al3_0 _ _ _ _
  have g2 : ScM (W.heap.size + 1) 0 W3 := by rw [hW3]; exact al3_1 _ _ _ _
  have g3 : InBox (W.heap.size + 2) 9 (.string (Zt N)) W3 := by rw [hW3]; exact al3_2 _ _ _ _
  have g4 : Below W.heap.size W W3 := by rw [hW3]; exact al3_below _ _ _ _
  have g5 : InBox b 9 (.string (Zt N)) W3 := (g4.block _ hb1).trans hbW
  have g0 : J 0 W3 := hJ _ _ _ none h0 (only_below g4 none) (fun r e => by cases e)
  clear hW3 hm c0
  gi_wp2
  refine range_list (F := Fence.wide) rfl (by omega) (gf := 69) (lb := #[.pointer (some ⟨W.heap.size + 2, 0, none⟩)]) rfl trivial (enters_of Tryz.func69 (by kernel_rfl) rfl) (bs := [W.heap.size + 2]) (by intro i hi; simp at hi; omega)
    (units_seq (n - 1) N (by omega) hN (W.heap.size + 2) W3 g3) (fun _ => rfl) (SI J b W.heap.size (W.heap.size + 1) N l) ?hI ⟨g0, g5, g1, g2⟩ (SA W.heap.size b N l) ?assign ?body ?hAx ?done
  case hI =>
    rintro k A B row ⟨i1, i2, i3, i4⟩ hg hr
    exact ⟨hJ _ A B row i1 hg (fun r e => by have := hr r e; omega), old_at i2 hg hr (by omega), old_at i3 hg hr (by omega), old_at i4 hg hr (by omega)⟩
  case hAx =>
    rintro x a' s A B row ⟨Bx, h1, h2, h3⟩ hg hr
    refine ⟨Bx, h1, (hg.block Bx (Array.getElem?_eq_some_iff.1 h2).1 (fun e => ?_)).trans h2, h3⟩
    obtain ⟨_, o, ho, hc⟩ := hr Bx e.symm
    rw [h2] at ho; cases ho; cases hc
  case assign =>
    intro l2 k x V K hi hsz hK
    obtain ⟨i1, i2, i3, i4⟩ := hi
    unfold unitV
    gi_wp2
    refine hK _ _ (KeepsAll.alloc _ _ _) (KeepsSome.only (World.grownBy_alloc V _ none) (fun k e => by cases e)) ⟨hJ.alloc _ i1, al_at i2 _, al_at i3 _, al_at i4 _⟩ ⟨V.heap.size, by omega, World.alloc_heap_new V _, rfl⟩
  case body =>
    rintro l2 k x a' V hx ⟨i1, i2, i3, i4⟩ ⟨Bx, hBx, hxx, rfl⟩ hsz
    have ek : x = k := by
      have := List.getElem?_eq_some_iff.1 hx
      obtain ⟨h1, h2⟩ := this
      simpa using h2.symm
    subst ek
    have hNx : x < N := by simpa using (List.getElem?_eq_some_iff.1 hx).1
    have hft := fits_nought (W.heap.size + 1) x x V i4
    unfold unitV at hft
    have Hft := Lib.hid hft
    have p0 : V.cell? ⟨Bx, 0, none⟩ = some (.int .i64 9) := cell_of_row _ _ 0 _ _ (0, 0) hxx
    have p1 : V.cell? ⟨Bx, 1, none⟩ = some (.int .i32 0) := cell_of_row _ _ 1 _ _ (0, 0) hxx
    have p2 : V.cell? ⟨Bx, 2, none⟩ = some (.int .i64 x) := cell_of_row _ _ 2 _ _ (0, 0) hxx
    have p3 : V.cell? ⟨Bx, 3, none⟩ = some (.int .i64 (x + 1)) := cell_of_row _ _ 3 _ _ (0, 0) hxx
    have p4 : V.cell? ⟨Bx, 4, none⟩ = some (.bool true) := cell_of_row _ _ 4 _ _ (0, 0) hxx
    clear hft
    gi_wp2
    refine wpIn_scope_straight ?_
    gi_wp2
    refine ⟨trivial, fun _ => by omega, CallsIn.inRound _ (CallsIn.mono (callsIn_wide.2 Hft.out) ?_)⟩
    rintro e V1 ⟨rfl, hb1'⟩
    have k1 : KeepsAll (W.heap.size + 3) V V1 := KeepsAll.of_below _ hb1'
    have t1 : KeepsSome [W.heap.size + 2] V V1 := KeepsSome.only (only_below hb1' none) (fun k e => by cases e)
    have i1 : J (x - 1) V1 := hJ _ _ _ none i1 (only_below hb1' none) (fun r e => by cases e)
    have i2 : InBox b 9 (.string (Zt N)) V1 := keptB i2 hb1'
    have i3 : InBox W.heap.size 121 (.func (.yield l) #[] #[]) V1 := keptB i3 hb1'
    have i4 : ScM (W.heap.size + 1) x V1 := keptB i4 hb1'
    have hxx := keptB hxx hb1'
    clear p0 p1 p2 p3 p4
    have y0 : V1.cell? ⟨W.heap.size, 0, none⟩ = some (.func (.yield l) #[] #[]) := cell_of_row _ _ 0 _ _ (0, 0) i3
    have K1 := Lib.hid k1
    have T1 := Lib.hid t1
    clear k1 t1 hx hb1'
    gi_wp2
    -- the end of the token ahead
    have hend : CallsIn Fence.wide (n - 1 - 1 - 1) Tryz.prog 50 #[.pointer (some ⟨W.heap.size + 1, 0, none⟩), .func (.yield l) #[] #[]] V1 fun e w' => e = .returned (.bool true) ∧ J x w' ∧ KeepsAll W.heap.size V1 w' ∧ KeepsSome [b] V1 w' := by
      cases x with
      | zero => exact CallsIn.mono (end_start _ (by omega) _ l V1 i4) (fun e w' h => ⟨h.1, by rw [h.2]; exact i1, by rw [h.2]; exact KeepsAll.refl _ _, by rw [h.2]; exact fun i hi o ho => ho⟩)
      | succ x => exact end_nought _ (by omega) _ x l _ V1 i4 _ (hY x x V1 (by rw [List.getElem?_range (by omega)]) i1)
    refine ⟨trivial, fun _ => by omega, CallsIn.inRound _ (CallsIn.mono hend ?_)⟩
    rintro e V4 ⟨rfl, hJ4, hk4, hs4⟩
    have K4 := Lib.hid (K1.out.trans (hk4.mono (show W.heap.size ≤ W.heap.size + 3 by omega)))
    have T4 : Hid (KeepsSome [W.heap.size + 2] V V4) := Lib.hid (fun i hi o ho => hk4.2 i o (by simp at hi; omega) (T1.out i hi o ho))
    have j2 : InBox b 9 (.string (Zt N)) V4 := hs4 b (by simp) _ i2
    have j3 : InBox W.heap.size 121 (.func (.yield l) #[] #[]) V4 := hk4.2 _ _ (Nat.le_refl _) i3
    have j4 : ScM (W.heap.size + 1) x V4 := hk4.2 _ _ (by omega) i4
    have jxx := hk4.2 _ _ (by omega) hxx
    clear hk4 hs4 hxx i1 i2 i3 i4 hend y0
    have p0 : V4.cell? ⟨Bx, 0, none⟩ = some (.int .i64 9) := cell_of_row _ _ 0 _ _ (0, 0) jxx
    have p1 : V4.cell? ⟨Bx, 1, none⟩ = some (.int .i32 0) := cell_of_row _ _ 1 _ _ (0, 0) jxx
    have p2 : V4.cell? ⟨Bx, 2, none⟩ = some (.int .i64 x) := cell_of_row _ _ 2 _ _ (0, 0) jxx
    have p3 : V4.cell? ⟨Bx, 3, none⟩ = some (.int .i64 (x + 1)) := cell_of_row _ _ 3 _ _ (0, 0) jxx
    have p4 : V4.cell? ⟨Bx, 4, none⟩ = some (.bool true) := cell_of_row _ _ 4 _ _ (0, 0) jxx
    have hbg := begin_nought (W.heap.size + 1) x x V4 j4
    unfold unitV at hbg
    have Hbg := Lib.hid hbg
    clear hbg
    gi_wp2
    refine ⟨trivial, fun _ => by omega, CallsIn.inRound _ (CallsIn.mono (callsIn_wide.2 Hbg.out) ?_)⟩
    rintro e V5 ⟨⟨v5, rfl⟩, hu, hg⟩
    gi_wp2
    exact ⟨by rw [s3]; exact K4.out.trans (KeepsAll.only hg (fun k e => by cases e; omega)), T4.out.trans (KeepsSome.only hg (fun k e => by cases e; simp)), hJ _ _ _ (some _) hJ4 hg (fun r e => by cases e; omega), keptG j2 hg (by omega), keptG j3 hg (by omega), hu⟩
  case done =>
    rintro D V hD ⟨i1, i2, i3, i4⟩ hK
    rw [List.length_range] at i1 i4
    have y0 : V.cell? ⟨W.heap.size, 0, none⟩ = some (.func (.yield l) #[] #[]) := cell_of_row _ _ 0 _ _ (0, 0) i3
    rw [s3] at hD
    have hend : CallsIn Fence.wide (n - 1) Tryz.prog 50 #[.pointer (some ⟨W.heap.size + 1, 0, none⟩), .func (.yield l) #[] #[]] V fun e w' => e = .returned (.bool true) ∧ J N w' ∧ KeepsAll W.heap.size V w' ∧ KeepsSome [b] V w' := by
      cases N with
      | zero => exact CallsIn.mono (end_start _ (by omega) _ l V i4) (fun e w' h => ⟨h.1, by rw [h.2]; exact i1, by rw [h.2]; exact KeepsAll.refl _ _, by rw [h.2]; exact fun i hi o ho => ho⟩)
      | succ x => exact end_nought _ (by omega) _ x l _ V i4 _ (hY x x V (by rw [List.getElem?_range (by omega)]) i1)
    gi_wp2
    refine ⟨trivial, fun _ => by omega, CallsIn.mono hend ?_⟩
    rintro e V4 ⟨rfl, hJ4, hk4, hs4⟩
    have hK4 := hk4.2 _ _ (by omega) hK
    gi_wp2
    refine ⟨by simp, .inl ⟨_, _, rfl, run_takeDeferred hK4, ?_⟩⟩
    exact ⟨_, results_none rfl _ _ _, ⟨_, rfl⟩, by rw [List.length_range]; exact hJ.put _ hJ4 (by omega)⟩
def WA (y b N l : Nat) (x : Nat) (a' : Act) (V : World) : Prop := ∃ Bx, y + 2 ≤ Bx ∧ V.heap[Bx]? = some (.cells #[.int .i64 6, .int .i64 x, .int .i64 (x + 1)] 111 (0, 0)) ∧
  a' = { tmps := #[.func (.yield l) #[] #[], .pointer (some ⟨b, 0, none⟩), .pointer (some ⟨y, 0, none⟩), .pointer (some ⟨Bx, 0, none⟩), .string (Zt N), .func (.func 47) #[] #[.pointer (some ⟨y + 1, 0, none⟩)], tokV x, undef, undef, undef, undef, undef, undef, undef, undef, undef, undef], defers := [] }
set_option maxRecDepth 100000 in
set_option maxHeartbeats 4000000 in
theorem words_seq (n N : Nat) (hn : 10 ≤ n) (hN : N < 2000) (b : Nat) (encs : Nat → Array Value) (w : World) (hb : InBox b 9 (.string (Zt N)) w) :
    SeqL Fence.wide n Tryz.prog 38 #[.pointer (some ⟨b, 0, none⟩)] encs [] [b] w := fun l J W hW hJ hY h0 => by
  refine callsIn_of_wp_marks Tryz.func38 rfl trivial ?_ rfl
  simp only [Tryz.ntmps38, List.size_toArray, List.length_cons, List.length_nil, Nat.reduceAdd, Nat.reduceSub, Array.replicate_succ, Array.replicate_zero, List.push_toArray, List.append_toArray, List.nil_append, List.cons_append]
  have hbl : b < w.heap.size := (Array.getElem?_eq_some_iff.1 hb).1
  have hws := hW.size
  have hbW : InBox b 9 (.string (Zt N)) W := (hW.block _ hbl).trans hb
  have c0 : W.cell? ⟨b, 0, none⟩ = some (.string (Zt N)) := cell_of_row _ _ 0 _ _ (0, 0) hbW
  have hb1 : b < W.heap.size := by omega
  have hm := scan_make (Zt N) (W.alloc (.cells #[.func (.yield l) #[] #[]] 106))
  simp only [World.size_alloc] at hm
  have hm := Lib.hid hm
  gi_wp2
  refine ⟨trivial, fun _ => by omega, CallsIn.mono (callsIn_wide.2 hm.out) ?_⟩
  rintro e W3 ⟨rfl, hW3⟩
  have s3 : W3.heap.size = W.heap.size + 2 := by rw [hW3, World.size_alloc, World.size_alloc]
  have g1 : InBox W.heap.size 106 (.func (.yield l) #[] #[]) W3 := by rw [hW3]; exact al_at (World.alloc_heap_new W _) _
  have g3 : InBox (W.heap.size + 1) 9 (.string (Zt N)) W3 := by
    rw [hW3]
    have := World.alloc_heap_new (W.alloc (.cells #[.func (.yield l) #[] #[]] 106)) (.cells #[.string (Zt N)] 9)
    rw [World.size_alloc] at this
    exact this
  have g4 : Below W.heap.size W W3 := by rw [hW3]; exact ((Below.refl _ W).alloc (Nat.le_refl _) _).alloc (by rw [World.size_alloc]; omega) _
  have g5 : InBox b 9 (.string (Zt N)) W3 := (g4.block _ hb1).trans hbW
  have g0 : J 0 W3 := hJ _ _ _ none h0 (only_below g4 none) (fun r e => by cases e)
  clear hW3 hm c0
  gi_wp2
  refine range_list (F := Fence.wide) rfl (by omega) (gf := 47) (lb := #[.pointer (some ⟨W.heap.size + 1, 0, none⟩)]) rfl trivial (enters_of Tryz.func47 (by kernel_rfl) rfl) (bs := [W.heap.size + 1]) (by intro i hi; simp at hi; omega)
    (scan_seq (n - 1) N (by omega) hN (W.heap.size + 1) W3 g3) (fun _ => rfl) (fun _ V => J 0 V) ?hI g0 (WA W.heap.size b N l) ?assign ?body ?hAx ?done
  case hI =>
    rintro k A B row i1 hg hr
    exact hJ _ A B row i1 hg (fun r e => by have := hr r e; omega)
  case hAx =>
    rintro x a' s A B row ⟨Bx, h1, h2, h3⟩ hg hr
    refine ⟨Bx, h1, (hg.block Bx (Array.getElem?_eq_some_iff.1 h2).1 (fun e => ?_)).trans h2, h3⟩
    obtain ⟨_, o, ho, hc⟩ := hr Bx e.symm
    rw [h2] at ho; cases ho; cases hc
  case assign =>
    intro l2 k x V K i1 hsz hK
    unfold tokV
    gi_wp2
    refine hK _ _ (KeepsAll.alloc _ _ _) (KeepsSome.only (World.grownBy_alloc V _ none) (fun k e => by cases e)) (hJ.alloc _ i1) ⟨V.heap.size, by omega, World.alloc_heap_new V _, rfl⟩
  case body =>
    rintro l2 k x a' V hx i1 ⟨Bx, hBx, hxx, rfl⟩ hsz
    have p0 : V.cell? ⟨Bx, 0, none⟩ = some (.int .i64 6) := cell_of_row _ _ 0 _ _ (0, 0) hxx
    gi_wp2
    refine ⟨fun _ h => (by cases h), ?_⟩
    gi_wp2
    exact ⟨KeepsAll.refl _ _, fun i hi o ho => ho, i1⟩
  case done =>
    rintro D V hD i1 hK
    rw [s3] at hD
    gi_wp2
    refine ⟨by simp, .inl ⟨_, _, rfl, run_takeDeferred hK, ?_⟩⟩
    exact ⟨_, results_none rfl _ _ _, ⟨_, rfl⟩, hJ.put _ i1 (by omega)⟩
end Go.Proofs.YthmpfnmdplknlaaGreat

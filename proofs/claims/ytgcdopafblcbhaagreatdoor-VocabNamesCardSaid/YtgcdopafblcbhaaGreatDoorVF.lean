import Derived.Test.YtgcdopafblcbhaaGreatDoorVE
import Derived.Test.YtgcdopafblcbhaaGreatDoorNY
import Derived.OwnWalkIn
/- The units of a text of one piece. -/
namespace Go.Proofs.YtgcdopafblcbhaaGreatDoor
set_option linter.unusedVariables false
set_option linter.unusedSimpArgs false
open Go.RowKit Go.Lib Go.Shelf
attribute [local go_sem] Oper.semAt_some

section
variable {F : Fence} {n : Nat} {P : Program} {Q : Exit → Act → World → Prop} {a : Act} {w : World} {b : Frame} {k : List Item} {cs : List Frame}
theorem stepR_scope {c : Code} : step P (lone (b.atR a (.code (.scope c) :: k)) cs w) = .next (lone (b.atR a (.code c :: .inScope c :: k)) cs w) :=
  step_lone_go (by simp [stepG, stepG.exec, Frame.atR])
theorem stepR_inScope {c : Code} : step P (lone (b.atR a (.inScope c :: k)) cs w) = .next (lone (b.atR a k) cs w) :=
  step_lone_go (by simp [stepG, stepG.exec, Frame.atR])
theorem wpIn_scope_straight {c : Code} (h : c.wpIn F n P (Exit.noGoto Q) a w) : (Code.scope c).wpIn F n P Q a w := by
  intro b k cs hro hb hr
  have h0 : (lone (b.atR a (.code (.scope c) :: k)) cs w).fenced P F := fenced_calm hb hr rfl
  obtain ⟨e, a₁, w₁, hq, harr⟩ := h b (.inScope c :: k) cs hro hb hr
  cases e with
  | normal => exact ⟨.normal, a₁, w₁, hq, .head h0 stepR_scope (StepsIn.trans harr (.one (fenced_calm hb hr rfl) stepR_inScope))⟩
  | exit id =>
    have hx : exitTo id (.inScope c :: k) = exitTo id k := by simp [exitTo]
    exact ⟨.exit id, a₁, w₁, hq, fun k' hk => .head h0 stepR_scope (harr.1 k' (by rw [hx]; exact hk)),
      fun hr' hk => let ⟨k₁, h1, h2⟩ := harr.2 hr' (by rw [hx]; exact hk); ⟨k₁, h1, .head h0 stepR_scope h2⟩⟩
  | goto l => exact hq.elim
  | ret => exact ⟨_, a₁, w₁, hq, .of_steps (.one h0 stepR_scope) harr⟩
  | panic ch => exact ⟨_, a₁, w₁, hq, .of_steps (.one h0 stepR_scope) harr⟩
  | outgrown => exact ⟨_, a₁, w₁, hq, .of_steps (.one h0 stepR_scope) harr⟩
end
theorem wpListIn_append_boxg {F : Fence} {m : Nat} {P : Program} {ops : Array Oper} {rest : List Oper} {o : Oper} {a : Act} {Q : Exit → Act → World → Prop} (w0 : World) (hgd : o.guard = none) (s x : Operand) (t : TypeId)
    (ho : o.op = .call { callee := .builtin .append, args := #[s, x], argTypes := #[t, t] })
    (base : Nat) (e : TypeId) (i : TypeInfo) (z : Value) (size bytes : Nat) (ht : P.underlying t = some (.slice e)) (hi : P.info? e = some i) (hz : i.zero = some z)
    (hsize : i.size = size) (hby : i.bytes = bytes) (hzs : z.cells.size = size) (hsz : 0 < size)
    (v : Value) (n : Nat) (xs : List Value) (nw : Array Value) (g : Nat) (hs : a.eval s = v) (hx : a.eval x = .slice (some ⟨g, 0, none⟩) 1 1) (hg : g = w0.heap.size) (hown : w0.ownsRow base e size v n xs)
    (hl : nw.size = size) (h1 : ∀ u ∈ nw.toList, u.oneCell' = true)
    (h63 : n + 1 ≤ maxLen) (hbytes : (n + 1) * bytes ≤ 140737488355328) (hbase : base ≤ w0.heap.size)
    (h : ∀ v' w', w'.ownsRow base e size v' (n + 1) (xs ++ nw.toList) → w0.grownBy w' v.ownBlock → wpListIn F m P ops Q rest (a.put o.dst v') w') : wpListIn F m P ops Q (o :: rest) a (w0.alloc (.cells nw e)) := by
  subst hg
  refine wpListIn_append_own (w0.alloc (.cells nw e)) hgd s x t ho base e i z size bytes ht hi hz hsize hby hzs hsz v n xs hs (hown.alloc _) ⟨w0.heap.size, 0, none⟩ 1 1 nw.toList hx (by simp [hl]) ?_ h1 h63 hbytes (by simp; omega) ?_
  · intro j u hu
    have e1 : (⟨w0.heap.size, 0, none⟩ : Addr).add j = ⟨w0.heap.size, j, none⟩ := by
      unfold Addr.add; by_cases hj : j = 0
      · simp [hj]
      · simp [hj]
    rw [e1, cell_of_row (w0.alloc (.cells nw e)) w0.heap.size j nw e (0, 0) (heap_alloc_new w0 _)]
    simpa using hu
  · intro v' w' h2 h3 _
    exact h v' w' h2 (grown_of_alloc h3)
/-- what lies between two rounds of Lines -/
theorem partF_pos (n : Nat) (r : Int) : 0 < (partF n r).length := by
  cases n with
  | zero => simp [partF]
  | succ n =>
    unfold partF
    split
    · simp
    · simp
theorem infoFU : Tryz.prog.info? 187 = some Tryz.t187 := by kernel_rfl
theorem zeroFU : Tryz.t187.zero = some (.agg #[.int .i64 0, .int .u8 0, .int .i32 0, .slice none 0 0, .slice none 0 0]) := by kernel_rfl
theorem sizeFU : Tryz.t187.size = 5 := by kernel_rfl
theorem bytesFU : Tryz.t187.bytes = 64 := by kernel_rfl
/-- a unit's cells -/
def Shape (x : List Value) : Prop := ∃ (base : Int) (Al : Option Addr) (nl cl : Nat) (Ah : Option Addr) (nh ch : Nat), x = [.int .i64 0, .int .u8 0, .int .i32 base, .slice Al nl cl, .slice Ah nh ch]
/-- while the units are made -/
structure UI1 (w : World) (s : ByteArray) (p q k : Nat) (V : World) : Prop where
  b : Below w.heap.size w V
  sx : InBox w.heap.size 9 (.string s) V
  mb : V.heap[p]? = some (.cells #[.map (some q)] 179 (0, 0))
  m : MapL iV V q (PAIRS.map splitE)
  l : ∃ v x, V.heap[p + 1]? = some (.cells #[v] 173 (0, 0)) ∧ V.ownsRow (p + 3) 187 5 v k x ∧ (k = 0 → v = .slice none 0 0) ∧ (k = 1 → Shape x)
theorem UI1.below {w V V' : World} {s : ByteArray} {p q k : Nat} (h : UI1 w s p q k V) (hb : Below V.heap.size V V') : UI1 w s p q k V' := by
  obtain ⟨v, x, h1, h2, h3⟩ := h.l
  exact ⟨h.b.trans (hb.mono h.b.size), keptB h.sx hb, keptB h.mb hb, h.m.below hb, v, x, keptB h1 hb, h2.kept (only_below hb none) (by cases v.ownBlock <;> simp), h3⟩
theorem UI1.from {w : World} {s : ByteArray} {p q B : Nat} (hp : p + 3 ≤ B) (hq : q < p) (hw : w.heap.size < p) : OwnFrom B (fun k V => UI1 w s p q k V) := by
  intro k V V' row h hg hr
  have old : ∀ {i : Nat} {o : Obj}, i < p + 3 → V.heap[i]? = some o → V'.heap[i]? = some o := fun hi ho => (hg.block _ (Array.getElem?_eq_some_iff.1 ho).1 (fun e => by have := (hr _ e.symm).1; omega)).trans ho
  obtain ⟨v, x, h1, h2, h3⟩ := h.l
  have hmq := h.m.lt
  refine ⟨h.b.grown hg h.b.size (fun r e => by have := (hr r e).1; omega), old (by omega) h.sx, old (by omega) h.mb, h.m.of (hg.block _ hmq (fun e => by have := (hr _ e.symm).1; omega)), v, x, old (by omega) h1, h2.kept hg ?_, h3⟩
  cases e : v.ownBlock with
  | none => exact .inl rfl
  | some g =>
    right
    intro e2
    obtain ⟨_, o, ho, hc⟩ := hr g e2.symm
    obtain ⟨cur, hcur⟩ := row_type h2 e
    rw [hcur] at ho; cases ho; cases hc
theorem UI1.but {w V W : World} {s : ByteArray} {p q S u : Nat} (h : UI1 w s p q 0 V) (hb : But S u V W) (hS : V.heap.size ≤ S) (hu : p + 2 < u) (hw : w.heap.size < p) (hq : q < p) : UI1 w s p q 0 W := by
  obtain ⟨v, x, h1, h2, h3⟩ := h.l
  obtain rfl := h3.1 rfl
  have old : ∀ {i : Nat} {o : Obj}, i ≠ u → V.heap[i]? = some o → W.heap[i]? = some o := fun hi ho => (hb.block _ (Nat.lt_of_lt_of_le (Array.getElem?_eq_some_iff.1 ho).1 hS) hi).trans ho
  have hwV := h.b.size
  have hmq := h.m.lt
  refine ⟨⟨hb.os.trans h.b.os, hb.tape.trans h.b.tape, hb.output.trans h.b.output, Nat.le_trans h.b.size hb.size, fun i hi => (hb.block i (by omega) (by omega)).trans (h.b.block i hi)⟩, old (by omega) h.sx, old (by omega) h.mb, h.m.of (hb.block _ (by omega) (by omega)), _, [], old (by omega) h1, World.ownsRow_nil _ _ _ _, fun _ => rfl, fun e => by cases e⟩
theorem UI1.push {w V V6 w5 : World} {s : ByteArray} {p q : Nat} {v5 : Value} {nw : List Value} (h : UI1 w s p q 0 V6) (hb : Below V.heap.size V V6) (hpV : p + 2 < V.heap.size) (hwp : w.heap.size < p) (hqp : q < p) (ho : w5.ownsRow (p + 3) 187 5 v5 (0 + 1) ([] ++ nw)) (hg : V6.grownBy w5 none) (hsh : Shape nw) :
    w5.frozen? ⟨p + 1, 0, none⟩ = false ∧ (∃ x, w5.cell? ⟨p + 1, 0, none⟩ = some x) ∧ UI1 w s p q (0 + 1) (w5.setCell ⟨p + 1, 0, none⟩ v5) ∧ KeepsAll (p + 3) V (w5.setCell ⟨p + 1, 0, none⟩ v5) ∧ KeepsSome [p + 2] V (w5.setCell ⟨p + 1, 0, none⟩ v5) := by
  obtain ⟨v, x, h1, h2, h3⟩ := h.l
  have old : ∀ {i : Nat} {o : Obj}, V6.heap[i]? = some o → w5.heap[i]? = some o := fun ho => (hg.block _ (Array.getElem?_eq_some_iff.1 ho).1 (by simp)).trans ho
  have h15 := old h1
  have hgs := grown_put w5 (p + 1) 0 v5
  have far : ∀ {i : Nat} {o : Obj}, i ≠ p + 1 → w5.heap[i]? = some o → (w5.setCell ⟨p + 1, 0, none⟩ v5).heap[i]? = some o := fun hi ho => keptG ho hgs hi
  refine ⟨frozen_of_row _ _ 0 _ _ h15, ⟨_, cell_of_row _ _ 0 _ _ (0, 0) h15⟩, ⟨(h.b.grown hg h.b.size (fun r e => by cases e)).setCell (p := ⟨p + 1, 0, none⟩) (by show w.heap.size ≤ p + 1; omega) _, far (by omega) (old h.sx), far (by omega) (old h.mb), (h.m.of (hg.block _ h.m.lt (by simp))).of (by
    obtain ⟨es, cl, hm, _⟩ := h.m
    rw [far (by omega) (old hm), old hm]), v5, _, heap_setCell_same w5 (p + 1) 0 _ _ v5 h15, ho.kept hgs (row_off ho h15 (by decide)), fun e => by omega, fun _ => hsh⟩, ⟨Nat.le_trans hb.size (Nat.le_trans hg.size (by simp [World.setCell])), fun i o h1 h2 => far (by omega) (old ((hb.block _ (Array.getElem?_eq_some_iff.1 h2).1).trans h2))⟩, fun i hi o h2 => ?_⟩
  simp at hi
  subst hi
  exact far (by omega) (old ((hb.block _ hpV).trans h2))
set_option maxRecDepth 100000 in
set_option maxHeartbeats 16000000 in
theorem units_one (s : ByteArray) (r : Nat) (hs : s.size < 1000) (hL : pcs s = [⟨0, s.size, r, false⟩]) (w : World) : Calls Tryz.prog 97 #[.string s] w fun e w' => (∃ v x, e = .returned v ∧ w'.ownsRow w.heap.size 187 5 v 1 x ∧ Shape x) ∧ Below w.heap.size w w' := by
  refine (callsIn_wide (n := 8)).1 ?_
  refine callsIn_of_wp_marks Tryz.func97 rfl trivial ?_ rfl
  simp only [Tryz.ntmps97, List.size_toArray, List.length_cons, List.length_nil, Nat.reduceAdd, Nat.reduceSub, Array.replicate_succ, Array.replicate_zero, List.push_toArray, List.append_toArray, List.nil_append, List.cons_append]
  obtain ⟨W1, hW1⟩ : ∃ W1, w.alloc (.cells #[.string s] 9) = W1 := ⟨_, rfl⟩
  have hb1 : Below w.heap.size w W1 := by rw [← hW1]; exact (Below.refl _ _).alloc (Nat.le_refl _) _
  have hx1 : InBox w.heap.size 9 (.string s) W1 := by rw [← hW1]; exact World.alloc_heap_new w _
  have S1 : Hid (W1.heap.size = w.heap.size + 1) := Lib.hid (by rw [← hW1]; simp)
  have Ht := Lib.hid (tables_any W1)
  have HW1 := Lib.hid hW1
  clear hW1
  gi_wp2
  rw [HW1.out]
  refine wpIn_scope_straight ?_
  gi_wp2
  refine ⟨trivial, CallsIn.mono (callsIn_wide.2 Ht.out) ?_⟩
  rintro e w2 ⟨rfl, hb2, hj2, hs2⟩
  have hq := hs2.lt
  obtain ⟨W4, hW4⟩ : ∃ W4, (w2.alloc (.cells #[.map (some (W1.heap.size + 1))] 179)).alloc (.cells #[.slice none 0 0] 173) = W4 := ⟨_, rfl⟩
  have s4 : W4.heap.size = w2.heap.size + 2 := by rw [← hW4]; simp
  have hb4 : Below w2.heap.size w2 W4 := by rw [← hW4]; exact ((Below.refl _ _).alloc (Nat.le_refl _) _).alloc (by simp) _
  have hm4 : W4.heap[w2.heap.size]? = some (.cells #[.map (some (W1.heap.size + 1))] 179 (0, 0)) := by rw [← hW4]; exact al_at (World.alloc_heap_new w2 _) _
  have hl4 : W4.heap[w2.heap.size + 1]? = some (.cells #[.slice none 0 0] 173 (0, 0)) := by
    rw [← hW4]
    have := World.alloc_heap_new (w2.alloc (.cells #[.map (some (W1.heap.size + 1))] 179)) (.cells #[.slice none 0 0] 173)
    rw [World.size_alloc] at this
    exact this
  have hw2 : w.heap.size < w2.heap.size := by have := hb2.size; have := S1.out; omega
  have h4 : UI1 w s w2.heap.size (W1.heap.size + 1) 0 W4 := ⟨(hb1.trans (hb2.mono hb1.size)).trans (hb4.mono (by omega)), keptB (keptB hx1 hb2) hb4, hm4, hs2.below hb4, _, _, hl4, World.ownsRow_nil _ _ _ _, fun _ => rfl, fun e => by cases e⟩
  have HM := Lib.hid (pieces_make s W4)
  have H4 := Lib.hid h4
  have HW4 := Lib.hid hW4
  have hgx : InBox w.heap.size 9 (.string s) W4 := h4.sx
  have c0 : W4.cell? ⟨w.heap.size, 0, none⟩ = some (.string s) := cell_of_row _ _ 0 _ _ (0, 0) hgx
  clear hW4 hb1 hx1 hb2 hj2 hs2 hb4 hm4 hl4 h4 Ht hgx
  gi_wp2
  rw [HW4.out]
  refine wpIn_label ?_
  gi_wp2
  refine ⟨trivial, CallsIn.mono (callsIn_wide.2 HM.out) ?_⟩
  rintro e W5 ⟨rfl, hW5⟩
  have s5 : W5.heap.size = w2.heap.size + 3 := by rw [hW5]; simp [s4]
  have hb5 : Below W4.heap.size W4 W5 := by rw [hW5]; exact (Below.refl _ _).alloc (Nat.le_refl _) _
  have hbx : InBox W4.heap.size 9 (.string s) W5 := by rw [hW5]; exact World.alloc_heap_new W4 _
  have H5 := Lib.hid (H4.out.below hb5)
  rw [s4] at hbx ⊢
  clear hW5 HM hb5 c0
  gi_wp2
  have hsw2 := Lib.hid HW4
  clear HW4 H4 s4
  generalize hp : w2.heap.size = p at *
  clear hsw2
  refine range_y (F := Fence.wide) rfl (by omega) (gf := 99) (lb := #[.pointer (some ⟨p + 2, 0, none⟩)]) rfl trivial (enters_of Tryz.func99 (by kernel_rfl) rfl) (bs := [p + 2]) (by intro i hi; simp at hi; omega)
    (pieces_seqY (8 - 1) s (by omega) (by omega) (p + 2) W5 hbx) (fun _ => rfl) (fun k V => UI1 w s p (W1.heap.size + 1) k V) (fun _ _ _ => False) ?hI ?hIx H5.out
    (fun x a' V => ∃ Bx, p + 3 ≤ Bx ∧ V.heap[Bx]? = some (.cells #[.int .i64 x.at_, .int .i64 x.w, .int .i32 x.r, .bool x.br] 137 (0, 0)) ∧ a' = { tmps := #[.string s, .pointer (some ⟨w.heap.size, 0, none⟩), .slice none 0 0, .map (some W1.heap.size), .pointer (some ⟨p, 0, none⟩), .pointer (some ⟨p + 1, 0, none⟩), .pointer (some ⟨Bx, 0, none⟩), undef, undef, undef, undef, undef, .tuple #[.map (some W1.heap.size), .map (some (W1.heap.size + 1))], .tuple #[.map (some W1.heap.size), .map (some (W1.heap.size + 1))], .map (some W1.heap.size), .map (some (W1.heap.size + 1)), .string s, .func (.func 99) #[] #[.pointer (some ⟨p + 2, 0, none⟩)], pcV x, undef, undef, undef, undef, undef, undef, undef, undef, undef, undef, undef, undef, undef, undef, undef, undef, undef, undef, undef, undef, undef, undef, undef, undef, undef, undef, undef, undef, undef, undef, undef, undef, undef, undef, undef, undef, undef, undef, undef, undef, undef, undef, undef, undef, undef, undef, undef, undef, undef, undef, undef, undef, undef, undef, undef, undef, undef, undef, undef, undef, undef, undef, undef, undef, undef, undef, undef], defers := [] }) ?assign ?body ?hAx ?done ?stop
  case hI => exact UI1.from (by omega) hq hw2
  case hIx => exact fun c => fun _ _ _ _ h _ _ => h.elim
  case hAx =>
    rintro x a' s A B row ⟨Bx, h1, h2, h3⟩ hg hr
    refine ⟨Bx, h1, (hg.block Bx (Array.getElem?_eq_some_iff.1 h2).1 (fun e => ?_)).trans h2, h3⟩
    obtain ⟨_, o, ho, hc⟩ := hr Bx e.symm
    rw [h2] at ho; cases ho; cases hc
  case stop => exact fun _ _ _ _ _ _ h _ => h.elim
  case assign =>
    intro l2 k x V K hx hi hsz hK
    unfold pcV
    gi_wp2
    exact hK _ _ (KeepsAll.alloc _ _ _) (KeepsSome.only (World.grownBy_alloc V _ none) (fun k e => by cases e)) (hi.below ((Below.refl _ _).alloc (Nat.le_refl _) _)) ⟨V.heap.size, by omega, World.alloc_heap_new V _, rfl⟩
  case done =>
    intro D V hD hi hDd
    rw [hL] at hi
    obtain ⟨v, x, hlb, hor, _, hshx⟩ := hi.l
    obtain ⟨A, c, rfl⟩ := row_slice hor
    have l0 : V.cell? ⟨p + 1, 0, none⟩ = some (.slice A [(⟨0, s.size, (r : Int), false⟩ : Pc)].length c) := cell_of_row _ _ 0 _ _ (0, 0) hlb
    have hbV := hi.b
    clear hi
    gi_wp2
    refine ⟨by simp, .inl ⟨_, _, rfl, run_takeDeferred hDd, ?_⟩⟩
    have e1 := grownBy_putObj' V D (.deferred none)
    refine ⟨_, by simp [results, Tryz.f97, go_sem], ⟨_, x, rfl, own_low (hor.kept e1 ?_) (by omega), hshx rfl⟩, hbV.grown e1 hbV.size (fun k e => by cases e; omega)⟩
    right
    intro e2
    obtain ⟨cur, hc⟩ := row_type hor e2
    rw [hDd] at hc
    cases hc
  case body =>
    rintro l2 k x a' V hx hi ⟨Bx, hBx, hxx, rfl⟩ hsz
    rw [hL] at hx
    have hk0 : k = 0 := by
      have := (List.getElem?_eq_some_iff.1 hx).1
      simpa using this
    subst hk0
    obtain rfl : (⟨0, s.size, (r : Int), false⟩ : Pc) = x := by simpa using hx
    simp only at hxx
    have p0 : V.cell? ⟨Bx, 0, none⟩ = some (.int .i64 0) := cell_of_row _ _ 0 _ _ (0, 0) hxx
    have p2 : V.cell? ⟨Bx, 2, none⟩ = some (.int .i32 r) := cell_of_row _ _ 2 _ _ (0, 0) hxx
    have p3 : V.cell? ⟨Bx, 3, none⟩ = some (.bool false) := cell_of_row _ _ 3 _ _ (0, 0) hxx
    obtain ⟨v, xr, hlb, hor, hv0⟩ := hi.l
    obtain rfl := hv0.1 rfl
    have l0 : V.cell? ⟨p + 1, 0, none⟩ = some (.slice none 0 0) := cell_of_row _ _ 0 _ _ (0, 0) hlb
    have m0 : V.cell? ⟨p, 0, none⟩ = some (.map (some (W1.heap.size + 1))) := cell_of_row _ _ 0 _ _ (0, 0) hi.mb
    obtain ⟨V1, hV1⟩ : ∃ V1, V.alloc (.cells #[.int .i64 0, .int .u8 0, .int .i32 r, .slice none 0 0, .slice none 0 0] 187) = V1 := ⟨_, rfl⟩
    have hb1 : Below V.heap.size V V1 := by rw [← hV1]; exact (Below.refl _ _).alloc (Nat.le_refl _) _
    have hu1 : V1.heap[V.heap.size]? = some (.cells #[.int .i64 0, .int .u8 0, .int .i32 r, .slice none 0 0, .slice none 0 0] 187 (0, 0)) := by rw [← hV1]; exact World.alloc_heap_new V _
    have Hl := Lib.hid (letter_unit 0 0 r none none 0 0 0 0 V1)
    have HV1 := Lib.hid hV1
    have Hi1 := Lib.hid (hi.below hb1)
    have Hu1 := Lib.hid hu1
    have Hb1 := Lib.hid hb1
    have u0 := cell_of_row _ _ 0 _ _ (0, 0) hu1
    have u1 := cell_of_row _ _ 1 _ _ (0, 0) hu1
    have u2 := cell_of_row _ _ 2 _ _ (0, 0) hu1
    have u3 := cell_of_row _ _ 3 _ _ (0, 0) hu1
    have u4 := cell_of_row _ _ 4 _ _ (0, 0) hu1
    clear hV1 hu1 hb1 hor hlb hx
    gi_wp2
    refine ⟨trivial, ?_⟩
    gi_wp2
    refine ⟨trivial, ?_⟩
    gi_wp2
    rw [HV1.out]
    gi_wp2
    refine ⟨trivial, CallsIn.inRound _ (CallsIn.mono (callsIn_wide.2 Hl.out) ?_)⟩
    rintro e V2 ⟨rfl, hb2⟩
    have hu2 := keptB Hu1.out hb2
    have hi2 := Hi1.out.below hb2
    have hxx2 := keptB (keptB hxx Hb1.out) hb2
    have hbV2 : Below V.heap.size V V2 := Hb1.out.trans (hb2.mono Hb1.out.size)
    obtain ⟨vl, xl2, hl2, _, hvl⟩ := hi2.l
    obtain rfl := hvl.1 rfl
    clear u0 u1 u2 u3 u4 p0 p2 p3 l0 m0
    have u0 := cell_of_row _ _ 0 _ _ (0, 0) hu2
    have u1 := cell_of_row _ _ 1 _ _ (0, 0) hu2
    have u2 := cell_of_row _ _ 2 _ _ (0, 0) hu2
    have u3 := cell_of_row _ _ 3 _ _ (0, 0) hu2
    have u4 := cell_of_row _ _ 4 _ _ (0, 0) hu2
    have p2 : V2.cell? ⟨Bx, 2, none⟩ = some (.int .i32 r) := cell_of_row _ _ 2 _ _ (0, 0) hxx2
    have l0 : V2.cell? ⟨p + 1, 0, none⟩ = some (.slice none 0 0) := cell_of_row _ _ 0 _ _ (0, 0) hl2
    have m0 : V2.cell? ⟨p, 0, none⟩ = some (.map (some (W1.heap.size + 1))) := cell_of_row _ _ 0 _ _ (0, 0) hi2.mb
    have hszV2 := hbV2.size
    clear hb2 HV1 Hl
    cases hlr : letB (r : Int) with
    | false =>
      have Hpu := Lib.hid fun (w5 : World) (v5 : Value) (ho : w5.ownsRow (p + 3) 187 5 v5 (0 + 1) ([] ++ [.int .i64 0, .int .u8 0, .int .i32 r, .slice none 0 0, .slice none 0 0])) (hg : V2.grownBy w5 (Value.slice none 0 0).ownBlock) => UI1.push hi2 hbV2 (by omega) hw2 (by omega) ho hg ⟨_, _, _, _, _, _, _, rfl⟩
      gi_wp2_with (gi_at_builtin; go_loud (refine wpListIn_append_boxg V2 rfl _ _ 173 rfl (p + 3) 187 _ _ 5 64 Tryz.underlying173 infoFU zeroFU sizeFU bytesFU rfl (by decide) (.slice none 0 0) 0 [] #[.int .i64 0, .int .u8 0, .int .i32 r, .slice none 0 0, .slice none 0 0] V2.heap.size rfl rfl rfl (World.ownsRow_nil _ _ _ _) rfl (by intro u hu; simp at hu; rcases hu with rfl | rfl | rfl | rfl | rfl <;> rfl) (by unfold maxLen; omega) (by omega) (by have := hbV2.size; omega) ?_; intro v5 w5 hown5 hgr5; obtain ⟨g5, cap5, rfl⟩ := own_form1 hown5 (by omega); obtain ⟨hz5, ⟨x5, hx5⟩, hF5⟩ := Hpu.out w5 _ hown5 hgr5; have HF5 := Lib.hid hF5; clear hown5 hgr5))
      obtain ⟨f1, f2, f3⟩ := HF5.out
      exact ⟨(by first | exact f2 | (rw [s5]; exact f2)), f3, f1⟩
    | true =>
      have Hp9 := Lib.hid (parted_any 2 (by omega) (r : Int) (W1.heap.size + 1) V2 (ends_all _) hi2.m)
      have Hi2 := Lib.hid hi2
      have Hu2 := Lib.hid hu2
      have hubl : V.heap.size < V2.heap.size := (Array.getElem?_eq_some_iff.1 hu2).1
      clear hi2 hu2 Hi1 Hu1 hi
      gi_wp2
      refine ⟨trivial, CallsIn.inRound _ (CallsIn.mono (callsIn_wide.2 Hp9.out) ?_)⟩
      rintro e V3 ⟨v9, rfl, ho9, hb3⟩
      have hp3 := partF_len 2 (r : Int)
      have hp1 := partF_pos 2 (r : Int)
      obtain ⟨g9, c9, rfl⟩ := own_form1 ho9 hp1
      have hlen := ho9.1
      have hcell : ∀ j, j < (partF 2 (r : Int)).length → ∃ a : Int, V3.cell? ⟨g9, j, none⟩ = some (.int .i32 a) := fun j hj => ⟨_, (ho9.cellAt j (by omega)).trans (by rw [List.getElem?_map, List.getElem?_eq_getElem hj]; rfl)⟩
      have hcap : (partF 2 (r : Int)).length ≤ c9 := by
        rcases ho9.2 with ⟨h1, _⟩ | ⟨g', cap, cur, h1, _, _, h2, _⟩
        · cases h1
        · cases h1; exact h2
      have hg9 := ho9.lt g9 rfl
      have hu3 := keptB Hu2.out hb3
      have hi3 := Hi2.out.below hb3
      have hbV3 : Below V.heap.size V V3 := hbV2.trans (hb3.mono hbV2.size)
      generalize (partF 2 (r : Int)).length = n9 at *
      obtain ⟨h0, e0⟩ := hcell 0 hp1
      clear u0 u1 u2 u3 u4 p2 l0 m0 ho9 hlen Hp9 Hi2 Hu2
      have u2 := cell_of_row _ _ 2 _ _ (0, 0) hu3
      have z2 := frozen_of_row _ _ 2 _ _ hu3
      have i1 : (0 : Int) < (n9 : Int) := by omega
      have i2 : (1 : Int) ≤ (n9 : Int) := by omega
      have Hcell := Lib.hid hcell
      clear hcell
      have hu4 := heap_setCell_same V3 V.heap.size 2 _ _ (.int .i32 h0) hu3
      have hum : UM V3.heap.size V.heap.size 0 0 h0 0 (V3.setCell ⟨V.heap.size, 2, none⟩ (.int .i32 h0)) := ⟨_, _, 0, 0, [], [], hu4, World.ownsRow_nil _ _ _ _, World.ownsRow_nil _ _ _ _, Nat.le_refl _, Nat.le_refl _, fun b e => by cases e⟩
      have hbt : But V3.heap.size V.heap.size V3 (V3.setCell ⟨V.heap.size, 2, none⟩ (.int .i32 h0)) := ⟨rfl, rfl, rfl, by simp [World.setCell], fun i _ h2 => Below.heap_setCell _ _ _ _ h2⟩
      have H0 := Lib.hid (And.intro hum hbt)
      have Hi3 := Lib.hid hi3
      have HbV3 := Lib.hid hbV3
      have hszV3 := hbV3.size
      clear hu4 hum hbt hi3 hbV3
      gi_wp2
      all_goals
        generalize hm9 : n9 - 1 = m9 at *
        gi_loopw [11, 74] (fun t11 t74 wr => ∃ j : Nat, t74 = .int .i64 j ∧ j ≤ m9 ∧ Hid (UM V3.heap.size V.heap.size 0 0 h0 j wr ∧ But V3.heap.size V.heap.size V3 wr)) (fun _ t74 _ => m9 - (intOf t74).toNat)
        case atStart => exact ⟨0, rfl, Nat.zero_le _, H0⟩
        case round =>
          obtain ⟨wi, hwi⟩ : ∃ W : World, W = wr := ⟨_, rfl⟩
          subst hwi
          obtain ⟨j, rfl, hj, hH⟩ := hrel
          by_cases hlt : j < m9
          · first
              | exfalso; omega
              | (
                  obtain ⟨a, ha⟩ := Hcell.out (1 + j) (by omega)
                  have ha2 : wi.cell? ⟨g9, 1 + j, none⟩ = some (.int .i32 a) := (World.cell?_of_block (hH.out.2.block g9 (by omega) (by omega))).trans ha
                  have Hmk := Lib.hid (mark_unit V3.heap.size V.heap.size 0 0 h0 a j (by omega) wi hH.out.1 hH.out.2.size)
                  have j1 : (0 : Int) ≤ (j : Int) := by omega
                  have j2 : (j : Int) < (m9 : Int) := by omega
                  have hwj : IntKind.i64.wrap ((j : Int) + 1) = (j : Int) + 1 := IntWalk.i64_in _ (by omega)
                  all_goals
                    gi_wp2
                    refine ⟨trivial, CallsIn.inRound _ (CallsIn.mono (callsIn_wide.2 Hmk.out) ?_)⟩
                    rintro e w6 ⟨⟨vv, rfl⟩, hum6, hbt6⟩
                    have H6 := Lib.hid (And.intro hum6 (hH.out.2.trans hbt6))
                    clear hum6 hbt6
                    gi_wp2
                    exact ⟨⟨j + 1, by push_cast; rfl, by omega, H6⟩, by simp [intOf]; omega⟩)
          · obtain rfl : j = m9 := by omega
            obtain ⟨lo, hi, nl, nh, xl, xh, hu6, ho6, hq6, _, _, _⟩ := hH.out.1.ex
            obtain ⟨Al, cl, rfl⟩ := row_slice ho6
            obtain ⟨Ah, ch, rfl⟩ := row_slice hq6
            have hbt := hH.out.2
            have hi6 := Hi3.out.but hbt (Nat.le_refl _) (by omega) hw2 (by omega)
            have hbV6 : Below V.heap.size V wi := ⟨hbt.os.trans HbV3.out.os, hbt.tape.trans HbV3.out.tape, hbt.output.trans HbV3.out.output, Nat.le_trans HbV3.out.size hbt.size, fun i h1 => (hbt.block i (by omega) (by omega)).trans (HbV3.out.block i h1)⟩
            obtain ⟨vl, xl2, hl2, _, hvl⟩ := hi6.l
            obtain rfl := hvl.1 rfl
            have l0 : wi.cell? ⟨p + 1, 0, none⟩ = some (.slice none 0 0) := cell_of_row _ _ 0 _ _ (0, 0) hl2
            have u0 := cell_of_row _ _ 0 _ _ (0, 0) hu6
            have u1 := cell_of_row _ _ 1 _ _ (0, 0) hu6
            have u2 := cell_of_row _ _ 2 _ _ (0, 0) hu6
            have u3 := cell_of_row _ _ 3 _ _ (0, 0) hu6
            have u4 := cell_of_row _ _ 4 _ _ (0, 0) hu6
            have Hpu := Lib.hid fun (w5 : World) (v5 : Value) (ho : w5.ownsRow (p + 3) 187 5 v5 (0 + 1) ([] ++ [.int .i64 0, .int .u8 0, .int .i32 h0, .slice Al nl cl, .slice Ah nh ch])) (hg : wi.grownBy w5 (Value.slice none 0 0).ownBlock) => UI1.push hi6 hbV6 (by omega) hw2 (by omega) ho hg ⟨_, _, _, _, _, _, _, rfl⟩
            gi_wp2_with (gi_at_builtin; go_loud (refine wpListIn_append_boxg wi rfl _ _ 173 rfl (p + 3) 187 _ _ 5 64 Tryz.underlying173 infoFU zeroFU sizeFU bytesFU rfl (by decide) (.slice none 0 0) 0 [] #[.int .i64 0, .int .u8 0, .int .i32 h0, .slice Al nl cl, .slice Ah nh ch] wi.heap.size rfl rfl rfl (World.ownsRow_nil _ _ _ _) rfl (by intro u hu; simp at hu; rcases hu with rfl | rfl | rfl | rfl | rfl <;> rfl) (by unfold maxLen; omega) (by omega) (by have := hbV6.size; omega) ?_; intro v5 w5 hown5 hgr5; obtain ⟨g5, cap5, rfl⟩ := own_form1 hown5 (by omega); obtain ⟨hz5, ⟨x5, hx5⟩, hF5⟩ := Hpu.out w5 _ hown5 hgr5; have HF5 := Lib.hid hF5; clear hown5 hgr5))
            obtain ⟨f1, f2, f3⟩ := HF5.out
            exact ⟨(by first | exact f2 | (rw [s5]; exact f2)), f3, f1⟩
end Go.Proofs.YtgcdopafblcbhaaGreatDoor

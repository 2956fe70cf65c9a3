import Derived.Test.YtkfkkoefpfmjkaaDoorTB
namespace Go.Proofs.YtkfkkoefpfmjkaaDoor
set_option linter.unusedVariables false
set_option linter.unusedSimpArgs false
open Go.RowKit

/- spoil (16): what it writes lies in the metre's own memory. -/
structure Away (B E : Nat) (w w' : World) : Prop where
  os : w'.os = w.os
  tape : w'.tape = w.tape
  output : w'.output = w.output
  size : w.heap.size ≤ w'.heap.size
  block : ∀ k, k < w.heap.size → (k < B ∨ E ≤ k) → w'.heap[k]? = w.heap[k]?
  box : ∀ (k : Nat) (c : Array Value), w.heap[k]? = some (.cells c 27 (0, 0)) → w'.heap[k]? = some (.cells c 27 (0, 0))
theorem Away.refl (B E : Nat) (w : World) : Away B E w w := ⟨rfl, rfl, rfl, Nat.le_refl _, fun _ _ _ => rfl, fun _ _ h => h⟩
theorem Away.grown {B E : Nat} {a w w' : World} {row : Option Nat} (h : Away B E a w) (hg : w.grownBy w' row) (hr : ∀ k, row = some k → B ≤ k ∧ (k < E ∨ a.heap.size ≤ k)) (hn : ∀ k, row = some k → ∃ c e, w.heap[k]? = some (.cells c e (0, 0)) ∧ e ≠ 27) : Away B E a w' :=
  ⟨hg.os.trans h.os, hg.tape.trans h.tape, hg.output.trans h.output, Nat.le_trans h.size hg.size, fun k hk hb =>
    (hg.block k (Nat.lt_of_lt_of_le hk h.size) (fun e => by have := hr k e.symm; omega)).trans (h.block k hk hb),
   fun k c hk => (hg.block k (lt_of_heap (h.box k c hk)) (fun e => by
    obtain ⟨c', e', h1, h2⟩ := hn k e.symm
    rw [h.box k c hk] at h1; cases h1; exact h2 rfl)).trans (h.box k c hk)⟩
theorem Away.trans {B E : Nat} {a b c : World} (h : Away B E a b) (h2 : Away B E b c) : Away B E a c :=
  ⟨h2.os.trans h.os, h2.tape.trans h.tape, h2.output.trans h.output, Nat.le_trans h.size h2.size, fun k hk hb => (h2.block k (Nat.lt_of_lt_of_le hk h.size) hb).trans (h.block k hk hb), fun k c hk => h2.box k c (h.box k c hk)⟩
theorem Away.of_below {B E : Nat} {w w' : World} (h : Below w.heap.size w w') : Away B E w w' := (Away.refl B E w).grown (only_of_below h none) (fun k e => by cases e) (fun k e => by cases e)
theorem Away.below {B E : Nat} {w w' : World} (h : Away B E w w') (hB : B ≤ w.heap.size) : Below B w w' := ⟨h.os, h.tape, h.output, h.size, fun k hk => h.block k (by omega) (.inl hk)⟩

structure Few (m : Met) : Prop where
  feet : m.feet.length ≤ 100
  ways : ∀ k, k < m.feet.length → (m.feet.getD k default).ways.length ≤ 100
  ends : m.ends.length ≤ 100
  brks : m.brks.length ≤ 100

/-- what still holds of the metre when its first feet are spoiled -/
structure Sp (B : Nat) (m : Met) (i : Nat) (vf ve vb : Value) (vs : List Value) (W : World) : Prop where
  vl : vs.length = m.feet.length
  apart : Apart (ve :: vs)
  feet : ∃ c, W.ownsRow B 81 2 vf m.feet.length c ∧ ∀ k, i ≤ k → k < m.feet.length → c[k * 2 + 1]? = some (vs.getD k nilV)
  ways : ∀ k, i ≤ k → k < m.feet.length → ∃ c, W.ownsRow B 100 2 (vs.getD k nilV) (m.feet.getD k default).ways.length c
  ends : ∃ c, W.ownsRow B 100 2 ve m.ends.length c
  brks : ∃ c, W.ownsRow B 98 2 vb m.brks.length c
variable {B i : Nat} {m : Met} {vf ve vb : Value} {vs : List Value} {W W' : World}
theorem OM.sp (h : OM W B m vf ve vb vs) : Sp B m 0 vf ve vb vs W :=
  ⟨h.vl, h.apart, ⟨_, h.feet, fun k _ hk => (ftCells_get m.feet vs k h.vl hk).2⟩, fun k _ hk => ⟨_, h.ways k hk⟩, ⟨_, h.ends⟩, ⟨_, h.brks⟩⟩
/-- a write that leaves all rows alone -/
theorem Sp.off (h : Sp B m i vf ve vb vs W) (hg : W.grownBy W' none) : Sp B m i vf ve vb vs W' := by
  have q : ∀ {v : Value}, v.ownBlock = none ∨ v.ownBlock ≠ none := fun {v} => by cases v.ownBlock <;> simp
  obtain ⟨c, hc, hk⟩ := h.feet
  obtain ⟨c2, hc2⟩ := h.ends
  obtain ⟨c3, hc3⟩ := h.brks
  exact ⟨h.vl, h.apart, ⟨c, hc.kept hg q, hk⟩, fun k h1 h2 => let ⟨c4, hc4⟩ := h.ways k h1 h2; ⟨c4, hc4.kept hg q⟩, ⟨c2, hc2.kept hg q⟩, ⟨c3, hc3.kept hg q⟩⟩
theorem apart_ne (h : Apart (ve :: vs)) {p q : Nat} (hp : p < vs.length) (hq : q < vs.length) (hne : p ≠ q) : (vs.getD p nilV).ownBlock = none ∨ (vs.getD p nilV).ownBlock ≠ (vs.getD q nilV).ownBlock := by
  cases hv : (vs.getD p nilV).ownBlock with
  | none => exact .inl rfl
  | some b => exact .inr fun e => h (p + 1) (q + 1) b (by simpa using hp) (by simpa using hq) (by omega) (by simpa using hv) (by simpa using e.symm)
theorem apart_ne0 (h : Apart (ve :: vs)) {q : Nat} (hq : q < vs.length) : ve.ownBlock = none ∨ ve.ownBlock ≠ (vs.getD q nilV).ownBlock := by
  cases hv : ve.ownBlock with
  | none => exact .inl rfl
  | some b => exact .inr fun e => h 0 (q + 1) b (by simp) (by simpa using hq) (by omega) (by simpa using hv) (by simpa using e.symm)
theorem apart_ne1 (h : Apart (ve :: vs)) {q : Nat} (hq : q < vs.length) : (vs.getD q nilV).ownBlock = none ∨ (vs.getD q nilV).ownBlock ≠ ve.ownBlock := by
  cases hv : (vs.getD q nilV).ownBlock with
  | none => exact .inl rfl
  | some b => exact .inr fun e => h (q + 1) 0 b (by simpa using hq) (by simp) (by omega) (by simpa using hv) (by simpa using e.symm)
/-- a write into the ways of foot i: what is left holds from i + 1 on -/
theorem Sp.next (h : Sp B m i vf ve vb vs W) (hi : i < m.feet.length) (hg : W.grownBy W' (vs.getD i nilV).ownBlock) : Sp B m (i + 1) vf ve vb vs W' := by
  obtain ⟨c, hc, hk⟩ := h.feet
  obtain ⟨c2, hc2⟩ := h.ends
  obtain ⟨c3, hc3⟩ := h.brks
  obtain ⟨c5, hc5⟩ := h.ways i (Nat.le_refl _) hi
  refine ⟨h.vl, h.apart, ⟨c, hc.kept hg (own_ne hc hc5 (by decide)), fun k h1 h2 => hk k (by omega) h2⟩, fun k h1 h2 => ?_, ⟨c2, hc2.kept hg (apart_ne0 h.apart (by rw [h.vl]; exact hi))⟩, ⟨c3, hc3.kept hg (own_ne hc3 hc5 (by decide))⟩⟩
  obtain ⟨c4, hc4⟩ := h.ways k (by omega) h2
  exact ⟨c4, hc4.kept hg (apart_ne h.apart (by rw [h.vl]; exact h2) (by rw [h.vl]; exact hi) (by omega))⟩
/-- a write into the ways of foot i that keeps them a row -/
theorem Sp.way (h : Sp B m i vf ve vb vs W) (hi : i < m.feet.length) (hg : W.grownBy W' (vs.getD i nilV).ownBlock) {c' : List Value} (ho : W'.ownsRow B 100 2 (vs.getD i nilV) (m.feet.getD i default).ways.length c') : Sp B m i vf ve vb vs W' := by
  have h2 := h.next hi hg
  obtain ⟨c, hc, hk⟩ := h.feet
  obtain ⟨c5, hc5⟩ := h.ways i (Nat.le_refl _) hi
  refine ⟨h.vl, h.apart, ⟨c, hc.kept hg (own_ne hc hc5 (by decide)), hk⟩, fun k h1 h3 => ?_, h2.ends, h2.brks⟩
  by_cases e : k = i
  · subst e; exact ⟨c', ho⟩
  · exact h2.ways k (by omega) h3
/-- a write into the feet's row, at foot i -/
theorem Sp.foot (h : Sp B m (i + 1) vf ve vb vs W) {g cap : Nat} (hv : vf = .slice (some ⟨g, 0, none⟩) m.feet.length cap) (x y : Value) :
    Sp B m (i + 1) vf ve vb vs ((W.setCell ⟨g, i * 2, none⟩ x).setCell ⟨g, i * 2 + 1, none⟩ y) := by
  obtain ⟨c, hc, hk⟩ := h.feet
  subst hv
  obtain ⟨a1, g1⟩ := hc.stored (i * 2) x
  obtain ⟨a2, g2⟩ := a1.stored (i * 2 + 1) y
  have hgg : (Value.slice (some ⟨g, 0, none⟩) m.feet.length cap).ownBlock = some g := rfl
  have far : ∀ {e n : Nat} {v : Value} {z : List Value}, W.ownsRow B e 2 v n z → e ≠ 81 → ((W.setCell ⟨g, i * 2, none⟩ x).setCell ⟨g, i * 2 + 1, none⟩ y).ownsRow B e 2 v n z := fun hz hne => by
    have q := own_ne hz hc hne
    rw [hgg] at q
    exact (hz.kept g1 q).kept g2 q
  obtain ⟨c2, hc2⟩ := h.ends
  obtain ⟨c3, hc3⟩ := h.brks
  refine ⟨h.vl, h.apart, ⟨_, a2, fun k h1 h2 => ?_⟩, fun k h1 h2 => let ⟨c4, hc4⟩ := h.ways k h1 h2; ⟨c4, far hc4 (by decide)⟩, ⟨c2, far hc2 (by decide)⟩, ⟨c3, far hc3 (by decide)⟩⟩
  rw [List.getElem?_set_ne (by omega), List.getElem?_set_ne (by omega)]
  exact hk k h1 h2
/-- a write into the row of the ends, all feet being done -/
theorem Sp.end_ (h : Sp B m m.feet.length vf ve vb vs W) {g cap : Nat} (hv : ve = .slice (some ⟨g, 0, none⟩) m.ends.length cap) (j : Nat) (x y : Value) :
    Sp B m m.feet.length vf ve vb vs ((W.setCell ⟨g, j * 2, none⟩ x).setCell ⟨g, j * 2 + 1, none⟩ y) := by
  obtain ⟨c, hc, hk⟩ := h.feet
  obtain ⟨c2, hc2⟩ := h.ends
  obtain ⟨c3, hc3⟩ := h.brks
  subst hv
  obtain ⟨a1, g1⟩ := hc2.stored (j * 2) x
  obtain ⟨a2, g2⟩ := a1.stored (j * 2 + 1) y
  have far : ∀ {e n : Nat} {v : Value} {z : List Value}, W.ownsRow B e 2 v n z → e ≠ 100 → ((W.setCell ⟨g, j * 2, none⟩ x).setCell ⟨g, j * 2 + 1, none⟩ y).ownsRow B e 2 v n z := fun hz hne => by
    have q := own_ne hz hc2 hne
    rw [show (Value.slice (some ⟨g, 0, none⟩) m.ends.length cap).ownBlock = some g from rfl] at q
    exact (hz.kept g1 q).kept g2 q
  exact ⟨h.vl, h.apart, ⟨c, far hc (by decide), hk⟩, fun k h1 h2 => absurd h2 (by omega), ⟨_, a2⟩, ⟨c3, far hc3 (by decide)⟩⟩
/-- a write into the row of the breaks, all feet being done -/
theorem Sp.brk (h : Sp B m m.feet.length vf ve vb vs W) {g cap : Nat} (hv : vb = .slice (some ⟨g, 0, none⟩) m.brks.length cap) (j : Nat) (x y : Value) :
    Sp B m m.feet.length vf ve vb vs ((W.setCell ⟨g, j * 2, none⟩ x).setCell ⟨g, j * 2 + 1, none⟩ y) := by
  obtain ⟨c, hc, hk⟩ := h.feet
  obtain ⟨c2, hc2⟩ := h.ends
  obtain ⟨c3, hc3⟩ := h.brks
  subst hv
  obtain ⟨a1, g1⟩ := hc3.stored (j * 2) x
  obtain ⟨a2, g2⟩ := a1.stored (j * 2 + 1) y
  have far : ∀ {e n : Nat} {v : Value} {z : List Value}, W.ownsRow B e 2 v n z → e ≠ 98 → ((W.setCell ⟨g, j * 2, none⟩ x).setCell ⟨g, j * 2 + 1, none⟩ y).ownsRow B e 2 v n z := fun hz hne => by
    have q := own_ne hz hc3 hne
    rw [show (Value.slice (some ⟨g, 0, none⟩) m.brks.length cap).ownBlock = some g from rfl] at q
    exact (hz.kept g1 q).kept g2 q
  exact ⟨h.vl, h.apart, ⟨c, far hc (by decide), hk⟩, fun k h1 h2 => absurd h2 (by omega), ⟨c2, far hc2 (by decide)⟩, ⟨_, a2⟩⟩
/-- the walk's data: the box, the rows, what has gone on -/
structure Sk (B E : Nat) (w : World) (m : Met) (Af Ae Ab : Option Addr) (cf ce cb : Nat) (vs : List Value) (i : Nat) (wr : World) : Prop where
  away : Away B E w wr
  sp : Sp B m i (.slice Af m.feet.length cf) (.slice Ae m.ends.length ce) (.slice Ab m.brks.length cb) vs wr
  box : wr.heap[w.heap.size]? = some (.cells #[.slice Af m.feet.length cf, .slice Ae m.ends.length ce, .slice Ab m.brks.length cb] 27 (0, 0))
theorem own_addr {W : World} {B e z n c : Nat} {A : Option Addr} {x : List Value} (h : W.ownsRow B e z (.slice A n c) n x) (hn : 0 < n) : ∃ g, A = some ⟨g, 0, none⟩ := by
  rcases h.2 with ⟨h1, h2⟩ | ⟨g, cap, cur, h1, _⟩
  · omega
  · cases h1; exact ⟨g, rfl⟩
variable {E cf ce cb : Nat} {w wr : World} {Af Ae Ab : Option Addr}
theorem Sk.cells (h : Sk B E w m Af Ae Ab cf ce cb vs i wr) : wr.cell? ⟨w.heap.size, 0, none⟩ = some (.slice Af m.feet.length cf) ∧ wr.cell? ⟨w.heap.size, 1, none⟩ = some (.slice Ae m.ends.length ce) ∧ wr.cell? ⟨w.heap.size, 2, none⟩ = some (.slice Ab m.brks.length cb) :=
  ⟨cell_of_row _ _ 0 _ 27 (0, 0) h.box, cell_of_row _ _ 1 _ 27 (0, 0) h.box, cell_of_row _ _ 2 _ 27 (0, 0) h.box⟩
/-- foot i in memory -/
theorem Sk.foot (h : Sk B E w m Af Ae Ab cf ce cb vs i wr) (hi : i < m.feet.length) : ∃ g A c, Af = some ⟨g, 0, none⟩ ∧ vs.getD i nilV = .slice A (m.feet.getD i default).ways.length c ∧ wr.cell? ⟨g, i * 2 + 1, none⟩ = some (.slice A (m.feet.getD i default).ways.length c) ∧
    (∀ o, wr.frozen? ⟨g, o, none⟩ = false) ∧ ∃ x, wr.ownsRow B 100 2 (.slice A (m.feet.getD i default).ways.length c) (m.feet.getD i default).ways.length x := by
  obtain ⟨c, hc, hk⟩ := h.sp.feet
  obtain ⟨g, rfl⟩ := own_addr hc (by omega)
  obtain ⟨x, hx⟩ := h.sp.ways i (Nat.le_refl _) hi
  obtain ⟨A, c2, e⟩ := row_slice hx
  refine ⟨g, A, c2, rfl, e, ?_, fun o => hc.frozenAt o, x, e ▸ hx⟩
  rw [hc.cellAt (i * 2 + 1) (by omega), hk i (Nat.le_refl _) hi, e]
/-- the metre's own blocks lie ahead of E -/
structure Ahead (E : Nat) (m : Met) (vf ve vb : Value) (vs : List Value) : Prop where
  feet : ∀ g, vf.ownBlock = some g → g < E
  ends : ∀ g, ve.ownBlock = some g → g < E
  brks : ∀ g, vb.ownBlock = some g → g < E
  ways : ∀ k g, k < m.feet.length → (vs.getD k nilV).ownBlock = some g → g < E
theorem row_kind {W : World} {B e n g : Nat} {v : Value} {c : List Value} (h : W.ownsRow B e 2 v n c) (hg : v.ownBlock = some g) (hne : e ≠ 27) : ∃ c' e', W.heap[g]? = some (.cells c' e' (0, 0)) ∧ e' ≠ 27 := by
  rcases h.2 with ⟨h1, _⟩ | ⟨g', cap, cur, h1, _, h2, _⟩
  · rw [h1] at hg; cases hg
  · rw [h1] at hg; cases hg; exact ⟨_, _, h2, hne⟩
theorem Sk.put {i' : Nat} {W' : World} {row : Option Nat} (h : Sk B E w m Af Ae Ab cf ce cb vs i wr) (hs : Sp B m i' (.slice Af m.feet.length cf) (.slice Ae m.ends.length ce) (.slice Ab m.brks.length cb) vs W') (hg : wr.grownBy W' row)
    (hr : ∀ k, row = some k → B ≤ k ∧ k < E) (hEw : E ≤ w.heap.size) (hn : ∀ k, row = some k → ∃ c e, wr.heap[k]? = some (.cells c e (0, 0)) ∧ e ≠ 27) : Sk B E w m Af Ae Ab cf ce cb vs i' W' :=
  ⟨h.away.grown hg (fun k e => by have := hr k e; omega) hn, hs, (hg.block _ (Array.getElem?_eq_some_iff.1 h.box).1 (fun e => by have := hr _ e.symm; omega)).trans h.box⟩
theorem Sk.off (h : Sk B E w m Af Ae Ab cf ce cb vs i wr) {W' : World} (hg : wr.grownBy W' none) (hEw : E ≤ w.heap.size) : Sk B E w m Af Ae Ab cf ce cb vs i W' := h.put (h.sp.off hg) hg (fun k e => by cases e) hEw (fun k e => by cases e)
theorem two_grown (wr : World) (g a b : Nat) (x y : Value) : wr.grownBy ((wr.setCell ⟨g, a, none⟩ x).setCell ⟨g, b, none⟩ y) (some g) :=
  ⟨rfl, rfl, rfl, by simp, fun k hk hne => (Below.heap_setCell _ _ _ _ (by rintro rfl; exact hne rfl)).trans (Below.heap_setCell _ _ _ _ (by rintro rfl; exact hne rfl))⟩
theorem Sk.wayput (h : Sk B E w m Af Ae Ab cf ce cb vs i wr) (ha : Ahead E m (.slice Af m.feet.length cf) (.slice Ae m.ends.length ce) (.slice Ab m.brks.length cb) vs) (hEw : E ≤ w.heap.size) (hi : i < m.feet.length)
    {g c : Nat} (hv : vs.getD i nilV = .slice (some ⟨g, 0, none⟩) (m.feet.getD i default).ways.length c) (j : Nat) (x y : Value) :
    Sk B E w m Af Ae Ab cf ce cb vs i ((wr.setCell ⟨g, j * 2, none⟩ x).setCell ⟨g, j * 2 + 1, none⟩ y) := by
  obtain ⟨z, hz⟩ := h.sp.ways i (Nat.le_refl _) hi
  have hb : (vs.getD i nilV).ownBlock = some g := by rw [hv]; rfl
  have hlt := (hz.lt g hb).1
  have hlE := ha.ways i g hi hb
  have hg := two_grown wr g (j * 2) (j * 2 + 1) x y
  have hz' := hz
  rw [hv] at hz'
  obtain ⟨a1, _⟩ := hz'.stored (j * 2) x
  obtain ⟨a2, _⟩ := a1.stored (j * 2 + 1) y
  rw [← hv] at a2
  exact h.put (h.sp.way hi (by rw [hb]; exact hg) a2) hg (fun k e => by cases e; exact ⟨hlt, hlE⟩) hEw (fun k e => by cases e; exact row_kind hz hb (by decide))
theorem Sk.next (h : Sk B E w m Af Ae Ab cf ce cb vs i wr) (ha : Ahead E m (.slice Af m.feet.length cf) (.slice Ae m.ends.length ce) (.slice Ab m.brks.length cb) vs) (hEw : E ≤ w.heap.size) (hi : i < m.feet.length)
    {W' : World} (hg : wr.grownBy W' (vs.getD i nilV).ownBlock) : Sk B E w m Af Ae Ab cf ce cb vs (i + 1) W' := by
  obtain ⟨z, hz⟩ := h.sp.ways i (Nat.le_refl _) hi
  exact h.put (h.sp.next hi hg) hg (fun k e => ⟨(hz.lt k e).1, ha.ways i k hi e⟩) hEw (fun k e => row_kind hz e (by decide))
theorem Sk.footput (h : Sk B E w m Af Ae Ab cf ce cb vs (i + 1) wr) (ha : Ahead E m (.slice Af m.feet.length cf) (.slice Ae m.ends.length ce) (.slice Ab m.brks.length cb) vs) (hEw : E ≤ w.heap.size)
    {g : Nat} (hv : Af = some ⟨g, 0, none⟩) (x y : Value) : Sk B E w m Af Ae Ab cf ce cb vs (i + 1) ((wr.setCell ⟨g, i * 2, none⟩ x).setCell ⟨g, i * 2 + 1, none⟩ y) := by
  obtain ⟨c, hc, _⟩ := h.sp.feet
  have hb : (Value.slice Af m.feet.length cf).ownBlock = some g := by rw [hv]; rfl
  exact h.put (h.sp.foot (by rw [hv]) x y) (two_grown wr g _ _ x y) (fun k e => by cases e; exact ⟨(hc.lt g hb).1, ha.feet g hb⟩) hEw (fun k e => by cases e; exact row_kind hc hb (by decide))
theorem Sk.endput (h : Sk B E w m Af Ae Ab cf ce cb vs m.feet.length wr) (ha : Ahead E m (.slice Af m.feet.length cf) (.slice Ae m.ends.length ce) (.slice Ab m.brks.length cb) vs) (hEw : E ≤ w.heap.size)
    {g : Nat} (hv : Ae = some ⟨g, 0, none⟩) (j : Nat) (x y : Value) : Sk B E w m Af Ae Ab cf ce cb vs m.feet.length ((wr.setCell ⟨g, j * 2, none⟩ x).setCell ⟨g, j * 2 + 1, none⟩ y) := by
  obtain ⟨c, hc⟩ := h.sp.ends
  have hb : (Value.slice Ae m.ends.length ce).ownBlock = some g := by rw [hv]; rfl
  exact h.put (h.sp.end_ (by rw [hv]) j x y) (two_grown wr g _ _ x y) (fun k e => by cases e; exact ⟨(hc.lt g hb).1, ha.ends g hb⟩) hEw (fun k e => by cases e; exact row_kind hc hb (by decide))
theorem Sk.brkput (h : Sk B E w m Af Ae Ab cf ce cb vs m.feet.length wr) (ha : Ahead E m (.slice Af m.feet.length cf) (.slice Ae m.ends.length ce) (.slice Ab m.brks.length cb) vs) (hEw : E ≤ w.heap.size)
    {g : Nat} (hv : Ab = some ⟨g, 0, none⟩) (j : Nat) (x y : Value) : Sk B E w m Af Ae Ab cf ce cb vs m.feet.length ((wr.setCell ⟨g, j * 2, none⟩ x).setCell ⟨g, j * 2 + 1, none⟩ y) := by
  obtain ⟨c, hc⟩ := h.sp.brks
  have hb : (Value.slice Ab m.brks.length cb).ownBlock = some g := by rw [hv]; rfl
  exact h.put (h.sp.brk (by rw [hv]) j x y) (two_grown wr g _ _ x y) (fun k e => by cases e; exact ⟨(hc.lt g hb).1, ha.brks g hb⟩) hEw (fun k e => by cases e; exact row_kind hc hb (by decide))
theorem Sk.foot2 (h : Sk B E w m Af Ae Ab cf ce cb vs i wr) (hi : i < m.feet.length) {g : Nat} (hA : Af = some ⟨g, 0, none⟩) {A : Option Addr} {c : Nat} (hv : vs.getD i nilV = .slice A (m.feet.getD i default).ways.length c) :
    wr.cell? ⟨g, i * 2 + 1, none⟩ = some (.slice A (m.feet.getD i default).ways.length c) ∧ (∀ o, wr.frozen? ⟨g, o, none⟩ = false) ∧ ∃ x, wr.ownsRow B 100 2 (.slice A (m.feet.getD i default).ways.length c) (m.feet.getD i default).ways.length x := by
  obtain ⟨g', A', c', h1, h2, h3, h4, x, h5⟩ := h.foot hi
  rw [hA] at h1; cases h1
  rw [hv] at h2; cases h2
  exact ⟨h3, h4, x, h5⟩
theorem new_at (w0 : World) (nw : Array Value) (e : Nat) : ∀ j u, nw.toList[j]? = some u → (w0.alloc (.cells nw e)).cell? ((⟨w0.heap.size, 0, none⟩ : Addr).add j) = some u := by
  intro j u hu
  have e1 : (⟨w0.heap.size, 0, none⟩ : Addr).add j = ⟨w0.heap.size, j, none⟩ := by
    unfold Addr.add; by_cases hj : j = 0
    · simp [hj]
    · simp [hj]
  rw [e1, World.cell?_alloc_new]
  simpa using hu
/-- append of a literal's elements, which lie in a fresh block -/
theorem wpList_append_lit {P : Program} {ops : Array Oper} {rest : List Oper} {o : Oper} {a : Act} {Q : Exit → Act → World → Prop} (w0 : World) (hgd : o.guard = none) (s x : Operand) (t : TypeId)
    (ho : o.op = .call { callee := .builtin .append, args := #[s, x], argTypes := #[t, t] })
    (base : Nat) (e : TypeId) (i : TypeInfo) (z : Value) (size bytes : Nat) (ht : P.underlying t = some (.slice e)) (hi : P.info? e = some i) (hz : i.zero = some z)
    (hsize : i.size = size) (hby : i.bytes = bytes) (hzs : z.cells.size = size) (hsz : 0 < size)
    (v : Value) (n : Nat) (xs : List Value) (k : Nat) (nw : Array Value) (g : Nat) (hs : a.eval s = v) (hx : a.eval x = .slice (some ⟨g, 0, none⟩) k k) (hg : g = w0.heap.size) (hown : w0.ownsRow base e size v n xs)
    (hl : nw.size = k * size) (h1 : ∀ u ∈ nw.toList, u.oneCell' = true)
    (h63 : n + k ≤ maxLen) (hbytes : (n + k) * bytes ≤ 140737488355328) (hbase : base ≤ w0.heap.size)
    (h : ∀ v' w', w'.ownsRow base e size v' (n + k) (xs ++ nw.toList) → w0.grownBy w' v.ownBlock → (v'.ownBlock = v.ownBlock ∨ ∃ b, v'.ownBlock = some b ∧ w0.heap.size ≤ b) → wpList P ops Q rest (a.put o.dst v') w') : wpList P ops Q (o :: rest) a (w0.alloc (.cells nw e)) := by
  subst hg
  refine wpList_append_own_at (w0.alloc (.cells nw e)) hgd s x t ho base e i z size bytes ht hi hz hsize hby hzs hsz v n xs hs (hown.alloc _) ⟨w0.heap.size, 0, none⟩ k k nw.toList hx (by simp [hl]) (new_at w0 nw e) h1 h63 hbytes (by simp; omega) ?_
  intro v' w' a1 a2 a3 a4
  refine h v' w' a1 ⟨a2.os, a2.tape, a2.output, Nat.le_trans (by simp) a2.size, fun q hq hne => (a2.block q (by simp; omega) hne).trans (Below.heap_alloc _ _ _ hq)⟩ ?_
  rcases a4 with e1 | e1
  · exact .inl e1
  · exact .inr ⟨_, e1, by simp⟩
theorem row_cells {W : World} {B e n g cap : Nat} {c : List Value} (hc : W.ownsRow B e 2 (.slice (some ⟨g, 0, none⟩) n cap) n c) {i : Nat} (hi : i < n) :
    (∃ u1, W.cell? ⟨g, i * 2, none⟩ = some u1) ∧ (∃ u2, W.cell? ⟨g, i * 2 + 1, none⟩ = some u2) ∧ W.frozen? ⟨g, i * 2, none⟩ = false ∧ W.frozen? ⟨g, i * 2 + 1, none⟩ = false ∧ ∀ u, (W.setCell ⟨g, i * 2, none⟩ u).frozen? ⟨g, i * 2 + 1, none⟩ = false := by
  have hl := hc.1
  exact ⟨⟨_, (hc.cellAt (i * 2) (by omega)).trans (List.getElem?_eq_getElem (by omega))⟩, ⟨_, (hc.cellAt (i * 2 + 1) (by omega)).trans (List.getElem?_eq_getElem (by omega))⟩, hc.frozenAt _, hc.frozenAt _, fun u => ((hc.stored (i * 2) u).1).frozenAt _⟩
end Go.Proofs.YtkfkkoefpfmjkaaDoor

import Derived.Test.YtkfkkoefpfmjkaaDoorJA
namespace Go.Proofs.YtkfkkoefpfmjkaaDoor
set_option linter.unusedVariables false
set_option linter.unusedSimpArgs false
open Go.RowKit
variable {B E i cf ce cb : Nat} {m : Met} {vs : List Value} {W W' w wr : World} {Af Ae Ab : Option Addr}
theorem Away.set {B E g o : Nat} {a w : World} (h : Away B E a w) (hB : B ≤ g) (hp : g < E ∨ a.heap.size ≤ g) (hk : ∃ c e, w.heap[g]? = some (.cells c e (0, 0)) ∧ e ≠ 27) (u : Value) : Away B E a (w.setCell ⟨g, o, none⟩ u) :=
  h.grown (row := some g) ⟨rfl, rfl, rfl, by simp, fun k hk hne => Below.heap_setCell _ _ _ _ (by rintro rfl; exact hne rfl)⟩ (fun k e => by cases e; exact ⟨hB, hp⟩) (fun k e => by cases e; exact hk)
/-- one of the three rows in the last region: its literal is made, it is appended to -/
structure Cl (B e n : Nat) (v : Value) (lc : Array Value) (bs ba : Bool) (xl xa : Value) (W : World) : Prop where
  pre : ba = false → ∃ c, W.ownsRow B e 2 v n c
  lit : bs = true → ba = false → ∃ g, xl = .slice (some ⟨g, 0, none⟩) 1 1 ∧ W.heap[g]? = some (.cells lc e (0, 0))
  post : ba = true → ∃ c, W.ownsRow B e 2 xa (n + 1) c
theorem Cl.kept {B e n : Nat} {v : Value} {lc : Array Value} {bs ba : Bool} {xl xa : Value} {W W' : World} {row : Option Nat} (h : Cl B e n v lc bs ba xl xa W) (hg : W.grownBy W' row)
    (hne : ∀ g, row = some g → ∃ c' e', W.heap[g]? = some (.cells c' e' (0, 0)) ∧ e ≠ e') : Cl B e n v lc bs ba xl xa W' := by
  have q : ∀ {u : Value} {k : Nat} {c : List Value}, W.ownsRow B e 2 u k c → W'.ownsRow B e 2 u k c := fun hu => by
    refine hu.kept hg ?_
    cases row with
    | none => rename_i u _ _; cases u.ownBlock <;> simp
    | some g => obtain ⟨c', e', h1, h2⟩ := hne g rfl; exact own_neb hu h1 h2
  refine ⟨fun hb => let ⟨c, hc⟩ := h.pre hb; ⟨c, q hc⟩, fun hs hb => ?_, fun hb => let ⟨c, hc⟩ := h.post hb; ⟨c, q hc⟩⟩
  obtain ⟨g, h1, h2⟩ := h.lit hs hb
  refine ⟨g, h1, (hg.block g (lt_of_heap h2) fun e1 => ?_).trans h2⟩
  obtain ⟨c', e', h3, h4⟩ := hne g e1.symm
  rw [h2] at h3; cases h3; exact h4 rfl
theorem Cl.build {B e n : Nat} {v : Value} {lc : Array Value} {ba : Bool} {xl xa : Value} {W : World} (h : Cl B e n v lc false ba xl xa W) : Cl B e n v lc true ba (.slice (some ⟨W.heap.size, 0, none⟩) 1 1) xa (W.alloc (.cells lc e)) :=
  ⟨fun hb => let ⟨c, hc⟩ := h.pre hb; ⟨c, hc.alloc _⟩, fun _ _ => ⟨_, rfl, World.alloc_heap_new _ _⟩, fun hb => let ⟨c, hc⟩ := h.post hb; ⟨c, hc.alloc _⟩⟩
theorem Cl.app {B e n : Nat} {v : Value} {lc : Array Value} {bs : Bool} {xl xa x : Value} {W W' : World} {c : List Value} (h : Cl B e n v lc bs false xl xa W) (ho : W'.ownsRow B e 2 x (n + 1) c) : Cl B e n v lc bs true xl x W' :=
  ⟨fun h => (by cases h), fun _ h => (by cases h), fun _ => ⟨c, ho⟩⟩
theorem own_at {W : World} {B e n g : Nat} {v : Value} {c : List Value} (h : W.ownsRow B e 2 v n c) (hg : v.ownBlock = some g) : ∃ c', W.heap[g]? = some (.cells c' e (0, 0)) := by
  rcases h.2 with ⟨h1, _⟩ | ⟨g', cap, cur, h1, _, h2, _⟩
  · rw [h1] at hg; cases hg
  · rw [h1] at hg; cases hg; exact ⟨_, h2⟩
theorem lit_at {W : World} {g e : Nat} {lc : Array Value} (h : W.heap[g]? = some (.cells lc e (0, 0))) : ∀ ad, some (⟨g, 0, none⟩ : Addr) = some ad → ∀ j u, lc.toList[j]? = some u → W.cell? (ad.add j) = some u := by
  intro ad h1 j u hu
  cases h1
  have e1 : (⟨g, 0, none⟩ : Addr).add j = ⟨g, j, none⟩ := by
    unfold Addr.add; by_cases hj : j = 0
    · simp [hj]
    · simp [hj]
  rw [e1, cell_of_row W g j lc e (0, 0) h]
  simpa using hu
def lcF : Array Value := #[.string ⟨#[33]⟩, .slice none 0 0]
def lcE : Array Value := #[.string ⟨#[33]⟩, .int .i64 0]
def lcB : Array Value := #[.int .i64 (-9), .int .i64 0]
structure S3 (B E : Nat) (w : World) (m : Met) (Af Ae Ab : Option Addr) (cf ce cb : Nat) (b3 b4 b8 b9 b13 b14 : Bool) (x81 x82 x86 x87 x91 x92 : Value) (W : World) : Prop where
  away : Away B E w W
  box : W.heap[w.heap.size]? = some (.cells #[.slice Af m.feet.length cf, .slice Ae m.ends.length ce, .slice Ab m.brks.length cb] 27 (0, 0))
  f : Cl B 81 m.feet.length (.slice Af m.feet.length cf) lcF b3 b4 x81 x82 W
  e : Cl B 100 m.ends.length (.slice Ae m.ends.length ce) lcE b8 b9 x86 x87 W
  b : Cl B 98 m.brks.length (.slice Ab m.brks.length cb) lcB b13 b14 x91 x92 W
  pf : b4 = true → ∀ g, x82.ownBlock = some g → g < E ∨ w.heap.size ≤ g
  pe : b9 = true → ∀ g, x87.ownBlock = some g → g < E ∨ w.heap.size ≤ g
  pb : b14 = true → ∀ g, x92.ownBlock = some g → g < E ∨ w.heap.size ≤ g
theorem Sk.s3 {W : World} (h : Sk B E w m Af Ae Ab cf ce cb vs i W) : S3 B E w m Af Ae Ab cf ce cb false false false false false false undef undef undef undef undef undef W.drew :=
  ⟨⟨h.away.os, h.away.tape, h.away.output, h.away.size, h.away.block, h.away.box⟩, h.box, ⟨fun _ => let ⟨c, hc, _⟩ := h.sp.feet; ⟨c, hc.drew⟩, fun h => (by cases h), fun h => (by cases h)⟩,
    ⟨fun _ => let ⟨c, hc⟩ := h.sp.ends; ⟨c, hc.drew⟩, fun h => (by cases h), fun h => (by cases h)⟩, ⟨fun _ => let ⟨c, hc⟩ := h.sp.brks; ⟨c, hc.drew⟩, fun h => (by cases h), fun h => (by cases h)⟩, fun h => (by cases h), fun h => (by cases h), fun h => (by cases h)⟩
variable {b3 b4 b8 b9 b13 b14 : Bool} {x81 x82 x86 x87 x91 x92 : Value}
theorem S3.cells (h : S3 B E w m Af Ae Ab cf ce cb b3 b4 b8 b9 b13 b14 x81 x82 x86 x87 x91 x92 W) : W.cell? ⟨w.heap.size, 0, none⟩ = some (.slice Af m.feet.length cf) ∧ W.cell? ⟨w.heap.size, 1, none⟩ = some (.slice Ae m.ends.length ce) ∧ W.cell? ⟨w.heap.size, 2, none⟩ = some (.slice Ab m.brks.length cb) :=
  ⟨cell_of_row _ _ 0 _ 27 (0, 0) h.box, cell_of_row _ _ 1 _ 27 (0, 0) h.box, cell_of_row _ _ 2 _ 27 (0, 0) h.box⟩

theorem S3.buildf (h : S3 B E w m Af Ae Ab cf ce cb false b4 b8 b9 b13 b14 x81 x82 x86 x87 x91 x92 W) : S3 B E w m Af Ae Ab cf ce cb true b4 b8 b9 b13 b14 (.slice (some ⟨W.heap.size, 0, none⟩) 1 1) x82 x86 x87 x91 x92 (W.alloc (.cells lcF 81)) := by
  have hg := World.grownBy_alloc W (.cells lcF 81) none
  exact ⟨h.away.grown hg (fun k e1 => by cases e1) (fun k e1 => by cases e1), (hg.block _ (lt_of_heap h.box) (by simp)).trans h.box, h.f.build, h.e.kept hg (fun g e1 => by cases e1), h.b.kept hg (fun g e1 => by cases e1), h.pf, h.pe, h.pb⟩
theorem S3.appf (h : S3 B E w m Af Ae Ab cf ce cb b3 false b8 b9 b13 b14 x81 x82 x86 x87 x91 x92 W) (ha : Ahead E m (.slice Af m.feet.length cf) (.slice Ae m.ends.length ce) (.slice Ab m.brks.length cb) vs) (hEw : E ≤ w.heap.size)
    {x : Value} {c1 : List Value} (hg : W.grownBy W' (Value.slice Af m.feet.length cf).ownBlock) (ho : W'.ownsRow B 81 2 x (m.feet.length + 1) c1) (hk : x.ownBlock = (Value.slice Af m.feet.length cf).ownBlock ∨ x.ownBlock = some W.heap.size) : S3 B E w m Af Ae Ab cf ce cb b3 true b8 b9 b13 b14 x81 x x86 x87 x91 x92 W' := by
  obtain ⟨c, hc⟩ := h.f.pre rfl
  have hr : ∀ k, (Value.slice Af m.feet.length cf).ownBlock = some k → B ≤ k ∧ k < E := fun k e1 => ⟨(hc.lt k e1).1, ha.feet k e1⟩
  have hp : ∀ g, x.ownBlock = some g → g < E ∨ w.heap.size ≤ g := fun g e1 => by
    rcases hk with e2 | e2
    · exact .inl (hr g (e2 ▸ e1)).2
    · rw [e2] at e1; cases e1; exact .inr h.away.size
  exact ⟨h.away.grown hg (fun k e1 => by have := hr k e1; omega) (fun k e1 => row_kind hc e1 (by decide)), (hg.block _ (lt_of_heap h.box) (fun e1 => by have := hr _ e1.symm; omega)).trans h.box, h.f.app ho, h.e.kept hg (fun g e1 => let ⟨c2, h2⟩ := own_at hc e1; ⟨c2, 81, h2, by decide⟩), h.b.kept hg (fun g e1 => let ⟨c2, h2⟩ := own_at hc e1; ⟨c2, 81, h2, by decide⟩), fun _ => hp, h.pe, h.pb⟩
theorem S3.builde (h : S3 B E w m Af Ae Ab cf ce cb b3 b4 false b9 b13 b14 x81 x82 x86 x87 x91 x92 W) : S3 B E w m Af Ae Ab cf ce cb b3 b4 true b9 b13 b14 x81 x82 (.slice (some ⟨W.heap.size, 0, none⟩) 1 1) x87 x91 x92 (W.alloc (.cells lcE 100)) := by
  have hg := World.grownBy_alloc W (.cells lcE 100) none
  exact ⟨h.away.grown hg (fun k e1 => by cases e1) (fun k e1 => by cases e1), (hg.block _ (lt_of_heap h.box) (by simp)).trans h.box, h.f.kept hg (fun g e1 => by cases e1), h.e.build, h.b.kept hg (fun g e1 => by cases e1), h.pf, h.pe, h.pb⟩
theorem S3.appe (h : S3 B E w m Af Ae Ab cf ce cb b3 b4 b8 false b13 b14 x81 x82 x86 x87 x91 x92 W) (ha : Ahead E m (.slice Af m.feet.length cf) (.slice Ae m.ends.length ce) (.slice Ab m.brks.length cb) vs) (hEw : E ≤ w.heap.size)
    {x : Value} {c1 : List Value} (hg : W.grownBy W' (Value.slice Ae m.ends.length ce).ownBlock) (ho : W'.ownsRow B 100 2 x (m.ends.length + 1) c1) (hk : x.ownBlock = (Value.slice Ae m.ends.length ce).ownBlock ∨ x.ownBlock = some W.heap.size) : S3 B E w m Af Ae Ab cf ce cb b3 b4 b8 true b13 b14 x81 x82 x86 x x91 x92 W' := by
  obtain ⟨c, hc⟩ := h.e.pre rfl
  have hr : ∀ k, (Value.slice Ae m.ends.length ce).ownBlock = some k → B ≤ k ∧ k < E := fun k e1 => ⟨(hc.lt k e1).1, ha.ends k e1⟩
  have hp : ∀ g, x.ownBlock = some g → g < E ∨ w.heap.size ≤ g := fun g e1 => by
    rcases hk with e2 | e2
    · exact .inl (hr g (e2 ▸ e1)).2
    · rw [e2] at e1; cases e1; exact .inr h.away.size
  exact ⟨h.away.grown hg (fun k e1 => by have := hr k e1; omega) (fun k e1 => row_kind hc e1 (by decide)), (hg.block _ (lt_of_heap h.box) (fun e1 => by have := hr _ e1.symm; omega)).trans h.box, h.f.kept hg (fun g e1 => let ⟨c2, h2⟩ := own_at hc e1; ⟨c2, 100, h2, by decide⟩), h.e.app ho, h.b.kept hg (fun g e1 => let ⟨c2, h2⟩ := own_at hc e1; ⟨c2, 100, h2, by decide⟩), h.pf, fun _ => hp, h.pb⟩
theorem S3.buildb (h : S3 B E w m Af Ae Ab cf ce cb b3 b4 b8 b9 false b14 x81 x82 x86 x87 x91 x92 W) : S3 B E w m Af Ae Ab cf ce cb b3 b4 b8 b9 true b14 x81 x82 x86 x87 (.slice (some ⟨W.heap.size, 0, none⟩) 1 1) x92 (W.alloc (.cells lcB 98)) := by
  have hg := World.grownBy_alloc W (.cells lcB 98) none
  exact ⟨h.away.grown hg (fun k e1 => by cases e1) (fun k e1 => by cases e1), (hg.block _ (lt_of_heap h.box) (by simp)).trans h.box, h.f.kept hg (fun g e1 => by cases e1), h.e.kept hg (fun g e1 => by cases e1), h.b.build, h.pf, h.pe, h.pb⟩
theorem S3.appb (h : S3 B E w m Af Ae Ab cf ce cb b3 b4 b8 b9 b13 false x81 x82 x86 x87 x91 x92 W) (ha : Ahead E m (.slice Af m.feet.length cf) (.slice Ae m.ends.length ce) (.slice Ab m.brks.length cb) vs) (hEw : E ≤ w.heap.size)
    {x : Value} {c1 : List Value} (hg : W.grownBy W' (Value.slice Ab m.brks.length cb).ownBlock) (ho : W'.ownsRow B 98 2 x (m.brks.length + 1) c1) (hk : x.ownBlock = (Value.slice Ab m.brks.length cb).ownBlock ∨ x.ownBlock = some W.heap.size) : S3 B E w m Af Ae Ab cf ce cb b3 b4 b8 b9 b13 true x81 x82 x86 x87 x91 x W' := by
  obtain ⟨c, hc⟩ := h.b.pre rfl
  have hr : ∀ k, (Value.slice Ab m.brks.length cb).ownBlock = some k → B ≤ k ∧ k < E := fun k e1 => ⟨(hc.lt k e1).1, ha.brks k e1⟩
  have hp : ∀ g, x.ownBlock = some g → g < E ∨ w.heap.size ≤ g := fun g e1 => by
    rcases hk with e2 | e2
    · exact .inl (hr g (e2 ▸ e1)).2
    · rw [e2] at e1; cases e1; exact .inr h.away.size
  exact ⟨h.away.grown hg (fun k e1 => by have := hr k e1; omega) (fun k e1 => row_kind hc e1 (by decide)), (hg.block _ (lt_of_heap h.box) (fun e1 => by have := hr _ e1.symm; omega)).trans h.box, h.f.kept hg (fun g e1 => let ⟨c2, h2⟩ := own_at hc e1; ⟨c2, 98, h2, by decide⟩), h.e.kept hg (fun g e1 => let ⟨c2, h2⟩ := own_at hc e1; ⟨c2, 98, h2, by decide⟩), h.b.app ho, h.pf, h.pe, fun _ => hp⟩
end Go.Proofs.YtkfkkoefpfmjkaaDoor

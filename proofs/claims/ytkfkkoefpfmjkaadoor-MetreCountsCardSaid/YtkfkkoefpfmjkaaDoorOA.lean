import Derived.Test.YtkfkkoefpfmjkaaDoorVA
import Derived.WalkKit
import Derived.ProofKit
import Derived.Lib.SmallJoins
import Derived.Deep.Slices
import Derived.Deep.Fields
import Derived.DataReads
import Derived.SizedLaws
import Derived.Test.YtkfkkoefpfmjkaaDoorRows
import Derived.LaidMore
import Derived.Stop.LaidErr
import Derived.Stop.Joined
import Derived.Lib.LaidTab
import Derived.Carry
namespace Go.Proofs.YtkfkkoefpfmjkaaDoor
set_option linter.unusedVariables false
set_option linter.unusedSimpArgs false
open Go Go.RowKit Go.WideShapes Go.ChangeShapes Go.Deep

/- Arguments opened: a metre. -/
theorem exists_list {α : Type} [Inhabited α] (Q : Nat → α → Prop) (n : Nat) (h : ∀ i, i < n → ∃ x, Q i x) : ∃ l : List α, l.length = n ∧ ∀ i, i < n → Q i (l.getD i default) := by
  induction n with
  | zero => exact ⟨[], rfl, fun i hi => by omega⟩
  | succ n ih =>
    obtain ⟨l, hl, hq⟩ := ih fun i hi => h i (by omega)
    obtain ⟨x, hx⟩ := h n (by omega)
    refine ⟨l ++ [x], by simp [hl], fun i hi => ?_⟩
    by_cases e : i < n
    · rw [List.getD_eq_getElem?_getD, List.getElem?_append_left (by omega), ← List.getD_eq_getElem?_getD]; exact hq i e
    · obtain rfl : i = n := by omega
      rw [List.getD_eq_getElem?_getD, List.getElem?_append_right (by omega)]; simpa [hl] using hx
theorem mem_getD {α : Type} [Inhabited α] {l : List α} {x : α} (h : x ∈ l) : ∃ k, k < l.length ∧ x = l.getD k default := by
  obtain ⟨k, hk, e⟩ := List.mem_iff_getElem.1 h
  exact ⟨k, hk, by rw [← e]; simp [List.getD_eq_getElem?_getD, hk]⟩
theorem field_of {fs : Array Field} {j a b : Nat} (h : (fs[j]?).map (fun f => (f.type, f.offset)) = some (a, b)) : ∃ f, fs[j]? = some f ∧ f.type = a ∧ f.offset = b := by
  cases hf : fs[j]? with
  | none => rw [hf] at h; cases h
  | some f => rw [hf] at h; simp at h; exact ⟨f, rfl, h.1, h.2⟩
theorem list2 {α : Type} {l : List α} (h : l.length = 2) : ∃ a b, l = [a, b] := by
  match l, h with
  | [a, b], _ => exact ⟨a, b, rfl⟩
theorem list3 {α : Type} {l : List α} (h : l.length = 3) : ∃ a b c, l = [a, b, c] := by
  match l, h with
  | [a, b, c], _ => exact ⟨a, b, c, rfl⟩

section
variable {H : Type} {enc : TypeId × Value → H} {P : Program} {w : World} {base : Nat} {spare : Nat → Bool} {held : Bool}
/-- the data are within the reach -/
def Within (P : Program) (t : TypeId) (d : DataW H) : Prop := ∀ n ∈ d.weights P t, n ≤ reachBytes
theorem weightsAll_mem {e : TypeId} : ∀ {l : List (DataW H)} {d : DataW H}, d ∈ l → ∀ n ∈ d.weights P e, n ∈ DataW.weightsAll P e l
  | d0 :: l, d, hd, n, hn => by
    simp only [DataW.weightsAll, List.mem_append]
    rcases List.mem_cons.1 hd with rfl | h
    · exact .inl hn
    · exact .inr (weightsAll_mem h n hn)
theorem Within.slice {t e : TypeId} {es sp : List (DataW H)} (hu : P.underlying t = some (.slice e)) (h : Within P t (.slice es sp)) :
    (es.length + sp.length) * P.bytesOf e ≤ reachBytes ∧ ∀ d ∈ es, Within P e d :=
  ⟨h _ (by simp [DataW.weights, hu]), fun d hd n hn => h n (by
    simp only [DataW.weights, hu, List.mem_cons, List.mem_append]
    exact .inr (.inl (weightsAll_mem hd n hn)))⟩
theorem struct_within {fs : Array Field} {t : TypeId} {fuel : Nat} {cs : List Value} {x : DataW H × List MemPlace} (ht : P.underlying t = some (.struct fs)) (h : DataW.trod enc P w base spare held fuel t cs = some x) (hw : Within P t x.1) :
    cs.length = P.cellsOf t ∧ ∃ n, ∀ (j : Nat) (f : Field), fs[j]? = some f → ∃ y, DataW.trod enc P w base spare held n f.type ((cs.drop f.offset).take (P.cellsOf f.type)) = some y ∧ Within P f.type y.1 := by
  obtain ⟨xs, n, _, hx, h1, hlen, hg⟩ := DataW.trod_struct ht h
  refine ⟨h1, n, fun j f hj => ?_⟩
  have hj' : j < xs.length := by rw [hlen]; exact (Array.getElem?_eq_some_iff.1 hj).1
  refine ⟨_, (hg j f hj).trans (List.getElem?_eq_getElem hj'), fun k hk => hw k ?_⟩
  rw [hx]
  simp only [DataW.weights, ht]
  exact DataW.weights_mem_each (j := j) (by simp [hj]) (by simp [hj']) k hk

/-- a slice of whatever elements -/
theorem slice_within {t e : TypeId} {fuel : Nat} {v : Value} {x : DataW H × List MemPlace} (ht : P.underlying t = some (.slice e)) (h : DataW.trod enc P w base spare held fuel t [v] = some x) (hw : Within P t x.1) :
    v = .slice none 0 0 ∨ ∃ a len cap n, v = .slice (some a) len cap ∧ len ≤ cap ∧ cap ≤ maxLen ∧ len * P.bytesOf e ≤ reachBytes ∧
      ∀ i, i < len → ∃ cs y, w.cells? base (a.add (i * P.cellsOf e)) (P.cellsOf e) = some cs ∧ DataW.trod enc P w base spare held n e cs = some y ∧ Within P e y.1 := by
  rcases open_slice ht h with ⟨hc, _⟩ | ⟨a, len, cap, m, n, D, Pl, hc, hb, hl, hm, hmm, hx, hi⟩
  · simp only [List.cons.injEq, and_true] at hc
    exact .inl hc
  · simp only [List.cons.injEq, and_true] at hc
    have hlm : len ≤ m := by rw [hmm]; split <;> omega
    rw [hx] at hw
    obtain ⟨w1, w2⟩ := Within.slice ht hw
    refine .inr ⟨a, len, cap, n, hc, hl, hm, Nat.le_trans (Nat.mul_le_mul_right _ (by simp)) w1, fun i hil => ?_⟩
    obtain ⟨cs', h1, h2⟩ := hi i (by omega)
    exact ⟨cs', _, h1, h2, w2 _ (List.mem_map.2 ⟨i, List.mem_range.2 hil, rfl⟩)⟩
theorem reach_small {n k : Nat} (h : n * k ≤ reachBytes) (hk : 1 ≤ k) : n ≤ 4611686018427387904 := by
  unfold reachBytes at h
  have := Nat.le_trans (Nat.le_mul_of_pos_right n hk) h
  omega
theorem add_row (b off i c j : Nat) : ((⟨b, off, none⟩ : Addr).add (i * c)).add j = ⟨b, off + i * c + j, none⟩ := by
  unfold Addr.add
  by_cases h1 : i * c = 0 <;> by_cases h2 : j = 0 <;> simp [h1, h2]

theorem fields27 : Tryd.prog.underlying 27 = some (.struct (Tryd.prog.fieldsOf 27)) := by kernel_rfl
theorem fields81 : Tryd.prog.underlying 81 = some (.struct (Tryd.prog.fieldsOf 81)) := by kernel_rfl
theorem fields98 : Tryd.prog.underlying 98 = some (.struct (Tryd.prog.fieldsOf 98)) := by kernel_rfl
theorem fields100 : Tryd.prog.underlying 100 = some (.struct (Tryd.prog.fieldsOf 100)) := by kernel_rfl
theorem cells27 : Tryd.prog.cellsOf 27 = 3 := by kernel_rfl
theorem cells81 : Tryd.prog.cellsOf 81 = 2 := by kernel_rfl
theorem cells98 : Tryd.prog.cellsOf 98 = 2 := by kernel_rfl
theorem cells100 : Tryd.prog.cellsOf 100 = 2 := by kernel_rfl
theorem cells3 : Tryd.prog.cellsOf 3 = 1 := by kernel_rfl
theorem cells9 : Tryd.prog.cellsOf 9 = 1 := by kernel_rfl
theorem cells23 : Tryd.prog.cellsOf 23 = 1 := by kernel_rfl
theorem cells24 : Tryd.prog.cellsOf 24 = 1 := by kernel_rfl
theorem cells25 : Tryd.prog.cellsOf 25 = 1 := by kernel_rfl
theorem bytesOf81 : Tryd.prog.bytesOf 81 = 40 := by kernel_rfl
theorem bytesOf98 : Tryd.prog.bytesOf 98 = 16 := by kernel_rfl
theorem bytesOf100 : Tryd.prog.bytesOf 100 = 24 := by kernel_rfl
theorem f27_0 : ((Tryd.prog.fieldsOf 27)[0]?).map (fun f => (f.type, f.offset)) = some (23, 0) := by kernel_rfl
theorem f27_1 : ((Tryd.prog.fieldsOf 27)[1]?).map (fun f => (f.type, f.offset)) = some (24, 1) := by kernel_rfl
theorem f27_2 : ((Tryd.prog.fieldsOf 27)[2]?).map (fun f => (f.type, f.offset)) = some (25, 2) := by kernel_rfl
theorem f81_0 : ((Tryd.prog.fieldsOf 81)[0]?).map (fun f => (f.type, f.offset)) = some (9, 0) := by kernel_rfl
theorem f81_1 : ((Tryd.prog.fieldsOf 81)[1]?).map (fun f => (f.type, f.offset)) = some (24, 1) := by kernel_rfl
theorem f98_0 : ((Tryd.prog.fieldsOf 98)[0]?).map (fun f => (f.type, f.offset)) = some (3, 0) := by kernel_rfl
theorem f98_1 : ((Tryd.prog.fieldsOf 98)[1]?).map (fun f => (f.type, f.offset)) = some (3, 1) := by kernel_rfl
theorem f100_0 : ((Tryd.prog.fieldsOf 100)[0]?).map (fun f => (f.type, f.offset)) = some (9, 0) := by kernel_rfl
theorem f100_1 : ((Tryd.prog.fieldsOf 100)[1]?).map (fun f => (f.type, f.offset)) = some (3, 1) := by kernel_rfl

theorem way_cells {fuel : Nat} {cs : List Value} {x : DataW H × List MemPlace} (h : DataW.trod enc Tryd.prog w base spare held fuel 100 cs = some x) (hw : Within Tryd.prog 100 x.1) :
    ∃ v : Way, cs = [.string v.1, .int .i64 v.2] ∧ v.1.size ≤ 9223372036854775807 := by
  obtain ⟨hl, n, hf⟩ := struct_within fields100 h hw
  rw [cells100] at hl
  obtain ⟨f, h1, h2, h3⟩ := field_of f100_0
  obtain ⟨y, hy, _⟩ := hf 0 f h1
  rw [h2, h3, cells9] at hy
  obtain ⟨s, es, _, hs⟩ := DataW.trod_string Tryd.underlying9 hy
  obtain ⟨g, g1, g2, g3⟩ := field_of f100_1
  obtain ⟨z, hz, _⟩ := hf 1 g g1
  rw [g2, g3, cells3] at hz
  obtain ⟨c, ec, _⟩ := DataW.trod_int Tryd.underlying3 hz
  clear hf h
  obtain ⟨c0, c1, rfl⟩ := list2 hl
  simp at es ec
  exact ⟨(s, c), by rw [es, ec], by unfold maxLen at hs; exact hs⟩
theorem brk_cells {fuel : Nat} {cs : List Value} {x : DataW H × List MemPlace} (h : DataW.trod enc Tryd.prog w base spare held fuel 98 cs = some x) (hw : Within Tryd.prog 98 x.1) :
    ∃ v : Int × Int, cs = [.int .i64 v.1, .int .i64 v.2] := by
  obtain ⟨hl, n, hf⟩ := struct_within fields98 h hw
  rw [cells98] at hl
  obtain ⟨f, h1, h2, h3⟩ := field_of f98_0
  obtain ⟨y, hy, _⟩ := hf 0 f h1
  rw [h2, h3, cells3] at hy
  obtain ⟨s, es, _⟩ := DataW.trod_int Tryd.underlying3 hy
  obtain ⟨g, g1, g2, g3⟩ := field_of f98_1
  obtain ⟨z, hz, _⟩ := hf 1 g g1
  rw [g2, g3, cells3] at hz
  obtain ⟨c, ec, _⟩ := DataW.trod_int Tryd.underlying3 hz
  clear hf h
  obtain ⟨c0, c1, rfl⟩ := list2 hl
  simp at es ec
  exact ⟨(s, c), by rw [es, ec]⟩

theorem ways_open {fuel : Nat} {v : Value} {x : DataW H × List MemPlace} (h : DataW.trod enc Tryd.prog w base spare held fuel 24 [v] = some x) (hw : Within Tryd.prog 24 x.1) :
    ∃ A c, ∃ l : List Way, v = .slice A l.length c ∧ l.length ≤ c ∧ l.length * 24 ≤ reachBytes ∧ (∀ u ∈ l, u.1.size ≤ 9223372036854775807) ∧ IsWays w w.heap.size A l := by
  rcases slice_within Tryd.underlying24 h hw with rfl | ⟨a, len, cap, n, rfl, hl, hm, hr, hi⟩
  · exact ⟨none, 0, [], rfl, Nat.le_refl _, by simp, by simp, fun h => by simp at h⟩
  · rw [bytesOf100] at hr
    obtain ⟨l, hll, hq⟩ := exists_list (fun i (u : Way) => (w.cell? ((a.add (i * 2)).add 0) = some (.string u.1) ∧ w.cell? ((a.add (i * 2)).add 1) = some (.int .i64 u.2)) ∧ u.1.size ≤ 9223372036854775807) len fun i hil => by
      obtain ⟨cs', y, h1, h2, h3⟩ := hi i (by omega)
      rw [cells100] at h1
      obtain ⟨_, hcl, hat⟩ := World.cells?_some h1
      obtain ⟨u, rfl, hu⟩ := way_cells h2 h3
      exact ⟨u, ⟨hat 0 (by omega), hat 1 (by omega)⟩, hu⟩
    refine ⟨some a, cap, l, by rw [hll], by omega, by rw [hll]; exact hr, fun u hu => ?_, fun hpos => ?_⟩
    · obtain ⟨k, hk, rfl⟩ := mem_getD hu
      exact (hq k (by omega)).2
    · have h0 := (hq 0 (by omega)).1.1
      obtain ⟨b, off, spot⟩ := a
      have hspot : spot = none := by simpa [Addr.add] using World.cell?_spot h0
      subst hspot
      refine ⟨b, off, rfl, ?_, fun k hk => ?_⟩
      · have := block_lt_of_cell h0
        simpa [Addr.add] using this
      · obtain ⟨e1, e2⟩ := (hq k (by omega)).1
        rw [add_row] at e1 e2
        exact ⟨e1, e2⟩
theorem brks_open {fuel : Nat} {v : Value} {x : DataW H × List MemPlace} (h : DataW.trod enc Tryd.prog w base spare held fuel 25 [v] = some x) (hw : Within Tryd.prog 25 x.1) :
    ∃ A c, ∃ l : List (Int × Int), v = .slice A l.length c ∧ l.length ≤ c ∧ l.length * 16 ≤ reachBytes ∧ IsBrks w w.heap.size A l := by
  rcases slice_within Tryd.underlying25 h hw with rfl | ⟨a, len, cap, n, rfl, hl, hm, hr, hi⟩
  · exact ⟨none, 0, [], rfl, Nat.le_refl _, by simp, fun h => by simp at h⟩
  · rw [bytesOf98] at hr
    obtain ⟨l, hll, hq⟩ := exists_list (fun i (u : Int × Int) => w.cell? ((a.add (i * 2)).add 0) = some (.int .i64 u.1) ∧ w.cell? ((a.add (i * 2)).add 1) = some (.int .i64 u.2)) len fun i hil => by
      obtain ⟨cs', y, h1, h2, h3⟩ := hi i (by omega)
      rw [cells98] at h1
      obtain ⟨_, hcl, hat⟩ := World.cells?_some h1
      obtain ⟨u, rfl⟩ := brk_cells h2 h3
      exact ⟨u, hat 0 (by omega), hat 1 (by omega)⟩
    refine ⟨some a, cap, l, by rw [hll], by omega, by rw [hll]; exact hr, fun hpos => ?_⟩
    have h0 := (hq 0 (by omega)).1
    obtain ⟨b, off, spot⟩ := a
    have hspot : spot = none := by simpa [Addr.add] using World.cell?_spot h0
    subst hspot
    refine ⟨b, off, rfl, ?_, fun k hk => ?_⟩
    · have := block_lt_of_cell h0
      simpa [Addr.add] using this
    · obtain ⟨e1, e2⟩ := hq k (by omega)
      rw [add_row] at e1 e2
      exact ⟨e1, e2⟩
/-- a foot, its cells -/
def FtCells (w : World) (f : Ft) (v0 v1 : Value) : Prop := v0 = .string f.own ∧ ∃ A c, v1 = .slice A f.ways.length c ∧ f.ways.length ≤ c ∧ IsWays w w.heap.size A f.ways
def FtBd (f : Ft) : Prop := f.ways.length * 24 ≤ reachBytes ∧ f.own.size ≤ 9223372036854775807 ∧ ∀ v ∈ f.ways, v.1.size ≤ 9223372036854775807
theorem foot_cells {fuel : Nat} {cs : List Value} {x : DataW H × List MemPlace} (h : DataW.trod enc Tryd.prog w base spare held fuel 81 cs = some x) (hw : Within Tryd.prog 81 x.1) :
    ∃ (f : Ft) (v0 v1 : Value), cs = [v0, v1] ∧ FtCells w f v0 v1 ∧ FtBd f := by
  obtain ⟨hl, n, hf⟩ := struct_within fields81 h hw
  rw [cells81] at hl
  obtain ⟨f, h1, h2, h3⟩ := field_of f81_0
  obtain ⟨y, hy, _⟩ := hf 0 f h1
  rw [h2, h3, cells9] at hy
  obtain ⟨s, es, _, hs⟩ := DataW.trod_string Tryd.underlying9 hy
  obtain ⟨g, g1, g2, g3⟩ := field_of f81_1
  obtain ⟨z, hz, hzw⟩ := hf 1 g g1
  rw [g2, g3, cells24] at hz
  rw [g2] at hzw
  clear hf h
  obtain ⟨c0, c1, rfl⟩ := list2 hl
  simp at es hz
  obtain ⟨A, c, l, e1, e2, e3, e4, e5⟩ := ways_open hz hzw
  exact ⟨⟨s, l⟩, c0, c1, rfl, ⟨es, A, c, e1, e2, e5⟩, e3, by unfold maxLen at hs; exact hs, e4⟩
theorem feet_open {fuel : Nat} {v : Value} {x : DataW H × List MemPlace} (h : DataW.trod enc Tryd.prog w base spare held fuel 23 [v] = some x) (hw : Within Tryd.prog 23 x.1) :
    ∃ A c, ∃ l : List Ft, v = .slice A l.length c ∧ l.length ≤ c ∧ l.length * 40 ≤ reachBytes ∧ (∀ f ∈ l, FtBd f) ∧ IsFeet w w.heap.size A l := by
  rcases slice_within Tryd.underlying23 h hw with rfl | ⟨a, len, cap, n, rfl, hl, hm, hr, hi⟩
  · exact ⟨none, 0, [], rfl, Nat.le_refl _, by simp, by simp, fun h => by simp at h⟩
  · rw [bytesOf81] at hr
    obtain ⟨l, hll, hq⟩ := exists_list (fun i (u : Ft) => (∃ v0 v1, w.cell? ((a.add (i * 2)).add 0) = some v0 ∧ w.cell? ((a.add (i * 2)).add 1) = some v1 ∧ FtCells w u v0 v1) ∧ FtBd u) len fun i hil => by
      obtain ⟨cs', y, h1, h2, h3⟩ := hi i (by omega)
      rw [cells81] at h1
      obtain ⟨_, hcl, hat⟩ := World.cells?_some h1
      obtain ⟨u, v0, v1, rfl, hu, hbd⟩ := foot_cells h2 h3
      exact ⟨u, ⟨v0, v1, hat 0 (by omega), hat 1 (by omega), hu⟩, hbd⟩
    refine ⟨some a, cap, l, by rw [hll], by omega, by rw [hll]; exact hr, fun u hu => ?_, fun hpos => ?_⟩
    · obtain ⟨k, hk, rfl⟩ := mem_getD hu
      exact (hq k (by omega)).2
    · obtain ⟨v0, v1, h0, _⟩ := (hq 0 (by omega)).1
      obtain ⟨b, off, spot⟩ := a
      have hspot : spot = none := by simpa [Addr.add] using World.cell?_spot h0
      subst hspot
      refine ⟨b, off, rfl, ?_, fun k hk => ?_⟩
      · have := block_lt_of_cell h0
        simpa [Addr.add] using this
      · obtain ⟨v0, v1, e1, e2, ev, A', c', ev1, hc', hw'⟩ := (hq k (by omega)).1
        rw [add_row] at e1 e2
        subst ev; subst ev1
        exact ⟨e1, A', c', e2, hc', hw'⟩
/-- what a metre takes is within the reach -/
structure MetReach (m : Met) : Prop where
  feet : m.feet.length * 40 ≤ 140737488351232
  ways : ∀ f ∈ m.feet, f.ways.length * 24 ≤ 140737488351232
  ends : m.ends.length * 24 ≤ 140737488351232
  brks : m.brks.length * 16 ≤ 140737488351232
theorem reach_eq {n : Nat} (h : n ≤ reachBytes) : n ≤ 140737488351232 := by unfold reachBytes at h; exact h
/-- a metre -/
theorem met_cells {fuel : Nat} {cs : List Value} {x : DataW H × List MemPlace} (h : DataW.trod enc Tryd.prog w base spare held fuel 27 cs = some x) (hw : Within Tryd.prog 27 x.1) :
    ∃ Af Ae Ab cf ce cb m, cs = [.slice Af (Met.feet m).length cf, .slice Ae m.ends.length ce, .slice Ab m.brks.length cb] ∧ IsMet w w.heap.size Af Ae Ab cf ce cb m ∧ MetReach m := by
  obtain ⟨hl, n, hf⟩ := struct_within fields27 h hw
  rw [cells27] at hl
  obtain ⟨f, h1, h2, h3⟩ := field_of f27_0
  obtain ⟨y0, hy0, hw0⟩ := hf 0 f h1
  rw [h2, h3, cells23] at hy0
  rw [h2] at hw0
  obtain ⟨g, g1, g2, g3⟩ := field_of f27_1
  obtain ⟨y1, hy1, hw1⟩ := hf 1 g g1
  rw [g2, g3, cells24] at hy1
  rw [g2] at hw1
  obtain ⟨k, k1, k2, k3⟩ := field_of f27_2
  obtain ⟨y2, hy2, hw2⟩ := hf 2 k k1
  rw [k2, k3, cells25] at hy2
  rw [k2] at hw2
  clear hf h
  obtain ⟨c0, c1, c2, rfl⟩ := list3 hl
  simp at hy0 hy1 hy2
  obtain ⟨Af, cf, lf, ef, hcf, hbf, hff, hIf⟩ := feet_open hy0 hw0
  obtain ⟨Ae, ce, le, ee, hce, hbe, hee, hIe⟩ := ways_open hy1 hw1
  obtain ⟨Ab, cb, lb, eb, hcb, hbb, hIb⟩ := brks_open hy2 hw2
  exact ⟨Af, Ae, Ab, cf, ce, cb, ⟨lf, le, lb⟩, by rw [ef, ee, eb], ⟨hIf, hIe, hIb, hcf, hce, hcb, reach_small hbf (by omega), fun f hf => ⟨reach_small (hff f hf).1 (by omega), (hff f hf).2⟩, ⟨reach_small hbe (by omega), hee⟩, reach_small hbb (by omega)⟩, reach_eq hbf, fun f hf => reach_eq (hff f hf).1, reach_eq hbe, reach_eq hbb⟩
theorem agg_open {P : Program} {fs : Array Field} {r : Go.Reach} {b0 : Nat} {t : TypeId} {v : Value} {d : DataW H} {p : List MemPlace} (ht : P.underlying t = some (.struct fs)) (hv : Value.okWide P w r b0 t v) (h : DataW.Trod enc P w base spare held t v d p) :
    ∃ (l : List Value) (fuel : Nat), v = .agg l.toArray ∧ DataW.trod enc P w base spare held fuel t l = some (d, p) := by
  obtain ⟨cs, rfl, _⟩ := okWide_struct ht hv
  obtain ⟨fuel, hf⟩ := h
  exact ⟨cs.toList, fuel, by simp, hf⟩
set_option maxRecDepth 100000 in
theorem met_open2 {r : Go.Reach} {b0 : Nat} {v : Value} {d : DataW H} {p : List MemPlace} (hv : Value.okWide Tryd.prog w r b0 27 v) (h : DataW.Trod enc Tryd.prog w base spare held 27 v d p) (hw : Within Tryd.prog 27 d) :
    ∃ Af Ae Ab cf ce cb m, v = .agg #[.slice Af (Met.feet m).length cf, .slice Ae m.ends.length ce, .slice Ab m.brks.length cb] ∧ IsMet w w.heap.size Af Ae Ab cf ce cb m ∧ MetReach m := by
  have ho := agg_open fields27 hv h
  clear hv h
  obtain ⟨l, fuel, hv, hf⟩ := ho
  have ht := met_cells hf hw
  clear hf hw
  obtain ⟨Af, Ae, Ab, cf, ce, cb, m, e, hm⟩ := ht
  rw [e] at hv
  exact ⟨Af, Ae, Ab, cf, ce, cb, m, hv, hm⟩
set_option maxRecDepth 100000 in
theorem met_open {r : Go.Reach} {b0 : Nat} {v : Value} {d : DataW H} {p : List MemPlace} (hv : Value.okWide Tryd.prog w r b0 27 v) (h : DataW.Trod enc Tryd.prog w base spare held 27 v d p) (hw : Within Tryd.prog 27 d) :
    ∃ Af Ae Ab cf ce cb m, v = .agg #[.slice Af (Met.feet m).length cf, .slice Ae m.ends.length ce, .slice Ab m.brks.length cb] ∧ IsMet w w.heap.size Af Ae Ab cf ce cb m := by
  have ht := met_open2 hv h hw
  clear hv h hw
  obtain ⟨Af, Ae, Ab, cf, ce, cb, m, e, hm, _⟩ := ht
  exact ⟨Af, Ae, Ab, cf, ce, cb, m, e, hm⟩
end
end Go.Proofs.YtkfkkoefpfmjkaaDoor
namespace Go.Proofs.YtkfkkoefpfmjkaaDoor
set_option linter.unusedVariables false
set_option linter.unusedSimpArgs false
open Go Go.RowKit Go.WideShapes Go.ChangeShapes Go.ChangeAt

/- The laid variables; the last step of a law's row. -/
theorem own : ownKnob Tryd.prog.godebug = none := by kernel_rfl
def laid5 : List (String × DataW Unit) := Rows.metreReadsRow.laid
theorem gSyntax : Tryd.prog.globalNamed "strconv.ErrSyntax" = some 1 := by kernel_rfl
theorem gRange : Tryd.prog.globalNamed "strconv.ErrRange" = some 2 := by kernel_rfl
theorem gTab : Tryd.prog.globalNamed "math/bits.deBruijn64tab" = some 5 := by kernel_rfl
theorem tSyntax : (Tryd.prog.globals[1]?).map (·.type) = some 136 := by kernel_rfl
theorem tRange : (Tryd.prog.globals[2]?).map (·.type) = some 136 := by kernel_rfl
theorem tPow : (Tryd.prog.globals[3]?).map (·.type) = some 210 := by kernel_rfl
theorem star : "*" ++ "errors.errorString" = "*errors.errorString" := by decide
theorem row215 (u : TypeId) (h : Tryd.prog.typeName? 3 u = some "*errors.errorString") : u = 215 :=
  typeName_ptr_named (nm := "errors.errorString") (by rw [star]; kernel_rfl) (by kernel_rfl) (by decide) u (by rw [star]; exact h)
theorem cells217 : Tryd.prog.cellsOf 217 = 1 := by kernel_rfl
theorem cells190 : Tryd.prog.cellsOf 190 = 1 := by kernel_rfl
theorem cells210 : Tryd.prog.cellsOf 210 = 20 := by kernel_rfl
theorem pow_data : (Rows.laid_internal_strconv_uint64pow10 : DataW Unit) = Lib.tabData .u64 Lib.pow10Tab := by rfl

theorem door_met (os : Os) (args : Array Value) : laidMetH Tryd.prog laid5 ((World.doorLaid Tryd.prog 400 os).forCall (fun _ _ => 0) ⟨#[], args, []⟩).memory :=
  laidMetH_of_parts3 (fuel := 8) (laidMet_of_run' 8 (by kernel_rfl) (by kernel_rfl)) (by kernel_rfl) (by kernel_rfl)

theorem vars_of_laid {W : World} (h : laidMetH Tryd.prog laid5 W) : Vars W := by
  rw [MakeChecks.laidMetH_plain _ _ _ (by kernel_rfl)] at h
  have h1 := h.tail
  have h2 := h1.tail
  have h3 := h2.tail
  have h4 := h3.tail
  obtain ⟨a2, s2, hv2, _, _, _⟩ := laid_sentinel h3 gRange tRange Tryd.underlying136 row215 Tryd.underlying215 Tryd.underlying217 rfl rfl Tryd.underlying9 cells217 cells9
  obtain ⟨a1, s1, hv1, _, _, _⟩ := laid_sentinel h4 gSyntax tSyntax Tryd.underlying136 row215 Tryd.underlying215 Tryd.underlying217 rfl rfl Tryd.underlying9 cells217 cells9
  rw [show (Rows.laid_internal_strconv_uint64pow10 : DataW Unit) = Lib.tabData .u64 Lib.pow10Tab from pow_data] at h2
  have h5 := Lib.tabIs_of_head globalPow tPow Tryd.underlying210 Tryd.underlying190 cells190 cells210 h2
  have h6 : 6 ≤ W.heap.size := by
    obtain ⟨ps, ⟨g', t', cs, fuel, p, q, hg', ht', hvar, hd, _, _⟩, _⟩ := h1
    obtain rfl := Option.some.inj (gTab.symm.trans hg')
    unfold World.var? at hvar
    rw [gTab] at hvar
    simp only [Option.bind_some] at hvar
    rcases Nat.lt_or_ge 5 W.heap.size with h' | h'
    · exact h'
    · simp [Array.getElem?_eq_none h'] at hvar
  exact ⟨⟨_, _, by simpa using World.var?_cell gSyntax hv1 0⟩, ⟨_, _, by simpa using World.var?_cell gRange hv2 0⟩, h5, h6⟩

section
variable {H : Type} {enc : TypeId × Value → H} {P : Program}
theorem trodAll_stays (hl : laidOutB P = true) {W W' : World} (hb : Below W.heap.size W W') : ∀ {ts : List TypeId} {vs : List Value} {ds : List (DataW H)} {ps : List MemPlace},
    (∀ t ∈ ts, P.readableRec t = true ∧ t < P.types.size) → (∀ x ∈ ps, x.block < W.heap.size) → DataW.TrodAll enc P W 0 (fun _ => true) true ts vs ds ps →
    DataW.TrodAll enc P W' 0 (fun b => decide (b < W.heap.size)) true ts vs ds ps
  | [], [], [], _, _, _, h => h
  | [], [], _ :: _, _, _, _, h => h.elim
  | [], _ :: _, _, _, _, _, h => h.elim
  | _ :: _, [], _, _, _, _, h => h.elim
  | _ :: _, _ :: _, [], _, _, _, h => h.elim
  | t :: ts, v :: vs, d :: ds, ps, hr, hlt, ⟨p, q, h1, h2, e⟩ => by
    subst e
    have ht := hr t List.mem_cons_self
    exact ⟨p, q, Below.trod hl ht.1 ht.2 h1 hb fun x hx => hlt x (List.mem_append_left _ hx),
      trodAll_stays hl hb (fun t' h' => hr t' (List.mem_cons_of_mem _ h')) (fun x hx => hlt x (List.mem_append_right _ hx)) h2, rfl⟩
/-- THE LAST STEP OF A LAW's ROW: it has returned true; nothing that existed has changed. -/
theorem law_post {f : Func} {s : ChangeSpec} {apart : Bool} {W W' : World} {args : Array Value} {ds gs : List (DataW H)} {before : List MemPlace} {tb : TypeId}
    (hl : laidOutB P = true) (hr : ∀ t ∈ f.params.toList, P.readableRec t = true ∧ t < P.types.size) (hres : f.resultTypes = #[tb]) (hbool : P.underlying tb = some .bool) (hvars : s.vars = [])
    (hspec : s.fn H (ds ++ gs) = { results := [.lit (.bool true)], args := ds })
    (hW : DataW.Whole enc P f.params.toList s.vars apart W args.toList ds gs before) (hb : Below W.heap.size W W') :
    s.post enc P f apart true false false W args (.bool true) W' := by
  have hlt : ∀ p ∈ before, p.block < W.heap.size := fun p hp => hW.lt p hp
  have hW' := hW
  obtain ⟨p, q, hA, hV, rfl, hfz, hnd⟩ := hW
  rw [hvars] at hV
  obtain ⟨rfl, rfl⟩ := trodVars_none hV
  refine ⟨ds, [], p ++ [], [], p, [], hW', ?_, ?_, ?_, hb.frame _, fun h => by cases h⟩
  · rw [hspec, hres]
    exact trodAll_mk1 (shut_bool hbool true)
  · rw [hspec]
    exact trodAll_stays hl hb hr (fun x hx => hlt x (List.mem_append_left _ hx)) hA
  · rw [hspec, hvars]
    rfl
end
theorem within_of {t : TypeId} {H : Type} {ts : List TypeId} {ds : List (DataW H)} {d : DataW H} (h : (DataW.weightsEach Tryd.prog ts ds).all (· ≤ reachBytes) = true) (j : Nat) (ht : ts[j]? = some t) (hd : ds[j]? = some d) : Within Tryd.prog t d :=
  fun n hn => by simpa using List.all_eq_true.1 h n (DataW.weights_mem_each ht hd n hn)
theorem read27 : Tryd.prog.readableRec 27 = true ∧ 27 < Tryd.prog.types.size := ⟨by kernel_rfl, of_decide_eq_true (by kernel_rfl)⟩
theorem read9 : Tryd.prog.readableRec 9 = true ∧ 9 < Tryd.prog.types.size := ⟨by kernel_rfl, of_decide_eq_true (by kernel_rfl)⟩
end Go.Proofs.YtkfkkoefpfmjkaaDoor

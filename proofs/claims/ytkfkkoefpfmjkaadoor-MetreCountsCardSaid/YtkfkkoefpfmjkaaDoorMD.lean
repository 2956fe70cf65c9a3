import Derived.Test.YtkfkkoefpfmjkaaDoorMC
import Derived.Lib.OwnKind
import Derived.Laws.OwnMore
import Derived.Maps.AppendAt
namespace Go.Proofs.YtkfkkoefpfmjkaaDoor
set_option linter.unusedVariables false
set_option linter.unusedSimpArgs false
open Go.RowKit

/- The reader's memory. No program in sight. -/
def nilV : Value := .slice none 0 0
def ftCells : List Ft → List Value → List Value
  | f :: fs, v :: vs => .string f.own :: v :: ftCells fs vs
  | _, _ => []
def brkCells (l : List (Int × Int)) : List Value := l.flatMap fun v => [.int .i64 v.1, .int .i64 v.2]
theorem ftCells_len : ∀ (fs : List Ft) (vs : List Value), vs.length = fs.length → (ftCells fs vs).length = fs.length * 2
  | [], [], _ => rfl
  | f :: fs, v :: vs, h => by simp only [ftCells, List.length_cons]; rw [ftCells_len fs vs (by simpa using h)]; omega
  | [], v :: vs, h => by simp at h
  | f :: fs, [], h => by simp at h
theorem ftCells_get : ∀ (fs : List Ft) (vs : List Value) (k : Nat), vs.length = fs.length → k < fs.length →
    (ftCells fs vs)[k * 2]? = some (.string (fs.getD k default).own) ∧ (ftCells fs vs)[k * 2 + 1]? = some (vs.getD k nilV)
  | [], _, k, _, h => by simp at h
  | f :: fs, [], k, h, _ => by simp at h
  | f :: fs, v :: vs, 0, _, _ => by simp [ftCells]
  | f :: fs, v :: vs, k + 1, h, hk => by
    have ih := ftCells_get fs vs k (by simpa using h) (by simpa using hk)
    have e1 : (k + 1) * 2 = k * 2 + 1 + 1 := by omega
    rw [e1]
    simpa [ftCells] using ih
theorem ftCells_set : ∀ (fs : List Ft) (vs : List Value) (k : Nat) (v : Value) (g : Ft), vs.length = fs.length → k < fs.length → g.own = (fs.getD k default).own →
    ftCells (fs.set k g) (vs.set k v) = (ftCells fs vs).set (k * 2 + 1) v
  | [], _, k, _, _, _, h, _ => by simp at h
  | f :: fs, [], k, _, _, h, _, _ => by simp at h
  | f :: fs, u :: vs, 0, v, g, _, _, hg => by simp at hg; simp [ftCells, hg]
  | f :: fs, u :: vs, k + 1, v, g, h, hk, hg => by
    have ih := ftCells_set fs vs k v g (by simpa using h) (by simpa using hk) (by simpa using hg)
    have e1 : (k + 1) * 2 + 1 = k * 2 + 1 + 1 + 1 := by omega
    rw [e1]
    simp [ftCells, ih]
theorem ftCells_snoc : ∀ (fs : List Ft) (vs : List Value) (f : Ft) (v : Value), vs.length = fs.length → ftCells (fs ++ [f]) (vs ++ [v]) = ftCells fs vs ++ [.string f.own, v]
  | [], [], f, v, _ => rfl
  | g :: fs, u :: vs, f, v, h => by simp [ftCells, ftCells_snoc fs vs f v (by simpa using h)]
  | [], u :: vs, f, v, h => by simp at h
  | g :: fs, [], f, v, h => by simp at h
theorem wayCells_get : ∀ (l : List Way) (k : Nat), k < l.length → (wayCells l)[k * 2]? = some (.string (l.getD k default).1) ∧ (wayCells l)[k * 2 + 1]? = some (.int .i64 (l.getD k default).2)
  | [], k, h => by simp at h
  | x :: l, 0, _ => by simp [wayCells]
  | x :: l, k + 1, hk => by
    have ih := wayCells_get l k (by simpa using hk)
    have e1 : (k + 1) * 2 = k * 2 + 1 + 1 := by omega
    rw [e1]
    simpa [wayCells] using ih
theorem wayCells_snoc (l : List Way) (x : Way) : wayCells (l ++ [x]) = wayCells l ++ [.string x.1, .int .i64 x.2] := by simp [wayCells]
theorem brkCells_snoc (l : List (Int × Int)) (x : Int × Int) : brkCells (l ++ [x]) = brkCells l ++ [.int .i64 x.1, .int .i64 x.2] := by simp [brkCells]
theorem brkCells_get : ∀ (l : List (Int × Int)) (k : Nat), k < l.length → (brkCells l)[k * 2]? = some (.int .i64 (l.getD k default).1) ∧ (brkCells l)[k * 2 + 1]? = some (.int .i64 (l.getD k default).2)
  | [], k, h => by simp at h
  | x :: l, 0, _ => by simp [brkCells]
  | x :: l, k + 1, hk => by
    have ih := brkCells_get l k (by simpa using hk)
    have e1 : (k + 1) * 2 = k * 2 + 1 + 1 := by omega
    rw [e1]
    simpa [brkCells] using ih

/-- a row of ways of one's own, read -/
theorem own_ways {w : World} {base : Nat} {v : Value} {l : List Way} (h : w.ownsRow base 100 2 v l.length (wayCells l)) : ∃ A c, v = .slice A l.length c ∧ l.length ≤ c ∧ IsWays w w.heap.size A l := by
  rcases h.2 with ⟨rfl, h0⟩ | ⟨g, cap, cur, rfl, _, hg, hcap, _⟩
  · rw [h0]; exact ⟨none, 0, rfl, Nat.le_refl _, fun hl => by omega⟩
  · refine ⟨_, cap, rfl, hcap, fun hl => ⟨g, 0, rfl, (Array.getElem?_eq_some_iff.1 hg).1, fun k hk => ?_⟩⟩
    rw [Nat.zero_add, h.cellAt (k * 2) (by omega), h.cellAt (k * 2 + 1) (by omega)]
    exact wayCells_get l k hk

/-- distinct blocks -/
def Apart (vs : List Value) : Prop := ∀ i j k, i < vs.length → j < vs.length → i ≠ j → (vs.getD i nilV).ownBlock = some k → (vs.getD j nilV).ownBlock ≠ some k
structure RS (w : World) (base b : Nat) (s : ByteArray) (a : Nat) (t : ByteArray) (m : Met) (ah : Int) (vf ve vb : Value) (vs : List Value) : Prop where
  rb : RB w b s a t vf ve vb ah
  hb : base ≤ b
  vl : vs.length = m.feet.length
  feet : w.ownsRow base 81 2 vf m.feet.length (ftCells m.feet vs)
  ways : ∀ k, k < m.feet.length → w.ownsRow base 100 2 (vs.getD k nilV) (m.feet.getD k default).ways.length (wayCells (m.feet.getD k default).ways)
  ends : w.ownsRow base 100 2 ve m.ends.length (wayCells m.ends)
  brks : w.ownsRow base 98 2 vb m.brks.length (brkCells m.brks)
  apart : Apart (ve :: vs)

theorem own_ne {w : World} {B B' e e' z z' n n' : Nat} {v v' : Value} {x x' : List Value} (h : w.ownsRow B e z v n x) (h' : w.ownsRow B' e' z' v' n' x') (hne : e ≠ e') : v.ownBlock = none ∨ v.ownBlock ≠ v'.ownBlock := by
  cases hv : v.ownBlock with
  | none => exact .inl rfl
  | some k =>
    right; intro hk
    obtain ⟨c, fz, h1⟩ := Lib.ownsRow_kind h k hv
    obtain ⟨c', fz', h2⟩ := Lib.ownsRow_kind h' k hk.symm
    rw [h1] at h2
    simp at h2
    exact hne h2.2.1
theorem own_neb {w : World} {B e z n b : Nat} {v : Value} {x : List Value} {cs : Array Value} {e' : Nat} {fz : Nat × Nat} (h : w.ownsRow B e z v n x) (hb : w.heap[b]? = some (.cells cs e' fz)) (hne : e ≠ e') : v.ownBlock = none ∨ v.ownBlock ≠ some b := by
  cases hv : v.ownBlock with
  | none => exact .inl rfl
  | some k =>
    right; intro hk; cases hk
    obtain ⟨c, fz', h1⟩ := Lib.ownsRow_kind h b hv
    rw [hb] at h1
    simp at h1
    exact hne h1.2.1.symm
variable {w w' : World} {base b a ah' : Nat} {s t : ByteArray} {m : Met} {ah : Int} {vf ve vb : Value} {vs : List Value}
theorem RS.bl (h : RS w base b s a t m ah vf ve vb vs) : b < w.heap.size := (Array.getElem?_eq_some_iff.1 h.rb).1
/-- all rows are elsewhere -/
theorem RS.only (h : RS w base b s a t m ah vf ve vb vs) {row : Option Nat} (hg : w.grownBy w' row) (h0 : row ≠ some b) (h1 : vf.ownBlock = none ∨ vf.ownBlock ≠ row) (h2 : ve.ownBlock = none ∨ ve.ownBlock ≠ row) (h3 : vb.ownBlock = none ∨ vb.ownBlock ≠ row)
    (h4 : ∀ k, k < m.feet.length → (vs.getD k nilV).ownBlock = none ∨ (vs.getD k nilV).ownBlock ≠ row) : RS w' base b s a t m ah vf ve vb vs :=
  ⟨(hg.block b h.bl (fun e => h0 e.symm)).trans h.rb, h.hb, h.vl, h.feet.kept hg h1, fun k hk => (h.ways k hk).kept hg (h4 k hk), h.ends.kept hg h2, h.brks.kept hg h3, h.apart⟩
theorem some_ne {o : Option Nat} : o = none ∨ o ≠ none := by cases o <;> simp
theorem RS.below (h : RS w base b s a t m ah vf ve vb vs) (hb : Below w.heap.size w w') : RS w' base b s a t m ah vf ve vb vs :=
  h.only (only_of_below hb none) (by simp) some_ne some_ne some_ne (fun _ _ => some_ne)
/-- the reader's own cells are written -/
theorem RS.move (h : RS w base b s a t m ah vf ve vb vs) (hg : w.grownBy w' (some b)) {a2 : Nat} {t2 : ByteArray} {ah2 : Int} (hr : RB w' b s a2 t2 vf ve vb ah2) : RS w' base b s a2 t2 m ah2 vf ve vb vs :=
  ⟨hr, h.hb, h.vl, h.feet.kept hg (own_neb h.feet h.rb (by decide)), fun k hk => (h.ways k hk).kept hg (own_neb (h.ways k hk) h.rb (by decide)), h.ends.kept hg (own_neb h.ends h.rb (by decide)), h.brks.kept hg (own_neb h.brks h.rb (by decide)), h.apart⟩
theorem Apart.set {v : Value} {vs : List Value} (h : Apart vs) {j : Nat} (hj : j < vs.length) {N : Nat} (hN : ∀ k b, k < vs.length → (vs.getD k nilV).ownBlock = some b → b < N)
    (hv : v.ownBlock = (vs.getD j nilV).ownBlock ∨ v.ownBlock = some N) : Apart (vs.set j v) := by
  have hget : ∀ i, i < vs.length → (vs.set j v).getD i nilV = if j = i then v else vs.getD i nilV := fun i hi => by
    simp only [List.getD_eq_getElem?_getD, List.getElem?_set, hi]
    split <;> simp [*]
  intro i k b hi hk hne h1 h2
  simp only [List.length_set] at hi hk
  rw [hget i hi] at h1
  rw [hget k hk] at h2
  by_cases e1 : j = i
  · subst e1
    rw [if_pos rfl] at h1
    rw [if_neg hne] at h2
    rcases hv with hv | hv
    · exact h j k b hi hk hne (hv ▸ h1) h2
    · have := hN k b hk h2
      rw [hv] at h1; cases h1; omega
  · rw [if_neg e1] at h1
    by_cases e2 : j = k
    · subst e2
      rw [if_pos rfl] at h2
      rcases hv with hv | hv
      · exact h i j b hi hk hne h1 (hv ▸ h2)
      · have := hN i b hi h1
        rw [hv] at h2; cases h2; omega
    · rw [if_neg e2] at h2
      exact h i k b hi hk hne h1 h2
theorem Apart.snoc {v : Value} {vs : List Value} (h : Apart vs) (hv : v.ownBlock = none) : Apart (vs ++ [v]) := by
  intro i k b hi hk hne h1 h2
  simp only [List.length_append, List.length_cons, List.length_nil] at hi hk
  have hget : ∀ i, i < vs.length → (vs ++ [v]).getD i nilV = vs.getD i nilV := fun i hi => by simp [List.getD_eq_getElem?_getD, List.getElem?_append_left hi]
  have hlast : (vs ++ [v]).getD vs.length nilV = v := by simp [List.getD_eq_getElem?_getD]
  by_cases e1 : i < vs.length
  · by_cases e2 : k < vs.length
    · rw [hget i e1] at h1; rw [hget k e2] at h2
      exact h i k b e1 e2 hne h1 h2
    · obtain rfl : k = vs.length := by omega
      rw [hlast, hv] at h2; cases h2
  · obtain rfl : i = vs.length := by omega
    rw [hlast, hv] at h1; cases h1
theorem cons_getD (v : Value) (vs : List Value) (k : Nat) : (v :: vs).getD (k + 1) nilV = vs.getD k nilV := by simp [List.getD_eq_getElem?_getD]
theorem RS.blocks (h : RS w base b s a t m ah vf ve vb vs) : ∀ k b, k < (ve :: vs).length → ((ve :: vs).getD k nilV).ownBlock = some b → b < w.heap.size := by
  intro k b hk hb
  match k, hk, hb with
  | 0, _, hb => exact (h.ends.lt b (by simpa using hb)).2
  | k + 1, hk, hb =>
    rw [cons_getD] at hb
    exact ((h.ways k (by have := h.vl; simp at hk; omega)).lt b hb).2
end Go.Proofs.YtkfkkoefpfmjkaaDoor
namespace Go.Proofs.YtkfkkoefpfmjkaaDoor
set_option linter.unusedVariables false
set_option linter.unusedSimpArgs false
open Go.RowKit

theorem set_getD {α : Type} (l : List α) (j k : Nat) (x d : α) (hk : k < l.length) : (l.set j x).getD k d = if j = k then x else l.getD k d := by
  simp only [List.getD_eq_getElem?_getD, List.getElem?_set, hk]
  split <;> simp [*]
variable {w w1 : World} {base b a : Nat} {s t : ByteArray} {m : Met} {ah : Int} {vf ve vb : Value} {vs : List Value}
def Met.setFt (m : Met) (j : Nat) (f : Ft) : Met := { m with feet := m.feet.set j f }
theorem RS.way (h : RS w base b s a t m ah vf ve vb vs) {j g cap : Nat} (hj : j < m.feet.length) (hvf : vf = .slice (some ⟨g, 0, none⟩) m.feet.length cap) (x : Way) {v' : Value}
    (ho : w1.ownsRow base 100 2 v' ((m.feet.getD j default).ways.length + 1) (wayCells (m.feet.getD j default).ways ++ [.string x.1, .int .i64 x.2])) (hg : w.grownBy w1 (vs.getD j nilV).ownBlock)
    (hat : v'.ownBlock = (vs.getD j nilV).ownBlock ∨ ∃ N, v'.ownBlock = some N ∧ w.heap.size ≤ N) :
    RS (w1.setCell ⟨g, j * 2 + 1, none⟩ v') base b s a t (m.setFt j ⟨(m.feet.getD j default).own, (m.feet.getD j default).ways ++ [x]⟩) ah vf ve vb (vs.set j v') := by
  have hvl := h.vl
  have hjs : j + 1 < (ve :: vs).length := by simp; omega
  have ne_oth : ∀ k, k < (ve :: vs).length → k ≠ j + 1 → ((ve :: vs).getD k nilV).ownBlock = none ∨ ((ve :: vs).getD k nilV).ownBlock ≠ (vs.getD j nilV).ownBlock := fun k hk hne => by
    cases hv : ((ve :: vs).getD k nilV).ownBlock with
    | none => exact .inl rfl
    | some q =>
      right; intro e
      exact h.apart k (j + 1) q hk hjs hne hv (by rw [cons_getD]; exact e.symm)
  have ne_b : (vs.getD j nilV).ownBlock ≠ some b := by
    rcases own_neb (h.ways j hj) h.rb (by decide) with e | e
    · rw [e]; simp
    · exact e
  have f1 := h.feet.kept hg (own_ne h.feet (h.ways j hj) (by decide))
  have e1 : w1.ownsRow base 100 2 ve m.ends.length (wayCells m.ends) := h.ends.kept hg (by simpa using ne_oth 0 (by simp) (by omega))
  have k1 := h.brks.kept hg (own_ne h.brks (h.ways j hj) (by decide))
  have r1 : RB w1 b s a t vf ve vb ah := (hg.block b h.bl (fun e => ne_b e.symm)).trans h.rb
  have o1 : ∀ k, k < m.feet.length → k ≠ j → w1.ownsRow base 100 2 (vs.getD k nilV) (m.feet.getD k default).ways.length (wayCells (m.feet.getD k default).ways) := fun k hk hne =>
    (h.ways k hk).kept hg (by have := ne_oth (k + 1) (by simp; omega) (by omega); rwa [cons_getD] at this)
  obtain ⟨f2, g2⟩ := (hvf ▸ f1).stored (j * 2 + 1) v'
  have hgf : vf.ownBlock = some g := by rw [hvf]; rfl
  have gne : ∀ {B e z n : Nat} {v : Value} {x : List Value}, w1.ownsRow B e z v n x → e ≠ 81 → v.ownBlock = none ∨ v.ownBlock ≠ some g := fun hh hne => by
    have := own_ne hh f1 hne
    rwa [hgf] at this
  have hbg : b ≠ g := by
    rintro rfl
    rcases own_neb f1 r1 (by decide) with e | e
    · rw [hgf] at e; cases e
    · exact e hgf
  refine ⟨?_, h.hb, by simp [Met.setFt, hvl], ?_, ?_, e1.kept g2 (gne e1 (by decide)), k1.kept g2 (gne k1 (by decide)), ?_⟩
  · exact (g2.block b (Array.getElem?_eq_some_iff.1 r1).1 (by simpa using hbg)).trans r1
  · have : (m.setFt j ⟨(m.feet.getD j default).own, (m.feet.getD j default).ways ++ [x]⟩).feet.length = m.feet.length := by simp [Met.setFt]
    rw [this, hvf]
    have hfs := ftCells_set m.feet vs j v' ⟨(m.feet.getD j default).own, (m.feet.getD j default).ways ++ [x]⟩ hvl hj rfl
    show World.ownsRow _ base 81 2 _ _ (ftCells (m.feet.set j ⟨(m.feet.getD j default).own, (m.feet.getD j default).ways ++ [x]⟩) (vs.set j v'))
    rw [hfs]
    exact f2
  · intro k hk
    have hk' : k < m.feet.length := by simpa [Met.setFt] using hk
    unfold Met.setFt
    simp only []
    rw [set_getD vs j k v' nilV (by omega), set_getD m.feet j k _ default hk']
    by_cases e : j = k
    · subst e
      rw [if_pos rfl, if_pos rfl]
      simp only [List.length_append, List.length_cons, List.length_nil, wayCells_snoc]
      exact ho.kept g2 (gne ho (by decide))
    · rw [if_neg e, if_neg e]
      exact (o1 k hk' (fun e' => e e'.symm)).kept g2 (gne (o1 k hk' (fun e' => e e'.symm)) (by decide))
  · have hA : Apart ((ve :: vs).set (j + 1) v') := by
      rcases hat with hat | ⟨N, hN, hle⟩
      · exact h.apart.set hjs (N := w.heap.size) h.blocks (.inl (by rw [cons_getD]; exact hat))
      · exact h.apart.set hjs (N := N) (fun k q hk hq => Nat.lt_of_lt_of_le (h.blocks k q hk hq) hle) (.inr hN)
    simpa using hA

/- layR: one foot more -/
theorem layR_zero (fs : List Ft) (i : Nat) (sg : ByteArray) (c : Int) (all : Bool) : layR fs i 0 sg c all = fs := by simp [layR]
theorem layR_len (fs : List Ft) (i n : Nat) (sg : ByteArray) (c : Int) (all : Bool) (h : i + n ≤ fs.length) : (layR fs i n sg c all).length = fs.length := by
  simp [layR]; omega
theorem layR_get (fs : List Ft) (i n k : Nat) (sg : ByteArray) (c : Int) (all : Bool) (h : i + n ≤ fs.length) (hk : k < fs.length) :
    (layR fs i n sg c all).getD k default = if i ≤ k ∧ k < i + n then layF sg c all (fs.getD k default) else fs.getD k default := by
  have e1 : (fs.take i).length = i := by simp; omega
  have e2 : (((fs.drop i).take n).map (layF sg c all)).length = n := by simp; omega
  unfold layR
  simp only [List.getD_eq_getElem?_getD]
  by_cases h1 : k < i
  · rw [List.append_assoc, List.getElem?_append_left (by omega), if_neg (by omega), List.getElem?_take, if_pos h1]
  · by_cases h2 : k < i + n
    · rw [List.getElem?_append_left (by simp; omega), List.getElem?_append_right (by omega), e1, if_pos ⟨by omega, h2⟩, List.getElem?_map, List.getElem?_take, if_pos (by omega), List.getElem?_drop, show i + (k - i) = k by omega, List.getElem?_eq_getElem hk]
      rfl
    · rw [List.getElem?_append_right (by simp; omega), if_neg (by omega), List.getElem?_drop]
      congr 2
      simp; omega
theorem ext_getD {α : Type} (d : α) {l l' : List α} (hl : l.length = l'.length) (h : ∀ k, k < l.length → l.getD k d = l'.getD k d) : l = l' := by
  apply List.ext_getElem hl
  intro k h1 h2
  have := h k h1
  simpa [List.getD_eq_getElem?_getD, List.getElem?_eq_getElem, h1, h2] using this
theorem layR_succ (fs : List Ft) (i n : Nat) (sg : ByteArray) (c : Int) (all : Bool) (h : i + n < fs.length) :
    layR fs i (n + 1) sg c all = (layR fs i n sg c all).set (i + n) (layF sg c all (fs.getD (i + n) default)) := by
  refine ext_getD default (by rw [List.length_set, layR_len _ _ _ _ _ _ (by omega), layR_len _ _ _ _ _ _ (by omega)]) fun k hk => ?_
  rw [layR_len _ _ _ _ _ _ (by omega)] at hk
  rw [layR_get _ _ _ _ _ _ _ (by omega) hk, set_getD _ _ _ _ _ (by rw [layR_len _ _ _ _ _ _ (by omega)]; exact hk), layR_get _ _ _ _ _ _ _ (by omega) hk]
  by_cases e : i + n = k
  · subst e
    rw [if_pos (by omega), if_pos rfl]
  · rw [if_neg e]
    by_cases h1 : i ≤ k ∧ k < i + n
    · rw [if_pos h1, if_pos (by omega)]
    · rw [if_neg h1, if_neg (by omega)]
theorem layR_here (fs : List Ft) (i n : Nat) (sg : ByteArray) (c : Int) (all : Bool) (h : i + n < fs.length) : (layR fs i n sg c all).getD (i + n) default = fs.getD (i + n) default := by
  rw [layR_get _ _ _ _ _ _ _ (by omega) h, if_neg (by omega)]
end Go.Proofs.YtkfkkoefpfmjkaaDoor
namespace Go.Proofs.YtkfkkoefpfmjkaaDoor
set_option linter.unusedVariables false
set_option linter.unusedSimpArgs false
open Go.RowKit

/- lay. -/
theorem grown_of_alloc {w0 w' : World} {o : Obj} {row : Option Nat} (h : (w0.alloc o).grownBy w' row) : w0.grownBy w' row :=
  ⟨h.os, h.tape, h.output, Nat.le_trans (by simp) h.size, fun k hk hne => (h.block k (by simp; omega) hne).trans (Below.heap_alloc w0 o k hk)⟩

/-- append of one element that was just boxed, onto a row of the call's own: with what is turned and where the new row lies -/
theorem wpList_append_boxg {P : Program} {ops : Array Oper} {rest : List Oper} {o : Oper} {a : Act} {Q : Exit → Act → World → Prop} (w0 : World) (hgd : o.guard = none) (s x : Operand) (t : TypeId)
    (ho : o.op = .call { callee := .builtin .append, args := #[s, x], argTypes := #[t, t] })
    (base : Nat) (e : TypeId) (i : TypeInfo) (z : Value) (size bytes : Nat) (ht : P.underlying t = some (.slice e)) (hi : P.info? e = some i) (hz : i.zero = some z)
    (hsize : i.size = size) (hby : i.bytes = bytes) (hzs : z.cells.size = size) (hsz : 0 < size)
    (v : Value) (n : Nat) (xs : List Value) (nw : Array Value) (g : Nat) (hs : a.eval s = v) (hx : a.eval x = .slice (some ⟨g, 0, none⟩) 1 1) (hg : g = w0.heap.size) (hown : w0.ownsRow base e size v n xs)
    (hl : nw.size = size) (h1 : ∀ u ∈ nw.toList, u.oneCell' = true)
    (h63 : n + 1 ≤ maxLen) (hbytes : (n + 1) * bytes ≤ 140737488355328) (hbase : base ≤ w0.heap.size)
    (h : ∀ v' w', w'.ownsRow base e size v' (n + 1) (xs ++ nw.toList) → w0.grownBy w' v.ownBlock → (v'.ownBlock = v.ownBlock ∨ ∃ b, v'.ownBlock = some b ∧ w0.heap.size ≤ b) → wpList P ops Q rest (a.put o.dst v') w') : wpList P ops Q (o :: rest) a (w0.alloc (.cells nw e)) := by
  subst hg
  refine wpList_append_own_at (w0.alloc (.cells nw e)) hgd s x t ho base e i z size bytes ht hi hz hsize hby hzs hsz v n xs hs (hown.alloc _) ⟨w0.heap.size, 0, none⟩ 1 1 nw.toList hx (by simp [hl]) ?_ h1 h63 hbytes (by simp; omega) ?_
  · intro j u hu
    have e1 : (⟨w0.heap.size, 0, none⟩ : Addr).add j = ⟨w0.heap.size, j, none⟩ := by
      unfold Addr.add; by_cases hj : j = 0
      · simp [hj]
      · simp [hj]
    rw [e1, cell_of_row (w0.alloc (.cells nw e)) w0.heap.size j nw e (0, 0) (heap_alloc_new w0 _)]
    simpa using hu
  · intro v' w' h2 h3 _ h5
    refine h v' w' h2 (grown_of_alloc h3) ?_
    rcases h5 with h5 | h5
    · exact .inl h5
    · exact .inr ⟨_, h5, by simp⟩

theorem info100 : Tryd.prog.info? 100 = some Tryd.t100 := by kernel_rfl
theorem zero100 : Tryd.t100.zero = some (.agg #[.string ⟨#[]⟩, .int .i64 0]) := by kernel_rfl
theorem size100 : Tryd.t100.size = 2 := by kernel_rfl
theorem bytes100 : Tryd.t100.bytes = 24 := by kernel_rfl
theorem info81 : Tryd.prog.info? 81 = some Tryd.t81 := by kernel_rfl
theorem zero81 : Tryd.t81.zero = some (.agg #[.string ⟨#[]⟩, .slice none 0 0]) := by kernel_rfl
theorem size81 : Tryd.t81.size = 2 := by kernel_rfl
theorem bytes81 : Tryd.t81.bytes = 40 := by kernel_rfl
theorem info98 : Tryd.prog.info? 98 = some Tryd.t98 := by kernel_rfl
theorem zero98 : Tryd.t98.zero = some (.agg #[.int .i64 0, .int .i64 0]) := by kernel_rfl
theorem size98 : Tryd.t98.size = 2 := by kernel_rfl
theorem bytes98 : Tryd.t98.bytes = 16 := by kernel_rfl

/-- between two rounds of lay -/
structure LayRel (w : World) (base b : Nat) (s : ByteArray) (a : Nat) (t : ByteArray) (m : Met) (ah : Int) (vf ve vb : Value) (i : Nat) (sg : ByteArray) (cost : Int) (all : Bool) (k : Nat) (vs : List Value) (wr : World) : Prop where
  rs : RS wr base b s a t { m with feet := layR m.feet i k sg cost all } ah vf ve vb vs
  box : wr.heap[w.heap.size]? = some (.cells #[.string sg, .int .i64 cost] 100 (0, 0))
  off : ∀ j, j < vs.length → (vs.getD j nilV).ownBlock ≠ some w.heap.size
  below : Below base w wr
theorem LayRel.start {w : World} {base b a : Nat} {s t : ByteArray} {m : Met} {ah : Int} {vf ve vb : Value} {vs : List Value} (h : RS w base b s a t m ah vf ve vb vs) (i : Nat) (sg : ByteArray) (cost : Int) (all : Bool) :
    LayRel w base b s a t m ah vf ve vb i sg cost all 0 vs (w.alloc (.cells #[.string sg, .int .i64 cost] 100)) := by
  have hb : Below w.heap.size w (w.alloc (.cells #[.string sg, .int .i64 cost] 100)) := (Below.refl _ w).alloc (Nat.le_refl _) _
  refine ⟨?_, World.alloc_heap_new w _, fun j hj e => ?_, hb.mono (by have := h.bl; have := h.hb; omega)⟩
  · rw [layR_zero]; exact h.below hb
  · have := h.blocks (j + 1) _ (by simp; omega) (by rw [cons_getD]; exact e)
    omega
theorem LayRel.skip {w wr wr' : World} {base b a : Nat} {s t : ByteArray} {m : Met} {ah : Int} {vf ve vb : Value} {vs : List Value} {i k : Nat} {sg : ByteArray} {cost : Int} {all : Bool} (h : LayRel w base b s a t m ah vf ve vb i sg cost all k vs wr) (hik : i + k < m.feet.length)
    (hf : layF sg cost all (m.feet.getD (i + k) default) = m.feet.getD (i + k) default) (hb : Below wr.heap.size wr wr') : LayRel w base b s a t m ah vf ve vb i sg cost all (k + 1) vs wr' := by
  have hbs : base ≤ wr.heap.size := by have := h.rs.bl; have := h.rs.hb; omega
  have hlt : w.heap.size < wr.heap.size := (Array.getElem?_eq_some_iff.1 h.box).1
  refine ⟨?_, (hb.block _ hlt).trans h.box, h.off, h.below.trans (hb.mono hbs)⟩
  rw [layR_succ _ _ _ _ _ _ hik, hf]
  have e : (layR m.feet i k sg cost all).set (i + k) (m.feet.getD (i + k) default) = layR m.feet i k sg cost all := by
    refine ext_getD default (by simp) fun q hq => ?_
    rw [List.length_set] at hq
    rw [set_getD _ _ _ _ _ hq]
    by_cases e : i + k = q
    · subst e; rw [if_pos rfl, layR_here _ _ _ _ _ _ hik]
    · rw [if_neg e]
  rw [e]
  exact h.rs.below hb
theorem LayRel.step {w wr w0 w1 : World} {base b a : Nat} {s t : ByteArray} {m : Met} {ah : Int} {vf ve vb : Value} {vs : List Value} {i k g cap : Nat} {sg : ByteArray} {cost : Int} {all : Bool} (h : LayRel w base b s a t m ah vf ve vb i sg cost all k vs wr) (hik : i + k < m.feet.length)
    (hvf : vf = .slice (some ⟨g, 0, none⟩) m.feet.length cap) (hf : layF sg cost all (m.feet.getD (i + k) default) = ⟨(m.feet.getD (i + k) default).own, (m.feet.getD (i + k) default).ways ++ [(sg, cost)]⟩) (hb : Below wr.heap.size wr w0) {v' : Value}
    (ho : w1.ownsRow base 100 2 v' ((m.feet.getD (i + k) default).ways.length + 1) (wayCells (m.feet.getD (i + k) default).ways ++ [.string sg, .int .i64 cost])) (hg : w0.grownBy w1 (vs.getD (i + k) nilV).ownBlock)
    (hat : v'.ownBlock = (vs.getD (i + k) nilV).ownBlock ∨ ∃ N, v'.ownBlock = some N ∧ w0.heap.size ≤ N) (hgw : g < w.heap.size) :
    LayRel w base b s a t m ah vf ve vb i sg cost all (k + 1) (vs.set (i + k) v') (w1.setCell ⟨g, (i + k) * 2 + 1, none⟩ v') := by
  have hbs : base ≤ wr.heap.size := by have := h.rs.bl; have := h.rs.hb; omega
  have hlt : w.heap.size < wr.heap.size := (Array.getElem?_eq_some_iff.1 h.box).1
  have h0 := h.rs.below hb
  have hlen : (layR m.feet i k sg cost all).length = m.feet.length := layR_len _ _ _ _ _ _ (by omega)
  have hvl : vs.length = m.feet.length := by rw [h.rs.vl, hlen]
  have hh := layR_here m.feet i k sg cost all hik
  have hr := h0.way (j := i + k) (by simpa [hlen] using hik) (by simpa [hlen] using hvf) (sg, cost) (by simp only [hh]; exact ho) hg hat
  simp only [hh] at hr
  unfold Met.setFt at hr
  simp only [] at hr
  have hbase : ∀ q, (vs.getD (i + k) nilV).ownBlock = some q → base ≤ q := fun q hq => ((h0.ways (i + k) (by simpa [hlen] using hik)).lt q hq).1
  have hgb : base ≤ g := (h0.feet.lt g (by rw [hvf]; rfl)).1
  have hbx0 : w0.heap[w.heap.size]? = some (.cells #[.string sg, .int .i64 cost] 100 (0, 0)) := (hb.block _ hlt).trans h.box
  have hbx1 : w1.heap[w.heap.size]? = some (.cells #[.string sg, .int .i64 cost] 100 (0, 0)) := (hg.block _ (Nat.lt_of_lt_of_le hlt hb.size) (fun e => h.off (i + k) (by omega) e.symm)).trans hbx0
  refine ⟨?_, (Below.heap_setCell _ _ _ _ (by show w.heap.size ≠ g; omega)).trans hbx1, ?_, ?_⟩
  · rw [layR_succ _ _ _ _ _ _ hik, hf]
    exact hr
  · intro j hj e
    rw [List.length_set] at hj
    rw [set_getD _ _ _ _ _ hj] at e
    by_cases e2 : i + k = j
    · rw [if_pos e2] at e
      rcases hat with hat | ⟨N, hN, hle⟩
      · exact h.off (i + k) (by omega) (hat ▸ e)
      · rw [hN] at e; cases e
        have := hb.size; omega
    · rw [if_neg e2] at e
      exact h.off j hj e
  · refine Below.setCell ?_ (by show base ≤ g; exact hgb) _
    refine (h.below.trans (hb.mono hbs)).grown hg (by have := hb.size; omega) ?_
    intro q hq
    exact hbase q hq
end Go.Proofs.YtkfkkoefpfmjkaaDoor

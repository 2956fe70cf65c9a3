import Derived.Test.YtkfkkoefpfmjkaaDoorVB
import Derived.RangeFuncWrites
import Derived.RangeFuncNested
import Derived.Laws.MakeOwn
/- The table of rests: what is reckoned, and how it lies in memory. No program in sight. -/
namespace Go.Proofs.YtkfkkoefpfmjkaaDoor
set_option linter.unusedVariables false
set_option linter.unusedSimpArgs false
open Go.RowKit

abbrev Cell := Int × Int
abbrev Tb := Nat → Nat → Cell
/-- a further way, with what the rest comes to behind it -/
def stepR (s : List UInt8) (nx : Nat → Cell) (b : Cell) (v : Way) : Cell :=
  if Lib.hasPrefix s v.1.data.toList then
    if (nx v.1.size).2 = 0 then b
    else if b.2 = 0 ∨ (nx v.1.size).1 + v.2 < b.1 then ((nx v.1.size).1 + v.2, (nx v.1.size).2)
    else if (nx v.1.size).1 + v.2 = b.1 then (b.1, min (addW b.2 (nx v.1.size).2) manyN)
    else b
  else b
/-- the least cost of choices with just these signs, and how many have it -/
def restR : List (List Way) → List UInt8 → Cell
  | [], s => if s = [] then (0, 1) else (0, 0)
  | l :: r, s => l.foldl (stepR s (fun k => restR r (s.drop k))) (0, 0)
def nxR (t : Tb) (i a : Nat) : Nat → Cell := fun k => t (i + 1) (a + k)
def rowR (rows : List (List Way)) (s : List UInt8) (t : Tb) (i a : Nat) : Cell := (rows.getD i []).foldl (stepR (s.drop a) (nxR t i a)) (t i a)
/-- row i is reckoned, as far as place A -/
def procTo (rows : List (List Way)) (s : List UInt8) (A : Nat) (t : Tb) (i : Nat) : Tb := fun k a => if k = i ∧ a < A then rowR rows s t i a else t k a
def upd (t : Tb) (i a : Nat) (c : Cell) : Tb := fun k b => if k = i ∧ b = a then c else t k b
theorem upd_same (t : Tb) (i a : Nat) (c : Cell) : upd t i a c i a = c := by unfold upd; rw [if_pos ⟨rfl, rfl⟩]
theorem upd_row (t : Tb) (i a : Nat) (c : Cell) (k b : Nat) (h : k ≠ i) : upd t i a c k b = t k b := by unfold upd; rw [if_neg (fun e => h e.1)]
theorem upd_upd (t : Tb) (i a : Nat) (c d : Cell) : upd (upd t i a c) i a d = upd t i a d := by
  funext k b; unfold upd; by_cases h : k = i ∧ b = a <;> simp [h]
theorem upd_self (t : Tb) (i a : Nat) : upd t i a (t i a) = t := by
  funext k b; unfold upd
  by_cases h : k = i ∧ b = a
  · rw [if_pos h, h.1, h.2]
  · rw [if_neg h]
theorem procTo_zero (rows : List (List Way)) (s : List UInt8) (t : Tb) (i : Nat) : procTo rows s 0 t i = t := by
  funext k a; unfold procTo; rw [if_neg (by omega)]
theorem procTo_succ (rows : List (List Way)) (s : List UInt8) (A : Nat) (t : Tb) (i : Nat) : procTo rows s (A + 1) t i = upd (procTo rows s A t i) i A (rowR rows s t i A) := by
  funext k a
  show (if k = i ∧ a < A + 1 then rowR rows s t i a else t k a) = (if k = i ∧ a = A then rowR rows s t i A else (if k = i ∧ a < A then rowR rows s t i a else t k a))
  by_cases h : k = i ∧ a = A
  · rw [if_pos ⟨h.1, by omega⟩, if_pos h, h.2]
  · rw [if_neg h]
    by_cases h2 : k = i ∧ a < A
    · rw [if_pos ⟨h2.1, by omega⟩, if_pos h2]
    · rw [if_neg h2, if_neg (by omega)]
theorem procTo_at (rows : List (List Way)) (s : List UInt8) (A : Nat) (t : Tb) (i : Nat) : procTo rows s A t i i A = t i A := by
  unfold procTo; rw [if_neg (by omega)]
theorem procTo_row (rows : List (List Way)) (s : List UInt8) (A : Nat) (t : Tb) (i k a : Nat) (h : k ≠ i) : procTo rows s A t i k a = t k a := by
  unfold procTo; rw [if_neg (fun e => h e.1)]
/-- the bounds of the costs -/
def Costs (t : Tb) (j : Nat) : Prop := ∀ k a, 0 ≤ (t k a).1 ∧ (t k a).1 ≤ (j : Int) * 1048576
theorem step_cost {s : List UInt8} {nx : Nat → Cell} {j : Nat} (hn : ∀ k, 0 ≤ (nx k).1 ∧ (nx k).1 ≤ (j : Int) * 1048576) {v : Way} (hv : 0 ≤ v.2 ∧ v.2 ≤ 1048576) {b : Cell} (hb : 0 ≤ b.1 ∧ b.1 ≤ ((j + 1 : Nat) : Int) * 1048576) :
    0 ≤ (stepR s nx b v).1 ∧ (stepR s nx b v).1 ≤ ((j + 1 : Nat) : Int) * 1048576 := by
  have h1 := hn v.1.size
  unfold stepR
  split
  · split
    · exact hb
    · split
      · simp only []; omega
      · split
        · exact hb
        · exact hb
  · exact hb
theorem fold_cost {s : List UInt8} {nx : Nat → Cell} {j : Nat} (hn : ∀ k, 0 ≤ (nx k).1 ∧ (nx k).1 ≤ (j : Int) * 1048576) : ∀ (l : List Way), (∀ v ∈ l, 0 ≤ v.2 ∧ v.2 ≤ 1048576) → ∀ (b : Cell), (0 ≤ b.1 ∧ b.1 ≤ ((j + 1 : Nat) : Int) * 1048576) →
    0 ≤ (l.foldl (stepR s nx) b).1 ∧ (l.foldl (stepR s nx) b).1 ≤ ((j + 1 : Nat) : Int) * 1048576
  | [], _, b, hb => hb
  | v :: l, hl, b, hb => fold_cost hn l (fun u hu => hl u (List.mem_cons_of_mem _ hu)) _ (step_cost hn (hl v (List.mem_cons_self ..)) hb)
theorem Costs.more {t : Tb} {j : Nat} (h : Costs t j) : Costs t (j + 1) := fun k a => by have := h k a; omega
theorem Costs.row {rows : List (List Way)} {s : List UInt8} {t : Tb} {j : Nat} (h : Costs t j) (hr : ∀ l ∈ rows, ∀ v ∈ l, 0 ≤ v.2 ∧ v.2 ≤ 1048576) (i a : Nat) : 0 ≤ (rowR rows s t i a).1 ∧ (rowR rows s t i a).1 ≤ ((j + 1 : Nat) : Int) * 1048576 := by
  refine fold_cost (fun k => h _ _) _ (fun v hv => ?_) _ (by have := h i a; omega)
  by_cases hi : i < rows.length
  · rw [List.getD_eq_getElem?_getD, List.getElem?_eq_getElem hi] at hv
    exact hr _ (List.getElem_mem hi) v hv
  · rw [List.getD_eq_getElem?_getD, List.getElem?_eq_none (by omega)] at hv
    cases hv
theorem Costs.proc {rows : List (List Way)} {s : List UInt8} {t : Tb} {j : Nat} (h : Costs t j) (hr : ∀ l ∈ rows, ∀ v ∈ l, 0 ≤ v.2 ∧ v.2 ≤ 1048576) (A i : Nat) : Costs (procTo rows s A t i) (j + 1) := fun k a => by
  unfold procTo
  split
  · exact h.row hr i a
  · have := h k a; omega
/-- the table at the start; the rows that are done, from the last one on -/
def tab0 (n ln : Nat) : Tb := fun k a => if k = n ∧ a = ln then (0, 1) else (0, 0)
theorem tab0_costs (n ln : Nat) : Costs (tab0 n ln) 0 := fun k a => by unfold tab0; split <;> simp
def tabOf (rows : List (List Way)) (s : List UInt8) (n ln : Nat) (pre : List (Fin n)) : Tb := pre.foldl (fun t i => procTo rows s (ln + 1) t i.1) (tab0 n ln)
theorem tabOf_snoc (rows : List (List Way)) (s : List UInt8) (n ln : Nat) (pre : List (Fin n)) (x : Fin n) : tabOf rows s n ln (pre ++ [x]) = procTo rows s (ln + 1) (tabOf rows s n ln pre) x.1 := by
  unfold tabOf; rw [List.foldl_append]; rfl
theorem tabOf_costs {rows : List (List Way)} {s : List UInt8} {n ln : Nat} (hr : ∀ l ∈ rows, ∀ v ∈ l, 0 ≤ v.2 ∧ v.2 ≤ 1048576) : ∀ (pre : List (Fin n)) (t : Tb) (j : Nat), Costs t j → Costs (pre.foldl (fun t i => procTo rows s (ln + 1) t i.1) t) (j + pre.length)
  | [], t, j, h => h
  | x :: pre, t, j, h => by
    have := tabOf_costs (s := s) (ln := ln) hr pre (procTo rows s (ln + 1) t x.1) (j + 1) (h.proc hr (ln + 1) x.1)
    simp only [List.length_cons]
    rw [show j + (pre.length + 1) = j + 1 + pre.length by omega]
    exact this
/-- the numbers below n, from above -/
def descF (n j : Nat) : List (Fin n) := (List.range j).filterMap fun q => if h : n - 1 - q < n then some ⟨n - 1 - q, h⟩ else none
theorem descF_zero (n : Nat) : descF n 0 = [] := rfl
theorem descF_succ (n j : Nat) (h : j < n) : descF n (j + 1) = descF n j ++ [⟨n - 1 - j, by omega⟩] := by
  unfold descF
  rw [List.range_succ, List.filterMap_append]
  simp [show n - 1 - j < n by omega]
theorem descF_len (n : Nat) : ∀ j, j ≤ n → (descF n j).length = j
  | 0, _ => rfl
  | j + 1, h => by rw [descF_succ n j (by omega), List.length_append, descF_len n j (by omega)]; rfl
theorem drop_drop' (s : List UInt8) (a k : Nat) : (s.drop a).drop k = s.drop (a + k) := by rw [List.drop_drop]
theorem restR_nil (s : List UInt8) (a : Nat) (h : a ≤ s.length) : restR [] (s.drop a) = if a = s.length then (0, 1) else (0, 0) := by
  unfold restR
  by_cases e : a = s.length
  · rw [if_pos e, if_pos (by rw [e]; exact List.drop_length)]
  · have h2 : ¬ s.drop a = [] := by rw [List.drop_eq_nil_iff]; omega
    rw [if_neg e, if_neg h2]
theorem hasPrefix_len {a b : List UInt8} (h : Lib.hasPrefix a b = true) : b.length ≤ a.length := by
  unfold Lib.hasPrefix at h
  have := List.isPrefixOf_iff_prefix.1 h
  exact this.length_le
theorem stepR_congr {s : List UInt8} {nx nx' : Nat → Cell} (h : ∀ k, k ≤ s.length → nx k = nx' k) (b : Cell) (v : Way) : stepR s nx b v = stepR s nx' b v := by
  unfold stepR
  by_cases hp : Lib.hasPrefix s v.1.data.toList = true
  · have hl := hasPrefix_len hp
    have e : v.1.data.toList.length = v.1.size := by simp
    rw [h v.1.size (by omega)]
  · rw [if_neg hp, if_neg hp]
theorem fold_congr {s : List UInt8} {nx nx' : Nat → Cell} (h : ∀ k, k ≤ s.length → nx k = nx' k) : ∀ (l : List Way) (b : Cell), l.foldl (stepR s nx) b = l.foldl (stepR s nx') b
  | [], b => rfl
  | v :: l, b => by rw [List.foldl_cons, List.foldl_cons, stepR_congr h, fold_congr h l]
/-- when all rows are done, the table holds what is asked -/
theorem tab_desc (rows : List (List Way)) (s : List UInt8) : ∀ j, j ≤ rows.length → ∀ k a, k ≤ rows.length → a ≤ s.length →
    tabOf rows s rows.length s.length (descF rows.length j) k a = if rows.length - j ≤ k then restR (rows.drop k) (s.drop a) else (0, 0)
  | 0, _, k, a, hk, ha => by
    show tab0 rows.length s.length k a = _
    unfold tab0
    by_cases e : k = rows.length
    · subst e
      rw [List.drop_length, restR_nil s a ha]
      by_cases e2 : a = s.length <;> simp [e2]
    · have e3 : ¬ rows.length - 0 ≤ k := by omega
      rw [if_neg (fun h => e h.1), if_neg e3]
  | j + 1, hj, k, a, hk, ha => by
    have ih := tab_desc rows s j (by omega)
    rw [descF_succ _ j (by omega), tabOf_snoc]
    generalize ht : tabOf rows s rows.length s.length (descF rows.length j) = t at ih
    unfold procTo
    by_cases e : k = rows.length - 1 - j
    · rw [if_pos ⟨e, by omega⟩, if_pos (by omega)]
      have hlt : k < rows.length := by omega
      have hd : rows.drop k = rows.getD k [] :: rows.drop (k + 1) := by
        rw [List.drop_eq_getElem_cons hlt]; simp [List.getD_eq_getElem?_getD, hlt]
      rw [hd]
      unfold rowR
      show _ = (rows.getD k []).foldl (stepR (s.drop a) (fun q => restR (rows.drop (k + 1)) ((s.drop a).drop q))) (0, 0)
      show (rows.getD (rows.length - 1 - j) []).foldl (stepR (s.drop a) (nxR t (rows.length - 1 - j) a)) (t (rows.length - 1 - j) a) = _
      rw [← e, ih k a (by omega) ha, if_neg (by omega)]
      refine fold_congr (fun q hq => ?_) _ _
      simp only [List.length_drop] at hq
      unfold nxR
      rw [ih (k + 1) (a + q) (by omega) (by omega), if_pos (by omega), drop_drop']
    · rw [if_neg (fun h => e h.1), ih k a hk ha]
      by_cases e2 : rows.length - j ≤ k
      · rw [if_pos e2, if_pos (by omega)]
      · rw [if_neg e2, if_neg (by omega)]

/-- the table in memory: the signs' box in block B, the outer row in B + 1, its box in B + 2, the rows behind it -/
structure Mem (W : World) (B n ln : Nat) (s : ByteArray) (t : Tb) : Prop where
  sg : W.cell? ⟨B, 0, none⟩ = some (.string s)
  ob : W.cell? ⟨B + 2, 0, none⟩ = some (.slice (some ⟨B + 1, 0, none⟩) (n + 1) (n + 1))
  oc : ∀ k, k ≤ n → W.cell? ⟨B + 1, k, none⟩ = some (.slice (some ⟨B + 3 + k, 0, none⟩) (ln + 1) (ln + 1))
  t1 : ∀ k a, k ≤ n → a ≤ ln → W.cell? ⟨B + 3 + k, a * 2, none⟩ = some (.int .i64 (t k a).1)
  t2 : ∀ k a, k ≤ n → a ≤ ln → W.cell? ⟨B + 3 + k, a * 2 + 1, none⟩ = some (.int .i64 (t k a).2)
  z : ∀ k o, k ≤ n → W.frozen? ⟨B + 3 + k, o, none⟩ = false
  sz : B + 3 + n + 1 ≤ W.heap.size
theorem Mem.below {W W' : World} {B n ln : Nat} {s : ByteArray} {t : Tb} (h : Mem W B n ln s t) (hb : Below (B + 3 + n + 1) W W') : Mem W' B n ln s t :=
  ⟨(hb.cell (p := ⟨B, 0, none⟩) (by show B < _; omega)).trans h.sg, (hb.cell (p := ⟨B + 2, 0, none⟩) (by show B + 2 < _; omega)).trans h.ob, fun k hk => (hb.cell (p := ⟨B + 1, k, none⟩) (by show B + 1 < _; omega)).trans (h.oc k hk),
    fun k a hk ha => (hb.cell (p := ⟨B + 3 + k, _, none⟩) (by show B + 3 + k < _; omega)).trans (h.t1 k a hk ha), fun k a hk ha => (hb.cell (p := ⟨B + 3 + k, _, none⟩) (by show B + 3 + k < _; omega)).trans (h.t2 k a hk ha),
    fun k o hk => (hb.frozen (p := ⟨B + 3 + k, o, none⟩) (by show B + 3 + k < _; omega)).trans (h.z k o hk), Nat.le_trans h.sz hb.size⟩
theorem Mem.put1 {W : World} {B n ln : Nat} {s : ByteArray} {t : Tb} (h : Mem W B n ln s t) {i a : Nat} (hi : i ≤ n) (ha : a ≤ ln) (x : Int) : Mem (W.setCell ⟨B + 3 + i, a * 2, none⟩ (.int .i64 x)) B n ln s (upd t i a (x, (t i a).2)) := by
  have far : ∀ {b o : Nat} {v : Value}, b ≠ B + 3 + i → W.cell? ⟨b, o, none⟩ = some v → (W.setCell ⟨B + 3 + i, a * 2, none⟩ (.int .i64 x)).cell? ⟨b, o, none⟩ = some v := fun hb hc => (World.cell?_setCell_far W _ _ _ (fun e => hb e.symm)).trans hc
  refine ⟨far (by omega) h.sg, far (by omega) h.ob, fun k hk => far (by omega) (h.oc k hk), fun k b hk hb => ?_, fun k b hk hb => ?_, fun k o hk => by rw [World.frozen?_setCell]; exact h.z k o hk, by rw [World.size_setCell]; exact h.sz⟩
  · by_cases e : k = i ∧ b = a
    · obtain ⟨rfl, rfl⟩ := e
      rw [upd_same, World.cell?_setCell_same W _ _ (h.t1 k b hk hb)]
    · have e1 : upd t i a (x, (t i a).2) k b = t k b := by unfold upd; rw [if_neg e]
      rw [e1, World.cell?_setCell_other W _ _ _ (fun q => e (by simp at q <;> omega))]
      exact h.t1 k b hk hb
  · have e1 : (upd t i a (x, (t i a).2) k b).2 = (t k b).2 := by
      unfold upd
      by_cases e : k = i ∧ b = a
      · rw [if_pos e, e.1, e.2]
      · rw [if_neg e]
    rw [e1, World.cell?_setCell_other W _ _ _ (fun q => by simp at q <;> omega)]
    exact h.t2 k b hk hb
theorem Mem.put2 {W : World} {B n ln : Nat} {s : ByteArray} {t : Tb} (h : Mem W B n ln s t) {i a : Nat} (hi : i ≤ n) (ha : a ≤ ln) (x : Int) : Mem (W.setCell ⟨B + 3 + i, a * 2 + 1, none⟩ (.int .i64 x)) B n ln s (upd t i a ((t i a).1, x)) := by
  have far : ∀ {b o : Nat} {v : Value}, b ≠ B + 3 + i → W.cell? ⟨b, o, none⟩ = some v → (W.setCell ⟨B + 3 + i, a * 2 + 1, none⟩ (.int .i64 x)).cell? ⟨b, o, none⟩ = some v := fun hb hc => (World.cell?_setCell_far W _ _ _ (fun e => hb e.symm)).trans hc
  refine ⟨far (by omega) h.sg, far (by omega) h.ob, fun k hk => far (by omega) (h.oc k hk), fun k b hk hb => ?_, fun k b hk hb => ?_, fun k o hk => by rw [World.frozen?_setCell]; exact h.z k o hk, by rw [World.size_setCell]; exact h.sz⟩
  · have e1 : (upd t i a ((t i a).1, x) k b).1 = (t k b).1 := by
      unfold upd
      by_cases e : k = i ∧ b = a
      · rw [if_pos e, e.1, e.2]
      · rw [if_neg e]
    rw [e1, World.cell?_setCell_other W _ _ _ (fun q => by simp at q <;> omega)]
    exact h.t1 k b hk hb
  · by_cases e : k = i ∧ b = a
    · obtain ⟨rfl, rfl⟩ := e
      rw [upd_same, World.cell?_setCell_same W _ _ (h.t2 k b hk hb)]
    · have e1 : upd t i a ((t i a).1, x) k b = t k b := by unfold upd; rw [if_neg e]
      rw [e1, World.cell?_setCell_other W _ _ _ (fun q => e (by simp at q <;> omega))]
      exact h.t2 k b hk hb
end Go.Proofs.YtkfkkoefpfmjkaaDoor
namespace Go.Proofs.YtkfkkoefpfmjkaaDoor
set_option linter.unusedVariables false
set_option linter.unusedSimpArgs false
open Go.RowKit Go.Shelf
attribute [local go_sem] Oper.semAt_some

/- slices.Backward over rows of ways. -/
def KpB (n₀ Bs : Nat) (W W' : World) : Prop := Below n₀ W W' ∧ W'.heap[Bs]? = W.heap[Bs]?
theorem KpB.t {n₀ Bs : Nat} {A B C : World} (h : KpB n₀ Bs A B) (k : KpB n₀ Bs B C) : KpB n₀ Bs A C := ⟨h.1.trans k.1, k.2.trans h.2⟩
set_option maxRecDepth 100000 in
set_option maxHeartbeats 4000000 in
theorem back1_in (F : Fence) (n : Nat) (h122 : F.fn 122) (hro : F.round = none) (hn : 1 ≤ n) (l Bs n₀ b off len cap : Nat) (V : Nat → Value) (hV : ∀ k, k < len → ∃ A m c, V k = .slice A m c) (hlen : len ≤ 100) (hcap : len ≤ cap) (hb : b < n₀) (J Jx : List (Fin len) → World → Prop)
    (hY : ∀ pre x W, J pre W → pre.length < len → YieldAt F (n - 1) Tryd.prog l #[.int .i64 (x.1 : Int), V x.1] W fun e W' =>
      (e = .returned (.bool true) ∧ J (pre ++ [x]) W' ∧ KpB n₀ Bs W W') ∨ (e = .returned (.bool false) ∧ Jx (pre ++ [x]) W'))
    (W : World) (hBs : W.heap[Bs]? = some (.cells #[.slice (some ⟨b, off, none⟩) len cap] 114 (0, 0))) (hc : ∀ j, j < len → W.cell? ⟨b, off + j, none⟩ = some (V j)) (h0 : J [] W) :
    CallsIn F n Tryd.prog 122 #[.func (.yield l) #[] #[], .pointer (some ⟨Bs, 0, none⟩)] W fun e W' => (∃ v, e = .returned v) ∧
      ((∃ ys, ys = descF len len ∧ J ys W') ∨ (∃ pre, (∃ k, k ≤ len ∧ pre = descF len k) ∧ Jx pre W')) := by
  refine callsIn_of_wp Tryd.func122 rfl h122 ?_ hro
  simp only [Tryd.ntmps122, List.size_toArray, List.length_cons, List.length_nil, Nat.reduceAdd, Nat.reduceSub, Array.replicate_succ, Array.replicate_zero, List.push_toArray, List.append_toArray, List.nil_append, List.cons_append]
  have hb0 : W.cell? ⟨Bs, 0, none⟩ = some (.slice (some ⟨b, off, none⟩) len cap) := cell_of_row _ _ _ _ 114 (0, 0) hBs
  have HBs := Lib.hid hBs
  have H0 := Lib.hid h0
  clear hBs h0
  gi_wp2
  gi_loopw [3] (fun i wr => ∃ k : Nat, k ≤ len ∧ i = .int .i64 ((k : Int) - 1) ∧ Hid (J (descF len (len - k)) wr) ∧ Hid (KpB n₀ Bs W wr)) (fun i _ => (intOf i + 1).toNat)
  case atStart => exact ⟨len, Nat.le_refl _, rfl, Lib.hid (by rw [Nat.sub_self]; exact H0.out), Lib.hid ⟨Below.refl _ _, rfl⟩⟩
  case round =>
    obtain ⟨k, hk, rfl, hJs, hnx⟩ := hrel
    clear hb0
    cases k with
    | zero =>
      rw [show ((0 : Nat) : Int) - 1 = -1 by omega]
      gi_wp2
      go_end0
      exact ⟨⟨_, rfl⟩, .inl ⟨_, rfl, hJs.out⟩⟩
    | succ q =>
      have e1 : ((q + 1 : Nat) : Int) - 1 = (q : Int) := by omega
      have hq : q < len := by omega
      have hb0 : wr.cell? ⟨Bs, 0, none⟩ = some (.slice (some ⟨b, off, none⟩) len cap) := cell_of_row _ _ _ _ 114 (0, 0) (hnx.out.2.trans HBs.out)
      have hcx : wr.cell? ⟨b, off + q, none⟩ = some (V q) := (hnx.out.1.cell (p := ⟨b, off + q, none⟩) hb).trans (hc q hq)
      have hd := descF_succ len (len - (q + 1)) (by omega)
      have hidx : len - 1 - (len - (q + 1)) = q := by omega
      have hl1 : len - (q + 1) + 1 = len - q := by omega
      have hd2 : descF len (len - q) = descF len (len - (q + 1)) ++ [⟨q, hq⟩] := by
        rw [← hl1, hd]; simp only [hidx]
      obtain ⟨fn, tmps, assign, body, hy, hR⟩ := hY _ ⟨q, hq⟩ wr hJs.out (by rw [descF_len len _ (by omega)]; omega)
      dsimp only at hy
      obtain ⟨A', m', c', hv⟩ := hV q hq
      rw [hv] at hcx hy
      have Hd2 := Lib.hid hd2
      have HR := Lib.hid hR
      clear hd hidx hl1 hd2 hR hv
      rw [e1]
      clear e1
      gi_wp2
      refine HR.out.mono ?_
      rintro e W3 (⟨rfl, hJ3, hk3⟩ | ⟨rfl, hJx3⟩)
      · have hb3 : W3.cell? ⟨Bs, 0, none⟩ = some (.slice (some ⟨b, off, none⟩) len cap) := cell_of_row _ _ _ _ 114 (0, 0) (hk3.2.trans (hnx.out.2.trans HBs.out))
        gi_wp2
        go_roundw
        case rel => exact ⟨q, by omega, rfl, Lib.hid (by rw [Hd2.out]; exact hJ3), Lib.hid (hnx.out.t hk3)⟩
        case measure => simp [intOf]
      · gi_wp2
        refine bodyPost_ret (results_none rfl _ _ _) rfl ?_
        exact ⟨⟨_, rfl⟩, .inr ⟨_, ⟨len - q, by omega, Hd2.out.symm⟩, hJx3⟩⟩
theorem back_stops (F : Fence) (n : Nat) (h122 : F.fn 122) (hro : F.round = none) (hn : 1 ≤ n) (Bs n₀ b off len cap : Nat) (V : Nat → Value) (hV : ∀ k, k < len → ∃ A m c, V k = .slice A m c) (hlen : len ≤ 100) (hcap : len ≤ cap) (hb : b < n₀) (w : World) (hn₀ : n₀ ≤ w.heap.size)
    (hBs : w.heap[Bs]? = some (.cells #[.slice (some ⟨b, off, none⟩) len cap] 114 (0, 0))) (hc : ∀ j, j < len → w.cell? ⟨b, off + j, none⟩ = some (V j)) :
    SeqStopsK F n Tryd.prog 122 #[.pointer (some ⟨Bs, 0, none⟩)] (fun x : Fin len => #[Value.int .i64 (x.1 : Int), V x.1]) (KpB n₀ Bs) (fun ys => ys = descF len len) (fun pre => ∃ k, k ≤ len ∧ pre = descF len k) len w := fun l J Jx W hW _ _ hY h0 =>
  back1_in F n h122 hro hn l Bs n₀ b off len cap V hV hlen hcap hb J Jx hY W ((hW.block Bs (Array.getElem?_eq_some_iff.1 hBs).1).trans hBs) (fun j hj => (hW.cell (p := ⟨b, off + j, none⟩) (by show b < w.heap.size; omega)).trans (hc j hj)) h0
set_option maxHeartbeats 1000000 in
theorem back_any (A : Option Addr) (len cap : Nat) (w : World) :
    Calls Tryd.prog 99 #[.slice A len cap] w fun e w' => e = .returned (.func (.func 122) #[] #[.pointer (some ⟨w.heap.size, 0, none⟩)]) ∧ w' = w.alloc (.cells #[.slice A len cap] 114) := by
  go_enter Tryd.func99, Tryd.ntmps99
  go_wp2_with fail
  go_ret
  exact ⟨rfl, rfl⟩
end Go.Proofs.YtkfkkoefpfmjkaaDoor
namespace Go.Proofs.YtkfkkoefpfmjkaaDoor
set_option linter.unusedVariables false
set_option linter.unusedSimpArgs false
open Go.RowKit

/- rests, first part: the table is laid. -/
theorem info111 : Tryd.prog.info? 111 = some Tryd.t111 := by kernel_rfl
theorem zero111 : Tryd.t111.zero = some (.slice none 0 0) := by kernel_rfl
theorem size111 : Tryd.t111.size = 1 := by kernel_rfl
theorem bytes111 : Tryd.t111.bytes = 24 := by kernel_rfl
theorem info110 : Tryd.prog.info? 110 = some Tryd.t110 := by kernel_rfl
theorem zero110 : Tryd.t110.zero = some (.agg #[.int .i64 0, .int .i64 0]) := by kernel_rfl
theorem size110 : Tryd.t110.size = 2 := by kernel_rfl
theorem bytes110 : Tryd.t110.bytes = 16 := by kernel_rfl
theorem made_nil (n k : Nat) (h : k < n) : (madeCells #[.slice none 0 0] n)[k]? = some (.slice none 0 0) := by
  unfold madeCells
  simp [h, Nat.mod_one]
theorem made_zero (n k : Nat) (h : k < n) : (madeCells #[.int .i64 0, .int .i64 0] n)[k]? = some (.int .i64 0) := by
  unfold madeCells
  simp only [Array.getElem?_map, Array.getElem?_range, h]
  rcases Nat.mod_two_eq_zero_or_one k with e | e <;> simp [e]
theorem make_outer (n : Nat) (hn : n ≤ 100) (W : World) : (Instr.makeSlice 112 (.int .i64 ((n : Int) + 1)) (.int .i64 ((n : Int) + 1))).run Tryd.prog W = .ok (.slice (some ⟨W.heap.size, 0, none⟩) (n + 1) (n + 1)) (W.alloc (.cells (madeCells #[.slice none 0 0] (n + 1)) 111)) := by
  have h := run_make (P := Tryd.prog) W 112 111 _ _ Tryd.underlying112 info111 zero111 .i64 .i64 ((n : Int) + 1) ((n : Int) + 1) (by omega) (by omega) (by rw [bytes111]; omega) (by omega)
  rw [h, size111, show ((n : Int) + 1).toNat = n + 1 by omega, Nat.mul_one]
  rfl
theorem make_row (n : Nat) (hn : n ≤ 100) (W : World) : (Instr.makeSlice 111 (.int .i64 ((n : Int) + 1)) (.int .i64 ((n : Int) + 1))).run Tryd.prog W = .ok (.slice (some ⟨W.heap.size, 0, none⟩) (n + 1) (n + 1)) (W.alloc (.cells (madeCells #[.int .i64 0, .int .i64 0] ((n + 1) * 2)) 110)) := by
  have h := run_make (P := Tryd.prog) W 111 110 _ _ Tryd.underlying111 info110 zero110 .i64 .i64 ((n : Int) + 1) ((n : Int) + 1) (by omega) (by omega) (by rw [bytes110]; omega) (by omega)
  rw [h, size110, show ((n : Int) + 1).toNat = n + 1 by omega]
  rfl
structure Fill (w W : World) (B n ln : Nat) (s : ByteArray) (k : Nat) : Prop where
  sg : W.cell? ⟨B, 0, none⟩ = some (.string s)
  ob : W.cell? ⟨B + 2, 0, none⟩ = some (.slice (some ⟨B + 1, 0, none⟩) (n + 1) (n + 1))
  oc : ∀ j, j < k → W.cell? ⟨B + 1, j, none⟩ = some (.slice (some ⟨B + 3 + j, 0, none⟩) (ln + 1) (ln + 1))
  on : ∀ j, k ≤ j → j ≤ n → W.cell? ⟨B + 1, j, none⟩ = some (.slice none 0 0)
  oz : ∀ j, W.frozen? ⟨B + 1, j, none⟩ = false
  r : ∀ j o, j < k → o < (ln + 1) * 2 → W.cell? ⟨B + 3 + j, o, none⟩ = some (.int .i64 0)
  z : ∀ j o, j < k → W.frozen? ⟨B + 3 + j, o, none⟩ = false
  sz : W.heap.size = B + 3 + k
  bl : Below B w W
theorem Fill.step {w W : World} {B n ln : Nat} {s : ByteArray} {k : Nat} (h : Fill w W B n ln s k) (hk : k ≤ n) :
    Fill w ((W.drew.alloc (.cells (madeCells #[.int .i64 0, .int .i64 0] ((ln + 1) * 2)) 110)).setCell ⟨B + 1, k, none⟩ (.slice (some ⟨B + 3 + k, 0, none⟩) (ln + 1) (ln + 1))) B n ln s (k + 1) := by
  generalize hM : madeCells #[.int .i64 0, .int .i64 0] ((ln + 1) * 2) = M
  have hsz := h.sz
  have old : ∀ {b o : Nat} {v : Value}, b < W.heap.size → W.cell? ⟨b, o, none⟩ = some v → (W.drew.alloc (.cells M 110)).cell? ⟨b, o, none⟩ = some v := fun hb hc => (World.cell?_alloc_lt W.drew _ _ hb).trans hc
  have oldz : ∀ {b o : Nat}, b < W.heap.size → W.frozen? ⟨b, o, none⟩ = false → (W.drew.alloc (.cells M 110)).frozen? ⟨b, o, none⟩ = false := fun hb hc => (World.frozen?_alloc_old W.drew _ _ (Nat.ne_of_lt hb)).trans hc
  have far : ∀ {b o : Nat} {v : Value}, b ≠ B + 1 → (W.drew.alloc (.cells M 110)).cell? ⟨b, o, none⟩ = some v → ((W.drew.alloc (.cells M 110)).setCell ⟨B + 1, k, none⟩ (.slice (some ⟨B + 3 + k, 0, none⟩) (ln + 1) (ln + 1))).cell? ⟨b, o, none⟩ = some v := fun hb hc => (World.cell?_setCell_far _ _ _ _ (fun e => hb e.symm)).trans hc
  have hnew : ∀ o, o < (ln + 1) * 2 → (W.drew.alloc (.cells M 110)).cell? ⟨B + 3 + k, o, none⟩ = some (.int .i64 0) := fun o ho => by
    have := World.cell?_alloc_new W.drew M 110 o
    rw [show W.drew.heap.size = B + 3 + k from hsz] at this
    rw [this, ← hM, made_zero _ _ ho]
  have hnz : ∀ o, (W.drew.alloc (.cells M 110)).frozen? ⟨B + 3 + k, o, none⟩ = false := fun o => by
    have := World.frozen?_alloc_new W.drew M 110 o
    rw [show W.drew.heap.size = B + 3 + k from hsz] at this
    exact this
  refine ⟨far (by omega) (old (by omega) h.sg), far (by omega) (old (by omega) h.ob), fun j hj => ?_, fun j hj hjn => ?_, fun j => by rw [World.frozen?_setCell]; exact oldz (by omega) (h.oz j), fun j o hj ho => ?_, fun j o hj => ?_, by rw [World.size_setCell]; simp; omega, ?_⟩
  · by_cases e : j = k
    · subst e
      exact World.cell?_setCell_same _ _ _ (old (by omega) (h.on j (Nat.le_refl _) hk))
    · rw [World.cell?_setCell_other _ _ _ _ (fun q => e (by simp at q <;> omega))]
      exact old (by omega) (h.oc j (by omega))
  · rw [World.cell?_setCell_other _ _ _ _ (fun q => by simp at q <;> omega)]
    exact old (by omega) (h.on j (by omega) hjn)
  · refine far (by omega) ?_
    by_cases e : j = k
    · subst e; exact hnew o ho
    · exact old (by omega) (h.r j o (by omega) ho)
  · rw [World.frozen?_setCell]
    by_cases e : j = k
    · subst e; exact hnz o
    · exact oldz (by omega) (h.z j o (by omega))
  · exact ((h.bl.drew).alloc (by show B ≤ W.heap.size; omega) _).setCell (p := ⟨B + 1, k, none⟩) (by show B ≤ B + 1; omega) _
/-- the table is laid: its last cell is told -/
theorem Fill.mem {w W : World} {B n ln : Nat} {s : ByteArray} (h : Fill w W B n ln s (n + 1)) : Mem (W.setCell ⟨B + 3 + n, ln * 2 + 1, none⟩ (.int .i64 1)) B n ln s (tab0 n ln) := by
  have m : Mem W B n ln s (fun _ _ => (0, 0)) := ⟨h.sg, h.ob, fun k hk => h.oc k (by omega), fun k a hk ha => h.r k _ (by omega) (by omega), fun k a hk ha => h.r k _ (by omega) (by omega), fun k o hk => h.z k o (by omega), by have := h.sz; omega⟩
  exact m.put2 (Nat.le_refl n) (Nat.le_refl ln) 1
end Go.Proofs.YtkfkkoefpfmjkaaDoor
/- The frame of rests in a round: 142 slots, of which few are known. -/
namespace Go.Proofs.YtkfkkoefpfmjkaaDoor
set_option linter.unusedVariables false
set_option linter.unusedSimpArgs false
open Go.RowKit
set_option maxRecDepth 100000 in
theorem arr_142 (f : Nat → Value) : #[f 0, f 1, f 2, f 3, f 4, f 5, f 6, f 7, f 8, f 9, f 10, f 11, f 12, f 13, f 14, f 15, f 16, f 17, f 18, f 19, f 20, f 21, f 22, f 23, f 24, f 25, f 26, f 27, f 28, f 29, f 30, f 31, f 32, f 33, f 34, f 35, f 36, f 37, f 38, f 39, f 40, f 41, f 42, f 43, f 44, f 45, f 46, f 47, f 48, f 49, f 50, f 51, f 52, f 53, f 54, f 55, f 56, f 57, f 58, f 59, f 60, f 61, f 62, f 63, f 64, f 65, f 66, f 67, f 68, f 69, f 70, f 71, f 72, f 73, f 74, f 75, f 76, f 77, f 78, f 79, f 80, f 81, f 82, f 83, f 84, f 85, f 86, f 87, f 88, f 89, f 90, f 91, f 92, f 93, f 94, f 95, f 96, f 97, f 98, f 99, f 100, f 101, f 102, f 103, f 104, f 105, f 106, f 107, f 108, f 109, f 110, f 111, f 112, f 113, f 114, f 115, f 116, f 117, f 118, f 119, f 120, f 121, f 122, f 123, f 124, f 125, f 126, f 127, f 128, f 129, f 130, f 131, f 132, f 133, f 134, f 135, f 136, f 137, f 138, f 139, f 140, f 141] = ((List.range 142).map f).toArray := by kernel_rfl
theorem arr_of142 (t : Array Value) (h : t.size = 142) : t = ((List.range 142).map fun n => t.getD n undef).toArray := by
  apply Array.ext
  · simp [h]
  · intro i h1 h2
    simp [Array.getD, h1]
def FrR (B x : Nat) (v : Value) (a : Act) : Prop := ∃ f : Nat → Value, a = { tmps := #[f 0, f 1, f 2, .pointer (some ⟨B, 0, none⟩), f 4, .pointer (some ⟨B + 1 + 1, 0, none⟩), f 6, .int .i64 (x : Int), v, f 9, f 10, f 11, f 12, f 13, f 14, f 15, f 16, f 17, f 18, f 19, f 20, f 21, f 22, f 23, f 24, f 25, f 26, f 27, f 28, f 29, f 30, f 31, f 32, f 33, f 34, f 35, f 36, f 37, f 38, f 39, f 40, f 41, f 42, f 43, f 44, f 45, f 46, f 47, f 48, f 49, f 50, f 51, f 52, f 53, f 54, f 55, f 56, f 57, f 58, f 59, f 60, f 61, f 62, f 63, f 64, f 65, f 66, f 67, f 68, f 69, f 70, f 71, f 72, f 73, f 74, f 75, f 76, f 77, f 78, f 79, f 80, f 81, f 82, f 83, f 84, f 85, f 86, f 87, f 88, f 89, f 90, f 91, f 92, f 93, f 94, f 95, f 96, f 97, f 98, f 99, f 100, f 101, f 102, f 103, f 104, f 105, f 106, f 107, f 108, f 109, f 110, f 111, f 112, f 113, f 114, f 115, f 116, f 117, f 118, f 119, f 120, f 121, f 122, f 123, f 124, f 125, f 126, f 127, f 128, f 129, f 130, f 131, f 132, f 133, f 134, f 135, f 136, f 137, f 138, f 139, f 140, f 141], defers := [] }
set_option maxRecDepth 100000 in
theorem FrR.of {B x : Nat} {v : Value} {a : Act} (hd : a.defers = []) (hs : a.tmps.size = 142) (h3 : a.tmps.getD 3 undef = .pointer (some ⟨B, 0, none⟩)) (h5 : a.tmps.getD 5 undef = .pointer (some ⟨B + 1 + 1, 0, none⟩)) (h7 : a.tmps.getD 7 undef = .int .i64 (x : Int)) (h8 : a.tmps.getD 8 undef = v) : FrR B x v a := by
  refine ⟨fun n => a.tmps.getD n undef, ?_⟩
  have e := (arr_of142 a.tmps hs).trans (arr_142 fun n => a.tmps.getD n undef).symm
  obtain ⟨t, d⟩ := a
  simp only [] at *
  rw [h3, h5, h7, h8] at e
  rw [hd, ← e]
end Go.Proofs.YtkfkkoefpfmjkaaDoor

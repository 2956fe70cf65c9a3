import Derived.Test.YtkfkkoefpfmjkaaGreatDoorVB
import Derived.Test.YtkfkkoefpfmjkaaGreatDoorVD
import Derived.Deep.RegionHeld3
namespace Go.Proofs.YtkfkkoefpfmjkaaGreatDoor
set_option linter.unusedVariables false
set_option linter.unusedSimpArgs false
open Go.RowKit

/- The reference's choices. -/
theorem row_le {w : World} {base base' : Nat} {v : Value} {n : Nat} {xs : List Value} (h : w.ownsRow base 64 2 v n xs) (hb : base' ≤ base) : w.ownsRow base' 64 2 v n xs :=
  ⟨h.1, h.2.imp id fun ⟨g, cp, cur, a1, a2, a3⟩ => ⟨g, cp, cur, a1, by omega, a3⟩⟩
end Go.Proofs.YtkfkkoefpfmjkaaGreatDoor
/- The reference's table of states in memory. -/
namespace Go.Proofs.YtkfkkoefpfmjkaaGreatDoor
set_option linter.unusedVariables false
set_option linter.unusedSimpArgs false
open Go.RowKit

/-- the table: the outer row in block G, the rows behind it -/
structure Tab (W : World) (G n ln : Nat) (t : Tb) : Prop where
  oc : ∀ k, k ≤ n → W.cell? ⟨G, k, none⟩ = some (.slice (some ⟨G + 1 + k, 0, none⟩) (ln + 1) (ln + 1))
  t1 : ∀ k a, k ≤ n → a ≤ ln → W.cell? ⟨G + 1 + k, a * 2, none⟩ = some (.int .i64 (t k a).1)
  t2 : ∀ k a, k ≤ n → a ≤ ln → W.cell? ⟨G + 1 + k, a * 2 + 1, none⟩ = some (.int .i64 (t k a).2)
  z : ∀ k o, k ≤ n → W.frozen? ⟨G + 1 + k, o, none⟩ = false
  sz : G + 1 + n + 1 ≤ W.heap.size
theorem Tab.below {W W' : World} {G n ln : Nat} {t : Tb} (h : Tab W G n ln t) (hb : Below (G + 1 + n + 1) W W') : Tab W' G n ln t :=
  ⟨fun k hk => (hb.cell (p := ⟨G, k, none⟩) (by show G < _; omega)).trans (h.oc k hk), fun k a hk ha => (hb.cell (p := ⟨G + 1 + k, _, none⟩) (by show G + 1 + k < _; omega)).trans (h.t1 k a hk ha), fun k a hk ha => (hb.cell (p := ⟨G + 1 + k, _, none⟩) (by show G + 1 + k < _; omega)).trans (h.t2 k a hk ha),
    fun k o hk => (hb.frozen (p := ⟨G + 1 + k, o, none⟩) (by show G + 1 + k < _; omega)).trans (h.z k o hk), Nat.le_trans h.sz hb.size⟩
theorem Tab.congr {W : World} {G n ln : Nat} {t t' : Tb} (h : Tab W G n ln t) (e : ∀ k a, k ≤ n → a ≤ ln → t k a = t' k a) : Tab W G n ln t' :=
  ⟨h.oc, fun k a hk ha => by rw [← e k a hk ha]; exact h.t1 k a hk ha, fun k a hk ha => by rw [← e k a hk ha]; exact h.t2 k a hk ha, h.z, h.sz⟩
theorem Tab.put {W : World} {G n ln : Nat} {t : Tb} (h : Tab W G n ln t) {i a : Nat} (hi : i ≤ n) (ha : a ≤ ln) (c : Cell) :
    Tab ((W.setCell ⟨G + 1 + i, a * 2, none⟩ (.int .i64 c.1)).setCell ⟨G + 1 + i, a * 2 + 1, none⟩ (.int .i64 c.2)) G n ln (upd t i a c) := by
  have far : ∀ {b o : Nat} {v : Value}, b ≠ G + 1 + i → W.cell? ⟨b, o, none⟩ = some v → ((W.setCell ⟨G + 1 + i, a * 2, none⟩ (.int .i64 c.1)).setCell ⟨G + 1 + i, a * 2 + 1, none⟩ (.int .i64 c.2)).cell? ⟨b, o, none⟩ = some v := fun hb hc =>
    (World.cell?_setCell_far _ _ _ _ (fun e => hb e.symm)).trans ((World.cell?_setCell_far W _ _ _ (fun e => hb e.symm)).trans hc)
  refine ⟨fun k hk => far (by omega) (h.oc k hk), fun k b hk hb => ?_, fun k b hk hb => ?_, fun k o hk => by rw [World.frozen?_setCell, World.frozen?_setCell]; exact h.z k o hk, by rw [World.size_setCell, World.size_setCell]; exact h.sz⟩
  · by_cases e : k = i ∧ b = a
    · obtain ⟨rfl, rfl⟩ := e
      rw [upd_same, World.cell?_setCell_other _ _ _ _ (fun q => by simp at q <;> omega), World.cell?_setCell_same W _ _ (h.t1 k b hk hb)]
    · have e1 : upd t i a c k b = t k b := by unfold upd; rw [if_neg e]
      rw [e1, World.cell?_setCell_other _ _ _ _ (fun q => by simp at q <;> omega), World.cell?_setCell_other W _ _ _ (fun q => e (by simp at q <;> omega))]
      exact h.t1 k b hk hb
  · by_cases e : k = i ∧ b = a
    · obtain ⟨rfl, rfl⟩ := e
      have h2 : (W.setCell ⟨G + 1 + k, b * 2, none⟩ (.int .i64 c.1)).cell? ⟨G + 1 + k, b * 2 + 1, none⟩ = some (.int .i64 (t k b).2) := by
        rw [World.cell?_setCell_other W _ _ _ (fun q => by simp at q <;> omega)]; exact h.t2 k b hk hb
      rw [upd_same, World.cell?_setCell_same _ _ _ h2]
    · have e1 : upd t i a c k b = t k b := by unfold upd; rw [if_neg e]
      rw [e1, World.cell?_setCell_other _ _ _ _ (fun q => e (by simp at q <;> omega)), World.cell?_setCell_other W _ _ _ (fun q => by simp at q <;> omega)]
      exact h.t2 k b hk hb
structure Fill2 (w W : World) (G n ln k : Nat) : Prop where
  oc : ∀ j, j < k → W.cell? ⟨G, j, none⟩ = some (.slice (some ⟨G + 1 + j, 0, none⟩) (ln + 1) (ln + 1))
  on : ∀ j, k ≤ j → j ≤ n → W.cell? ⟨G, j, none⟩ = some (.slice none 0 0)
  oz : ∀ j, W.frozen? ⟨G, j, none⟩ = false
  r : ∀ j o, j < k → o < (ln + 1) * 2 → W.cell? ⟨G + 1 + j, o, none⟩ = some (.int .i64 0)
  z : ∀ j o, j < k → W.frozen? ⟨G + 1 + j, o, none⟩ = false
  sz : W.heap.size = G + 1 + k
  bl : Below G w W
theorem Fill2.tab {w W : World} {G n ln : Nat} (h : Fill2 w W G n ln (n + 1)) : Tab W G n ln (fun _ _ => (0, 0)) :=
  ⟨fun k hk => h.oc k (by omega), fun k a hk ha => h.r k _ (by omega) (by omega), fun k a hk ha => h.r k _ (by omega) (by omega), fun k o hk => h.z k o (by omega), by have := h.sz; omega⟩
/-- the rows that are done -/
def tabS (rows : List (List Way)) (s : ByteArray) (n j : Nat) : Tb := fun k a => if n - j ≤ k then restT rows s k a else (0, 0)
theorem tabS_start (rows : List (List Way)) (s : ByteArray) : ∀ k a, k ≤ rows.length → a ≤ s.size → upd (fun _ _ => (0, 0)) rows.length s.size (0, 1) k a = tabS rows s rows.length 0 k a := by
  intro k a hk ha
  have e := tab_desc rows s.data.toList 0 (Nat.zero_le _) k a hk (by simpa using ha)
  unfold tabS upd restT
  have hl : s.data.toList.length = s.size := by simp
  rw [← e]
  show _ = tab0 rows.length s.data.toList.length k a
  rw [hl]
  rfl
/-- row i, as far as place A -/
def tabT (rows : List (List Way)) (s : ByteArray) (n i A : Nat) : Tb := fun k a => if i < k ∨ (k = i ∧ a < A) then restT rows s k a else (0, 0)
theorem restT_row (rows : List (List Way)) (s : ByteArray) (i a : Nat) (hi : i < rows.length) : restT rows s i a = (rows.getD i []).foldl (stepR (s.data.toList.drop a) (fun q => restT rows s (i + 1) (a + q))) (0, 0) := by
  unfold restT
  have hd : rows.drop i = rows.getD i [] :: rows.drop (i + 1) := by
    rw [List.drop_eq_getElem_cons hi]; simp [List.getD_eq_getElem?_getD, hi]
  rw [hd]
  show (rows.getD i []).foldl (stepR (s.data.toList.drop a) (fun q => restR (rows.drop (i + 1)) ((s.data.toList.drop a).drop q))) (0, 0) = _
  refine fold_congr (fun q _ => ?_) _ _
  rw [drop_drop']
theorem rest_cost {rows : List (List Way)} {s : ByteArray} (hr : ∀ l ∈ rows, ∀ v ∈ l, 0 ≤ v.2 ∧ v.2 ≤ 1048576) (k a : Nat) (hk : k ≤ rows.length) (ha : a ≤ s.size) : 0 ≤ (restT rows s k a).1 ∧ (restT rows s k a).1 ≤ (rows.length : Int) * 1048576 := by
  have h1 := tabOf_costs (s := s.data.toList) (n := rows.length) (ln := s.size) hr (descF rows.length rows.length) _ 0 (tab0_costs rows.length s.size)
  rw [Nat.zero_add, descF_len _ _ (Nat.le_refl _)] at h1
  have h2 := h1 k a
  have h3 := tab_all rows s rows.length rfl k a hk ha
  unfold tabOf at h3
  rw [h3] at h2
  exact h2
end Go.Proofs.YtkfkkoefpfmjkaaGreatDoor
namespace Go.Proofs.YtkfkkoefpfmjkaaGreatDoor
set_option linter.unusedVariables false
set_option linter.unusedSimpArgs false
open Go.RowKit

/- The reference's states. -/
def tabK (rows : List (List Way)) (s : ByteArray) (K : Nat) : Tb := fun k a => if K ≤ k then restT rows s k a else (0, 0)
def StatesOk (rows : List (List Way)) (s : ByteArray) (w : World) (e : Ending) (w' : World) : Prop :=
  e = .returned (.slice (some ⟨w.heap.size, 0, none⟩) (rows.length + 1) (rows.length + 1)) ∧ Tab w' w.heap.size rows.length s.size (restT rows s) ∧ Below w.heap.size w w'
theorem tabT_zero (rows : List (List Way)) (s : ByteArray) (n i : Nat) : tabT rows s n i 0 = tabK rows s (i + 1) := by
  funext k a; unfold tabT tabK
  by_cases h : i + 1 ≤ k
  · rw [if_pos (.inl h), if_pos h]
  · rw [if_neg (by omega), if_neg h]
theorem tabT_full (rows : List (List Way)) (s : ByteArray) (n i : Nat) : ∀ k a, k ≤ n → a ≤ s.size → tabT rows s n i (s.size + 1) k a = tabK rows s i k a := by
  intro k a hk ha; unfold tabT tabK
  by_cases h : i ≤ k
  · rw [if_pos (by omega), if_pos h]
  · rw [if_neg (by omega), if_neg h]
theorem tabT_succ (rows : List (List Way)) (s : ByteArray) (n i A : Nat) : tabT rows s n i (A + 1) = upd (tabT rows s n i A) i A (restT rows s i A) := by
  funext k a
  show (if i < k ∨ (k = i ∧ a < A + 1) then restT rows s k a else (0, 0)) = (if k = i ∧ a = A then restT rows s i A else (if i < k ∨ (k = i ∧ a < A) then restT rows s k a else (0, 0)))
  by_cases h : k = i ∧ a = A
  · rw [if_pos (by omega), if_pos h, h.1, h.2]
  · rw [if_neg h]
    by_cases h2 : i < k ∨ (k = i ∧ a < A)
    · rw [if_pos (by omega), if_pos h2]
    · rw [if_neg (by omega), if_neg h2]
theorem has_ext (s : ByteArray) (a : Nat) (v : ByteArray) (h : a + v.size ≤ s.size) : Lib.hasPrefix (s.data.toList.drop a) v.data.toList = ((s.extract a (a + v.size)).toList == v.toList) := by
  have e : (s.extract a (a + v.size)).data.toList = (s.data.toList.drop a).take v.data.toList.length := by
    rw [ByteArray.data_extract, Array.toList_extract, List.extract_eq_take_drop]
    congr 1
    simp
  rw [ByteArray.toList_eq, ByteArray.toList_eq, e, Bool.eq_iff_iff, beq_iff_eq]
  unfold Lib.hasPrefix
  rw [List.isPrefixOf_iff_prefix, List.prefix_iff_eq_take]
  exact eq_comm
theorem stepR_no {D : List UInt8} {nx : Nat → Cell} {b : Cell} {v : Way} (h : Lib.hasPrefix D v.1.data.toList = false) : stepR D nx b v = b := by
  unfold stepR; rw [h]; rfl
theorem stepR_big {s : ByteArray} {a : Nat} {nx : Nat → Cell} {b : Cell} {v : Way} (ha : a ≤ s.size) (h : s.size < a + v.1.size) : stepR (s.data.toList.drop a) nx b v = b := by
  refine stepR_no ?_
  cases hp : Lib.hasPrefix (s.data.toList.drop a) v.1.data.toList with
  | false => rfl
  | true =>
    have := hasPrefix_len hp
    simp only [List.length_drop, Array.length_toList, ByteArray.size_data] at this
    omega
theorem stepR_yes {D : List UInt8} {nx : Nat → Cell} {b : Cell} {v : Way} (h : Lib.hasPrefix D v.1.data.toList = true) : stepR D nx b v = stepB true (nx v.1.size) v.2 b := by
  unfold stepR stepB; rw [if_pos h, if_pos rfl]
end Go.Proofs.YtkfkkoefpfmjkaaGreatDoor

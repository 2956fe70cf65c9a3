import Derived.Test.YtgcdopafblcbhaaGreatDoorVA
/- The reference's phones, plain: rows that stay good while they are sorted. -/
namespace Go.Proofs.YtgcdopafblcbhaaGreatDoor
set_option linter.unusedVariables false
set_option linter.unusedSimpArgs false
open Go.RowKit Go.Lib Go.Shelf

structure RowV where
  r : Int
  vow : Bool
  h : Int
  b : Int
  ro : Bool
  p : Int
  m : Int
  vo : Bool
def RowV.cells (x : RowV) : List Value := [.int .i32 x.r, .bool x.vow, .int .i64 x.h, .int .i64 x.b, .bool x.ro, .int .i64 x.p, .int .i64 x.m, .bool x.vo]
def cellsR (L : List RowV) : List Value := L.flatMap RowV.cells
def nilR : RowV := ⟨0, false, 0, 0, false, 0, 0, false⟩
theorem cells_len (x : RowV) : x.cells.length = 8 := rfl
theorem cellsR_len : ∀ L : List RowV, (cellsR L).length = L.length * 8
  | [] => rfl
  | x :: l => by
    have := cellsR_len l
    unfold cellsR at this ⊢
    rw [List.flatMap_cons, List.length_append, this, cells_len, List.length_cons]; omega
theorem cellsR_split (L : List RowV) (k : Nat) (h : k < L.length) : cellsR L = cellsR (L.take k) ++ ((L.getD k nilR).cells ++ cellsR (L.drop (k + 1))) := by
  have e : L = L.take k ++ (L.getD k nilR :: L.drop (k + 1)) := by
    rw [List.getD_eq_getElem?_getD, List.getElem?_eq_getElem h, Option.getD_some, ← List.drop_eq_getElem_cons h, List.take_append_drop]
  conv => lhs; rw [e]
  unfold cellsR
  rw [List.flatMap_append, List.flatMap_cons]
theorem cellsR_take_len (L : List RowV) (k : Nat) (h : k < L.length) : (cellsR (L.take k)).length = k * 8 := by
  rw [cellsR_len, List.length_take]; congr 1; omega
theorem cellsR_get (L : List RowV) (k : Nat) (h : k < L.length) (j : Nat) (hj : j < 8) : (cellsR L)[k * 8 + j]? = (L.getD k nilR).cells[j]? := by
  rw [cellsR_split L k h, List.getElem?_append_right (by rw [cellsR_take_len L k h]; omega), cellsR_take_len L k h, Nat.add_sub_cancel_left, List.getElem?_append_left (by rw [cells_len]; exact hj)]
theorem cellsR_set (L : List RowV) (k : Nat) (h : k < L.length) (x : RowV) : (cellsR L).take (k * 8) ++ x.cells ++ (cellsR L).drop (k * 8 + 8) = cellsR (L.set k x) := by
  have h' : k < (L.set k x).length := by rw [List.length_set]; exact h
  rw [cellsR_split (L.set k x) k h']
  have e1 : (L.set k x).getD k nilR = x := by simp [List.getD_eq_getElem?_getD, h]
  have e2 : (L.set k x).take k = L.take k := by simp [List.take_set_of_le]
  have e3 : (L.set k x).drop (k + 1) = L.drop (k + 1) := by simp [List.drop_set_of_lt]
  rw [e1, e2, e3, List.append_assoc]
  have hs := cellsR_split L k h
  have hl := cellsR_take_len L k h
  have t1 : (cellsR L).take (k * 8) = cellsR (L.take k) := by rw [hs, ← hl]; simp
  have t2 : (cellsR L).drop (k * 8 + 8) = cellsR (L.drop (k + 1)) := by
    rw [hs, ← List.append_assoc]
    exact List.drop_left' (by rw [List.length_append, hl, cells_len])
  rw [t1, t2]
structure GoodR (L : List RowV) : Prop where
  n : L.length = 38
  a : ∃ i, i < 38 ∧ (L.getD i nilR).r = 97
  v : ∀ i, i < 38 → (L.getD i nilR).r = 97 → (L.getD i nilR).vow = true
def swapR (L : List RowV) (k : Nat) : List RowV := (L.set k (L.getD (k - 1) nilR)).set (k - 1) (L.getD k nilR)
theorem swap_get (L : List RowV) (k i : Nat) (hk : 0 < k) (hk2 : k < L.length) (hi : i < L.length) : (swapR L k).getD i nilR = if i = k - 1 then L.getD k nilR else if i = k then L.getD (k - 1) nilR else L.getD i nilR := by
  unfold swapR
  have hl : (L.set k (L.getD (k - 1) nilR)).length = L.length := List.length_set
  by_cases h1 : i = k - 1
  · subst h1
    rw [if_pos rfl, List.getD_eq_getElem?_getD, List.getElem?_set_self (by omega)]; rfl
  · rw [if_neg h1, List.getD_eq_getElem?_getD, List.getElem?_set_ne (by omega)]
    by_cases h2 : i = k
    · subst h2
      rw [if_pos rfl, List.getElem?_set_self (by omega)]; rfl
    · rw [if_neg h2, List.getElem?_set_ne (by omega)]; rfl
theorem GoodR.swap {L : List RowV} (h : GoodR L) {k : Nat} (hk : 0 < k) (hk2 : k < 38) : GoodR (swapR L k) := by
  have hn := h.n
  have g := fun i (hi : i < 38) => swap_get L k i hk (by omega) (by omega)
  refine ⟨by unfold swapR; simp [hn], ?_, fun i hi hr => ?_⟩
  · obtain ⟨i, hi, hr⟩ := h.a
    by_cases h1 : i = k
    · refine ⟨k - 1, by omega, ?_⟩
      rw [g (k - 1) (by omega), if_pos rfl, ← h1]; exact hr
    · by_cases h2 : i = k - 1
      · refine ⟨k, hk2, ?_⟩
        rw [g _ hk2, if_neg (by omega), if_pos rfl, ← h2]; exact hr
      · refine ⟨i, hi, ?_⟩
        rw [g _ hi, if_neg h2, if_neg h1]; exact hr
  · rw [g _ hi] at hr ⊢
    split at hr
    · rename_i e; rw [if_pos e]; exact h.v _ hk2 hr
    · rename_i e
      rw [if_neg e]
      split at hr
      · rename_i e2; rw [if_pos e2]; exact h.v _ (by omega) hr
      · rename_i e2; rw [if_neg e2]; exact h.v _ hi hr
end Go.Proofs.YtgcdopafblcbhaaGreatDoor

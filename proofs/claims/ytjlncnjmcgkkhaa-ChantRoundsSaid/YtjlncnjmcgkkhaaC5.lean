import Derived.Test.YtjlncnjmcgkkhaaC4
import Derived.Test.YtjlncnjmcgkkhaaCo
namespace Go.Proofs.Ytjlncnjmcgkkhaa
set_option linter.unusedVariables false
set_option linter.unusedSimpArgs false
open Go.RowKit
attribute [local go_sem] run_store_float

/- The reference's Merge. -/
theorem nan_ne (a : Nat) : (FloatKind.f64.format.order a a != some .eq) = Fl.nanB a := Fl.nanB_order a
theorem nan_eq (a : Nat) : (FloatKind.f64.format.order a a == some .eq) = !Fl.nanB a := by
  rw [← nan_ne]; simp [bne]
set_option maxRecDepth 100000 in
/-- ahead: does a moment stand ahead of another one? -/
theorem ahead_any (a b : Nat) (w : World) : Calls Try.prog 46 #[.float .f64 a, .float .f64 b] w fun e w' => e = .returned (.bool (decide (Fl.mom a b < 0))) ∧ w = w' := by
  cases ha : Fl.key a with
  | none =>
    have m1 : FloatKind.f64.format.order a b = none := Fl.order_none ha
    have m2 : FloatKind.f64.format.order a a = none := Fl.order_none ha
    have e : decide (Fl.mom a b < 0) = false := by unfold Fl.mom; rw [ha]; cases Fl.key b <;> rfl
    rw [e]; clear e ha
    go_enter Try.func46, Try.ntmps46
    go_wp2
    go_ret; exact ⟨rfl, rfl⟩
  | some x =>
    have m2 : FloatKind.f64.format.order a a = some .eq := Fl.order_self ha
    cases hb : Fl.key b with
    | none =>
      have m1 : FloatKind.f64.format.order a b = none := Fl.order_none' hb
      have m3 : FloatKind.f64.format.order b b = none := Fl.order_none hb
      have e : decide (Fl.mom a b < 0) = true := by unfold Fl.mom; rw [ha, hb]; rfl
      rw [e]; clear e ha hb
      go_enter Try.func46, Try.ntmps46
      go_wp2
      go_ret; exact ⟨rfl, rfl⟩
    | some y =>
      have m3 : FloatKind.f64.format.order b b = some .eq := Fl.order_self hb
      have m1 : FloatKind.f64.format.order a b = some (compare x y) := Fl.order_some ha hb
      rcases Int.lt_trichotomy x y with h | h | h
      · have e : decide (Fl.mom a b < 0) = true := by unfold Fl.mom; rw [ha, hb]; simp [h]
        rw [Int.compare_eq_lt.2 h] at m1
        rw [e]; clear e ha hb h
        go_enter Try.func46, Try.ntmps46
        go_wp2
        go_ret; exact ⟨rfl, rfl⟩
      · have e : decide (Fl.mom a b < 0) = false := by unfold Fl.mom; rw [ha, hb]; simp [h]
        rw [Int.compare_eq_eq.2 h] at m1
        rw [e]; clear e ha hb h
        go_enter Try.func46, Try.ntmps46
        go_wp2
        go_ret; exact ⟨rfl, rfl⟩
      · have e : decide (Fl.mom a b < 0) = false := by unfold Fl.mom; rw [ha, hb]; have := Int.not_lt.2 (Int.le_of_lt h); simp [h, this]
        rw [Int.compare_eq_gt.2 h] at m1
        rw [e]; clear e ha hb h
        go_enter Try.func46, Try.ntmps46
        go_wp2
        go_ret; exact ⟨rfl, rfl⟩

/-- one note laid among notes that are in order -/
def ins (ks : List (Nat × Nat)) (k : Nat) (p : Nat × Nat) : List (Nat × Nat) := ks.take k ++ [p] ++ ks.drop k
theorem ins_perm (ks : List (Nat × Nat)) (k : Nat) (p : Nat × Nat) : (ins ks k p).Perm (ks ++ [p]) := by
  unfold ins
  have h1 : (ks.take k ++ [p] ++ ks.drop k).Perm (ks.take k ++ (ks.drop k ++ [p])) := by
    rw [List.append_assoc]; exact (List.perm_append_comm).append_left _
  rw [← List.append_assoc, List.take_append_drop] at h1; exact h1
theorem ins_length (ks : List (Nat × Nat)) (k : Nat) (p : Nat × Nat) : (ins ks k p).length = ks.length + 1 := by
  have := (ins_perm ks k p).length_eq; simpa using this

section
variable (vs : List (List Note))
/-- in order -/
def Ord (ks : List (Nat × Nat)) : Prop := ks.Pairwise fun x y => ¬ ltP vs y x
def aheadP (p q : Nat × Nat) : Prop := Fl.mom (look vs p).at_ (look vs q).at_ < 0
/-- of an earlier key: ahead is the order -/
theorem ltP_of_ahead {p q : Nat × Nat} (h : aheadP vs p q) : ltP vs p q := by
  unfold aheadP at h
  rw [mom_lt] at h
  unfold ltP; simp only []; omega
theorem not_ltP {p q : Nat × Nat} (h : ¬ aheadP vs p q) (hq : q.1 < p.1 ∨ q.1 = p.1 ∧ q.2 < p.2) : ¬ ltP vs p q := by
  unfold aheadP at h
  rw [mom_lt] at h
  unfold ltP; simp only []; omega
theorem ins_ord {ks : List (Nat × Nat)} {k : Nat} {p : Nat × Nat} (ho : Ord vs ks) (hk : k ≤ ks.length) (hq : ∀ q ∈ ks, q.1 < p.1 ∨ q.1 = p.1 ∧ q.2 < p.2)
    (h1 : ∀ j, k ≤ j → j < ks.length → aheadP vs p (ks.getD j (0, 0))) (h2 : 0 < k → ¬ aheadP vs p (ks.getD (k - 1) (0, 0))) : Ord vs (ins ks k p) := by
  have hg : ∀ j (hj : j < ks.length), ks.getD j (0, 0) = ks[j] := fun j hj => by rw [List.getD_eq_getElem?_getD, List.getElem?_eq_getElem hj]; rfl
  unfold Ord ins
  have ho' := ho
  unfold Ord at ho
  rw [← List.take_append_drop k ks, List.pairwise_append] at ho
  obtain ⟨o1, o2, o3⟩ := ho
  rw [List.append_assoc, List.pairwise_append]
  refine ⟨o1, ?_, ?_⟩
  · show ((p :: ks.drop k)).Pairwise _
    rw [List.pairwise_cons]
    refine ⟨fun y hy => ?_, o2⟩
    obtain ⟨j, hj, rfl⟩ := List.mem_iff_getElem.1 hy
    have hj' : k + j < ks.length := by simp at hj; omega
    have := h1 (k + j) (by omega) hj'
    rw [hg _ hj'] at this
    rw [List.getElem_drop]
    exact fun h => ltP_irrefl vs _ (ltP_trans vs h (ltP_of_ahead vs this))
  · intro x hx y hy
    have hy' : y = p ∨ y ∈ ks.drop k := by simpa using hy
    rcases hy' with rfl | hy
    · have hk0 : 0 < k := by
        rcases Nat.eq_zero_or_pos k with h | h
        · subst h; simp at hx
        · exact h
      have hlast := h2 hk0
      rw [hg _ (by omega)] at hlast
      have hl := not_ltP vs hlast (hq _ (List.getElem_mem _))
      obtain ⟨j, hj, rfl⟩ := List.mem_iff_getElem.1 hx
      have hjk : j < k := by simp at hj; omega
      rw [List.getElem_take]
      by_cases e : j = k - 1
      · subst e; exact hl
      · have := List.pairwise_iff_getElem.1 ho' j (k - 1) (by omega) (by omega) (by omega)
        exact ltP_ntrans vs hl this
    · exact o3 x hx y hy
end

/-- what the append, the copy and the store make of the row -/
theorem ins_cells (vs : List (List Note)) (ks : List (Nat × Nat)) (k : Nat) (p : Nat × Nat) (hk : k ≤ ks.length) (z : List Value) (hz : z.length = 8) :
    (((cellsOf vs ks ++ z).take ((k + 1) * 8) ++ ((cellsOf vs ks ++ z).drop (k * 8)).take ((ks.length + 1 - (k + 1)) * 8)).take (k * 8) ++ sungOf vs p ++
      ((cellsOf vs ks ++ z).take ((k + 1) * 8) ++ ((cellsOf vs ks ++ z).drop (k * 8)).take ((ks.length + 1 - (k + 1)) * 8)).drop (k * 8 + 8)) = cellsOf vs (ins ks k p) := by
  have hsplit : cellsOf vs ks = cellsOf vs (ks.take k) ++ cellsOf vs (ks.drop k) := by
    conv => lhs; rw [← List.take_append_drop k ks]
    unfold cellsOf; rw [List.flatMap_append]
  have h1 : (cellsOf vs (ks.take k)).length = k * 8 := by rw [cellsOf_length]; simp; omega
  have h2 : (cellsOf vs (ks.drop k)).length = (ks.length - k) * 8 := by rw [cellsOf_length]; simp
  have hins : cellsOf vs (ins ks k p) = cellsOf vs (ks.take k) ++ sungOf vs p ++ cellsOf vs (ks.drop k) := by
    unfold ins cellsOf; simp [List.flatMap_append]
  rw [hins, hsplit]
  generalize cellsOf vs (ks.take k) = X at *
  generalize cellsOf vs (ks.drop k) = Y at *
  have e1 : ks.length + 1 - (k + 1) = ks.length - k := by omega
  rw [e1, ← h2]
  have t1 : ((X ++ Y ++ z).take ((k + 1) * 8)).length = (k + 1) * 8 := by simp [h1, h2, hz]; omega
  have t2 : (X ++ Y ++ z).drop (k * 8) = Y ++ z := by rw [List.append_assoc, ← h1]; simp
  rw [t2]
  have t3 : (Y ++ z).take Y.length = Y := by simp
  rw [t3]
  congr 1
  · congr 1
    rw [List.take_append_of_le_length (by rw [t1]; omega), List.take_take, Nat.min_eq_left (by omega), List.append_assoc, ← h1]
    simp
  · have : k * 8 + 8 = (k + 1) * 8 := by omega
    rw [this, ← t1]
    simp
end Go.Proofs.Ytjlncnjmcgkkhaa

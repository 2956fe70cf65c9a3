import Derived.Test.YtkfkkoefpfmjkaaDoorXB
import Derived.Test.YtkfkkoefpfmjkaaDoorSC
import Derived.Lib.ItoaLen
namespace Go.Proofs.YtkfkkoefpfmjkaaDoor
set_option linter.unusedVariables false
set_option linter.unusedSimpArgs false
open Go.RowKit

/- What is printed: plain. -/
def COMMA2 : List UInt8 := [44, 32]
def SEMI2 : List UInt8 := [59, 32]
def END2 : List UInt8 := [59, 32, 101, 110, 100, 32]
def BREAK2 : List UInt8 := [59, 32, 98, 114, 101, 97, 107, 32]
def runTo (fs : List Ft) (own : ByteArray) (j : Nat) : Nat := j + ((fs.drop j).takeWhile (fun f => eqS f.own own)).length
theorem runTo_in {fs : List Ft} {own : ByteArray} {j : Nat} (hj : j < fs.length) (h : eqS (fs.getD j default).own own = true) : runTo fs own j = runTo fs own (j + 1) := by
  unfold runTo
  rw [drop_cons fs j hj, List.takeWhile_cons]
  rw [if_pos h, List.length_cons]; omega
theorem runTo_out {fs : List Ft} {own : ByteArray} {j : Nat} (hj : j < fs.length) (h : eqS (fs.getD j default).own own = false) : runTo fs own j = j := by
  unfold runTo
  rw [drop_cons fs j hj, List.takeWhile_cons, if_neg (by rw [h]; simp)]; simp
theorem runTo_end {fs : List Ft} {own : ByteArray} {j : Nat} (hj : ¬ j < fs.length) : runTo fs own j = j := by
  unfold runTo
  rw [List.drop_eq_nil_of_le (by omega)]; simp
theorem runTo_le {fs : List Ft} {own : ByteArray} {j : Nat} (hj : j ≤ fs.length) : j ≤ runTo fs own j ∧ runTo fs own j ≤ fs.length := by
  unfold runTo
  have := (List.takeWhile_sublist (fun f : Ft => eqS f.own own) (l := fs.drop j)).length_le
  rw [List.length_drop] at this
  omega
theorem runTo_gt {fs : List Ft} {j : Nat} (hj : j < fs.length) : j < runTo fs (fs.getD j default).own j := by
  rw [runTo_in hj (eqS_refl _)]
  have := (runTo_le (fs := fs) (own := (fs.getD j default).own) (show j + 1 ≤ fs.length by omega)).1
  omega
def groupT (fs : List Ft) (i j : Nat) : List UInt8 := (if 0 < i then COMMA2 else []) ++ ((if 1 < j - i then Lib.itoa ((j - i : Nat) : Int) ++ [32] else []) ++ saidW (fs.getD i default).own.data.toList)
def feetB (fs : List Ft) : Nat → Nat → List UInt8
  | 0, _ => []
  | n + 1, i => if i < fs.length then groupT fs i (runTo fs (fs.getD i default).own i) ++ feetB fs n (runTo fs (fs.getD i default).own i) else []
theorem feetB_end (fs : List Ft) (n : Nat) : feetB fs n fs.length = [] := by cases n <;> simp [feetB]
def listTo (of : List UInt8 → List UInt8) (l : List Way) : Nat → List UInt8
  | 0 => []
  | k + 1 => listTo of l k ++ ((if 0 < k then COMMA2 else []) ++ (of (l.getD k default).1.data.toList ++ ([32] ++ Lib.itoa (l.getD k default).2)))
def waysOf (fs : List Ft) (k : Nat) : List UInt8 := if 0 < (fs.getD k default).ways.length then SEMI2 ++ (Lib.itoa ((k : Int) + 1) ++ ([32] ++ listTo saidW (fs.getD k default).ways (fs.getD k default).ways.length)) else []
def waysTo (fs : List Ft) : Nat → List UInt8
  | 0 => []
  | k + 1 => waysTo fs k ++ waysOf fs k
def endsT (l : List Way) : List UInt8 := if 0 < l.length then END2 ++ listTo id l l.length else []
def brksTo (l : List (Int × Int)) : Nat → List UInt8
  | 0 => []
  | k + 1 => brksTo l k ++ (BREAK2 ++ (Lib.itoa (l.getD k default).1 ++ ([32] ++ Lib.itoa (l.getD k default).2)))
def printP (m : Met) : List UInt8 := feetB m.feet m.feet.length 0 ++ (waysTo m.feet m.feet.length ++ (endsT m.ends ++ brksTo m.brks m.brks.length))

/- bounds -/
structure PrOk (m : Met) : Prop where
  pos : 0 < m.feet.length
  feet : m.feet.length ≤ 16
  own : ∀ k, k < m.feet.length → (m.feet.getD k default).own.size ≤ 4
  few : ∀ k, k < m.feet.length → (m.feet.getD k default).ways.length ≤ 15
  ways : ∀ k, k < m.feet.length → ∀ j, j < (m.feet.getD k default).ways.length → ((m.feet.getD k default).ways.getD j default).1.size ≤ 4 ∧ 0 ≤ ((m.feet.getD k default).ways.getD j default).2 ∧ ((m.feet.getD k default).ways.getD j default).2 ≤ 1048576
  efew : m.ends.length ≤ 16
  ends : ∀ j, j < m.ends.length → (m.ends.getD j default).1.size ≤ 4 ∧ 0 ≤ (m.ends.getD j default).2 ∧ (m.ends.getD j default).2 ≤ 1048576
  bfew : m.brks.length ≤ 16
  brks : ∀ j, j < m.brks.length → 0 ≤ (m.brks.getD j default).1 ∧ (m.brks.getD j default).1 ≤ 16 ∧ 0 ≤ (m.brks.getD j default).2 ∧ (m.brks.getD j default).2 ≤ 1048576
theorem getD_mem' {α : Type} [Inhabited α] {l : List α} {k : Nat} (h : k < l.length) : l.getD k default ∈ l := by
  rw [List.getD_eq_getElem?_getD, List.getElem?_eq_getElem h]; exact List.getElem_mem h
theorem brksFrom_bd {n : Int} : ∀ (l : List (Int × Int)) (a : Int), 0 ≤ a → a ≤ n → brksFrom n a l = true → a + l.length ≤ n ∧ ∀ b ∈ l, 0 ≤ b.1 ∧ b.1 ≤ n ∧ 0 ≤ b.2 ∧ b.2 ≤ 1048576
  | [], a, _, h, _ => ⟨by simpa using h, fun b h => by cases h⟩
  | b :: l, a, h0, h1, h => by
    unfold brksFrom at h
    simp only [Bool.and_eq_true, decide_eq_true_eq] at h
    obtain ⟨⟨⟨⟨h2, h3⟩, h4⟩, h5⟩, h6⟩ := h
    obtain ⟨h7, h8⟩ := brksFrom_bd l b.1 (by omega) (by omega) h6
    refine ⟨by simp only [List.length_cons]; omega, fun c hc => ?_⟩
    rcases List.mem_cons.1 hc with rfl | hc
    · omega
    · exact h8 c hc
theorem pr_ok {m : Met} (h : mayB m = true) : PrOk m := by
  have hs := opts_small h
  have ho := opts_ok h
  have hf : ∀ k, k < m.feet.length → ((m.feet.getD k default).own, (0 : Int)) :: (m.feet.getD k default).ways ∈ optsP m := fun k hk => by
    unfold optsP
    exact List.mem_append_left _ (List.mem_map.2 ⟨_, getD_mem' hk, rfl⟩)
  have he : ((⟨#[]⟩, 0) :: m.ends : List Way) ∈ optsP m := by unfold optsP; simp
  have h' := h
  unfold mayB at h'
  simp only [Bool.and_eq_true, decide_eq_true_eq] at h'
  obtain ⟨⟨⟨⟨h1, h2⟩, _⟩, _⟩, h5⟩ := h'
  obtain ⟨hb1, hb2⟩ := brksFrom_bd m.brks 0 (by omega) (by omega) h5
  have hb3 : ∀ b ∈ m.brks, b.1 ≤ 16 := fun b hb => by have := (hb2 b hb).2.1; omega
  refine ⟨by omega, h2, fun k hk => ?_, fun k hk => ?_, fun k hk j hj => ?_, ?_, fun j hj => ?_, by omega, fun j hj => ?_⟩
  · exact ho.four _ (hf k hk) _ (List.mem_cons_self ..)
  · have := (hs.2 _ (hf k hk)).1; simp only [List.length_cons] at this; omega
  · exact ⟨ho.four _ (hf k hk) _ (List.mem_cons_of_mem _ (getD_mem' hj)), (hs.2 _ (hf k hk)).2 _ (List.mem_cons_of_mem _ (getD_mem' hj))⟩
  · have := (hs.2 _ he).1; simp only [List.length_cons] at this; omega
  · exact ⟨ho.four _ he _ (List.mem_cons_of_mem _ (getD_mem' hj)), (hs.2 _ he).2 _ (List.mem_cons_of_mem _ (getD_mem' hj))⟩
  · have := hb2 _ (getD_mem' hj); have := hb3 _ (getD_mem' hj); omega
theorem sizeL (s : ByteArray) : s.data.toList.length = s.size := by rw [Array.length_toList]; rfl
theorem saidW_len {t : List UInt8} (h : t.length ≤ 4) : (saidW t).length ≤ 20 := by
  unfold saidW
  cases hb : bySigns t with
  | none => simp; omega
  | some f =>
    simp only []
    have hm : f ∈ feetW := List.mem_of_find?_eq_some hb
    have : ∀ f ∈ feetW, f.1.length ≤ 20 := by decide +kernel
    exact this f hm
theorem listTo_len {of : List UInt8 → List UInt8} {l : List Way} (h : ∀ j, j < l.length → (of (l.getD j default).1.data.toList).length ≤ 20 ∧ 0 ≤ (l.getD j default).2 ∧ (l.getD j default).2 ≤ 1048576) : ∀ k, k ≤ l.length → (listTo of l k).length ≤ k * 50
  | 0, _ => by simp [listTo]
  | k + 1, hk => by
    have ih := listTo_len h k (by omega)
    have h1 := h k (by omega)
    have h2 := Lib.itoa_length_le (l.getD k default).2 (by omega) (by omega)
    have h3 : (if 0 < k then COMMA2 else []).length ≤ 2 := by split <;> simp [COMMA2]
    unfold listTo
    simp only [List.length_append, List.length_cons, List.length_nil]
    omega
theorem waysOf_len {m : Met} (h : PrOk m) (k : Nat) (hk : k < m.feet.length) : (waysOf m.feet k).length ≤ 800 := by
  unfold waysOf
  split
  · have h1 := listTo_len (of := saidW) (l := (m.feet.getD k default).ways) (fun j hj => ⟨saidW_len (by have := (h.ways k hk j hj).1; simpa using this), (h.ways k hk j hj).2⟩) _ (Nat.le_refl _)
    have h2 := h.few k hk
    have h3 := h.feet
    have h4 := Lib.itoa_length_le ((k : Int) + 1) (by omega) (by omega)
    simp only [List.length_append, SEMI2, List.length_cons, List.length_nil]
    omega
  · simp
theorem waysTo_len {m : Met} (h : PrOk m) : ∀ k, k ≤ m.feet.length → (waysTo m.feet k).length ≤ k * 800
  | 0, _ => by simp [waysTo]
  | k + 1, hk => by
    have ih := waysTo_len h k (by omega)
    have h1 := waysOf_len h k (by omega)
    unfold waysTo
    simp only [List.length_append]
    omega
theorem endsT_len {m : Met} (h : PrOk m) : (endsT m.ends).length ≤ 900 := by
  unfold endsT
  split
  · have h1 := listTo_len (of := id) (l := m.ends) (fun j hj => ⟨by rw [show id (m.ends.getD j default).1.data.toList = (m.ends.getD j default).1.data.toList from rfl, sizeL]; have := (h.ends j hj).1; omega, (h.ends j hj).2⟩) _ (Nat.le_refl _)
    have := h.efew
    simp only [List.length_append, END2, List.length_cons, List.length_nil]
    omega
  · simp
theorem brksTo_len {m : Met} (h : PrOk m) : ∀ k, k ≤ m.brks.length → (brksTo m.brks k).length ≤ k * 60
  | 0, _ => by simp [brksTo]
  | k + 1, hk => by
    have ih := brksTo_len h k (by omega)
    have h1 := h.brks k (by omega)
    have h2 := Lib.itoa_length_le (m.brks.getD k default).1 (by omega) (by omega)
    have h3 := Lib.itoa_length_le (m.brks.getD k default).2 (by omega) (by omega)
    unfold brksTo
    simp only [List.length_append, BREAK2, List.length_cons, List.length_nil]
    omega
theorem groupT_len {m : Met} (h : PrOk m) {i j : Nat} (hi : i < m.feet.length) (hj : j ≤ m.feet.length) : (groupT m.feet i j).length ≤ 50 := by
  have h1 := saidW_len (t := (m.feet.getD i default).own.data.toList) (by have := h.own i hi; simpa using this)
  have h3 : (if 0 < i then COMMA2 else []).length ≤ 2 := by split <;> simp [COMMA2]
  have h4 := h.feet
  have h5 := Lib.itoa_length_le ((j - i : Nat) : Int) (by omega) (by omega)
  have h6 : (if 1 < j - i then Lib.itoa ((j - i : Nat) : Int) ++ [32] else []).length ≤ 22 := by
    split
    · simp only [List.length_append, List.length_cons, List.length_nil]; omega
    · simp
  unfold groupT
  simp only [List.length_append]
  omega
theorem feetB_len {m : Met} (h : PrOk m) : ∀ (n i : Nat), (feetB m.feet n i).length ≤ n * 50
  | 0, _ => by simp [feetB]
  | n + 1, i => by
    unfold feetB
    split
    · rename_i hi
      have h1 := runTo_le (fs := m.feet) (own := (m.feet.getD i default).own) (Nat.le_of_lt hi)
      have ih := feetB_len h n (runTo m.feet (m.feet.getD i default).own i)
      have h2 := groupT_len h hi h1.2
      simp only [List.length_append]
      omega
    · simp
end Go.Proofs.YtkfkkoefpfmjkaaDoor

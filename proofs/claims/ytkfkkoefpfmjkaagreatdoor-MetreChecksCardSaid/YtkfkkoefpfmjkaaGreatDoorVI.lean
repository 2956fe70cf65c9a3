import Derived.Test.YtkfkkoefpfmjkaaGreatDoorVH
namespace Go.Proofs.YtkfkkoefpfmjkaaGreatDoor
set_option linter.unusedVariables false
set_option linter.unusedSimpArgs false
open Go.RowKit

/- The reference's First. -/
theorem info3 : Tryz.prog.info? 3 = some Tryz.t3 := by kernel_rfl
theorem zero3 : Tryz.t3.zero = some (.int .i64 0) := by kernel_rfl
theorem size3 : Tryz.t3.size = 1 := by kernel_rfl
theorem bytes3 : Tryz.t3.bytes = 8 := by kernel_rfl
/-- the pattern that is being made, in block P -/
structure PB (w : World) (P : Nat) (s : ByteArray) (c0 : Int) (vch : Value) (ch : List Int) : Prop where
  box : w.heap[P]? = some (.cells #[.string s, .int .i64 c0, vch] 50 (0, 0))
  row : w.ownsRow P 3 1 vch ch.length (intCells ch)
theorem PB.below {w w' : World} {P : Nat} {s : ByteArray} {c0 : Int} {vch : Value} {ch : List Int} (h : PB w P s c0 vch ch) (hb : Below w.heap.size w w') : PB w' P s c0 vch ch :=
  ⟨(hb.block P (Array.getElem?_eq_some_iff.1 h.box).1).trans h.box, h.row.kept (only_of_below hb none) some_ne⟩
theorem PB.snoc {w w1 : World} {P : Nat} {s : ByteArray} {c0 : Int} {vch v' : Value} {ch : List Int} {x : Int} (h : PB w P s c0 vch ch) (ho : w1.ownsRow P 3 1 v' (ch.length + 1) (intCells ch ++ [.int .i64 x])) (hg : w.grownBy w1 vch.ownBlock) :
    PB (w1.setCell ⟨P, 2, none⟩ v') P s c0 v' (ch ++ [x]) := by
  have hne : vch.ownBlock ≠ some P := by rcases own_neb h.row h.box (by decide) with e | e; · rw [e]; simp
                                         · exact e
  have b1 : w1.heap[P]? = some (.cells #[.string s, .int .i64 c0, vch] 50 (0, 0)) := (hg.block P (Array.getElem?_eq_some_iff.1 h.box).1 (fun e => hne e.symm)).trans h.box
  refine ⟨heap_setCell_same w1 P 2 _ 50 v' b1, ?_⟩
  have e : intCells (ch ++ [x]) = intCells ch ++ [.int .i64 x] := by simp [intCells]
  rw [e]
  have : (ch ++ [x]).length = ch.length + 1 := by simp
  rw [this]
  exact ho.kept (grown_cell w1 P 2 v') (own_neb ho b1 (by decide))
theorem row_ints {w : World} {P : Nat} {vch : Value} {ch : List Int} (h : w.ownsRow P 3 1 vch ch.length (intCells ch)) : ∃ A c, vch = .slice A ch.length c ∧ ch.length ≤ c ∧ IsInts w w.heap.size A ch := by
  rcases h.2 with ⟨rfl, h0⟩ | ⟨g, cap, cur, rfl, _, hg, hcap, _⟩
  · rw [h0]; exact ⟨none, 0, rfl, Nat.le_refl _, fun hl => by omega⟩
  · refine ⟨_, cap, rfl, hcap, fun hl => ⟨g, 0, rfl, (Array.getElem?_eq_some_iff.1 hg).1, fun k hk => ?_⟩⟩
    rw [Nat.zero_add, h.cellAt k (by omega)]
    simp [intCells, List.getElem?_map, List.getD_eq_getElem?_getD, hk]
theorem row_far {w : World} {base k o e z n : Nat} {v x : Value} {xs : List Value} (h : w.ownsRow base e z v n xs) (hk : k < base) : (w.setCell ⟨k, o, none⟩ x).ownsRow base e z v n xs :=
  h.kept (grown_cell w k o x) (by
    cases hv : v.ownBlock with
    | none => exact .inl rfl
    | some q => right; intro e; cases e; have := (h.lt _ hv).1; omega)
theorem pickS_len (rows : List (List Way)) (s : ByteArray) (i : Nat) : ∀ (l : List Way) (k : Nat) (st : St), (pickS rows s i l k st).2.2.length ≤ st.2.2.length + 1 ∧ (st.1 ≤ s.size → (pickS rows s i l k st).1 ≤ s.size)
  | [], k, st => ⟨by show st.2.2.length ≤ _; omega, fun h => h⟩
  | v :: l, k, st => by
    unfold pickS
    split
    · rename_i h
      refine ⟨by simp, fun hs => ?_⟩
      unfold nextB at h
      rw [Bool.and_eq_true] at h
      have := hasPrefix_len h.1
      simp only [List.length_drop, Array.length_toList, ByteArray.size_data] at this
      show st.1 + v.1.size ≤ s.size
      omega
    · exact pickS_len rows s i l (k + 1) st
theorem firstTo_len (rows : List (List Way)) (s : ByteArray) (c0 : Int) : ∀ i, (firstTo rows s c0 i).2.2.length ≤ i ∧ (firstTo rows s c0 i).1 ≤ s.size
  | 0 => ⟨Nat.le_refl _, Nat.zero_le _⟩
  | i + 1 => by
    have h1 := firstTo_len rows s c0 i
    have h2 := pickS_len rows s i (rows.getD i []) 0 (firstTo rows s c0 i)
    exact ⟨by show (pickS rows s i (rows.getD i []) 0 (firstTo rows s c0 i)).2.2.length ≤ i + 1; omega, h2.2 h1.2⟩
def choiceP (m : Met) (s : ByteArray) : List Int := (firstTo (optsP m) s (restR (optsP m) s.data.toList).1 (optsP m).length).2.2
def RefFirstOk (m : Met) (s : ByteArray) (w : World) (e : Ending) (w' : World) : Prop := Below w.heap.size w w' ∧
  if (refLeastP m s).2 = 0 then e = .returned (.tuple #[.agg #[.string ⟨#[]⟩, .int .i64 0, .slice none 0 0], .bool false])
  else ∃ A c, e = .returned (.tuple #[.agg #[.string s, .int .i64 (refLeastP m s).1, .slice A (choiceP m s).length c], .bool true]) ∧ (choiceP m s).length ≤ c ∧ IsInts w' w'.heap.size A (choiceP m s)
theorem three_cells {wr : World} {P : Nat} {x0 x1 x2 : Value} (hx : wr.heap[P]? = some (.cells #[x0, x1, x2] 50 (0, 0))) (v0 v1 v2 : Value) :
    (((wr.setCell ⟨P, 0, none⟩ v0).setCell ⟨P, 1, none⟩ v1).setCell ⟨P, 2, none⟩ v2).heap[P]? = some (.cells #[v0, v1, v2] 50 (0, 0)) :=
  heap_setCell_same _ P 2 _ 50 v2 (heap_setCell_same _ P 1 _ 50 v1 (heap_setCell_same wr P 0 _ 50 v0 hx))
theorem three_below {w wr : World} {B P : Nat} (hb : Below B w wr) (hP : B ≤ P) (v0 v1 v2 : Value) : Below B w (((wr.setCell ⟨P, 0, none⟩ v0).setCell ⟨P, 1, none⟩ v1).setCell ⟨P, 2, none⟩ v2) :=
  ((hb.setCell (p := ⟨P, 0, none⟩) hP v0).setCell (p := ⟨P, 1, none⟩) hP v1).setCell (p := ⟨P, 2, none⟩) hP v2
end Go.Proofs.YtkfkkoefpfmjkaaGreatDoor

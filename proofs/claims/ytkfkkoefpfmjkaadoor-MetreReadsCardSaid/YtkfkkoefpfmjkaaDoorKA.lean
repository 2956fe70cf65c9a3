import Derived.Test.YtkfkkoefpfmjkaaDoorTB
import Derived.Shelf.SlicesE.Clone
namespace Go.Proofs
open Go.Shelf
/- slices.Clone at the two rows of a metre: the kit's contract, laid by hand in the tool's own form. -/
def Tryd.cloneW_ren : Go.Shelf.Ren := ⟨fun | 41 => 65 | n => n, fun | 22 => 24 | 23 => 100 | 4 => 4 | n => n, fun | n => n⟩
theorem Tryd.cloneW : Go.Proofs.SlLaysE0.n41 Tryd.prog Tryd.cloneW_ren := {
  mixed := by kernel_rfl
  f41 := ⟨Tryd.f65.name, by decide, Tryd.func65.trans (congrArg some (by kernel_rfl))⟩
  t4 := Tryd.underlying4
  a4 := Tryd.isAgg4
  z4 := Tryd.sizeOf4
  v4 := Tryd.zeroValue4
  t22 := Tryd.underlying24
  a22 := Tryd.isAgg24
  z22 := Tryd.sizeOf24
  v22 := Tryd.zeroValue24 }
def Tryd.cloneB_ren : Go.Shelf.Ren := ⟨fun | 41 => 66 | n => n, fun | 22 => 25 | 23 => 98 | 4 => 4 | n => n, fun | n => n⟩
theorem Tryd.cloneB : Go.Proofs.SlLaysE0.n41 Tryd.prog Tryd.cloneB_ren := {
  mixed := by kernel_rfl
  f41 := ⟨Tryd.f66.name, by decide, Tryd.func66.trans (congrArg some (by kernel_rfl))⟩
  t4 := Tryd.underlying4
  a4 := Tryd.isAgg4
  z4 := Tryd.sizeOf4
  v4 := Tryd.zeroValue4
  t22 := Tryd.underlying25
  a22 := Tryd.isAgg25
  z22 := Tryd.sizeOf25
  v22 := Tryd.zeroValue25 }
namespace YtkfkkoefpfmjkaaDoor
set_option linter.unusedVariables false
set_option linter.unusedSimpArgs false
open Go.RowKit Go.Lib

/-- slices.Clone of a row of one's own -/
theorem clonew_own (B n : Nat) (v : Value) (xs : List Value) (w : World) (h : w.ownsRow B 100 2 v n xs) (h1 : ∀ u ∈ xs, u.oneCell' = true) (hn : n ≤ 1000) :
    Calls Tryd.prog 65 #[v] w fun e w' => ∃ v', e = .returned v' ∧ w'.ownsRow w.heap.size 100 2 v' n xs ∧ Below w.heap.size w w' := by
  rcases h.2 with ⟨rfl, rfl⟩ | ⟨g, cap, cur, rfl, _⟩
  · refine (AnyE.slices_Clone_nil Tryd.cloneW 0 0 w).mono ?_
    rintro e w' ⟨rfl, rfl⟩
    exact ⟨_, rfl, ⟨h.1, .inl ⟨rfl, rfl⟩⟩, Below.refl _ _⟩
  · refine (AnyE.slices_Clone Tryd.cloneW _ _ 2 24 info100 zero100 size100 bytes100 rfl (by decide) Tryd.sizeOf100 g 0 n cap xs w h.1 (by unfold maxLen; omega) (by omega) ?_ h1).mono ?_
    · intro j u hu
      rw [Nat.zero_add, h.cellAt j (by have := (List.getElem?_eq_some_iff.1 hu).1; rw [h.1] at this; exact this), hu]
    · rintro e w' ⟨v', rfl, ho, _, hb⟩
      exact ⟨v', rfl, ho, hb⟩
/-- slices.Clone of a row of one's own -/
theorem cloneb_own (B n : Nat) (v : Value) (xs : List Value) (w : World) (h : w.ownsRow B 98 2 v n xs) (h1 : ∀ u ∈ xs, u.oneCell' = true) (hn : n ≤ 1000) :
    Calls Tryd.prog 66 #[v] w fun e w' => ∃ v', e = .returned v' ∧ w'.ownsRow w.heap.size 98 2 v' n xs ∧ Below w.heap.size w w' := by
  rcases h.2 with ⟨rfl, rfl⟩ | ⟨g, cap, cur, rfl, _⟩
  · refine (AnyE.slices_Clone_nil Tryd.cloneB 0 0 w).mono ?_
    rintro e w' ⟨rfl, rfl⟩
    exact ⟨_, rfl, ⟨h.1, .inl ⟨rfl, rfl⟩⟩, Below.refl _ _⟩
  · refine (AnyE.slices_Clone Tryd.cloneB _ _ 2 16 info98 zero98 size98 bytes98 rfl (by decide) Tryd.sizeOf98 g 0 n cap xs w h.1 (by unfold maxLen; omega) (by omega) ?_ h1).mono ?_
    · intro j u hu
      rw [Nat.zero_add, h.cellAt j (by have := (List.getElem?_eq_some_iff.1 hu).1; rw [h.1] at this; exact this), hu]
    · rintro e w' ⟨v', rfl, ho, _, hb⟩
      exact ⟨v', rfl, ho, hb⟩
end YtkfkkoefpfmjkaaDoor
end Go.Proofs

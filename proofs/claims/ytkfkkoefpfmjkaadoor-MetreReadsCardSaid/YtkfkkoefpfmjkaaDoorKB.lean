import Derived.Test.YtkfkkoefpfmjkaaDoorKA
import Derived.Shelf.Spec.SlicesGrow
namespace Go.Proofs
open Go.Shelf
/- slices.Grow at a metre's feet: the kit's contract, laid by hand in the tool's own form. -/
def Tryd.growF_ren : Go.Shelf.Ren := ⟨fun | 4 => 103 | n => n, fun | 22 => 23 | 25 => 81 | 0 => 0 | 3 => 3 | 4 => 4 | 9 => 9 | 20 => 20 | n => n, fun | n => n⟩
theorem Tryd.growF : Go.Proofs.Lays8.n4 Tryd.prog Tryd.growF_ren := {
  mixed := by kernel_rfl
  f4 := ⟨Tryd.f103.name, by decide, Tryd.func103.trans (congrArg some (by kernel_rfl))⟩
  t0 := Tryd.underlying0
  a0 := Tryd.isAgg0
  z0 := Tryd.sizeOf0
  v0 := Tryd.zeroValue0
  t3 := Tryd.underlying3
  a3 := Tryd.isAgg3
  z3 := Tryd.sizeOf3
  v3 := Tryd.zeroValue3
  t4 := Tryd.underlying4
  a4 := Tryd.isAgg4
  z4 := Tryd.sizeOf4
  v4 := Tryd.zeroValue4
  t9 := Tryd.underlying9
  a9 := Tryd.isAgg9
  z9 := Tryd.sizeOf9
  v9 := Tryd.zeroValue9
  t20 := Tryd.underlying20
  a20 := Tryd.isAgg20
  z20 := Tryd.sizeOf20
  v20 := Tryd.zeroValue20
  t22 := Tryd.underlying23
  a22 := Tryd.isAgg23
  z22 := Tryd.sizeOf23
  v22 := Tryd.zeroValue23 }
namespace YtkfkkoefpfmjkaaDoor
set_option linter.unusedVariables false
set_option linter.unusedSimpArgs false
open Go.RowKit Go.Lib

/-- slices.Grow of nil -/
theorem grow_nil (n : Nat) (w : World) (hn : n ≤ 1000) :
    Calls Tryd.prog 103 #[.slice none 0 0, .int .i64 n] w fun e w' => ∃ v, e = .returned v ∧ w'.ownsRow w.heap.size 81 2 v 0 [] ∧ Below w.heap.size w w' := by
  by_cases h0 : n = 0
  · subst h0
    refine (Any8.slices_Grow_room Tryd.growF none 0 0 0 w (by omega) (by omega) (by omega) (by omega)).mono ?_
    rintro e w' ⟨rfl, rfl⟩
    exact ⟨_, rfl, ⟨rfl, .inl ⟨rfl, rfl⟩⟩, Below.refl _ _⟩
  · refine (Any8.slices_Grow_grow Tryd.growF _ _ info81 zero81 (by rw [size81]; decide) none 0 0 n [] w (by omega) (by omega) (by rw [bytes81]; omega) (by omega) (by simp) (fun _ => rfl) (fun a h => by cases h)).mono ?_
    rintro e w' ⟨rfl, rfl⟩
    refine ⟨_, rfl, ⟨rfl, .inr ⟨w.heap.size, _, _, rfl, Nat.le_refl _, heap_alloc_new w.drew _, by omega, grownCap_le_maxLen w _ _ _ (by unfold maxLen; omega), ?_, by simp⟩⟩, ?_⟩
    · have hge := grownCap_ge w (0 + n) 0 81
      simp only [Array.size_append, size_zeroCells]
      show 0 + (0 + n - 0) * 2 + (grownCap w (0 + n) 0 81 - (0 + n)) * 2 = grownCap w (0 + n) 0 81 * 2
      omega
    · exact ⟨rfl, rfl, rfl, by simp, fun k hk => Below.heap_alloc w.drew _ _ hk⟩
end YtkfkkoefpfmjkaaDoor
end Go.Proofs

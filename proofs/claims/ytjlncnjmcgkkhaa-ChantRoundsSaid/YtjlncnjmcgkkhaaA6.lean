import Derived.Test.YtjlncnjmcgkkhaaKy
import Derived.Test.YtjlncnjmcgkkhaaSl
namespace Go.Proofs.Ytjlncnjmcgkkhaa
set_option linter.unusedVariables false
set_option linter.unusedSimpArgs false
open Go.RowKit Go.Shelf Go.Sort

theorem sungOf_length (vs : List (List Note)) (p : Nat × Nat) : (sungOf vs p).length = 8 := rfl
theorem sungOf_one (vs : List (List Note)) (p : Nat × Nat) : ∀ v ∈ sungOf vs p, v.oneCell' = true := by
  intro v hv
  simp [sungOf, sungCells] at hv
  rcases hv with rfl | rfl | rfl | rfl | rfl | rfl | rfl | rfl <;> rfl

theorem own_form {w : World} {base : Nat} {e : TypeId} {size : Nat} {v : Value} {n : Nat} {xs : List Value} (h : w.ownsRow base e size v n xs) (hn : 0 < n) :
    ∃ g cap, v = .slice (some ⟨g, 0, none⟩) n cap ∧ base ≤ g ∧ g < w.heap.size := by
  rcases h.2 with ⟨_, h0⟩ | ⟨g, cap, cur, rfl, hb, hg, _⟩
  · omega
  · refine ⟨g, cap, rfl, hb, ?_⟩
    rcases Nat.lt_or_ge g w.heap.size with h | h
    · exact h
    · rw [Array.getElem?_eq_none h] at hg; cases hg

theorem cmpLays (vs : List (List Note)) (blk off size : Nat) (w : World) : CmpLays Try.prog 45 #[] (encK vs) 8 (cfK vs) blk off size w :=
  fun _ _ _ _ x y => compare_any x.v x.i y.v y.i (look vs x.pair) (look vs y.pair) x.hv x.hi y.hv y.hi _

/-- slices.SortFunc at notes of voices, on a row of the call's own -/
theorem sort_own (vs : List (List Note)) (ks : List (Nat × Nat)) (hks : ∀ p ∈ ks, p.1 < cap62 ∧ p.2 < cap62) (hn : ks.length < 4611686018427387904) (v : Value) (B : Nat) (w : World)
    (hown : w.ownsRow B 60 8 v ks.length (cellsOf vs ks)) :
    Calls Try.prog 44 #[v, .func (.func 45) #[] #[]] w fun e w' => e = .returned (.tuple #[]) ∧ w'.ownsRow B 60 8 v ks.length (cellsOf vs (sortP vs ks)) ∧ Below B w w' := by
  by_cases h0 : ks = []
  · subst h0
    have e : sortP vs [] = [] := by simp [sortP]
    rw [e]
    obtain ⟨p, cap, rfl⟩ : ∃ p cap, v = .slice p 0 cap := by
      rcases hown.2 with ⟨rfl, _⟩ | ⟨g, cap, cur, rfl, _⟩
      · exact ⟨_, _, rfl⟩
      · exact ⟨_, _, rfl⟩
    refine (AnyF.slices_SortFunc_none (P := Try.prog) (ρ := Try.sortL_ren) { Try.sortL with } p cap (.func (.func 45) #[] #[]) w).mono fun e w' ⟨he, hw⟩ => ?_
    subst hw
    exact ⟨he, hown, Below.refl _ _⟩
  · have hpos : 0 < ks.length := List.length_pos_iff.2 h0
    obtain ⟨g, cap, rfl, hB, hlt⟩ := own_form hown hpos
    have eg : ∀ args w, (callFunc 45 args).run Try.prog w = .ok (.enter 45 args) w := enters_of Try.func45 (by kernel_rfl) rfl
    have hsz : (toKeys ks hks).toArray.size = ks.length := by simp [toKeys_length]
    have hcells : cellsOf vs ks = (toKeys ks hks).toArray.toList.flatMap (encK vs) := by
      rw [List.toList_toArray, cells_keys, toKeys_pair]
    rw [hcells] at hown
    have hH := So.own_holds (encK vs) (fun _ => rfl) (toKeys ks hks).toArray hsz hown
    have hcon := AnyQ.slices_SortFunc_total Try.sortL 8 Try.isAgg60 Try.sizeOf60 (encK vs) (fun _ => rfl) (fun x => sungOf_one vs _) (cfK vs) (swoK vs) 45 #[] g 0 cap (toKeys ks hks).toArray w eg (cmpLays vs g 0 _ w) hH hlt (by rw [hsz]; exact hn) (totK vs)
    rw [hsz] at hcon
    refine hcon.mono fun e w' ⟨he, n, os, hw⟩ => ?_
    subst hw
    have hs := So.own_sorted (encK vs) (fun _ => rfl) hown ((toKeys ks hks).toArray.toList.mergeSort fun x y => !(ltOf (cfK vs)) y x).toArray (by simp [toKeys_length]) n os
    refine ⟨he, ?_, hs.2⟩
    have := hs.1
    rw [cells_keys] at this
    have e2 : (((toKeys ks hks).toArray.toList.mergeSort fun x y => !(ltOf (cfK vs)) y x).toArray.toList).map Key.pair = sortP vs ks := sorted_keys vs ks hks
    rw [e2] at this
    exact this
end Go.Proofs.Ytjlncnjmcgkkhaa

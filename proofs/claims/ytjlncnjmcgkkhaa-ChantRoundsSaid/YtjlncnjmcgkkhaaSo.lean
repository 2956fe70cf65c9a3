/- The sorted row as a row of the call's own; one sorted list for one set of keys. No program in sight. -/
import Derived.Shelf.GgSortFunc.InsertionK
import Derived.Laws.AppendOwn
import Derived.Below
namespace Go.Proofs.Ytjlncnjmcgkkhaa.So
set_option linter.unusedVariables false
set_option linter.unusedSimpArgs false
open Go.Sort Go.RowKit
variable {α : Type}

theorem flatMap_get (enc : α → List Value) (k : Nat) (hk : ∀ x, (enc x).length = k) (l : List α) (t : Nat) (h : t < l.length * k) :
    (l.flatMap enc)[t]? = (l[t / k]?).bind fun x => (enc x)[t % k]? := by
  induction l generalizing t with
  | nil => simp at h
  | cons x l ih =>
    have k0 : 0 < k := by rcases Nat.eq_zero_or_pos k with h0 | h0; · subst h0; simp at h
                          · exact h0
    rw [List.flatMap_cons]
    by_cases ht : t < k
    · rw [List.getElem?_append_left (by rw [hk]; exact ht), Nat.div_eq_of_lt ht, Nat.mod_eq_of_lt ht]; rfl
    · obtain ⟨u, rfl⟩ : ∃ u, t = u + k := ⟨t - k, by omega⟩
      rw [List.getElem?_append_right (by rw [hk]; omega), hk, Nat.add_sub_cancel, ih u (by simp [Nat.add_mul] at h; omega), Nat.add_mod_right, Nat.add_div_right _ k0]
      rfl

theorem flatMap_length (enc : α → List Value) (k : Nat) (hk : ∀ x, (enc x).length = k) (l : List α) : (l.flatMap enc).length = l.length * k := by
  induction l with
  | nil => simp
  | cons x l ih => rw [List.flatMap_cons, List.length_append, ih, hk, List.length_cons, Nat.add_mul]; omega

variable [Inhabited α]

theorem flatK_toList (enc : α → List Value) (k : Nat) (hk : ∀ x, (enc x).length = k) (d : Array α) : (flatK enc k d).toList = d.toList.flatMap enc := by
  apply List.ext_getElem?
  intro t
  by_cases ht : t < d.size * k
  · have k0 : 0 < k := by rcases Nat.eq_zero_or_pos k with h0 | h0; · subst h0; simp at ht
                          · exact h0
    have hq : t / k < d.size := by rw [Nat.div_lt_iff_lt_mul k0]; exact ht
    have hr : t % k < k := Nat.mod_lt _ k0
    rw [flatMap_get enc k hk _ t (by simpa using ht)]
    have h1 := get_flatK enc k d t ht
    rw [getElem!_pos _ t (by simpa using ht), getElem!_pos d _ hq, getElem!_pos _ _ (by rw [hk]; exact hr)] at h1
    simp only [Array.getElem?_toList]
    rw [Array.getElem?_eq_getElem (by simpa using ht), h1, Array.getElem?_eq_getElem hq]
    simp [hk, hr]
  · rw [List.getElem?_eq_none (by simpa using ht), List.getElem?_eq_none (by rw [flatMap_length enc k hk]; simpa using ht)]

theorem putCells_take (F cur : Array Value) (n : Nat) (hF : F.size = n) (hc : n ≤ cur.size) : (putCells id 0 F cur).toList.take n = F.toList := by
  apply List.ext_getElem?
  intro t
  by_cases ht : t < n
  · rw [List.getElem?_take_of_lt ht]
    simp only [Array.getElem?_toList, putCells]
    rw [Array.getElem?_eq_getElem (by simp; omega), Array.getElem?_eq_getElem (by omega), Array.getElem_mapIdx, if_pos (by omega)]
    simp only [id, Nat.sub_zero]
    rw [getElem!_pos F t (by omega)]
  · rw [List.getElem?_eq_none (by simp; omega), List.getElem?_eq_none (by simp; omega)]

theorem own_sorted {w : World} {B : Nat} {e : TypeId} {k : Nat} {g n cap : Nat} {xs : List Value} (enc : α → List Value) (hk : ∀ x, (enc x).length = k)
    (h : w.ownsRow B e k (.slice (some ⟨g, 0, none⟩) n cap) n xs) (d : Array α) (hd : d.size = n) (m : Nat) (os : Array Obj) :
    (sortWorldK enc k w g 0 m d os).ownsRow B e k (.slice (some ⟨g, 0, none⟩) n cap) n (d.toList.flatMap enc) ∧ Below B w (sortWorldK enc k w g 0 m d os) := by
  obtain ⟨hx, hh⟩ := h
  rcases hh with ⟨h1, _⟩ | ⟨g', cap', cur, hv, hB, hg, hn, hm, hc, ht⟩
  · cases h1
  · injection hv with e1 e2 e3
    injection e1 with e1
    injection e1 with e1
    subst e1; subst e3
    have hlt : g < w.heap.size := by
      rcases Nat.lt_or_ge g w.heap.size with h | h
      · exact h
      · rw [Array.getElem?_eq_none h] at hg; cases hg
    have hsz : n * k ≤ cur.size := by rw [hc]; exact Nat.mul_le_mul_right _ hn
    refine ⟨⟨by rw [flatMap_length enc k hk]; simp [hd], .inr ⟨g, cap, putCells id 0 (flatK enc k d) cur, rfl, hB, ?_, hn, hm, by simp [putCells, hc], ?_⟩⟩, ?_⟩
    · show ((Sort.ahead w m).heap.modify g _ ++ os)[g]? = _
      rw [Array.getElem?_append_left (by simpa [Sort.ahead] using hlt), Array.getElem?_modify]
      have : (Sort.ahead w m).heap = w.heap := rfl
      rw [this, hg]; simp [onCells]
    · rw [putCells_take _ _ (n * k) (by simp [hd]) hsz, flatK_toList enc k hk]
    · refine ⟨rfl, rfl, rfl, ?_, ?_⟩
      · show w.heap.size ≤ ((Sort.ahead w m).heap.modify g _ ++ os).size
        simp [Sort.ahead]
      · intro i hi
        show ((Sort.ahead w m).heap.modify g _ ++ os)[i]? = _
        by_cases hiw : i < w.heap.size
        · rw [Array.getElem?_append_left (by simpa [Sort.ahead] using hiw), Array.getElem?_modify]
          have : (Sort.ahead w m).heap = w.heap := rfl
          rw [this]; simp; intro h; omega
        · omega

theorem own_holds {w : World} {B : Nat} {e : TypeId} {k : Nat} {g n cap : Nat} (enc : α → List Value) (hk : ∀ x, (enc x).length = k) (d : Array α) (hd : d.size = n)
    (h : w.ownsRow B e k (.slice (some ⟨g, 0, none⟩) n cap) n (d.toList.flatMap enc)) : HoldsK enc k w g 0 d := by
  obtain ⟨hx, hh⟩ := h
  rcases hh with ⟨h1, _⟩ | ⟨g', cap', cur, hv, hB, hg, hn, hm, hc, ht⟩
  · cases h1
  · injection hv with e1 e2 e3
    injection e1 with e1
    injection e1 with e1
    subst e1; subst e3
    intro j hj
    have hj' : j < n * k := by simpa [hd] using hj
    have hsz : n * k ≤ cur.size := by rw [hc]; exact Nat.mul_le_mul_right _ hn
    refine ⟨?_, by simp [World.frozen?, hg]⟩
    rw [cell_of_row w g (0 + j) cur e (0, 0) hg, Nat.zero_add]
    have e2 : cur[j]? = (flatK enc k d)[j]? := by
      rw [← Array.getElem?_toList, ← Array.getElem?_toList, flatK_toList enc k hk, ← ht, List.getElem?_take_of_lt hj']
    rw [e2, Array.getElem?_eq_getElem hj, getElem!_pos _ j hj]; rfl
end Go.Proofs.Ytjlncnjmcgkkhaa.So

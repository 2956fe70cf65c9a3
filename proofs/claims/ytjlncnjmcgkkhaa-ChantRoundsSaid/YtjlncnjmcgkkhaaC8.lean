import Derived.Test.YtjlncnjmcgkkhaaC6
namespace Go.Proofs.Ytjlncnjmcgkkhaa
set_option linter.unusedVariables false
set_option linter.unusedSimpArgs false
open Go.RowKit
attribute [local go_sem] run_store_float

set_option maxRecDepth 100000 in
set_option maxHeartbeats 2000000 in
theorem reflong_any (A : Option Addr) (c : Nat) (vs : List (List Note)) (B : Nat) (w : World) (hv : IsVoices w B A vs) (ht : total vs ≤ 4611686018427387904) (hl : vs.length ≤ 4611686018427387904) :
    Calls Try.prog 19 #[.slice A vs.length c] w fun e w' => e = .returned (.bool (longB vs)) ∧ w = w' := by
  have ht' : ∀ k, total (vs.take k) ≤ 4611686018427387904 := fun k => Nat.le_trans (total_take_le vs k) ht
  go_enter Try.func19, Try.ntmps19
  go_wp2_with fail
  go_loop [3, 5, 8] (fun s _ i => ∃ k : Nat, k ≤ vs.length ∧ i = .int .i64 k ∧ s = .int .i64 (total (vs.take k))) (fun _ _ i => vs.length - (intOf i).toNat)
  case atStart => exact ⟨0, by omega, rfl, rfl⟩
  case round =>
    obtain ⟨k, hk, rfl, rfl⟩ := hrel
    by_cases hlt : k < vs.length
    · obtain ⟨b, off, rfl, hb, hn⟩ := hv (by omega)
      obtain ⟨A', c', hc, _, _⟩ := hn k hlt
      have h1 := ht' k; have h2 := ht' (k + 1)
      have h3 := total_take vs k hlt
      have h4 : total (vs.take k) + (vs.getD k []).length ≤ 4611686018427387904 := by omega
      clear hn
      generalize vs.getD k [] = lk at *
      have H3 := Lib.hid h3
      clear h3
      go_wp2_with fail
      go_round
      case rel => exact ⟨k + 1, by omega, by go_num, by rw [H3.out]; go_num⟩
      case measure => simp [intOf]; omega
    · obtain rfl : k = vs.length := by omega
      have h1 := ht' vs.length
      have e : longB vs = (decide ((16 : Int) < (vs.length : Int)) || decide ((65536 : Int) < (total (vs.take vs.length) : Int))) := by
        unfold longB; rw [List.take_length, Bool.eq_iff_iff]; simp only [Bool.or_eq_true, decide_eq_true_eq]; omega
      rw [List.take_length] at e
      have E := Lib.hid e
      clear e
      go_wp2_with fail
      all_goals (go_ret; exact ⟨ret_bool (by rw [E.out]; try simp [*]), rfl⟩)

set_option maxRecDepth 100000 in
/-- Merge, of too many -/
theorem merge_long (A : Option Addr) (c : Nat) (vs : List (List Note)) (w : World) (hv : IsVoices w w.heap.size A vs) (hlong : longB vs = true) (hl1 : vs.length ≤ 4611686018427387904) (hl2 : total vs ≤ 4611686018427387904) :
    Calls Try.prog 17 #[.slice A vs.length c] w fun e w' => e = .returned (.tuple #[.slice none 0 0, .int .i64 3]) ∧ w = w' := by
  have h := long_any A c vs _ w hv hl2 hl1
  rw [hlong] at h
  have HL := Lib.hid h
  clear h hlong
  go_enter Try.func17, Try.ntmps17
  go_wp2_with (go_at_call 43; refine (HL.out).mono ?_; rintro e w' ⟨rfl, rfl⟩)
  go_ret2
  exact ⟨rfl, rfl⟩

/- The full voices of ChantMerges: each a copy with room behind it. -/
theorem own_below {w w' : World} {base : Nat} {e : TypeId} {size n : Nat} {v : Value} {xs : List Value} (h : w.ownsRow base e size v n xs) (hb : Below w.heap.size w w') : w'.ownsRow base e size v n xs := by
  refine ⟨h.1, ?_⟩
  rcases h.2 with h1 | ⟨g, cap, cur, rfl, hB, hg, r⟩
  · exact .inl h1
  · refine .inr ⟨g, cap, cur, rfl, hB, ?_, r⟩
    have hlt : g < w.heap.size := by
      rcases Nat.lt_or_ge g w.heap.size with h | h
      · exact h
      · rw [Array.getElem?_eq_none h] at hg; cases hg
    exact (hb.block g hlt).trans hg

def FullRel (us : List (List Note)) (B k : Nat) (v : Value) (wr : World) : Prop :=
  ∃ xs : List Value, wr.ownsRow B 29 1 v k xs ∧ ∀ j, j < k → ∃ g, xs[j]? = some (.slice (some ⟨g, 0, none⟩) (us.getD j []).length ((us.getD j []).length + 9)) ∧
    wr.heap[g]? = some (.cells (notesCells (roomL (us.getD j []) 9)).toArray 37 (0, 0))

theorem heap_lt {w : World} {g : Nat} {o : Obj} (h : w.heap[g]? = some o) : g < w.heap.size := by
  rcases Nat.lt_or_ge g w.heap.size with h1 | h1
  · exact h1
  · rw [Array.getElem?_eq_none h1] at h; cases h

theorem FullRel.below {us : List (List Note)} {B k : Nat} {v : Value} {wr w' : World} (h : FullRel us B k v wr) (hb : Below wr.heap.size wr w') : FullRel us B k v w' := by
  obtain ⟨xs, ho, hx⟩ := h
  refine ⟨xs, own_below ho hb, fun j hj => ?_⟩
  obtain ⟨g, h1, h2⟩ := hx j hj
  exact ⟨g, h1, (hb.block g (heap_lt h2)).trans h2⟩

/-- one voice more -/
theorem FullRel.step {us : List (List Note)} {B k : Nat} {v v1 : Value} {wr w1 : World} {xs : List Value} {g : Nat} (ho : wr.ownsRow B 29 1 v k xs)
    (hx : ∀ j, j < k → ∃ g, xs[j]? = some (.slice (some ⟨g, 0, none⟩) (us.getD j []).length ((us.getD j []).length + 9)) ∧ wr.heap[g]? = some (.cells (notesCells (roomL (us.getD j []) 9)).toArray 37 (0, 0)))
    (hg : wr.heap[g]? = some (.cells (notesCells (roomL (us.getD k []) 9)).toArray 37 (0, 0))) (h1 : w1.ownsRow B 29 1 v1 (k + 1) (xs ++ [.slice (some ⟨g, 0, none⟩) (us.getD k []).length ((us.getD k []).length + 9)])) (hgr : wr.grownBy w1 v.ownBlock) : FullRel us B (k + 1) v1 w1 := by
  have hne : ∀ g' (cs : Array Value), wr.heap[g']? = some (Obj.cells cs 37 (0, 0)) → some g' ≠ v.ownBlock := fun g' cs hh e => by
    rcases ho.2 with ⟨rfl, _⟩ | ⟨b, cap, cur, rfl, _, hb, _⟩
    · simp [Value.ownBlock] at e
    · simp [Value.ownBlock] at e; subst e; rw [hh] at hb; simp at hb
  have hkeep : ∀ g' (cs : Array Value), wr.heap[g']? = some (Obj.cells cs 37 (0, 0)) → w1.heap[g']? = some (Obj.cells cs 37 (0, 0)) := fun g' cs hh => (hgr.block g' (heap_lt hh) (hne g' cs hh)).trans hh
  refine ⟨_, h1, fun j hj => ?_⟩
  have hxl : xs.length = k := by have := ho.1; omega
  by_cases e : j < k
  · obtain ⟨g', e1, e2⟩ := hx j e
    exact ⟨g', by rw [List.getElem?_append_left (by omega)]; exact e1, hkeep _ _ e2⟩
  · obtain rfl : j = k := by omega
    exact ⟨g, by rw [List.getElem?_append_right (by omega), hxl]; simp, hkeep _ _ hg⟩

/-- the block of a full row -/
theorem own_whole {w : World} {base g n : Nat} {e : TypeId} {size : Nat} {xs : List Value} (h : w.ownsRow base e size (.slice (some ⟨g, 0, none⟩) n n) n xs) : w.heap[g]? = some (.cells xs.toArray e (0, 0)) := by
  rcases h.2 with ⟨h1, _⟩ | ⟨g', cap', cur, hv, _, hg, _, _, hc, ht⟩
  · cases h1
  · injection hv with e1 e2 e3
    injection e1 with e1
    injection e1 with e1
    subst e1; subst e3
    rw [hg, ← ht]
    congr 2
    rw [List.take_of_length_le (by simp [hc])]

theorem notes_of_heap {w : World} {g : Nat} {l : List Note} {t : TypeId} (h : w.heap[g]? = some (.cells (notesCells l).toArray t (0, 0))) (k : Nat) (hk : k < l.length) : NoteAt w g (k * 6) (l.getD k default) := by
  have hc : ∀ j, j < 6 → w.cell? ⟨g, k * 6 + j, none⟩ = ((l.getD k default).cells)[j]? := fun j hj => by
    rw [cell_of_row w g _ _ t _ h, ← notesCells_get l k j hj hk]; simp
  exact ⟨hc 0 (by omega), hc 1 (by omega), hc 2 (by omega), hc 3 (by omega), hc 4 (by omega), hc 5 (by omega)⟩

theorem full_notes {w : World} {g : Nat} {l : List Note} (h : w.heap[g]? = some (.cells (notesCells (roomL l 9)).toArray 37 (0, 0))) : IsNotes w w.heap.size (some ⟨g, 0, none⟩) l := fun hl => by
  refine ⟨g, 0, rfl, heap_lt h, fun k hk => ?_⟩
  have := notes_of_heap h k (by rw [roomL_length]; omega)
  have e : (roomL l 9).getD k default = l.getD k default := by
    unfold roomL; rw [List.getD_eq_getElem?_getD, List.getElem?_append_left hk, ← List.getD_eq_getElem?_getD]
  rw [e] at this
  rw [Nat.zero_add]; exact this
theorem full_pad {w : World} {g : Nat} {l : List Note} (h : w.heap[g]? = some (.cells (notesCells (roomL l 9)).toArray 37 (0, 0))) : w.cell? ⟨g, l.length * 6, none⟩ = some (.int .i64 (-7)) := by
  have := notes_of_heap h l.length (by rw [roomL_length]; omega)
  have e : (roomL l 9).getD l.length default = pad := by
    unfold roomL; rw [List.getD_eq_getElem?_getD, List.getElem?_append_right (by omega)]; simp
  rw [e] at this
  exact this.1

theorem full_voices {us : List (List Note)} {B : Nat} {v : Value} {w : World} (h : FullRel us B us.length v w) : IsVoicesV w w.heap.size v us := by
  obtain ⟨xs, ho, hx⟩ := h
  refine voices_of_own ho rfl fun j hj => ?_
  obtain ⟨g, h1, h2⟩ := hx j hj
  exact ⟨_, _, h1, by omega, full_notes h2⟩
end Go.Proofs.Ytjlncnjmcgkkhaa

import Derived.Test.YtjlncnjmcgkkhaaA8
import Derived.WalkLawsBesides
namespace Go.Proofs.Ytjlncnjmcgkkhaa
set_option linter.unusedVariables false
set_option linter.unusedSimpArgs false
open Go.RowKit
attribute [local go_sem] run_store_float

/- some: the voices cut. -/
def someL (vs : List (List Note)) : List (List Note) := (vs.take 17).map (·.take 60)
theorem someL_length (vs : List (List Note)) : (someL vs).length = min 17 vs.length := by simp [someL]
theorem someL_get (vs : List (List Note)) (k : Nat) (h : k < 17) (hk : k < vs.length) : (someL vs).getD k [] = (vs.getD k []).take 60 := by
  unfold someL
  rw [List.getD_eq_getElem?_getD, List.getElem?_map, List.getElem?_take_of_lt h, List.getD_eq_getElem?_getD, List.getElem?_eq_getElem hk]; rfl

/-- a slice value that holds voices -/
def IsVoicesV (w : World) (B : Nat) (v : Value) (vs : List (List Note)) : Prop := ∃ A c, v = .slice A vs.length c ∧ IsVoices w B A vs

theorem IsNotes.take {w : World} {B : Nat} {A : Option Addr} {l : List Note} (h : IsNotes w B A l) (n : Nat) : IsNotes w B A (l.take n) := fun hl => by
  obtain ⟨b, off, e, hb, hn⟩ := h (by simp at hl; omega)
  refine ⟨b, off, e, hb, fun k hk => ?_⟩
  have hk' : k < n ∧ k < l.length := by simp at hk; omega
  have := hn k hk'.2
  rw [List.getD_eq_getElem?_getD, List.getElem?_take_of_lt hk'.1, ← List.getD_eq_getElem?_getD]
  exact this
theorem IsNotes.more {w : World} {B B' : Nat} {A : Option Addr} {l : List Note} (h : IsNotes w B A l) (hB : B ≤ B') : IsNotes w B' A l := fun hl => by
  obtain ⟨b, off, e, hb, hn⟩ := h hl
  exact ⟨b, off, e, by omega, hn⟩

/-- a row of the call's own that holds slices of notes -/
theorem voices_of_own {w : World} {base n : Nat} {v : Value} {xs : List Value} {vs : List (List Note)} (h : w.ownsRow base 29 1 v n xs) (hn : vs.length = n)
    (hx : ∀ j, j < n → ∃ A c, xs[j]? = some (.slice A (vs.getD j []).length c) ∧ (vs.getD j []).length ≤ c ∧ IsNotes w w.heap.size A (vs.getD j [])) : IsVoicesV w w.heap.size v vs := by
  rcases Nat.eq_zero_or_pos n with h0 | h0
  · subst h0
    rcases h.2 with ⟨rfl, _⟩ | ⟨g, cap, cur, rfl, _⟩
    · exact ⟨_, _, by rw [hn], fun hl => by omega⟩
    · exact ⟨_, _, by rw [hn], fun hl => by omega⟩
  · obtain ⟨g, cap, rfl, _, hg⟩ := own_form h h0
    refine ⟨_, cap, by rw [hn], fun _ => ⟨g, 0, rfl, hg, fun k hk => ?_⟩⟩
    obtain ⟨A, c, e, hc, hi⟩ := hx k (by omega)
    exact ⟨A, c, by rw [Nat.zero_add, h.cellAt k (by omega)]; exact e, hc, hi⟩

theorem info29 : Try.prog.info? 29 = some Try.t29 := by kernel_rfl
theorem zero29 : Try.t29.zero = some (.slice none 0 0) := by kernel_rfl
theorem size29 : Try.t29.size = 1 := by kernel_rfl
theorem bytes29 : Try.t29.bytes = 24 := by kernel_rfl

def SomeRel (vs : List (List Note)) (w : World) (k : Nat) (v : Value) (wr : World) : Prop :=
  ∃ xs : List Value, wr.ownsRow w.heap.size 29 1 v k xs ∧ ∀ j, j < k → ∃ A c, xs[j]? = some (.slice A ((vs.getD j []).take 60).length c) ∧ ((vs.getD j []).take 60).length ≤ c ∧ IsNotes w w.heap.size A ((vs.getD j []).take 60)

theorem someRel_end {vs : List (List Note)} {w wr : World} {k : Nat} {v : Value} (h : SomeRel vs w k v wr) (hb : Below w.heap.size w wr) (hk : k = min 17 vs.length) : IsVoicesV wr wr.heap.size v (someL vs) := by
  obtain ⟨xs, ho, hx⟩ := h
  refine voices_of_own ho (by rw [someL_length, hk]) fun j hj => ?_
  obtain ⟨A, c, e, hc, hi⟩ := hx j hj
  rw [someL_get vs j (by omega) (by omega)]
  exact ⟨A, c, e, hc, (hi.below hb).more hb.size⟩

theorem someRel_step {vs : List (List Note)} {w wr w1 : World} {k : Nat} {v v1 : Value} {xs : List Value} {A : Option Addr} {c : Nat}
    (hx : ∀ j, j < k → ∃ A c, xs[j]? = some (.slice A ((vs.getD j []).take 60).length c) ∧ ((vs.getD j []).take 60).length ≤ c ∧ IsNotes w w.heap.size A ((vs.getD j []).take 60)) (hl : xs.length = k) (hc : ((vs.getD k []).take 60).length ≤ c)
    (hi : IsNotes w w.heap.size A ((vs.getD k []).take 60)) (ho : w1.ownsRow w.heap.size 29 1 v1 (k + 1) (xs ++ [.slice A ((vs.getD k []).take 60).length c])) : SomeRel vs w (k + 1) v1 w1 := by
  refine ⟨_, ho, fun j hj => ?_⟩
  by_cases e : j < k
  · obtain ⟨A', c', e', hc', hi'⟩ := hx j e
    exact ⟨A', c', by rw [List.getElem?_append_left (by omega)]; exact e', hc', hi'⟩
  · obtain rfl : j = k := by omega
    exact ⟨A, c, by rw [List.getElem?_append_right (by omega), hl]; simp, hc, hi⟩

set_option maxRecDepth 100000 in
set_option maxHeartbeats 2000000 in
theorem some_any (A : Option Addr) (c : Nat) (vs : List (List Note)) (w : World) (hv : IsVoices w w.heap.size A vs) (hl : vs.length ≤ 4611686018427387904) :
    Calls Try.prog 15 #[.slice A vs.length c] w fun e w' => ∃ v, e = .returned v ∧ IsVoicesV w' w'.heap.size v (someL vs) ∧ Below w.heap.size w w' := by
  go_enter Try.func15, Try.ntmps15
  go_wp2_with fail
  go_loopw [3, 8] (fun v i wr => ∃ k : Nat, k ≤ vs.length ∧ k ≤ 17 ∧ i = .int .i64 k ∧ SomeRel vs w k v wr ∧ Below w.heap.size w wr) (fun _ i _ => vs.length - (intOf i).toNat)
  case atStart => exact ⟨0, by omega, by omega, rfl, ⟨[], ⟨rfl, .inl ⟨rfl, rfl⟩⟩, by omega⟩, Below.refl _ _⟩
  case round =>
    rename_i wr
    obtain ⟨k, hk, hk17, rfl, hrl, hbl⟩ := hrel
    by_cases hlt : k < vs.length
    · obtain ⟨b, off, rfl, hb, hn⟩ := hv (by omega)
      obtain ⟨A', c', hc, hcap, hi⟩ := hn k hlt
      have hc1 := (hbl.cell (p := ⟨b, off + k, none⟩) hb).trans hc
      clear hn hc
      by_cases h17 : k = 17
      · subst h17
        have Hr := Lib.hid hrl
        clear hrl
        go_wp2_with fail
        go_ret
        exact ⟨_, rfl, someRel_end Hr.out hbl (by omega), hbl⟩
      · have h17' : ((k : Int) == 17) = false := by simp; omega
        have hi' := hi.take 60
        obtain ⟨xs, ho, hx⟩ := hrl
        have Hx := Lib.hid hx
        clear hx
        have hxl : xs.length = k := by have := ho.1; omega
        have Hstep := Lib.hid fun v1 w1 c hc ho' => someRel_step (v := .slice none 0 0) (wr := wr) (v1 := v1) (w1 := w1) (c := c) Hx.out hxl hc hi' ho'
        have hbs := hbl.size
        clear hxl hi'
        generalize vs.getD k [] = lk at *
        have hmin : (min (lk.length : Int) 60).toNat = (lk.take 60).length := by simp; omega
        have Hmin := Lib.hid hmin
        clear hmin
        go_wp2_with (at_builtin; go_loud (refine wpList_append_box _ rfl _ _ 27 rfl w.heap.size 29 _ _ 1 24 Try.underlying27 info29 zero29 size29 bytes29 rfl (by decide) _ k xs _ wr.heap.size rfl rfl ?c0 (by exact ho) rfl ?c1 ?c2 ?c3 ?c4 ?_); rotate_right; intro v1 w1 hown1 hbl1; clear ho)
        case c0 => rfl
        case c1 => rfl
        case c2 => unfold maxLen; omega
        case c3 => omega
        case c4 => exact hbs
        go_roundw
        case rel =>
          rw [Hmin.out] at hown1
          exact ⟨k + 1, by omega, by omega, by go_num, Hstep.out v1 w1 c' (by simp; omega) hown1, hbl.trans hbl1⟩
        case measure => simp [intOf]; omega
    · obtain rfl : k = vs.length := by omega
      have Hr := Lib.hid hrl
      clear hrl
      go_wp2_with fail
      go_ret
      exact ⟨_, rfl, someRel_end Hr.out hbl (by omega), hbl⟩
end Go.Proofs.Ytjlncnjmcgkkhaa

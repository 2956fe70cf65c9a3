/- A float plus nought; a float less itself. Plain. -/
import Derived.Test.YtjlncnjmcgkkhaaFf
namespace Go.Proofs.Ytjlncnjmcgkkhaa.Fl
set_option linter.unusedVariables false
set_option linter.unusedSimpArgs false
open Ieee

theorem frac_eq : double.fractionBits = 52 := by decide

theorem shift_one (k : Nat) : (1 : Nat) <<< k = 2 ^ k := by rw [Nat.shiftLeft_eq, Nat.one_mul]

theorem cut_exact (neg : Bool) (m k : Nat) (hm : 0 < m) (hk : k ≤ (m <<< k).log2) : Toward.even.cut neg (m <<< k) k = m := by
  unfold Toward.cut
  have hmin : min k ((m <<< k).log2 + 2) = k := by omega
  rw [hmin, shift_one, Nat.shiftLeft_eq]
  have h1 : m * 2 ^ k / 2 ^ k = m := Nat.mul_div_cancel _ (Nat.pow_pos (by omega))
  have h2 : m * 2 ^ k % 2 ^ k = 0 := Nat.mul_mod_left _ _
  simp only [h1, h2]
  have h3 : 0 < 2 ^ k := Nat.pow_pos (by omega)
  have h4 : (decide (2 ^ k < 2 * 0)) = false := by simp
  have h5 : (2 ^ k == 2 * 0) = false := by simp
  simp only [h4, h5]; simp

theorem log2_shift (m k : Nat) (hm : 0 < m) : (m <<< k).log2 = m.log2 + k := by
  rw [Nat.shiftLeft_eq]
  rw [Nat.log2_eq_iff (by have := Nat.mul_pos hm (Nat.pow_pos (n := k) (show 0 < 2 by omega)); omega)]
  have h := Nat.log2_self_le (show m ≠ 0 by omega)
  have h' := Nat.lt_log2_self (n := m)
  constructor
  · rw [Nat.pow_add]; exact Nat.mul_le_mul_right _ h
  · have : m.log2 + k + 1 = (m.log2 + 1) + k := by omega
    rw [this, Nat.pow_add]; exact Nat.mul_lt_mul_of_pos_right h' (Nat.pow_pos (by omega))

theorem word_of (x : Nat) (hx : x < 18446744073709551616) : double.word (x / 9223372036854775808 % 2 == 1) (x % 9223372036854775808) = x := by
  unfold Format.word
  rw [signWeight_eq]
  by_cases h : x / 9223372036854775808 % 2 = 1
  · simp only [h, beq_self_eq_true, if_true]; omega
  · have : (x / 9223372036854775808 % 2 == 1) = false := by simpa using h
    simp only [this, Bool.false_eq_true, if_false]; omega

theorem nearest_exact (neg : Bool) (m e : Nat) (h1 : 4503599627370496 ≤ m) (h2 : m < 9007199254740992) (h3 : e * 4503599627370496 + m < 9218868437227405312) :
    double.nearest neg (m <<< e) (-1074) = double.word neg (e * 4503599627370496 + m) := by
  have hl : m.log2 = 52 := by rw [Nat.log2_eq_iff (by omega)]; omega
  have hpos : m <<< e ≠ 0 := by rw [Nat.shiftLeft_eq]; have := Nat.mul_pos (show 0 < m by omega) (Nat.pow_pos (n := e) (show 0 < 2 by omega)); omega
  unfold Format.nearest
  rw [if_neg hpos]
  simp only [log2_shift m e (by omega), hl, frac_eq, least, binade_eq, infRung_eq]
  have hlast : max ((-1074 : Int) + ((52 + e : Nat) : Int) - ((52 : Nat) : Int)) (-1074) = -1074 + (e : Int) := by omega
  rw [hlast]
  have e1 : ((-1074 : Int) - (-1074 + (e : Int))).toNat = 0 := by omega
  have e2 : ((-1074 : Int) + (e : Int) - -1074).toNat = e := by omega
  rw [e1, e2, Nat.shiftLeft_zero, cut_exact neg m e (by omega) (by rw [log2_shift m e (by omega)]; omega)]
  congr 1
  omega

theorem nearest_small (neg : Bool) (m : Nat) (h0 : 0 < m) (h2 : m < 4503599627370496) : double.nearest neg m (-1074) = double.word neg m := by
  have hl : m.log2 < 52 := by rw [Nat.log2_lt (by omega)]; omega
  unfold Format.nearest
  rw [if_neg (by omega)]
  simp only [frac_eq, least, binade_eq, infRung_eq]
  have hlast : max ((-1074 : Int) + (m.log2 : Int) - ((52 : Nat) : Int)) (-1074) = -1074 := by omega
  rw [hlast]
  have hc := cut_exact neg m 0 h0 (by omega)
  simp only [Nat.shiftLeft_zero] at hc
  have e1 : ((-1074 : Int) - -1074).toNat = 0 := by omega
  rw [e1, Nat.shiftLeft_zero, hc]
  congr 1
  omega

theorem sum_zero (s : Bool) (m : Nat) (i : Int) (hi : -1074 ≤ i) : Datum.sum (.number s m i) (.number false 0 (-1074)) =
    some (.number (if m = 0 then false else s) (m <<< (i + 1074).toNat) (-1074)) := by
  have hb : min i (-1074) = -1074 := by omega
  show some (Datum.number _ _ (min i (-1074))) = _
  rw [hb]
  have e0 : ((-1074 : Int) - -1074).toNat = 0 := by omega
  have e1 : (i - -1074).toNat = (i + 1074).toNat := by omega
  rw [e0, e1]
  generalize (i + 1074).toNat = u
  have hz : signed false 0 0 = 0 := by decide
  rw [hz, Int.add_zero, signed_abs, ← Nat.shiftLeft_eq]
  have h2 : 0 < 2 ^ u := Nat.pow_pos (by omega)
  by_cases hm : m = 0
  · subst hm
    have : signed s 0 u = 0 := by unfold signed; cases s <;> simp
    simp [this]
  · have hne : signed s m u ≠ 0 := by
      intro h
      have := signed_abs s m u
      rw [h] at this
      have h3 : 0 < m * 2 ^ u := Nat.mul_pos (by omega) h2
      simp at this; omega
    rw [if_neg hne, if_neg hm]
    have h3 : 0 < m * 2 ^ u := Nat.mul_pos (by omega) h2
    congr 2
    unfold signed
    rw [Nat.shiftLeft_eq]
    cases s
    · simp only [Bool.false_eq_true, if_false, decide_eq_false_iff_not]; omega
    · simp only [if_true, decide_eq_true_eq]; omega

theorem signed_zero {s : Bool} {m u : Nat} : signed s m u = 0 ↔ m = 0 := by
  have h1 := signed_abs s m u
  have h2 : 0 < 2 ^ u := Nat.pow_pos (by omega)
  constructor
  · intro h; rw [h] at h1
    rcases Nat.eq_zero_or_pos m with h3 | h3
    · exact h3
    · have := Nat.mul_pos h3 h2; simp at h1; omega
  · rintro rfl; simp at h1; exact h1

/-- x + 0 -/
theorem add_zero_eq (x : Nat) (hx : x < 18446744073709551616) (k : Int) (hk : key x = some k) : double.add x 0 = some (if k = 0 then 0 else x) := by
  have hr0 : double.read 0 = .number false 0 (-1074) := by decide
  unfold Format.add
  rw [hr0]
  have hread : double.read x = double.read x := rfl
  conv at hread => rhs; unfold Format.read
  simp only [signWeight_eq, binade_eq, infRung_eq, least] at hread
  have hw := word_of x hx
  generalize (x / 9223372036854775808 % 2 == 1) = s at *
  have hrl : x % 9223372036854775808 < 9223372036854775808 := Nat.mod_lt _ (by omega)
  generalize x % 9223372036854775808 = r at *
  have hkey : key x = dval (double.read x) := rfl
  rw [hk] at hkey
  by_cases h1 : r < 4503599627370496
  · rw [if_pos h1] at hread
    rw [hread] at hkey ⊢
    rw [sum_zero s r (-1074) (by omega)]
    have e0 : ((-1074 : Int) + 1074).toNat = 0 := by omega
    simp only [dval, e0, Option.some.injEq] at hkey
    simp only [e0, Nat.shiftLeft_zero, Option.map_some, Format.write]
    by_cases hr : r = 0
    · subst hr
      have hk0 : k = 0 := by rw [hkey]; exact signed_zero.2 rfl
      rw [if_pos rfl, if_pos hk0]
      show some (double.nearest false 0 (-1074)) = some 0
      decide
    · have hk0 : k ≠ 0 := fun h => hr (signed_zero.1 (hkey.symm.trans h))
      rw [if_neg hr, if_neg hk0, nearest_small s r (by omega) h1, hw]
  · rw [if_neg h1] at hread
    by_cases h2 : r < 9218868437227405312
    · rw [if_pos h2] at hread
      rw [hread] at hkey ⊢
      rw [sum_zero s _ _ (by omega)]
      have e0 : ((-1074 : Int) + ((r / 4503599627370496 - 1 : Nat) : Int) + 1074).toNat = r / 4503599627370496 - 1 := by omega
      have hkey' : k = signed s (4503599627370496 + r % 4503599627370496) (r / 4503599627370496 - 1) := by
        have : some k = some (signed s (4503599627370496 + r % 4503599627370496) ((-1074 : Int) + ((r / 4503599627370496 - 1 : Nat) : Int) + 1074).toNat) := hkey
        rw [e0] at this; exact Option.some.inj this
      have hk0 : k ≠ 0 := fun h => by have := signed_zero.1 (hkey'.symm.trans h); omega
      rw [if_neg hk0, if_neg (by omega), e0]
      simp only [Option.map_some, Format.write]
      rw [nearest_exact s _ _ (by omega) (by omega) (by omega)]
      have e3 : (r / 4503599627370496 - 1) * 4503599627370496 + (4503599627370496 + r % 4503599627370496) = r := by omega
      rw [e3, hw]
    · rw [if_neg h2] at hread
      by_cases h3 : r = 9218868437227405312
      · rw [if_pos h3] at hread
        rw [hread] at hkey ⊢
        have hb := bigN_pos
        have hk0 : k ≠ 0 := by
          simp only [dval, Option.some.injEq] at hkey
          rw [hkey]; cases s <;> simp <;> omega
        rw [if_neg hk0]
        show some (double.word s double.infRung) = some x
        rw [infRung_eq, ← h3, hw]
      · rw [if_neg h3] at hread
        rw [hread] at hkey; simp [dval] at hkey

theorem sub_self_fin (x : Nat) (h : finB x = true) : double.sub x x = some 0 := by
  unfold finB at h
  unfold Format.sub
  cases hr : double.read x with
  | number s m i =>
    have e0 : (i - min i i).toNat = 0 := by omega
    have hs : signed s m 0 + signed (!s) m 0 = 0 := by unfold signed; cases s <;> simp <;> omega
    show ((Datum.sum (.number s m i) (.number (!s) m i)).map double.write) = some 0
    have : Datum.sum (.number s m i) (.number (!s) m i) = some (.number false 0 i) := by
      show some (Datum.number (if signed s m (i - min i i).toNat + signed (!s) m (i - min i i).toNat = 0 then s && !s else decide (signed s m (i - min i i).toNat + signed (!s) m (i - min i i).toNat < 0)) (signed s m (i - min i i).toNat + signed (!s) m (i - min i i).toNat).natAbs (min i i)) = _
      rw [e0, hs]
      have : min i i = i := by omega
      rw [this]; cases s <;> rfl
    rw [this]
    show some (double.nearest false 0 i) = some 0
    rfl
  | infinity s => rw [hr] at h; cases h
  | nan s f => rw [hr] at h; cases h
theorem sub_self_inf (x : Nat) (h : finB x = false) : double.sub x x = none := by
  unfold finB at h
  unfold Format.sub
  cases hr : double.read x with
  | number s m i => rw [hr] at h; cases h
  | infinity s => cases s <;> rfl
  | nan s f => rfl
end Go.Proofs.Ytjlncnjmcgkkhaa.Fl

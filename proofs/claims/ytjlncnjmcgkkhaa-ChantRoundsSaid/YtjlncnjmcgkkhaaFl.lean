/- Plain facts on 64-bit floats: the order of two floats is the order of two integers; finite, plain.
   No program in sight. -/
import Ieee.Arith
import GoSem.Core.Float
import Derived.Laws.FloatBits
namespace Go.Proofs.Ytjlncnjmcgkkhaa.Fl
set_option linter.unusedVariables false
set_option linter.unusedSimpArgs false
open Ieee

def bigE : Nat := 2200
def bigN : Nat := 2 ^ bigE
theorem bigN_pos : 0 < bigN := Nat.pow_pos (by omega)
theorem lt_bigN {m u : Nat} (hm : m < 2 ^ 53) (hu : u ≤ 2045) : m * 2 ^ u < bigN :=
  calc m * 2 ^ u ≤ 2 ^ 53 * 2 ^ u := Nat.mul_le_mul_right _ (by omega)
    _ = 2 ^ (53 + u) := by rw [← Nat.pow_add]
    _ < bigN := Nat.pow_lt_pow_right (by omega) (by unfold bigE; omega)
attribute [irreducible] bigN

/-- what a datum stands for, in units of the least place; infinity beyond all numbers -/
def dval : Datum → Option Int
  | .nan .. => none
  | .infinity s => some (if s then -(bigN : Int) else (bigN : Int))
  | .number s m i => some (signed s m (i + 1074).toNat)

def Good : Datum → Prop
  | .number _ m i => m < 2 ^ 53 ∧ -1074 ≤ i ∧ i ≤ 971
  | _ => True

theorem least : double.leastPlace = -1074 := by decide
theorem binade_eq : double.binade = 4503599627370496 := by decide
theorem infRung_eq : double.infRung = 9218868437227405312 := by decide
theorem signWeight_eq : double.signWeight = 9223372036854775808 := by decide

theorem read_good (x : Nat) : Good (double.read x) := by
  unfold Format.read
  simp only [least, binade_eq, infRung_eq, signWeight_eq]
  split
  · refine ⟨?_, ?_, ?_⟩ <;> omega
  · split
    · rename_i h1 h2
      refine ⟨?_, ?_, ?_⟩ <;> omega
    · split <;> trivial

def key (x : Nat) : Option Int := dval (double.read x)

theorem compare_mul (a b c : Int) (hc : 0 < c) : compare (a * c) (b * c) = compare a b := by
  rcases Int.lt_trichotomy a b with h | h | h
  · rw [Int.compare_eq_lt.2 h, Int.compare_eq_lt.2 (Int.mul_lt_mul_of_pos_right h hc)]
  · subst h; simp
  · rw [Int.compare_eq_gt.2 h, Int.compare_eq_gt.2 (Int.mul_lt_mul_of_pos_right h hc)]

theorem signed_mul (s : Bool) (m u v : Nat) : signed s m (u + v) = signed s m u * (2 ^ v : Nat) := by
  unfold signed
  rw [Nat.shiftLeft_eq, Nat.shiftLeft_eq, Nat.pow_add, ← Nat.mul_assoc]
  cases s <;> simp [Int.natCast_mul, Int.neg_mul]

theorem signed_abs (s : Bool) (m u : Nat) : (signed s m u).natAbs = m * 2 ^ u := by
  unfold signed
  rw [Nat.shiftLeft_eq]
  cases s <;> simp only [Bool.false_eq_true, if_true, if_false] <;> omega

theorem signed_lt {s : Bool} {m u : Nat} (hm : m < 2 ^ 53) (hu : u ≤ 2045) : (signed s m u).natAbs < bigN := by
  rw [signed_abs]; exact lt_bigN hm hu

theorem order_dval {d e : Datum} (hd : Good d) (he : Good e) :
    d.order e = match dval d, dval e with | some a, some b => some (compare a b) | _, _ => none := by
  have hP := bigN_pos
  cases d with
  | nan => cases e <;> simp [Datum.order, dval]
  | infinity s =>
    cases e with
    | nan => simp [Datum.order, dval]
    | infinity t =>
      simp only [Datum.order, dval]
      cases s <;> cases t <;> simp only [Bool.toNat, cond, Bool.false_eq_true, if_true, if_false]
      · simp
      · rw [Int.compare_eq_gt.2 (by omega)]; rfl
      · rw [Int.compare_eq_lt.2 (by omega)]; rfl
      · simp
    | number t n j =>
      simp only [Datum.order, dval]
      have hb := signed_lt (s := t) he.1 (u := (j + 1074).toNat) (by have := he.2; omega)
      cases s <;> simp only [Bool.false_eq_true, if_true, if_false]
      · rw [Int.compare_eq_gt.2 (by omega)]
      · rw [Int.compare_eq_lt.2 (by omega)]
  | number s m i =>
    cases e with
    | nan => simp [Datum.order, dval]
    | infinity t =>
      simp only [Datum.order, dval]
      have hb := signed_lt (s := s) hd.1 (u := (i + 1074).toNat) (by have := hd.2; omega)
      cases t <;> simp only [Bool.false_eq_true, if_true, if_false]
      · rw [Int.compare_eq_lt.2 (by omega)]
      · rw [Int.compare_eq_gt.2 (by omega)]
    | number t n j =>
      show some (compare (signed s m (i - min i j).toNat) (signed t n (j - min i j).toNat)) = some (compare (signed s m (i + 1074).toNat) (signed t n (j + 1074).toNat))
      have h1 := hd.2; have h2 := he.2
      have e1 : (i + 1074).toNat = (i - min i j).toNat + (min i j + 1074).toNat := by omega
      have e2 : (j + 1074).toNat = (j - min i j).toNat + (min i j + 1074).toNat := by omega
      rw [e1, e2, signed_mul, signed_mul, compare_mul]
      exact Int.natCast_pos.2 (Nat.pow_pos (by omega))

theorem order_key (x y : Nat) : double.order x y = match key x, key y with | some a, some b => some (compare a b) | _, _ => none :=
  order_dval (read_good x) (read_good y)

def finB (x : Nat) : Bool := match double.read x with | .number .. => true | _ => false
def nanB (x : Nat) : Bool := match double.read x with | .nan .. => true | _ => false

theorem key_number {x : Nat} {s : Bool} {m : Nat} {i : Int} (h : double.read x = .number s m i) : key x = some (signed s m (i + 1074).toNat) ∧ (signed s m (i + 1074).toNat).natAbs < bigN := by
  have g := read_good x
  rw [h] at g
  refine ⟨by unfold key; rw [h]; rfl, signed_lt g.1 (by have := g.2; omega)⟩

theorem finB_iff (x : Nat) : finB x = true ↔ ∃ k, key x = some k ∧ k.natAbs < bigN := by
  unfold finB
  cases h : double.read x with
  | number s m i => simp only [true_iff]; exact ⟨_, key_number h⟩
  | infinity s => simp only [Bool.false_eq_true, false_iff]; rintro ⟨k, hk, hl⟩; unfold key at hk; rw [h] at hk; simp only [dval, Option.some.injEq] at hk; subst hk; cases s <;> simp at hl
  | nan s f => simp only [Bool.false_eq_true, false_iff]; rintro ⟨k, hk, hl⟩; unfold key at hk; rw [h] at hk; simp [dval] at hk
theorem nanB_iff (x : Nat) : nanB x = true ↔ key x = none := by
  unfold nanB key
  cases h : double.read x <;> simp [dval]
theorem nanB_order (x : Nat) : (double.order x x != some .eq) = nanB x := by
  rw [order_key]
  cases h : key x with
  | none => have := (nanB_iff x).2 h; simp [this]
  | some k =>
    have : nanB x = false := by
      cases hn : nanB x with
      | false => rfl
      | true => rw [(nanB_iff x).1 hn] at h; cases h
    simp [this]

theorem read_abs (a : Nat) : double.read (a % 9223372036854775808) = match double.read a with
    | .number _ m i => .number false m i
    | .infinity _ => .infinity false
    | .nan _ f => .nan false f := by
  unfold Format.read
  simp only [signWeight_eq]
  have e2 : a % 9223372036854775808 % 9223372036854775808 = a % 9223372036854775808 := Nat.mod_mod _ _
  have e1 : (a % 9223372036854775808 / 9223372036854775808 % 2 == 1) = false := by
    have : a % 9223372036854775808 / 9223372036854775808 = 0 := Nat.div_eq_of_lt (Nat.mod_lt _ (by omega))
    rw [this]; rfl
  simp only [e2, e1]
  split
  · rfl
  · split
    · rfl
    · split <;> rfl

theorem signed_nonneg (m u : Nat) : 0 ≤ signed false m u := by
  unfold signed; simp only [Bool.false_eq_true, if_false]; exact Int.natCast_nonneg _
theorem signed_le {m n u v : Nat} (h : m ≤ n) (h' : u ≤ v) : signed false m u ≤ signed false n v := by
  have h1 : (signed false m u).natAbs ≤ (signed false n v).natAbs := by
    rw [signed_abs, signed_abs]
    exact Nat.mul_le_mul h (Nat.pow_le_pow_right (by omega) h')
  have := signed_nonneg m u
  have := signed_nonneg n v
  omega

theorem read_max : double.read 9218868437227405311 = .number false 9007199254740991 971 := by decide

theorem isInf_eq (a : Nat) : (double.order (a % 9223372036854775808) 9218868437227405311 == some .gt) = (match double.read a with | .infinity _ => true | _ => false) := by
  rw [order_key]
  obtain ⟨z, hz, km⟩ : ∃ u, u = 2045 ∧ key 9218868437227405311 = some (signed false 9007199254740991 u) := ⟨_, rfl, by unfold key; rw [read_max]; rfl⟩
  have kmb : (signed false 9007199254740991 z).natAbs < bigN := signed_lt (by omega) (by omega)
  have ka : key (a % 9223372036854775808) = dval (double.read (a % 9223372036854775808)) := rfl
  rw [read_abs] at ka
  have g := read_good a
  rw [km]
  cases h : double.read a with
  | nan s f => rw [h] at ka; simp only [dval] at ka; rw [ka]; simp
  | infinity s =>
    rw [h] at ka; simp only [dval, Bool.false_eq_true, if_false] at ka; rw [ka]
    simp only []
    rw [Int.compare_eq_gt.2 (by omega)]; rfl
  | number s m i =>
    rw [h] at ka g
    have ka' : key (a % 9223372036854775808) = some (signed false m (i + 1074).toNat) := ka
    rw [ka']
    have h1 : signed false m (i + 1074).toNat ≤ signed false 9007199254740991 z := signed_le (by have := g.1; omega) (by have := g.2; omega)
    generalize signed false m (i + 1074).toNat = u at *
    generalize signed false 9007199254740991 z = v at *
    simp only []
    have : compare u v ≠ .gt := by intro hc; have := Int.compare_eq_gt.1 hc; omega
    simp [this]

theorem fin_eq (a : Nat) : (!(double.order a a != some .eq) && !(double.order (a % 9223372036854775808) 9218868437227405311 == some .gt)) = finB a := by
  rw [nanB_order, isInf_eq]
  unfold nanB finB
  cases double.read a <;> rfl

theorem order_none {x y : Nat} (h : key x = none) : double.order x y = none := by rw [order_key, h]
theorem order_none' {x y : Nat} (h : key y = none) : double.order x y = none := by rw [order_key, h]; cases key x <;> rfl
theorem order_some {x y : Nat} {a b : Int} (h : key x = some a) (h' : key y = some b) : double.order x y = some (compare a b) := by rw [order_key, h, h']
theorem key_zero : key 0 = some 0 := by decide
theorem read_20 : double.read 4697254411347427328 = .number false 4503599627370496 (-32) := by decide

/-- a number of a tempo may be: the two ways to say it -/
theorem may_eq (x : Nat) : ((finB x && !(double.order x 0 == some .lt)) && !(double.order x 4697254411347427328 == some .gt)) =
    ((double.order x 0 == some .gt || double.order x 0 == some .eq) && (double.order x 4697254411347427328 == some .lt || double.order x 4697254411347427328 == some .eq)) := by
  obtain ⟨z, hz, km⟩ : ∃ u, u = 1042 ∧ key 4697254411347427328 = some (signed false 4503599627370496 u) := ⟨_, rfl, by unfold key; rw [read_20]; rfl⟩
  have kmb : (signed false 4503599627370496 z).natAbs < bigN := signed_lt (by omega) (by omega)
  cases hk : key x with
  | none =>
    have : finB x = false := by
      cases h : finB x with
      | false => rfl
      | true => obtain ⟨k, h1, _⟩ := (finB_iff x).1 h; rw [hk] at h1; cases h1
    rw [order_none hk, order_none hk, this]; rfl
  | some k =>
    rw [order_some hk key_zero, order_some hk km]
    generalize signed false 4503599627370496 z = v at *
    have hf : finB x = decide (k.natAbs < bigN) := by
      rw [Bool.eq_iff_iff, finB_iff, decide_eq_true_iff]
      constructor
      · rintro ⟨k', h1, h2⟩; rw [hk] at h1; cases h1; exact h2
      · intro h; exact ⟨k, hk, h⟩
    rw [hf]
    rcases Int.lt_trichotomy k 0 with h0 | h0 | h0 <;> rcases Int.lt_trichotomy k v with h1 | h1 | h1
    all_goals
      first | rw [Int.compare_eq_lt.2 h0] | rw [Int.compare_eq_eq.2 h0] | rw [Int.compare_eq_gt.2 h0]
    all_goals
      first | rw [Int.compare_eq_lt.2 h1] | rw [Int.compare_eq_eq.2 h1] | rw [Int.compare_eq_gt.2 h1]
    all_goals simp <;> omega

/-- the order of two moments: all numbers ahead of what is none -/
def mom (a b : Nat) : Int := match key a, key b with
  | none, none => 0
  | none, some _ => 1
  | some _, none => -1
  | some x, some y => if x < y then -1 else if y < x then 1 else 0

theorem order_self {x : Nat} {a : Int} (h : key x = some a) : double.order x x = some .eq := by rw [order_some h h]; simp

end Go.Proofs.Ytjlncnjmcgkkhaa.Fl

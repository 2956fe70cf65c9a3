/- Floors and roundings of floats, in units of the least place. Plain. -/
import Derived.Test.YtjlncnjmcgkkhaaFp
namespace Go.Proofs.Ytjlncnjmcgkkhaa.Fl
set_option linter.unusedVariables false
set_option linter.unusedSimpArgs false
open Ieee

def moreD (way : Toward) (neg : Bool) (q r g : Nat) : Bool := match way with
  | .even => decide (g < 2 * r) || (g == 2 * r && q % 2 == 1)
  | .down => neg && r != 0
  | .up => !neg && r != 0
  | .zero => false
def cutD (way : Toward) (neg : Bool) (n d : Nat) : Nat := n / 2 ^ d + (moreD way neg (n / 2 ^ d) (n % 2 ^ d) (2 ^ d)).toNat

theorem cut_raw (way : Toward) (neg : Bool) (n d : Nat) : way.cut neg n d = n / 2 ^ (min d (n.log2 + 2)) + (moreD way neg (n / 2 ^ (min d (n.log2 + 2))) (n % 2 ^ (min d (n.log2 + 2))) (2 ^ (min d (n.log2 + 2)))).toNat := by
  unfold Toward.cut moreD
  rw [shift_one]
  cases way <;> rfl

theorem cut_full (way : Toward) (neg : Bool) (n d : Nat) : way.cut neg n d = cutD way neg n d := by
  rw [cut_raw]
  unfold cutD
  by_cases h : d ≤ n.log2 + 2
  · rw [Nat.min_eq_left h]
  · rw [Nat.min_eq_right (by omega)]
    have h1 := Nat.lt_log2_self (n := n)
    have h2 : 2 ^ (n.log2 + 1) * 2 = 2 ^ (n.log2 + 2) := by rw [← Nat.pow_succ]
    have h3 : 2 ^ (n.log2 + 2) ≤ 2 ^ d := Nat.pow_le_pow_right (by omega) (by omega)
    generalize 2 ^ (n.log2 + 2) = g at *
    generalize 2 ^ d = e at *
    generalize 2 ^ (n.log2 + 1) = f at *
    rw [Nat.div_eq_of_lt (by omega), Nat.div_eq_of_lt (by omega), Nat.mod_eq_of_lt (by omega), Nat.mod_eq_of_lt (by omega)]
    congr 2
    cases way with
    | even =>
      have e1 : decide (g < 2 * n) = false := by simp; omega
      have e2 : decide (e < 2 * n) = false := by simp; omega
      simp [moreD, e1, e2]
    | down => rfl
    | up => rfl
    | zero => rfl

theorem cut_scale (way : Toward) (neg : Bool) (t k a : Nat) : cutD way neg (t <<< (k - a)) (a - k) = cutD way neg (t <<< k) a := by
  unfold cutD
  rw [Nat.shiftLeft_eq, Nat.shiftLeft_eq]
  by_cases h : a ≤ k
  · have e : a - k = 0 := by omega
    have e2 : 2 ^ k = 2 ^ (k - a) * 2 ^ a := by rw [← Nat.pow_add]; congr 1; omega
    have hp : 0 < 2 ^ a := Nat.pow_pos (by omega)
    rw [e, Nat.pow_zero, Nat.div_one, Nat.mod_one, e2, ← Nat.mul_assoc, Nat.mul_div_cancel _ hp, Nat.mul_mod_left]
    generalize 2 ^ a = g at *
    congr 2
    cases way with
    | even =>
      have e5 : (g == 0) = false := by simp; omega
      simp [moreD, e5]
    | down => rfl
    | up => rfl
    | zero => rfl
  · have e : k - a = 0 := by omega
    have e2 : 2 ^ a = 2 ^ (a - k) * 2 ^ k := by rw [← Nat.pow_add]; congr 1; omega
    have hp : 0 < 2 ^ k := Nat.pow_pos (by omega)
    rw [e, Nat.pow_zero, Nat.mul_one, e2, Nat.mul_div_mul_right _ _ hp, Nat.mul_mod_mul_right]
    generalize 2 ^ (a - k) = g at *
    generalize t % g = r at *
    generalize 2 ^ k = p at *
    congr 2
    cases way with
    | even =>
      have e3 : decide (g * p < 2 * (r * p)) = decide (g < 2 * r) := by
        rw [Bool.eq_iff_iff]; simp only [decide_eq_true_eq]
        rw [← Nat.mul_assoc, Nat.mul_lt_mul_right hp]
      have e4 : (g * p == 2 * (r * p)) = (g == 2 * r) := by
        rw [Bool.eq_iff_iff]; simp only [beq_iff_eq]
        rw [← Nat.mul_assoc]
        exact ⟨fun h => Nat.mul_right_cancel hp h, fun h => by rw [h]⟩
      simp [moreD, e3, e4]
    | down =>
      have e3 : (r * p != 0) = (r != 0) := by
        by_cases h0 : r = 0
        · subst h0; simp
        · have : r * p ≠ 0 := by have := Nat.mul_pos (show 0 < r by omega) hp; omega
          rw [Bool.eq_iff_iff]; simp only [bne_iff_ne]; exact ⟨fun _ => h0, fun _ => this⟩
      simp [moreD, e3]
    | up =>
      have e3 : (r * p != 0) = (r != 0) := by
        by_cases h0 : r = 0
        · subst h0; simp
        · have : r * p ≠ 0 := by have := Nat.mul_pos (show 0 < r by omega) hp; omega
          rw [Bool.eq_iff_iff]; simp only [bne_iff_ne]; exact ⟨fun _ => h0, fun _ => this⟩
      simp [moreD, e3]
    | zero => rfl

theorem nearest_scale (neg : Bool) (t k : Nat) (p : Int) (hp : p = (k : Int) - 1074) : double.nearest neg t p = double.nearest neg (t <<< k) (-1074) := by
  subst hp
  by_cases ht : t = 0
  · subst ht
    simp [Format.nearest]
  · have hne : t <<< k ≠ 0 := by
      rw [Nat.shiftLeft_eq]
      have := Nat.mul_pos (show 0 < t by omega) (Nat.pow_pos (n := k) (show 0 < 2 by omega))
      omega
    unfold Format.nearest
    rw [if_neg ht, if_neg hne]
    simp only [log2_shift t k (by omega), frac_eq, least, binade_eq, infRung_eq, cut_full]
    have hl : max ((-1074 : Int) + ((t.log2 + k : Nat) : Int) - ((52 : Nat) : Int)) (-1074) = max ((k : Int) - 1074 + (t.log2 : Int) - ((52 : Nat) : Int)) (-1074) := by omega
    rw [hl]
    generalize hla : max ((k : Int) - 1074 + (t.log2 : Int) - ((52 : Nat) : Int)) (-1074) = last
    obtain ⟨a, rfl⟩ : ∃ a : Nat, last = (a : Int) - 1074 := ⟨(last + 1074).toNat, by omega⟩
    have e1 : ((k : Int) - 1074 - ((a : Int) - 1074)).toNat = k - a := by omega
    have e2 : ((a : Int) - 1074 - ((k : Int) - 1074)).toNat = a - k := by omega
    have e3 : ((-1074 : Int) - ((a : Int) - 1074)).toNat = 0 := by omega
    have e4 : ((a : Int) - 1074 - -1074).toNat = a := by omega
    rw [e1, e2, e3, e4, Nat.shiftLeft_zero, cut_scale]

theorem read_word (s : Bool) (R : Nat) (h : R < 9218868437227405312) : double.read (double.word s R) =
    if R < 4503599627370496 then .number s R (-1074) else .number s (4503599627370496 + R % 4503599627370496) (-1074 + (R / 4503599627370496 - 1 : Nat)) := by
  unfold Format.read Format.word
  simp only [least, binade_eq, infRung_eq, signWeight_eq]
  cases s with
  | false =>
    simp only [Bool.false_eq_true, if_false]
    have e1 : R % 9223372036854775808 = R := Nat.mod_eq_of_lt (by omega)
    have e2 : (R / 9223372036854775808 % 2 == 1) = false := by rw [Nat.div_eq_of_lt (by omega)]; rfl
    rw [e1, e2, if_pos h]
  | true =>
    simp only [if_true]
    have e1 : (9223372036854775808 + R) % 9223372036854775808 = R := by omega
    have e2 : ((9223372036854775808 + R) / 9223372036854775808 % 2 == 1) = true := by
      have : (9223372036854775808 + R) / 9223372036854775808 = 1 := by omega
      rw [this]; rfl
    rw [e1, e2, if_pos h]
theorem key_small (s : Bool) (R : Nat) (h : R < 4503599627370496) : key (double.word s R) = some (signed s R 0) := by
  unfold key
  rw [read_word s R (by omega), if_pos h]; rfl
theorem key_norm (s : Bool) (e M : Nat) (h1 : 4503599627370496 ≤ M) (h2 : M < 9007199254740992) (he : e ≤ 2045) : key (double.word s (e * 4503599627370496 + M)) = some (signed s M e) := by
  unfold key
  rw [read_word s _ (by omega), if_neg (by omega)]
  have e1 : 4503599627370496 + (e * 4503599627370496 + M) % 4503599627370496 = M := by omega
  have e2 : (e * 4503599627370496 + M) / 4503599627370496 - 1 = e := by omega
  rw [e1, e2]
  show some (signed s M ((-1074 : Int) + (e : Int) + 1074).toNat) = _
  have e3 : ((-1074 : Int) + (e : Int) + 1074).toNat = e := by omega
  rw [e3]
theorem signed_shift (s : Bool) (m e : Nat) : signed s m e = signed s (m * 2 ^ e) 0 := by
  unfold signed; rw [Nat.shiftLeft_eq, Nat.shiftLeft_zero]

def n74 : Nat := 1074
def n73 : Nat := 1073
def n20 : Nat := 2000
theorem n74_eq : n74 = 1074 := rfl
theorem n73_eq : n73 = 1073 := rfl
theorem n20_eq : n20 = 2000 := rfl
attribute [irreducible] n74 n73 n20
/-- a number that the format has is written as it is -/
theorem key_nearest (s : Bool) (V M e : Nat) (hV : V = M * 2 ^ e) (hM : M < 9007199254740992) (hb : V < 2 ^ n20) : key (double.nearest s V (-1074)) = some (signed s V 0) := by
  by_cases h0 : V = 0
  · rw [h0]
    have : double.nearest s 0 (-1074) = double.word s 0 := by simp [Format.nearest]
    rw [this, key_small s 0 (by omega)]
  · by_cases h1 : V < 4503599627370496
    · rw [nearest_small s V (by omega) h1, key_small s V h1]
    · have hl1 := Nat.log2_self_le h0
      have hl2 := Nat.lt_log2_self (n := V)
      have hL : 52 ≤ V.log2 := by
        have := (Nat.le_log2 h0 (k := 52)).2 (by omega)
        exact this
      have hL2 : V.log2 < 2000 := by have := (Nat.log2_lt h0).2 hb; rw [n20_eq] at this; exact this
      have hle : V.log2 - 52 ≤ e := by
        have h3 : V < 2 ^ (53 + e) := by
          rw [hV, Nat.pow_add]
          exact Nat.mul_lt_mul_of_pos_right (by omega) (Nat.pow_pos (by omega))
        have h4 := (Nat.log2_lt h0).2 h3
        omega
      generalize hd : V.log2 - 52 = d at *
      have hpd : 0 < 2 ^ d := Nat.pow_pos (by omega)
      obtain ⟨M', hM'⟩ : ∃ M', V = M' * 2 ^ d := ⟨M * 2 ^ (e - d), by rw [hV, Nat.mul_assoc, ← Nat.pow_add]; congr 2; omega⟩
      have hlow : 4503599627370496 ≤ M' := by
        have h5 : 2 ^ V.log2 = 4503599627370496 * 2 ^ d := by
          have : V.log2 = 52 + d := by omega
          rw [this, Nat.pow_add]
        rw [h5, hM'] at hl1
        exact Nat.le_of_mul_le_mul_right hl1 hpd
      have hhigh : M' < 9007199254740992 := by
        have h5 : 2 ^ (V.log2 + 1) = 9007199254740992 * 2 ^ d := by
          have : V.log2 + 1 = 53 + d := by omega
          rw [this, Nat.pow_add]
        rw [h5] at hl2
        rw [hM'] at hl2
        exact Nat.lt_of_mul_lt_mul_right hl2
      rw [hM', ← Nat.shiftLeft_eq, nearest_exact s M' d hlow hhigh (by omega), key_norm s d M' hlow hhigh (by omega), signed_shift, Nat.shiftLeft_eq]

def U : Nat := 2 ^ n74
def Hf : Nat := 2 ^ n73
theorem U_eq : U = 2 ^ n74 := rfl
theorem Hf_eq : Hf = 2 ^ n73 := rfl
theorem U_H : U = 2 * Hf := by
  have : n74 = n73 + 1 := by rw [n74_eq, n73_eq]
  rw [U_eq, Hf_eq, Nat.mul_comm, ← Nat.pow_succ, this]
theorem H_pos : 0 < Hf := Nat.pow_pos (by omega)
attribute [irreducible] U Hf

theorem key_whole (s : Bool) (N : Nat) (hN : N < 9007199254740992) : key (double.nearest s N 0) = some (signed s (N * U) 0) := by
  rw [nearest_scale s N n74 0 (by rw [n74_eq]; omega), Nat.shiftLeft_eq, ← U_eq]
  refine key_nearest s _ N n74 (by rw [U_eq]) hN ?_
  calc N * U < 2 ^ 53 * 2 ^ n74 := by rw [U_eq]; exact Nat.mul_lt_mul_of_pos_right (by omega) (Nat.pow_pos (by omega))
    _ = 2 ^ (53 + n74) := by rw [← Nat.pow_add]
    _ ≤ 2 ^ n20 := Nat.pow_le_pow_right (by omega) (by rw [n74_eq, n20_eq]; omega)

theorem signed_zero_eq (s : Bool) (m : Nat) : signed s m 0 = if s then -(m : Int) else (m : Int) := by unfold signed; rw [Nat.shiftLeft_zero]

theorem integral_cut (way : Toward) (s : Bool) (m : Nat) (i : Int) (hi : -1074 ≤ i) : way.cut s (m <<< i.toNat) (-i).toNat = cutD way s (m <<< (i + 1074).toNat) n74 := by
  rw [cut_full]
  have e0 := n74_eq
  have e1 : i.toNat = (i + 1074).toNat - n74 := by omega
  have e2 : (-i).toNat = n74 - (i + 1074).toNat := by omega
  rw [e1, e2, cut_scale]

theorem toInt_key {b : Nat} {S : Int} (h : key b = some S) (hS : S.natAbs < bigN) : (double.read b).toInt .zero = some (S.tdiv (U : Int)) := by
  have g := read_good b
  unfold key at h
  cases hr : double.read b with
  | nan s f => rw [hr] at h; simp [dval] at h
  | infinity s => rw [hr] at h; simp only [dval, Option.some.injEq] at h; subst h; cases s <;> simp at hS
  | number s m i =>
    rw [hr] at h g
    have h' : signed s m (i + 1074).toNat = S := Option.some.inj h
    show some (signed s (Toward.zero.cut s (m <<< i.toNat) (-i).toNat) 0) = _
    rw [integral_cut .zero s m i g.2.1, ← h']
    unfold cutD
    rw [signed_zero_eq]
    unfold signed
    rw [← U_eq]
    show some (if s = true then -(((m <<< (i + 1074).toNat) / U + 0 : Nat) : Int) else (((m <<< (i + 1074).toNat) / U + 0 : Nat) : Int)) = _
    rw [Nat.add_zero]
    generalize m <<< (i + 1074).toNat = n
    cases s with
    | false => simp only [Bool.false_eq_true, if_false]; congr 1
    | true => simp only [if_true]; rw [Int.neg_tdiv]; congr 1

/-- the difference of two numbers: rounded once -/
theorem sub_scale {x y : Nat} {a b : Int} (hx : key x = some a) (hy : key y = some b) (hxa : a.natAbs < bigN) (hyb : b.natAbs < bigN) :
    ∃ sg, double.sub x y = some (double.nearest sg (a - b).natAbs (-1074)) ∧ (a - b ≠ 0 → sg = decide (a - b < 0)) := by
  have gx := read_good x
  have gy := read_good y
  unfold key at hx hy
  unfold Format.sub
  cases hrx : double.read x with
  | nan s f => rw [hrx] at hx; simp [dval] at hx
  | infinity s => rw [hrx] at hx; simp only [dval, Option.some.injEq] at hx; subst hx; cases s <;> simp at hxa
  | number s m i =>
    cases hry : double.read y with
    | nan t f => rw [hry] at hy; simp [dval] at hy
    | infinity t => rw [hry] at hy; simp only [dval, Option.some.injEq] at hy; subst hy; cases t <;> simp at hyb
    | number t n j =>
      rw [hrx] at hx gx
      rw [hry] at hy gy
      have hx' : signed s m (i + 1074).toNat = a := Option.some.inj hx
      have hy' : signed t n (j + 1074).toNat = b := Option.some.inj hy
      have h1 := gx.2; have h2 := gy.2
      show ∃ sg, some (double.nearest (if signed s m (i - min i j).toNat + signed (!t) n (j - min i j).toNat = 0 then s && !t else decide (signed s m (i - min i j).toNat + signed (!t) n (j - min i j).toNat < 0)) (signed s m (i - min i j).toNat + signed (!t) n (j - min i j).toNat).natAbs (min i j)) = _ ∧ _
      have hopp : signed (!t) n (j - min i j).toNat = - signed t n (j - min i j).toNat := by unfold signed; cases t <;> simp
      rw [hopp]
      have e1 : (i + 1074).toNat = (i - min i j).toNat + (min i j + 1074).toNat := by omega
      have e2 : (j + 1074).toNat = (j - min i j).toNat + (min i j + 1074).toNat := by omega
      rw [e1, signed_mul] at hx'
      rw [e2, signed_mul] at hy'
      rw [nearest_scale _ _ (min i j + 1074).toNat (min i j) (by omega)]
      generalize signed s m (i - min i j).toNat = p at *
      generalize signed t n (j - min i j).toNat = r at *
      have hpos : 0 < 2 ^ (min i j + 1074).toNat := Nat.pow_pos (by omega)
      rw [Nat.shiftLeft_eq]
      generalize 2 ^ (min i j + 1074).toNat = P at *
      have hd : a - b = (p + -r) * (P : Int) := by rw [← hx', ← hy', Int.add_mul, Int.neg_mul]; omega
      refine ⟨if p + -r = 0 then s && !t else decide (p + -r < 0), ?_, fun hne => ?_⟩
      · rw [hd, Int.natAbs_mul]; rfl
      · have hPp : (0 : Int) < (P : Int) := by omega
        have hne2 : p + -r ≠ 0 := fun h0 => hne (by rw [hd, h0, Int.zero_mul])
        rw [if_neg hne2, hd]
        rw [Bool.eq_iff_iff]
        simp only [decide_eq_true_eq]
        constructor
        · intro h; exact Int.mul_neg_of_neg_of_pos h hPp
        · intro h
          rcases Int.lt_trichotomy (p + -r) 0 with h3 | h3 | h3
          · exact h3
          · exact absurd h3 hne2
          · have := Int.mul_pos h3 hPp; omega

/-- a number of half a unit and more, below the unit, is written as one of a half and more -/
theorem key_half (V : Nat) (h1 : Hf ≤ V) (h2 : V < U) : ∃ K : Nat, key (double.nearest false V (-1074)) = some (K : Int) ∧ Hf ≤ K := by
  rw [Hf_eq] at h1
  rw [U_eq] at h2
  have hne : V ≠ 0 := by have : 0 < 2 ^ n73 := Nat.pow_pos (by omega); omega
  have hl : V.log2 = 1073 := by
    have h3 : n74 = n73 + 1 := by rw [n74_eq, n73_eq]
    rw [← n73_eq, Nat.log2_eq_iff hne, ← h3]; exact ⟨h1, h2⟩
  have e : double.nearest false V (-1074) = double.word false (min (1021 * 4503599627370496 + cutD .even false V 1021) 9218868437227405312) := by
    unfold Format.nearest
    rw [if_neg hne]
    simp only [hl, frac_eq, least, binade_eq, infRung_eq, cut_full]
    have hlast : max ((-1074 : Int) + ((1073 : Nat) : Int) - ((52 : Nat) : Int)) (-1074) = -53 := by decide
    rw [hlast]
    have e1 : ((-1074 : Int) - -53).toNat = 0 := by decide
    have e2 : ((-53 : Int) - -1074).toNat = 1021 := by decide
    rw [e1, e2, Nat.shiftLeft_zero]
  obtain ⟨z, hz⟩ : ∃ z : Nat, z = 1021 := ⟨_, rfl⟩
  rw [← hz] at e
  have hp : 0 < 2 ^ z := Nat.pow_pos (by omega)
  have hq1 : 4503599627370496 ≤ V / 2 ^ z := by
    rw [Nat.le_div_iff_mul_le hp]
    calc 4503599627370496 * 2 ^ z = 2 ^ 52 * 2 ^ z := rfl
      _ = 2 ^ n73 := by rw [← Nat.pow_add]; congr 1; rw [n73_eq, hz]
      _ ≤ V := h1
  have hq2 : V / 2 ^ z < 9007199254740992 := by
    rw [Nat.div_lt_iff_lt_mul hp]
    calc V < 2 ^ n74 := h2
      _ = 2 ^ 53 * 2 ^ z := by rw [← Nat.pow_add]; congr 1; rw [n74_eq, hz]
  have hc1 : 4503599627370496 ≤ cutD .even false V z := by unfold cutD; omega
  have hc2 : cutD .even false V z ≤ 9007199254740992 := by
    unfold cutD
    have := Bool.toNat_le (moreD .even false (V / 2 ^ z) (V % 2 ^ z) (2 ^ z))
    omega
  generalize cutD .even false V z = c at *
  rw [e, Nat.min_eq_left (by omega)]
  by_cases h : c < 9007199254740992
  · rw [key_norm false z c hc1 h (by omega), signed_shift, signed_zero_eq]
    refine ⟨_, rfl, ?_⟩
    rw [Hf_eq]
    calc 2 ^ n73 = 2 ^ 52 * 2 ^ z := by rw [← Nat.pow_add]; congr 1; rw [n73_eq, hz]
      _ ≤ c * 2 ^ z := Nat.mul_le_mul_right _ (by omega)
  · obtain rfl : c = 9007199254740992 := by omega
    have e3 : z * 4503599627370496 + 9007199254740992 = (z + 1) * 4503599627370496 + 4503599627370496 := by omega
    rw [e3, key_norm false (z + 1) 4503599627370496 (by omega) (by omega) (by omega), signed_shift, signed_zero_eq]
    refine ⟨_, rfl, ?_⟩
    rw [Hf_eq]
    calc 2 ^ n73 ≤ 2 ^ n74 := Nat.pow_le_pow_right (by omega) (by rw [n73_eq, n74_eq]; omega)
      _ = 2 ^ 52 * 2 ^ (z + 1) := by rw [← Nat.pow_add]; congr 1; rw [n74_eq, hz]
      _ = 4503599627370496 * 2 ^ (z + 1) := rfl
end Go.Proofs.Ytjlncnjmcgkkhaa.Fl

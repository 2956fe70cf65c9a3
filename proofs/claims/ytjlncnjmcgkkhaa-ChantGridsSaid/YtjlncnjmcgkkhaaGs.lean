/- The nearest whole number, and the floor with what is left. Plain. -/
import Derived.Test.YtjlncnjmcgkkhaaGr
namespace Go.Proofs.Ytjlncnjmcgkkhaa.Fl
set_option linter.unusedVariables false
set_option linter.unusedSimpArgs false
open Ieee

def intg (way : Toward) (x : Nat) : Nat := double.write ((double.read x).integral way)
theorem intg_number {x : Nat} {s : Bool} {m : Nat} {i : Int} (hr : double.read x = .number s m i) (way : Toward) : intg way x = double.nearest s (cutD way s (m <<< (i + 1074).toNat) n74) 0 := by
  have g := read_good x
  rw [hr] at g
  unfold intg
  rw [hr]
  show double.nearest s (way.cut s (m <<< i.toNat) (-i).toNat) 0 = _
  rw [integral_cut way s m i g.2.1]

theorem whole_lt {N : Nat} (hN : N < 9007199254740992) : N * U < bigN := by
  have h := lt_bigN (m := N) (u := n74) (by omega) (by rw [n74_eq]; omega)
  rw [← U_eq] at h; exact h
theorem signed0_abs (s : Bool) (N : Nat) : (signed s N 0).natAbs = N := by rw [signed_abs]; simp

theorem toInt_whole (s : Bool) (N : Nat) (hN : N < 9007199254740992) : floatToIntVal .f64 (double.nearest s N 0) .i64 = some (signed s N 0) := by
  have hk := key_whole s N hN
  have ht := toInt_key hk (by rw [signed0_abs]; exact whole_lt hN)
  have hU : (U : Int) ≠ 0 := by have := U_H; have := H_pos; omega
  have hd : (signed s (N * U) 0).tdiv (U : Int) = signed s N 0 := by
    rw [signed_zero_eq, signed_zero_eq]
    cases s with
    | false => simp only [Bool.false_eq_true, if_false, Int.natCast_mul]; exact Int.mul_tdiv_cancel _ hU
    | true => simp only [if_true, Int.natCast_mul]; rw [Int.neg_tdiv, Int.mul_tdiv_cancel _ hU]
  rw [hd] at ht
  have hb := signed0_abs s N
  unfold floatToIntVal
  have ht' : (FloatKind.f64.decode (double.nearest s N 0)).toInt .zero = some (signed s N 0) := ht
  rw [ht']
  have e1 : IntKind.i64.min = -9223372036854775808 := by decide
  have e2 : IntKind.i64.max = 9223372036854775807 := by decide
  simp only []
  rw [if_pos (by rw [e1, e2]; omega)]

theorem read_half : double.read 4602678819172646912 = .number false 4503599627370496 (-53) := by decide
theorem key_half_const : key 4602678819172646912 = some (Hf : Int) := by
  obtain ⟨z, hz⟩ : ∃ z : Nat, z = 1021 := ⟨_, rfl⟩
  have e : key 4602678819172646912 = some (signed false 4503599627370496 z) := by
    unfold key; rw [read_half, hz]; rfl
  rw [e, signed_shift, signed_zero_eq]
  simp only [Bool.false_eq_true, if_false]
  congr 2
  rw [Hf_eq]
  calc 4503599627370496 * 2 ^ z = 2 ^ 52 * 2 ^ z := rfl
    _ = 2 ^ n73 := by rw [← Nat.pow_add]; congr 1; rw [n73_eq, hz]

theorem key_nought (sg : Bool) : key (double.nearest sg 0 (-1074)) = some 0 := by
  have : double.nearest sg 0 (-1074) = double.word sg 0 := by simp [Format.nearest]
  rw [this, key_small sg 0 (by omega), signed_zero_eq]; cases sg <;> rfl

theorem mod_rep (m kk : Nat) (hk : kk < n74) : (m * 2 ^ kk) % U = (m % 2 ^ (n74 - kk)) * 2 ^ kk ∧ U = 2 ^ (n74 - kk) * 2 ^ kk := by
  have e : U = 2 ^ (n74 - kk) * 2 ^ kk := by rw [U_eq, ← Nat.pow_add]; congr 1; omega
  refine ⟨?_, e⟩
  rw [e, Nat.mul_mod_mul_right]
theorem mod_none (m kk : Nat) (hk : n74 ≤ kk) : (m * 2 ^ kk) % U = 0 := by
  have e : 2 ^ kk = 2 ^ (kk - n74) * U := by rw [U_eq, ← Nat.pow_add]; congr 1; omega
  rw [e, ← Nat.mul_assoc, Nat.mul_mod_left]

theorem U_small : U < 2 ^ n20 := by rw [U_eq]; exact Nat.pow_lt_pow_right (by omega) (by rw [n74_eq, n20_eq]; omega)

/-- what is left above the floor, as it is written; or it is of a half and more where the floor is -1 -/
theorem left_key (s : Bool) (m kk : Nat) (hm : m < 9007199254740992) (V : Nat) (hV : V = m * 2 ^ kk) (sg : Bool) :
    (s = false → 0 < V % U → key (double.nearest sg (V % U) (-1074)) = some (signed sg (V % U) 0)) ∧
    (s = true → 0 < V % U → sg = false → key (double.nearest sg (U - V % U) (-1074)) = some ((U - V % U : Nat) : Int) ∨
      V < Hf ∧ ∃ K : Nat, key (double.nearest sg (U - V % U) (-1074)) = some (K : Int) ∧ Hf ≤ K) := by
  have hU := U_H
  have hHp := H_pos
  have hUs := U_small
  have hlt : V % U < U := Nat.mod_lt _ (by omega)
  constructor
  · intro _ h0
    by_cases hk : kk < n74
    · obtain ⟨e1, e2⟩ := mod_rep m kk hk
      rw [← hV] at e1
      exact key_nearest sg _ _ kk e1 (Nat.lt_of_le_of_lt (Nat.mod_le _ _) hm) (by omega)
    · rw [hV, mod_none m kk (by omega)] at h0; omega
  · intro _ h0 hsg
    by_cases hk : kk < n74
    · obtain ⟨e1, e2⟩ := mod_rep m kk hk
      rw [← hV] at e1
      by_cases hk2 : n74 - kk ≤ 53
      · left
        have hp : 2 ^ (n74 - kk) ≤ 2 ^ 53 := Nat.pow_le_pow_right (by omega) hk2
        have hml : m % 2 ^ (n74 - kk) < 2 ^ (n74 - kk) := Nat.mod_lt _ (Nat.pow_pos (by omega))
        have hpos : 0 < m % 2 ^ (n74 - kk) := by
          rcases Nat.eq_zero_or_pos (m % 2 ^ (n74 - kk)) with h | h
          · rw [e1, h] at h0; omega
          · exact h
        have e3 : U - V % U = (2 ^ (n74 - kk) - m % 2 ^ (n74 - kk)) * 2 ^ kk := by rw [e1, Nat.sub_mul, ← e2]
        have := key_nearest sg (U - V % U) _ kk e3 (by omega) (by omega)
        rw [this, hsg, signed_zero_eq]; rfl
      · right
        have hVl : V < Hf := by
          rw [hV, Hf_eq]
          calc m * 2 ^ kk < 2 ^ 53 * 2 ^ kk := Nat.mul_lt_mul_of_pos_right (by omega) (Nat.pow_pos (by omega))
            _ = 2 ^ (53 + kk) := by rw [← Nat.pow_add]
            _ ≤ 2 ^ n73 := Nat.pow_le_pow_right (by omega) (by have := n74_eq; have := n73_eq; omega)
        have hr : V % U = V := Nat.mod_eq_of_lt (by omega)
        subst hsg
        exact ⟨hVl, key_half _ (by omega) (by omega)⟩
    · rw [hV, mod_none m kk (by omega)] at h0; omega

theorem div_small (m kk : Nat) (hm : m < 9007199254740992) (V : Nat) (hV : V = m * 2 ^ kk) (h0 : V % U ≠ 0) : V / U + 1 < 9007199254740992 := by
  by_cases hk : kk < n74
  · obtain ⟨_, e2⟩ := mod_rep m kk hk
    have e : V / U = m / 2 ^ (n74 - kk) := by rw [hV, e2, Nat.mul_div_mul_right _ _ (Nat.pow_pos (by omega))]
    have h2 : m / 2 ^ (n74 - kk) ≤ m / 2 := by
      have : 2 ^ 1 ≤ 2 ^ (n74 - kk) := Nat.pow_le_pow_right (by omega) (by omega)
      exact Nat.div_le_div_left (by omega) (by omega)
    omega
  · exact absurd (by rw [hV]; exact mod_none m kk (by omega)) h0

def after (o : Ordering) (F : Int) : Int := if o = .gt ∨ o = .eq ∧ F.tmod 2 ≠ 0 then F + 1 else F

theorem grid_plain (x : Nat) (k : Int) (hk : key x = some k) (hb : k.natAbs < 9007199254740992 * U) :
    ∃ F r o, floatToIntVal .f64 (intg .down x) .i64 = some F ∧ floatToIntVal .f64 (intg .even x) .i64 = some (after o F) ∧ -9007199254740992 ≤ F ∧ F < 9007199254740992 ∧
      double.sub x (intg .down x) = some r ∧ double.order r 4602678819172646912 = some o := by
  have hU := U_H
  have hHp := H_pos
  have hUs := U_small
  have hbig : k.natAbs < bigN := by
    have h := lt_bigN (m := 9007199254740991) (u := n74 + 1) (by omega) (by rw [n74_eq]; omega)
    rw [Nat.pow_succ, ← U_eq] at h
    omega
  have hfin : finB x = true := (finB_iff x).2 ⟨k, hk, hbig⟩
  have g := read_good x
  unfold finB at hfin
  cases hr : double.read x with
  | nan s f => rw [hr] at hfin; cases hfin
  | infinity s => rw [hr] at hfin; cases hfin
  | number s m i =>
    rw [hr] at g
    have hks := (key_number hr).1
    rw [hk] at hks
    have hks' : k = signed s (m <<< (i + 1074).toNat) 0 := by rw [Option.some.inj hks, signed_shift, Nat.shiftLeft_eq]
    rw [intg_number hr .down, intg_number hr .even]
    clear hks
    have hV := Nat.shiftLeft_eq m (i + 1074).toNat
    generalize (i + 1074).toNat = kk at *
    generalize m <<< kk = V at *
    have hVb : V < 9007199254740992 * U := by rw [hks', signed0_abs] at hb; exact hb
    have hdm := Nat.div_add_mod V U
    have hrl : V % U < U := Nat.mod_lt _ (by omega)
    have hql : V / U < 9007199254740992 := (Nat.div_lt_iff_lt_mul (by omega)).2 hVb
    have hcd : cutD .down s V n74 = V / U + (s && V % U != 0).toNat := by unfold cutD moreD; rw [← U_eq]
    have hce : cutD .even s V n74 = V / U + (decide (U < 2 * (V % U)) || (U == 2 * (V % U) && V / U % 2 == 1)).toNat := by unfold cutD moreD; rw [← U_eq]
    have hds := div_small m kk g.1 V hV
    have hcdl : cutD .down s V n74 < 9007199254740992 := by
      rw [hcd]
      by_cases h0 : V % U = 0
      · have e1 : (s && V % U != 0) = false := by rw [h0]; cases s <;> rfl
        rw [e1]; simp only [Bool.toNat_false]; omega
      · have := Bool.toNat_le (s && V % U != 0)
        have := hds h0
        omega
    have hcel : cutD .even s V n74 < 9007199254740992 := by
      rw [hce]
      by_cases h0 : V % U = 0
      · have e1 : (decide (U < 2 * (V % U)) || (U == 2 * (V % U) && V / U % 2 == 1)) = false := by
          rw [h0]
          have e2 : decide (U < 2 * 0) = false := by simp
          have e3 : (U == 2 * 0) = false := by simp; omega
          rw [e2, e3]; rfl
        rw [e1]; simp only [Bool.toNat_false]; omega
      · have := Bool.toNat_le (decide (U < 2 * (V % U)) || (U == 2 * (V % U) && V / U % 2 == 1))
        have := hds h0
        omega
    have hkd := key_whole s _ hcdl
    have hdb := whole_lt hcdl
    have hti := toInt_whole s _ hcdl
    have hte := toInt_whole s _ hcel
    obtain ⟨sg, hsub, hsg⟩ := sub_scale hk hkd hbig (by rw [signed0_abs]; exact hdb)
    rw [hti, hte, hsub]
    have hab := signed0_abs s (cutD .down s V n74)
    have hlk := left_key s m kk g.1 V hV sg
    suffices h : ∃ o, double.order (double.nearest sg (k - signed s (cutD Toward.down s V n74 * U) 0).natAbs (-1074)) 4602678819172646912 = some o ∧ signed s (cutD Toward.even s V n74) 0 = after o (signed s (cutD Toward.down s V n74) 0) by
      obtain ⟨o, h1, h2⟩ := h
      exact ⟨_, _, o, rfl, by rw [h2], by omega, by omega, rfl, h1⟩
    clear hti hte hsub hkd
    rw [hcd, hce, hks'] at *
    clear hcd hce hcdl hcel hdb hab
    generalize V / U = q at *
    generalize V % U = r at *
    simp only [signed_zero_eq] at *
    cases s with
    | false =>
      simp only [Bool.false_and, Bool.toNat_false, Nat.add_zero, Bool.false_eq_true, if_false] at *
      have e1 : (V : Int) - ((q * U : Nat) : Int) = (r : Int) := by rw [Nat.mul_comm q U]; omega
      rw [e1] at hsg ⊢
      simp only [Int.natAbs_natCast]
      by_cases h0 : r = 0
      · subst h0
        refine ⟨.lt, by rw [order_some (key_nought sg) key_half_const, Int.compare_eq_lt.2 (by omega)], ?_⟩
        have e2 : decide (U < 2 * 0) = false := by simp
        have e3 : (U == 2 * 0) = false := by simp; omega
        rw [e2, e3]; simp [after]
      · have hs := hsg (by omega)
        have e4 : decide ((r : Int) < 0) = false := by simp
        rw [e4] at hs
        have hkr := hlk.1 trivial (by omega)
        rw [hs] at hkr ⊢
        simp only [Bool.false_eq_true, if_false] at hkr
        rcases Nat.lt_trichotomy r Hf with h | h | h
        · refine ⟨.lt, by rw [order_some hkr key_half_const, Int.compare_eq_lt.2 (by omega)], ?_⟩
          have e2 : decide (U < 2 * r) = false := by simp; omega
          have e3 : (U == 2 * r) = false := by simp; omega
          rw [e2, e3]; simp [after]
        · refine ⟨.eq, by rw [order_some hkr key_half_const, Int.compare_eq_eq.2 (by omega)], ?_⟩
          have e2 : decide (U < 2 * r) = false := by simp; omega
          have e3 : (U == 2 * r) = true := by simp; omega
          rw [e2, e3]
          unfold after
          rcases Nat.mod_two_eq_zero_or_one q with h2 | h2
          · have : ((q : Int)).tmod 2 = 0 := by rw [Int.tmod_eq_emod_of_nonneg (by omega)]; omega
            simp [h2, this]
          · have : ((q : Int)).tmod 2 = 1 := by rw [Int.tmod_eq_emod_of_nonneg (by omega)]; omega
            simp [h2, this]
        · refine ⟨.gt, by rw [order_some hkr key_half_const, Int.compare_eq_gt.2 (by omega)], ?_⟩
          have e2 : decide (U < 2 * r) = true := by simp; omega
          rw [e2]; simp [after]
    | true =>
      simp only [Bool.true_and, if_true] at *
      by_cases h0 : r = 0
      · subst h0
        have e5 : ((0 : Nat) != 0) = false := rfl
        rw [e5] at hsg ⊢
        simp only [Bool.toNat_false, Nat.add_zero] at hsg ⊢
        have e1 : -(V : Int) - -((q * U : Nat) : Int) = 0 := by rw [Nat.mul_comm q U]; omega
        rw [e1]
        refine ⟨.lt, by rw [Int.natAbs_zero, order_some (key_nought sg) key_half_const, Int.compare_eq_lt.2 (by omega)], ?_⟩
        have e2 : decide (U < 2 * 0) = false := by simp
        have e3 : (U == 2 * 0) = false := by simp; omega
        rw [e2, e3]; simp [after]
      · have e5 : (r != 0) = true := by simpa using h0
        rw [e5] at hsg ⊢
        simp only [Bool.toNat_true] at hsg ⊢
        have e1 : -(V : Int) - -(((q + 1) * U : Nat) : Int) = ((U - r : Nat) : Int) := by rw [Nat.add_mul, Nat.one_mul, Nat.mul_comm q U]; omega
        have hs : sg = false := by
          have h6 := hsg (by omega)
          rw [h6, decide_eq_false_iff_not]; omega
        rw [e1]
        simp only [Int.natAbs_natCast]
        have ht : (-((q : Int) + 1)).tmod 2 = -(((q + 1 : Nat) : Int) % 2) := by rw [Int.neg_tmod, Int.tmod_eq_emod_of_nonneg (by omega)]; rfl
        rcases hlk.2 trivial (by omega) hs with hkr | ⟨hV2, K, hkr, hK⟩
        · rcases Nat.lt_trichotomy r Hf with h | h | h
          · refine ⟨.gt, by rw [order_some hkr key_half_const, Int.compare_eq_gt.2 (by omega)], ?_⟩
            have e2 : decide (U < 2 * r) = false := by simp; omega
            have e3 : (U == 2 * r) = false := by simp; omega
            rw [e2, e3]; simp [after]; omega
          · refine ⟨.eq, by rw [order_some hkr key_half_const, Int.compare_eq_eq.2 (by omega)], ?_⟩
            have e2 : decide (U < 2 * r) = false := by simp; omega
            have e3 : (U == 2 * r) = true := by simp; omega
            rw [e2, e3]
            unfold after
            rcases Nat.mod_two_eq_zero_or_one q with h2 | h2
            · have h3 : (-((q + 1 : Nat) : Int)).tmod 2 ≠ 0 := by
                have : (-((q + 1 : Nat) : Int)).tmod 2 = -(((q + 1 : Nat) : Int) % 2) := by rw [Int.neg_tmod, Int.tmod_eq_emod_of_nonneg (by omega)]
                rw [this]; omega
              rw [if_pos (.inr ⟨rfl, h3⟩)]
              simp [h2]; omega
            · have h3 : (-((q + 1 : Nat) : Int)).tmod 2 = 0 := by
                have : (-((q + 1 : Nat) : Int)).tmod 2 = -(((q + 1 : Nat) : Int) % 2) := by rw [Int.neg_tmod, Int.tmod_eq_emod_of_nonneg (by omega)]
                rw [this]; omega
              rw [if_neg (by rintro (h4 | ⟨_, h4⟩); · cases h4
                             · exact h4 h3)]
              simp [h2]
          · refine ⟨.lt, by rw [order_some hkr key_half_const, Int.compare_eq_lt.2 (by omega)], ?_⟩
            have e2 : decide (U < 2 * r) = true := by simp; omega
            rw [e2]; simp [after]
        · have hq0 : q = 0 := by
            rcases Nat.eq_zero_or_pos q with h | h
            · exact h
            · have := Nat.le_mul_of_pos_right U h; omega
          subst hq0
          have hr2 : r = V := by omega
          have e2 : decide (U < 2 * r) = false := by simp; omega
          have e3 : (U == 2 * r) = false := by simp; omega
          have h3 : (-((0 + 1 : Nat) : Int)).tmod 2 ≠ 0 := by decide
          have hN : -(((0 : Nat) + (decide (U < 2 * r) || U == 2 * r && (0 : Nat) % 2 == 1).toNat : Nat) : Int) = -((0 + 1 : Nat) : Int) + 1 := by rw [e2, e3]; rfl
          by_cases h5 : (K : Int) = (Hf : Int)
          · refine ⟨.eq, by rw [order_some hkr key_half_const, Int.compare_eq_eq.2 h5], ?_⟩
            unfold after
            rw [if_pos (.inr ⟨rfl, h3⟩)]
            exact hN
          · refine ⟨.gt, by rw [order_some hkr key_half_const, Int.compare_eq_gt.2 (by omega)], ?_⟩
            unfold after
            rw [if_pos (.inl rfl)]
            exact hN
end Go.Proofs.Ytjlncnjmcgkkhaa.Fl

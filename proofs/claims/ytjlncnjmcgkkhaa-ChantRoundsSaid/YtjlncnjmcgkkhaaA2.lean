import Derived.Test.YtjlncnjmcgkkhaaA1
namespace Go.Proofs.Ytjlncnjmcgkkhaa
set_option linter.unusedVariables false
set_option linter.unusedSimpArgs false
open Go.RowKit

/-- a number of a tempo may be -/
def okN (x : Nat) : Bool := (FloatKind.f64.format.order x 0 == some .gt || FloatKind.f64.format.order x 0 == some .eq) && (FloatKind.f64.format.order x 4697254411347427328 == some .lt || FloatKind.f64.format.order x 4697254411347427328 == some .eq)
def posN (x : Nat) : Bool := FloatKind.f64.format.order x 0 == some .gt
def mayB (b s k r l : Nat) : Bool := (okN b && okN s && okN k && okN r && okN l) && (posN b && posN l)

theorem okN_eq (x : Nat) : okN x = ((Fl.finB x && !(FloatKind.f64.format.order x 0 == some .lt)) && !(FloatKind.f64.format.order x 4697254411347427328 == some .gt)) := (Fl.may_eq x).symm

theorem ret_bool {a b : Bool} (h : a = b) : Ending.returned (.bool a) = Ending.returned (.bool b) := by rw [h]
theorem ok_no1 {x : Nat} (h : ¬ Fl.finB x = true) : okN x = false := by rw [okN_eq]; simp [h]
theorem ok_no2 {x : Nat} (h : FloatKind.f64.format.order x 0 = some .lt) : okN x = false := by rw [okN_eq]; simp [h]
theorem ok_no3 {x : Nat} (h : (FloatKind.f64.format.order x 0 == some Ordering.lt) = true ∨ (FloatKind.f64.format.order x 4697254411347427328 == some Ordering.gt) = true) : okN x = false := by
  rw [okN_eq]; rcases h with h | h <;> simp [h]
theorem ok_yes {x : Nat} (h : Fl.finB x = true) (h' : (FloatKind.f64.format.order x 0 == some Ordering.lt) = false ∧ (FloatKind.f64.format.order x 4697254411347427328 == some Ordering.gt) = false) : okN x = true := by
  rw [okN_eq]; simp [h, h']
theorem r_no1 {x : Nat} (h : ((!FloatKind.f64.format.order x 0 == some Ordering.gt) = true ∧ (!FloatKind.f64.format.order x 0 == some Ordering.eq) = true) ∨ ((!FloatKind.f64.format.order x 4697254411347427328 == some Ordering.lt) = true ∧ (!FloatKind.f64.format.order x 4697254411347427328 == some Ordering.eq) = true)) : okN x = false := by
  unfold okN; rcases h with h | h <;> simp only [Bool.not_eq_true'] at h <;> simp [h.1, h.2]
theorem r_no2 {x : Nat} (h : ¬ (FloatKind.f64.format.order x 0 = some Ordering.gt ∨ FloatKind.f64.format.order x 0 = some Ordering.eq)) : okN x = false := by
  unfold okN; simp only [not_or] at h; simp [h.1, h.2]
theorem r_yes {x : Nat} (h : ((!FloatKind.f64.format.order x 0 == some Ordering.gt) = false ∨ (!FloatKind.f64.format.order x 0 == some Ordering.eq) = false) ∧ ((!FloatKind.f64.format.order x 4697254411347427328 == some Ordering.lt) = false ∨ (!FloatKind.f64.format.order x 4697254411347427328 == some Ordering.eq) = false)) : okN x = true := by
  unfold okN; simp only [Bool.not_eq_false'] at h; obtain ⟨h1, h2⟩ := h
  rcases h1 with h1 | h1 <;> rcases h2 with h2 | h2 <;> simp [h1, h2]
theorem may_no {x0 x1 x2 x3 x4 : Nat} (k : Nat) (hk : k < 5) (h : okN ([x0, x1, x2, x3, x4].getD k 0) = false) : mayB x0 x1 x2 x3 x4 = false := by
  rcases (by omega : k = 0 ∨ k = 1 ∨ k = 2 ∨ k = 3 ∨ k = 4) with rfl | rfl | rfl | rfl | rfl
  all_goals
    simp at h
    simp [mayB, h]
theorem ok_step {xs : List Nat} {k : Nat} (h : ∀ j < k, okN (xs.getD j 0) = true) (hx : okN (xs.getD k 0) = true) : ∀ j < k + 1, okN (xs.getD j 0) = true := by
  intro j hj
  by_cases e : j = k
  · subst e; exact hx
  · exact h j (by omega)
theorem may_end {x0 x1 x2 x3 x4 : Nat} (h : ∀ j < 5, okN ([x0, x1, x2, x3, x4].getD j 0) = true) : mayB x0 x1 x2 x3 x4 = (posN x0 && posN x4) := by
  have h0 := h 0 (by omega); have h1 := h 1 (by omega); have h2 := h 2 (by omega); have h3 := h 3 (by omega); have h4 := h 4 (by omega)
  simp at h0 h1 h2 h3 h4
  simp [mayB, h0, h1, h2, h3, h4]

set_option maxRecDepth 100000 in
set_option maxHeartbeats 2000000 in
theorem may_any (x0 x1 x2 x3 x4 : Nat) (w : World) :
    Calls Try.prog 12 #[.agg #[.float .f64 x0, .float .f64 x1, .float .f64 x2, .float .f64 x3, .float .f64 x4]] w fun e w' => e = .returned (.bool (mayB x0 x1 x2 x3 x4)) ∧ Below w.heap.size w w' := by
  have i0 : ∀ w, (Instr.index 64 (.agg #[.float .f64 x0, .float .f64 x1, .float .f64 x2, .float .f64 x3, .float .f64 x4]) (.int .i64 0)).run Try.prog w = .ok (.float .f64 x0) w := fun _ => by kernel_rfl
  have i1 : ∀ w, (Instr.index 64 (.agg #[.float .f64 x0, .float .f64 x1, .float .f64 x2, .float .f64 x3, .float .f64 x4]) (.int .i64 1)).run Try.prog w = .ok (.float .f64 x1) w := fun _ => by kernel_rfl
  have i2 : ∀ w, (Instr.index 64 (.agg #[.float .f64 x0, .float .f64 x1, .float .f64 x2, .float .f64 x3, .float .f64 x4]) (.int .i64 2)).run Try.prog w = .ok (.float .f64 x2) w := fun _ => by kernel_rfl
  have i3 : ∀ w, (Instr.index 64 (.agg #[.float .f64 x0, .float .f64 x1, .float .f64 x2, .float .f64 x3, .float .f64 x4]) (.int .i64 3)).run Try.prog w = .ok (.float .f64 x3) w := fun _ => by kernel_rfl
  have i4 : ∀ w, (Instr.index 64 (.agg #[.float .f64 x0, .float .f64 x1, .float .f64 x2, .float .f64 x3, .float .f64 x4]) (.int .i64 4)).run Try.prog w = .ok (.float .f64 x4) w := fun _ => by kernel_rfl
  go_enter Try.func12, Try.ntmps12
  go_wp2_with fail
  go_loop [4, 16] (fun _ i => ∃ k : Nat, k ≤ 5 ∧ i = .int .i64 k ∧ ∀ j < k, okN ([x0, x1, x2, x3, x4].getD j 0) = true) (fun _ i => 5 - (intOf i).toNat)
  case atStart => exact ⟨0, by omega, rfl, by omega⟩
  case round =>
    obtain ⟨k, hk, rfl, hok⟩ := hrel
    have Hok := Lib.hid hok
    clear hok
    rcases (by omega : k = 0 ∨ k = 1 ∨ k = 2 ∨ k = 3 ∨ k = 4 ∨ k = 5) with rfl | rfl | rfl | rfl | rfl | rfl
    · go_wp2_with (go_at_call 42; refine (finite_any _ _).mono ?_; rintro e w' ⟨rfl, rfl⟩)
      · go_ret; exact ⟨ret_bool (may_no 0 (by omega) (ok_no2 (by assumption))).symm, (Below.refl _ _).alloc (Nat.le_refl _) _⟩
      · go_ret; exact ⟨ret_bool (may_no 0 (by omega) (ok_no3 (by assumption))).symm, (Below.refl _ _).alloc (Nat.le_refl _) _⟩
      · go_round
        case rel => exact ⟨1, by omega, rfl, ok_step Hok.out (ok_yes (by assumption) (by assumption))⟩
        case measure => simp [intOf]
      · go_ret; exact ⟨ret_bool (may_no 0 (by omega) (ok_no1 (by assumption))).symm, (Below.refl _ _).alloc (Nat.le_refl _) _⟩
    · go_wp2_with (go_at_call 42; refine (finite_any _ _).mono ?_; rintro e w' ⟨rfl, rfl⟩)
      · go_ret; exact ⟨ret_bool (may_no 1 (by omega) (ok_no2 (by assumption))).symm, (Below.refl _ _).alloc (Nat.le_refl _) _⟩
      · go_ret; exact ⟨ret_bool (may_no 1 (by omega) (ok_no3 (by assumption))).symm, (Below.refl _ _).alloc (Nat.le_refl _) _⟩
      · go_round
        case rel => exact ⟨2, by omega, rfl, ok_step Hok.out (ok_yes (by assumption) (by assumption))⟩
        case measure => simp [intOf]
      · go_ret; exact ⟨ret_bool (may_no 1 (by omega) (ok_no1 (by assumption))).symm, (Below.refl _ _).alloc (Nat.le_refl _) _⟩
    · go_wp2_with (go_at_call 42; refine (finite_any _ _).mono ?_; rintro e w' ⟨rfl, rfl⟩)
      · go_ret; exact ⟨ret_bool (may_no 2 (by omega) (ok_no2 (by assumption))).symm, (Below.refl _ _).alloc (Nat.le_refl _) _⟩
      · go_ret; exact ⟨ret_bool (may_no 2 (by omega) (ok_no3 (by assumption))).symm, (Below.refl _ _).alloc (Nat.le_refl _) _⟩
      · go_round
        case rel => exact ⟨3, by omega, rfl, ok_step Hok.out (ok_yes (by assumption) (by assumption))⟩
        case measure => simp [intOf]
      · go_ret; exact ⟨ret_bool (may_no 2 (by omega) (ok_no1 (by assumption))).symm, (Below.refl _ _).alloc (Nat.le_refl _) _⟩
    · go_wp2_with (go_at_call 42; refine (finite_any _ _).mono ?_; rintro e w' ⟨rfl, rfl⟩)
      · go_ret; exact ⟨ret_bool (may_no 3 (by omega) (ok_no2 (by assumption))).symm, (Below.refl _ _).alloc (Nat.le_refl _) _⟩
      · go_ret; exact ⟨ret_bool (may_no 3 (by omega) (ok_no3 (by assumption))).symm, (Below.refl _ _).alloc (Nat.le_refl _) _⟩
      · go_round
        case rel => exact ⟨4, by omega, rfl, ok_step Hok.out (ok_yes (by assumption) (by assumption))⟩
        case measure => simp [intOf]
      · go_ret; exact ⟨ret_bool (may_no 3 (by omega) (ok_no1 (by assumption))).symm, (Below.refl _ _).alloc (Nat.le_refl _) _⟩
    · go_wp2_with (go_at_call 42; refine (finite_any _ _).mono ?_; rintro e w' ⟨rfl, rfl⟩)
      · go_ret; exact ⟨ret_bool (may_no 4 (by omega) (ok_no2 (by assumption))).symm, (Below.refl _ _).alloc (Nat.le_refl _) _⟩
      · go_ret; exact ⟨ret_bool (may_no 4 (by omega) (ok_no3 (by assumption))).symm, (Below.refl _ _).alloc (Nat.le_refl _) _⟩
      · go_round
        case rel => exact ⟨5, by omega, rfl, ok_step Hok.out (ok_yes (by assumption) (by assumption))⟩
        case measure => simp [intOf]
      · go_ret; exact ⟨ret_bool (may_no 4 (by omega) (ok_no1 (by assumption))).symm, (Below.refl _ _).alloc (Nat.le_refl _) _⟩
    · go_wp2_with fail
      · go_ret; exact ⟨ret_bool (by rw [may_end Hok.out]; simp [posN, *]), (Below.refl _ _).alloc (Nat.le_refl _) _⟩
      · go_ret; exact ⟨ret_bool (by rw [may_end Hok.out]; simp [posN, *]), (Below.refl _ _).alloc (Nat.le_refl _) _⟩

set_option maxRecDepth 100000 in
set_option maxHeartbeats 2000000 in
theorem refmay_any (x0 x1 x2 x3 x4 : Nat) (w : World) :
    Calls Try.prog 13 #[.agg #[.float .f64 x0, .float .f64 x1, .float .f64 x2, .float .f64 x3, .float .f64 x4]] w fun e w' => e = .returned (.bool (mayB x0 x1 x2 x3 x4)) ∧ Below w.heap.size w w' := by
  have i0 : ∀ w, (Instr.index 64 (.agg #[.float .f64 x0, .float .f64 x1, .float .f64 x2, .float .f64 x3, .float .f64 x4]) (.int .i64 0)).run Try.prog w = .ok (.float .f64 x0) w := fun _ => by kernel_rfl
  have i1 : ∀ w, (Instr.index 64 (.agg #[.float .f64 x0, .float .f64 x1, .float .f64 x2, .float .f64 x3, .float .f64 x4]) (.int .i64 1)).run Try.prog w = .ok (.float .f64 x1) w := fun _ => by kernel_rfl
  have i2 : ∀ w, (Instr.index 64 (.agg #[.float .f64 x0, .float .f64 x1, .float .f64 x2, .float .f64 x3, .float .f64 x4]) (.int .i64 2)).run Try.prog w = .ok (.float .f64 x2) w := fun _ => by kernel_rfl
  have i3 : ∀ w, (Instr.index 64 (.agg #[.float .f64 x0, .float .f64 x1, .float .f64 x2, .float .f64 x3, .float .f64 x4]) (.int .i64 3)).run Try.prog w = .ok (.float .f64 x3) w := fun _ => by kernel_rfl
  have i4 : ∀ w, (Instr.index 64 (.agg #[.float .f64 x0, .float .f64 x1, .float .f64 x2, .float .f64 x3, .float .f64 x4]) (.int .i64 4)).run Try.prog w = .ok (.float .f64 x4) w := fun _ => by kernel_rfl
  go_enter Try.func13, Try.ntmps13
  go_wp2_with fail
  go_loop [4, 16] (fun _ i => ∃ k : Nat, k ≤ 5 ∧ i = .int .i64 k ∧ ∀ j < k, okN ([x0, x1, x2, x3, x4].getD j 0) = true) (fun _ i => 5 - (intOf i).toNat)
  case atStart => exact ⟨0, by omega, rfl, by omega⟩
  case round =>
    obtain ⟨k, hk, rfl, hok⟩ := hrel
    have Hok := Lib.hid hok
    clear hok
    rcases (by omega : k = 0 ∨ k = 1 ∨ k = 2 ∨ k = 3 ∨ k = 4 ∨ k = 5) with rfl | rfl | rfl | rfl | rfl | rfl
    · go_wp2_with fail
      · go_ret; exact ⟨ret_bool (may_no 0 (by omega) (r_no1 (by assumption))).symm, (Below.refl _ _).alloc (Nat.le_refl _) _⟩
      · go_round
        case rel => exact ⟨1, by omega, rfl, ok_step Hok.out (r_yes (by assumption))⟩
        case measure => simp [intOf]
      · go_ret; exact ⟨ret_bool (may_no 0 (by omega) (r_no2 (by assumption))).symm, (Below.refl _ _).alloc (Nat.le_refl _) _⟩
    · go_wp2_with fail
      · go_ret; exact ⟨ret_bool (may_no 1 (by omega) (r_no1 (by assumption))).symm, (Below.refl _ _).alloc (Nat.le_refl _) _⟩
      · go_round
        case rel => exact ⟨2, by omega, rfl, ok_step Hok.out (r_yes (by assumption))⟩
        case measure => simp [intOf]
      · go_ret; exact ⟨ret_bool (may_no 1 (by omega) (r_no2 (by assumption))).symm, (Below.refl _ _).alloc (Nat.le_refl _) _⟩
    · go_wp2_with fail
      · go_ret; exact ⟨ret_bool (may_no 2 (by omega) (r_no1 (by assumption))).symm, (Below.refl _ _).alloc (Nat.le_refl _) _⟩
      · go_round
        case rel => exact ⟨3, by omega, rfl, ok_step Hok.out (r_yes (by assumption))⟩
        case measure => simp [intOf]
      · go_ret; exact ⟨ret_bool (may_no 2 (by omega) (r_no2 (by assumption))).symm, (Below.refl _ _).alloc (Nat.le_refl _) _⟩
    · go_wp2_with fail
      · go_ret; exact ⟨ret_bool (may_no 3 (by omega) (r_no1 (by assumption))).symm, (Below.refl _ _).alloc (Nat.le_refl _) _⟩
      · go_round
        case rel => exact ⟨4, by omega, rfl, ok_step Hok.out (r_yes (by assumption))⟩
        case measure => simp [intOf]
      · go_ret; exact ⟨ret_bool (may_no 3 (by omega) (r_no2 (by assumption))).symm, (Below.refl _ _).alloc (Nat.le_refl _) _⟩
    · go_wp2_with fail
      · go_ret; exact ⟨ret_bool (may_no 4 (by omega) (r_no1 (by assumption))).symm, (Below.refl _ _).alloc (Nat.le_refl _) _⟩
      · go_round
        case rel => exact ⟨5, by omega, rfl, ok_step Hok.out (r_yes (by assumption))⟩
        case measure => simp [intOf]
      · go_ret; exact ⟨ret_bool (may_no 4 (by omega) (r_no2 (by assumption))).symm, (Below.refl _ _).alloc (Nat.le_refl _) _⟩
    · go_wp2_with fail
      · go_ret; exact ⟨ret_bool (by rw [may_end Hok.out]; simp [posN, *]), (Below.refl _ _).alloc (Nat.le_refl _) _⟩
      · go_ret; exact ⟨ret_bool (by rw [may_end Hok.out]; simp [posN, *]), (Below.refl _ _).alloc (Nat.le_refl _) _⟩
end Go.Proofs.Ytjlncnjmcgkkhaa

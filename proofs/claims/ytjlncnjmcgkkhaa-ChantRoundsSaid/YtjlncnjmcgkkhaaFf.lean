/- What a float operation hands back: the exact bits, or some NaN. -/
import Derived.Test.YtjlncnjmcgkkhaaFl
import Derived.Laws.FloatArith
import Derived.Deep.Draws
namespace Go.Proofs.Ytjlncnjmcgkkhaa
set_option linter.unusedVariables false
set_option linter.unusedSimpArgs false
open Go

def fnanOf (t : Nat) : Nat := (t % 2) * 2 ^ 63 + 0x7ff0000000000000 + 1 + (t / 2) % (2 ^ 52 - 1)
/-- the result of a float operation in a world -/
def fres (op : BinOp) (x y : Nat) (w : World) : Nat := (floatBits op .f64 x y).getD (fnanOf (w.tape w.drawn (.nanBits .f64 x y)))
/-- how many answers of the tape it takes -/
def fdr (op : BinOp) (x y : Nat) : Nat := if (floatBits op .f64 x y).isSome then 0 else 1

theorem run_fadd {P : Program} (w : World) (t : TypeId) (x y : Nat) : (binOp .add t (.float .f64 x) (.float .f64 y)).run P w = .ok (.float .f64 (fres .add x y w)) (w.drewN (fdr .add x y)) := by
  unfold fres fdr
  cases h : floatBits .add .f64 x y with
  | some r => rw [run_float_arith w .add t .f64 x y r h]; rfl
  | none =>
    have h' : FloatKind.f64.format.add x y = none := h
    simp [binOp, Op.floatArith, h']; rfl
theorem run_fsub {P : Program} (w : World) (t : TypeId) (x y : Nat) : (binOp .sub t (.float .f64 x) (.float .f64 y)).run P w = .ok (.float .f64 (fres .sub x y w)) (w.drewN (fdr .sub x y)) := by
  unfold fres fdr
  cases h : floatBits .sub .f64 x y with
  | some r => rw [run_float_arith w .sub t .f64 x y r h]; rfl
  | none =>
    have h' : FloatKind.f64.format.sub x y = none := h
    simp [binOp, Op.floatArith, h']; rfl
theorem run_fmul {P : Program} (w : World) (t : TypeId) (x y : Nat) : (binOp .mul t (.float .f64 x) (.float .f64 y)).run P w = .ok (.float .f64 (fres .mul x y w)) (w.drewN (fdr .mul x y)) := by
  unfold fres fdr
  cases h : floatBits .mul .f64 x y with
  | some r => rw [run_float_arith w .mul t .f64 x y r h]; rfl
  | none =>
    have h' : FloatKind.f64.format.mul x y = none := h
    simp [binOp, Op.floatArith, h']; rfl
theorem run_fquo {P : Program} (w : World) (t : TypeId) (x y : Nat) : (binOp .quo t (.float .f64 x) (.float .f64 y)).run P w = .ok (.float .f64 (fres .quo x y w)) (w.drewN (fdr .quo x y)) := by
  unfold fres fdr
  cases h : floatBits .quo .f64 x y with
  | some r => rw [run_float_arith w .quo t .f64 x y r h]; rfl
  | none =>
    have h' : FloatKind.f64.format.div x y = none := h
    simp [binOp, Op.floatArith, h']; rfl

/-- two floats are one, or neither is a number -/
def FEq (a b : Nat) : Prop := a = b ∨ Fl.key a = none ∧ Fl.key b = none
theorem FEq.refl (a : Nat) : FEq a a := .inl rfl
theorem FEq.symm {a b : Nat} (h : FEq a b) : FEq b a := h.elim (fun e => .inl e.symm) fun e => .inr ⟨e.2, e.1⟩
theorem FEq.trans {a b c : Nat} (h : FEq a b) (h' : FEq b c) : FEq a c := by
  rcases h with rfl | h
  · exact h'
  · rcases h' with rfl | h'
    · exact .inr h
    · exact .inr ⟨h.1, h'.2⟩
theorem FEq.key {a b : Nat} (h : FEq a b) : Fl.key a = Fl.key b := by
  rcases h with rfl | h
  · rfl
  · rw [h.1, h.2]
theorem FEq.order {a b c d : Nat} (h : FEq a b) (h' : FEq c d) : Ieee.double.order a c = Ieee.double.order b d := by
  rw [Fl.order_key, Fl.order_key, h.key, h'.key]

theorem read_nan {x : Nat} (h : Fl.key x = none) : ∃ s f, Ieee.double.read x = .nan s f := by
  unfold Fl.key at h
  cases hr : Ieee.double.read x with
  | nan s f => exact ⟨s, f, rfl⟩
  | number s m i => rw [hr] at h; simp [Fl.dval] at h
  | infinity s => rw [hr] at h; simp [Fl.dval] at h

theorem floatBits_nan1 (op : BinOp) {x y : Nat} (h : Fl.key x = none) : floatBits op .f64 x y = none := by
  obtain ⟨s, f, hr⟩ := read_nan h
  unfold floatBits
  cases op <;> simp [FloatKind.format, Ieee.Format.add, Ieee.Format.sub, Ieee.Format.mul, Ieee.Format.div, hr, Ieee.Datum.sum, Ieee.Datum.product, Ieee.Datum.quotient]
theorem floatBits_nan2 (op : BinOp) {x y : Nat} (h : Fl.key y = none) : floatBits op .f64 x y = none := by
  obtain ⟨s, f, hr⟩ := read_nan h
  unfold floatBits
  cases op <;> simp [FloatKind.format, Ieee.Format.add, Ieee.Format.sub, Ieee.Format.mul, Ieee.Format.div, hr, Ieee.Datum.opposite] <;> cases Ieee.double.read x <;> simp [Ieee.Datum.sum, Ieee.Datum.product, Ieee.Datum.quotient]
theorem floatBits_congr (op : BinOp) {x x' y y' : Nat} (h : FEq x x') (h' : FEq y y') : floatBits op .f64 x y = floatBits op .f64 x' y' := by
  rcases h with rfl | h
  · rcases h' with rfl | h'
    · rfl
    · rw [floatBits_nan2 op h'.1, floatBits_nan2 op h'.2]
  · rw [floatBits_nan1 op h.1, floatBits_nan1 op h.2]

/-- the result, some NaN for all of them -/
def fv (op : BinOp) (x y : Nat) : Nat := (floatBits op .f64 x y).getD 9221120237041090561
theorem fv_congr (op : BinOp) {x x' y y' : Nat} (h : FEq x x') (h' : FEq y y') : fv op x y = fv op x' y' := by unfold fv; rw [floatBits_congr op h h']

theorem key_fnan (t : Nat) : Fl.key (fnanOf t) = none := by
  have h : ∃ s f, Ieee.double.read (fnanOf t) = .nan s f := by
    unfold Ieee.Format.read
    simp only [Fl.least, Fl.binade_eq, Fl.infRung_eq, Fl.signWeight_eq]
    have h1 : 9218868437227405312 < fnanOf t % 9223372036854775808 := by
      unfold fnanOf
      have h2 : t / 2 % (2 ^ 52 - 1) < 2 ^ 52 - 1 := Nat.mod_lt _ (by decide)
      generalize t / 2 % (2 ^ 52 - 1) = r at *
      rcases Nat.mod_two_eq_zero_or_one t with h | h <;> rw [h] <;> omega
    rw [if_neg (by omega), if_neg (by omega), if_neg (by omega)]
    exact ⟨_, _, rfl⟩
  obtain ⟨s, f, h⟩ := h
  unfold Fl.key; rw [h]; rfl
theorem key_nanC : Fl.key 9221120237041090561 = none := by decide
theorem fres_feq (op : BinOp) (x y : Nat) (w : World) : FEq (fres op x y w) (fv op x y) := by
  unfold fres fv
  cases floatBits op .f64 x y with
  | some r => exact .inl rfl
  | none => exact .inr ⟨key_fnan _, key_nanC⟩
theorem fres_congr (op : BinOp) {x x' y y' : Nat} (h : FEq x x') (h' : FEq y y') (w : World) : FEq (fres op x y w) (fv op x' y') :=
  (fres_feq op x y w).trans (by rw [fv_congr op h h']; exact FEq.refl _)
theorem fres_lt (op : BinOp) (x y : Nat) (w : World) : fres op x y w < 18446744073709551616 := by
  unfold fres
  cases h : floatBits op .f64 x y with
  | some r =>
    have h2 := floatBits_wf h
    simpa [Lit.wf] using h2
  | none => show fnanOf _ < _; unfold fnanOf; omega
end Go.Proofs.Ytjlncnjmcgkkhaa

import Derived.Test.YtjlncnjmcgkkhaaFp
import Derived.Test.YtjlncnjmcgkkhaaD1
namespace Go.Proofs.Ytjlncnjmcgkkhaa
set_option linter.unusedVariables false
set_option linter.unusedSimpArgs false
open Go.RowKit
attribute [local go_sem] run_store_float run_fadd run_fsub run_fmul run_fquo

/- plain, Finite, Length. -/
/-- a float, a nought without a sign -/
def plainV (x : Nat) : Nat := if Fl.key x = some 0 then 0 else x
theorem plainV_add (x : Nat) (hx : x < 18446744073709551616) : FEq (fv .add x 0) (plainV x) := by
  unfold plainV
  cases hk : Fl.key x with
  | none =>
    have : fv .add x 0 = 9221120237041090561 := by unfold fv; rw [floatBits_nan1 .add hk]; rfl
    rw [this, if_neg (by simp)]
    exact .inr ⟨key_nanC, hk⟩
  | some k =>
    have h := Fl.add_zero_eq x hx k hk
    have : fv .add x 0 = if k = 0 then 0 else x := by
      show (Ieee.double.add x 0).getD _ = _
      rw [h]; rfl
    rw [this]
    by_cases h0 : k = 0
    · subst h0; simp; exact FEq.refl _
    · rw [if_neg h0, if_neg (by simpa using h0)]; exact FEq.refl _
theorem plainV_congr {x y : Nat} (h : FEq x y) : FEq (plainV x) (plainV y) := by
  unfold plainV; rw [h.key]
  split
  · exact FEq.refl _
  · exact h
theorem plainV_lt {x : Nat} (hx : x < 18446744073709551616) : plainV x < 18446744073709551616 := by unfold plainV; split <;> omega
theorem eq_zero (x : Nat) : (FloatKind.f64.format.order x 0 == some .eq) = decide (Fl.key x = some 0) := by
  show (Ieee.double.order x 0 == some .eq) = _
  rw [Fl.order_key, Fl.key_zero]
  cases Fl.key x with
  | none => rfl
  | some k =>
    by_cases h : k = 0
    · subst h; simp
    · have : compare k 0 ≠ .eq := fun hc => h (Int.compare_eq_eq.1 hc)
      simp [h, this]

/-- what 'plain' hands back: the plain float, or some NaN for a NaN -/
def PlainOk (y : Nat) (w : World) (e : Ending) (w' : World) : Prop := ∃ r n, e = .returned (.float .f64 r) ∧ FEq r y ∧ r < 18446744073709551616 ∧ w.drewN n = w'

theorem plain_any (x : Nat) (hx : x < 18446744073709551616) (w : World) : Calls Try.prog 50 #[.float .f64 x] w (PlainOk (plainV x) w) := by
  go_enter Try.func50, Try.ntmps50
  go_wp2
  go_ret
  exact ⟨_, _, rfl, (fres_feq .add x 0 w).trans (plainV_add x hx), fres_lt _ _ _ _, rfl⟩
theorem refplain_any (x : Nat) (hx : x < 18446744073709551616) (w : World) : Calls Try.prog 48 #[.float .f64 x] w (PlainOk (plainV x) w) := by
  have h := eq_zero x
  by_cases hk : Fl.key x = some 0
  · have e : plainV x = 0 := by unfold plainV; rw [if_pos hk]
    rw [e, ]
    rw [decide_eq_true hk] at h
    clear hk e
    go_enter Try.func48, Try.ntmps48
    go_wp2
    go_ret
    exact ⟨_, 0, rfl, FEq.refl _, by omega, rfl⟩
  · have e : plainV x = x := by unfold plainV; rw [if_neg hk]
    rw [e]
    rw [decide_eq_false hk] at h
    clear hk e
    go_enter Try.func48, Try.ntmps48
    go_wp2
    go_ret
    exact ⟨_, 0, rfl, FEq.refl _, hx, rfl⟩

def FinOk (b : Bool) (w : World) (e : Ending) (w' : World) : Prop := e = .returned (.bool b) ∧ ∃ n, w.drewN n = w'
theorem reffinite_any (x : Nat) (w : World) : Calls Try.prog 47 #[.float .f64 x] w (FinOk (Fl.finB x) w) := by
  have h : ∀ W, (FloatKind.f64.format.order (fres .sub x x W) 0 == some .eq) = Fl.finB x := fun W => by
    rw [eq_zero]
    have hk := (fres_feq .sub x x W).key
    rw [hk]
    cases hf : Fl.finB x with
    | true =>
      have : fv .sub x x = 0 := by show (Ieee.double.sub x x).getD _ = _; rw [Fl.sub_self_fin x hf]; rfl
      rw [this, Fl.key_zero]; rfl
    | false =>
      have : fv .sub x x = 9221120237041090561 := by show (Ieee.double.sub x x).getD _ = _; rw [Fl.sub_self_inf x hf]; rfl
      rw [this, key_nanC]; rfl
  generalize Fl.finB x = b at *
  go_enter Try.func47, Try.ntmps47
  go_wp2
  go_ret
  exact ⟨rfl, _, rfl⟩

def sumF (l : List Note) : Nat := l.foldl (fun s n => fv .add s n.long) 0
theorem sumF_take (l : List Note) (j : Nat) (h : j < l.length) : sumF (l.take (j + 1)) = fv .add (sumF (l.take j)) (l.getD j default).long := by
  unfold sumF
  rw [List.take_succ_eq_append_getElem h, List.foldl_append, List.getD_eq_getElem?_getD, List.getElem?_eq_getElem h]; rfl
def LenOk (l : List Note) (w : World) (e : Ending) (w' : World) : Prop := ∃ r, e = .returned (.float .f64 r) ∧ FEq r (plainV (sumF l)) ∧ r < 18446744073709551616 ∧ Below w.heap.size w w'
theorem ret_float {a b : Nat} (h : a = b) : Value.float .f64 a = Value.float .f64 b := by rw [h]

set_option maxRecDepth 100000 in
set_option maxHeartbeats 4000000 in
theorem length_any (A : Option Addr) (c : Nat) (l : List Note) (w : World) (hn : IsNotes w w.heap.size A l) (hl : l.length ≤ 4611686018427387904) :
    Calls Try.prog 33 #[.slice A l.length c] w (LenOk l w) := by
  go_enter Try.func33, Try.ntmps33
  go_wp2_with fail
  go_loopw [3, 8] (fun s i wr => ∃ k r : Nat, k ≤ l.length ∧ i = .int .i64 k ∧ s = .float .f64 r ∧ FEq r (sumF (l.take k)) ∧ r < 18446744073709551616 ∧ Below w.heap.size w wr) (fun _ i _ => l.length - (intOf i).toNat)
  case atStart => exact ⟨0, 0, by omega, rfl, rfl, FEq.refl _, by omega, Below.refl _ _⟩
  case round =>
    obtain ⟨k, r, hk, rfl, rfl, hr, hrl, hbl⟩ := hrel
    have Hr := Lib.hid hr
    clear hr
    by_cases hlt : k < l.length
    · obtain ⟨b, off, rfl, hb, hnt⟩ := hn (by omega)
      obtain ⟨c0, c1, c2, c3, c4, c5⟩ := (hnt k hlt).keep hb (keepOf hbl)
      have hs := sumF_take l k hlt
      have Hs := Lib.hid hs
      clear hs hnt
      generalize l.getD k default = nt at *
      have hbs := hbl.size
      go_wp2_with fail
      go_roundw
      case rel => exact ⟨k + 1, _, by omega, by go_num, rfl, by rw [Hs.out]; exact fres_congr .add Hr.out (FEq.refl _) _, fres_lt _ _ _ _, belowD (hbl.alloc hbs _) _⟩
      case measure => simp [intOf]; omega
    · obtain rfl : k = l.length := by omega
      go_wp2_with fail
      refine (plain_any r hrl _).mono ?_
      rintro e w2 ⟨q, n, rfl, hq, hql, rfl⟩
      have Hq := Lib.hid hq
      clear hq
      go_wp2_with fail
      go_ret
      exact ⟨q, rfl, Hq.out.trans (by have := plainV_congr Hr.out; rw [List.take_length] at this; exact this), hql, belowD hbl _⟩

set_option maxRecDepth 100000 in
set_option maxHeartbeats 4000000 in
theorem reflength_any (A : Option Addr) (c : Nat) (l : List Note) (w : World) (hn : IsNotes w w.heap.size A l) (hl : l.length ≤ 4611686018427387904) :
    Calls Try.prog 34 #[.slice A l.length c] w (LenOk l w) := by
  go_enter Try.func34, Try.ntmps34
  go_wp2_with fail
  go_loopw [3, 8] (fun s i wr => ∃ k r : Nat, k ≤ l.length ∧ i = .int .i64 k ∧ s = .float .f64 r ∧ FEq r (sumF (l.take k)) ∧ r < 18446744073709551616 ∧ Below w.heap.size w wr) (fun _ i _ => l.length - (intOf i).toNat)
  case atStart => exact ⟨0, 0, by omega, rfl, rfl, FEq.refl _, by omega, Below.refl _ _⟩
  case round =>
    obtain ⟨k, r, hk, rfl, rfl, hr, hrl, hbl⟩ := hrel
    have Hr := Lib.hid hr
    clear hr
    by_cases hlt : k < l.length
    · obtain ⟨b, off, rfl, hb, hnt⟩ := hn (by omega)
      obtain ⟨c0, c1, c2, c3, c4, c5⟩ := (hnt k hlt).keep hb (keepOf hbl)
      have hs := sumF_take l k hlt
      have Hs := Lib.hid hs
      clear hs hnt
      generalize l.getD k default = nt at *
      have hbs := hbl.size
      go_wp2_with fail
      go_roundw
      case rel => exact ⟨k + 1, _, by omega, by go_num, rfl, by rw [Hs.out]; exact fres_congr .add Hr.out (FEq.refl _) _, fres_lt _ _ _ _, belowD (hbl.alloc hbs _) _⟩
      case measure => simp [intOf]; omega
    · obtain rfl : k = l.length := by omega
      go_wp2_with fail
      refine (refplain_any r hrl _).mono ?_
      rintro e w2 ⟨q, n, rfl, hq, hql, rfl⟩
      have Hq := Lib.hid hq
      clear hq
      go_wp2_with fail
      go_ret
      exact ⟨q, rfl, Hq.out.trans (by have := plainV_congr Hr.out; rw [List.take_length] at this; exact this), hql, belowD hbl _⟩
end Go.Proofs.Ytjlncnjmcgkkhaa

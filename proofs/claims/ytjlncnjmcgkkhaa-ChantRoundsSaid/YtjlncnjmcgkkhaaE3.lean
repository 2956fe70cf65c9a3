import Derived.Test.YtjlncnjmcgkkhaaE2
namespace Go.Proofs.Ytjlncnjmcgkkhaa
set_option linter.unusedVariables false
set_option linter.unusedSimpArgs false
open Go.RowKit
attribute [local go_sem] run_store_float run_fadd run_fsub run_fmul run_fquo

/- Scale refused; the reference's Scale. -/
def ScaleSays (ok : Value) (w : World) (e : Ending) (w' : World) : Prop := e = .returned (.tuple #[.slice none 0 0, ok]) ∧ Below w.heap.size w w'

theorem finB_order {x : Nat} (h : Fl.finB x = true) : FloatKind.f64.format.order x 0 ≠ none := by
  obtain ⟨k, hk⟩ : ∃ k, Fl.key x = some k := by
    have := (Fl.finB_iff x).1 h
    cases hk : Fl.key x with
    | none => rw [hk] at this; simp at this
    | some k => exact ⟨k, rfl⟩
  show Ieee.double.order x 0 ≠ none
  rw [Fl.order_key, hk, Fl.key_zero]; simp

set_option maxRecDepth 100000 in
set_option maxHeartbeats 4000000 in
theorem scale_no (A : Option Addr) (c : Nat) (l : List Note) (total : Nat) (w : World) (hn : IsNotes w w.heap.size A l) (hm : l.length ≤ 2932031007402) (hok : scaleOk l total = false) :
    Calls Try.prog 35 #[.slice A l.length c, .float .f64 total] w (ScaleSays (.int .i64 2) w) := by
  have Hn := Lib.hid hn
  have hlen := length_any A c l w hn (by omega)
  have Hlen := Lib.hid hlen
  have Hok := Lib.hid hok
  have hf1 := fun W => finite_any total W
  have Hf1 := Lib.hid hf1
  clear hlen hf1 hn hok
  cases o1 : Fl.finB total with
  | false =>
    have hf1 := Hf1.out
    rw [o1] at hf1
    have Hf1' := Lib.hid hf1
    clear hf1 Hok
    go_enter Try.func35, Try.ntmps35
    go_wp2_with fail
    refine (Hlen.out).mono ?_
    rintro e w1 ⟨r, rfl, hr, hrl, hb1⟩
    have Hr := Lib.hid hr
    clear hr
    go_wp2_with fail
    refine (Hf1'.out _).mono ?_
    rintro e w2 ⟨rfl, rfl⟩
    go_wp2_with fail
    go_ret2
    exact ⟨rfl, hb1⟩
  | true =>
    have hf1 := Hf1.out
    rw [o1] at hf1
    have Hf1' := Lib.hid hf1
    clear hf1
    have hok := Hok.out
    simp only [scaleOk, o1, Bool.true_and] at hok
    have Hok' := Lib.hid hok
    clear hok
    go_enter Try.func35, Try.ntmps35
    go_wp2_with fail
    refine (Hlen.out).mono ?_
    rintro e w1 ⟨r, rfl, hr, hrl, hb1⟩
    have hf2 := fun W => finite_any r W
    have hok := Hok'.out
    rw [← finB_congr (show FEq r (lenV l) from hr), ← (show FloatKind.f64.format.order r 0 = FloatKind.f64.format.order (lenV l) 0 from hr.order (FEq.refl 0))] at hok
    have Hr := Lib.hid hr
    clear hr
    cases o2 : Fl.finB r with
    | false =>
      rw [o2] at hf2
      have Hf2 := Lib.hid hf2
      clear hf2 hok o2
      go_wp2_with fail
      refine (Hf1'.out _).mono ?_
      rintro e w2 ⟨rfl, rfl⟩
      go_wp2_with fail
      refine (Hf2.out _).mono ?_
      rintro e w2 ⟨rfl, rfl⟩
      go_wp2_with fail
      go_ret2
      exact ⟨rfl, hb1⟩
    | true =>
      have hne := finB_order o2
      rw [o2] at hf2 hok
      have Hf2 := Lib.hid hf2
      clear hf2 o2
      cases o3 : (FloatKind.f64.format.order total 0 == some .lt) with
      | true =>
        have o3' : FloatKind.f64.format.order total 0 = some .lt := by simpa using o3
        clear hok o3 hne
        go_wp2_with fail
        refine (Hf1'.out _).mono ?_
        rintro e w2 ⟨rfl, rfl⟩
        go_wp2_with fail
        refine (Hf2.out _).mono ?_
        rintro e w2 ⟨rfl, rfl⟩
        go_wp2_with fail
        go_ret2
        exact ⟨rfl, hb1⟩
      | false =>
        rw [o3] at hok
        have o4 : FloatKind.f64.format.order r 0 = some .lt ∨ FloatKind.f64.format.order r 0 = some .eq := by
          cases ho : FloatKind.f64.format.order r 0 with
          | none => exact absurd ho hne
          | some x => cases x <;> simp_all
        clear hok hne
        rcases o4 with o4 | o4
        · go_wp2_with fail
          refine (Hf1'.out _).mono ?_
          rintro e w2 ⟨rfl, rfl⟩
          go_wp2_with fail
          refine (Hf2.out _).mono ?_
          rintro e w2 ⟨rfl, rfl⟩
          go_wp2_with fail
          go_ret2
          exact ⟨rfl, hb1⟩
        · go_wp2_with fail
          refine (Hf1'.out _).mono ?_
          rintro e w2 ⟨rfl, rfl⟩
          go_wp2_with fail
          refine (Hf2.out _).mono ?_
          rintro e w2 ⟨rfl, rfl⟩
          go_wp2_with fail
          go_ret2
          exact ⟨rfl, hb1⟩
end Go.Proofs.Ytjlncnjmcgkkhaa

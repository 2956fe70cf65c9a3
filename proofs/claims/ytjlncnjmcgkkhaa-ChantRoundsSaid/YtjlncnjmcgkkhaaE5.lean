import Derived.Test.YtjlncnjmcgkkhaaE4
namespace Go.Proofs.Ytjlncnjmcgkkhaa
set_option linter.unusedVariables false
set_option linter.unusedSimpArgs false
open Go.RowKit
attribute [local go_sem] run_store_float run_fadd run_fsub run_fmul run_fquo

set_option maxRecDepth 100000 in
set_option maxHeartbeats 4000000 in
theorem refscale_no (A : Option Addr) (c : Nat) (l : List Note) (total : Nat) (w : World) (hn : IsNotes w w.heap.size A l) (hm : l.length ≤ 2932031007402) (hok : scaleOk l total = false) :
    Calls Try.prog 31 #[.slice A l.length c, .float .f64 total] w (ScaleSays (.bool false) w) := by
  have Hn := Lib.hid hn
  have hlen := reflength_any A c l w hn (by omega)
  have Hlen := Lib.hid hlen
  have Hok := Lib.hid hok
  have hf1 := fun W => reffinite_any total W
  have Hf1 := Lib.hid hf1
  clear hlen hf1 hn hok
  cases o1 : Fl.finB total with
  | false =>
    have hf1 := Hf1.out
    rw [o1] at hf1
    have Hf1' := Lib.hid hf1
    clear hf1 Hok
    go_enter Try.func31, Try.ntmps31
    go_wp2_with fail
    refine (Hlen.out).mono ?_
    rintro e w1 ⟨r, rfl, hr, hrl, hb1⟩
    have Hr := Lib.hid hr
    clear hr
    go_wp2_with fail
    refine (Hf1'.out _).mono ?_
    rintro e w2 ⟨rfl, n2, rfl⟩
    go_wp2_with fail
    go_ret2
    exact ⟨rfl, belowD hb1 _⟩
  | true =>
    have hf1 := Hf1.out
    rw [o1] at hf1
    have Hf1' := Lib.hid hf1
    clear hf1
    have hok := Hok.out
    simp only [scaleOk, o1, Bool.true_and] at hok
    have Hok' := Lib.hid hok
    clear hok
    go_enter Try.func31, Try.ntmps31
    go_wp2_with fail
    refine (Hlen.out).mono ?_
    rintro e w1 ⟨r, rfl, hr, hrl, hb1⟩
    have hf2 := fun W => reffinite_any r W
    have hok := Hok'.out
    rw [← finB_congr (show FEq r (lenV l) from hr), ← (show FloatKind.f64.format.order r 0 = FloatKind.f64.format.order (lenV l) 0 from hr.order (FEq.refl 0))] at hok
    have Hr := Lib.hid hr
    clear hr
    cases o2 : Fl.finB r with
    | false =>
      rw [o2] at hf2
      have Hf2 := Lib.hid hf2
      clear hf2 hok o2
      go_wp2_with fail
      refine (Hf1'.out _).mono ?_
      rintro e w2 ⟨rfl, n2, rfl⟩
      go_wp2_with fail
      refine (Hf2.out _).mono ?_
      rintro e w2 ⟨rfl, n2, rfl⟩
      go_wp2_with fail
      go_ret2
      exact ⟨rfl, belowD hb1 _⟩
    | true =>
      have hne := finB_order o2
      rw [o2] at hf2 hok
      have Hf2 := Lib.hid hf2
      clear hf2 o2
      cases o3 : (FloatKind.f64.format.order total 0 == some .lt) with
      | true =>
        have o3' : FloatKind.f64.format.order total 0 = some .lt := by simpa using o3
        clear hok o3 hne
        go_wp2_with fail
        refine (Hf1'.out _).mono ?_
        rintro e w2 ⟨rfl, n2, rfl⟩
        go_wp2_with fail
        refine (Hf2.out _).mono ?_
        rintro e w2 ⟨rfl, n2, rfl⟩
        go_wp2_with fail
        go_ret2
        exact ⟨rfl, belowD hb1 _⟩
      | false =>
        rw [o3] at hok
        have o4 : FloatKind.f64.format.order r 0 = some .lt ∨ FloatKind.f64.format.order r 0 = some .eq := by
          cases ho : FloatKind.f64.format.order r 0 with
          | none => exact absurd ho hne
          | some x => cases x <;> simp_all
        clear hok hne
        rcases o4 with o4 | o4
        · go_wp2_with fail
          refine (Hf1'.out _).mono ?_
          rintro e w2 ⟨rfl, n2, rfl⟩
          go_wp2_with fail
          refine (Hf2.out _).mono ?_
          rintro e w2 ⟨rfl, n2, rfl⟩
          go_wp2_with fail
          go_ret2
          exact ⟨rfl, belowD hb1 _⟩
        · go_wp2_with fail
          refine (Hf1'.out _).mono ?_
          rintro e w2 ⟨rfl, n2, rfl⟩
          go_wp2_with fail
          refine (Hf2.out _).mono ?_
          rintro e w2 ⟨rfl, n2, rfl⟩
          go_wp2_with fail
          go_ret2
          exact ⟨rfl, belowD hb1 _⟩
end Go.Proofs.Ytjlncnjmcgkkhaa

import Derived.Test.YtgcdopafblcbhaaGreatDoorVR
/- A vocabulary without entries: taking away what is not there. -/
namespace Go.Proofs.YtgcdopafblcbhaaGreatDoor
set_option linter.unusedVariables false
set_option linter.unusedSimpArgs false
open Go.RowKit Go.Lib Go.Shelf
attribute [local go_sem] Oper.semAt_some

set_option maxRecDepth 100000 in
theorem plain_a (w : World) : Calls Tryz.prog 55 #[.string ⟨#[97]⟩] w fun e w' => e = .returned (.bool true) ∧ w = w' := by
  go_enter Tryz.func55, Tryz.ntmps55
  go_wp2_with fail
  go_loopw [6] (fun t6 wr => ∃ i : Nat, i ≤ 1 ∧ t6 = .int .i64 i ∧ w = wr) (fun t6 _ => 1 - (intOf t6).toNat)
  case atStart => exact ⟨0, by omega, rfl, rfl⟩
  case round =>
    obtain ⟨i, hi, rfl, rfl⟩ := hrel
    by_cases h0 : i = 0
    · subst h0
      go_wp2_with fail
      go_roundw
      case rel => exact ⟨1, by omega, rfl, by first | rfl | trivial⟩
      case measure => simp [intOf]
    · obtain rfl : i = 1 := by omega
      go_wp2_with fail
      go_ret
      exact ⟨rfl, rfl⟩
set_option maxRecDepth 100000 in
theorem key_a (w : World) : Calls Tryz.prog 28 #[.string ⟨#[97]⟩] w fun e w' => e = .returned (.string ⟨#[97]⟩) ∧ w = w' := by
  have Hp := Lib.hid (plain_a w)
  go_enter Tryz.func28, Tryz.ntmps28
  go_wp2_with fail
  refine Hp.out.mono ?_
  rintro e w2 ⟨rfl, rfl⟩
  go_wp2_with fail
  go_ret
  exact ⟨rfl, rfl⟩
theorem zeroKp (w : World) : (zeroValue 71).run Tryz.prog w = .ok (.pointer none) w := by kernel_rfl
theorem look_none {m : Nat} {w : World} (h : MapL (fun a : ByteArray => Value.string a) w m []) : (Instr.lookup 77 (.map (some m)) (.string ⟨#[97]⟩) false).run Tryz.prog w = .ok (.pointer none) w :=
  h.look Ks Tryz.underlying77 (zeroKp w) ⟨#[97]⟩ false
set_option maxRecDepth 100000 in
set_option maxHeartbeats 4000000 in
theorem remove_none (p m : Nat) (w : World) (h : VcI p m w) : Calls Tryz.prog 20 #[.pointer (some ⟨p, 0, none⟩), .string ⟨#[97]⟩] w fun e w' => e = .returned (.int .i64 4) ∧ Below w.heap.size w w' := by
  obtain ⟨l, o, h1⟩ := h.c
  have c4 : w.cell? ⟨p, 4, none⟩ = some (.map (some m)) := cell_of_row _ _ 4 _ _ (0, 0) h1
  have hp : p < w.heap.size := (Array.getElem?_eq_some_iff.1 h1).1
  have c4' : (w.alloc (.cells #[.pointer none] 71)).cell? ⟨p, 4, none⟩ = some (.map (some m)) := cell_of_row _ _ 4 _ _ (0, 0) (al_at h1 _)
  have hl1 := look_none (h.m.of (w' := w.drew) rfl)
  have hl2 := look_none ((h.m.of (w' := w.drew) rfl).below ((Below.refl _ w.drew).alloc (Nat.le_refl _) (.cells #[.pointer none] 71)))
  have hl3 := look_none ((h.m.below ((Below.refl _ w).alloc (Nat.le_refl _) (.cells #[.pointer none] 71))).of (w' := (w.alloc (.cells #[.pointer none] 71)).drew) rfl)
  have Hk := fun W => Lib.hid (key_a W)
  clear h h1
  go_enter Tryz.func20, Tryz.ntmps20
  go_wp2_with fail
  go_region_with (go_at_call 28; refine ((Hk _).out).mono ?_; rintro e w2 ⟨rfl, rfl⟩)
  all_goals
    go_wp2_with fail
    go_ret
    exact ⟨rfl, (Below.refl _ w).drew.alloc (Nat.le_refl _) _⟩
end Go.Proofs.YtgcdopafblcbhaaGreatDoor

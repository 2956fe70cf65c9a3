import Derived.Test.YtkfkkoefpfmjkaaDoorXE
namespace Go.Proofs.YtkfkkoefpfmjkaaDoor
set_option linter.unusedVariables false
set_option linter.unusedSimpArgs false
open Go.RowKit

/- Title's search. -/
theorem other1_any (own : ByteArray) (x : Value) (p : Nat) (s : ByteArray) (W : World) (hc : W.cell? ⟨p, 0, none⟩ = some (.string s)) (hp : p < W.heap.size) :
    Calls Tryd.prog 84 #[.agg #[.string own, x], .pointer (some ⟨p, 0, none⟩)] W fun e w' => e = .returned (.bool (!eqS own s)) ∧ Below W.heap.size W w' := by
  have hne : p ≠ W.heap.size := by omega
  unfold eqS
  go_enter Tryd.func84, Tryd.ntmps84
  go_wp2_with fail
  all_goals (go_ret; exact ⟨by simp_all [bne], (Below.refl _ W).alloc (Nat.le_refl _) _⟩)
set_option maxRecDepth 100000 in
set_option maxHeartbeats 4000000 in
theorem other_index (A : Option Addr) (c p : Nat) (l : List Ft) (s : ByteArray) (w : World) (hl : IsFeet w w.heap.size A l) (hb : l.length ≤ 4611686018427387904) (hc : w.cell? ⟨p, 0, none⟩ = some (.string s)) (hp : p < w.heap.size) :
    Calls Tryd.prog 107 #[.slice A l.length c, .func (.func 84) #[] #[.pointer (some ⟨p, 0, none⟩)]] w fun e w' => ∃ n : Int, e = .returned (.int .i64 n) ∧ decide (0 ≤ n) = l.any (otherB s) ∧ Below w.heap.size w w' := by
  go_enter Tryd.func107, Tryd.ntmps107
  go_wp2_with fail
  go_loopw [5, 8] (fun _ i wr => ∃ k : Nat, k ≤ l.length ∧ i = .int .i64 k ∧ (l.take k).any (otherB s) = false ∧ Below w.heap.size w wr) (fun _ i _ => l.length - (intOf i).toNat)
  case atStart => exact ⟨0, by omega, rfl, rfl, Below.refl _ _⟩
  case round =>
    obtain ⟨wi, hwi⟩ : ∃ wi : World, wi = wr := ⟨_, rfl⟩
    subst hwi
    obtain ⟨k, hk, rfl, hn, hbl⟩ := hrel
    have Hn := Lib.hid hn
    clear hn
    by_cases hlt : k < l.length
    · obtain ⟨b, off, rfl, hbb, hrow⟩ := hl (by omega)
      obtain ⟨r0, A2, c2, r1, _, _⟩ := hrow k hlt
      have hc1 := (hbl.cell (p := ⟨b, off + k * 2, none⟩) hbb).trans r0
      have hc2 := (hbl.cell (p := ⟨b, off + k * 2 + 1, none⟩) hbb).trans r1
      have hcp := (hbl.cell (p := ⟨p, 0, none⟩) hp).trans hc
      have Hst := Lib.hid (any_take_succ l (otherB s) k hlt)
      have Hit := Lib.hid (any_hit l (otherB s) k hlt)
      have Hob := Lib.hid (show otherB s (l.getD k default) = !eqS (l.getD k default).own s from rfl)
      have hbs := hbl.size
      clear hrow hl r0 r1
      generalize (l.getD k default).own = own at *
      generalize (l.getD k default).ways = lw at *
      have hcl := other1_any own (.slice A2 lw.length c2) p s wi hcp (by omega)
      cases hq : eqS own s with
      | false =>
        have Hq := Lib.hid (Hob.out.trans (by rw [hq]))
        rw [hq] at hcl
        clear hq
        go_wp2_with fail
        refine hcl.mono ?_
        rintro e w' ⟨rfl, hb'⟩
        have hbe := hbl.trans (hb'.mono hbs)
        go_wp2_with fail
        go_ret
        exact ⟨_, rfl, by rw [show l.any (otherB s) = true from Hit.out Hq.out]; simp, hbe⟩
      | true =>
        have Hq := Lib.hid (Hob.out.trans (by rw [hq]))
        rw [hq] at hcl
        clear hq
        go_wp2_with fail
        refine hcl.mono ?_
        rintro e w' ⟨rfl, hb'⟩
        have hbe := hbl.trans (hb'.mono hbs)
        go_wp2_with fail
        go_roundw
        case rel => exact ⟨k + 1, by omega, by go_num, by rw [Hst.out, Hn.out, Hq.out]; rfl, hbe⟩
        case measure => simp [intOf]; omega
    · obtain rfl : k = l.length := by omega
      go_wp2_with fail
      go_ret
      exact ⟨_, rfl, by have hx := Hn.out; rw [List.take_length] at hx; rw [hx]; rfl, hbl⟩
end Go.Proofs.YtkfkkoefpfmjkaaDoor

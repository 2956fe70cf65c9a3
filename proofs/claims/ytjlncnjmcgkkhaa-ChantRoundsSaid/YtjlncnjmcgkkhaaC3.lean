import Derived.Test.YtjlncnjmcgkkhaaC2
import Derived.Deep.RegionHeld3
namespace Go.Proofs.Ytjlncnjmcgkkhaa
set_option linter.unusedVariables false
set_option linter.unusedSimpArgs false
open Go.RowKit
attribute [local go_sem] run_store_float

/-- what is kept while a region runs: all that existed reads as it did -/
theorem keepS {w w1 w2 : World} (hb : Below w1.heap.size w1 w2) (h : Below w.heap.size w w1 ∧ ∀ b o, b < w.heap.size → w1.cell? ⟨b, o, none⟩ = w.cell? ⟨b, o, none⟩) :
    Below w.heap.size w w2 ∧ ∀ b o, b < w.heap.size → w2.cell? ⟨b, o, none⟩ = w.cell? ⟨b, o, none⟩ := by
  have h2 := h.1.trans (hb.mono h.1.size)
  exact ⟨h2, fun b o hb => h2.cell (p := ⟨b, o, none⟩) hb⟩
theorem startS {w : World} : Below w.heap.size w w.drew ∧ ∀ b o, b < w.heap.size → w.drew.cell? ⟨b, o, none⟩ = w.cell? ⟨b, o, none⟩ := ⟨(Below.refl _ _).drew, fun _ _ _ => rfl⟩

set_option maxRecDepth 100000 in
set_option maxHeartbeats 2000000 in
/-- notes: the same notes -/
theorem notes_true (A A' : Option Addr) (c c' : Nat) (la lb : List Note) (w : World) (ha : IsNotes w w.heap.size A la) (hb : IsNotes w w.heap.size A' lb) (hl : lb.length = la.length) (hm : la.length ≤ 4611686018427387904)
    (he : ∀ k, k < la.length → eqN (la.getD k default) (lb.getD k default) = true) :
    Calls Try.prog 18 #[.slice A la.length c, .slice A' lb.length c'] w fun e w' => e = .returned (.bool true) ∧ Below w.heap.size w w' := by
  have hne : ((la.length : Int) != (lb.length : Int)) = false := by rw [hl]; simp
  have He := Lib.hid he
  have Hl := Lib.hid hl
  clear he
  go_enter Try.func18, Try.ntmps18
  go_wp2_with fail
  clear hl
  go_loopw [13] (fun i wr => ∃ k : Nat, k ≤ la.length ∧ i = .int .i64 k ∧ Below w.heap.size w wr) (fun i _ => la.length - (intOf i).toNat)
  case atStart => exact ⟨0, by omega, rfl, Below.refl _ _⟩
  case round =>
    rename_i wr
    obtain ⟨k, hk, rfl, hbl⟩ := hrel
    by_cases hlt : k < la.length
    · have hlt' : k < lb.length := by rw [Hl.out]; exact hlt
      obtain ⟨b, off, rfl, hbb, hn⟩ := ha (by omega)
      obtain ⟨b', off', rfl, hbb', hn'⟩ := hb (by omega)
      obtain ⟨c0, c1, c2, c3, c4, c5⟩ := (hn k hlt).keep hbb (keepOf hbl)
      obtain ⟨d0, d1, d2, d3, d4, d5⟩ := (hn' k hlt').keep hbb' (keepOf hbl)
      have heq := fun W => equal_any (la.getD k default) (lb.getD k default) W
      have hek := He.out k hlt
      rw [hek] at heq
      have Heq := Lib.hid heq
      clear heq hek hn hn'
      generalize la.getD k default = x at *
      generalize lb.getD k default = y at *
      have hbs : b < wr.heap.size := Nat.lt_of_lt_of_le hbb hbl.size
      have hbs' : b' < wr.heap.size := Nat.lt_of_lt_of_le hbb' hbl.size
      go_wp2_with fail
      go_region_held3 (fun w' => Below wr.heap.size wr w' ∧ ∀ b o, b < wr.heap.size → w'.cell? ⟨b, o, none⟩ = wr.cell? ⟨b, o, none⟩) (((repeat (apply keepS; assumption)); exact startS)) (first | (go_at_call 38; refine (Heq.out _).mono ?_; rintro e w2 ⟨rfl, hb2⟩))
      have hS : Below wr.heap.size wr w2 := And.left (by assumption)
      go_wp2_with fail
      go_roundw
      case rel => exact ⟨k + 1, by omega, by go_num, hbl.trans (hS.mono hbl.size)⟩
      case measure => simp [intOf]; omega
    · obtain rfl : k = la.length := by omega
      go_wp2_with fail
      go_ret
      exact ⟨rfl, hbl⟩
end Go.Proofs.Ytjlncnjmcgkkhaa

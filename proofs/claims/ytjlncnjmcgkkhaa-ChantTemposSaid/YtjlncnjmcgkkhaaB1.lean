import Derived.Test.YtjlncnjmcgkkhaaA8
import Derived.Deep.RegionHeld3
namespace Go.Proofs.Ytjlncnjmcgkkhaa
set_option linter.unusedVariables false
set_option linter.unusedSimpArgs false
open Go.RowKit

/-- ChantTempos: at every tempo it returns true, and nothing that existed has changed. -/
theorem keepT {w w1 w2 : World} {x0 x1 x2 x3 x4 : Nat} (hb : Below w1.heap.size w1 w2)
    (h : Below w.heap.size w w1 ∧ w.heap.size < w1.heap.size ∧ w1.cell? ⟨w.heap.size, 0, none⟩ = some (.float .f64 x0) ∧ w1.cell? ⟨w.heap.size, 1, none⟩ = some (.float .f64 x1) ∧ w1.cell? ⟨w.heap.size, 2, none⟩ = some (.float .f64 x2) ∧ w1.cell? ⟨w.heap.size, 3, none⟩ = some (.float .f64 x3) ∧ w1.cell? ⟨w.heap.size, 4, none⟩ = some (.float .f64 x4)) :
    Below w.heap.size w w2 ∧ w.heap.size < w2.heap.size ∧ w2.cell? ⟨w.heap.size, 0, none⟩ = some (.float .f64 x0) ∧ w2.cell? ⟨w.heap.size, 1, none⟩ = some (.float .f64 x1) ∧ w2.cell? ⟨w.heap.size, 2, none⟩ = some (.float .f64 x2) ∧ w2.cell? ⟨w.heap.size, 3, none⟩ = some (.float .f64 x3) ∧ w2.cell? ⟨w.heap.size, 4, none⟩ = some (.float .f64 x4) := by
  obtain ⟨h1, h2, c0, c1, c2, c3, c4⟩ := h
  exact ⟨h1.trans (hb.mono h1.size), Nat.lt_of_lt_of_le h2 hb.size, (hb.cell (p := ⟨_, _, none⟩) h2).trans c0, (hb.cell (p := ⟨_, _, none⟩) h2).trans c1, (hb.cell (p := ⟨_, _, none⟩) h2).trans c2, (hb.cell (p := ⟨_, _, none⟩) h2).trans c3, (hb.cell (p := ⟨_, _, none⟩) h2).trans c4⟩

set_option maxRecDepth 100000 in
set_option maxHeartbeats 2000000 in
theorem tempos_any (x0 x1 x2 x3 x4 : Nat) (w : World) :
    Calls Try.prog 3 #[.agg #[.float .f64 x0, .float .f64 x1, .float .f64 x2, .float .f64 x3, .float .f64 x4]] w fun e w' => e = .returned (.bool true) ∧ Below w.heap.size w w' := by
  have hm := may_any x0 x1 x2 x3 x4
  have hr := refmay_any x0 x1 x2 x3 x4
  generalize mayB x0 x1 x2 x3 x4 = m at *
  have Hm := Lib.hid hm
  have Hr := Lib.hid hr
  clear hm hr
  go_enter Try.func3, Try.ntmps3
  go_wp2_with fail
  go_region_held3 (fun w' => Below w.heap.size w w' ∧ w.heap.size < w'.heap.size ∧ w'.cell? ⟨w.heap.size, 0, none⟩ = some (.float .f64 x0) ∧ w'.cell? ⟨w.heap.size, 1, none⟩ = some (.float .f64 x1) ∧ w'.cell? ⟨w.heap.size, 2, none⟩ = some (.float .f64 x2) ∧ w'.cell? ⟨w.heap.size, 3, none⟩ = some (.float .f64 x3) ∧ w'.cell? ⟨w.heap.size, 4, none⟩ = some (.float .f64 x4)) (((repeat (apply keepT; assumption)); refine ⟨((Below.refl _ _).alloc (Nat.le_refl _) _).drew, ?_⟩; go_keep)) (first | (go_at_call 12; refine (Hm.out _).mono ?_; rintro e w2 ⟨rfl, hb2⟩) | (go_at_call 13; refine (Hr.out _).mono ?_; rintro e w2 ⟨rfl, hb2⟩) | (go_at_call 14; refine (wakes_any _).mono ?_; rintro e w2 ⟨rfl, hb2⟩))
  go_wp2_with fail
  go_ret
  exact ⟨rfl, And.left (by assumption)⟩
end Go.Proofs.Ytjlncnjmcgkkhaa

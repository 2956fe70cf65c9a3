import Derived.Test.YtkfkkoefpfmjkaaDoorXA
namespace Go.Proofs.YtkfkkoefpfmjkaaDoor
set_option linter.unusedVariables false
set_option linter.unusedSimpArgs false
open Go.RowKit

/- The reference's word. -/
theorem namesC_cell (w : World) (j : Nat) (hj : j < 14) (wr : World) (hb : Below (w.heap.size + 1) (w.alloc (.cells namesC 39)) wr) :
    wr.cell? ⟨w.heap.size, j * 3, none⟩ = some (strL (footAt j).1) ∧ wr.cell? ⟨w.heap.size, j * 3 + 1, none⟩ = some (strL (footAt j).2.1) ∧ wr.cell? ⟨w.heap.size, j * 3 + 2, none⟩ = some (strL (footAt j).2.2) := by
  have hh : wr.heap[w.heap.size]? = some (.cells namesC 39 (0, 0)) := (hb.block _ (by omega)).trans (World.alloc_heap_new w _)
  have hc : ∀ (k : Nat) (v : Value), namesC[k]? = some v → wr.cell? ⟨w.heap.size, k, none⟩ = some v := fun k v h => by
    simp only [World.cell?, hh]; exact h
  have hall : ∀ j, j < 14 → namesC[j * 3]? = some (strL (footAt j).1) ∧ namesC[j * 3 + 1]? = some (strL (footAt j).2.1) ∧ namesC[j * 3 + 2]? = some (strL (footAt j).2.2) := by
    intro j hj
    have : j = 0 ∨ j = 1 ∨ j = 2 ∨ j = 3 ∨ j = 4 ∨ j = 5 ∨ j = 6 ∨ j = 7 ∨ j = 8 ∨ j = 9 ∨ j = 10 ∨ j = 11 ∨ j = 12 ∨ j = 13 := by omega
    rcases this with rfl | rfl | rfl | rfl | rfl | rfl | rfl | rfl | rfl | rfl | rfl | rfl | rfl | rfl <;> exact ⟨rfl, rfl, rfl⟩
  obtain ⟨h1, h2, h3⟩ := hall j hj
  exact ⟨hc _ _ h1, hc _ _ h2, hc _ _ h3⟩
set_option maxRecDepth 100000 in
set_option maxHeartbeats 8000000 in
theorem word_any (t : ByteArray) (w : World) :
    Calls Tryd.prog 85 #[.string t] w fun e w' => e = .returned (.string ⟨(saidW t.data.toList).toArray⟩) ∧ Below w.heap.size w w' := by
  go_enter Tryd.func85, Tryd.ntmps85
  go_wp2_with (go_at_call 17; refine (refnamed_any _).mono ?_)
  rintro e w1 ⟨rfl, rfl⟩
  have Hc := Lib.hid (namesC_cell w)
  have HB1 := Lib.hid ((Below.refl w.heap.size w).alloc (Nat.le_refl _) (.cells namesC 39))
  have sW : (w.alloc (.cells namesC 39)).heap.size = w.heap.size + 1 := by simp
  generalize w.alloc (.cells namesC 39) = W1 at *
  go_wp2_with fail
  go_loopw [7] (fun q wr => ∃ k : Nat, k ≤ 14 ∧ q = .int .i64 k ∧ Hid (∀ j, j < k → ((footAt j).2.1 == t.data.toList) = false) ∧ Hid (Below W1.heap.size W1 wr)) (fun q _ => 14 - (intOf q).toNat)
  case atStart => exact ⟨0, by omega, rfl, Lib.hid (fun j hj => by omega), Lib.hid (Below.refl _ _)⟩
  case round =>
    rename_i wr
    obtain ⟨k, hk, rfl, hno, hb⟩ := hrel
    by_cases hlt : k < 14
    · obtain ⟨c0, c1, c2⟩ := Hc.out k hlt wr (by rw [← sW]; exact hb.out)
      have hs := hb.out.size
      have Hlast := Lib.hid (fun (h : ((footAt k).2.1 == t.data.toList) = true) => bySigns_at hlt h hno.out)
      have Hnext := Lib.hid (fun (h : ((footAt k).2.1 == t.data.toList) = false) j (hj : j < k + 1) => (by
        rcases Nat.lt_or_ge j k with h' | h'
        · exact hno.out j h'
        · obtain rfl : j = k := by omega
          exact h : ((footAt j).2.1 == t.data.toList) = false))
      have hfn := foot_sign k t
      generalize footAt k = f at *
      obtain ⟨f0, f1, f2⟩ := f
      simp only [strL] at c0 c1 c2 Hlast Hnext hfn
      have hbx : Below W1.heap.size W1 (wr.alloc (.cells #[.string ⟨f0.toArray⟩, .string ⟨f1.toArray⟩, .string ⟨f2.toArray⟩] 39)) := hb.out.alloc hs _
      have Hbx := Lib.hid hbx
      have k3 : (k : Int).toNat * 3 = k * 3 := by simp
      clear hbx
      cases hq : (f1 == t.data.toList) with
      | true =>
        rw [hq] at hfn
        have HL := Lib.hid (Hlast.out hq)
        clear hq
        go_wp2_with fail
        go_ret
        refine ⟨?_, HB1.out.trans (Hbx.out.mono (by omega))⟩
        simp [saidW, HL.out]
      | false =>
        rw [hq] at hfn
        have HN := Lib.hid (Hnext.out hq)
        clear hq
        go_wp2_with fail
        go_roundw
        case rel => exact ⟨k + 1, by omega, by go_num, HN, Hbx⟩
        case measure => simp [intOf]; omega
    · obtain rfl : k = 14 := by omega
      go_wp2_with fail
      go_ret
      refine ⟨?_, HB1.out.trans (hb.out.mono (by omega))⟩
      simp [saidW, bySigns_no hno.out]
end Go.Proofs.YtkfkkoefpfmjkaaDoor

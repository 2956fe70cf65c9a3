import Derived.Test.YtgcdopafblcbhaaGreatDoorVH
/- The folded form of a text of one piece: some text. -/
namespace Go.Proofs.YtgcdopafblcbhaaGreatDoor
set_option linter.unusedVariables false
set_option linter.unusedSimpArgs false
open Go.RowKit Go.Lib Go.Shelf

set_option maxRecDepth 100000 in
set_option maxHeartbeats 8000000 in
theorem fold_one (s : ByteArray) (r : Nat) (hs : s.size < 1000) (hL : pcs s = [⟨0, s.size, r, false⟩]) (w : World) : Calls Tryz.prog 56 #[.string s] w fun e w' => (∃ t : ByteArray, e = .returned (.string t)) ∧ Below w.heap.size w w' := by
  have Hu := Lib.hid (units_one s r hs hL w)
  go_enter Tryz.func56, Tryz.ntmps56
  go_wp2_with fail
  refine Hu.out.mono ?_
  rintro e w2 ⟨⟨v, x, rfl, ho, hx⟩, hb2⟩
  have Hw := Lib.hid (written_one v x w2 _ ho hx)
  have Hb2 := Lib.hid hb2
  clear ho hx hb2
  go_wp2_with fail
  refine Hw.out.mono ?_
  rintro e w3 ⟨⟨t, rfl⟩, hb3⟩
  have Hb3 := Lib.hid (Hb2.out.trans (hb3.mono Hb2.out.size))
  clear hb3
  go_wp2_with fail
  go_ret
  exact ⟨⟨_, rfl⟩, Hb3.out⟩
end Go.Proofs.YtgcdopafblcbhaaGreatDoor

import Derived.Test.YtkfkkoefpfmjkaaGreatDoorVA
import Derived.Test.YtkfkkoefpfmjkaaGreatDoorGR
namespace Go.Proofs.YtkfkkoefpfmjkaaGreatDoor
set_option linter.unusedVariables false
set_option linter.unusedSimpArgs false
open Go.RowKit Go.Shelf Go.Lib Go

/- Patterns of a metre that may not be: the iterator yields nothing. -/
set_option maxRecDepth 100000 in
set_option maxHeartbeats 4000000 in
theorem closure_off (l B : Nat) (Af Ae Ab : Option Addr) (cf ce cb : Nat) (m : Met) (w : World) (h : IsMet w w.heap.size Af Ae Ab cf ce cb m) (hm : mayB m = false)
    (hB : w.heap[B]? = some (.cells #[.slice Af m.feet.length cf, .slice Ae m.ends.length ce, .slice Ab m.brks.length cb] 26 (0, 0))) :
    Calls Tryz.prog 54 #[.func (.yield l) #[] #[], .pointer (some ⟨B, 0, none⟩)] w fun e w' => (∃ v, e = .returned v) ∧ Below w.heap.size w w' := by
  have hlt : B < w.heap.size := (Array.getElem?_eq_some_iff.1 hB).1
  have hB1 : Below w.heap.size w (w.alloc (.cells #[.func (.yield l) #[] #[]] 118)) := (Below.refl _ _).alloc (Nat.le_refl _) _
  have c0 := cell_of_row _ _ 0 _ 26 (0, 0) ((hB1.block B hlt).trans hB)
  have c1 := cell_of_row _ _ 1 _ 26 (0, 0) ((hB1.block B hlt).trans hB)
  have c2 := cell_of_row _ _ 2 _ 26 (0, 0) ((hB1.block B hlt).trans hB)
  have hc := check_any Af Ae Ab cf ce cb m _ (h.on hB1)
  have hcn : checkN m = 2 := by unfold checkN; rw [hm]; rfl
  rw [hcn] at hc
  have HB1 := Lib.hid hB1
  have Hc := Lib.hid hc
  clear hB1 hc hB h
  go_enter Tryz.func54, Tryz.ntmps54
  go_wp2_with fail
  refine Hc.out.mono ?_
  rintro e w2 ⟨rfl, hb2⟩
  have Hb2 := Lib.hid (HB1.out.trans (hb2.mono (by simp)))
  clear hb2
  go_wp2_with fail
  (try simp only [Exit.inBlock, Exit.then])
  refine bodyPost_ret (results_none rfl _ _ _) rfl ?_
  exact ⟨⟨_, rfl⟩, Hb2.out⟩

/-- the iterator's contract: no round -/
theorem patterns_seq (n B : Nat) (Af Ae Ab : Option Addr) (cf ce cb : Nat) (m : Met) (w : World) (h : IsMet w w.heap.size Af Ae Ab cf ce cb m) (hm : mayB m = false)
    (hB : w.heap[B]? = some (.cells #[.slice Af m.feet.length cf, .slice Ae m.ends.length ce, .slice Ab m.brks.length cb] 26 (0, 0))) :
    SeqOwn Fence.wide n Tryz.prog 54 #[.pointer (some ⟨B, 0, none⟩)] (fun x : Empty => x.elim) (fun xs => xs = []) (fun _ => False) 0 w := fun l J Jx W hW hJ hJx hY h0 => by
  have hlt : B < w.heap.size := (Array.getElem?_eq_some_iff.1 hB).1
  refine (callsIn_wide (n := n)).2 ((closure_off l B Af Ae Ab cf ce cb m W (h.on hW) hm ((hW.block B hlt).trans hB)).mono ?_)
  rintro e W' ⟨hv, hb⟩
  exact ⟨hv, .inl ⟨[], rfl, hJ _ _ _ none h0 (only_of_below hb none) (fun r e => by cases e)⟩⟩

/-- Patterns itself -/
theorem patterns_any (v0 v1 v2 : Value) (w : World) :
    Calls Tryz.prog 17 #[.agg #[v0, v1, v2]] w fun e w' => e = .returned (.func (.func 54) #[] #[.pointer (some ⟨w.heap.size, 0, none⟩)]) ∧ w' = w.alloc (.cells #[v0, v1, v2] 26) := by
  go_enter Tryz.func17, Tryz.ntmps17
  go_wp2_with fail
  go_ret
  exact ⟨rfl, rfl⟩
end Go.Proofs.YtkfkkoefpfmjkaaGreatDoor

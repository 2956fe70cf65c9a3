import Derived.Test.YtkfkkoefpfmjkaaDoorNB
import Derived.Stop.RegionWithIn
import Derived.Test.YtkfkkoefpfmjkaaDoorMC
namespace Go.Proofs.YtkfkkoefpfmjkaaDoor
set_option linter.unusedVariables false
set_option linter.unusedSimpArgs false
open Go.RowKit Go.Shelf Go.Lib
attribute [local go_sem] Oper.semAt_some

/- A foot by its signs. -/
def bySigns (t : List UInt8) : Option F3 := feetW.find? fun f => f.2.1 == t
theorem bySigns_at {t : List UInt8} {m : Nat} (hm : m < 14) (h : ((footAt m).2.1 == t) = true) (hn : ∀ j, j < m → ((footAt j).2.1 == t) = false) : bySigns t = some (footAt m) :=
  find_first (fun f : F3 => f.2.1 == t) ([], [], []) feetW m hm h hn
theorem bySigns_no {t : List UInt8} (hn : ∀ j, j < 14 → ((footAt j).2.1 == t) = false) : bySigns t = none :=
  find_none (fun f : F3 => f.2.1 == t) ([], [], []) feetW hn
def saidW (t : List UInt8) : List UInt8 := match bySigns t with | some f => f.1 | none => t
def saidT (t : List UInt8) : List UInt8 := match bySigns t with | some f => f.2.2 | none => []
def SI (t : ByteArray) (w : World) (pre : List Nat) (W : World) : Prop := (∀ j, j ∈ pre → ((footAt j).2.1 == t.data.toList) = false) ∧ one W w.heap.size (.string t) 9 ∧ one W (w.heap.size + 1) (.string ⟨#[]⟩) 9 ∧ one W (w.heap.size + 2) (.string ⟨#[]⟩) 9 ∧ Below w.heap.size w W
def SIx (t : ByteArray) (w : World) (c : Code) (pre : List Nat) (W : World) : Prop := c = .ret ∧ ∃ p m, pre = p ++ [m] ∧ (∀ j, j ∈ p → ((footAt j).2.1 == t.data.toList) = false) ∧ ((footAt m).2.1 == t.data.toList) = true ∧ one W (w.heap.size + 1) (.string ⟨(footAt m).1.toArray⟩) 9 ∧ one W (w.heap.size + 2) (.string ⟨(footAt m).2.2.toArray⟩) 9 ∧ Below w.heap.size w W
def SAx (t : ByteArray) (w W3 : World) (x : Nat) (a' : Act) (W : World) : Prop := ∃ Bx, W3.heap.size ≤ Bx ∧ W.heap[Bx]? = some (.cells #[strL (footAt x).1, strL (footAt x).2.1, strL (footAt x).2.2] 39 (0, 0)) ∧
  ∃ y6 y7 y8 y9 y10 y11 y12 y13 y14, a' = { tmps := #[.string t, .pointer (some ⟨w.heap.size, 0, none⟩), .pointer (some ⟨w.heap.size + 1, 0, none⟩), .pointer (some ⟨w.heap.size + 1 + 1, 0, none⟩), .pointer (some ⟨Bx, 0, none⟩), footV x, y6, y7, y8, y9, y10, y11, y12, y13, y14], defers := [] }
theorem foot_sign (j : Nat) (t : ByteArray) : ((footAt j).2.1 == t.toList) = ((footAt j).2.1 == t.data.toList) := by
  rw [ByteArray.toList_eq]

set_option maxRecDepth 100000 in
set_option maxHeartbeats 4000000 in
theorem said_in (F : Fence) (n : Nat) (h77 : F.fn 77) (h51 : F.fn 51) (hro : F.round = none) (hn : 3 ≤ n) (t : ByteArray) (w : World) :
    CallsIn F n Tryd.prog 77 #[.string t] w fun e w' => e = .returned (.tuple #[.string ⟨(saidW t.data.toList).toArray⟩, .string ⟨(saidT t.data.toList).toArray⟩]) ∧ Below w.heap.size w w' := by
  have h1 : 1 ≤ n := by omega
  refine callsIn_of_wp_marks Tryd.func77 rfl h77 ?_ hro
  simp only [Tryd.ntmps77, List.size_toArray, List.length_cons, List.length_nil, Nat.reduceAdd, Nat.reduceSub, Array.replicate_succ, Array.replicate_zero, List.push_toArray, List.append_toArray, List.nil_append, List.cons_append]
  gi_wp2
  generalize hW3 : World.alloc (World.alloc (World.alloc w _) _) _ = W3
  have sW3 : W3.heap.size = w.heap.size + 3 := by rw [← hW3]; simp
  have o0 : one W3 w.heap.size (.string t) 9 := by rw [← hW3]; exact ((Below.heap_alloc _ _ _ (by simp; omega)).trans (Below.heap_alloc _ _ _ (by simp))).trans (World.alloc_heap_new w _)
  have o1 : one W3 (w.heap.size + 1) (.string ⟨#[]⟩) 9 := by
    rw [← hW3]
    have := World.alloc_heap_new (w.alloc (.cells #[.string t] 9)) (.cells #[.string ⟨#[]⟩] 9)
    rw [World.size_alloc] at this
    exact (Below.heap_alloc _ _ _ (by simp)).trans this
  have o2 : one W3 (w.heap.size + 2) (.string ⟨#[]⟩) 9 := by
    rw [← hW3]
    have := World.alloc_heap_new ((w.alloc (.cells #[.string t] 9)).alloc (.cells #[.string ⟨#[]⟩] 9)) (.cells #[.string ⟨#[]⟩] 9)
    rw [World.size_alloc, World.size_alloc] at this
    exact this
  have hB3 : Below w.heap.size w W3 := by rw [← hW3]; exact (((Below.refl _ w).alloc (Nat.le_refl _) _).alloc (by simp) _).alloc (by simp; omega) _
  clear hW3
  refine range_all hro h1 (gf := 51) (lb := #[]) rfl h51 (enters_of Tryd.func51 (by kernel_rfl) rfl) (named_seq F (n - 1) h51 hro (by omega) W3) (fun _ => rfl)
    (SI t w) (SIx t w)
    ?hI ?hIx ⟨fun j h => (by cases h), o0, o1, o2, hB3⟩
    (SAx t w W3)
    ?assign ?body ?hAx ?done ?stop
  case hI =>
    rintro s A A' row ⟨h2, h3, h4, h5, h6⟩ hg hr
    exact ⟨h2, one_abides h3 (by omega) hg hr, one_abides h4 (by omega) hg hr, one_abides h5 (by omega) hg hr, h6.grown hg h6.size (fun r e => by have := hr r e; omega)⟩
  case hIx =>
    rintro c s A A' row ⟨rfl, p, m, h1, h2, h3, h4, h5, h6⟩ hg hr
    exact ⟨rfl, p, m, h1, h2, h3, one_abides h4 (by omega) hg hr, one_abides h5 (by omega) hg hr, h6.grown hg h6.size (fun r e => by have := hr r e; omega)⟩
  case hAx =>
    rintro x a' s A A' row ⟨Bx, h1, h2, y6, y7, y8, y9, y10, y11, y12, y13, y14, h3⟩ hg hr
    refine ⟨Bx, h1, (hg.block Bx (Array.getElem?_eq_some_iff.1 h2).1 (fun e => ?_)).trans h2, y6, y7, y8, y9, y10, y11, y12, y13, y14, h3⟩
    obtain ⟨_, o, ho, hc⟩ := hr Bx e.symm
    rw [h2] at ho; cases ho; cases hc
  case assign =>
    intro l pre x W K hi hsz hK
    have hfv : footV x = .agg #[.string ⟨(footAt x).1.toArray⟩, .string ⟨(footAt x).2.1.toArray⟩, .string ⟨(footAt x).2.2.toArray⟩] := rfl
    gi_wp2
    obtain ⟨g1, g2, g3, g4, g5⟩ := hi
    have q : ∀ {k : Nat} {v : Value} {ty : TypeId} (o : Obj), k < W3.heap.size → one W k v ty → one (W.alloc o) k v ty := fun o hk h => (Below.heap_alloc _ _ _ (by omega)).trans h
    refine hK _ _ (KeepsOthers.alloc _ _) ⟨by simp, fun i o hi ho _ => ?_⟩ ⟨g1, q _ (by omega) g2, q _ (by omega) g3, q _ (by omega) g4, g5.alloc (by omega) _⟩ ⟨W.heap.size, hsz, World.alloc_heap_new W _, _, _, _, _, _, _, _, _, _, rfl⟩
    exact (Below.heap_alloc _ _ _ (by have := (Array.getElem?_eq_some_iff.1 ho).1; omega)).trans ho
  case body =>
    rintro l pre x a' W ⟨hnn, p0, p1, p2, hB⟩ hlen ⟨Bx, hBx, hx, y6, y7, y8, y9, y10, y11, y12, y13, y14, rfl⟩ hsz
    have e2 : w.heap.size + 1 + 1 = w.heap.size + 2 := rfl
    have hin : ∀ (r : Bool), ((footAt x).2.1 == t.data.toList) = r → ∀ j, j ∈ pre ++ [x] → ((footAt j).2.1 == t.data.toList) = false ∨ (r = true ∧ j = x) := fun r hr j hj => by
      rcases List.mem_append.1 hj with h | h
      · exact .inl (hnn j h)
      · obtain rfl : j = x := by simpa using h
        cases r
        · exact .inl hr
        · exact .inr ⟨rfl, rfl⟩
    have hinF : ((footAt x).2.1 == t.data.toList) = false → SI t w (pre ++ [x]) W := fun hf => ⟨fun j hj => (by rcases hin false hf j hj with h | ⟨h, _⟩ <;> first | exact h | cases h), p0, p1, p2, hB⟩
    have c0 : W.cell? ⟨w.heap.size, 0, none⟩ = some (.string t) := cell_of_row _ _ _ _ 9 (0, 0) p0
    have c1 : W.cell? ⟨w.heap.size + 1, 0, none⟩ = some (.string ⟨#[]⟩) := cell_of_row _ _ _ _ 9 (0, 0) p1
    have c2 : W.cell? ⟨w.heap.size + 2, 0, none⟩ = some (.string ⟨#[]⟩) := cell_of_row _ _ _ _ 9 (0, 0) p2
    have b0 : W.cell? ⟨Bx, 0, none⟩ = some (.string ⟨(footAt x).1.toArray⟩) := cell_of_row _ _ _ _ 39 (0, 0) hx
    have b1 : W.cell? ⟨Bx, 1, none⟩ = some (.string ⟨(footAt x).2.1.toArray⟩) := cell_of_row _ _ _ _ 39 (0, 0) hx
    have b2 : W.cell? ⟨Bx, 2, none⟩ = some (.string ⟨(footAt x).2.2.toArray⟩) := cell_of_row _ _ _ _ 39 (0, 0) hx
    have y1 := frozen_of_row W (w.heap.size + 1) 0 _ 9 p1
    have y2 := frozen_of_row W (w.heap.size + 2) 0 _ 9 p2
    have hfn := foot_sign x t
    have Hnn := Lib.hid hnn
    have HinF := Lib.hid hinF
    clear hnn hin hinF
    cases hP : ((footAt x).2.1 == t.data.toList) with
    | false =>
      rw [hP] at hfn
      have hp0 := HinF.out hP
      have Hp0 := Lib.hid hp0
      clear hp0 hP
      gi_wp2
      all_goals exact ⟨KeepsOthers.refl _, KeepsFor.refl _ _, Hp0.out⟩
    | true =>
      rw [hP] at hfn
      have HP := Lib.hid hP
      clear hP
      gi_wp2
      gi_region
      all_goals gi_wp2
      all_goals refine ⟨⟨((KeepsOthers.setCell _ _ _).trans (KeepsOthers.setCell _ _ _)).size, ((KeepsOthers.setCell _ _ _).trans (KeepsOthers.setCell _ _ _)).same⟩, rfl, pre, x, rfl, Hnn.out, HP.out, ?_, ?_, ?_⟩
      all_goals first
        | exact (Below.heap_setCell _ _ _ _ (by show w.heap.size + 1 ≠ w.heap.size + 2; omega)).trans (heap_setCell_same W (w.heap.size + 1) 0 _ 9 _ p1)
        | exact heap_setCell_same _ (w.heap.size + 2) 0 _ 9 _ ((Below.heap_setCell _ _ _ _ (by show w.heap.size + 2 ≠ w.heap.size + 1; omega)).trans p2)
        | exact ((hB.setCell (by show w.heap.size ≤ w.heap.size + 1; omega) _).setCell (by show w.heap.size ≤ w.heap.size + 2; omega) _).drew
  case done =>
    rintro D xs W hD rfl ⟨hnn, p0, p1, p2, hB⟩ hK
    have e2 : w.heap.size + 1 + 1 = w.heap.size + 2 := rfl
    have c0 : W.cell? ⟨w.heap.size, 0, none⟩ = some (.string t) := cell_of_row _ _ _ _ 9 (0, 0) p0
    have c1 : W.cell? ⟨w.heap.size + 1, 0, none⟩ = some (.string ⟨#[]⟩) := cell_of_row _ _ _ _ 9 (0, 0) p1
    have c2 : W.cell? ⟨w.heap.size + 2, 0, none⟩ = some (.string ⟨#[]⟩) := cell_of_row _ _ _ _ 9 (0, 0) p2
    have y1 := frozen_of_row W (w.heap.size + 1) 0 _ 9 p1
    have y2 := frozen_of_row W (w.heap.size + 2) 0 _ 9 p2
    gi_wp2
    have hd : ((W.setCell ⟨w.heap.size + 1, 0, none⟩ (.string t)).setCell ⟨w.heap.size + 2, 0, none⟩ (.string ⟨#[]⟩)).heap[D]? = some (.deferred (some [])) := by
      refine (Below.heap_setCell _ _ _ _ ?_).trans ((Below.heap_setCell _ _ _ _ ?_).trans hK)
      · show D ≠ w.heap.size + 2; omega
      · show D ≠ w.heap.size + 1; omega
    refine ⟨by simp, .inl ⟨_, _, rfl, run_takeDeferred hd, ?_⟩⟩
    have hB6 : Below w.heap.size w ((W.setCell ⟨w.heap.size + 1, 0, none⟩ (.string t)).setCell ⟨w.heap.size + 2, 0, none⟩ (.string ⟨#[]⟩)) := (hB.setCell (by show w.heap.size ≤ w.heap.size + 1; omega) _).setCell (by show w.heap.size ≤ w.heap.size + 2; omega) _
    generalize hW5 : ((W.setCell ⟨w.heap.size + 1, 0, none⟩ (.string t)).setCell ⟨w.heap.size + 2, 0, none⟩ (.string ⟨#[]⟩)).putObj D (.deferred none) = W5
    have d1 : W5.cell? ⟨w.heap.size + 1, 0, none⟩ = some (.string t) := by
      rw [← hW5]; exact (World.cell?_of_block (World.putObj_heap_other (k := w.heap.size + 1) (by omega))).trans (cell_of_row _ _ _ _ 9 (0, 0) ((Below.heap_setCell _ _ _ _ (by show w.heap.size + 1 ≠ w.heap.size + 2; omega)).trans (heap_setCell_same W (w.heap.size + 1) 0 _ 9 _ p1)))
    have d2 : W5.cell? ⟨w.heap.size + 2, 0, none⟩ = some (.string ⟨#[]⟩) := by
      rw [← hW5]; exact (World.cell?_of_block (World.putObj_heap_other (k := w.heap.size + 2) (by omega))).trans (cell_of_row _ _ _ _ 9 (0, 0) (heap_setCell_same _ (w.heap.size + 2) 0 _ 9 _ ((Below.heap_setCell _ _ _ _ (by show w.heap.size + 2 ≠ w.heap.size + 1; omega)).trans p2)))
    have hB5 : Below w.heap.size w W5 := by rw [← hW5]; exact hB6.grown (grownBy_putObj' _ D _) hB6.size (fun r e => by cases e; omega)
    clear hW5
    refine ⟨_, by simp [results, Tryd.f77, go_sem, d1, d2]; rfl, ?_, hB5⟩
    simp [saidW, saidT, bySigns_no (fun j hj => hnn j (by simpa using hj))]
  case stop =>
    rintro D c pre W hD ⟨k, hk, rfl⟩ ⟨rfl, p, m, hpm, hnn, hy, p1, p2, hB⟩ hK
    have e2 : w.heap.size + 1 + 1 = w.heap.size + 2 := rfl
    have c1 : W.cell? ⟨w.heap.size + 1, 0, none⟩ = some (.string ⟨(footAt m).1.toArray⟩) := cell_of_row _ _ _ _ 9 (0, 0) p1
    have c2 : W.cell? ⟨w.heap.size + 2, 0, none⟩ = some (.string ⟨(footAt m).2.2.toArray⟩) := cell_of_row _ _ _ _ 9 (0, 0) p2
    gi_wp2
    refine ⟨by simp, .inl ⟨_, _, rfl, run_takeDeferred hK, ?_⟩⟩
    obtain ⟨rfl, rfl⟩ : p = List.range k ∧ m = k := by rw [List.range_succ] at hpm; have := List.append_inj' hpm rfl; exact ⟨this.1.symm, by simpa using this.2.symm⟩
    have hm14 : m < 14 := hk
    have hlow : ∀ j, j < m → ((footAt j).2.1 == t.data.toList) = false := fun j hj => hnn j (by simpa using hj)
    generalize hW5 : W.putObj D (.deferred none) = W5
    have d1 : W5.cell? ⟨w.heap.size + 1, 0, none⟩ = some (.string ⟨(footAt m).1.toArray⟩) := by
      rw [← hW5]; exact (World.cell?_of_block (World.putObj_heap_other (k := w.heap.size + 1) (by omega))).trans c1
    have d2 : W5.cell? ⟨w.heap.size + 2, 0, none⟩ = some (.string ⟨(footAt m).2.2.toArray⟩) := by
      rw [← hW5]; exact (World.cell?_of_block (World.putObj_heap_other (k := w.heap.size + 2) (by omega))).trans c2
    have hB5 : Below w.heap.size w W5 := by rw [← hW5]; exact hB.grown (grownBy_putObj' _ D _) hB.size (fun r e => by cases e; omega)
    clear hW5
    refine ⟨_, by simp [results, Tryd.f77, go_sem, d1, d2]; rfl, ?_, hB5⟩
    simp [saidW, saidT, bySigns_at hm14 hy hlow]
theorem said_any (t : ByteArray) (w : World) :
    Calls Tryd.prog 77 #[.string t] w fun e w' => e = .returned (.tuple #[.string ⟨(saidW t.data.toList).toArray⟩, .string ⟨(saidT t.data.toList).toArray⟩]) ∧ Below w.heap.size w w' :=
  (callsIn_wide (n := 5)).1 (said_in Fence.wide 5 trivial trivial rfl (by omega) t w)
end Go.Proofs.YtkfkkoefpfmjkaaDoor

import Derived.Test.YtkfkkoefpfmjkaaDoorPA
import Derived.Test.YtkfkkoefpfmjkaaDoorGR
import Derived.Test.YtkfkkoefpfmjkaaDoorMB
import Derived.RangeFuncNested
import Derived.Shelf.Abstract
import Derived.Shelf.RegionOpen
import Derived.OwnWalkIn
import Derived.TacticsInMore
import Derived.LoopNIn
import Derived.LoopIn
import Derived.Lib.OthersKept
namespace Go.Proofs.YtkfkkoefpfmjkaaDoor
set_option linter.unusedVariables false
set_option linter.unusedSimpArgs false
open Go.RowKit Go.Shelf Go.Lib
attribute [local go_sem] Oper.semAt_some

/- named: the iterator over the table. -/
def strL (l : List UInt8) : Value := .string ⟨l.toArray⟩
def footV (j : Nat) : Value := .agg #[strL (footAt j).1, strL (footAt j).2.1, strL (footAt j).2.2]

set_option maxRecDepth 100000 in
set_option maxHeartbeats 4000000 in
theorem named_seq (F : Fence) (n : Nat) (h51 : F.fn 51) (hro : F.round = none) (hn : 1 ≤ n) (w : World) :
    SeqOwn F n Tryd.prog 51 #[] (fun j : Nat => #[footV j]) (fun xs => xs = List.range 14) (fun pre => ∃ m, m < 14 ∧ pre = List.range (m + 1)) 14 w := fun l J Jx W hW hJ hJx hY h0 => by
  refine callsIn_of_wp Tryd.func51 rfl h51 ?_ hro
  simp only [Tryd.ntmps51, List.size_toArray, List.length_cons, List.length_nil, Nat.reduceAdd, Nat.reduceSub, Array.replicate_succ, Array.replicate_zero, List.push_toArray, List.append_toArray, List.nil_append, List.cons_append]
  generalize hT : (ByteArray.mk (List.toArray (List.append _ _))) = T0
  have hT2 : T0 = TB := by rw [← hT]; kernel_rfl
  clear hT
  subst hT2
  have hsz := TB_size
  gi_wp2
  have hWs := hW.size
  gi_loopw [3, 4] (fun k a wr => ∃ (i k' a' m : Nat) (f0 f1 : List UInt8) (x0 x1 x2 : ByteArray), k = .int .i64 k' ∧ a = .int .i64 a' ∧ i ≤ 300 ∧ scanT (tblL.drop i) i k' a' m f0 f1 = true ∧
      wr.heap[W.heap.size]? = some (.cells #[.string x0, .string x1, .string x2] 39 (0, 0)) ∧ wr.heap[W.heap.size + 1]? = some (.stringIter TB i) ∧ (1 ≤ k' → x0 = ⟨f0.toArray⟩) ∧ (2 ≤ k' → x1 = ⟨f1.toArray⟩) ∧ J (List.range m) wr)
    (fun _ _ wr => 300 - wr.iterPos (W.heap.size + 1))
  case atStart =>
    refine ⟨0, 0, 0, 0, [], [], ⟨#[]⟩, ⟨#[]⟩, ⟨#[]⟩, rfl, rfl, by omega, scan_start, ?_, ?_, fun h => by omega, fun h => by omega, ?_⟩
    · exact (Below.heap_alloc _ _ _ (by simp)).trans (World.alloc_heap_new W _)
    · have := World.alloc_heap_new (W.alloc (.cells #[.string ⟨#[]⟩, .string ⟨#[]⟩, .string ⟨#[]⟩] 39)) (.stringIter TB 0)
      rw [World.size_alloc] at this; exact this
    · exact hJ.alloc _ (hJ.alloc _ h0)
  case round =>
    obtain ⟨i, k, a, m, f0, f1, x0, x1, x2, rfl, rfl, hi, hsc, hB, hI, hx0, hx1, hJm⟩ := hrel
    have hx0' := Lib.hid hx0
    have hx1' := Lib.hid hx1
    clear hx0 hx1
    by_cases hlt : i < 300
    · have hil : i < TB.size := by omega
      rw [TB_get i hil] at hsc
      unfold scanT at hsc
      rw [Bool.and_eq_true] at hsc
      obtain ⟨hc128, hsc⟩ := hsc
      have hc128 := of_decide_eq_true hc128
      have hnx : (Instr.next (.pointer (some ⟨W.heap.size + 1, 0, none⟩)) true 0).run Tryd.prog wr = .ok (.tuple #[.bool true, .int .i64 i, .int .i32 (TB[i]'hil).toNat]) (wr.iterAt (W.heap.size + 1) TB (i + 1)) := run_next_ascii_at wr _ TB i 0 hI hil hc128
      have hI1 := iterAt_heap wr (W.heap.size + 1) TB i (i + 1) hI
      have hB1 := (iterAt_other wr (W.heap.size + 1) W.heap.size TB (i + 1) (by omega)).trans hB
      have hJ1 : J (List.range m) (wr.iterAt (W.heap.size + 1) TB (i + 1)) := hJ _ _ _ (some (W.heap.size + 1)) hJm ⟨rfl, rfl, rfl, by rw [iterAt_size]; exact Nat.le_refl _, fun j _ hj => iterAt_other wr _ _ TB _ (fun e => hj (by rw [e]))⟩ (fun r e => by cases e; omega)
      have hpos : wr.iterPos (W.heap.size + 1) = i := by unfold World.iterPos; rw [hI]
      have Hpos := Lib.hid hpos
      clear hpos
      by_cases h32 : TB[i] = 32
      · rw [if_pos h32, Bool.and_eq_true] at hsc
        obtain ⟨hai, hsc⟩ := hsc
        have hai := of_decide_eq_true hai
        have ht : (((TB[i]'hil).toNat : Int) != 32) = false := by rw [h32]; rfl
        have hex := TB_cut a i
        have Hex := Lib.hid hex
        clear hex h32
        have b1 : (0 : Int) ≤ (a : Int) := by omega
        have b2 : (a : Int) ≤ (i : Int) := by omega
        have b3 : (i : Int) ≤ (TB.size : Int) := by omega
        generalize hw1 : wr.iterAt (W.heap.size + 1) TB (i + 1) = w1 at *
        have hm0 : ((0 : Int) + 1).tmod 3 = 1 := by decide
        have hm1 : ((1 : Int) + 1).tmod 3 = 2 := by decide
        have hm2 : ((2 : Int) + 1).tmod 3 = 0 := by decide
        have d0 : w1.cell? ⟨W.heap.size, 0, none⟩ = some (.string x0) := cell_of_row _ _ _ _ 39 (0, 0) hB1
        have d1 : w1.cell? ⟨W.heap.size, 1, none⟩ = some (.string x1) := cell_of_row _ _ _ _ 39 (0, 0) hB1
        have d2 : w1.cell? ⟨W.heap.size, 2, none⟩ = some (.string x2) := cell_of_row _ _ _ _ 39 (0, 0) hB1
        have z0 := frozen_of_row w1 W.heap.size 0 _ 39 hB1
        have z1 := frozen_of_row w1 W.heap.size 1 _ 39 hB1
        have z2 := frozen_of_row w1 W.heap.size 2 _ 39 hB1
        have Hst := Lib.hid fun (j : Nat) (v : Value) => heap_setCell_same w1 W.heap.size j _ 39 v hB1
        have Hsi := Lib.hid fun (j : Nat) (v : Value) => (Below.heap_setCell w1 ⟨W.heap.size, j, none⟩ v (W.heap.size + 1) (by show W.heap.size + 1 ≠ W.heap.size; omega)).trans hI1
        have Hsj := Lib.hid fun (j : Nat) (v : Value) => hJ (List.range m) w1 (w1.setCell ⟨W.heap.size, j, none⟩ v) (some W.heap.size) hJ1 (only_setCell (only_refl w1 _) (.inl rfl) _) (fun r e => by cases e; omega)
        by_cases hk0 : k = 0
        · subst hk0
          rw [if_pos rfl] at hsc
          have Hsc := Lib.hid hsc
          clear hsc
          gi_wp2
          refine ⟨fun _ h => (by cases h), ?_⟩
          gi_wp2
          go_roundw
          case rel => exact ⟨i + 1, 1, i + 1, m, cutL a i, f1, TB.extract a i, x1, x2, rfl, by go_num, by omega, Hsc.out, Hst.out 0 _, Hsi.out 0 _, fun _ => Hex.out, fun h => by omega, Hsj.out 0 _⟩
          case measure =>
            have : (w1.setCell ⟨W.heap.size, 0, none⟩ (.string (TB.extract a i))).iterPos (W.heap.size + 1) = i + 1 := by unfold World.iterPos; rw [Hsi.out 0 _]
            rw [this, Hpos.out]; omega
        · rw [if_neg hk0] at hsc
          by_cases hk1 : k = 1
          · subst hk1
            rw [if_pos rfl] at hsc
            have Hsc := Lib.hid hsc
            clear hsc
            gi_wp2
            refine ⟨fun _ h => (by cases h), ?_⟩
            gi_wp2
            go_roundw
            case rel => exact ⟨i + 1, 2, i + 1, m, f0, cutL a i, x0, TB.extract a i, x2, rfl, by go_num, by omega, Hsc.out, Hst.out 1 _, Hsi.out 1 _, fun _ => hx0'.out (by omega), fun h => Hex.out, Hsj.out 1 _⟩
            case measure =>
              have : (w1.setCell ⟨W.heap.size, 1, none⟩ (.string (TB.extract a i))).iterPos (W.heap.size + 1) = i + 1 := by unfold World.iterPos; rw [Hsi.out 1 _]
              rw [this, Hpos.out]; omega
          · rw [if_neg hk1] at hsc
            by_cases hk2 : k = 2
            · subst hk2
              rw [if_pos rfl, Bool.and_eq_true, Bool.and_eq_true] at hsc
              obtain ⟨⟨hm14, hft⟩, hsc⟩ := hsc
              have hm14 := of_decide_eq_true hm14
              have hft : (f0, f1, cutL a i) = footAt m := by simpa using hft
              have hfv : footV m = .agg #[.string x0, .string x1, .string (TB.extract a i)] := by
                unfold footV strL
                rw [← hft, hx0'.out (by omega), hx1'.out (by omega), Hex.out]
              obtain ⟨fn, tmps, assign, body, hy, hR⟩ := hY (List.range m) m _ (Hsj.out 2 (.string (TB.extract a i))) (by simpa using hm14)
              rw [hfv] at hy
              have Hsc := Lib.hid hsc
              have HR := Lib.hid hR
              clear hsc hft hfv hR
              gi_wp2
              refine HR.out.mono ?_
              rintro e W4 (⟨rfl, hJ4, hk4⟩ | ⟨rfl, hJx4⟩)
              · have hB4 := hk4.2 W.heap.size _ (by omega) (Hst.out 2 (.string (TB.extract a i))) (.inl rfl)
                have hI4 := hk4.2 (W.heap.size + 1) _ (by omega) (Hsi.out 2 (.string (TB.extract a i))) (.inr rfl)
                gi_wp2
                go_roundw
                case rel => exact ⟨i + 1, 0, i + 1, m + 1, f0, f1, x0, x1, TB.extract a i, rfl, by go_num, by omega, Hsc.out, hB4, hI4, fun h => by omega, fun h => by omega, by rw [List.range_succ]; exact hJ4⟩
                case measure =>
                  have : W4.iterPos (W.heap.size + 1) = i + 1 := by unfold World.iterPos; rw [hI4]
                  rw [this, Hpos.out]; omega
              · gi_wp2
                refine bodyPost_ret (results_none rfl _ _ _) rfl ?_
                exact ⟨⟨_, rfl⟩, .inr ⟨List.range (m + 1), ⟨m, hm14, rfl⟩, by rw [List.range_succ]; exact hJx4⟩⟩
            · rw [if_neg hk2] at hsc; cases hsc
      · rw [if_neg h32] at hsc
        have ht : (((TB[i]'hil).toNat : Int) != 32) = true := by
          simp only [bne_iff_ne]
          intro e
          exact h32 (byte_ext (b := 32) (by have : (32 : UInt8).toNat = 32 := rfl; omega))
        have Hsc := Lib.hid hsc
        clear hsc h32
        generalize hw1 : wr.iterAt (W.heap.size + 1) TB (i + 1) = w1 at *
        gi_wp2
        go_roundw
        case rel => exact ⟨i + 1, k, a, m, f0, f1, x0, x1, x2, rfl, rfl, by omega, Hsc.out, hB1, hI1, hx0'.out, hx1'.out, hJ1⟩
        case measure =>
          have : w1.iterPos (W.heap.size + 1) = i + 1 := by unfold World.iterPos; rw [hI1]
          rw [this, Hpos.out]; omega
    · obtain rfl : i = 300 := by omega
      have hd : tblL.drop 300 = [] := List.drop_eq_nil_of_le (by rw [tbl_len]; omega)
      rw [hd] at hsc
      have hm : m = 14 := by simpa [scanT] using hsc
      have hnx : (Instr.next (.pointer (some ⟨W.heap.size + 1, 0, none⟩)) true 0).run Tryd.prog wr = .ok (.tuple #[.bool false]) wr := run_next_end_at wr _ TB 300 0 hI (by omega)
      subst hm
      gi_wp2
      go_end0
      exact ⟨⟨_, rfl⟩, .inl ⟨List.range 14, rfl, hJm⟩⟩
end Go.Proofs.YtkfkkoefpfmjkaaDoor
namespace Go.Proofs.YtkfkkoefpfmjkaaDoor
set_option linter.unusedVariables false
set_option linter.unusedSimpArgs false
open Go.RowKit Go.Shelf Go.Lib
attribute [local go_sem] Oper.semAt_some

/- Named. -/
def namedSigns (t : List UInt8) : List UInt8 := match byName t with | some f => f.2.1 | none => []
def namedOk (t : List UInt8) : Bool := (byName t).isSome

def one (w : World) (b : Nat) (v : Value) (ty : TypeId) : Prop := w.heap[b]? = some (.cells #[v] ty (0, 0))

theorem one_abides {W W' : World} {row : Option Nat} {B k : Nat} {v : Value} {ty : TypeId} (h : one W k v ty) (hk : k < B) (hg : W.grownBy W' row) (hr : ∀ r, row = some r → B ≤ r) : one W' k v ty :=
  (hg.block k (Array.getElem?_eq_some_iff.1 h).1 (fun e => by have := hr _ e.symm; omega)).trans h
def NI (t : ByteArray) (w : World) (pre : List Nat) (W : World) : Prop := (∀ j, j ∈ pre → ((footAt j).1 == t.data.toList) = false) ∧ one W w.heap.size (.string t) 9 ∧ one W (w.heap.size + 1) (.string ⟨#[]⟩) 9 ∧ one W (w.heap.size + 2) (.bool false) 4 ∧ Below w.heap.size w W
def NIx (t : ByteArray) (w : World) (c : Code) (pre : List Nat) (W : World) : Prop := c = .ret ∧ ∃ p m, pre = p ++ [m] ∧ (∀ j, j ∈ p → ((footAt j).1 == t.data.toList) = false) ∧ ((footAt m).1 == t.data.toList) = true ∧ one W (w.heap.size + 1) (.string ⟨(footAt m).2.1.toArray⟩) 9 ∧ one W (w.heap.size + 2) (.bool true) 4 ∧ Below w.heap.size w W
def NAx (t : ByteArray) (w W3 : World) (x : Nat) (a' : Act) (W : World) : Prop := ∃ Bx, W3.heap.size ≤ Bx ∧ W.heap[Bx]? = some (.cells #[strL (footAt x).1, strL (footAt x).2.1, strL (footAt x).2.2] 39 (0, 0)) ∧
  ∃ y6 y7 y8 y9 y10 y11, a' = { tmps := #[.string t, .pointer (some ⟨w.heap.size, 0, none⟩), .pointer (some ⟨w.heap.size + 1, 0, none⟩), .pointer (some ⟨w.heap.size + 1 + 1, 0, none⟩), .pointer (some ⟨Bx, 0, none⟩), footV x, y6, y7, y8, y9, y10, y11], defers := [] }
theorem foot_name (j : Nat) (t : ByteArray) : ((footAt j).1 == t.toList) = ((footAt j).1 == t.data.toList) := by
  rw [ByteArray.toList_eq]

set_option maxRecDepth 100000 in
set_option maxHeartbeats 4000000 in
theorem named_in (F : Fence) (n : Nat) (h18 : F.fn 18) (h51 : F.fn 51) (hro : F.round = none) (hn : 3 ≤ n) (t : ByteArray) (w : World) :
    CallsIn F n Tryd.prog 18 #[.string t] w fun e w' => e = .returned (.tuple #[.string ⟨(namedSigns t.data.toList).toArray⟩, .bool (namedOk t.data.toList)]) ∧ Below w.heap.size w w' := by
  have h1 : 1 ≤ n := by omega
  refine callsIn_of_wp_marks Tryd.func18 rfl h18 ?_ hro
  simp only [Tryd.ntmps18, List.size_toArray, List.length_cons, List.length_nil, Nat.reduceAdd, Nat.reduceSub, Array.replicate_succ, Array.replicate_zero, List.push_toArray, List.append_toArray, List.nil_append, List.cons_append]
  gi_wp2
  generalize hW3 : World.alloc (World.alloc (World.alloc w _) _) _ = W3
  have sW3 : W3.heap.size = w.heap.size + 3 := by rw [← hW3]; simp
  have o0 : one W3 w.heap.size (.string t) 9 := by rw [← hW3]; exact ((Below.heap_alloc _ _ _ (by simp; omega)).trans (Below.heap_alloc _ _ _ (by simp))).trans (World.alloc_heap_new w _)
  have o1 : one W3 (w.heap.size + 1) (.string ⟨#[]⟩) 9 := by
    rw [← hW3]
    have := World.alloc_heap_new (w.alloc (.cells #[.string t] 9)) (.cells #[.string ⟨#[]⟩] 9)
    rw [World.size_alloc] at this
    exact (Below.heap_alloc _ _ _ (by simp)).trans this
  have o2 : one W3 (w.heap.size + 2) (.bool false) 4 := by
    rw [← hW3]
    have := World.alloc_heap_new ((w.alloc (.cells #[.string t] 9)).alloc (.cells #[.string ⟨#[]⟩] 9)) (.cells #[.bool false] 4)
    rw [World.size_alloc, World.size_alloc] at this
    exact this
  have hB3 : Below w.heap.size w W3 := by rw [← hW3]; exact (((Below.refl _ w).alloc (Nat.le_refl _) _).alloc (by simp) _).alloc (by simp; omega) _
  clear hW3
  refine range_all hro h1 (gf := 51) (lb := #[]) rfl h51 (enters_of Tryd.func51 (by kernel_rfl) rfl) (named_seq F (n - 1) h51 hro (by omega) W3) (fun _ => rfl)
    (NI t w) (NIx t w)
    ?hI ?hIx ⟨fun j h => (by cases h), o0, o1, o2, hB3⟩
    (NAx t w W3)
    ?assign ?body ?hAx ?done ?stop
  case hI =>
    rintro s A A' row ⟨h2, h3, h4, h5, h6⟩ hg hr
    exact ⟨h2, one_abides h3 (by omega) hg hr, one_abides h4 (by omega) hg hr, one_abides h5 (by omega) hg hr, h6.grown hg h6.size (fun r e => by have := hr r e; omega)⟩
  case hIx =>
    rintro c s A A' row ⟨rfl, p, m, h1, h2, h3, h4, h5, h6⟩ hg hr
    exact ⟨rfl, p, m, h1, h2, h3, one_abides h4 (by omega) hg hr, one_abides h5 (by omega) hg hr, h6.grown hg h6.size (fun r e => by have := hr r e; omega)⟩
  case hAx =>
    rintro x a' s A A' row ⟨Bx, h1, h2, y6, y7, y8, y9, y10, y11, h3⟩ hg hr
    refine ⟨Bx, h1, (hg.block Bx (Array.getElem?_eq_some_iff.1 h2).1 (fun e => ?_)).trans h2, y6, y7, y8, y9, y10, y11, h3⟩
    obtain ⟨_, o, ho, hc⟩ := hr Bx e.symm
    rw [h2] at ho; cases ho; cases hc
  case assign =>
    intro l pre x W K hi hsz hK
    have hfv : footV x = .agg #[.string ⟨(footAt x).1.toArray⟩, .string ⟨(footAt x).2.1.toArray⟩, .string ⟨(footAt x).2.2.toArray⟩] := rfl
    gi_wp2
    obtain ⟨g1, g2, g3, g4, g5⟩ := hi
    have q : ∀ {k : Nat} {v : Value} {ty : TypeId} (o : Obj), k < W3.heap.size → one W k v ty → one (W.alloc o) k v ty := fun o hk h => (Below.heap_alloc _ _ _ (by omega)).trans h
    refine hK _ _ (KeepsOthers.alloc _ _) ⟨by simp, fun i o hi ho _ => ?_⟩ ⟨g1, q _ (by omega) g2, q _ (by omega) g3, q _ (by omega) g4, g5.alloc (by omega) _⟩ ⟨W.heap.size, hsz, World.alloc_heap_new W _, _, _, _, _, _, _, rfl⟩
    exact (Below.heap_alloc _ _ _ (by have := (Array.getElem?_eq_some_iff.1 ho).1; omega)).trans ho
  case body =>
    rintro l pre x a' W ⟨hnn, p0, p1, p2, hB⟩ hlen ⟨Bx, hBx, hx, y6, y7, y8, y9, y10, y11, rfl⟩ hsz
    have e2 : w.heap.size + 1 + 1 = w.heap.size + 2 := rfl
    have hin : ∀ (r : Bool), ((footAt x).1 == t.data.toList) = r → ∀ j, j ∈ pre ++ [x] → ((footAt j).1 == t.data.toList) = false ∨ (r = true ∧ j = x) := fun r hr j hj => by
      rcases List.mem_append.1 hj with h | h
      · exact .inl (hnn j h)
      · obtain rfl : j = x := by simpa using h
        cases r
        · exact .inl hr
        · exact .inr ⟨rfl, rfl⟩
    have hinF : ((footAt x).1 == t.data.toList) = false → NI t w (pre ++ [x]) W := fun hf => ⟨fun j hj => (by rcases hin false hf j hj with h | ⟨h, _⟩ <;> first | exact h | cases h), p0, p1, p2, hB⟩
    have c0 : W.cell? ⟨w.heap.size, 0, none⟩ = some (.string t) := cell_of_row _ _ _ _ 9 (0, 0) p0
    have c1 : W.cell? ⟨w.heap.size + 1, 0, none⟩ = some (.string ⟨#[]⟩) := cell_of_row _ _ _ _ 9 (0, 0) p1
    have c2 : W.cell? ⟨w.heap.size + 2, 0, none⟩ = some (.bool false) := cell_of_row _ _ _ _ 4 (0, 0) p2
    have b0 : W.cell? ⟨Bx, 0, none⟩ = some (.string ⟨(footAt x).1.toArray⟩) := cell_of_row _ _ _ _ 39 (0, 0) hx
    have b1 : W.cell? ⟨Bx, 1, none⟩ = some (.string ⟨(footAt x).2.1.toArray⟩) := cell_of_row _ _ _ _ 39 (0, 0) hx
    have y1 := frozen_of_row W (w.heap.size + 1) 0 _ 9 p1
    have y2 := frozen_of_row W (w.heap.size + 2) 0 _ 4 p2
    have hfn := foot_name x t
    have Hnn := Lib.hid hnn
    have HinF := Lib.hid hinF
    clear hnn hin hinF
    cases hP : ((footAt x).1 == t.data.toList) with
    | false =>
      rw [hP] at hfn
      have hp0 := HinF.out hP
      have Hp0 := Lib.hid hp0
      clear hp0 hP
      gi_wp2
      all_goals exact ⟨KeepsOthers.refl _, KeepsFor.refl _ _, Hp0.out⟩
    | true =>
      rw [hP] at hfn
      have HP := Lib.hid hP
      clear hP
      gi_wp2
      refine ⟨((KeepsOthers.setCell _ _ _).trans (KeepsOthers.setCell _ _ _)), rfl, pre, x, rfl, Hnn.out, HP.out, ?_, ?_, ?_⟩
      · unfold one; exact (Below.heap_setCell _ _ _ _ (by show w.heap.size + 1 ≠ w.heap.size + 2; omega)).trans (heap_setCell_same W (w.heap.size + 1) 0 _ 9 _ p1)
      · unfold one; exact heap_setCell_same _ (w.heap.size + 2) 0 _ 4 _ ((Below.heap_setCell _ _ _ _ (by show w.heap.size + 2 ≠ w.heap.size + 1; omega)).trans p2)
      · exact (hB.setCell (by show w.heap.size ≤ w.heap.size + 1; omega) _).setCell (by show w.heap.size ≤ w.heap.size + 2; omega) _
  case done =>
    rintro D xs W hD rfl ⟨hnn, p0, p1, p2, hB⟩ hK
    have e2 : w.heap.size + 1 + 1 = w.heap.size + 2 := rfl
    have c1 : W.cell? ⟨w.heap.size + 1, 0, none⟩ = some (.string ⟨#[]⟩) := cell_of_row _ _ _ _ 9 (0, 0) p1
    have c2 : W.cell? ⟨w.heap.size + 2, 0, none⟩ = some (.bool false) := cell_of_row _ _ _ _ 4 (0, 0) p2
    have y1 := frozen_of_row W (w.heap.size + 1) 0 _ 9 p1
    have y2 := frozen_of_row W (w.heap.size + 2) 0 _ 4 p2
    gi_wp2
    have hd : ((W.setCell ⟨w.heap.size + 1, 0, none⟩ (.string ⟨#[]⟩)).setCell ⟨w.heap.size + 2, 0, none⟩ (.bool false)).heap[D]? = some (.deferred (some [])) := by
      refine (Below.heap_setCell _ _ _ _ ?_).trans ((Below.heap_setCell _ _ _ _ ?_).trans hK)
      · show D ≠ w.heap.size + 2; omega
      · show D ≠ w.heap.size + 1; omega
    refine ⟨by simp, .inl ⟨_, _, rfl, run_takeDeferred hd, ?_⟩⟩
    have hB6 : Below w.heap.size w ((W.setCell ⟨w.heap.size + 1, 0, none⟩ (.string ⟨#[]⟩)).setCell ⟨w.heap.size + 2, 0, none⟩ (.bool false)) := (hB.setCell (by show w.heap.size ≤ w.heap.size + 1; omega) _).setCell (by show w.heap.size ≤ w.heap.size + 2; omega) _
    generalize hW5 : ((W.setCell ⟨w.heap.size + 1, 0, none⟩ (.string ⟨#[]⟩)).setCell ⟨w.heap.size + 2, 0, none⟩ (.bool false)).putObj D (.deferred none) = W5
    have d1 : W5.cell? ⟨w.heap.size + 1, 0, none⟩ = some (.string ⟨#[]⟩) := by
      rw [← hW5]; exact (World.cell?_of_block (World.putObj_heap_other (k := w.heap.size + 1) (by omega))).trans (cell_of_row _ _ _ _ 9 (0, 0) ((Below.heap_setCell _ _ _ _ (by show w.heap.size + 1 ≠ w.heap.size + 2; omega)).trans (heap_setCell_same W (w.heap.size + 1) 0 _ 9 _ p1)))
    have d2 : W5.cell? ⟨w.heap.size + 2, 0, none⟩ = some (.bool false) := by
      rw [← hW5]; exact (World.cell?_of_block (World.putObj_heap_other (k := w.heap.size + 2) (by omega))).trans (cell_of_row _ _ _ _ 4 (0, 0) (heap_setCell_same _ (w.heap.size + 2) 0 _ 4 _ ((Below.heap_setCell _ _ _ _ (by show w.heap.size + 2 ≠ w.heap.size + 1; omega)).trans p2)))
    have hB5 : Below w.heap.size w W5 := by rw [← hW5]; exact hB6.grown (grownBy_putObj' _ D _) hB6.size (fun r e => by cases e; omega)
    clear hW5
    refine ⟨_, by simp [results, Tryd.f18, go_sem, d1, d2]; rfl, ?_, hB5⟩
    simp [namedSigns, namedOk, byName_no (fun j hj => hnn j (by simpa using hj))]
  case stop =>
    rintro D c pre W hD ⟨k, hk, rfl⟩ ⟨rfl, p, m, hpm, hnn, hy, p1, p2, hB⟩ hK
    have e2 : w.heap.size + 1 + 1 = w.heap.size + 2 := rfl
    have c1 : W.cell? ⟨w.heap.size + 1, 0, none⟩ = some (.string ⟨(footAt m).2.1.toArray⟩) := cell_of_row _ _ _ _ 9 (0, 0) p1
    have c2 : W.cell? ⟨w.heap.size + 2, 0, none⟩ = some (.bool true) := cell_of_row _ _ _ _ 4 (0, 0) p2
    gi_wp2
    refine ⟨by simp, .inl ⟨_, _, rfl, run_takeDeferred hK, ?_⟩⟩
    obtain ⟨rfl, rfl⟩ : p = List.range k ∧ m = k := by rw [List.range_succ] at hpm; have := List.append_inj' hpm rfl; exact ⟨this.1.symm, by simpa using this.2.symm⟩
    have hm14 : m < 14 := hk
    have hlow : ∀ j, j < m → ((footAt j).1 == t.data.toList) = false := fun j hj => hnn j (by simpa using hj)
    generalize hW5 : W.putObj D (.deferred none) = W5
    have d1 : W5.cell? ⟨w.heap.size + 1, 0, none⟩ = some (.string ⟨(footAt m).2.1.toArray⟩) := by
      rw [← hW5]; exact (World.cell?_of_block (World.putObj_heap_other (k := w.heap.size + 1) (by omega))).trans c1
    have d2 : W5.cell? ⟨w.heap.size + 2, 0, none⟩ = some (.bool true) := by
      rw [← hW5]; exact (World.cell?_of_block (World.putObj_heap_other (k := w.heap.size + 2) (by omega))).trans c2
    have hB5 : Below w.heap.size w W5 := by rw [← hW5]; exact hB.grown (grownBy_putObj' _ D _) hB.size (fun r e => by cases e; omega)
    clear hW5
    refine ⟨_, by simp [results, Tryd.f18, go_sem, d1, d2]; rfl, ?_, hB5⟩
    simp [namedSigns, namedOk, byName_at hm14 hy hlow]
theorem named_any (t : ByteArray) (w : World) :
    Calls Tryd.prog 18 #[.string t] w fun e w' => e = .returned (.tuple #[.string ⟨(namedSigns t.data.toList).toArray⟩, .bool (namedOk t.data.toList)]) ∧ Below w.heap.size w w' :=
  (callsIn_wide (n := 5)).1 (named_in Fence.wide 5 trivial trivial rfl (by omega) t w)
end Go.Proofs.YtkfkkoefpfmjkaaDoor

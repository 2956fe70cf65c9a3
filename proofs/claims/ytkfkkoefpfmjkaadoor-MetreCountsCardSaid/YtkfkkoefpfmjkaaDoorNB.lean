import Derived.Test.YtkfkkoefpfmjkaaDoorNA
import Derived.Test.YtkfkkoefpfmjkaaDoorGS
namespace Go.Proofs.YtkfkkoefpfmjkaaDoor
set_option linter.unusedVariables false
set_option linter.unusedSimpArgs false
open Go.RowKit Go.Shelf Go.Lib
attribute [local go_sem] Oper.semAt_some

/- Names' iterator: an iterator over an iterator. -/
set_option maxRecDepth 100000 in
set_option maxHeartbeats 4000000 in
theorem named_keep (F : Fence) (n : Nat) (h51 : F.fn 51) (hro : F.round = none) (hn : 1 ≤ n) (w : World) :
    SeqKeep F n Tryd.prog 51 #[] (fun j : Nat => #[footV j]) (fun xs => xs = List.range 14) (fun pre => ∃ m, m < 14 ∧ pre = List.range (m + 1)) 14 w := fun l J Jx W hW hJ hJx hY h0 => by
  refine callsIn_of_wp Tryd.func51 rfl h51 ?_ hro
  simp only [Tryd.ntmps51, List.size_toArray, List.length_cons, List.length_nil, Nat.reduceAdd, Nat.reduceSub, Array.replicate_succ, Array.replicate_zero, List.push_toArray, List.append_toArray, List.nil_append, List.cons_append]
  generalize hT : (ByteArray.mk (List.toArray (List.append _ _))) = T0
  have hT2 : T0 = TB := by rw [← hT]; kernel_rfl
  clear hT
  subst hT2
  have hsz := TB_size
  gi_wp2
  have hWs := hW.size
  gi_loopw [3, 4] (fun k a wr => ∃ (i k' a' m : Nat) (f0 f1 : List UInt8) (x0 x1 x2 : ByteArray), k = .int .i64 k' ∧ a = .int .i64 a' ∧ i ≤ 300 ∧ scanT (tblL.drop i) i k' a' m f0 f1 = true ∧
      wr.heap[W.heap.size]? = some (.cells #[.string x0, .string x1, .string x2] 39 (0, 0)) ∧ wr.heap[W.heap.size + 1]? = some (.stringIter TB i) ∧ (1 ≤ k' → x0 = ⟨f0.toArray⟩) ∧ (2 ≤ k' → x1 = ⟨f1.toArray⟩) ∧ J (List.range m) wr)
    (fun _ _ wr => 300 - wr.iterPos (W.heap.size + 1))
  case atStart =>
    refine ⟨0, 0, 0, 0, [], [], ⟨#[]⟩, ⟨#[]⟩, ⟨#[]⟩, rfl, rfl, by omega, scan_start, ?_, ?_, fun h => by omega, fun h => by omega, ?_⟩
    · exact (Below.heap_alloc _ _ _ (by simp)).trans (World.alloc_heap_new W _)
    · have := World.alloc_heap_new (W.alloc (.cells #[.string ⟨#[]⟩, .string ⟨#[]⟩, .string ⟨#[]⟩] 39)) (.stringIter TB 0)
      rw [World.size_alloc] at this; exact this
    · exact hJ.alloc _ (hJ.alloc _ h0)
  case round =>
    obtain ⟨i, k, a, m, f0, f1, x0, x1, x2, rfl, rfl, hi, hsc, hB, hI, hx0, hx1, hJm⟩ := hrel
    have hx0' := Lib.hid hx0
    have hx1' := Lib.hid hx1
    clear hx0 hx1
    by_cases hlt : i < 300
    · have hil : i < TB.size := by omega
      rw [TB_get i hil] at hsc
      unfold scanT at hsc
      rw [Bool.and_eq_true] at hsc
      obtain ⟨hc128, hsc⟩ := hsc
      have hc128 := of_decide_eq_true hc128
      have hnx : (Instr.next (.pointer (some ⟨W.heap.size + 1, 0, none⟩)) true 0).run Tryd.prog wr = .ok (.tuple #[.bool true, .int .i64 i, .int .i32 (TB[i]'hil).toNat]) (wr.iterAt (W.heap.size + 1) TB (i + 1)) := run_next_ascii_at wr _ TB i 0 hI hil hc128
      have hI1 := iterAt_heap wr (W.heap.size + 1) TB i (i + 1) hI
      have hB1 := (iterAt_other wr (W.heap.size + 1) W.heap.size TB (i + 1) (by omega)).trans hB
      have hJ1 : J (List.range m) (wr.iterAt (W.heap.size + 1) TB (i + 1)) := hJ _ _ _ (some (W.heap.size + 1)) hJm ⟨rfl, rfl, rfl, by rw [iterAt_size]; exact Nat.le_refl _, fun j _ hj => iterAt_other wr _ _ TB _ (fun e => hj (by rw [e]))⟩ (fun r e => by cases e; omega)
      have hpos : wr.iterPos (W.heap.size + 1) = i := by unfold World.iterPos; rw [hI]
      have Hpos := Lib.hid hpos
      clear hpos
      by_cases h32 : TB[i] = 32
      · rw [if_pos h32, Bool.and_eq_true] at hsc
        obtain ⟨hai, hsc⟩ := hsc
        have hai := of_decide_eq_true hai
        have ht : (((TB[i]'hil).toNat : Int) != 32) = false := by rw [h32]; rfl
        have hex := TB_cut a i
        have Hex := Lib.hid hex
        clear hex h32
        have b1 : (0 : Int) ≤ (a : Int) := by omega
        have b2 : (a : Int) ≤ (i : Int) := by omega
        have b3 : (i : Int) ≤ (TB.size : Int) := by omega
        generalize hw1 : wr.iterAt (W.heap.size + 1) TB (i + 1) = w1 at *
        have hm0 : ((0 : Int) + 1).tmod 3 = 1 := by decide
        have hm1 : ((1 : Int) + 1).tmod 3 = 2 := by decide
        have hm2 : ((2 : Int) + 1).tmod 3 = 0 := by decide
        have d0 : w1.cell? ⟨W.heap.size, 0, none⟩ = some (.string x0) := cell_of_row _ _ _ _ 39 (0, 0) hB1
        have d1 : w1.cell? ⟨W.heap.size, 1, none⟩ = some (.string x1) := cell_of_row _ _ _ _ 39 (0, 0) hB1
        have d2 : w1.cell? ⟨W.heap.size, 2, none⟩ = some (.string x2) := cell_of_row _ _ _ _ 39 (0, 0) hB1
        have z0 := frozen_of_row w1 W.heap.size 0 _ 39 hB1
        have z1 := frozen_of_row w1 W.heap.size 1 _ 39 hB1
        have z2 := frozen_of_row w1 W.heap.size 2 _ 39 hB1
        have Hst := Lib.hid fun (j : Nat) (v : Value) => heap_setCell_same w1 W.heap.size j _ 39 v hB1
        have Hsi := Lib.hid fun (j : Nat) (v : Value) => (Below.heap_setCell w1 ⟨W.heap.size, j, none⟩ v (W.heap.size + 1) (by show W.heap.size + 1 ≠ W.heap.size; omega)).trans hI1
        have Hsj := Lib.hid fun (j : Nat) (v : Value) => hJ (List.range m) w1 (w1.setCell ⟨W.heap.size, j, none⟩ v) (some W.heap.size) hJ1 (only_setCell (only_refl w1 _) (.inl rfl) _) (fun r e => by cases e; omega)
        by_cases hk0 : k = 0
        · subst hk0
          rw [if_pos rfl] at hsc
          have Hsc := Lib.hid hsc
          clear hsc
          gi_wp2
          refine ⟨fun _ h => (by cases h), ?_⟩
          gi_wp2
          go_roundw
          case rel => exact ⟨i + 1, 1, i + 1, m, cutL a i, f1, TB.extract a i, x1, x2, rfl, by go_num, by omega, Hsc.out, Hst.out 0 _, Hsi.out 0 _, fun _ => Hex.out, fun h => by omega, Hsj.out 0 _⟩
          case measure =>
            have : (w1.setCell ⟨W.heap.size, 0, none⟩ (.string (TB.extract a i))).iterPos (W.heap.size + 1) = i + 1 := by unfold World.iterPos; rw [Hsi.out 0 _]
            rw [this, Hpos.out]; omega
        · rw [if_neg hk0] at hsc
          by_cases hk1 : k = 1
          · subst hk1
            rw [if_pos rfl] at hsc
            have Hsc := Lib.hid hsc
            clear hsc
            gi_wp2
            refine ⟨fun _ h => (by cases h), ?_⟩
            gi_wp2
            go_roundw
            case rel => exact ⟨i + 1, 2, i + 1, m, f0, cutL a i, x0, TB.extract a i, x2, rfl, by go_num, by omega, Hsc.out, Hst.out 1 _, Hsi.out 1 _, fun _ => hx0'.out (by omega), fun h => Hex.out, Hsj.out 1 _⟩
            case measure =>
              have : (w1.setCell ⟨W.heap.size, 1, none⟩ (.string (TB.extract a i))).iterPos (W.heap.size + 1) = i + 1 := by unfold World.iterPos; rw [Hsi.out 1 _]
              rw [this, Hpos.out]; omega
          · rw [if_neg hk1] at hsc
            by_cases hk2 : k = 2
            · subst hk2
              rw [if_pos rfl, Bool.and_eq_true, Bool.and_eq_true] at hsc
              obtain ⟨⟨hm14, hft⟩, hsc⟩ := hsc
              have hm14 := of_decide_eq_true hm14
              have hft : (f0, f1, cutL a i) = footAt m := by simpa using hft
              have hfv : footV m = .agg #[.string x0, .string x1, .string (TB.extract a i)] := by
                unfold footV strL
                rw [← hft, hx0'.out (by omega), hx1'.out (by omega), Hex.out]
              obtain ⟨fn, tmps, assign, body, hy, hR⟩ := hY (List.range m) m _ (Hsj.out 2 (.string (TB.extract a i))) (by simpa using hm14)
              rw [hfv] at hy
              have Hsc := Lib.hid hsc
              have HR := Lib.hid hR
              clear hsc hft hfv hR
              gi_wp2
              refine HR.out.mono ?_
              rintro e W4 (⟨rfl, hJ4, hk4⟩ | ⟨rfl, hJx4, _⟩)
              · have hB4 := hk4.2 W.heap.size _ (Nat.le_refl _) (Hst.out 2 (.string (TB.extract a i)))
                have hI4 := hk4.2 (W.heap.size + 1) _ (by omega) (Hsi.out 2 (.string (TB.extract a i)))
                gi_wp2
                go_roundw
                case rel => exact ⟨i + 1, 0, i + 1, m + 1, f0, f1, x0, x1, TB.extract a i, rfl, by go_num, by omega, Hsc.out, hB4, hI4, fun h => by omega, fun h => by omega, by rw [List.range_succ]; exact hJ4⟩
                case measure =>
                  have : W4.iterPos (W.heap.size + 1) = i + 1 := by unfold World.iterPos; rw [hI4]
                  rw [this, Hpos.out]; omega
              · gi_wp2
                refine bodyPost_ret (results_none rfl _ _ _) rfl ?_
                exact ⟨⟨_, rfl⟩, .inr ⟨List.range (m + 1), ⟨m, hm14, rfl⟩, by rw [List.range_succ]; exact hJx4⟩⟩
            · rw [if_neg hk2] at hsc; cases hsc
      · rw [if_neg h32] at hsc
        have ht : (((TB[i]'hil).toNat : Int) != 32) = true := by
          simp only [bne_iff_ne]
          intro e
          exact h32 (byte_ext (b := 32) (by have : (32 : UInt8).toNat = 32 := rfl; omega))
        have Hsc := Lib.hid hsc
        clear hsc h32
        generalize hw1 : wr.iterAt (W.heap.size + 1) TB (i + 1) = w1 at *
        gi_wp2
        go_roundw
        case rel => exact ⟨i + 1, k, a, m, f0, f1, x0, x1, x2, rfl, rfl, by omega, Hsc.out, hB1, hI1, hx0'.out, hx1'.out, hJ1⟩
        case measure =>
          have : w1.iterPos (W.heap.size + 1) = i + 1 := by unfold World.iterPos; rw [hI1]
          rw [this, Hpos.out]; omega
    · obtain rfl : i = 300 := by omega
      have hd : tblL.drop 300 = [] := List.drop_eq_nil_of_le (by rw [tbl_len]; omega)
      rw [hd] at hsc
      have hm : m = 14 := by simpa [scanT] using hsc
      have hnx : (Instr.next (.pointer (some ⟨W.heap.size + 1, 0, none⟩)) true 0).run Tryd.prog wr = .ok (.tuple #[.bool false]) wr := run_next_end_at wr _ TB 300 0 hI (by omega)
      subst hm
      gi_wp2
      go_end0
      exact ⟨⟨_, rfl⟩, .inl ⟨List.range 14, rfl, hJm⟩⟩

theorem roundAny {F : Fence} (hd : F.depth = none) {m : Nat} (m' : Nat) {P : Program} {l : Nat} {f : FuncId} {tmps : Array Value} {assign body : Code} {w : World} {R : Ending → World → Prop}
    (h : RoundIn F m P l f tmps assign body w R) : RoundIn F m' P l f tmps assign body w R := ⟨h.1, fun c cs _ => h.2 c cs (fun d h => by rw [hd] at h; cases h)⟩
def pairV (j : Nat) : Array Value := #[strL (footAt j).1, strL (footAt j).2.1]
def YB (l : Nat) (b : Nat) (V : World) : Prop := V.heap[b]? = some (.cells #[.func (.yield l) #[] #[]] 102 (0, 0))
def NB6 (b l : Nat) (x : Nat) (a' : Act) (V : World) : Prop := ∃ Bx, b < Bx ∧ V.heap[Bx]? = some (.cells #[strL (footAt x).1, strL (footAt x).2.1, strL (footAt x).2.2] 39 (0, 0)) ∧
  ∃ y4 y5 y6 y7 y8 y9 y10, a' = { tmps := #[.func (.yield l) #[] #[], .pointer (some ⟨b, 0, none⟩), .pointer (some ⟨Bx, 0, none⟩), footV x, y4, y5, y6, y7, y8, y9, y10], defers := [] }
set_option maxRecDepth 100000 in
set_option maxHeartbeats 4000000 in
theorem names_seq (n : Nat) (hn : 5 ≤ n) (w : World) :
    SeqKeep Fence.wide n Tryd.prog 52 #[] pairV (fun xs => xs = List.range 14) (fun pre => ∃ m, m < 14 ∧ pre = List.range (m + 1)) 14 w := fun l J Jx W hW hJ hJx hY h0 => by
  have h1 : 1 ≤ n := by omega
  refine callsIn_of_wp_marks Tryd.func52 rfl trivial ?_ rfl
  simp only [Tryd.ntmps52, List.size_toArray, List.length_cons, List.length_nil, Nat.reduceAdd, Nat.reduceSub, Array.replicate_succ, Array.replicate_zero, List.push_toArray, List.append_toArray, List.nil_append, List.cons_append]
  gi_wp2
  generalize hW1 : W.alloc _ = W1
  have sW1 : W1.heap.size = W.heap.size + 1 := by rw [← hW1]; simp
  have y0 : YB l W.heap.size W1 := by rw [← hW1]; exact World.alloc_heap_new W _
  have j0 : J [] W1 := by rw [← hW1]; exact hJ.alloc _ h0
  have hB1 : Below W.heap.size W W1 := by rw [← hW1]; exact (Below.refl _ W).alloc (Nat.le_refl _) _
  clear hW1
  refine range_keep (F := Fence.wide) rfl h1 (gf := 51) (lb := #[]) rfl trivial (enters_of Tryd.func51 (by kernel_rfl) rfl) (named_keep Fence.wide (n - 1) trivial rfl (by omega) W1) (fun _ => rfl)
    (fun pre V => J pre V ∧ YB l W.heap.size V) (fun c pre V => c = .ret ∧ Jx pre V)
    ?hI ?hIx ⟨j0, y0⟩ (NB6 W.heap.size l) ?assign ?body ?hAx ?done ?stop
  case hI =>
    rintro s A B row ⟨h2, h3⟩ hg hr
    exact ⟨hJ s A B row h2 hg (fun r e => by have := hr r e; omega), (hg.block _ (Array.getElem?_eq_some_iff.1 h3).1 (fun e => by have := hr _ e.symm; omega)).trans h3⟩
  case hIx =>
    rintro c s A B row ⟨rfl, h2⟩ hg hr
    exact ⟨rfl, hJx s A B row h2 hg (fun r e => by have := hr r e; omega)⟩
  case hAx =>
    rintro x a' s A B row ⟨Bx, h1, h2, y4, y5, y6, y7, y8, y9, y10, h3⟩ hg hr
    refine ⟨Bx, h1, (hg.block Bx (Array.getElem?_eq_some_iff.1 h2).1 (fun e => ?_)).trans h2, y4, y5, y6, y7, y8, y9, y10, h3⟩
    obtain ⟨_, o, ho, hc⟩ := hr Bx e.symm
    rw [h2] at ho; cases ho; cases hc
  case assign =>
    intro l2 pre x V K hi hsz hK
    have hfv : footV x = .agg #[.string ⟨(footAt x).1.toArray⟩, .string ⟨(footAt x).2.1.toArray⟩, .string ⟨(footAt x).2.2.toArray⟩] := rfl
    obtain ⟨g1, g2⟩ := hi
    gi_wp2
    refine hK _ _ (KeepsAll.alloc _ _ _) ⟨hJ.alloc _ g1, (Below.heap_alloc _ _ _ (by omega)).trans g2⟩ ⟨V.heap.size, by omega, World.alloc_heap_new V _, _, _, _, _, _, _, _, rfl⟩
  case body =>
    rintro l2 pre x a' V ⟨hj, hy0⟩ hlen ⟨Bx, hBx, hx, y4, y5, y6, y7, y8, y9, y10, rfl⟩ hsz
    have c0 : V.cell? ⟨W.heap.size, 0, none⟩ = some (.func (.yield l) #[] #[]) := cell_of_row _ _ _ _ 102 (0, 0) hy0
    have b0 : V.cell? ⟨Bx, 0, none⟩ = some (.string ⟨(footAt x).1.toArray⟩) := cell_of_row _ _ _ _ 39 (0, 0) hx
    have b1 : V.cell? ⟨Bx, 1, none⟩ = some (.string ⟨(footAt x).2.1.toArray⟩) := cell_of_row _ _ _ _ 39 (0, 0) hx
    obtain ⟨fn, tmps, assign, body, hy, hR⟩ := hY pre x V hj hlen
    have hR' : RoundIn Fence.wide (n - 1 - 1 - 1) Tryd.prog l fn tmps assign body V _ := roundAny rfl _ hR
    simp only [pairV, strL] at hy
    have HR := Lib.hid hR'
    clear hR hR' hY
    gi_wp2
    refine And.intro (fun h => (by cases h)) (RoundIn.mono (F := Fence.wide) HR.out ?_)
    rintro e W4 (⟨rfl, hJ4, hk4⟩ | ⟨rfl, hJx4, hk4⟩)
    · have hb4 := hk4.2 W.heap.size _ (Nat.le_refl _) hy0
      have HK := Lib.hid hk4
      have HJ := Lib.hid hJ4
      clear hJ4 hk4
      gi_wp2
      exact ⟨HK.out.mono (by omega), HJ.out, hb4⟩
    · have HK := Lib.hid hk4
      have HJ := Lib.hid hJx4
      clear hJx4 hk4
      gi_wp2
      exact ⟨HK.out.mono (by omega), rfl, HJ.out⟩
  case done =>
    rintro D xs V hD rfl ⟨hj, hy0⟩ hK
    gi_wp2
    refine ⟨by simp, .inl ⟨_, _, rfl, run_takeDeferred hK, ?_⟩⟩
    exact ⟨_, results_none rfl _ _ _, ⟨_, rfl⟩, .inl ⟨_, rfl, hJ.put _ hj (by omega)⟩⟩
  case stop =>
    rintro D c pre V hD hsp ⟨rfl, hj⟩ hK
    gi_wp2
    refine ⟨by simp, .inl ⟨_, _, rfl, run_takeDeferred hK, ?_⟩⟩
    exact ⟨_, results_none rfl _ _ _, ⟨_, rfl⟩, .inr ⟨_, hsp, hJx.put _ hj (by omega)⟩⟩

/- The reference's table. -/
def namesC : Array Value := ((List.range 14).flatMap fun j => [strL (footAt j).1, strL (footAt j).2.1, strL (footAt j).2.2]).toArray
set_option maxRecDepth 100000 in
set_option maxHeartbeats 4000000 in
theorem refnamed_any (w : World) :
    Calls Tryd.prog 17 #[] w fun e w' => e = .returned (.slice (some ⟨w.heap.size, 0, none⟩) 14 14) ∧ w' = w.alloc (.cells namesC 39) := by
  go_enter Tryd.func17, Tryd.ntmps17
  have e : ∀ (c : Array Value), c = namesC → w.alloc (.cells c 39) = w.alloc (.cells namesC 39) := fun c h => by rw [h]
  have He := Lib.hid e
  clear e
  go_wp2_with fail
  go_ret
  exact ⟨rfl, He.out _ (by kernel_rfl)⟩
end Go.Proofs.YtkfkkoefpfmjkaaDoor

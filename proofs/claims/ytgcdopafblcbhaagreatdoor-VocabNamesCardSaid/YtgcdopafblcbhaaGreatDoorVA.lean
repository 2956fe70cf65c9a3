import Derived.Test.YtgcdopafblcbhaaGreatDoorNF
import Derived.Test.YtgcdopafblcbhaaGreatDoorND
import Derived.Test.YtgcdopafblcbhaaGreatDoorNQ
/- The joined letters, handed out one by one. -/
namespace Go.Proofs.YtgcdopafblcbhaaGreatDoor
set_option linter.unusedVariables false
set_option linter.unusedSimpArgs false
open Go.RowKit Go.Lib Go.Shelf
attribute [local go_sem] Oper.semAt_some

theorem put2 {V : World} {u : Nat} {a0 a1 : Value} {t : TypeId} (h : V.heap[u]? = some (.cells #[a0, a1] t (0, 0))) (k : Nat) (hk : k < 2) (v : Value) :
    (V.setCell ⟨u, k, none⟩ v).heap[u]? = some (.cells (#[a0, a1].set k v (by simpa using hk)) t (0, 0)) := by
  match k, hk with
  | 0, _ => exact heap_setCell_same V u 0 _ _ v h
  | 1, _ => exact heap_setCell_same V u 1 _ _ v h
theorem keptG {W W' : World} {k u : Nat} {o : Obj} (h : W.heap[k]? = some o) (hg : W.grownBy W' (some u)) (hk : k ≠ u) : W'.heap[k]? = some o := (hg.block _ (Array.getElem?_eq_some_iff.1 h).1 (fun e => hk (by cases e; rfl))).trans h
theorem grown_put (V : World) (u k : Nat) (v : Value) : V.grownBy (V.setCell ⟨u, k, none⟩ v) (some u) := ⟨rfl, rfl, rfl, by simp [World.setCell], fun i hi hne => Below.heap_setCell _ _ _ _ (fun e => hne (by rw [e]))⟩
set_option maxRecDepth 100000 in
set_option maxHeartbeats 8000000 in
theorem pairs_seq (n : Nat) (hn : 3 ≤ n) (w : World) :
    SeqX Fence.wide n Tryz.prog 144 #[] (fun x : (Int × Int) × Int => #[pairV x.1, .int .i32 x.2]) PAIRS [] w := fun l J Jx W hW hJ hJx hY h0 => by
  refine callsIn_of_wp Tryz.func144 rfl trivial ?_ rfl
  simp only [Tryz.ntmps144, List.size_toArray, List.length_cons, List.length_nil, Nat.reduceAdd, Nat.reduceSub, Array.replicate_succ, Array.replicate_zero, List.push_toArray, List.append_toArray, List.nil_append, List.cons_append]
  generalize hT : (ByteArray.mk (List.toArray (List.append _ _))) = T0
  have hT2 : T0 = ROWS := by rw [← hT]; kernel_rfl
  clear hT
  subst hT2
  have hp0 := Lib.hid pairs_is
  have hsz : ROWS.size < 1000 := by decide +kernel
  gi_wp2
  gi_loopw [3, 5, 10, 16, 20] (fun t3 t5 t10 t16 t20 wr => ∃ (i k f : Nat) (a b : Int) (t : Bool), t3 = .bool t ∧ i ≤ ROWS.size ∧ Hid (ROWS.size ≤ i + f ∧ k ≤ PAIRS.length ∧ PAIRS.drop k = prF ROWS f i a b t) ∧ wr.heap[W.heap.size + 1]? = some (.stringIter ROWS i) ∧ wr.heap[W.heap.size]? = some (.cells #[.int .i32 a, .int .i32 b] 191 (0, 0)) ∧ J k wr) (fun _ _ _ _ _ wr => ROWS.size - wr.iterPos (W.heap.size + 1))
  case atStart =>
    refine ⟨0, 0, ROWS.size, 0, 0, true, rfl, Nat.zero_le _, Lib.hid ⟨by omega, Nat.zero_le _, hp0.out.symm⟩, ?_, ?_, ?_⟩
    · have := World.iter_heap (W.alloc (.cells #[.int .i32 0, .int .i32 0] 191)) ROWS 0
      rw [World.size_alloc] at this
      exact this
    · exact (Below.heap_alloc _ _ _ (by simp)).trans (World.alloc_heap_new W _)
    · exact hJ.alloc _ (hJ.alloc _ h0)
  case round =>
    obtain ⟨wi, hwi⟩ : ∃ W : World, W = wr := ⟨_, rfl⟩
    subst hwi
    obtain ⟨i, k, f, a, b, t, rfl, hi, hH, hI, hx, hJi⟩ := hrel
    obtain ⟨hf, hk, hd⟩ := hH.out
    clear hH
    by_cases hlt : i < ROWS.size
    · obtain ⟨f, rfl⟩ : ∃ f', f = f' + 1 := ⟨f - 1, by omega⟩
      unfold prF at hd
      rw [if_pos hlt] at hd
      have hw1 := decode_width_pos ROWS i hlt
      have hwle : i + (Utf8.decode ROWS i).2 ≤ ROWS.size := by
        have h0 := decodeN_width_le (ROWS.size - i) (ROWS.get! i).toNat (ROWS.get! (i + 1)).toNat (ROWS.get! (i + 2)).toNat (ROWS.get! (i + 3)).toNat (by omega)
        rw [← decode_at] at h0
        omega
      have hnx := run_next_any_at (P := Tryz.prog) wi _ ROWS i 0 hI hlt
      have hI1 := iterAt_heap wi (W.heap.size + 1) ROWS i (i + (Utf8.decode ROWS i).2) hI
      have hx1 : (wi.iterAt (W.heap.size + 1) ROWS (i + (Utf8.decode ROWS i).2)).heap[W.heap.size]? = some (.cells #[.int .i32 a, .int .i32 b] 191 (0, 0)) := (iterAt_other wi (W.heap.size + 1) W.heap.size _ _ (by omega)).trans hx
      have hJ1 : J k (wi.iterAt (W.heap.size + 1) ROWS (i + (Utf8.decode ROWS i).2)) := hJ _ _ _ (some (W.heap.size + 1)) hJi ⟨rfl, rfl, rfl, by rw [iterAt_size]; exact Nat.le_refl _, fun j _ hj => iterAt_other wi _ _ ROWS _ (fun e => hj (by rw [e]))⟩ (fun r e => by cases e; omega)
      have hpos : wi.iterPos (W.heap.size + 1) = i := by unfold World.iterPos; rw [hI]
      have Hpos := Lib.hid hpos
      have Hd := Lib.hid hd
      have Hw := Lib.hid (And.intro hw1 hwle)
      have Hf := Lib.hid hf
      have hkd := kind_any ((Utf8.decode ROWS i).1 : Int) (wi.iterAt (W.heap.size + 1) ROWS (i + (Utf8.decode ROWS i).2))
      clear hd hw1 hwle hpos hf
      generalize hwd : (Utf8.decode ROWS i).2 = wd at *
      generalize (Utf8.decode ROWS i).1 = r at *
      generalize hw1 : wi.iterAt (W.heap.size + 1) ROWS (i + wd) = w1 at *
      have c0 : w1.cell? ⟨W.heap.size, 0, none⟩ = some (.int .i32 a) := cell_of_row _ _ 0 _ _ (0, 0) hx1
      have c1 : w1.cell? ⟨W.heap.size, 1, none⟩ = some (.int .i32 b) := cell_of_row _ _ 1 _ _ (0, 0) hx1
      have z0 := frozen_of_row _ _ 0 _ _ hx1
      have z1 := frozen_of_row _ _ 1 _ _ hx1
      have Hkd := Lib.hid hkd
      clear hkd
      have hpz : ∀ w2 : World, w2.heap[W.heap.size + 1]? = some (.stringIter ROWS (i + wd)) → ROWS.size - w2.iterPos (W.heap.size + 1) < ROWS.size - wi.iterPos (W.heap.size + 1) := fun w2 h2 => by
        have e2 : w2.iterPos (W.heap.size + 1) = i + wd := by unfold World.iterPos; rw [h2]
        rw [e2, Hpos.out]
        have := Hw.out
        omega
      have Hpz := Lib.hid hpz
      clear hpz
      by_cases hm : kindP (r : Int) = 2
      · have Hd2 := Lib.hid (by have := Hd.out; rw [if_pos hm] at this; exact this)
        rw [hm] at Hkd
        have hs := put2 hx1 1 (by omega) (.int .i32 (r : Int))
        have hs' : (w1.setCell ⟨W.heap.size, 1, none⟩ (.int .i32 (r : Int))).heap[W.heap.size]? = some (.cells #[.int .i32 a, .int .i32 r] 191 (0, 0)) := hs
        have hg := grown_put w1 W.heap.size 1 (.int .i32 (r : Int))
        have hJ2 := hJ _ _ _ _ hJ1 hg (fun k e => by cases e; exact Nat.le_refl _)
        have hI2 := keptG hI1 hg (by omega)
        have HX := Lib.hid (And.intro hs' (And.intro hJ2 hI2))
        clear hs hs' hg hJ2 hI2
        gi_wp2
        refine ⟨trivial, fun _ => by omega, CallsIn.mono (callsIn_wide.2 Hkd.out) ?_⟩
        rintro e w' ⟨rfl, rfl⟩
        gi_wp2
        refine ⟨⟨i + wd, k, f, a, r, true, rfl, Hw.out.2, Lib.hid ⟨by have := Hf.out; have := Hw.out; omega, hk, Hd2.out⟩, HX.out.2.2, HX.out.1, HX.out.2.1⟩, Hpz.out _ HX.out.2.2⟩
      · have hm2 : (kindP (r : Int) == 2) = false := by simpa using hm
        have Hd2 := Lib.hid (by have := Hd.out; rw [if_neg hm] at this; exact this)
        cases t with
        | true =>
          have Hd3 := Lib.hid (by have := Hd2.out; rw [if_pos rfl] at this; exact this)
          have hs' : (w1.setCell ⟨W.heap.size, 0, none⟩ (.int .i32 (r : Int))).heap[W.heap.size]? = some (.cells #[.int .i32 r, .int .i32 b] 191 (0, 0)) := put2 hx1 0 (by omega) (.int .i32 (r : Int))
          have hg := grown_put w1 W.heap.size 0 (.int .i32 (r : Int))
          have hJ2 := hJ _ _ _ _ hJ1 hg (fun k e => by cases e; exact Nat.le_refl _)
          have hI2 := keptG hI1 hg (by omega)
          have HX := Lib.hid (And.intro hs' (And.intro hJ2 hI2))
          clear hs' hg hJ2 hI2
          gi_wp2
          refine ⟨trivial, fun _ => by omega, CallsIn.mono (callsIn_wide.2 Hkd.out) ?_⟩
          rintro e w' ⟨rfl, rfl⟩
          gi_wp2
          refine ⟨⟨i + wd, k, f, r, b, false, rfl, Hw.out.2, Lib.hid ⟨by have := Hf.out; have := Hw.out; omega, hk, Hd3.out⟩, HX.out.2.2, HX.out.1, HX.out.2.1⟩, Hpz.out _ HX.out.2.2⟩
        | false =>
          have hd4 : PAIRS.drop k = ((a, b), (r : Int)) :: prF ROWS f (i + wd) a b true := by have := Hd2.out; rw [if_neg (by decide)] at this; exact this
          obtain ⟨hxk, hd5, hk5⟩ := drop_get hd4
          have Hd5 := Lib.hid hd5
          have Hk5 := Lib.hid hk5
          clear hd4 hd5
          gi_wp2
          refine ⟨trivial, fun _ => by omega, CallsIn.mono (callsIn_wide.2 Hkd.out) ?_⟩
          rintro e w' ⟨rfl, rfl⟩
          obtain ⟨fn, tmps, assign, body, hy, hR⟩ := hY k _ w1 hxk hJ1
          unfold pairV at hy
          have HR := Lib.hid hR
          clear hR
          gi_wp2
          refine And.intro (fun _ => (by omega)) (RoundIn.mono (F := Fence.wide) (roundAny rfl _ HR.out) ?_)
          rintro e W4 ⟨hk4, hs4, (⟨rfl, hJ4⟩ | ⟨rfl, hJ4⟩)⟩
          · have hx4 := hk4.2 _ _ (Nat.le_refl _) hx1
            have hI4 := hk4.2 _ _ (Nat.le_succ _) hI1
            gi_wp2
            refine ⟨⟨i + wd, k + 1, f, a, b, true, rfl, Hw.out.2, Lib.hid ⟨by have := Hf.out; have := Hw.out; omega, by have := Hk5.out; omega, Hd5.out⟩, hI4, hx4, hJ4⟩, Hpz.out _ hI4⟩
          · gi_wp2
            refine bodyPost_ret (results_none rfl _ _ _) rfl ?_
            exact ⟨⟨_, rfl⟩, .inr ⟨k, Hk5.out, hJ4⟩⟩
    · obtain rfl : i = ROWS.size := by omega
      have hnx : (Instr.next (.pointer (some ⟨W.heap.size + 1, 0, none⟩)) true 0).run Tryz.prog wi = .ok (.tuple #[.bool false]) wi := run_next_end_at wi _ ROWS ROWS.size 0 hI (by omega)
      have hkl : k = PAIRS.length := by
        have he : PAIRS.drop k = [] := by
          rw [hd]
          cases f with
          | zero => rfl
          | succ f => unfold prF; rw [if_neg (by omega)]
        have := List.drop_eq_nil_iff.1 he
        omega
      subst hkl
      clear hd
      gi_wp2
      go_end0
      exact ⟨⟨_, rfl⟩, .inl hJi⟩
end Go.Proofs.YtgcdopafblcbhaaGreatDoor

import Derived.Test.YtgcdopafblcbhaaGreatDoorProg
import Derived.Lib.MapLaws
import Derived.Lib.QuoteLoop
import Derived.Lib.RuneCountTail
import Derived.Lib.RuneCount
import Derived.WalkKit
import Derived.ProofKit
import Derived.Lib.Hide
import Derived.Lib.OthersKept
import Derived.Laws.Rows
import Derived.Laws.RangeString
import Derived.RangeFuncRecord
/- A text's pieces. -/
namespace Go.Proofs.YtgcdopafblcbhaaGreatDoor
set_option linter.unusedVariables false
set_option linter.unusedSimpArgs false
open Go.RowKit Go.Lib
/-- a piece of a text: where, how many bytes, its rune, whether it is a broken byte -/
structure Pc where
  at_ : Nat
  w : Nat
  r : Int
  br : Bool
def pcAt (s : ByteArray) (i : Nat) : Pc := ⟨i, (Utf8.decode s i).2, (Utf8.decode s i).1, (Utf8.decode s i).1 == 65533 && (Utf8.decode s i).2 == 1⟩
def pcsF (s : ByteArray) : Nat → Nat → List Pc
  | 0, _ => []
  | n + 1, i => if i < s.size then pcAt s i :: pcsF s n (i + (Utf8.decode s i).2) else []
def pcs (s : ByteArray) : List Pc := pcsF s s.size 0
def pcV (p : Pc) : Value := .agg #[.int .i64 p.at_, .int .i64 p.w, .int .i32 p.r, .bool p.br]
theorem okR {r : Nat} (h : r < 55296 ∨ (57343 < r ∧ r ≤ 1114111)) : Utf8.valid (r : Int) = true := by
  unfold Utf8.valid
  simp
  omega
theorem enc_size {r : Nat} (h : r < 55296 ∨ (57343 < r ∧ r ≤ 1114111)) : (Utf8.encode (r : Int)).size = if r < 128 then 1 else if r < 2048 then 2 else if r < 65536 then 3 else 4 := by
  unfold Utf8.encode
  rw [if_pos (okR h)]
  simp only [Int.toNat_natCast]
  split
  · rfl
  · split
    · rfl
    · split <;> rfl
theorem dec_valid (s : ByteArray) (i : Nat) : (Utf8.decode s i).1 < 55296 ∨ (57343 < (Utf8.decode s i).1 ∧ (Utf8.decode s i).1 ≤ 1114111) := by
  rw [decode_at]
  exact decodeN_valid _ _ _ _ _ (UInt8.toNat_lt _)
theorem dec_size (s : ByteArray) (i : Nat) (h : (Utf8.decode s i).1 ≠ 65533) : (Utf8.encode ((Utf8.decode s i).1 : Int)).size = (Utf8.decode s i).2 := by
  rw [enc_size (dec_valid s i)]
  rw [decode_at] at h ⊢
  have k0 := (s.get! i).toNat_lt
  have k1 := (s.get! (i + 1)).toNat_lt
  have k2 := (s.get! (i + 2)).toNat_lt
  have k3 := (s.get! (i + 3)).toNat_lt
  rcases decodeN_shape (s.size - i) (s.get! i).toNat (s.get! (i + 1)).toNat (s.get! (i + 2)).toNat (s.get! (i + 3)).toNat with ⟨c, e⟩ | ⟨c1, c2, c3, cv, e⟩ | ⟨c1, c2, c3, c4, cv, cs, e⟩ | ⟨c1, c2, c3, c4, c5, cv, cw, e⟩ | e
  all_goals (rw [e] at h ⊢; dsimp only at h ⊢)
  all_goals (try (exact absurd rfl h))
  all_goals (repeat' split)
  all_goals omega
def LOST : ByteArray := ⟨#[239, 191, 189]⟩
theorem enc_lost : Utf8.encode 65533 = LOST := by decide +kernel
theorem enc_not {r : Nat} (h : r < 55296 ∨ (57343 < r ∧ r ≤ 1114111)) (hr : r ≠ 65533) : Utf8.encode (r : Int) ≠ LOST := by
  intro e
  have hs := enc_size h
  rw [e] at hs
  have h3 : ¬ r < 128 ∧ ¬ r < 2048 ∧ r < 65536 := by
    have : LOST.size = 3 := rfl
    rw [this] at hs
    by_cases a : r < 128
    · rw [if_pos a] at hs; omega
    · by_cases b : r < 2048
      · rw [if_neg a, if_pos b] at hs; omega
      · by_cases c : r < 65536
        · exact ⟨a, b, c⟩
        · rw [if_neg a, if_neg b, if_neg c] at hs; omega
  unfold Utf8.encode at e
  rw [if_pos (okR h)] at e
  simp only [Int.toNat_natCast, if_neg h3.1, if_neg h3.2.1, if_pos h3.2.2] at e
  have e2 : #[UInt8.ofNat (224 + r / 4096), UInt8.ofNat (128 + r / 64 % 64), UInt8.ofNat (128 + r % 64)] = #[(239 : UInt8), 191, 189] := congrArg ByteArray.data e
  simp only [Array.mk.injEq, List.cons.injEq, and_true] at e2
  obtain ⟨x, y, z⟩ := e2
  have x' := congrArg UInt8.toNat x
  have y' := congrArg UInt8.toNat y
  have z' := congrArg UInt8.toNat z
  simp only [UInt8.toNat_ofNat'] at x' y' z'
  have a1 : (239 : UInt8).toNat = 239 := rfl
  have a2 : (191 : UInt8).toNat = 191 := rfl
  have a3 : (189 : UInt8).toNat = 189 := rfl
  omega
theorem get_data (s : ByteArray) (i : Nat) (h : i < s.size) : s.get! i = s.data[i]'h := by
  show s.data[i]! = _
  rw [getElem!_pos s.data i h]
theorem cut3 (s : ByteArray) (i : Nat) (h : 3 ≤ s.size - i) : s.extract i (i + 3) = ⟨#[s.get! i, s.get! (i + 1), s.get! (i + 2)]⟩ := by
  have hz : s.size = s.data.size := rfl
  apply ByteArray.ext
  rw [ByteArray.data_extract]
  apply Array.ext
  · simp; omega
  · intro k h1 h2
    have hk : k < 3 := by simpa using h2
    rw [Array.getElem_extract]
    rcases k with _ | _ | _ | k
    · exact (get_data s i (by omega)).symm
    · exact (get_data s (i + 1) (by omega)).symm
    · exact (get_data s (i + 2) (by omega)).symm
    · omega
/-- a lost rune: a broken byte, or its own three bytes -/
theorem lost_cases (s : ByteArray) (i : Nat) (h : (Utf8.decode s i).1 = 65533) : ((Utf8.decode s i).2 = 1 ∧ (s.size - i < 3 ∨ s.extract i (i + 3) ≠ LOST)) ∨ ((Utf8.decode s i).2 = 3 ∧ 3 ≤ s.size - i ∧ s.extract i (i + 3) = LOST) := by
  have k0 := (s.get! i).toNat_lt
  have k1 := (s.get! (i + 1)).toNat_lt
  have k2 := (s.get! (i + 2)).toNat_lt
  have k3 := (s.get! (i + 3)).toNat_lt
  rw [decode_at] at h ⊢
  rcases decodeN_shape (s.size - i) (s.get! i).toNat (s.get! (i + 1)).toNat (s.get! (i + 2)).toNat (s.get! (i + 3)).toNat with ⟨c, e⟩ | ⟨c1, c2, c3, cv, e⟩ | ⟨c1, c2, c3, c4, cv, cs, e⟩ | ⟨c1, c2, c3, c4, c5, cv, cw, e⟩ | e
  · rw [e] at h; dsimp only at h; omega
  · rw [e] at h; dsimp only at h; omega
  · rw [e] at h ⊢
    dsimp only at h ⊢
    refine .inr ⟨rfl, by omega, ?_⟩
    rw [cut3 s i (by omega)]
    have e0 : s.get! i = 239 := UInt8.toNat.inj (by show _ = 239; omega)
    have e1 : s.get! (i + 1) = 191 := UInt8.toNat.inj (by show _ = 191; omega)
    have e2 : s.get! (i + 2) = 189 := UInt8.toNat.inj (by show _ = 189; omega)
    rw [e0, e1, e2]
    rfl
  · rw [e] at h; dsimp only at h; omega
  · rw [e]
    refine .inl ⟨rfl, ?_⟩
    by_cases hs : s.size - i < 3
    · exact .inl hs
    · refine .inr fun hx => ?_
      rw [cut3 s i (by omega)] at hx
      have e2 : #[s.get! i, s.get! (i + 1), s.get! (i + 2)] = #[(239 : UInt8), 191, 189] := congrArg ByteArray.data hx
      simp only [Array.mk.injEq, List.cons.injEq, and_true] at e2
      obtain ⟨x, y, z⟩ := e2
      rw [x, y, z] at e
      have hd : decodeN (s.size - i) (239 : UInt8).toNat (191 : UInt8).toNat (189 : UInt8).toNat (s.get! (i + 3)).toNat = (65533, 3) := by
        have a1 : (239 : UInt8).toNat = 239 := rfl
        have a2 : (191 : UInt8).toNat = 191 := rfl
        have a3 : (189 : UInt8).toNat = 189 := rfl
        rw [a1, a2, a3]
        have h1 : 1 < s.size - i := by omega
        have h2 : 2 < s.size - i := by omega
        unfold decodeN
        simp [h1, h2]
      rw [hd] at e
      cases e
theorem not_lost {E : ByteArray} (h : E ≠ LOST) : (E.toList == [239, 191, 189]) = false := by
  rw [beq_eq_false_iff_ne]
  intro e
  rw [ByteArray.toList_eq] at e
  exact h (ByteArray.ext (Array.ext' e))
theorem width_lost (w : World) : Calls Tryz.prog 143 #[.int .i32 65533] w fun e w' => e = .returned (.int .i64 3) ∧ w = w' := by
  have hs : (Utf8.encode 65533).size = 3 := by rw [enc_lost]; rfl
  go_enter Tryz.func143, Tryz.ntmps143
  go_wp2_with fail
  go_ret
  exact ⟨rfl, rfl⟩
theorem width_any (r : Nat) (hr : r < 55296 ∨ (57343 < r ∧ r ≤ 1114111)) (w : World) : Calls Tryz.prog 143 #[.int .i32 r] w fun e w' => e = .returned (.int .i64 (Utf8.encode (r : Int)).size) ∧ w = w' := by
  by_cases hl : r = 65533
  · have hc : (r : Int) = 65533 := by omega
    rw [hc]
    refine (width_lost w).mono ?_
    rintro e w' ⟨rfl, rfl⟩
    exact ⟨by rw [enc_lost]; rfl, rfl⟩
  · have hne : ((r : Int) != 65533) = true := by simp; omega
    have hq := not_lost (enc_not hr hl)
    generalize (r : Int) = z at *
    go_enter Tryz.func143, Tryz.ntmps143
    go_wp2_with fail
    go_ret
    exact ⟨rfl, rfl⟩
theorem put4 {V : World} {u : Nat} {a0 a1 a2 a3 : Value} {t : TypeId} (h : V.heap[u]? = some (.cells #[a0, a1, a2, a3] t (0, 0))) (v0 v1 v2 v3 : Value) :
    ((((V.setCell ⟨u, 0, none⟩ v0).setCell ⟨u, 1, none⟩ v1).setCell ⟨u, 2, none⟩ v2).setCell ⟨u, 3, none⟩ v3).heap[u]? = some (.cells #[v0, v1, v2, v3] t (0, 0)) :=
  heap_setCell_same _ _ 3 _ _ v3 (heap_setCell_same _ _ 2 _ _ v2 (heap_setCell_same _ _ 1 _ _ v1 (heap_setCell_same _ _ 0 _ _ v0 h)))
theorem low4 {B : Nat} {w V : World} (h : Below B w V) {u : Nat} (hu : B ≤ u) (v0 v1 v2 v3 : Value) : Below B w ((((V.setCell ⟨u, 0, none⟩ v0).setCell ⟨u, 1, none⟩ v1).setCell ⟨u, 2, none⟩ v2).setCell ⟨u, 3, none⟩ v3) :=
  (((h.setCell hu _).setCell hu _).setCell hu _).setCell hu _
set_option maxRecDepth 100000 in
theorem read_any (s : ByteArray) (i : Nat) (hi : i < s.size) (hs : s.size < 1000000) (w : World) : Calls Tryz.prog 100 #[.string s, .int .i64 i] w fun e w' => e = .returned (pcV (pcAt s i)) ∧ Below w.heap.size w w' := by
  have hz := Lib.hid (lost_cases s i)
  have hdv := dec_valid s i
  have hds := Lib.hid (dec_size s i)
  have htd : Utf8.decode (s.extract i s.size) 0 = Utf8.decode s i := tail_decode s i 0
  have hlt : 0 < (s.extract i s.size).size := by rw [ByteArray.size_extract]; omega
  have hb : Below w.heap.size w ((w.alloc (.cells #[.int .i64 0, .int .i64 0, .int .i32 0, .bool false] 137)).iter (s.extract i s.size) (Utf8.decode s i).2) := ((Below.refl _ w).alloc (Nat.le_refl _) _).alloc (by simp) _
  have hx : (((w.alloc (.cells #[.int .i64 0, .int .i64 0, .int .i32 0, .bool false] 137)).iter (s.extract i s.size) (Utf8.decode s i).2)).heap[w.heap.size]? = some (.cells #[.int .i64 0, .int .i64 0, .int .i32 0, .bool false] 137 (0, 0)) := (Below.heap_alloc _ _ _ (by simp)).trans (World.alloc_heap_new w _)
  have hnx : (Instr.next (.pointer (some ⟨w.heap.size + 1, 0, none⟩)) true 0).run Tryz.prog ((w.alloc (.cells #[.int .i64 0, .int .i64 0, .int .i32 0, .bool false] 137)).iter (s.extract i s.size) 0) = .ok (.tuple #[.bool true, .int .i64 0, .int .i32 (Utf8.decode s i).1]) ((w.alloc (.cells #[.int .i64 0, .int .i64 0, .int .i32 0, .bool false] 137)).iter (s.extract i s.size) (Utf8.decode s i).2) := by
    have h := run_next_any_at (P := Tryz.prog) ((w.alloc (.cells #[.int .i64 0, .int .i64 0, .int .i32 0, .bool false] 137)).iter (s.extract i s.size) 0) (w.heap.size + 1) (s.extract i s.size) 0 0 (by have := World.iter_heap (w.alloc (.cells #[.int .i64 0, .int .i64 0, .int .i32 0, .bool false] 137)) (s.extract i s.size) 0; rw [World.size_alloc] at this; exact this) hlt
    rw [htd] at h
    have e := World.iter_set (w.alloc (.cells #[.int .i64 0, .int .i64 0, .int .i32 0, .bool false] 137)) (s.extract i s.size) 0 (0 + (Utf8.decode s i).2)
    rw [World.size_alloc] at e
    unfold World.iterAt at h
    rw [e, Nat.zero_add] at h
    exact h
  unfold pcAt pcV
  have hw := Lib.hid (width_any (Utf8.decode s i).1 hdv)
  generalize (Utf8.decode s i).2 = n at *
  generalize (Utf8.decode s i).1 = r at *
  obtain ⟨bb, hbb⟩ : ∃ bb, bb = (r == 65533 && n == 1) := ⟨_, rfl⟩
  rw [← hbb]
  have Hbb := Lib.hid hbb
  clear hbb
  have d0 := cell_of_row _ _ 0 _ _ (0, 0) hx
  have d1 := cell_of_row _ _ 1 _ _ (0, 0) hx
  have d2 := cell_of_row _ _ 2 _ _ (0, 0) hx
  have d3 := cell_of_row _ _ 3 _ _ (0, 0) hx
  simp only [List.getElem?_toArray, List.getElem?_cons_zero, List.getElem?_cons_succ] at d0 d1 d2 d3
  have z0 := frozen_of_row _ w.heap.size 0 _ _ hx
  have z1 := frozen_of_row _ w.heap.size 1 _ _ hx
  have z2 := frozen_of_row _ w.heap.size 2 _ _ hx
  have z3 := frozen_of_row _ w.heap.size 3 _ _ hx
  have Hx := Lib.hid hx
  have Hb := Lib.hid hb
  clear hx hb htd hlt
  go_enter Tryz.func100, Tryz.ntmps100
  go_wp2_with fail
  generalize hW1 : World.iter _ _ 0 = W1 at *
  generalize hW2 : World.iter _ _ n = W2 at *
  clear hW1 hW2
  go_loopw [] (fun wr => wr = W1) (fun _ => 0)
  case atStart => rfl
  case round =>
    subst hrel
    by_cases hl : r = 65533
    · subst hl
      have hwl := Lib.hid (width_lost W2)
      rcases hz.out rfl with ⟨rfl, hc⟩ | ⟨rfl, hc1, hc2⟩
      · by_cases h3 : s.size - i < 3
        · have g1 : decide ((s.size : Int) - i < 3) = true := decide_eq_true (by omega)
          go_wp2_with fail
          refine hwl.out.mono ?_
          rintro e w' ⟨rfl, rfl⟩
          go_wp2_with fail
          refine bodyPost_ret (results_cell_row rfl _ _ w.heap.size 137 #[.int .i64 i, .int .i64 1, .int .i32 65533, .bool true] (0, 0) _ rfl (put4 Hx.out _ _ _ _) Tryz.underlying137 (by rfl) (by kernel_rfl)) rfl ?_
          exact ⟨by rw [Hbb.out]; rfl, low4 Hb.out (Nat.le_refl _) _ _ _ _⟩
        · have hc := hc.resolve_left h3
          have g1 : decide ((s.size : Int) - i < 3) = false := decide_eq_false (by omega)
          have g2 := (not_lost hc)
          have g3 : ((s.extract i (i + 3)).toList != [239, 191, 189]) = true := by rw [bne, g2]; rfl
          have g4 : (i : Int) + 3 ≤ s.size := by omega
          have g6 : (i : Int) ≤ (i : Int) + 3 := by omega
          have g7 : (0 : Int) ≤ (i : Int) := by omega
          have g8 : ((i : Int) + 3).toNat = i + 3 := by omega
          go_wp2_with fail
          refine hwl.out.mono ?_
          rintro e w' ⟨rfl, rfl⟩
          go_wp2_with fail
          refine bodyPost_ret (results_cell_row rfl _ _ w.heap.size 137 #[.int .i64 i, .int .i64 1, .int .i32 65533, .bool true] (0, 0) _ rfl (put4 Hx.out _ _ _ _) Tryz.underlying137 (by rfl) (by kernel_rfl)) rfl ?_
          exact ⟨by rw [Hbb.out]; rfl, low4 Hb.out (Nat.le_refl _) _ _ _ _⟩
      · have g1 : decide ((s.size : Int) - i < 3) = false := decide_eq_false (by omega)
        have g2 : ((s.extract i (i + 3)).toList == [239, 191, 189]) = true := by rw [hc2, ByteArray.toList_eq]; rfl
        have g3 : ((s.extract i (i + 3)).toList != [239, 191, 189]) = false := by rw [bne, g2]; rfl
        clear hc2
        have g4 : (i : Int) + 3 ≤ s.size := by omega
        have g6 : (i : Int) ≤ (i : Int) + 3 := by omega
        have g7 : (0 : Int) ≤ (i : Int) := by omega
        have g8 : ((i : Int) + 3).toNat = i + 3 := by omega
        go_wp2_with fail
        refine hwl.out.mono ?_
        rintro e w' ⟨rfl, rfl⟩
        go_wp2_with fail
        refine bodyPost_ret (results_cell_row rfl _ _ w.heap.size 137 #[.int .i64 i, .int .i64 3, .int .i32 65533, .bool false] (0, 0) _ rfl (put4 Hx.out _ _ _ _) Tryz.underlying137 (by rfl) (by kernel_rfl)) rfl ?_
        exact ⟨by rw [Hbb.out]; rfl, low4 Hb.out (Nat.le_refl _) _ _ _ _⟩
    · have g0 : ((r : Int) == 65533) = false := by simp; omega
      have g5 : (r == 65533) = false := by simp; omega
      have hd := hds.out hl
      rw [hd] at hw
      go_wp2_with fail
      refine (hw.out _).mono ?_
      rintro e w' ⟨rfl, rfl⟩
      go_wp2_with fail
      refine bodyPost_ret (results_cell_row rfl _ _ w.heap.size 137 #[.int .i64 i, .int .i64 n, .int .i32 r, .bool false] (0, 0) _ rfl (put4 Hx.out _ _ _ _) Tryz.underlying137 (by rfl) (by kernel_rfl)) rfl ?_
      exact ⟨by rw [Hbb.out, g5]; rfl, low4 Hb.out (Nat.le_refl _) _ _ _ _⟩
end Go.Proofs.YtgcdopafblcbhaaGreatDoor

import Derived.Test.YtgcdopafblcbhaaGreatDoorVF
import Derived.Test.YtgcdopafblcbhaaGreatDoorNG
import Derived.Laws.RangeString
/- What a unit is in a folded form: some text. -/
namespace Go.Proofs.YtgcdopafblcbhaaGreatDoor
set_option linter.unusedVariables false
set_option linter.unusedSimpArgs false
open Go.RowKit Go.Lib Go.Shelf

theorem encode_le (r : Int) : (Utf8.encode r).size ≤ 4 := by
  have h : ∀ (x y : Prop) [Decidable x] [Decidable y] (z : Prop) [Decidable z] (a b c d e f g h i j : UInt8), (if x then (⟨#[a]⟩ : ByteArray) else if y then ⟨#[b, c]⟩ else if z then ⟨#[d, e, f]⟩ else ⟨#[g, h, i, j]⟩).size ≤ 4 := by
    intro x y _ _ z _ a b c d e f g h i j
    split
    · show (1 : Nat) ≤ 4; omega
    · split
      · show (2 : Nat) ≤ 4; omega
      · split
        · show (3 : Nat) ≤ 4; omega
        · show (4 : Nat) ≤ 4; omega
  exact h _ _ _ _ _ _ _ _ _ _ _ _ _
/-- the rest of a text decodes -/
def goodF (s : ByteArray) : Nat → Nat → Bool
  | 0, _ => true
  | f + 1, i => if i < s.size then (Utf8.decode s i).1 != 65533 && goodF s f (i + (Utf8.decode s i).2) else true
set_option maxRecDepth 100000 in
set_option maxHeartbeats 16000000 in
theorem plain_any (at_ br base : Int) (A B : Option Addr) (n m c d : Nat) (w : World) : Calls Tryz.prog 98 #[.agg #[.int .i64 at_, .int .u8 br, .int .i32 base, .slice A n c, .slice B m d]] w fun e w' => (∃ t : ByteArray, e = .returned (.string t) ∧ t.size ≤ 1000) ∧ Below w.heap.size w w' := by
  obtain ⟨W1, hW1⟩ : ∃ W1, w.alloc (.cells #[.int .i64 at_, .int .u8 br, .int .i32 base, .slice A n c, .slice B m d] 187) = W1 := ⟨_, rfl⟩
  have hb1 : Below w.heap.size w W1 := by rw [← hW1]; exact (Below.refl _ _).alloc (Nat.le_refl _) _
  have hx1 : W1.heap[w.heap.size]? = some (.cells #[.int .i64 at_, .int .u8 br, .int .i32 base, .slice A n c, .slice B m d] 187 (0, 0)) := by rw [← hW1]; exact World.alloc_heap_new w _
  have u0 := cell_of_row _ _ 0 _ _ (0, 0) hx1
  have u1 := cell_of_row _ _ 1 _ _ (0, 0) hx1
  have u2 := cell_of_row _ _ 2 _ _ (0, 0) hx1
  have u3 := cell_of_row _ _ 3 _ _ (0, 0) hx1
  have u4 := cell_of_row _ _ 4 _ _ (0, 0) hx1
  have Hl := Lib.hid (letter_unit at_ br base A B n m c d W1)
  have HW1 := Lib.hid hW1
  have Hx1 := Lib.hid hx1
  have Hb1 := Lib.hid hb1
  clear hW1 hx1 hb1
  go_enter Tryz.func98, Tryz.ntmps98
  generalize hT : (ByteArray.mk (List.toArray (List.append _ _))) = T0
  have hTs : T0.size ≤ 200 := by rw [← hT]; decide +kernel
  have hgd : goodF T0 T0.size 0 = true := by rw [← hT]; decide +kernel
  have Hgd := Lib.hid hgd
  clear hT hgd
  go_upto_region 1 with (fail)
  rw [HW1.out]
  go_wp2_with fail
  refine Hl.out.mono ?_
  rintro e w2 ⟨rfl, hb2⟩
  have hx2 := keptB Hx1.out hb2
  have Hb2 := Lib.hid (Hb1.out.trans (hb2.mono Hb1.out.size))
  clear u0 u1 u2 u3 u4
  have u2 := cell_of_row _ _ 2 _ _ (0, 0) hx2
  cases hlr : letB base with
  | false =>
    go_wp2_with fail
    go_ret
    exact ⟨⟨_, rfl, by have := encode_le base; omega⟩, Hb2.out⟩
  | true =>
    have Hlo := Lib.hid (lower_any base w2)
    go_wp2_with fail
    refine Hlo.out.mono ?_
    rintro e w3 ⟨rfl, rfl⟩
    generalize lowerP base = sm at *
    have hi0 : (w2.iter T0 0).heap[w2.heap.size]? = some (.stringIter T0 0) := World.iter_heap w2 T0 0
    have hbi : Below w.heap.size w (w2.iter T0 0) := Hb2.out.alloc Hb2.out.size _
    have Hi0 := Lib.hid hi0
    have Hbi := Lib.hid hbi
    clear hi0 hbi
    go_wp2_with fail
    go_loopw [4, 5, 6, 7, 22, 32, 35] (fun t4 t5 t6 t7 t22 t32 t35 wr => ∃ (i f : Nat) (fr : Int) (hd : Bool), t4 = .int .i64 fr ∧ t5 = .bool hd ∧ i ≤ T0.size ∧ (fr = -1 ∨ (0 ≤ fr ∧ fr ≤ i)) ∧ Hid (T0.size ≤ i + f ∧ goodF T0 f i = true) ∧ wr.heap[w2.heap.size]? = some (.stringIter T0 i) ∧ Hid (Below w.heap.size w wr)) (fun _ _ _ _ _ _ _ wr => T0.size - wr.iterPos w2.heap.size)
    case atStart => exact ⟨0, T0.size, -1, true, rfl, rfl, Nat.zero_le _, .inl rfl, Lib.hid ⟨by omega, Hgd.out⟩, Hi0.out, Hbi⟩
    case round =>
      obtain ⟨wi, hwi⟩ : ∃ W : World, W = wr := ⟨_, rfl⟩
      subst hwi
      obtain ⟨i, f, fr, hd, rfl, rfl, hi, hfr, hG, hI, hB⟩ := hrel
      by_cases hlt : i < T0.size
      · obtain ⟨f, rfl⟩ : ∃ f', f = f' + 1 := ⟨f - 1, by have := hG.out.1; omega⟩
        obtain ⟨hf, hg⟩ := hG.out
        unfold goodF at hg
        rw [if_pos hlt, Bool.and_eq_true] at hg
        have hne : (Utf8.decode T0 i).1 ≠ 65533 := by simpa using hg.1
        have henc := dec_size T0 i hne
        have hw1 := decode_width_pos T0 i hlt
        have hwle : i + (Utf8.decode T0 i).2 ≤ T0.size := by
          have h0 := decodeN_width_le (T0.size - i) (T0.get! i).toNat (T0.get! (i + 1)).toNat (T0.get! (i + 2)).toNat (T0.get! (i + 3)).toNat (by omega)
          rw [← decode_at] at h0
          omega
        have hnx := run_next_any_at (P := Tryz.prog) wi _ T0 i 0 hI hlt
        have hI1 := iterAt_heap wi w2.heap.size T0 i (i + (Utf8.decode T0 i).2) hI
        have hsz := Hb2.out.size
        have hB1 : Below w.heap.size w (wi.iterAt w2.heap.size T0 (i + (Utf8.decode T0 i).2)) := hB.out.grown (row := some w2.heap.size) ⟨rfl, rfl, rfl, by rw [iterAt_size]; exact Nat.le_refl _, fun j _ hj => iterAt_other wi _ _ T0 _ (fun e => hj (by rw [e]))⟩ hB.out.size (fun k e => by cases e; exact hsz)
        have hpos : wi.iterPos w2.heap.size = i := by unfold World.iterPos; rw [hI]
        have hG1 := hg.2
        generalize hwd : (Utf8.decode T0 i).2 = wd at *
        generalize (Utf8.decode T0 i).1 = r at *
        generalize hw1 : wi.iterAt w2.heap.size T0 (i + wd) = w1 at *
        have hm : T0.size - w1.iterPos w2.heap.size < T0.size - wi.iterPos w2.heap.size := by
          have e2 : w1.iterPos w2.heap.size = i + wd := by unfold World.iterPos; rw [hI1]
          rw [e2, hpos]
          omega
        have Hm := Lib.hid hm
        have HB1 := Lib.hid hB1
        have HG1 : Hid (T0.size ≤ i + wd + f ∧ goodF T0 f (i + wd) = true) := Lib.hid ⟨by omega, hG1⟩
        have Henc := Lib.hid henc
        clear hm hB1 hG1 hg hne henc hpos hG hf
        by_cases hsp : (r : Int) = 32
        · have q1 : ((r : Int) == 32) = true := by simpa using hsp
          by_cases h0 : 0 ≤ fr
          · obtain ⟨k, rfl⟩ : ∃ k : Nat, fr = (k : Int) := ⟨fr.toNat, by omega⟩
            have hki : k ≤ i := by omega
            have d0 : decide ((k : Int) ≥ 0) = true := decide_eq_true h0
            have j1 : (k : Int) ≤ (i : Int) := by omega
            have j2 : (i : Int) ≤ (T0.size : Int) := by omega
            clear hsp hfr
            go_wp2_with fail
            go_ret
            exact ⟨⟨_, rfl, by simp; omega⟩, HB1.out⟩
          · have d0 : decide (fr ≥ 0) = false := decide_eq_false h0
            clear hsp
            go_wp2_with fail
            go_roundw
            case rel => exact ⟨i + wd, f, fr, true, rfl, rfl, hwle, .inl (by omega), HG1, hI1, HB1⟩
            case measure => exact Hm.out
        · have q1 : ((r : Int) == 32) = false := by simpa using hsp
          clear hsp
          cases hd with
          | false =>
            go_wp2_with fail
            go_roundw
            case rel => exact ⟨i + wd, f, fr, false, rfl, rfl, hwle, by omega, HG1, hI1, HB1⟩
            case measure => exact Hm.out
          | true =>
            by_cases hrs : (r : Int) = sm
            · have q2 : ((r : Int) == sm) = true := by simpa using hrs
              have hew : IntKind.i64.wrap ((i : Int) + ((Utf8.encode (r : Int)).size : Int)) = ((i + wd : Nat) : Int) := by rw [Henc.out]; exact IntWalk.i64_in _ (by omega)
              clear hrs
              go_wp2_with fail
              go_roundw
              case rel => exact ⟨i + wd, f, _, false, rfl, rfl, hwle, .inr ⟨by omega, by omega⟩, HG1, hI1, HB1⟩
              case measure => exact Hm.out
            · have q2 : ((r : Int) == sm) = false := by simpa using hrs
              clear hrs
              go_wp2_with fail
              go_roundw
              case rel => exact ⟨i + wd, f, fr, false, rfl, rfl, hwle, by omega, HG1, hI1, HB1⟩
              case measure => exact Hm.out
      · obtain rfl : i = T0.size := by omega
        have hnx : (Instr.next (.pointer (some ⟨w2.heap.size, 0, none⟩)) true 0).run Tryz.prog wi = .ok (.tuple #[.bool false]) wi := run_next_end_at wi _ T0 T0.size 0 hI (by omega)
        go_wp2_with fail
        go_ret
        exact ⟨⟨_, rfl, by have := encode_le sm; omega⟩, hB.out⟩
end Go.Proofs.YtgcdopafblcbhaaGreatDoor

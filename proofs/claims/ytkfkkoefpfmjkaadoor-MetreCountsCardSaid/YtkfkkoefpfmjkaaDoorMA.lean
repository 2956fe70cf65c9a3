import Derived.Test.YtkfkkoefpfmjkaaDoorRows
import Derived.Test.YtkfkkoefpfmjkaaDoorPA
import Derived.WalkKit
import Derived.WalkLawsBesides
import Derived.WalkSpells
import Derived.ProofKit
import Derived.Deep.QuietTactic
import Derived.BigQuiet
import Derived.Outline
import Derived.Handy
import Derived.Lib.Hide
import Derived.Test.YtkfkkoefpfmjkaaDoorSh
import Derived.Deep.RegionHeld3
import Derived.RegionTactic
import Derived.ChangeAlike
import Derived.Deep.Draws
namespace Go.Proofs.YtkfkkoefpfmjkaaDoor
set_option linter.unusedVariables false
set_option linter.unusedSimpArgs false
open Go.RowKit

/- Signs, figures, marks. -/
theorem ret_bool {a b : Bool} (h : a = b) : Ending.returned (.bool a) = .returned (.bool b) := by rw [h]

set_option maxHeartbeats 1000000 in
theorem signs_any (s : ByteArray) (m : Int) (w : World) (hs : s.size ≤ 9223372036854775807) :
    Calls Tryd.prog 93 #[.string s, .int .i64 m] w fun e w' => e = .returned (.bool (signsB s 1 m)) ∧ w = w' := by
  go_enter Tryd.func93, Tryd.ntmps93
  go_wp2_with fail
  go_loop [8] (fun i => ∃ k : Nat, k ≤ s.size ∧ i = .int .i64 k ∧ signsTo s k = true) (fun i => s.size - (intOf i).toNat)
  case atStart => exact ⟨0, Nat.zero_le _, rfl, signsTo_zero s⟩
  case round =>
    obtain ⟨k, hk, rfl, hall⟩ := hrel
    have Hall := Lib.hid hall
    clear hall
    by_cases hlt : k < s.size
    · have hsu := signsTo_succ s k hlt
      have Hsf := Lib.hid (signsTo_false s k hlt)
      cases h1 : ((s[k].toNat : Int) != 120) with
      | false =>
        have Hx := Lib.hid (show signsTo s (k + 1) = true by rw [hsu, Hall.out]; unfold isSign; rw [h1]; rfl)
        clear hsu
        go_wp2_with fail
        go_round
        case rel => exact ⟨k + 1, by omega, by go_num, Hx.out⟩
        case measure => simp [intOf]; omega
      | true =>
        cases h2 : ((s[k].toNat : Int) != 47) with
        | false =>
          have Hx := Lib.hid (show signsTo s (k + 1) = true by rw [hsu, Hall.out]; unfold isSign; rw [h1, h2]; rfl)
          clear hsu
          go_wp2_with fail
          go_round
          case rel => exact ⟨k + 1, by omega, by go_num, Hx.out⟩
          case measure => simp [intOf]; omega
        | true =>
          have Hx := Lib.hid (Hsf.out (by unfold isSign; rw [h1, h2]; rfl))
          clear hsu
          go_wp2_with fail
          go_ret
          exact ⟨ret_bool (by unfold signsB; rw [Hx.out]; rfl), rfl⟩
    · obtain rfl : k = s.size := by omega
      have hsb : signsB s 1 m = (decide ((1 : Int) ≤ (s.size : Int)) && decide ((s.size : Int) ≤ m)) := by unfold signsB; rw [Hall.out]; rfl
      have Hsb := Lib.hid hsb
      clear hsb
      go_wp2_with fail
      all_goals (go_ret; refine ⟨ret_bool ?_, rfl⟩; rw [Hsb.out]; rw [Bool.eq_iff_iff]; simp; omega)

set_option maxHeartbeats 1000000 in
theorem refsigns_any (s : ByteArray) (lo m : Int) (w : World) (hs : s.size ≤ 9223372036854775807) :
    Calls Tryd.prog 53 #[.string s, .int .i64 lo, .int .i64 m] w fun e w' => e = .returned (.bool (signsB s lo m)) ∧ w = w' := by
  go_enter Tryd.func53, Tryd.ntmps53
  go_wp2_with fail
  go_loop [7] (fun i => ∃ k : Nat, k ≤ s.size ∧ i = .int .i64 k ∧ signsTo s k = true) (fun i => s.size - (intOf i).toNat)
  case atStart => exact ⟨0, Nat.zero_le _, rfl, signsTo_zero s⟩
  case round =>
    obtain ⟨k, hk, rfl, hall⟩ := hrel
    have Hall := Lib.hid hall
    clear hall
    by_cases hlt : k < s.size
    · have hsu := signsTo_succ s k hlt
      have Hsf := Lib.hid (signsTo_false s k hlt)
      cases h1 : ((s[k].toNat : Int) != 120) with
      | false =>
        have Hx := Lib.hid (show signsTo s (k + 1) = true by rw [hsu, Hall.out]; unfold isSign; rw [h1]; rfl)
        clear hsu
        go_wp2_with fail
        go_round
        case rel => exact ⟨k + 1, by omega, by go_num, Hx.out⟩
        case measure => simp [intOf]; omega
      | true =>
        cases h2 : ((s[k].toNat : Int) != 47) with
        | false =>
          have Hx := Lib.hid (show signsTo s (k + 1) = true by rw [hsu, Hall.out]; unfold isSign; rw [h1, h2]; rfl)
          clear hsu
          go_wp2_with fail
          go_round
          case rel => exact ⟨k + 1, by omega, by go_num, Hx.out⟩
          case measure => simp [intOf]; omega
        | true =>
          have Hx := Lib.hid (Hsf.out (by unfold isSign; rw [h1, h2]; rfl))
          clear hsu
          go_wp2_with fail
          go_ret
          exact ⟨ret_bool (by unfold signsB; rw [Hx.out]; rfl), rfl⟩
    · obtain rfl : k = s.size := by omega
      have hsb : signsB s lo m = (decide (lo ≤ (s.size : Int)) && decide ((s.size : Int) ≤ m)) := by unfold signsB; rw [Hall.out]; rfl
      have Hsb := Lib.hid hsb
      clear hsb
      go_wp2_with fail
      all_goals (go_ret; refine ⟨ret_bool ?_, rfl⟩; rw [Hsb.out]; rw [Bool.eq_iff_iff]; simp; omega)

theorem reffigure_any (t : ByteArray) (w : World) : Calls Tryd.prog 108 #[.string t] w fun e w' => e = .returned (.bool (figB t)) ∧ w = w' := by
  by_cases h0 : t.size = 0
  · have h1 := data_nil h0
    have h2 := list_nil h0
    have Hf := Lib.hid (figB_empty t h1)
    clear h0 h1
    go_enter Tryd.func108, Tryd.ntmps108
    go_wp2_with fail
    go_ret
    exact ⟨ret_bool Hf.out.symm, rfl⟩
  · have h1 : 0 < t.size := by omega
    have Hf := Lib.hid (figB_some t h1)
    have h2 := list_pos h1
    clear h0
    go_enter Tryd.func108, Tryd.ntmps108
    go_wp2_with fail
    all_goals (go_ret; refine ⟨ret_bool ?_, rfl⟩; rw [Hf.out]; rw [Bool.eq_iff_iff]; simp; omega)

theorem figure_any (b : Nat) (t : ByteArray) (w : World) (hc : w.cell? ⟨b, 2, none⟩ = some (.string t)) :
    Calls Tryd.prog 48 #[.pointer (some ⟨b, 0, none⟩)] w fun e w' => e = .returned (.bool (figB t)) ∧ w = w' := by
  by_cases h0 : t.size = 0
  · have h1 := data_nil h0
    have h2 := list_nil h0
    have Hf := Lib.hid (figB_empty t h1)
    clear h0 h1
    go_enter Tryd.func48, Tryd.ntmps48
    go_wp2_with fail
    go_ret
    exact ⟨ret_bool Hf.out.symm, rfl⟩
  · have h1 : 0 < t.size := by omega
    have Hf := Lib.hid (figB_some t h1)
    have h2 := list_pos h1
    clear h0
    go_enter Tryd.func48, Tryd.ntmps48
    go_wp2_with fail
    all_goals (go_ret; refine ⟨ret_bool ?_, rfl⟩; rw [Hf.out]; rw [Bool.eq_iff_iff]; simp; omega)

def markB (t : ByteArray) : Bool := t.toList.isEmpty || (t.toList == [44]) || (t.toList == [59])
theorem refmark_any (t : ByteArray) (w : World) : Calls Tryd.prog 126 #[.string t] w fun e w' => e = .returned (.bool (markB t)) ∧ w = w' := by
  go_enter Tryd.func126, Tryd.ntmps126
  go_wp2_with fail
  all_goals (go_ret; refine ⟨ret_bool ?_, rfl⟩; unfold markB; simp [*])
end Go.Proofs.YtkfkkoefpfmjkaaDoor
namespace Go.Proofs.YtkfkkoefpfmjkaaDoor
set_option linter.unusedVariables false
set_option linter.unusedSimpArgs false
open Go.RowKit

/- The cutter goes to the next word or mark. -/
/-- the reader's block -/
def RB (w : World) (b : Nat) (s : ByteArray) (a : Int) (t : ByteArray) (vf ve vb : Value) (ah : Int) : Prop := w.heap[b]? = some (.cells #[.string s, .int .i64 a, .string t, vf, ve, vb, .int .i64 ah] 90 (0, 0))
theorem RB.c0 {w : World} {b : Nat} {s t : ByteArray} {a ah : Int} {vf ve vb : Value} (h : RB w b s a t vf ve vb ah) : w.cell? ⟨b, 0, none⟩ = some (.string s) := cell_of_row w b 0 _ 90 (0, 0) h
theorem RB.c1 {w : World} {b : Nat} {s t : ByteArray} {a ah : Int} {vf ve vb : Value} (h : RB w b s a t vf ve vb ah) : w.cell? ⟨b, 1, none⟩ = some (.int .i64 a) := cell_of_row w b 1 _ 90 (0, 0) h
theorem RB.c2 {w : World} {b : Nat} {s t : ByteArray} {a ah : Int} {vf ve vb : Value} (h : RB w b s a t vf ve vb ah) : w.cell? ⟨b, 2, none⟩ = some (.string t) := cell_of_row w b 2 _ 90 (0, 0) h
theorem RB.c3 {w : World} {b : Nat} {s t : ByteArray} {a ah : Int} {vf ve vb : Value} (h : RB w b s a t vf ve vb ah) : w.cell? ⟨b, 3, none⟩ = some vf := cell_of_row w b 3 _ 90 (0, 0) h
theorem RB.c4 {w : World} {b : Nat} {s t : ByteArray} {a ah : Int} {vf ve vb : Value} (h : RB w b s a t vf ve vb ah) : w.cell? ⟨b, 4, none⟩ = some ve := cell_of_row w b 4 _ 90 (0, 0) h
theorem RB.c5 {w : World} {b : Nat} {s t : ByteArray} {a ah : Int} {vf ve vb : Value} (h : RB w b s a t vf ve vb ah) : w.cell? ⟨b, 5, none⟩ = some vb := cell_of_row w b 5 _ 90 (0, 0) h
theorem RB.c6 {w : World} {b : Nat} {s t : ByteArray} {a ah : Int} {vf ve vb : Value} (h : RB w b s a t vf ve vb ah) : w.cell? ⟨b, 6, none⟩ = some (.int .i64 ah) := cell_of_row w b 6 _ 90 (0, 0) h
theorem RB.z {w : World} {b : Nat} {s t : ByteArray} {a ah : Int} {vf ve vb : Value} (h : RB w b s a t vf ve vb ah) (j : Nat) : w.frozen? ⟨b, j, none⟩ = false := frozen_of_row w b j _ 90 h
theorem RB.drewN {w : World} {b : Nat} {s t : ByteArray} {a ah : Int} {vf ve vb : Value} (h : RB w b s a t vf ve vb ah) (n : Nat) : RB (w.drewN n) b s a t vf ve vb ah := h
theorem RB.below {w w' : World} {B b : Nat} {s t : ByteArray} {a ah : Int} {vf ve vb : Value} (h : RB w b s a t vf ve vb ah) (hb : Below B w w') (hB : b < B) : RB w' b s a t vf ve vb ah := (hb.block b hB).trans h

theorem index_no (c : UInt8) (w : World) (h : stopC c = false) : Calls Tryd.prog 89 #[.string ⟨#[32, 44, 59]⟩, .int .u8 c.toNat] w fun e w' => e = .returned (.int .i64 (-1)) ∧ w = w' := by
  refine (Tryd.strings_IndexByte ⟨#[32, 44, 59]⟩ c.toNat w).mono ?_
  rintro e w' ⟨rfl, rfl⟩
  refine ⟨?_, rfl⟩
  have e : ((c.toNat : Int).toNat.toUInt8) = c := by simp
  rw [e]
  have hs := index_stop c
  rw [h] at hs
  have h1 : ¬ (0 : Int) ≤ Lib.indexByte [32, 44, 59] c := of_decide_eq_false hs
  show Ending.returned (.int .i64 (Lib.indexByte [32, 44, 59] c)) = _
  rw [index_neg _ c (by omega)]
theorem index_yes (c : UInt8) (w : World) (h : stopC c = true) : Calls Tryd.prog 89 #[.string ⟨#[32, 44, 59]⟩, .int .u8 c.toNat] w fun e w' => ∃ n : Int, (e = .returned (.int .i64 n) ∧ w = w') ∧ 0 ≤ n := by
  refine (Tryd.strings_IndexByte ⟨#[32, 44, 59]⟩ c.toNat w).mono ?_
  rintro e w' ⟨rfl, rfl⟩
  have e : ((c.toNat : Int).toNat.toUInt8) = c := by simp
  rw [e]
  have hs := index_stop c
  rw [h] at hs
  exact ⟨_, ⟨rfl, rfl⟩, of_decide_eq_true hs⟩

def NextOk (b : Nat) (s : ByteArray) (p : Nat) (vf ve vb : Value) (ah : Int) (w : World) (e : Ending) (w' : World) : Prop :=
  e = .returned (.tuple #[]) ∧ RB w' b s (skipN s p) (s.extract (skipN s p) (stopN s (skipN s p))) vf ve vb ah ∧ w.grownBy w' (some b)

theorem only_drewN {a w : World} {row : Option Nat} (h : a.grownBy w row) (n : Nat) : a.grownBy (w.drewN n) row := ⟨h.os, h.tape, h.output, h.size, h.block⟩
theorem only_alloc {a w : World} {row : Option Nat} (h : a.grownBy w row) (o : Obj) : a.grownBy (w.alloc o) row :=
  ⟨h.os, h.tape, h.output, Nat.le_trans h.size (by simp), fun i hi hne => (Below.heap_alloc w o i (Nat.lt_of_lt_of_le hi h.size)).trans (h.block i hi hne)⟩
theorem only_setCell {a w : World} {g : Nat} (h : a.grownBy w (some g)) {p : Addr} (hp : p.block = g ∨ a.heap.size ≤ p.block) (u : Value) : a.grownBy (w.setCell p u) (some g) :=
  ⟨h.os, h.tape, h.output, by simpa [World.setCell] using h.size, fun i hi hne => (Below.heap_setCell w p u i (by
    rintro rfl
    rcases hp with hp | hp
    · exact hne (by rw [hp])
    · omega)).trans (h.block i hi hne)⟩
theorem only_of_below {a w : World} (h : Below a.heap.size a w) (row : Option Nat) : a.grownBy w row := ⟨h.os, h.tape, h.output, h.size, fun i hi _ => h.block i hi⟩
theorem only_refl (a : World) (row : Option Nat) : a.grownBy a row := only_of_below (Below.refl _ _) row

theorem next_end {w : World} {b p k e : Nat} {s t x : ByteArray} {a ah : Int} {vf ve vb : Value} (h : RB w b s a t vf ve vb ah) (n : Nat) (hk : skipN s p = k) (he : stopN s k = e) (hx : x = s.extract k e) :
    NextOk b s p vf ve vb ah w (.returned (.tuple #[])) (((w.drewN n).setCell ⟨b, 1, none⟩ (.int .i64 k)).setCell ⟨b, 2, none⟩ (.string x)) := by
  have h0 : (w.drewN n).heap[b]? = some (.cells #[.string s, .int .i64 a, .string t, vf, ve, vb, .int .i64 ah] 90 (0, 0)) := h
  have h1 := heap_setCell_same (w.drewN n) b 1 #[.string s, .int .i64 a, .string t, vf, ve, vb, .int .i64 ah] 90 (.int .i64 k) h0
  have h2 := heap_setCell_same ((w.drewN n).setCell ⟨b, 1, none⟩ (.int .i64 k)) b 2 _ 90 (.string x) h1
  have hg : w.grownBy (((w.drewN n).setCell ⟨b, 1, none⟩ (.int .i64 k)).setCell ⟨b, 2, none⟩ (.string x)) (some b) :=
    only_setCell (a := w) (p := ⟨b, 2, none⟩) (only_setCell (a := w) (p := ⟨b, 1, none⟩) (only_drewN (only_refl w _) n) (.inl rfl) _) (.inl rfl) _
  have hr : RB (((w.drewN n).setCell ⟨b, 1, none⟩ (.int .i64 k)).setCell ⟨b, 2, none⟩ (.string x)) b s k x vf ve vb ah := h2
  unfold NextOk
  rw [hk, he, ← hx]
  exact ⟨rfl, hr, hg⟩

set_option maxRecDepth 100000 in
set_option maxHeartbeats 4000000 in
theorem next_any (b a : Nat) (s t : ByteArray) (vf ve vb : Value) (ah : Int) (w : World) (h : RB w b s a t vf ve vb ah) (hp : a + t.size ≤ s.size) (hs : s.size ≤ 4611686018427387904) :
    Calls Tryd.prog 43 #[.pointer (some ⟨b, 0, none⟩)] w (NextOk b s (a + t.size) vf ve vb ah w) := by
  have H := Lib.hid h
  have c0 := h.c0
  have c1 := h.c1
  have c2 := h.c2
  have z1 := h.z 1
  have z2 := h.z 2
  clear h
  go_enter Tryd.func43, Tryd.ntmps43
  go_wp2_with fail
  go_quiet (fail)
  go_wp2_with fail
  go_loop [2] (fun i => ∃ k : Nat, a + t.size ≤ k ∧ k ≤ s.size ∧ i = .int .i64 k ∧ skipN s (a + t.size) = skipN s k) (fun i => s.size - (intOf i).toNat)
  case atStart => exact ⟨a + t.size, Nat.le_refl _, hp, by go_num, rfl⟩
  case round =>
    obtain ⟨k, hk1, hk2, rfl, hsk⟩ := hrel
    have Hsk := Lib.hid hsk
    clear hsk
    by_cases hlt : k < s.size
    · cases h1 : ((s[k].toNat : Int) == 32) with
      | true =>
        have Hst := Lib.hid (skipN_space hlt h1)
        go_wp2_with fail
        go_round
        case rel => exact ⟨k + 1, by omega, by omega, by go_num, Hsk.out.trans Hst.out⟩
        case measure => simp [intOf]; omega
      | false =>
        have Hst := Lib.hid (Hsk.out.trans (skipN_stop hlt h1))
        cases hm : markC s[k] with
        | true =>
          have Hen := Lib.hid (stopN_mark hlt hm)
          have hm2 : ((s[k].toNat : Int) == 44) = true ∨ ((s[k].toNat : Int) == 44) = false ∧ ((s[k].toNat : Int) == 59) = true := by
            unfold markC at hm
            cases h4 : ((s[k].toNat : Int) == 44) with
            | true => exact .inl rfl
            | false => rw [h4] at hm; exact .inr ⟨rfl, hm⟩
          clear hm
          rcases hm2 with h4 | ⟨h4, h5⟩
          · have h6 : ((s[k].toNat : Int) != 44) = false := by rw [bne, h4]; rfl
            go_wp2_with fail
            go_loop [3] (fun e => e = .int .i64 (k + 1 : Nat)) (fun _ => 0)
            case atStart => go_num
            case round =>
              obtain rfl := hrel
              have h8 : (((k + 1 : Nat) : Int) == (k : Int)) = false := by simp; omega
              have h9 : ((k : Int) + 1 == (k : Int)) = false := by simp; omega
              by_cases hkl : k + 1 < s.size
              · have b1 : (0 : Int) ≤ (k : Int) := by omega
                have b2 : (k : Int) ≤ (k : Int) + 1 := by omega
                have b3 : (k : Int) + 1 ≤ (s.size : Int) := by omega
                go_wp2_with fail
                have k1 : ∀ (W : World) (v : Value), (W.setCell ⟨b, 1, none⟩ v).cell? ⟨b, 0, none⟩ = W.cell? ⟨b, 0, none⟩ := fun W v => W.cell?_setCell_other _ _ v (by simp)
                have k3 : ∀ (W : World) (v : Value), (W.setCell ⟨b, 1, none⟩ v).cell? ⟨b, 2, none⟩ = W.cell? ⟨b, 2, none⟩ := fun W v => W.cell?_setCell_other _ _ v (by simp)
                have k2 : ∀ (W : World) (v : Value), (W.setCell ⟨b, 2, none⟩ v).cell? ⟨b, 0, none⟩ = W.cell? ⟨b, 0, none⟩ := fun W v => W.cell?_setCell_other _ _ v (by simp)
                go_region_held3 (fun w' => w'.cell? ⟨b, 0, none⟩ = some (.string s)) (go_keep) (fail)
                go_wp2_with fail
                go_end0
                exact next_end H.out _ Hst.out Hen.out rfl
              · have Hen2 := Lib.hid (Hen.out.trans (show k + 1 = s.size by omega))
                have e : k + 1 = s.size := by omega
                have b1 : (0 : Int) ≤ (k : Int) := by omega
                have b2 : (k : Int) ≤ (s.size : Int) := by omega
                go_wp2_with fail
                have k1 : ∀ (W : World) (v : Value), (W.setCell ⟨b, 1, none⟩ v).cell? ⟨b, 0, none⟩ = W.cell? ⟨b, 0, none⟩ := fun W v => W.cell?_setCell_other _ _ v (by simp)
                have k3 : ∀ (W : World) (v : Value), (W.setCell ⟨b, 1, none⟩ v).cell? ⟨b, 2, none⟩ = W.cell? ⟨b, 2, none⟩ := fun W v => W.cell?_setCell_other _ _ v (by simp)
                have k2 : ∀ (W : World) (v : Value), (W.setCell ⟨b, 2, none⟩ v).cell? ⟨b, 0, none⟩ = W.cell? ⟨b, 0, none⟩ := fun W v => W.cell?_setCell_other _ _ v (by simp)
                go_region_held3 (fun w' => w'.cell? ⟨b, 0, none⟩ = some (.string s)) (go_keep) (fail)
                go_wp2_with fail
                go_end0
                exact next_end H.out _ Hst.out Hen2.out rfl
          · have h6 : ((s[k].toNat : Int) != 44) = true := by rw [bne, h4]; rfl
            have h7 : ((s[k].toNat : Int) != 59) = false := by rw [bne, h5]; rfl
            go_wp2_with fail
            go_loop [3] (fun e => e = .int .i64 (k + 1 : Nat)) (fun _ => 0)
            case atStart => go_num
            case round =>
              obtain rfl := hrel
              have h8 : (((k + 1 : Nat) : Int) == (k : Int)) = false := by simp; omega
              have h9 : ((k : Int) + 1 == (k : Int)) = false := by simp; omega
              by_cases hkl : k + 1 < s.size
              · have b1 : (0 : Int) ≤ (k : Int) := by omega
                have b2 : (k : Int) ≤ (k : Int) + 1 := by omega
                have b3 : (k : Int) + 1 ≤ (s.size : Int) := by omega
                go_wp2_with fail
                have k1 : ∀ (W : World) (v : Value), (W.setCell ⟨b, 1, none⟩ v).cell? ⟨b, 0, none⟩ = W.cell? ⟨b, 0, none⟩ := fun W v => W.cell?_setCell_other _ _ v (by simp)
                have k3 : ∀ (W : World) (v : Value), (W.setCell ⟨b, 1, none⟩ v).cell? ⟨b, 2, none⟩ = W.cell? ⟨b, 2, none⟩ := fun W v => W.cell?_setCell_other _ _ v (by simp)
                have k2 : ∀ (W : World) (v : Value), (W.setCell ⟨b, 2, none⟩ v).cell? ⟨b, 0, none⟩ = W.cell? ⟨b, 0, none⟩ := fun W v => W.cell?_setCell_other _ _ v (by simp)
                go_region_held3 (fun w' => w'.cell? ⟨b, 0, none⟩ = some (.string s)) (go_keep) (fail)
                go_wp2_with fail
                go_end0
                exact next_end H.out _ Hst.out Hen.out rfl
              · have Hen2 := Lib.hid (Hen.out.trans (show k + 1 = s.size by omega))
                have e : k + 1 = s.size := by omega
                have b1 : (0 : Int) ≤ (k : Int) := by omega
                have b2 : (k : Int) ≤ (s.size : Int) := by omega
                go_wp2_with fail
                have k1 : ∀ (W : World) (v : Value), (W.setCell ⟨b, 1, none⟩ v).cell? ⟨b, 0, none⟩ = W.cell? ⟨b, 0, none⟩ := fun W v => W.cell?_setCell_other _ _ v (by simp)
                have k3 : ∀ (W : World) (v : Value), (W.setCell ⟨b, 1, none⟩ v).cell? ⟨b, 2, none⟩ = W.cell? ⟨b, 2, none⟩ := fun W v => W.cell?_setCell_other _ _ v (by simp)
                have k2 : ∀ (W : World) (v : Value), (W.setCell ⟨b, 2, none⟩ v).cell? ⟨b, 0, none⟩ = W.cell? ⟨b, 0, none⟩ := fun W v => W.cell?_setCell_other _ _ v (by simp)
                go_region_held3 (fun w' => w'.cell? ⟨b, 0, none⟩ = some (.string s)) (go_keep) (fail)
                go_wp2_with fail
                go_end0
                exact next_end H.out _ Hst.out Hen2.out rfl
        | false =>
          have Hen := Lib.hid (stopN_word hlt hm)
          have h4 : ((s[k].toNat : Int) == 44) = false := by
            unfold markC at hm
            cases h4 : ((s[k].toNat : Int) == 44) with
            | true => rw [h4] at hm; cases hm
            | false => rfl
          have h5 : ((s[k].toNat : Int) == 59) = false := by
            unfold markC at hm
            rw [h4] at hm; exact hm
          have Hw0 := Lib.hid (wordN_go hlt (show stopC s[k] = false by unfold stopC; rw [h1, h4, h5]; rfl))
          have h6 : ((s[k].toNat : Int) != 44) = true := by rw [bne, h4]; rfl
          have h7 : ((s[k].toNat : Int) != 59) = true := by rw [bne, h5]; rfl
          clear hm
          go_wp2_with fail
          go_loop [3] (fun e => ∃ m : Nat, k ≤ m ∧ m ≤ s.size ∧ e = .int .i64 m ∧ wordN s k = wordN s m) (fun e => s.size - (intOf e).toNat)
          case atStart => exact ⟨k, Nat.le_refl _, hk2, rfl, rfl⟩
          case round =>
            obtain ⟨m, hm1, hm2, rfl, hw⟩ := hrel
            have Hw := Lib.hid hw
            clear hw
            by_cases hml : m < s.size
            · have hsz : ((m : Int) == (s.size : Int)) = false := by simp; omega
              cases hc : stopC s[m] with
              | false =>
                have Hix := Lib.hid fun W => index_no s[m] W hc
                have Hwg := Lib.hid (Hw.out.trans (wordN_go hml hc))
                by_cases hkm : m = k
                · subst hkm
                  go_wp2_with (go_at_call 89; refine (Hix.out _).mono ?_; rintro e w' ⟨rfl, rfl⟩)
                  go_round
                  case rel => exact ⟨m + 1, by omega, by omega, by go_num, Hwg.out⟩
                  case measure => simp [intOf]; omega
                · have hkm2 : ((m : Int) == (k : Int)) = false := by simp; omega
                  go_wp2_with (go_at_call 89; refine (Hix.out _).mono ?_; rintro e w' ⟨rfl, rfl⟩)
                  go_round
                  case rel => exact ⟨m + 1, by omega, by omega, by go_num, Hwg.out⟩
                  case measure => simp [intOf]; omega
              | true =>
                have Hix := Lib.hid fun W => index_yes s[m] W hc
                have Hwe := Lib.hid (Hen.out.trans (Hw0.out.symm.trans (Hw.out.trans (wordN_stop hml hc))))
                by_cases hkm : m = k
                · exfalso
                  subst hkm
                  unfold stopC at hc
                  rw [h1, h4, h5] at hc
                  cases hc
                · have hkm2 : ((m : Int) == (k : Int)) = false := by simp; omega
                  have b1 : (0 : Int) ≤ (k : Int) := by omega
                  have b2 : (k : Int) ≤ (m : Int) := by omega
                  have b3 : (m : Int) ≤ (s.size : Int) := by omega
                  go_wp2_with (go_at_call 89; refine (Hix.out _).mono ?_; rintro e w' ⟨nx, ⟨rfl, rfl⟩, hnx⟩)
                  have k1 : ∀ (W : World) (v : Value), (W.setCell ⟨b, 1, none⟩ v).cell? ⟨b, 0, none⟩ = W.cell? ⟨b, 0, none⟩ := fun W v => W.cell?_setCell_other _ _ v (by simp)
                  have k3 : ∀ (W : World) (v : Value), (W.setCell ⟨b, 1, none⟩ v).cell? ⟨b, 2, none⟩ = W.cell? ⟨b, 2, none⟩ := fun W v => W.cell?_setCell_other _ _ v (by simp)
                  have k2 : ∀ (W : World) (v : Value), (W.setCell ⟨b, 2, none⟩ v).cell? ⟨b, 0, none⟩ = W.cell? ⟨b, 0, none⟩ := fun W v => W.cell?_setCell_other _ _ v (by simp)
                  go_region_held3 (fun w' => w'.cell? ⟨b, 0, none⟩ = some (.string s)) (go_keep) (fail)
                  go_wp2_with fail
                  go_end0
                  exact next_end H.out _ Hst.out Hwe.out rfl
            · obtain rfl : m = s.size := by omega
              have hkm2 : ((s.size : Int) == (k : Int)) = false := by simp; omega
              have Hwe := Lib.hid (Hen.out.trans (Hw0.out.symm.trans (Hw.out.trans (wordN_end (by omega)))))
              have b1 : (0 : Int) ≤ (k : Int) := by omega
              have b2 : (k : Int) ≤ (s.size : Int) := by omega
              go_wp2_with fail
              have k1 : ∀ (W : World) (v : Value), (W.setCell ⟨b, 1, none⟩ v).cell? ⟨b, 0, none⟩ = W.cell? ⟨b, 0, none⟩ := fun W v => W.cell?_setCell_other _ _ v (by simp)
              have k3 : ∀ (W : World) (v : Value), (W.setCell ⟨b, 1, none⟩ v).cell? ⟨b, 2, none⟩ = W.cell? ⟨b, 2, none⟩ := fun W v => W.cell?_setCell_other _ _ v (by simp)
              have k2 : ∀ (W : World) (v : Value), (W.setCell ⟨b, 2, none⟩ v).cell? ⟨b, 0, none⟩ = W.cell? ⟨b, 0, none⟩ := fun W v => W.cell?_setCell_other _ _ v (by simp)
              go_region_held3 (fun w' => w'.cell? ⟨b, 0, none⟩ = some (.string s)) (go_keep) (fail)
              go_wp2_with fail
              go_end0
              exact next_end H.out _ Hst.out Hwe.out rfl
    · obtain rfl : k = s.size := by omega
      have Hst := Lib.hid (Hsk.out.trans (skipN_end (by omega)))
      have Hen := Lib.hid (stopN_end (s := s) (a := s.size) (by omega))
      go_wp2_with fail
      go_loop [3] (fun e => e = .int .i64 s.size) (fun _ => 0)
      case atStart => rfl
      case round =>
        obtain rfl := hrel
        go_wp2_with fail
        have k1 : ∀ (W : World) (v : Value), (W.setCell ⟨b, 1, none⟩ v).cell? ⟨b, 0, none⟩ = W.cell? ⟨b, 0, none⟩ := fun W v => W.cell?_setCell_other _ _ v (by simp)
        have k3 : ∀ (W : World) (v : Value), (W.setCell ⟨b, 1, none⟩ v).cell? ⟨b, 2, none⟩ = W.cell? ⟨b, 2, none⟩ := fun W v => W.cell?_setCell_other _ _ v (by simp)
        have k2 : ∀ (W : World) (v : Value), (W.setCell ⟨b, 2, none⟩ v).cell? ⟨b, 0, none⟩ = W.cell? ⟨b, 0, none⟩ := fun W v => W.cell?_setCell_other _ _ v (by simp)
        go_region_held3 (fun w' => w'.cell? ⟨b, 0, none⟩ = some (.string s)) (go_keep) (fail)
        go_wp2_with fail
        go_end0
        exact next_end H.out _ Hst.out Hen.out (by simp)
end Go.Proofs.YtkfkkoefpfmjkaaDoor

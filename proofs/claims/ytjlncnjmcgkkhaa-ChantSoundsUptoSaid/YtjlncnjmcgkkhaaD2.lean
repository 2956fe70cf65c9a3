import Derived.Test.YtjlncnjmcgkkhaaD1
namespace Go.Proofs.Ytjlncnjmcgkkhaa
set_option linter.unusedVariables false
set_option linter.unusedSimpArgs false
open Go.RowKit
attribute [local go_sem] run_store_float run_fadd

def mostN (vs : List (List Note)) (l : List Note) (b : Nat) : Nat := l.foldl (fun b x => max b (sound vs x.at_)) b
def mostTo (vs ls : List (List Note)) : Nat := ls.foldl (fun b l => mostN vs l b) 0
theorem mostN_take (vs : List (List Note)) (l : List Note) (b j : Nat) (h : j < l.length) : mostN vs (l.take (j + 1)) b = max (mostN vs (l.take j) b) (sound vs (l.getD j default).at_) := by
  unfold mostN
  rw [List.take_succ_eq_append_getElem h, List.foldl_append, List.getD_eq_getElem?_getD, List.getElem?_eq_getElem h]; rfl
theorem mostTo_take (vs ls : List (List Note)) (k : Nat) (h : k < ls.length) : mostTo vs (ls.take (k + 1)) = mostN vs (ls.getD k []) (mostTo vs (ls.take k)) := by
  unfold mostTo
  rw [List.take_succ_eq_append_getElem h, List.foldl_append, List.getD_eq_getElem?_getD, List.getElem?_eq_getElem h]; rfl
theorem ret_max {a b c : Nat} (h : c = max a b) : Value.int .i64 (max (a : Int) (b : Int)) = Value.int .i64 (c : Int) := by subst h; congr 1; omega

set_option maxRecDepth 100000 in
set_option maxHeartbeats 4000000 in
theorem most_any (A : Option Addr) (c : Nat) (vs : List (List Note)) (w : World) (hv : IsVoices w w.heap.size A vs) (hl1 : vs.length ≤ 4611686018427387904) (hl2 : total vs ≤ 4611686018427387904) :
    Calls Try.prog 24 #[.slice A vs.length c] w fun e w' => e = .returned (.int .i64 (mostTo vs vs : Nat)) ∧ Below w.heap.size w w' := by
  have htt : ∀ k, total (vs.take k) ≤ 4611686018427387904 := fun k => Nat.le_trans (total_take_le vs k) hl2
  have hsnd := fun (W : World) (hb : Below w.heap.size w W) (t : Nat) => sounding_any A c vs t W (hv.later hb) hl1 hl2
  have Hsnd := Lib.hid hsnd
  have Hv := Lib.hid hv
  have Htt := Lib.hid htt
  clear hsnd htt hv
  go_enter Try.func24, Try.ntmps24
  go_wp2_with fail
  go_loopw [3, 10] (fun s i wr => ∃ k : Nat, k ≤ vs.length ∧ i = .int .i64 k ∧ s = .int .i64 (mostTo vs (vs.take k) : Nat) ∧ Below w.heap.size w wr) (fun _ i _ => vs.length - (intOf i).toNat)
  case atStart => exact ⟨0, by omega, rfl, rfl, Below.refl _ _⟩
  case round =>
    obtain ⟨k, hk, rfl, rfl, hbl⟩ := hrel
    by_cases hlt : k < vs.length
    · obtain ⟨b, off, rfl, hb, hn⟩ := Hv.out (by omega)
      obtain ⟨A', c', hc, _, hi⟩ := hn k hlt
      have hc1 := (hbl.cell (p := ⟨b, off + k, none⟩) hb).trans hc
      have h3 := mostTo_take vs vs k hlt
      have h4 := total_take vs k hlt
      have h5 := Htt.out (k + 1)
      have h7 : (vs.getD k []).length ≤ 4611686018427387904 := by omega
      have H3 := Lib.hid h3
      clear hn hc h3 h4 h5
      generalize vs.getD k [] = lk at *
      generalize mostTo vs (vs.take k) = S at *
      go_wp2_with fail
      go_loopw [3, 16] (fun s i wx => ∃ j : Nat, j ≤ lk.length ∧ i = .int .i64 j ∧ s = .int .i64 ((mostN vs (lk.take j) S : Nat) : Int) ∧ Below w.heap.size w wx) (fun _ i _ => lk.length - (intOf i).toNat)
      case atStart => exact ⟨0, by omega, rfl, rfl, hbl⟩
      case round =>
        clear hbl hc1 hb
        obtain ⟨j, hj, rfl, rfl, hbl⟩ := hrel
        obtain ⟨wx, rfl⟩ : ∃ wx : World, wx = wr := ⟨_, rfl⟩
        by_cases hjl : j < lk.length
        · obtain ⟨b', off', rfl, hb', hnt⟩ := hi (by omega)
          obtain ⟨c0, c1, c2, c3, c4, c5⟩ := (hnt j hjl).keep hb' (keepOf hbl)
          have hs := mostN_take vs lk S j hjl
          have Hs := Lib.hid hs
          clear hs hnt
          generalize lk.getD j default = nt at *
          generalize mostN vs (lk.take j) S = Q at *
          have hbs := hbl.size
          go_wp2_with fail
          refine (Hsnd.out _ (hbl.alloc hbs _) nt.at_).mono ?_
          rintro e w5 ⟨rfl, hb5⟩
          go_wp2_with fail
          go_roundw
          case rel => exact ⟨j + 1, by omega, by go_num, ret_max Hs.out, (hbl.alloc hbs _).trans (hb5.mono (Nat.le_trans hbs (by simp)))⟩
          case measure => simp [intOf]; omega
        · obtain rfl : j = lk.length := by omega
          go_wp2_with fail
          go_roundw
          case rel => exact ⟨k + 1, by omega, by go_num, by rw [H3.out, List.take_length], hbl⟩
          case measure => simp [intOf]; omega
    · obtain rfl : k = vs.length := by omega
      go_wp2_with fail
      go_ret
      exact ⟨by rw [List.take_length]; rfl, hbl⟩

set_option maxRecDepth 100000 in
set_option maxHeartbeats 4000000 in
theorem refmost_any (A : Option Addr) (c : Nat) (vs : List (List Note)) (w : World) (hv : IsVoices w w.heap.size A vs) (hl1 : vs.length ≤ 4611686018427387904) (hl2 : total vs ≤ 4611686018427387904) :
    Calls Try.prog 25 #[.slice A vs.length c] w fun e w' => e = .returned (.int .i64 (mostTo vs vs : Nat)) ∧ Below w.heap.size w w' := by
  have htt : ∀ k, total (vs.take k) ≤ 4611686018427387904 := fun k => Nat.le_trans (total_take_le vs k) hl2
  have hsnd := fun (W : World) (hb : Below w.heap.size w W) (t : Nat) => refsounding_any A c vs t W (hv.later hb) hl1 hl2
  have Hsnd := Lib.hid hsnd
  have Hv := Lib.hid hv
  have Htt := Lib.hid htt
  clear hsnd htt hv
  go_enter Try.func25, Try.ntmps25
  go_wp2_with fail
  go_loopw [3, 10] (fun s i wr => ∃ k : Nat, k ≤ vs.length ∧ i = .int .i64 k ∧ s = .int .i64 (mostTo vs (vs.take k) : Nat) ∧ Below w.heap.size w wr) (fun _ i _ => vs.length - (intOf i).toNat)
  case atStart => exact ⟨0, by omega, rfl, rfl, Below.refl _ _⟩
  case round =>
    obtain ⟨k, hk, rfl, rfl, hbl⟩ := hrel
    by_cases hlt : k < vs.length
    · obtain ⟨b, off, rfl, hb, hn⟩ := Hv.out (by omega)
      obtain ⟨A', c', hc, _, hi⟩ := hn k hlt
      have hc1 := (hbl.cell (p := ⟨b, off + k, none⟩) hb).trans hc
      have h3 := mostTo_take vs vs k hlt
      have h4 := total_take vs k hlt
      have h5 := Htt.out (k + 1)
      have h7 : (vs.getD k []).length ≤ 4611686018427387904 := by omega
      have H3 := Lib.hid h3
      clear hn hc h3 h4 h5
      generalize vs.getD k [] = lk at *
      generalize mostTo vs (vs.take k) = S at *
      go_wp2_with fail
      go_loopw [3, 16] (fun s i wx => ∃ j : Nat, j ≤ lk.length ∧ i = .int .i64 j ∧ s = .int .i64 ((mostN vs (lk.take j) S : Nat) : Int) ∧ Below w.heap.size w wx) (fun _ i _ => lk.length - (intOf i).toNat)
      case atStart => exact ⟨0, by omega, rfl, rfl, hbl⟩
      case round =>
        clear hbl hc1 hb
        obtain ⟨j, hj, rfl, rfl, hbl⟩ := hrel
        obtain ⟨wx, rfl⟩ : ∃ wx : World, wx = wr := ⟨_, rfl⟩
        by_cases hjl : j < lk.length
        · obtain ⟨b', off', rfl, hb', hnt⟩ := hi (by omega)
          obtain ⟨c0, c1, c2, c3, c4, c5⟩ := (hnt j hjl).keep hb' (keepOf hbl)
          have hs := mostN_take vs lk S j hjl
          have Hs := Lib.hid hs
          clear hs hnt
          generalize lk.getD j default = nt at *
          generalize mostN vs (lk.take j) S = Q at *
          have hbs := hbl.size
          go_wp2_with fail
          refine (Hsnd.out _ (hbl.alloc hbs _) nt.at_).mono ?_
          rintro e w5 ⟨rfl, hb5⟩
          go_wp2_with fail
          go_roundw
          case rel => exact ⟨j + 1, by omega, by go_num, ret_max Hs.out, (hbl.alloc hbs _).trans (hb5.mono (Nat.le_trans hbs (by simp)))⟩
          case measure => simp [intOf]; omega
        · obtain rfl : j = lk.length := by omega
          go_wp2_with fail
          go_roundw
          case rel => exact ⟨k + 1, by omega, by go_num, by rw [H3.out, List.take_length], hbl⟩
          case measure => simp [intOf]; omega
    · obtain rfl : k = vs.length := by omega
      go_wp2_with fail
      go_ret
      exact ⟨by rw [List.take_length]; rfl, hbl⟩

set_option maxRecDepth 100000 in
set_option maxHeartbeats 4000000 in
theorem sounds_any (A : Option Addr) (c : Nat) (vs : List (List Note)) (t : Nat) (w : World) (hv : IsVoices w w.heap.size A vs) (hl : vs.length ≤ 4611686018427387904) :
    Calls Try.prog 5 #[.slice A vs.length c, .float .f64 t] w fun e w' => e = .returned (.bool true) ∧ Below w.heap.size w w' := by
  have hus1 := (someL_lens vs).1
  have hus3 := someL_total vs
  go_enter Try.func5, Try.ntmps5
  go_wp2_with fail
  refine (wakes_any _).mono ?_
  rintro e w1 ⟨rfl, hb1⟩
  go_wp2_with fail
  refine (some_any A c vs w1 (hv.later hb1) hl).mono ?_
  rintro e w2 ⟨v, rfl, ⟨A2, c2, rfl, hv2⟩, hb2⟩
  generalize someL vs = us at *
  have hb := hb1.trans (hb2.mono hb1.size)
  clear hb1 hb2 hv hl
  have Hv2 := Lib.hid hv2
  clear hv2
  go_wp2_with fail
  refine (sounding_any A2 c2 us t w2 Hv2.out (by omega) (by omega)).mono ?_
  rintro e w3 ⟨rfl, hb3⟩
  go_wp2_with fail
  refine (refsounding_any A2 c2 us t w3 (Hv2.out.later hb3) (by omega) (by omega)).mono ?_
  rintro e w4 ⟨rfl, hb4⟩
  have hb34 := hb3.trans (hb4.mono hb3.size)
  go_wp2_with fail
  refine (most_any A2 c2 us w4 (Hv2.out.later hb34) (by omega) (by omega)).mono ?_
  rintro e w5 ⟨rfl, hb5⟩
  have hb35 := hb34.trans (hb5.mono hb34.size)
  go_wp2_with fail
  refine (refmost_any A2 c2 us w5 (Hv2.out.later hb35) (by omega) (by omega)).mono ?_
  rintro e w6 ⟨rfl, hb6⟩
  have hb36 := hb35.trans (hb6.mono hb35.size)
  go_wp2_with fail
  refine (wakes_any _).mono ?_
  rintro e w7 ⟨rfl, hb7⟩
  go_wp2_with fail
  go_ret
  have hbe := hb.trans (hb36.mono hb.size)
  exact ⟨rfl, hbe.trans (hb7.mono hbe.size)⟩
end Go.Proofs.Ytjlncnjmcgkkhaa

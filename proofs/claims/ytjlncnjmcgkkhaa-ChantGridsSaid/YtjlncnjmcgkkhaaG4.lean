import Derived.Test.YtjlncnjmcgkkhaaG3
import Derived.Test.YtjlncnjmcgkkhaaF1
namespace Go.Proofs.Ytjlncnjmcgkkhaa
set_option linter.unusedVariables false
set_option linter.unusedSimpArgs false
open Go.RowKit
attribute [local go_sem] run_store_float run_fadd run_fsub run_fmul run_fquo

/- ChantGrids: the law's walk. -/
set_option maxRecDepth 100000 in
set_option maxHeartbeats 4000000 in
theorem chantgrids_no (A : Option Addr) (c step : Nat) (ec : Int) (l : List Note) (w : World) (hn : IsNotes w w.heap.size A l) (hc : l.length ≤ c) (hl : l.length ≤ 9223372036854775807)
    (hR : ∀ A c W, IsNotes W W.heap.size A (l.take 200) → Calls Try.prog 39 #[.slice A (l.take 200).length c, .float .f64 step] W (GridNo ec W))
    (hG : ∀ A c W, IsNotes W W.heap.size A (l.take 200) → Calls Try.prog 40 #[.slice A (l.take 200).length c, .float .f64 step] W (GridNo ec W)) :
    Calls Try.prog 10 #[.slice A l.length c, .float .f64 step] w fun e w' => e = .returned (.bool true) ∧ Below w.heap.size w w' := by
  have Hfew := Lib.hid fun W => few_any A c l W hc hl
  have Hn := Lib.hid (hn.take 200)
  have hlen : (l.take 200).length ≤ 200 := by simp; omega
  have hlc : (l.take 200).length ≤ c := by simp; omega
  have HR := Lib.hid hR
  have HG := Lib.hid hG
  clear hn hR hG
  generalize l.take 200 = l' at *
  go_enter Try.func10, Try.ntmps10
  go_wp2_with fail
  refine (wakes_any _).mono ?_
  rintro e w1 ⟨rfl, hb1⟩
  go_wp2_with fail
  refine (Hfew.out _).mono ?_
  rintro e w2 ⟨rfl, rfl⟩
  go_wp2_with fail
  have n1 := Hn.out.later hb1
  refine (HR.out A c _ n1).mono ?_
  rintro e w2 ⟨rfl, hb2⟩
  have N2 := Lib.hid (n1.later hb2)
  have hB2 := hb1.trans (hb2.mono hb1.size)
  clear n1 hb2 hb1
  go_wp2_with fail
  refine (room_any A c l' _ N2.out (by omega)).mono ?_
  rintro e w3 ⟨g, rfl, hfull, hb3⟩
  have N3 := Lib.hid (N2.out.later hb3)
  have G3 := Lib.hid (own_whole hfull)
  have hB3 := hB2.trans (hb3.mono hB2.size)
  clear hfull N2 hb3 hB2
  go_wp2_with fail
  refine (HG.out _ _ _ (full_notes G3.out)).mono ?_
  rintro e w4 ⟨rfl, hb4⟩
  have N4 := Lib.hid (N3.out.later hb4)
  have G4 := Lib.hid (heap_keep G3.out hb4)
  have hB4 := hB3.trans (hb4.mono hB3.size)
  clear N3 G3 hb4 hB3
  go_wp2_with fail
  refine (stayed_true g c A l' _ G4.out N4.out (by omega)).mono ?_
  rintro e w8 ⟨rfl, hb8⟩
  have hB8 := hB4.trans (hb8.mono hB4.size)
  clear N4 G4 hb8 hB4
  go_wp2_with fail
  go_loopw [50] (fun i wr => i = .int .i64 0 ∧ Below w.heap.size w wr) (fun i _ => 0)
  case atStart => exact ⟨rfl, hB8⟩
  case round =>
    obtain ⟨rfl, hbl⟩ := hrel
    go_wp2_with fail
    refine (wakes_any _).mono ?_
    rintro e w9 ⟨rfl, hb9⟩
    go_wp2_with fail
    go_ret
    exact ⟨rfl, hbl.trans (hb9.mono hbl.size)⟩

theorem own_ints {w : World} {base n : Nat} {v : Value} {xs : List Int} (h : w.ownsRow base 3 1 v n (intsV xs)) (hn : xs.length = n) :
    ∃ A c, v = .slice A xs.length c ∧ (0 < xs.length → ∃ g, A = some ⟨g, 0, none⟩ ∧ g < w.heap.size ∧ ∀ k, k < xs.length → w.cell? ⟨g, k, none⟩ = some (.int .i64 (xs.getD k 0))) := by
  have hlen : (intsV xs).length = xs.length := by simp [intsV]
  rcases h.2 with ⟨rfl, h0⟩ | ⟨g, cap, cur, rfl, _, hg, _⟩
  · exact ⟨none, 0, by rw [hn, h0], fun hl => by omega⟩
  · refine ⟨_, cap, by rw [hn], fun hl => ⟨g, rfl, heap_lt hg, fun k hk => ?_⟩⟩
    rw [h.cellAt k (by omega)]
    unfold intsV
    rw [List.getElem?_map, List.getElem?_eq_getElem hk, List.getD_eq_getElem?_getD, List.getElem?_eq_getElem hk]; rfl

theorem ints_keep {w w' : World} {A : Option Addr} {xs : List Int} (h : 0 < xs.length → ∃ g, A = some ⟨g, 0, none⟩ ∧ g < w.heap.size ∧ ∀ k, k < xs.length → w.cell? ⟨g, k, none⟩ = some (.int .i64 (xs.getD k 0))) (hb : Below w.heap.size w w') :
    0 < xs.length → ∃ g, A = some ⟨g, 0, none⟩ ∧ g < w'.heap.size ∧ ∀ k, k < xs.length → w'.cell? ⟨g, k, none⟩ = some (.int .i64 (xs.getD k 0)) := fun hl => by
  obtain ⟨g, e, hg, hc⟩ := h hl
  exact ⟨g, e, Nat.lt_of_lt_of_le hg hb.size, fun k hk => (hb.cell (p := ⟨g, k, none⟩) hg).trans (hc k hk)⟩

set_option maxRecDepth 100000 in
set_option maxHeartbeats 4000000 in
theorem chantgrids_yes (A : Option Addr) (c step : Nat) (l : List Note) (w : World) (hn : IsNotes w w.heap.size A l) (hc : l.length ≤ c) (hl : l.length ≤ 9223372036854775807)
    (hR : ∀ A c W, IsNotes W W.heap.size A (l.take 200) → Calls Try.prog 39 #[.slice A (l.take 200).length c, .float .f64 step] W (GridYes (l.take 200) step W))
    (hG : ∀ A c W, IsNotes W W.heap.size A (l.take 200) → Calls Try.prog 40 #[.slice A (l.take 200).length c, .float .f64 step] W (GridYes (l.take 200) step W)) :
    Calls Try.prog 10 #[.slice A l.length c, .float .f64 step] w fun e w' => e = .returned (.bool true) ∧ Below w.heap.size w w' := by
  have Hfew := Lib.hid fun W => few_any A c l W hc hl
  have Hn := Lib.hid (hn.take 200)
  have hlen : (l.take 200).length ≤ 200 := by simp; omega
  have hlc : (l.take 200).length ≤ c := by simp; omega
  have HR := Lib.hid hR
  have HG := Lib.hid hG
  clear hn hR hG
  generalize l.take 200 = l' at *
  go_enter Try.func10, Try.ntmps10
  go_wp2_with fail
  refine (wakes_any _).mono ?_
  rintro e w1 ⟨rfl, hb1⟩
  go_wp2_with fail
  refine (Hfew.out _).mono ?_
  rintro e w2 ⟨rfl, rfl⟩
  go_wp2_with fail
  have n1 := Hn.out.later hb1
  refine (HR.out A c _ n1).mono ?_
  rintro e w2 ⟨v1, rfl, hown1, hb2⟩
  have hgl : (gridL step l').length = l'.length := by simp [gridL]
  have N2 := Lib.hid (n1.later hb2)
  have hB2 := hb1.trans (hb2.mono hb1.size)
  obtain ⟨A1, c1, rfl, hx1⟩ := own_ints hown1 hgl
  have X2 := Lib.hid hx1
  have Hgl := Lib.hid hgl
  have hx2 : (gridL step l').length ≤ 200 := by omega
  have hne : (((gridL step l').length : Int) != ((gridL step l').length : Int)) = false := by simp
  clear n1 hb2 hb1 hown1 hx1 hgl
  go_wp2_with fail
  refine (room_any A c l' _ N2.out (by omega)).mono ?_
  rintro e w3 ⟨g, rfl, hfull, hb3⟩
  have N3 := Lib.hid (N2.out.later hb3)
  have G3 := Lib.hid (own_whole hfull)
  have hB3 := hB2.trans (hb3.mono hB2.size)
  have X3 := Lib.hid (ints_keep X2.out hb3)
  clear hfull N2 hb3 hB2 X2
  go_wp2_with fail
  refine (HG.out _ _ _ (full_notes G3.out)).mono ?_
  rintro e w4 ⟨v2, rfl, hown2, hb4⟩
  obtain ⟨A2, c2, rfl, hx5⟩ := own_ints hown2 Hgl.out
  have Y4 := Lib.hid hx5
  have N4 := Lib.hid (N3.out.later hb4)
  have G4 := Lib.hid (heap_keep G3.out hb4)
  have hB4 := hB3.trans (hb4.mono hB3.size)
  have X4 := Lib.hid (ints_keep X3.out hb4)
  clear N3 G3 hb4 hB3 X3 hx5 hown2
  generalize gridL step l' = xs at *
  go_wp2_with fail
  refine (stayed_true g c A l' _ G4.out N4.out (by omega)).mono ?_
  rintro e w8 ⟨rfl, hb8⟩
  have hB8 := hB4.trans (hb8.mono hB4.size)
  have X8 := Lib.hid (ints_keep X4.out hb8)
  have Y8 := Lib.hid (ints_keep Y4.out hb8)
  clear N4 G4 hb8 hB4 X4 Y4
  go_wp2_with fail
  go_loopw [50] (fun i wr => ∃ k : Nat, k ≤ xs.length ∧ i = .int .i64 k ∧ Below w8.heap.size w8 wr) (fun i _ => xs.length - (intOf i).toNat)
  case atStart => exact ⟨0, by omega, rfl, Below.refl _ _⟩
  case round =>
    obtain ⟨k, hk, rfl, hbl⟩ := hrel
    by_cases hlt : k < xs.length
    · obtain ⟨g1, rfl, hg1, hc1⟩ := ints_keep X8.out hbl (by omega)
      obtain ⟨g2, rfl, hg2, hc2⟩ := ints_keep Y8.out hbl (by omega)
      have d1 := hc1 k hlt
      have d2 := hc2 k hlt
      generalize xs.getD k 0 = x at *
      have i1 : (0 : Int) ≤ (k : Int) := by omega
      have i2 : (k : Int) < (xs.length : Int) := by omega
      clear hc1 hc2
      go_wp2_with fail
      go_quiet (fail)
      go_wp2_with fail
      go_roundw
      case rel => exact ⟨k + 1, by omega, by go_num, belowD hbl _⟩
      case measure => simp [intOf]; omega
    · obtain rfl : k = xs.length := by omega
      have hB9 := hB8.trans (hbl.mono hB8.size)
      go_wp2_with fail
      refine (wakes_any _).mono ?_
      rintro e w9 ⟨rfl, hb9⟩
      go_wp2_with fail
      go_ret
      exact ⟨rfl, hB9.trans (hb9.mono hB9.size)⟩

theorem chantgrids_any (A : Option Addr) (c step : Nat) (l : List Note) (w : World) (hn : IsNotes w w.heap.size A l) (hc : l.length ≤ c) (hl : l.length ≤ 9223372036854775807) :
    Calls Try.prog 10 #[.slice A l.length c, .float .f64 step] w fun e w' => e = .returned (.bool true) ∧ Below w.heap.size w w' := by
  have hlen : (l.take 200).length ≤ 65536 := by simp; omega
  cases h : stepOk step with
  | false => exact chantgrids_no A c step 2 l w hn hc hl (fun A c W hW => refgrid_no A c step _ W h) (fun A c W hW => grid_no A c step _ W h)
  | true =>
    cases h2 : gridAll step (l.take 200) with
    | false => exact chantgrids_no A c step 5 l w hn hc hl (fun A c W hW => (refgrid_post A c step _ W hW h hlen).mono fun _ _ hp => hp.2 h2) (fun A c W hW => (grid_post A c step _ W hW h hlen).mono fun _ _ hp => hp.2 h2)
    | true => exact chantgrids_yes A c step l w hn hc hl (fun A c W hW => (refgrid_post A c step _ W hW h hlen).mono fun _ _ hp => hp.1 h2) (fun A c W hW => (grid_post A c step _ W hW h hlen).mono fun _ _ hp => hp.1 h2)
end Go.Proofs.Ytjlncnjmcgkkhaa

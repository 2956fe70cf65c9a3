import Derived.Test.YtjlncnjmcgkkhaaA6
namespace Go.Proofs.Ytjlncnjmcgkkhaa
set_option linter.unusedVariables false
set_option linter.unusedSimpArgs false
open Go.RowKit
attribute [local go_sem] run_store_float

/-- what 'chant.Merge' hands back: all notes in order, in memory of its own -/
def MergeOk (vs : List (List Note)) (w : World) (e : Ending) (w' : World) : Prop :=
  ∃ v, e = .returned (.tuple #[v, .int .i64 0]) ∧ w'.ownsRow w.heap.size 60 8 v (total vs) (cellsOf vs (sortP vs (keysTo vs vs.length))) ∧ Below w.heap.size w w'

theorem keysTo_lt (vs : List (List Note)) (k : Nat) (hk : k ≤ vs.length) : ∀ p ∈ keysTo vs k, p.1 < vs.length ∧ p.2 < total vs + 1 := by
  intro p hp
  simp only [keysTo, List.mem_flatMap, List.mem_map, List.mem_range] at hp
  obtain ⟨v, hv, i, hi, rfl⟩ := hp
  refine ⟨by simp; omega, ?_⟩
  have h1 := total_take vs v (by omega)
  have h2 := total_take_le vs (v + 1)
  simp only []
  omega

set_option maxRecDepth 100000 in
set_option maxHeartbeats 2000000 in
theorem merge_any (A : Option Addr) (c : Nat) (vs : List (List Note)) (w : World) (hv : IsVoices w w.heap.size A vs) (hlong : longB vs = false) :
    Calls Try.prog 17 #[.slice A vs.length c] w (MergeOk vs w) := by
  have hl16 : vs.length ≤ 16 ∧ total vs ≤ 65536 := by unfold longB at hlong; simp at hlong; omega
  have hlong' : ∀ W, IsVoices W w.heap.size A vs → Calls Try.prog 43 #[.slice A vs.length c] W fun e w' => e = .returned (.bool false) ∧ W = w' := fun W h => by
    have := long_any A c vs _ W h (by omega) (by omega); rw [hlong] at this; exact this
  have HL := Lib.hid hlong'
  clear hlong' hlong
  obtain ⟨hl1, hl2⟩ := hl16
  have ht' : ∀ k, total (vs.take k) ≤ 65536 := fun k => Nat.le_trans (total_take_le vs k) hl2
  go_enter Try.func17, Try.ntmps17
  go_wp2_with (go_at_call 43; refine (HL.out _ hv).mono ?_; rintro e w' ⟨rfl, rfl⟩)
  go_loopw [4, 13] (fun v i wr => ∃ k : Nat, k ≤ vs.length ∧ i = .int .i64 k ∧ wr.ownsRow w.heap.size 60 8 v (total (vs.take k)) (cellsOf vs (keysTo vs k)) ∧ Below w.heap.size w wr) (fun _ i _ => vs.length - (intOf i).toNat)
  case atStart => exact ⟨0, by omega, rfl, ⟨rfl, .inl ⟨rfl, rfl⟩⟩, Below.refl _ _⟩
  case round =>
    rename_i wr
    obtain ⟨k, hk, rfl, hown, hbl⟩ := hrel
    by_cases hlt : k < vs.length
    · obtain ⟨b, off, rfl, hb, hn⟩ := hv (by omega)
      obtain ⟨A', c', hc, _, hi⟩ := hn k hlt
      have hc1 := (hbl.cell (p := ⟨b, off + k, none⟩) hb).trans hc
      have h1 := ht' k
      have h2 := ht' (k + 1)
      have h3 := total_take vs k hlt
      have h5 : total (vs.take k) + (vs.getD k []).length ≤ 65536 := by omega
      have HK := Lib.hid (keysIn_zero vs k)
      have HS := Lib.hid (keysTo_succ vs k)
      have H3 := Lib.hid h3
      clear h3 hn hc
      generalize hlk : vs.getD k [] = lk at *
      have Hlk := Lib.hid hlk
      clear hlk
      generalize hto : total (vs.take k) = T at *
      have Hto := Lib.hid hto
      clear hto
      go_wp2_with fail
      go_loopw [4, 20] (fun v i wx => ∃ j : Nat, j ≤ lk.length ∧ i = .int .i64 j ∧ wx.ownsRow w.heap.size 60 8 v (T + j) (cellsOf vs (keysIn vs k j)) ∧ Below w.heap.size w wx) (fun _ i _ => lk.length - (intOf i).toNat)
      case atStart => exact ⟨0, by omega, rfl, by rw [HK.out]; exact hown, hbl⟩
      case round =>
        clear hown hbl hc1 hb
        obtain ⟨j, hj, rfl, hown, hbl⟩ := hrel
        by_cases hjl : j < lk.length
        · obtain ⟨b', off', rfl, hb', hnt⟩ := hi (by omega)
          obtain ⟨c0, c1, c2, c3, c4, c5⟩ := hnt j hjl
          replace c0 := (hbl.cell (p := ⟨b', _, none⟩) hb').trans c0
          replace c1 := (hbl.cell (p := ⟨b', _, none⟩) hb').trans c1
          replace c2 := (hbl.cell (p := ⟨b', _, none⟩) hb').trans c2
          replace c3 := (hbl.cell (p := ⟨b', _, none⟩) hb').trans c3
          replace c4 := (hbl.cell (p := ⟨b', _, none⟩) hb').trans c4
          replace c5 := (hbl.cell (p := ⟨b', _, none⟩) hb').trans c5
          have HKS := Lib.hid (keysIn_succ vs k j)
          have hlook : look vs (k, j) = lk.getD j default := by unfold look; simp only [Hlk.out]
          have HLook := Lib.hid hlook
          clear hlook hnt
          generalize lk.getD j default = nt at *
          have hTj : T + j + 1 ≤ 65536 := by omega
          go_wp2_with (at_builtin; go_loud (refine wpList_append_box _ rfl _ _ 31 rfl w.heap.size 60 _ _ 8 64 Try.underlying31 info60 zero60 size60 bytes60 rfl (by decide) _ (T + j) (cellsOf vs (keysIn vs k j)) _ (wr.heap.size + 1) rfl rfl ?c0 (hown.alloc _) rfl ?c1 ?c2 ?c3 ?c4 ?_); rotate_right; intro v1 w1 hown1 hbl1; clear hown)
          case c0 => simp
          case c1 => exact ⟨rfl, rfl, rfl, rfl, rfl, rfl, rfl, rfl⟩
          case c2 => unfold maxLen; omega
          case c3 => omega
          case c4 => have := hbl.size; simp; omega
          go_roundw
          case rel =>
            refine ⟨j + 1, by omega, by go_num, ?_, ?_⟩
            · rw [HKS.out, cellsOf_snoc, sungOf, HLook.out]; exact hown1
            · exact (hbl.alloc hbl.size _).trans hbl1
          case measure => simp [intOf]; omega
        · obtain rfl : j = lk.length := by omega
          go_wp2_with fail
          go_roundw
          case rel => exact ⟨k + 1, by omega, by go_num, by rw [HS.out, H3.out]; exact hown, hbl⟩
          case measure => simp [intOf]; omega
    · obtain rfl : k = vs.length := by omega
      have hkeys := keysTo_length vs vs.length (Nat.le_refl _)
      rw [← hkeys] at hown
      have hks : ∀ p ∈ keysTo vs vs.length, p.1 < cap62 ∧ p.2 < cap62 := fun p hp => by
        have := keysTo_lt vs vs.length (Nat.le_refl _) p hp
        have hc : cap62 = 4611686018427387904 := rfl
        omega
      have hlen : (keysTo vs vs.length).length < 4611686018427387904 := by rw [hkeys, List.take_length]; omega
      have Hs := Lib.hid fun v (h : wr.ownsRow w.heap.size 60 8 v _ _) => sort_own vs (keysTo vs vs.length) hks hlen v w.heap.size wr h
      have Hown := Lib.hid hown
      have Hk := Lib.hid hkeys
      clear hown hks hlen hkeys
      go_wp2_with (go_at_call 44; refine (Hs.out _ Hown.out).mono ?_; rintro e w1 ⟨rfl, hown1, hbl1⟩)
      go_ret2
      refine ⟨_, rfl, ?_, hbl.trans hbl1⟩
      rw [Hk.out, List.take_length] at hown1
      exact hown1
end Go.Proofs.Ytjlncnjmcgkkhaa

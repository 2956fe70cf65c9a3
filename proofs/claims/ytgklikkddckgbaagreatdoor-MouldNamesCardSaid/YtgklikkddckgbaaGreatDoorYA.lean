import Derived.Test.YtgklikkddckgbaaGreatDoorFAC
/- Three long texts: what is read of them. Plain. -/
namespace Go.Proofs.YtgklikkddckgbaaGreatDoor.Mo
set_option linter.unusedVariables false
set_option linter.unusedSimpArgs false
open Go.RowKit

theorem isB_byt9 {s : ByteArray} {i : Nat} {c : Int} (h : i < s.size) : isB s i c = (((byteD s i).toNat : Int) == c) := by
  rw [isB_in h]; unfold byteD; rw [dif_pos h]
theorem wholeP_nl {s : ByteArray} {f : Fm} {t : Bool} : ∀ (n q i : Nat), (∀ j, i ≤ j → j < i + n → isB s j 10 = true) → wholeP s (q + n) f t i = wholeP s q f t (i + n)
  | 0, q, i, _ => rfl
  | n + 1, q, i, h => by
    have h0 := h i (Nat.le_refl _) (by omega)
    have hi := isB_lt h0
    have h1 : wholeP s (q + (n + 1)) f t i = wholeP s (q + n) f t (i + 1) := by
      rw [← Nat.add_assoc, wholeP, if_neg (by omega), if_pos h0]
      unfold nextN
      rw [if_pos hi]
    rw [h1, wholeP_nl n q (i + 1) (fun j a b => h j (by omega) (by omega))]
    congr 1
    omega
theorem form_long {s : ByteArray} (h : 65536 < s.size) : formP s = .error (3, 65536) := by
  unfold formP
  rw [if_pos h]
theorem form_nl {s : ByteArray} (hs : s.size = 65536) (h : ∀ j, j < 65536 → isB s j 10 = true) : formP s = .error (180, 65536) := by
  unfold formP
  rw [if_neg (by omega), show s.size + 1 = (0 + 1) + 65536 by omega, wholeP_nl 65536 (0 + 1) 0 (fun j _ b => h j (by omega)), wholeP, if_pos (by omega), hs]
  rfl
theorem wholeP_line {s : ByteArray} {f f' : Fm} {t : Bool} {q i j : Nat} (hi : i < s.size) (h10 : isB s i 10 = false) (h35 : isB s i 35 = false) (hl : lineP s f t i = .ok (f', j)) : wholeP s (q + 1) f t i = wholeP s q f' true (nextN s j) := by
  rw [wholeP, if_neg (by omega), if_neg (by simp [h10]), if_neg (by simp [h35]), hl]
def TAIL : ByteArray := ⟨#[102, 111, 114, 109, 32, 97, 10, 115, 116, 97, 110, 122, 97, 32, 120]⟩
theorem form_good {s : ByteArray} (hs : s.size = 65536) (h : ∀ j, j < 65521 → isB s j 10 = true) (ht : ∀ k, k < 15 → byteD s (65521 + k) = byteD TAIL k) : ∃ f, formP s = .ok f := by
  have b : ∀ k, k < 15 → ∀ c, isB s (65521 + k) c = (((byteD TAIL k).toNat : Int) == c) := fun k hk c => by
    rw [isB_byt9 (by omega), ht k hk]
  have tt : ∀ i k (c : Int), k < 15 → i = 65521 + k → (((byteD TAIL k).toNat : Int) == c) = true → isB s i c = true := fun i k c hk e h => by rw [e, b k hk c, h]
  have ff : ∀ i k (c : Int), k < 15 → i = 65521 + k → (((byteD TAIL k).toNat : Int) == c) = false → isB s i c = false := fun i k c hk e h => by rw [e, b k hk c, h]
  have h1 : lineP s Fm.zero false 65521 = .ok ({ Fm.zero with name := cutB s 65526 65527 }, 65527) := by
    have m : mustP s FORM 65521 = .ok 65526 := by
      unfold FORM
      rw [mustP, if_pos (tt 65521 0 102 (by decide) rfl (by decide)), mustP, if_pos (tt 65522 1 111 (by decide) rfl (by decide)), mustP, if_pos (tt 65523 2 114 (by decide) rfl (by decide)), mustP, if_pos (tt 65524 3 109 (by decide) rfl (by decide)), mustP, if_pos (tt 65525 4 32 (by decide) rfl (by decide)), mustP]
    have e5 : endB s 65526 = false := by
      have := ff 65526 5 10 (by decide) rfl (by decide)
      rw [isB_in (by omega)] at this
      rw [endB_in (by omega)]
      exact this
    have e6 : endB s 65527 = true := by
      have := tt 65527 6 10 (by decide) rfl (by decide)
      rw [isB_in (by omega)] at this
      rw [endB_in (by omega)]
      exact this
    have r : restE s 65526 = 65527 := by
      rw [restE_go e5, restE_stop e6]
    unfold lineP
    rw [if_pos (by simp), m]
    show (if endB s 65526 = true then _ else _) = _
    rw [if_neg (by rw [e5]; decide), r]
  obtain ⟨nm, hnm⟩ : ∃ nm, nm = cutB s 65526 65527 := ⟨_, rfl⟩
  rw [← hnm] at h1
  have h2 : lineP s { Fm.zero with name := nm } true 65528 = .ok ({ Fm.zero with name := nm, rows := [⟨false, [⟨-1, 0, [], 65535⟩]⟩] }, 65536) := by
    have m : mustP s STANZA 65528 = .ok 65534 := by
      unfold STANZA
      rw [mustP, if_pos (tt 65528 7 115 (by decide) rfl (by decide)), mustP, if_pos (tt 65529 8 116 (by decide) rfl (by decide)), mustP, if_pos (tt 65530 9 97 (by decide) rfl (by decide)), mustP, if_pos (tt 65531 10 110 (by decide) rfl (by decide)), mustP, if_pos (tt 65532 11 122 (by decide) rfl (by decide)), mustP, if_pos (tt 65533 12 97 (by decide) rfl (by decide)), mustP]
    have rh : rhymeP s 65535 = .ok (-1, 0, 65536) := by
      unfold rhymeP
      rw [if_pos (tt 65535 14 120 (by decide) rfl (by decide))]
    have mk : ∀ l, marksP s l (s.size + 1) [] 65536 = .ok ([], 65536) := fun l => by
      rw [marksP, if_neg (by omega)]
    have it : ∀ l n, itemP s l n 65535 = .ok (⟨-1, 0, [], 65535⟩, 65536) := fun l n => by
      unfold itemP
      rw [rh]
      show (match marksP s l (s.size + 1) [] 65536 with | .error e => _ | .ok (ms, k) => _) = _
      rw [mk]
      show (if ¬ endB s 65536 = true ∧ ¬ isB s 65536 32 = true then _ else _) = _
      rw [if_neg (by rw [endB_out (by omega)]; simp)]
      by_cases hn : 0 ≤ n
      · rw [if_pos hn]; rfl
      · rw [if_neg hn]
    have its : ∀ f, itemsP s f false (s.size + 1) [] 65534 = .ok ([⟨-1, 0, [], 65535⟩], 65536) := fun f => by
      rw [itemsP, if_pos (tt 65534 13 32 (by decide) rfl (by decide)), it, hs]
      show itemsP s f false (65535 + 1) [⟨-1, 0, [], 65535⟩] 65536 = _
      rw [itemsP, if_neg (by rw [isB_out (by omega)]; simp)]
    unfold lineP
    rw [if_neg (by simp), if_neg (by rw [ff 65528 7 109 (by decide) rfl (by decide)]; simp), if_neg (by rw [ff 65528 7 114 (by decide) rfl (by decide)]; decide), m]
    show stanzaP s _ false 65528 65534 = _
    unfold stanzaP
    rw [if_neg (by rw [tt 65534 13 32 (by decide) rfl (by decide)]; decide), its]
    rfl
  refine ⟨{ Fm.zero with name := nm, rows := [⟨false, [⟨-1, 0, [], 65535⟩]⟩] }, ?_⟩
  unfold formP
  rw [if_neg (by omega), show s.size + 1 = (13 + 1 + 1 + 1) + 65521 by omega, wholeP_nl 65521 (13 + 1 + 1 + 1) 0 (fun j _ c => h j (by omega))]
  rw [wholeP_line (by omega) (ff 65521 0 10 (by decide) rfl (by decide)) (ff 65521 0 35 (by decide) rfl (by decide)) h1, show nextN s 65527 = 65528 by unfold nextN; rw [if_pos (by omega)]]
  rw [wholeP_line (by omega) (ff 65528 7 10 (by decide) rfl (by decide)) (ff 65528 7 35 (by decide) rfl (by decide)) h2, show nextN s 65536 = 65536 by unfold nextN; rw [if_neg (by omega)]]
  rw [wholeP, if_pos (by omega)]
  rfl
end Go.Proofs.YtgklikkddckgbaaGreatDoor.Mo

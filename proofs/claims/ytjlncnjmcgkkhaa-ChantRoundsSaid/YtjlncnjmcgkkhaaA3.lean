import Derived.Test.YtjlncnjmcgkkhaaA2
import Derived.Laws.FloatArith
namespace Go.Proofs.Ytjlncnjmcgkkhaa
set_option linter.unusedVariables false
set_option linter.unusedSimpArgs false
open Go.RowKit

/- Notes and voices as they lie in memory. -/
structure Note where
  line : Int
  beat : Int
  word : Int
  strong : Bool
  at_ : Nat
  long : Nat
deriving Inhabited, DecidableEq
def Note.cells (n : Note) : List Value := [.int .i64 n.line, .int .i64 n.beat, .int .i64 n.word, .bool n.strong, .float .f64 n.at_, .float .f64 n.long]

/-- the six cells of a note at an address -/
def NoteAt (w : World) (b o : Nat) (x : Note) : Prop :=
  w.cell? ⟨b, o, none⟩ = some (.int .i64 x.line) ∧ w.cell? ⟨b, o + 1, none⟩ = some (.int .i64 x.beat) ∧ w.cell? ⟨b, o + 2, none⟩ = some (.int .i64 x.word) ∧
  w.cell? ⟨b, o + 3, none⟩ = some (.bool x.strong) ∧ w.cell? ⟨b, o + 4, none⟩ = some (.float .f64 x.at_) ∧ w.cell? ⟨b, o + 5, none⟩ = some (.float .f64 x.long)

def IsNotes (w : World) (B : Nat) (A : Option Addr) (l : List Note) : Prop :=
  0 < l.length → ∃ b off, A = some ⟨b, off, none⟩ ∧ b < B ∧ ∀ k, k < l.length → NoteAt w b (off + k * 6) (l.getD k default)

def IsVoices (w : World) (B : Nat) (A : Option Addr) (vs : List (List Note)) : Prop :=
  0 < vs.length → ∃ b off, A = some ⟨b, off, none⟩ ∧ b < B ∧
    ∀ k, k < vs.length → ∃ A' c', w.cell? ⟨b, off + k, none⟩ = some (.slice A' (vs.getD k []).length c') ∧ (vs.getD k []).length ≤ c' ∧ IsNotes w B A' (vs.getD k [])

theorem NoteAt.keep {w w' : World} {B b o : Nat} {x : Note} (h : NoteAt w b o x) (hb : b < B) (hk : ∀ p : Addr, p.block < B → w'.cell? p = w.cell? p) : NoteAt w' b o x := by
  obtain ⟨h0, h1, h2, h3, h4, h5⟩ := h
  exact ⟨(hk ⟨b, _, none⟩ hb).trans h0, (hk ⟨b, _, none⟩ hb).trans h1, (hk ⟨b, _, none⟩ hb).trans h2, (hk ⟨b, _, none⟩ hb).trans h3, (hk ⟨b, _, none⟩ hb).trans h4, (hk ⟨b, _, none⟩ hb).trans h5⟩
theorem IsNotes.keep {w w' : World} {B : Nat} {A : Option Addr} {l : List Note} (h : IsNotes w B A l) (hk : ∀ p : Addr, p.block < B → w'.cell? p = w.cell? p) : IsNotes w' B A l := fun hl => by
  obtain ⟨b, off, e, hb, hn⟩ := h hl
  exact ⟨b, off, e, hb, fun k hk' => (hn k hk').keep hb hk⟩
theorem IsVoices.keep {w w' : World} {B : Nat} {A : Option Addr} {vs : List (List Note)} (h : IsVoices w B A vs) (hk : ∀ p : Addr, p.block < B → w'.cell? p = w.cell? p) : IsVoices w' B A vs := fun hl => by
  obtain ⟨b, off, e, hb, hn⟩ := h hl
  refine ⟨b, off, e, hb, fun k hk' => ?_⟩
  obtain ⟨A', c', hc, hl', hi⟩ := hn k hk'
  exact ⟨A', c', (hk ⟨b, _, none⟩ hb).trans hc, hl', hi.keep hk⟩
theorem keepOf {B : Nat} {w w' : World} (h : Below B w w') : ∀ p : Addr, p.block < B → w'.cell? p = w.cell? p := fun _ hp => h.cell hp
theorem IsNotes.below {w w' : World} {B : Nat} {A : Option Addr} {l : List Note} (h : IsNotes w B A l) (hb : Below B w w') : IsNotes w' B A l := h.keep (keepOf hb)
theorem IsVoices.below {w w' : World} {B : Nat} {A : Option Addr} {l : List (List Note)} (h : IsVoices w B A l) (hb : Below B w w') : IsVoices w' B A l := h.keep (keepOf hb)

def total (vs : List (List Note)) : Nat := (vs.map List.length).sum
theorem total_take (vs : List (List Note)) (k : Nat) (h : k < vs.length) : total (vs.take (k + 1)) = total (vs.take k) + (vs.getD k []).length := by
  unfold total
  rw [List.take_succ_eq_append_getElem h, List.map_append, List.sum_append]
  simp [List.getD_eq_getElem?_getD, h]
theorem total_take_le (vs : List (List Note)) (k : Nat) : total (vs.take k) ≤ total vs := by
  unfold total
  conv => rhs; rw [← List.take_append_drop k vs]
  rw [List.map_append, List.sum_append]; omega
def longB (vs : List (List Note)) : Bool := decide (16 < vs.length) || decide (65536 < total vs)

set_option maxRecDepth 100000 in
set_option maxHeartbeats 2000000 in
theorem long_any (A : Option Addr) (c : Nat) (vs : List (List Note)) (B : Nat) (w : World) (hv : IsVoices w B A vs) (ht : total vs ≤ 4611686018427387904) (hl : vs.length ≤ 4611686018427387904) :
    Calls Try.prog 43 #[.slice A vs.length c] w fun e w' => e = .returned (.bool (longB vs)) ∧ w = w' := by
  have ht' : ∀ k, total (vs.take k) ≤ 4611686018427387904 := fun k => Nat.le_trans (total_take_le vs k) ht
  go_enter Try.func43, Try.ntmps43
  go_wp2_with fail
  go_loop [3, 5, 8] (fun s _ i => ∃ k : Nat, k ≤ vs.length ∧ i = .int .i64 k ∧ s = .int .i64 (total (vs.take k))) (fun _ _ i => vs.length - (intOf i).toNat)
  case atStart => exact ⟨0, by omega, rfl, rfl⟩
  case round =>
    obtain ⟨k, hk, rfl, rfl⟩ := hrel
    by_cases hlt : k < vs.length
    · obtain ⟨b, off, rfl, hb, hn⟩ := hv (by omega)
      obtain ⟨A', c', hc, _, _⟩ := hn k hlt
      have h1 := ht' k; have h2 := ht' (k + 1)
      have h3 := total_take vs k hlt
      have h4 : total (vs.take k) + (vs.getD k []).length ≤ 4611686018427387904 := by omega
      clear hn
      generalize vs.getD k [] = lk at *
      have H3 := Lib.hid h3
      clear h3
      go_wp2_with fail
      go_round
      case rel => exact ⟨k + 1, by omega, by go_num, by rw [H3.out]; go_num⟩
      case measure => simp [intOf]; omega
    · obtain rfl : k = vs.length := by omega
      have h1 := ht' vs.length
      have e : longB vs = (decide ((16 : Int) < (vs.length : Int)) || decide ((65536 : Int) < (total (vs.take vs.length) : Int))) := by
        unfold longB; rw [List.take_length, Bool.eq_iff_iff]; simp only [Bool.or_eq_true, decide_eq_true_eq]; omega
      rw [List.take_length] at e
      have E := Lib.hid e
      clear e
      go_wp2_with fail
      all_goals (go_ret; exact ⟨ret_bool (by rw [E.out]; try simp [*]), rfl⟩)
end Go.Proofs.Ytjlncnjmcgkkhaa

import Derived.Test.YtjlncnjmcgkkhaaC3
namespace Go.Proofs.Ytjlncnjmcgkkhaa
set_option linter.unusedVariables false
set_option linter.unusedSimpArgs false
open Go.RowKit
attribute [local go_sem] run_store_float

theorem sameB_refl (a : Nat) : sameB a a = true := by simp [sameB]
theorem eqN_refl (n : Note) : eqN n n = true := by simp [eqN, sameB_refl]

/-- the eight cells of a note of a voice -/
def SungAt (w : World) (b o : Nat) (p : Nat × Nat) (x : Note) : Prop :=
  w.cell? ⟨b, o, none⟩ = some (.int .i64 p.1) ∧ w.cell? ⟨b, o + 1, none⟩ = some (.int .i64 p.2) ∧ w.cell? ⟨b, o + 2, none⟩ = some (.int .i64 x.line) ∧ w.cell? ⟨b, o + 3, none⟩ = some (.int .i64 x.beat) ∧
  w.cell? ⟨b, o + 4, none⟩ = some (.int .i64 x.word) ∧ w.cell? ⟨b, o + 5, none⟩ = some (.bool x.strong) ∧ w.cell? ⟨b, o + 6, none⟩ = some (.float .f64 x.at_) ∧ w.cell? ⟨b, o + 7, none⟩ = some (.float .f64 x.long)
def IsSung (vs : List (List Note)) (w : World) (B : Nat) (A : Option Addr) (ks : List (Nat × Nat)) : Prop :=
  0 < ks.length → ∃ b off, A = some ⟨b, off, none⟩ ∧ b < B ∧ ∀ k, k < ks.length → SungAt w b (off + k * 8) (ks.getD k (0, 0)) (look vs (ks.getD k (0, 0)))

theorem SungAt.keep {w w' : World} {B b o : Nat} {p : Nat × Nat} {x : Note} (h : SungAt w b o p x) (hb : b < B) (hk : ∀ p : Addr, p.block < B → w'.cell? p = w.cell? p) : SungAt w' b o p x := by
  obtain ⟨h0, h1, h2, h3, h4, h5, h6, h7⟩ := h
  exact ⟨(hk ⟨b, _, none⟩ hb).trans h0, (hk ⟨b, _, none⟩ hb).trans h1, (hk ⟨b, _, none⟩ hb).trans h2, (hk ⟨b, _, none⟩ hb).trans h3, (hk ⟨b, _, none⟩ hb).trans h4, (hk ⟨b, _, none⟩ hb).trans h5, (hk ⟨b, _, none⟩ hb).trans h6, (hk ⟨b, _, none⟩ hb).trans h7⟩
theorem IsSung.keep {vs : List (List Note)} {w w' : World} {B : Nat} {A : Option Addr} {ks : List (Nat × Nat)} (h : IsSung vs w B A ks) (hk : ∀ p : Addr, p.block < B → w'.cell? p = w.cell? p) : IsSung vs w' B A ks := fun hl => by
  obtain ⟨b, off, e, hb, hn⟩ := h hl
  exact ⟨b, off, e, hb, fun k hk' => (hn k hk').keep hb hk⟩
theorem IsSung.more {vs : List (List Note)} {w : World} {B B' : Nat} {A : Option Addr} {ks : List (Nat × Nat)} (h : IsSung vs w B A ks) (hB : B ≤ B') : IsSung vs w B' A ks := fun hl => by
  obtain ⟨b, off, e, hb, hn⟩ := h hl
  exact ⟨b, off, e, by omega, hn⟩
theorem IsSung.below {vs : List (List Note)} {w w' : World} {B : Nat} {A : Option Addr} {ks : List (Nat × Nat)} (h : IsSung vs w B A ks) (hb : Below B w w') : IsSung vs w' B A ks := h.keep (keepOf hb)

theorem cellsOf_get (vs : List (List Note)) (ks : List (Nat × Nat)) (k j : Nat) (hj : j < 8) (hk : k < ks.length) : (cellsOf vs ks)[k * 8 + j]? = (sungOf vs (ks.getD k (0, 0)))[j]? := by
  induction ks generalizing k with
  | nil => simp at hk
  | cons p ks ih =>
    cases k with
    | zero =>
      show (sungOf vs p ++ cellsOf vs ks)[0 * 8 + j]? = _
      rw [List.getElem?_append_left (by rw [sungOf_length]; omega)]; simp
    | succ k =>
      show (sungOf vs p ++ cellsOf vs ks)[(k + 1) * 8 + j]? = _
      rw [List.getElem?_append_right (by rw [sungOf_length]; omega), sungOf_length]
      have : (k + 1) * 8 + j - 8 = k * 8 + j := by omega
      rw [this, ih k (by simpa using hk)]; simp

/-- a row of the call's own that holds notes of voices -/
theorem sung_of_own {vs : List (List Note)} {w : World} {base n : Nat} {v : Value} {ks : List (Nat × Nat)} (h : w.ownsRow base 60 8 v n (cellsOf vs ks)) (hn : ks.length = n) :
    ∃ A c, v = .slice A ks.length c ∧ IsSung vs w w.heap.size A ks := by
  rcases Nat.eq_zero_or_pos n with h0 | h0
  · subst h0
    rcases h.2 with ⟨rfl, _⟩ | ⟨g, cap, cur, rfl, _⟩
    · exact ⟨_, _, by rw [hn], fun hl => by omega⟩
    · exact ⟨_, _, by rw [hn], fun hl => by omega⟩
  · obtain ⟨g, cap, rfl, _, hg⟩ := own_form h h0
    refine ⟨_, cap, by rw [hn], fun _ => ⟨g, 0, rfl, hg, fun k hk => ?_⟩⟩
    have hc : ∀ j, j < 8 → w.cell? ⟨g, 0 + k * 8 + j, none⟩ = (sungOf vs (ks.getD k (0, 0)))[j]? := fun j hj => by
      rw [Nat.zero_add, h.cellAt (k * 8 + j) (by omega), cellsOf_get vs ks k j hj hk]
    exact ⟨hc 0 (by omega), hc 1 (by omega), hc 2 (by omega), hc 3 (by omega), hc 4 (by omega), hc 5 (by omega), hc 6 (by omega), hc 7 (by omega)⟩

set_option maxRecDepth 100000 in
set_option maxHeartbeats 4000000 in
/-- sung: the same notes of voices -/
theorem sung_true (vs : List (List Note)) (ks : List (Nat × Nat)) (A A' : Option Addr) (c c' : Nat) (w : World) (ha : IsSung vs w w.heap.size A ks) (hb : IsSung vs w w.heap.size A' ks) (hm : ks.length ≤ 4611686018427387904) :
    Calls Try.prog 20 #[.slice A ks.length c, .slice A' ks.length c'] w fun e w' => e = .returned (.bool true) ∧ Below w.heap.size w w' := by
  have hne : ((ks.length : Int) != (ks.length : Int)) = false := by simp
  go_enter Try.func20, Try.ntmps20
  go_wp2_with fail
  go_loopw [13] (fun i wr => ∃ k : Nat, k ≤ ks.length ∧ i = .int .i64 k ∧ Below w.heap.size w wr) (fun i _ => ks.length - (intOf i).toNat)
  case atStart => exact ⟨0, by omega, rfl, Below.refl _ _⟩
  case round =>
    rename_i wr
    obtain ⟨k, hk, rfl, hbl⟩ := hrel
    by_cases hlt : k < ks.length
    · obtain ⟨b, off, rfl, hbb, hn⟩ := ha (by omega)
      obtain ⟨b', off', rfl, hbb', hn'⟩ := hb (by omega)
      obtain ⟨c0, c1, c2, c3, c4, c5, c6, c7⟩ := (hn k hlt).keep hbb (keepOf hbl)
      obtain ⟨d0, d1, d2, d3, d4, d5, d6, d7⟩ := (hn' k hlt).keep hbb' (keepOf hbl)
      clear hn hn'
      generalize look vs (ks.getD k (0, 0)) = x at *
      generalize ks.getD k (0, 0) = p at *
      obtain ⟨p1, p2⟩ := p
      have heq := fun W => equal_any x x W
      rw [eqN_refl] at heq
      have Heq := Lib.hid heq
      clear heq
      have hbs : b < wr.heap.size := Nat.lt_of_lt_of_le hbb hbl.size
      have hbs' : b' < wr.heap.size := Nat.lt_of_lt_of_le hbb' hbl.size
      go_wp2_with fail
      go_region_held3 (fun w' => Below wr.heap.size wr w' ∧ ∀ b o, b < wr.heap.size → w'.cell? ⟨b, o, none⟩ = wr.cell? ⟨b, o, none⟩) (((repeat (apply keepS; assumption)); exact startS)) (first | (go_at_call 38; refine (Heq.out _).mono ?_; rintro e w2 ⟨rfl, hb2⟩))
      have hS : Below wr.heap.size wr w2 := And.left (by assumption)
      go_wp2_with fail
      go_roundw
      case rel => exact ⟨k + 1, by omega, by go_num, hbl.trans (hS.mono hbl.size)⟩
      case measure => simp [intOf]; omega
    · obtain rfl : k = ks.length := by omega
      go_wp2_with fail
      go_ret
      exact ⟨rfl, hbl⟩
end Go.Proofs.Ytjlncnjmcgkkhaa

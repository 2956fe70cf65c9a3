import Derived.Test.YtjlncnjmcgkkhaaR4
import Derived.Test.YtjlncnjmcgkkhaaF1
import Derived.Deep.RegionHeld3
namespace Go.Proofs.Ytjlncnjmcgkkhaa
set_option linter.unusedVariables false
set_option linter.unusedSimpArgs false
open Go.RowKit
attribute [local go_sem] run_store_float run_fadd run_fsub run_fmul run_fquo

/- ChantRounds: the law's walk. -/
def MadeFrom (ls : Nat → List Note) (B n k : Nat) (v : Value) (w : World) : Prop := ∃ us : List Value, w.ownsRow B 29 1 v n us ∧ ∀ j, k ≤ j → j < n → ∃ u lo, us[j]? = some u ∧ NsEq lo (ls j) ∧ w.ownsRow B 37 6 u (ls j).length (notesCells lo) ∧ ∀ i u', i < j → us[i]? = some u' → u.ownBlock = none ∨ u.ownBlock ≠ u'.ownBlock
theorem Made.from0 {ls : Nat → List Note} {B n : Nat} {v : Value} {w : World} (h : Made ls B n v w) : MadeFrom ls B n 0 v w := by
  obtain ⟨us, h1, h2⟩ := h
  exact ⟨us, h1, fun j _ hj => h2 j hj⟩
theorem MadeFrom.below {ls : Nat → List Note} {B n k : Nat} {v : Value} {w w' : World} (h : MadeFrom ls B n k v w) (hb : Below w.heap.size w w') : MadeFrom ls B n k v w' := by
  obtain ⟨us, h1, h2⟩ := h
  refine ⟨us, own_below h1 hb, fun j hk hj => ?_⟩
  obtain ⟨u, lo, e1, e2, e3, e4⟩ := h2 j hk hj
  exact ⟨u, lo, e1, e2, own_below e3 hb, e4⟩
theorem MadeFrom.spoilt {ls : Nat → List Note} {B n k : Nat} {v u : Value} {us : List Value} {w w' : World} (h1 : w.ownsRow B 29 1 v n us)
    (h2 : ∀ j, k ≤ j → j < n → ∃ u lo, us[j]? = some u ∧ NsEq lo (ls j) ∧ w.ownsRow B 37 6 u (ls j).length (notesCells lo) ∧ ∀ i u', i < j → us[i]? = some u' → u.ownBlock = none ∨ u.ownBlock ≠ u'.ownBlock)
    (hu : us[k]? = some u) (hk : k < n) (hg : w.grownBy w' u.ownBlock) : MadeFrom ls B n (k + 1) v w' := by
  have hap : v.ownBlock = none ∨ v.ownBlock ≠ u.ownBlock := by
    obtain ⟨u0, lo, e1, _, e3, _⟩ := h2 k (Nat.le_refl _) hk
    rw [hu] at e1; injection e1 with e1; subst e1
    rcases own_apart e3 h1 with h | h
    · rw [h]
      cases v.ownBlock <;> simp
    · exact .inr (Ne.symm h)
  refine ⟨us, h1.kept hg hap, fun j hkj hj => ?_⟩
  obtain ⟨u2, lo, e1, e2, e3, e4⟩ := h2 j (by omega) hj
  exact ⟨u2, lo, e1, e2, e3.kept hg (e4 k u (by omega) hu), e4⟩

/-- what a slice of slices of the call's own tells of its row -/
theorem made_at {ls : Nat → List Note} {B n k : Nat} {v : Value} {w : World} {l : List Note} (hls : ∀ j, (ls j).length = l.length) (h : MadeFrom ls B n 0 v w) (hk : k < n) :
    ∃ g cap A c lo, v = .slice (some ⟨g, 0, none⟩) n cap ∧ g < w.heap.size ∧ w.cell? ⟨g, k, none⟩ = some (.slice A l.length c) ∧ NsEq lo (ls k) ∧ l.length ≤ c ∧ IsNotes w w.heap.size A lo := by
  obtain ⟨us, h1, h2⟩ := h
  obtain ⟨u, lo, e1, e2, e3, _⟩ := h2 k (by omega) hk
  obtain ⟨g, cap, rfl, _, hg⟩ := own_form h1 (by omega)
  have hl : lo.length = (ls k).length := e2.1
  obtain ⟨A, c, rfl, hc, hn⟩ := notes_row e3 hl
  rw [hls] at hl
  rw [hl] at e1 hc
  exact ⟨g, cap, A, c, lo, rfl, hg, (h1.cellAt k (by omega)).trans e1, e2, hc, hn⟩

/-- what is refused -/
def RoundNo (ec : Int) (x : Int) (delay : Nat) (l : List Note) : Prop :=
  (∀ A c W, Calls Try.prog 27 #[.slice A l.length c, .int .i64 x, .float .f64 delay] W (RoundSays ec W)) ∧ ∀ A c W, Calls Try.prog 28 #[.slice A l.length c, .int .i64 x, .float .f64 delay] W (RoundSays ec W)

set_option maxRecDepth 100000 in
set_option maxHeartbeats 4000000 in
theorem chantrounds_no_small (A : Option Addr) (c delay : Nat) (ec x : Int) (l : List Note) (w : World) (hn : IsNotes w w.heap.size A l) (hc : l.length ≤ c) (hl : l.length ≤ 65536)
    (hR : RoundNo ec x delay (l.take 200)) :
    Calls Try.prog 6 #[.slice A l.length c, .int .i64 x, .float .f64 delay] w fun e w' => e = .returned (.bool true) ∧ Below w.heap.size w w' := by
  have Hfew := Lib.hid fun W => few_any A c l W hc (by omega)
  have Hn := Lib.hid (hn.take 200)
  have hlen : (l.take 200).length ≤ 200 := by simp; omega
  have hlc : (l.take 200).length ≤ c := by simp; omega
  have HR := Lib.hid hR
  clear hn hR
  generalize l.take 200 = l' at *
  go_enter Try.func6, Try.ntmps6
  go_wp2_with fail
  refine (wakes_any _).mono ?_
  rintro e w1 ⟨rfl, hb1⟩
  go_wp2_with fail
  refine (Hfew.out _).mono ?_
  rintro e w2 ⟨rfl, rfl⟩
  go_wp2_with fail
  have n1 := Hn.out.later hb1
  refine (HR.out.1 A c _).mono ?_
  rintro e w2 ⟨rfl, hb2⟩
  have N2 := Lib.hid (n1.later hb2)
  have hB2 := hb1.trans (hb2.mono hb1.size)
  clear n1 hb2 hb1
  go_wp2_with fail
  refine (room_any A c l' _ N2.out (by omega)).mono ?_
  rintro e w3 ⟨g, rfl, hfull, hb3⟩
  have N3 := Lib.hid (N2.out.later hb3)
  have G3 := Lib.hid (own_whole hfull)
  have hB3 := hB2.trans (hb3.mono hB2.size)
  clear hfull N2 hb3 hB2
  go_wp2_with fail
  refine (HR.out.2 _ _ _).mono ?_
  rintro e w4 ⟨rfl, hb4⟩
  have N4 := Lib.hid (N3.out.later hb4)
  have G4 := Lib.hid (heap_keep G3.out hb4)
  have hB4 := hB3.trans (hb4.mono hB3.size)
  clear N3 G3 hb4 hB3
  go_wp2_with fail
  refine (stayed_true g c A l' _ G4.out N4.out (by omega)).mono ?_
  rintro e w8 ⟨rfl, hb8⟩
  have hB8 := hB4.trans (hb8.mono hB4.size)
  have N8 := Lib.hid (N4.out.later hb8)
  have G8 := Lib.hid (heap_keep G4.out hb8)
  clear N4 G4 hb8 hB4
  go_wp2_with fail
  go_loopw [57] (fun i wr => i = .int .i64 0 ∧ wr = w8) (fun i _ => 0)
  case atStart => exact ⟨rfl, rfl⟩
  case round =>
    obtain ⟨rfl, rfl⟩ := hrel
    go_wp2_with fail
    refine (stayed_true g c A l' _ G8.out N8.out (by omega)).mono ?_
    rintro e w9 ⟨rfl, hb9⟩
    have hB9 := hB8.trans (hb9.mono hB8.size)
    go_wp2_with fail
    refine (wakes_any _).mono ?_
    rintro e w10 ⟨rfl, hb10⟩
    go_wp2_with fail
    go_ret
    exact ⟨rfl, hB9.trans (hb10.mono hB9.size)⟩

set_option maxRecDepth 100000 in
set_option maxHeartbeats 4000000 in
theorem chantrounds_no_big (A : Option Addr) (c delay : Nat) (ec x : Int) (l' : List Note) (w : World) (hn : IsNotes w w.heap.size A l') (hc : l'.length ≤ c) (hl : 65536 < l'.length) (hl2 : l'.length ≤ 2932031007402)
    (hR : RoundNo ec x delay l') :
    Calls Try.prog 6 #[.slice A l'.length c, .int .i64 x, .float .f64 delay] w fun e w' => e = .returned (.bool true) ∧ Below w.heap.size w w' := by
  have Hn := Lib.hid hn
  have HR := Lib.hid hR
  clear hn hR
  go_enter Try.func6, Try.ntmps6
  go_wp2_with fail
  refine (wakes_any _).mono ?_
  rintro e w1 ⟨rfl, hb1⟩
  go_wp2_with fail
  have n1 := Hn.out.later hb1
  refine (HR.out.1 A c _).mono ?_
  rintro e w2 ⟨rfl, hb2⟩
  have N2 := Lib.hid (n1.later hb2)
  have hB2 := hb1.trans (hb2.mono hb1.size)
  clear n1 hb2 hb1
  go_wp2_with fail
  refine (room_any A c l' _ N2.out (by omega)).mono ?_
  rintro e w3 ⟨g, rfl, hfull, hb3⟩
  have N3 := Lib.hid (N2.out.later hb3)
  have G3 := Lib.hid (own_whole hfull)
  have hB3 := hB2.trans (hb3.mono hB2.size)
  clear hfull N2 hb3 hB2
  go_wp2_with fail
  refine (HR.out.2 _ _ _).mono ?_
  rintro e w4 ⟨rfl, hb4⟩
  have N4 := Lib.hid (N3.out.later hb4)
  have G4 := Lib.hid (heap_keep G3.out hb4)
  have hB4 := hB3.trans (hb4.mono hB3.size)
  clear N3 G3 hb4 hB3
  go_wp2_with fail
  refine (stayed_true g c A l' _ G4.out N4.out (by omega)).mono ?_
  rintro e w8 ⟨rfl, hb8⟩
  have hB8 := hB4.trans (hb8.mono hB4.size)
  have N8 := Lib.hid (N4.out.later hb8)
  have G8 := Lib.hid (heap_keep G4.out hb8)
  clear N4 G4 hb8 hB4
  go_wp2_with fail
  go_loopw [57] (fun i wr => i = .int .i64 0 ∧ wr = w8) (fun i _ => 0)
  case atStart => exact ⟨rfl, rfl⟩
  case round =>
    obtain ⟨rfl, rfl⟩ := hrel
    go_wp2_with fail
    refine (stayed_true g c A l' _ G8.out N8.out (by omega)).mono ?_
    rintro e w9 ⟨rfl, hb9⟩
    have hB9 := hB8.trans (hb9.mono hB8.size)
    go_wp2_with fail
    refine (wakes_any _).mono ?_
    rintro e w10 ⟨rfl, hb10⟩
    go_wp2_with fail
    go_ret
    exact ⟨rfl, hB9.trans (hb10.mono hB9.size)⟩
end Go.Proofs.Ytjlncnjmcgkkhaa

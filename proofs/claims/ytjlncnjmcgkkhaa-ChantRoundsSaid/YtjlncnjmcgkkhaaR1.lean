import Derived.Test.YtjlncnjmcgkkhaaE2
import Derived.Test.YtjlncnjmcgkkhaaB2
namespace Go.Proofs.Ytjlncnjmcgkkhaa
set_option linter.unusedVariables false
set_option linter.unusedSimpArgs false
open Go.RowKit
attribute [local go_sem] run_store_float run_fadd run_fsub run_fmul run_fquo

/- Round. -/
def roundOk (n : Int) (delay : Nat) : Bool := decide (1 ≤ n) && decide (n ≤ 16) && Fl.finB delay && !(FloatKind.f64.format.order delay 0 == some .lt)

def lateN (late : Nat) (n : Note) : Note := { n with at_ := plainV (fv .add n.at_ late) }
def lateL (late : Nat) (l : List Note) : List Note := l.map (lateN late)
theorem lateL_length (late : Nat) (l : List Note) : (lateL late l).length = l.length := by simp [lateL]
theorem lateL_get (late : Nat) (l : List Note) (k : Nat) (h : k < l.length) : (lateL late l).getD k default = lateN late (l.getD k default) := by
  unfold lateL; rw [List.getD_eq_getElem?_getD, List.getElem?_map, List.getD_eq_getElem?_getD, List.getElem?_eq_getElem h]; rfl

theorem notesCells_set4 (l : List Note) (k : Nat) (hk : k < l.length) (a : Nat) :
    (notesCells l).set (k * 6 + 4) (.float .f64 a) = notesCells (l.set k { l.getD k default with at_ := a }) := by
  induction l generalizing k with
  | nil => simp at hk
  | cons n l ih =>
    cases k with
    | zero => rfl
    | succ k =>
      have e1 : (k + 1) * 6 + 4 = k * 6 + 4 + n.cells.length := by simp [Note.cells]; omega
      show (n.cells ++ notesCells l).set _ _ = n.cells ++ notesCells _
      rw [e1, List.set_append_right _ _ (by omega), Nat.add_sub_cancel, ih k (by simpa using hk)]
      rfl

/-- the notes as far as they are late -/
def Late (l lo : List Note) (late k : Nat) : Prop := lo.length = l.length ∧ (∀ j, j < k → NEq (lo.getD j default) (lateN late (l.getD j default))) ∧ ∀ j, k ≤ j → lo.getD j default = l.getD j default
theorem Late.start (l : List Note) (late : Nat) : Late l l late 0 := ⟨rfl, fun j h => by omega, fun j _ => rfl⟩
theorem Late.step {l lo : List Note} {late k a : Nat} (h : Late l lo late k) (hk : k < l.length) (ha : FEq a (plainV (fv .add (l.getD k default).at_ late))) :
    Late l (lo.set k { lo.getD k default with at_ := a }) late (k + 1) := by
  obtain ⟨h1, h2, h3⟩ := h
  have hlo := h3 k (Nat.le_refl _)
  refine ⟨by simp [h1], fun j hj => ?_, fun j hj => ?_⟩
  · by_cases e : j = k
    · subst e
      rw [List.getD_eq_getElem?_getD, List.getElem?_set_self (by omega), hlo]
      exact ⟨rfl, rfl, rfl, rfl, ha, FEq.refl _⟩
    · rw [List.getD_eq_getElem?_getD, List.getElem?_set_ne (by omega), ← List.getD_eq_getElem?_getD]
      exact h2 j (by omega)
  · rw [List.getD_eq_getElem?_getD, List.getElem?_set_ne (by omega), ← List.getD_eq_getElem?_getD]
    exact h3 j (by omega)
theorem lateN_congr {q q' : Nat} (n : Note) (h : FEq q q') : NEq (lateN q n) (lateN q' n) :=
  ⟨rfl, rfl, rfl, rfl, plainV_congr (by rw [fv_congr .add (FEq.refl _) h]; exact FEq.refl _), FEq.refl _⟩
theorem Late.done {l lo : List Note} {q late : Nat} (h : Late l lo q l.length) (hq : FEq q late) : NsEq lo (lateL late l) := by
  obtain ⟨h1, h2, _⟩ := h
  refine ⟨by rw [lateL_length, h1], fun k hk => ?_⟩
  rw [lateL_get _ _ _ (by omega)]
  exact (h2 k (by omega)).trans (lateN_congr _ hq)

def lateV (v delay : Nat) : Nat := fv .mul (floatOfInt FloatKind.f64 (v : Int)) delay
/-- the voices that were made: each in a row of its own -/
def Made (ls : Nat → List Note) (B k : Nat) (v : Value) (w : World) : Prop := ∃ us : List Value, w.ownsRow B 29 1 v k us ∧ ∀ j, j < k → ∃ u lo, us[j]? = some u ∧ NsEq lo (ls j) ∧ w.ownsRow B 37 6 u (ls j).length (notesCells lo) ∧ ∀ i u', i < j → us[i]? = some u' → u.ownBlock = none ∨ u.ownBlock ≠ u'.ownBlock
theorem Made.start (ls : Nat → List Note) (B : Nat) (w : World) : Made ls B 0 (.slice none 0 0) w := ⟨[], ⟨rfl, .inl ⟨rfl, rfl⟩⟩, fun j h => by omega⟩
theorem Made.below {ls : Nat → List Note} {B k : Nat} {v : Value} {w w' : World} (h : Made ls B k v w) (hb : Below w.heap.size w w') : Made ls B k v w' := by
  obtain ⟨us, h1, h2⟩ := h
  refine ⟨us, own_below h1 hb, fun j hj => ?_⟩
  obtain ⟨u, lo, e1, e2, e3, e4⟩ := h2 j hj
  exact ⟨u, lo, e1, e2, own_below e3 hb, e4⟩
/-- rows of other types lie in other blocks -/
theorem own_apart {w : World} {B B' : Nat} {v u : Value} {n n' : Nat} {xs ys : List Value} (h : w.ownsRow B 37 6 u n xs) (h' : w.ownsRow B' 29 1 v n' ys) : u.ownBlock = none ∨ u.ownBlock ≠ v.ownBlock := by
  rcases h.2 with ⟨rfl, _⟩ | ⟨g, cap, cur, rfl, _, hg, _⟩
  · exact .inl rfl
  · refine .inr fun e => ?_
    rcases h'.2 with ⟨rfl, _⟩ | ⟨g', cap', cur', rfl, _, hg', _⟩
    · simp [Value.ownBlock] at e
    · simp [Value.ownBlock] at e
      subst e
      rw [hg] at hg'; simp at hg'
theorem Made.step {ls : Nat → List Note} {B k : Nat} {v v1 u : Value} {w0 w w1 : World} {us : List Value} {lo : List Note} (hB : B ≤ w0.heap.size) (hv : w.ownsRow B 29 1 v k us)
    (hm : ∀ j, j < k → ∃ u lo, us[j]? = some u ∧ NsEq lo (ls j) ∧ w.ownsRow B 37 6 u (ls j).length (notesCells lo) ∧ (∀ i u', i < j → us[i]? = some u' → u.ownBlock = none ∨ u.ownBlock ≠ u'.ownBlock) ∧ ∀ b, u.ownBlock = some b → b < w0.heap.size)
    (hn : NsEq lo (ls k)) (hu : w.ownsRow w0.heap.size 37 6 u (ls k).length (notesCells lo)) (h1 : w1.ownsRow B 29 1 v1 (k + 1) (us ++ [u])) (hg : w.grownBy w1 v.ownBlock) : Made ls B (k + 1) v1 w1 := by
  have hl : us.length = k := by have := hv.1; omega
  refine ⟨us ++ [u], h1, fun j hj => ?_⟩
  by_cases e : j < k
  · obtain ⟨u', lo', e1, e2, e3, e4, _⟩ := hm j e
    refine ⟨u', lo', by rw [List.getElem?_append_left (by omega)]; exact e1, e2, e3.kept hg (own_apart e3 hv), fun i u2 hi hu2 => e4 i u2 hi ?_⟩
    rw [List.getElem?_append_left (by omega)] at hu2; exact hu2
  · obtain rfl : j = k := by omega
    refine ⟨u, lo, by rw [List.getElem?_append_right (by omega), hl]; simp, hn, (own_mono hu hB).kept hg (own_apart hu hv), fun i u2 hi hu2 => ?_⟩
    rw [List.getElem?_append_left (by omega)] at hu2
    obtain ⟨u', lo', e1, e2, e3, e4, e5⟩ := hm i hi
    rw [hu2] at e1
    injection e1 with e1
    subst e1
    cases hb : u.ownBlock with
    | none => exact .inl rfl
    | some b =>
      refine .inr fun e => ?_
      have h2 := (own_block hu b hb).1
      have h3 := e5 b e.symm
      omega

theorem Made.ready {ls : Nat → List Note} {B k : Nat} {us : List Value} {w0 w : World}
    (h : ∀ j, j < k → ∃ u lo, us[j]? = some u ∧ NsEq lo (ls j) ∧ w0.ownsRow B 37 6 u (ls j).length (notesCells lo) ∧ ∀ i u', i < j → us[i]? = some u' → u.ownBlock = none ∨ u.ownBlock ≠ u'.ownBlock) (hb : Below w0.heap.size w0 w) :
    ∀ j, j < k → ∃ u lo, us[j]? = some u ∧ NsEq lo (ls j) ∧ w.ownsRow B 37 6 u (ls j).length (notesCells lo) ∧ (∀ i u', i < j → us[i]? = some u' → u.ownBlock = none ∨ u.ownBlock ≠ u'.ownBlock) ∧ ∀ b, u.ownBlock = some b → b < w0.heap.size := fun j hj => by
  obtain ⟨u, lo, e1, e2, e3, e4⟩ := h j hj
  exact ⟨u, lo, e1, e2, own_below e3 hb, e4, fun b hb => (own_block e3 b hb).2⟩
def RoundYes (l : List Note) (n delay : Nat) (w : World) (e : Ending) (w' : World) : Prop :=
  ∃ v, e = .returned (.tuple #[v, .int .i64 0]) ∧ Made (fun j => lateL (lateV j delay) l) w.heap.size n v w' ∧ Below w.heap.size w w'

set_option maxRecDepth 100000 in
set_option maxHeartbeats 4000000 in
theorem round_yes (A : Option Addr) (c n delay : Nat) (l : List Note) (w : World) (hn : IsNotes w w.heap.size A l) (hv1 : 1 ≤ n) (hv2 : n ≤ 16) (hf : Fl.finB delay = true) (hd : (FloatKind.f64.format.order delay 0 == some .lt) = false) (hl : l.length * n ≤ 65536) (hl' : l.length ≤ 65536) :
    Calls Try.prog 28 #[.slice A l.length c, .int .i64 n, .float .f64 delay] w (RoundYes l n delay w) := by
  have Hn := Lib.hid hn
  have hfin := fun W => finite_any delay W
  rw [hf] at hfin
  have Hfin := Lib.hid hfin
  clear hfin hf hn
  have s1 : IntKind.i64.wrap ((l.length : Int) * (n : Int)) = (l.length : Int) * (n : Int) := IntWalk.i64_in _ (by
    have : (l.length : Int) * (n : Int) = ((l.length * n : Nat) : Int) := by simp
    rw [this]; omega)
  have s2 : decide ((65536 : Int) < (l.length : Int) * (n : Int)) = false := by
    have : (l.length : Int) * (n : Int) = ((l.length * n : Nat) : Int) := by simp
    rw [this]; simp; omega
  go_enter Try.func28, Try.ntmps28
  go_wp2_with fail
  refine (Hfin.out _).mono ?_
  rintro e w2 ⟨rfl, rfl⟩
  go_wp2_with fail
  go_loopw [8, 36] (fun v i wr => ∃ k : Nat, k ≤ n ∧ i = .int .i64 k ∧ Made (fun j => lateL (lateV j delay) l) w.heap.size k v wr ∧ Below w.heap.size w wr) (fun _ i _ => n - (intOf i).toNat)
  case atStart => exact ⟨0, by omega, rfl, Made.start _ _ _, Below.refl _ _⟩
  case round =>
    obtain ⟨k, hk, rfl, hmade, hbl⟩ := hrel
    have Hmade := Lib.hid hmade
    clear hmade
    by_cases hlt : k < n
    · have N1 := Lib.hid (Hn.out.later hbl)
      have hbs := hbl.size
      go_wp2_with fail
      refine (clone_any A c l _ (N1.out.drewN _) (by omega)).mono ?_
      rintro e w1 ⟨u, rfl, hown, hb1⟩
      have hq : FEq (fres .mul (floatOfInt FloatKind.f64 (k : Int)) delay wr) (lateV k delay) := fres_feq _ _ _ _
      have Hq := Lib.hid hq
      clear hq
      generalize fres .mul (floatOfInt FloatKind.f64 (k : Int)) delay wr = q at *
      obtain ⟨A', cap, rfl⟩ := own_slice hown
      have Hown := Lib.hid hown
      have hb1' : Below wr.heap.size wr w1 := (belowD (Below.refl _ _) _).trans hb1
      clear hown hb1
      obtain ⟨wx, rfl⟩ : ∃ wx : World, wx = wr := ⟨_, rfl⟩
      go_wp2_with fail
      go_loopw [47] (fun i wz => ∃ (j : Nat) (lo : List Note), j ≤ l.length ∧ i = .int .i64 j ∧ Late l lo q j ∧ wz.ownsRow wx.heap.size 37 6 (.slice A' l.length cap) l.length (notesCells lo) ∧ Below wx.heap.size wx wz) (fun i _ => l.length - (intOf i).toNat)
      case atStart => exact ⟨0, l, by omega, rfl, Late.start _ _, Hown.out, hb1'⟩
      case round =>
        clear hb1'
        obtain ⟨j, lo, hj, rfl, hhalf, hrow, hb2⟩ := hrel
        have Hhalf := Lib.hid hhalf
        clear hhalf
        by_cases hjl : j < l.length
        · obtain ⟨g, rfl, hg⟩ := own_some hrow (by omega)
          have hlo : lo.length = l.length := Hhalf.out.1
          have f4 : wr.cell? ⟨g, j * 6 + 4, none⟩ = some (.float .f64 (lo.getD j default).at_) := own_float hrow j 4 (by omega) (by omega)
          have hsame := Hhalf.out.2.2 j (Nat.le_refl _)
          generalize he4 : (lo.getD j default).at_ = a4 at f4
          have He4 := Lib.hid he4
          have Hsame := Lib.hid hsame
          clear he4 hsame
          go_wp2_with fail
          refine (plain_any _ (fres_lt _ _ _ _) _).mono ?_
          rintro e w4 ⟨r4, n4, rfl, hr4, hrl4, rfl⟩
          have Hr4 := Lib.hid hr4
          clear hr4
          have z4 := hrow.frozenAt (j * 6 + 4)
          have hw1 := (hrow.stored (j * 6 + 4) (.float .f64 r4)).1
          rw [notesCells_set4 lo j (by omega)] at hw1
          have Hw1 := Lib.hid hw1
          clear hw1
          go_wp2_with fail
          go_roundw
          case rel =>
            refine ⟨j + 1, _, by omega, by go_num, Hhalf.out.step hjl ?_, Hw1.out, ?_⟩
            · rw [← Hsame.out, He4.out]
              exact Hr4.out.trans (plainV_congr (fres_feq _ _ _ _))
            · exact Below.setCell (p := ⟨g, j * 6 + 4, none⟩) (belowD hb2 _) hg _
          case measure => simp [intOf]; omega
        · obtain rfl : j = l.length := by omega
          obtain ⟨us, hv0, hm0⟩ := Hmade.out
          have hm1 := Made.ready hm0 hb2
          have Hv1 := Lib.hid (own_below hv0 hb2)
          have Hm1 := Lib.hid hm1
          have hbs2 : w.heap.size ≤ wr.heap.size := Nat.le_trans hbs hb2.size
          have Hrow := Lib.hid hrow
          have hbw := hbl.trans (hb2.mono hbs)
          have hown8 := own_block hv0
          have Hown8 := Lib.hid hown8
          clear hv0 hm0 hm1 hrow hown8
          go_wp2_with (at_builtin; go_loud (refine wpList_append_boxg _ rfl _ _ 27 rfl w.heap.size 29 _ _ 1 24 Try.underlying27 info29 zero29 size29 bytes29 rfl (by decide) u8 k us _ wr.heap.size rfl rfl ?c0 (by exact Hv1.out) rfl ?c1 ?c2 ?c3 ?c4 ?_); rotate_right; intro v4 w4 hown4 hgr4 _)
          case c0 => rfl
          case c1 => rfl
          case c2 => unfold maxLen; omega
          case c3 => omega
          case c4 => exact hbs2
          go_roundw
          case rel =>
            refine ⟨k + 1, by omega, by go_num, ?_, ?_⟩
            · exact Made.step hbs Hv1.out Hm1.out (Hhalf.out.done Hq.out) (by rw [lateL_length]; exact Hrow.out) hown4 hgr4
            · exact hbw.grown hgr4 hbs2 (fun b hb => (Hown8.out b hb).1)
          case measure => simp [intOf]; omega
    · obtain rfl : k = n := by omega
      go_wp2_with fail
      go_ret2
      exact ⟨_, rfl, Hmade.out, hbl⟩
end Go.Proofs.Ytjlncnjmcgkkhaa

import Derived.Test.YtjlncnjmcgkkhaaE1
import Derived.Test.YtjlncnjmcgkkhaaC8
namespace Go.Proofs.Ytjlncnjmcgkkhaa
set_option linter.unusedVariables false
set_option linter.unusedSimpArgs false
open Go.RowKit
attribute [local go_sem] run_store_float run_fadd run_fsub run_fmul run_fquo

/- Clone, few, Scale. -/
theorem few_any (A : Option Addr) (c : Nat) (l : List Note) (w : World) (hc : l.length ≤ c) (hl : l.length ≤ 9223372036854775807) :
    Calls Try.prog 26 #[.slice A l.length c] w fun e w' => e = .returned (.slice A (l.take 200).length c) ∧ w = w' := by
  have hmin : (min (l.length : Int) 200).toNat = (l.take 200).length := by simp; omega
  have Hmin := Lib.hid hmin
  clear hmin
  go_enter Try.func26, Try.ntmps26
  go_wp2_with fail
  go_ret
  rw [← Hmin.out]
  exact ⟨rfl, rfl⟩

theorem IsNotes.drewN {w : World} {A : Option Addr} {l : List Note} (h : IsNotes w w.heap.size A l) (n : Nat) : IsNotes (w.drewN n) (w.drewN n).heap.size A l := h

def CloneOk (l : List Note) (w : World) (e : Ending) (w' : World) : Prop := ∃ v, e = .returned v ∧ w'.ownsRow w.heap.size 37 6 v l.length (notesCells l) ∧ Below w.heap.size w w'

set_option maxRecDepth 100000 in
set_option maxHeartbeats 2000000 in
theorem clone_any (A : Option Addr) (c : Nat) (l : List Note) (w : World) (hn : IsNotes w w.heap.size A l) (hm : l.length ≤ 2932031007402) :
    Calls Try.prog 49 #[.slice A l.length c] w (CloneOk l w) := by
  cases A with
  | none =>
    have hl0 : l.length = 0 := by
      rcases Nat.eq_zero_or_pos l.length with h | h
      · exact h
      · obtain ⟨b, off, e, _⟩ := hn h; cases e
    obtain rfl : l = [] := List.eq_nil_of_length_eq_zero hl0
    have hq := fun W => Lib.run_eql_slice_nil (P := Try.prog) W 29 37 none 0 c 0 0 Try.underlying29
    simp only [List.length_nil]
    clear hl0 hn hm
    go_enter Try.func49, Try.ntmps49
    go_wp2
    go_ret
    exact ⟨_, rfl, ⟨rfl, .inl ⟨rfl, rfl⟩⟩, Below.refl _ _⟩
  | some ad =>
    have hq := fun W => Lib.run_eql_slice_nil (P := Try.prog) W 29 37 (some ad) l.length c 0 0 Try.underlying29
    have Hc := Lib.hid fun (o : Obj) => IsNotes.cells (B := w.heap.size) (hn.keep fun p hp => (keepOf ((Below.refl w.heap.size w).alloc (Nat.le_refl _) o) p hp)) ad rfl
    have Hcl := Lib.hid (notesCells_length l)
    have Hone := Lib.hid (notesCells_one l)
    clear hn
    go_enter Try.func49, Try.ntmps49
    go_wp2_with (at_builtin; refine wpList_append_own _ rfl _ _ 29 rfl w.heap.size 37 _ _ 6 48 Try.underlying29 info37 zero37 size37 bytes37 rfl (by decide) (.slice (some ⟨w.heap.size, 0, none⟩) 0 0) 0 [] rfl ?c0 ad l.length c (notesCells l) rfl Hcl.out (Hc.out _) Hone.out ?c1 ?c2 ?c3 ?_; rotate_right; intro v1 w1 hown1 hgr1 _)
    case c0 => exact ⟨rfl, .inr ⟨w.heap.size, 0, #[], rfl, Nat.le_refl _, heap_alloc_new w _, Nat.le_refl _, by unfold maxLen; omega, rfl, rfl⟩⟩
    case c1 => unfold maxLen; omega
    case c2 => omega
    case c3 => simp
    have hb : Below w.heap.size w w1 := ((Below.refl _ _).alloc (Nat.le_refl _) _).grown hgr1 (by simp) (by intro k hk; simp [Value.ownBlock] at hk; omega)
    have Hown1 := Lib.hid hown1
    clear hown1 hgr1
    go_wp2_with fail
    go_ret
    refine ⟨_, rfl, ?_, hb⟩
    have := Hown1.out
    simp only [Nat.zero_add, List.nil_append] at this
    exact this

/-- two notes are one -/
def NEq (n m : Note) : Prop := n.line = m.line ∧ n.beat = m.beat ∧ n.word = m.word ∧ n.strong = m.strong ∧ FEq n.at_ m.at_ ∧ FEq n.long m.long
theorem sameB_of {a b : Nat} (h : FEq a b) : sameB a b = true := by
  unfold sameB
  rcases h with rfl | h
  · simp
  · rw [(Fl.nanB_iff a).2 h.1, (Fl.nanB_iff b).2 h.2]; simp
theorem eqN_of {n m : Note} (h : NEq n m) : eqN n m = true := by
  obtain ⟨h1, h2, h3, h4, h5, h6⟩ := h
  simp [eqN, h1, h2, h3, h4, sameB_of h5, sameB_of h6]
theorem NEq.symm {n m : Note} (h : NEq n m) : NEq m n := ⟨h.1.symm, h.2.1.symm, h.2.2.1.symm, h.2.2.2.1.symm, h.2.2.2.2.1.symm, h.2.2.2.2.2.symm⟩
theorem NEq.trans {n m k : Note} (h : NEq n m) (h' : NEq m k) : NEq n k :=
  ⟨h.1.trans h'.1, h.2.1.trans h'.2.1, h.2.2.1.trans h'.2.2.1, h.2.2.2.1.trans h'.2.2.2.1, h.2.2.2.2.1.trans h'.2.2.2.2.1, h.2.2.2.2.2.trans h'.2.2.2.2.2⟩
def NsEq (a b : List Note) : Prop := a.length = b.length ∧ ∀ k, k < a.length → NEq (a.getD k default) (b.getD k default)

theorem notesCells_set (l : List Note) (k : Nat) (hk : k < l.length) (a b : Nat) :
    ((notesCells l).set (k * 6 + 4) (.float .f64 a)).set (k * 6 + 5) (.float .f64 b) = notesCells (l.set k { l.getD k default with at_ := a, long := b }) := by
  induction l generalizing k with
  | nil => simp at hk
  | cons n l ih =>
    cases k with
    | zero => rfl
    | succ k =>
      have e1 : (k + 1) * 6 + 4 = k * 6 + 4 + n.cells.length := by simp [Note.cells]; omega
      have e2 : (k + 1) * 6 + 5 = k * 6 + 5 + n.cells.length := by simp [Note.cells]; omega
      show ((n.cells ++ notesCells l).set _ _).set _ _ = n.cells ++ notesCells _
      rw [e1, e2, List.set_append_right _ _ (by omega), Nat.add_sub_cancel, List.set_append_right _ _ (by omega), Nat.add_sub_cancel, ih k (by simpa using hk)]
      rfl

def scaleN (q : Nat) (n : Note) : Note := { n with at_ := plainV (fv .mul n.at_ q), long := plainV (fv .mul n.long q) }
def lenV (l : List Note) : Nat := plainV (sumF l)
def scaleOk (l : List Note) (total : Nat) : Bool := Fl.finB total && Fl.finB (lenV l) && !(FloatKind.f64.format.order total 0 == some .lt) && (FloatKind.f64.format.order (lenV l) 0 == some .gt)
def scaleL (l : List Note) (total : Nat) : List Note := l.map (scaleN (fv .quo total (lenV l)))

/-- the notes as far as they are scaled -/
def Half (l lo : List Note) (q k : Nat) : Prop := lo.length = l.length ∧ (∀ j, j < k → NEq (lo.getD j default) (scaleN q (l.getD j default))) ∧ ∀ j, k ≤ j → lo.getD j default = l.getD j default
theorem Half.start (l : List Note) (q : Nat) : Half l l q 0 := ⟨rfl, fun j h => by omega, fun j _ => rfl⟩
theorem Half.step {l lo : List Note} {q k a b : Nat} (h : Half l lo q k) (hk : k < l.length) (ha : FEq a (plainV (fv .mul (l.getD k default).at_ q))) (hb : FEq b (plainV (fv .mul (l.getD k default).long q))) :
    Half l (lo.set k { lo.getD k default with at_ := a, long := b }) q (k + 1) := by
  obtain ⟨h1, h2, h3⟩ := h
  have hlo := h3 k (Nat.le_refl _)
  refine ⟨by simp [h1], fun j hj => ?_, fun j hj => ?_⟩
  · by_cases e : j = k
    · subst e
      rw [List.getD_eq_getElem?_getD, List.getElem?_set_self (by omega), hlo]
      exact ⟨rfl, rfl, rfl, rfl, ha, hb⟩
    · rw [List.getD_eq_getElem?_getD, List.getElem?_set_ne (by omega), ← List.getD_eq_getElem?_getD]
      exact h2 j (by omega)
  · rw [List.getD_eq_getElem?_getD, List.getElem?_set_ne (by omega), ← List.getD_eq_getElem?_getD]
    exact h3 j (by omega)
theorem scaleN_congr {q q' : Nat} (n : Note) (h : FEq q q') : NEq (scaleN q n) (scaleN q' n) :=
  ⟨rfl, rfl, rfl, rfl, plainV_congr (by rw [fv_congr .mul (FEq.refl _) h]; exact FEq.refl _), plainV_congr (by rw [fv_congr .mul (FEq.refl _) h]; exact FEq.refl _)⟩
theorem Half.done {l lo : List Note} {q total : Nat} (h : Half l lo q l.length) (hq : FEq q (fv .quo total (lenV l))) : NsEq lo (scaleL l total) := by
  obtain ⟨h1, h2, _⟩ := h
  refine ⟨by simp [scaleL, h1], fun k hk => ?_⟩
  have := (h2 k (by omega)).trans (scaleN_congr _ hq)
  unfold scaleL
  have e : (l.map (scaleN (fv .quo total (lenV l)))).getD k default = scaleN (fv .quo total (lenV l)) (l.getD k default) := by
    rw [List.getD_eq_getElem?_getD, List.getElem?_map, List.getD_eq_getElem?_getD, List.getElem?_eq_getElem (by omega)]; rfl
  rw [e]; exact this

def ScaleYes (l : List Note) (total : Nat) (w : World) (e : Ending) (w' : World) : Prop :=
  ∃ v lo, e = .returned (.tuple #[v, .int .i64 0]) ∧ NsEq lo (scaleL l total) ∧ w'.ownsRow w.heap.size 37 6 v l.length (notesCells lo) ∧ Below w.heap.size w w'
def ScaleNo (w : World) (e : Ending) (w' : World) : Prop := e = .returned (.tuple #[.slice none 0 0, .int .i64 2]) ∧ Below w.heap.size w w'

theorem own_slice {w : World} {base : Nat} {e : TypeId} {size n : Nat} {v : Value} {xs : List Value} (h : w.ownsRow base e size v n xs) : ∃ A cap, v = .slice A n cap := by
  rcases h.2 with ⟨rfl, h0⟩ | ⟨g, cap, cur, rfl, _⟩
  · subst h0; exact ⟨none, 0, rfl⟩
  · exact ⟨_, _, rfl⟩
theorem own_mono {w : World} {base base' : Nat} {e : TypeId} {size n : Nat} {v : Value} {xs : List Value} (h : w.ownsRow base e size v n xs) (hb : base' ≤ base) : w.ownsRow base' e size v n xs := by
  refine ⟨h.1, ?_⟩
  rcases h.2 with h1 | ⟨g, cap, cur, hv, hB, r⟩
  · exact .inl h1
  · exact .inr ⟨g, cap, cur, hv, Nat.le_trans hb hB, r⟩
theorem own_some {w : World} {base : Nat} {e : TypeId} {size n cap : Nat} {A : Option Addr} {xs : List Value} (h : w.ownsRow base e size (.slice A n cap) n xs) (hn : 0 < n) : ∃ g, A = some ⟨g, 0, none⟩ ∧ base ≤ g := by
  rcases h.2 with ⟨_, h0⟩ | ⟨g, cap', cur, hv, hB, _⟩
  · omega
  · injection hv with e1 _ _; exact ⟨g, e1, hB⟩
theorem own_float {w : World} {base g n cap : Nat} {e : TypeId} {lo : List Note} (h : w.ownsRow base e 6 (.slice (some ⟨g, 0, none⟩) n cap) n (notesCells lo)) (k j : Nat) (hk : k < lo.length) (hj : j < 6) : w.cell? ⟨g, k * 6 + j, none⟩ = ((lo.getD k default).cells)[j]? := by
  have hl := h.1
  rw [notesCells_length] at hl
  rw [h.cellAt (k * 6 + j) (by omega), ← notesCells_get lo k j hj hk]
theorem finB_congr {a b : Nat} (h : FEq a b) : Fl.finB a = Fl.finB b := by
  rw [Bool.eq_iff_iff, Fl.finB_iff, Fl.finB_iff, h.key]

set_option maxRecDepth 100000 in
set_option maxHeartbeats 4000000 in
theorem scale_yes (A : Option Addr) (c : Nat) (l : List Note) (total : Nat) (w : World) (hn : IsNotes w w.heap.size A l) (hm : l.length ≤ 2932031007402) (hok : scaleOk l total = true) :
    Calls Try.prog 35 #[.slice A l.length c, .float .f64 total] w (ScaleYes l total w) := by
  simp only [scaleOk, Bool.and_eq_true, Bool.not_eq_true'] at hok
  obtain ⟨⟨⟨o1, o2⟩, o3⟩, o4⟩ := hok
  have Hn := Lib.hid hn
  have O2 := Lib.hid o2
  have O4 := Lib.hid o4
  have hlen := length_any A c l w hn (by omega)
  have Hlen := Lib.hid hlen
  have hf1 := fun W => finite_any total W
  rw [o1] at hf1
  have Hf1 := Lib.hid hf1
  clear hlen hf1 hn o1 o2 o4
  go_enter Try.func35, Try.ntmps35
  go_wp2_with fail
  refine (Hlen.out).mono ?_
  rintro e w1 ⟨r, rfl, hr, hrl, hb1⟩
  have Hr := Lib.hid hr
  have hf2 := fun W => finite_any r W
  rw [finB_congr hr] at hf2
  have hf2' : ∀ W, Calls Try.prog 42 #[.float .f64 r] W fun e w' => e = .returned (.bool true) ∧ W = w' := fun W => by have := hf2 W; unfold lenV at O2; rw [O2.out] at this; exact this
  have Hf2 := Lib.hid hf2'
  have o5 : FloatKind.f64.format.order r 0 = some .gt := by
    have h1 : FloatKind.f64.format.order r 0 = FloatKind.f64.format.order (plainV (sumF l)) 0 := hr.order (FEq.refl 0)
    have h2 := O4.out
    unfold lenV at h2
    rw [h1]; simpa using h2
  clear hr hf2 hf2'
  go_wp2_with fail
  refine (Hf1.out _).mono ?_
  rintro e w2 ⟨rfl, rfl⟩
  go_wp2_with fail
  refine (Hf2.out _).mono ?_
  rintro e w2 ⟨rfl, rfl⟩
  go_wp2_with fail
  refine (clone_any A c l _ ((Hn.out.later hb1).drewN _) hm).mono ?_
  rintro e w3 ⟨v, rfl, hown, hb3⟩
  have hq : FEq (fres .quo total r w1) (fv .quo total (lenV l)) := fres_congr .quo (FEq.refl _) Hr.out w1
  have Hq := Lib.hid hq
  clear hq
  generalize fres .quo total r w1 = q at *
  obtain ⟨A', cap, rfl⟩ := own_slice hown
  have hownb := own_mono hown hb1.size
  have hbw3 : Below w.heap.size w w3 := (belowD hb1 _).trans (hb3.mono hb1.size)
  go_wp2_with fail
  go_loopw [35] (fun i wr => ∃ (k : Nat) (lo : List Note), k ≤ l.length ∧ i = .int .i64 k ∧ Half l lo q k ∧ wr.ownsRow w.heap.size 37 6 (.slice A' l.length cap) l.length (notesCells lo) ∧ Below w.heap.size w wr) (fun i _ => l.length - (intOf i).toNat)
  case atStart => exact ⟨0, l, by omega, rfl, Half.start _ _, hownb, hbw3⟩
  case round =>
    obtain ⟨k, lo, hk, rfl, hhalf, hrow, hbl⟩ := hrel
    have Hhalf := Lib.hid hhalf
    clear hhalf
    by_cases hlt : k < l.length
    · obtain ⟨g, rfl, hg⟩ := own_some hrow (by omega)
      have hlo : lo.length = l.length := Hhalf.out.1
      have f4 : wr.cell? ⟨g, k * 6 + 4, none⟩ = some (.float .f64 (lo.getD k default).at_) := own_float hrow k 4 (by omega) (by omega)
      have f5 : wr.cell? ⟨g, k * 6 + 5, none⟩ = some (.float .f64 (lo.getD k default).long) := own_float hrow k 5 (by omega) (by omega)
      have hsame := Hhalf.out.2.2 k (Nat.le_refl _)
      generalize he4 : (lo.getD k default).at_ = a4 at f4
      generalize he5 : (lo.getD k default).long = a5 at f5
      have He4 := Lib.hid he4
      have He5 := Lib.hid he5
      have Hsame := Lib.hid hsame
      clear he4 he5 hsame
      go_wp2_with fail
      refine (plain_any _ (fres_lt _ _ _ _) _).mono ?_
      rintro e w4 ⟨r4, n4, rfl, hr4, hrl4, rfl⟩
      have Hr4 := Lib.hid hr4
      clear hr4
      have z4 := hrow.frozenAt (k * 6 + 4)
      go_wp2_with fail
      refine (plain_any _ (fres_lt _ _ _ _) _).mono ?_
      rintro e w5 ⟨r5, n5, rfl, hr5, hrl5, rfl⟩
      have Hr5 := Lib.hid hr5
      clear hr5
      have z5 := hrow.frozenAt (k * 6 + 5)
      have hw1 := ((hrow.stored (k * 6 + 4) (.float .f64 r4)).1.stored (k * 6 + 5) (.float .f64 r5)).1
      rw [notesCells_set lo k (by omega)] at hw1
      have Hw1 := Lib.hid hw1
      clear hw1
      go_wp2_with fail
      go_roundw
      case rel =>
        refine ⟨k + 1, _, by omega, by go_num, Hhalf.out.step hlt ?_ ?_, Hw1.out, ?_⟩
        · rw [← Hsame.out, He4.out]
          exact Hr4.out.trans (plainV_congr (fres_feq _ _ _ _))
        · rw [← Hsame.out, He5.out]
          exact Hr5.out.trans (plainV_congr (fres_feq _ _ _ _))
        · exact Below.setCell (p := ⟨g, k * 6 + 5, none⟩) (belowD (Below.setCell (p := ⟨g, k * 6 + 4, none⟩) (belowD hbl _) hg _) _) hg _
      case measure => simp [intOf]; omega
    · obtain rfl : k = l.length := by omega
      go_wp2_with fail
      go_ret2
      exact ⟨_, lo, rfl, Hhalf.out.done Hq.out, hrow, hbl⟩
end Go.Proofs.Ytjlncnjmcgkkhaa

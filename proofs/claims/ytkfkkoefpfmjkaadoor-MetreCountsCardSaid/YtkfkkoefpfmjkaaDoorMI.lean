import Derived.Test.YtkfkkoefpfmjkaaDoorMH
import Derived.Test.YtkfkkoefpfmjkaaDoorGR
import Derived.WalkMore
namespace Go.Proofs.YtkfkkoefpfmjkaaDoor
set_option linter.unusedVariables false
set_option linter.unusedSimpArgs false
open Go.RowKit

/- metre.Read. -/
/-- a metre in memory of one's own -/
structure OM (w : World) (base : Nat) (m : Met) (vf ve vb : Value) (vs : List Value) : Prop where
  vl : vs.length = m.feet.length
  feet : w.ownsRow base 81 2 vf m.feet.length (ftCells m.feet vs)
  ways : ∀ k, k < m.feet.length → w.ownsRow base 100 2 (vs.getD k nilV) (m.feet.getD k default).ways.length (wayCells (m.feet.getD k default).ways)
  ends : w.ownsRow base 100 2 ve m.ends.length (wayCells m.ends)
  brks : w.ownsRow base 98 2 vb m.brks.length (brkCells m.brks)
  apart : Apart (ve :: vs)
theorem RS.om {w : World} {base b a : Nat} {s t : ByteArray} {m : Met} {ah : Int} {vf ve vb : Value} {vs : List Value} (h : RS w base b s a t m ah vf ve vb vs) : OM w base m vf ve vb vs := ⟨h.vl, h.feet, h.ways, h.ends, h.brks, h.apart⟩
theorem OM.below {w w' : World} {base : Nat} {m : Met} {vf ve vb : Value} {vs : List Value} (h : OM w base m vf ve vb vs) (hb : Below w.heap.size w w') : OM w' base m vf ve vb vs :=
  ⟨h.vl, h.feet.kept (only_of_below hb none) some_ne, fun k hk => (h.ways k hk).kept (only_of_below hb none) some_ne, h.ends.kept (only_of_below hb none) some_ne, h.brks.kept (only_of_below hb none) some_ne, h.apart⟩
theorem ownsRow_far {w : World} {base k o e z n : Nat} {v x : Value} {xs : List Value} (h : w.ownsRow base e z v n xs) (hk : k < base) : (w.setCell ⟨k, o, none⟩ x).ownsRow base e z v n xs :=
  h.kept (grown_cell w k o x) (by
    cases hv : v.ownBlock with
    | none => exact .inl rfl
    | some q => right; intro e; cases e; have := (h.lt _ hv).1; omega)
theorem OM.put {w : World} {base k : Nat} {m : Met} {vf ve vb : Value} {vs : List Value} (h : OM w base m vf ve vb vs) (hk : k < base) (o : Nat) (x : Value) : OM (w.setCell ⟨k, o, none⟩ x) base m vf ve vb vs :=
  ⟨h.vl, ownsRow_far h.feet hk, fun j hj => ownsRow_far (h.ways j hj) hk, ownsRow_far h.ends hk, ownsRow_far h.brks hk, h.apart⟩
theorem ownsRow_le {w : World} {base base' e z n : Nat} {v : Value} {xs : List Value} (h : w.ownsRow base e z v n xs) (hb : base' ≤ base) : w.ownsRow base' e z v n xs :=
  ⟨h.1, h.2.imp id fun ⟨g, cap, cur, h1, h2, h3⟩ => ⟨g, cap, cur, h1, Nat.le_trans hb h2, h3⟩⟩
theorem OM.base_le {w : World} {base base' : Nat} {m : Met} {vf ve vb : Value} {vs : List Value} (h : OM w base m vf ve vb vs) (hb : base' ≤ base) : OM w base' m vf ve vb vs :=
  ⟨h.vl, ownsRow_le h.feet hb, fun j hj => ownsRow_le (h.ways j hj) hb, ownsRow_le h.ends hb, ownsRow_le h.brks hb, h.apart⟩
def zeroM : Value := .agg #[nilV, nilV, nilV]
def ReadOk (s : ByteArray) (w : World) (e : Ending) (w' : World) : Prop := Below w.heap.size w w' ∧
  match readP s with
  | .error (c, p) => e = .returned (.tuple #[zeroM, .agg #[.int .i64 c, .int .i64 p]])
  | .ok m => Sized m ∧ ∃ vf ve vb vs, e = .returned (.tuple #[.agg #[vf, ve, vb], .agg #[.int .i64 0, .int .i64 0]]) ∧ OM w' w.heap.size m vf ve vb vs

/-- what holds at the labels -/
def JR (s : ByteArray) (w0 : World) (l g : Nat) (a : Act) (w : World) : Prop :=
  Below w0.heap.size w0 w ∧ Vars w ∧
  w.heap[w0.heap.size]? = some (.cells #[nilV, nilV, nilV] 27 (0, 0)) ∧ w.heap[w0.heap.size + 1]? = some (.cells #[.int .i64 0, .int .i64 0] 30 (0, 0)) ∧
  match l with
  | 0 => Fr s w0.heap.size (w0.heap.size + 2) a ∧ ∃ (L : List Tok) (m : Met) (f : Nat) (vf ve vb : Value) (vs : List Value), L.length * 3 + 2 ≤ g ∧ L.length ≤ f ∧ Cur s L ∧ Sized m ∧ groupsP f L m = readP s ∧ RS w (w0.heap.size + 2) (w0.heap.size + 2) s (hd L).1 (hd L).2 m (aheadOf m) vf ve vb vs
  | 1 => Fr s w0.heap.size (w0.heap.size + 2) a ∧ ∃ (L : List Tok) (m : Met) (f : Nat) (vf ve vb : Value) (vs : List Value), L.length * 3 + 1 ≤ g ∧ L.length ≤ f ∧ Cur s L ∧ Sized m ∧ 0 < m.feet.length ∧ clausesP f L m = readP s ∧ RS w (w0.heap.size + 2) (w0.heap.size + 2) s (hd L).1 (hd L).2 m (aheadOf m) vf ve vb vs
  | 2 => ∃ (c : Int) (p : Nat), FrE s w0.heap.size (w0.heap.size + 2) c a ∧ readP s = .error (c, p) ∧ w.cell? ⟨w0.heap.size + 2, 1, none⟩ = some (.int .i64 p)
  | _ => False
theorem JR_lt {s : ByteArray} {w0 : World} {l g : Nat} {a : Act} {w : World} (h : JR s w0 l g a w) : l < 3 := by
  obtain ⟨_, _, _, _, h⟩ := h
  match l, h with
  | 0, _ => omega
  | 1, _ => omega
  | 2, _ => omega

theorem group_ok {L L' : List Tok} {m m' : Met} (h : groupP L m = .ok (L', m')) (hz : Sized m) : Sized m' ∧ aheadOf m' = aheadOf m ∧ L'.length ≤ L.length ∧ 0 < m'.feet.length := by
  have tail : ∀ (n : Int) (p : Nat) (L1 : List Tok), 1 ≤ n → L1.length ≤ L.length → groupTail n p L1 m = .ok (L', m') → Sized m' ∧ aheadOf m' = aheadOf m ∧ L'.length ≤ L.length ∧ 0 < m'.feet.length := fun n p L1 hn1 hl h => by
    unfold groupTail at h
    split at h
    · split at h
      · rename_i h16
        simp only [Except.ok.injEq, Prod.mk.injEq] at h
        obtain ⟨rfl, rfl⟩ := h
        refine ⟨⟨?_, fun k hk => ?_, hz.ends, hz.brk⟩, rfl, Nat.le_trans (adv_len L1) hl, by simp; omega⟩
        · have := hz.feet
          simp only [List.length_append, List.length_replicate]; omega
        · simp only [] at hk ⊢
          by_cases hlt : k < m.feet.length
          · rw [List.getD_eq_getElem?_getD, List.getElem?_append_left hlt, ← List.getD_eq_getElem?_getD]
            exact hz.ways k hlt
          · simp only [List.length_append, List.length_replicate] at hk
            rw [List.getD_eq_getElem?_getD, List.getElem?_append_right (by omega), List.getElem?_replicate, if_pos (by omega)]
            simp [plainFt]
      · cases h
    · cases h
  unfold groupP at h
  split at h
  · split at h
    · rename_i hn; exact tail _ _ _ (numE_in hn).1 (adv_len L) h
    · cases h
  · exact tail _ _ _ (by decide) (Nat.le_refl _) h

theorem ways_len : ∀ (f : Nat) (L : List Tok) (m : Met) (i n : Nat) (all : Bool) (L' : List Tok) (m' : Met), waysP f L m i n all = .ok (L', m') → L'.length ≤ L.length := by
  intro f
  induction f with
  | zero => intro L m i n all L' m' h; cases h
  | succ f ih =>
    intro L m i n all L' m' h
    have a1 := adv_len L
    have a2 := adv_len (adv L)
    have a3 := adv_len (adv (adv L))
    unfold waysP at h
    split at h
    · split at h
      · split at h
        · split at h
          · have := ih _ _ _ _ _ _ _ h; omega
          · simp only [Except.ok.injEq, Prod.mk.injEq] at h
            rw [← h.1]; omega
        · cases h
      · cases h
    · cases h
theorem ends_len : ∀ (f : Nat) (L : List Tok) (m : Met) (L' : List Tok) (m' : Met), endsP f L m = .ok (L', m') → L'.length ≤ L.length := by
  intro f
  induction f with
  | zero => intro L m L' m' h; cases h
  | succ f ih =>
    intro L m L' m' h
    have a1 := adv_len L
    have a2 := adv_len (adv L)
    have a3 := adv_len (adv (adv L))
    unfold endsP at h
    split at h
    · split at h
      · cases h
      · split at h
        · cases h
        · split at h
          · split at h
            · have := ih _ _ _ _ h; omega
            · simp only [Except.ok.injEq, Prod.mk.injEq] at h
              rw [← h.1]; omega
          · cases h
    · cases h
theorem pause_len {L : List Tok} {m : Met} {L' : List Tok} {m' : Met} (h : pauseP L m = .ok (L', m')) : L'.length ≤ L.length := by
  have a1 := adv_len L
  have a2 := adv_len (adv L)
  unfold pauseP at h
  split at h
  · split at h
    · simp only [Except.ok.injEq, Prod.mk.injEq] at h
      rw [← h.1]; omega
    · cases h
  · cases h
theorem ways_feet : ∀ (f : Nat) (L : List Tok) (m : Met) (i n : Nat) (all : Bool) (L' : List Tok) (m' : Met), i + n ≤ m.feet.length → waysP f L m i n all = .ok (L', m') → m'.feet.length = m.feet.length := by
  intro f
  induction f with
  | zero => intro L m i n all L' m' hin h; cases h
  | succ f ih =>
    intro L m i n all L' m' hin h
    unfold waysP at h
    split at h
    · split at h
      · split at h
        · split at h
          · have hl := layR_len m.feet i n (footB (hd L).2).1 (numE (hd (adv L)).2 0 1048576).1 all hin
            have := ih _ _ _ _ _ _ _ (by simp only []; omega) h
            simp only [] at this; omega
          · simp only [Except.ok.injEq, Prod.mk.injEq] at h
            rw [← h.2]; exact layR_len _ _ _ _ _ _ hin
        · cases h
      · cases h
    · cases h
theorem ends_feet : ∀ (f : Nat) (L : List Tok) (m : Met) (L' : List Tok) (m' : Met), endsP f L m = .ok (L', m') → m'.feet.length = m.feet.length := by
  intro f
  induction f with
  | zero => intro L m L' m' h; cases h
  | succ f ih =>
    intro L m L' m' h
    unfold endsP at h
    split at h
    · split at h
      · cases h
      · split at h
        · cases h
        · split at h
          · split at h
            · have := ih _ _ _ _ h; exact this
            · simp only [Except.ok.injEq, Prod.mk.injEq] at h
              rw [← h.2]
          · cases h
    · cases h
theorem clause_feet {L : List Tok} {m : Met} {L' : List Tok} {m' : Met} (h : clauseP L m = .ok (L', m')) : m'.feet.length = m.feet.length := by
  unfold clauseP at h
  split at h
  · exact ways_feet _ _ _ _ _ _ _ _ (by omega) h
  · split at h
    · exact ends_feet _ _ _ _ _ h
    · split at h
      · unfold pauseP at h
        split at h
        · split at h
          · simp only [Except.ok.injEq, Prod.mk.injEq] at h
            rw [← h.2]
          · cases h
        · cases h
      · split at h
        · split at h
          · rename_i hn
            have := numE_in hn
            exact ways_feet _ _ _ _ _ _ _ _ (by omega) h
          · cases h
        · cases h
theorem clause_len {L : List Tok} {m : Met} {L' : List Tok} {m' : Met} (h : clauseP L m = .ok (L', m')) : L'.length ≤ L.length := by
  have a1 := adv_len L
  unfold clauseP at h
  split at h
  · have := ways_len _ _ _ _ _ _ _ _ h; omega
  · split at h
    · have := ends_len _ _ _ _ _ h; omega
    · split at h
      · have := pause_len h; omega
      · split at h
        · split at h
          · have := ways_len _ _ _ _ _ _ _ _ h; omega
          · cases h
        · cases h

theorem own_cap {w : World} {B e z n : Nat} {v : Value} {x : List Value} (h : w.ownsRow B e z v n x) : ∃ A c, v = .slice A n c ∧ n ≤ c ∧ True := by
  rcases h.2 with ⟨rfl, h0⟩ | ⟨g, cap, cur, rfl, _, hg, hcap, _⟩
  · exact ⟨none, 0, by rw [h0], by omega, trivial⟩
  · exact ⟨_, cap, rfl, hcap, trivial⟩
theorem to_wrong {s : ByteArray} {w wr w3 : World} {c : Int} {p : Nat} (hb : Below w.heap.size w wr) (hvr : Vars wr) (h6 : 6 ≤ w.heap.size) (x2 : wr.heap[w.heap.size]? = some (.cells #[nilV, nilV, nilV] 27 (0, 0))) (x3 : wr.heap[w.heap.size + 1]? = some (.cells #[.int .i64 0, .int .i64 0] 30 (0, 0)))
    (h2 : w.heap.size + 2 ≤ wr.heap.size) (hb3 : Below (w.heap.size + 2) wr w3) (hR : readP s = .error (c, p)) (hat : w3.cell? ⟨w.heap.size + 2, 1, none⟩ = some (.int .i64 p)) :
    ∀ g a, FrE s w.heap.size (w.heap.size + 2) c a → JR s w 2 g a w3 := fun g a ha =>
  ⟨hb.trans (hb3.mono (by omega)), hvr.below hb3 (by omega), (hb3.block w.heap.size (by omega)).trans x2, (hb3.block (w.heap.size + 1) (by omega)).trans x3, c, p, ha, hR, hat⟩
/-- behind a clause: on to the next one, or wrong -/
def ClauseEnd (s : ByteArray) (w : World) (g : Nat) (e : Ending) (w4 : World) : Prop :=
  ∃ c : Int, e = .returned (.int .i64 c) ∧ ((c = 0 ∧ ∀ a, Fr s w.heap.size (w.heap.size + 2) a → lower (JR s w) g 1 a w4) ∨ (c ≠ 0 ∧ ∀ g' a, FrE s w.heap.size (w.heap.size + 2) c a → JR s w 2 g' a w4))
theorem clause_end {s : ByteArray} {w wr w3 w4 : World} {L : List Tok} {m : Met} {q g : Nat} {e : Ending} (hb : Below w.heap.size w wr) (hvr : Vars wr) (h6 : 6 ≤ w.heap.size) (x2 : wr.heap[w.heap.size]? = some (.cells #[nilV, nilV, nilV] 27 (0, 0))) (x3 : wr.heap[w.heap.size + 1]? = some (.cells #[.int .i64 0, .int .i64 0] 30 (0, 0)))
    (h2 : w.heap.size + 2 ≤ wr.heap.size) (hb3 : Below (w.heap.size + 2) wr w3) (h0 : (hd L).2.size ≠ 0) (hsemi : eqS (hd L).2 SEMI = true) (hlt : (adv L).length < L.length) (hg : L.length * 3 + 1 ≤ g) (hf : L.length ≤ q + 1) (hfe : 0 < m.feet.length) (hR : clausesP (q + 1) L m = readP s)
    (hcl : ClOk (w.heap.size + 2) (w.heap.size + 2) s w3 (clauseP (adv L) m) e w4) : ClauseEnd s w g e w4 := by
  obtain ⟨hb4, hcl⟩ := hcl
  have hbb := hb3.trans hb4
  cases hc : clauseP (adv L) m with
  | error x =>
    obtain ⟨c, p⟩ := x
    rw [hc] at hcl
    obtain ⟨rfl, hne, hat⟩ := hcl
    refine ⟨c, rfl, .inr ⟨hne, to_wrong hb hvr h6 x2 x3 h2 hbb ?_ hat⟩⟩
    rw [← hR]; unfold clausesP; simp [h0, hsemi, hc]
  | ok y =>
    obtain ⟨L', m'⟩ := y
    rw [hc] at hcl
    obtain ⟨rfl, hL', hz', vf, ve, vb, vs, hr⟩ := hcl
    have hln := clause_len hc
    have hfl := clause_feet hc
    refine ⟨0, rfl, .inl ⟨rfl, fun a ha => ⟨L'.length * 3 + 1, by omega, hb.trans (hbb.mono (by omega)), hvr.below hbb (by omega), (hbb.block w.heap.size (by omega)).trans x2, (hbb.block (w.heap.size + 1) (by omega)).trans x3, ha, L', m', q, vf, ve, vb, vs, Nat.le_refl _, by omega, hL', hz', by omega, ?_, hr⟩⟩⟩
    rw [← hR]; conv => rhs; unfold clausesP
    simp [h0, hsemi, hc]
theorem semi_lt {s : ByteArray} {L : List Tok} (hL : Cur s L) (h : eqS (hd L).2 SEMI = true) : (adv L).length < L.length := by
  obtain ⟨p, hp, rfl⟩ := hL
  refine adv_lt fun e => ?_
  rw [e] at h
  exact absurd h (by decide +kernel)
theorem five_cells {w wr : World} {v0 v1 v2 v3 v4 : Value} {x0 x1 x2 x3 x4 : Value} (hb : Below w.heap.size w wr) (hx2 : wr.heap[w.heap.size]? = some (.cells #[x0, x1, x2] 27 (0, 0))) (hx3 : wr.heap[w.heap.size + 1]? = some (.cells #[x3, x4] 30 (0, 0)))
    {W6 : World} (hW6 : (((((wr.setCell ⟨w.heap.size, 0, none⟩ v0).setCell ⟨w.heap.size, 1, none⟩ v1).setCell ⟨w.heap.size, 2, none⟩ v2).setCell ⟨w.heap.size + 1, 0, none⟩ v3).setCell ⟨w.heap.size + 1, 1, none⟩ v4) = W6) :
    Below w.heap.size w W6 ∧ W6.heap[w.heap.size]? = some (.cells #[v0, v1, v2] 27 (0, 0)) ∧ W6.heap[w.heap.size + 1]? = some (.cells #[v3, v4] 30 (0, 0)) := by
  have g2 := heap_setCell_same _ w.heap.size 2 _ 27 v2 (heap_setCell_same _ w.heap.size 1 _ 27 v1 (heap_setCell_same wr w.heap.size 0 _ 27 v0 hx2))
  generalize hW5 : ((wr.setCell ⟨w.heap.size, 0, none⟩ v0).setCell ⟨w.heap.size, 1, none⟩ v1).setCell ⟨w.heap.size, 2, none⟩ v2 = W5 at *
  have q3 : W5.heap[w.heap.size + 1]? = some (.cells #[x3, x4] 30 (0, 0)) := by
    rw [← hW5]
    refine (Below.heap_setCell _ _ _ _ ?_).trans ((Below.heap_setCell _ _ _ _ ?_).trans ((Below.heap_setCell _ _ _ _ ?_).trans hx3)) <;> (show w.heap.size + 1 ≠ w.heap.size; omega)
  have g5 := heap_setCell_same _ (w.heap.size + 1) 1 _ 30 v4 (heap_setCell_same W5 (w.heap.size + 1) 0 _ 30 v3 q3)
  refine ⟨?_, ?_, by rw [← hW6]; exact g5⟩
  · rw [← hW6, ← hW5]
    exact ((((hb.setCell (by show w.heap.size ≤ w.heap.size; omega) _).setCell (by show w.heap.size ≤ w.heap.size; omega) _).setCell (by show w.heap.size ≤ w.heap.size; omega) _).setCell (by show w.heap.size ≤ w.heap.size + 1; omega) _).setCell (by show w.heap.size ≤ w.heap.size + 1; omega) _
  · rw [← hW6]
    refine (Below.heap_setCell _ _ _ _ ?_).trans ((Below.heap_setCell _ _ _ _ ?_).trans g2) <;> (show w.heap.size ≠ w.heap.size + 1; omega)
/-- the results are read out of their cells -/
theorem read_end {w W : World} {T : Array Value} {Q : Ending → World → Prop} {v0 v1 v2 v3 v4 : Value} (h2 : T.getD 2 undef = .pointer (some ⟨w.heap.size, 0, none⟩)) (h3 : T.getD 3 undef = .pointer (some ⟨w.heap.size + 1, 0, none⟩))
    (r0 : W.heap[w.heap.size]? = some (.cells #[v0, v1, v2] 27 (0, 0))) (r1 : W.heap[w.heap.size + 1]? = some (.cells #[v3, v4] 30 (0, 0))) (hQ : Q (.returned (.tuple #[.agg #[v0, v1, v2], .agg #[v3, v4]])) W) :
    bodyPost Tryd.prog Tryd.f13 Q Exit.ret { tmps := T, defers := [] } W := by
  have d0 : W.cell? ⟨w.heap.size, 0, none⟩ = some v0 := cell_of_row _ _ _ _ 27 (0, 0) r0
  have d1 : W.cell? ⟨w.heap.size, 1, none⟩ = some v1 := cell_of_row _ _ _ _ 27 (0, 0) r0
  have d2 : W.cell? ⟨w.heap.size, 2, none⟩ = some v2 := cell_of_row _ _ _ _ 27 (0, 0) r0
  have d3 : W.cell? ⟨w.heap.size + 1, 0, none⟩ = some v3 := cell_of_row _ _ _ _ 30 (0, 0) r1
  have d4 : W.cell? ⟨w.heap.size + 1, 1, none⟩ = some v4 := cell_of_row _ _ _ _ 30 (0, 0) r1
  have h2' : T[2]?.getD undef = .pointer (some ⟨w.heap.size, 0, none⟩) := by simpa using h2
  have h3' : T[3]?.getD undef = .pointer (some ⟨w.heap.size + 1, 0, none⟩) := by simpa using h3
  refine bodyPost_ret (v := .tuple #[.agg #[v0, v1, v2], .agg #[v3, v4]]) ?_ rfl hQ
  simp [results, Tryd.f13, go_sem, h2', h3', d0, d1, d2, d3, d4, Tryd.isAgg27, Tryd.isAgg30, Tryd.sizeOf27, Tryd.sizeOf30]

set_option maxRecDepth 100000 in
set_option maxHeartbeats 16000000 in
theorem read_long (s : ByteArray) (w : World) (hs64 : s.size ≤ 4611686018427387904) (hs6 : 65536 < s.size) :
    Calls Tryd.prog 13 #[.string s] w (ReadOk s w) := by
  have HR2 : Hid (readP s = .error (3, 65536)) := Lib.hid (by unfold readP; rw [if_pos hs6])
  go_enter Tryd.func13, Tryd.ntmps13
  go_wp2_with fail
  generalize hw1 : (w.alloc (.cells #[.slice none 0 0, .slice none 0 0, .slice none 0 0] 27)).alloc (.cells #[.int .i64 0, .int .i64 0] 30) = w1
  have x2 : w1.heap[w.heap.size]? = some (.cells #[nilV, nilV, nilV] 27 (0, 0)) := by rw [← hw1]; exact (Below.heap_alloc _ _ _ (by simp)).trans (World.alloc_heap_new w _)
  have x3 : w1.heap[w.heap.size + 1]? = some (.cells #[.int .i64 0, .int .i64 0] 30 (0, 0)) := by
    rw [← hw1]
    have := World.alloc_heap_new (w.alloc (.cells #[.slice none 0 0, .slice none 0 0, .slice none 0 0] 27)) (.cells #[.int .i64 0, .int .i64 0] 30)
    rw [World.size_alloc] at this
    exact this
  have hb1 : Below w.heap.size w w1 := by rw [← hw1]; exact ((Below.refl _ _).alloc (Nat.le_refl _) _).alloc (by simp) _
  have k0 : w1.cell? ⟨w.heap.size, 0, none⟩ = some (.slice none 0 0) := cell_of_row _ _ _ _ 27 (0, 0) x2
  have k1 : w1.cell? ⟨w.heap.size, 1, none⟩ = some (.slice none 0 0) := cell_of_row _ _ _ _ 27 (0, 0) x2
  have k2 : w1.cell? ⟨w.heap.size, 2, none⟩ = some (.slice none 0 0) := cell_of_row _ _ _ _ 27 (0, 0) x2
  have l0 : w1.cell? ⟨w.heap.size + 1, 0, none⟩ = some (.int .i64 0) := cell_of_row _ _ _ _ 30 (0, 0) x3
  have l1 : w1.cell? ⟨w.heap.size + 1, 1, none⟩ = some (.int .i64 0) := cell_of_row _ _ _ _ 30 (0, 0) x3
  have z0 := frozen_of_row w1 w.heap.size 0 _ 27 x2
  have z1 := frozen_of_row w1 w.heap.size 1 _ 27 x2
  have z2 := frozen_of_row w1 w.heap.size 2 _ 27 x2
  have y0 := frozen_of_row w1 (w.heap.size + 1) 0 _ 30 x3
  have y1 := frozen_of_row w1 (w.heap.size + 1) 1 _ 30 x3
  have Hb1 := Lib.hid hb1
  have X2 := Lib.hid x2
  have X3 := Lib.hid x3
  clear hb1 hw1 x2 x3
  refine wp_scope_ghost (fun _ _ _ _ => False) ?_ (fun _ _ _ _ h => h.elim)
  go_wp2_with fail
  obtain ⟨hbe, r0, r1⟩ := five_cells (v0 := .slice none 0 0) (v1 := .slice none 0 0) (v2 := .slice none 0 0) (v3 := .int .i64 3) (v4 := .int .i64 65536) Hb1.out X2.out X3.out rfl
  exact read_end rfl rfl r0 r1 ⟨hbe, by rw [HR2.out]; rfl⟩
set_option maxRecDepth 100000 in
set_option maxHeartbeats 16000000 in
theorem read_short (s : ByteArray) (w : World) (hv : Vars w) (hs6 : s.size ≤ 65536) :
    Calls Tryd.prog 13 #[.string s] w (ReadOk s w) := by
  go_enter Tryd.func13, Tryd.ntmps13
  go_wp2_with fail
  generalize hw1 : (w.alloc (.cells #[.slice none 0 0, .slice none 0 0, .slice none 0 0] 27)).alloc (.cells #[.int .i64 0, .int .i64 0] 30) = w1
  have sw1 : w1.heap.size = w.heap.size + 2 := by rw [← hw1]; simp
  refine wp_scope_three rfl rfl rfl (JR s w) (fun _ _ _ _ => JR_lt) ?p2 ?p1 ?p0 ?first
  case p2 =>
    intro g a wr hJ
    obtain ⟨hb, hvr, hx2, hx3, c, p, hfr, hR, hat⟩ := hJ
    obtain ⟨f, rfl⟩ := hfr
    have k0 : wr.cell? ⟨w.heap.size, 0, none⟩ = some (.slice none 0 0) := cell_of_row _ _ _ _ 27 (0, 0) hx2
    have k1 : wr.cell? ⟨w.heap.size, 1, none⟩ = some (.slice none 0 0) := cell_of_row _ _ _ _ 27 (0, 0) hx2
    have k2 : wr.cell? ⟨w.heap.size, 2, none⟩ = some (.slice none 0 0) := cell_of_row _ _ _ _ 27 (0, 0) hx2
    have l0 : wr.cell? ⟨w.heap.size + 1, 0, none⟩ = some (.int .i64 0) := cell_of_row _ _ _ _ 30 (0, 0) hx3
    have l1 : wr.cell? ⟨w.heap.size + 1, 1, none⟩ = some (.int .i64 0) := cell_of_row _ _ _ _ 30 (0, 0) hx3
    have z0 := frozen_of_row wr w.heap.size 0 _ 27 hx2
    have z1 := frozen_of_row wr w.heap.size 1 _ 27 hx2
    have z2 := frozen_of_row wr w.heap.size 2 _ 27 hx2
    have y0 := frozen_of_row wr (w.heap.size + 1) 0 _ 30 hx3
    have y1 := frozen_of_row wr (w.heap.size + 1) 1 _ 30 hx3
    go_wp2_with fail
    go_region
    all_goals
      go_wp2_with fail
      have g2 := heap_setCell_same _ w.heap.size 2 _ 27 (.slice none 0 0) (heap_setCell_same _ w.heap.size 1 _ 27 (.slice none 0 0) (heap_setCell_same wr w.heap.size 0 _ 27 (.slice none 0 0) hx2))
      have g3 := hx3
      generalize hW5 : ((wr.setCell ⟨w.heap.size, 0, none⟩ (.slice none 0 0)).setCell ⟨w.heap.size, 1, none⟩ (.slice none 0 0)).setCell ⟨w.heap.size, 2, none⟩ (.slice none 0 0) = W5 at *
      have q3 : W5.heap[w.heap.size + 1]? = some (.cells #[.int .i64 0, .int .i64 0] 30 (0, 0)) := by
        rw [← hW5]
        refine (Below.heap_setCell _ _ _ _ ?_).trans ((Below.heap_setCell _ _ _ _ ?_).trans ((Below.heap_setCell _ _ _ _ ?_).trans hx3)) <;> (show w.heap.size + 1 ≠ w.heap.size; omega)
      have g5 := heap_setCell_same _ (w.heap.size + 1) 1 _ 30 (.int .i64 p) (heap_setCell_same W5 (w.heap.size + 1) 0 _ 30 (.int .i64 c) q3)
      have g4 : ((W5.setCell ⟨w.heap.size + 1, 0, none⟩ (.int .i64 c)).setCell ⟨w.heap.size + 1, 1, none⟩ (.int .i64 p)).heap[w.heap.size]? = some (.cells #[.slice none 0 0, .slice none 0 0, .slice none 0 0] 27 (0, 0)) := by
        refine (Below.heap_setCell _ _ _ _ ?_).trans ((Below.heap_setCell _ _ _ _ ?_).trans g2) <;> (show w.heap.size ≠ w.heap.size + 1; omega)
      have hb5 : Below w.heap.size w ((W5.setCell ⟨w.heap.size + 1, 0, none⟩ (.int .i64 c)).setCell ⟨w.heap.size + 1, 1, none⟩ (.int .i64 p)).drew := by
        rw [← hW5]
        exact (((((hb.setCell (by show w.heap.size ≤ w.heap.size; omega) _).setCell (by show w.heap.size ≤ w.heap.size; omega) _).setCell (by show w.heap.size ≤ w.heap.size; omega) _).setCell (by show w.heap.size ≤ w.heap.size + 1; omega) _).setCell (by show w.heap.size ≤ w.heap.size + 1; omega) _).drew
      generalize hW6 : ((W5.setCell ⟨w.heap.size + 1, 0, none⟩ (.int .i64 c)).setCell ⟨w.heap.size + 1, 1, none⟩ (.int .i64 p)).drew = W6
      have r0 : W6.heap[w.heap.size]? = some (.cells #[.slice none 0 0, .slice none 0 0, .slice none 0 0] 27 (0, 0)) := by rw [← hW6]; exact g4
      have r1 : W6.heap[w.heap.size + 1]? = some (.cells #[.int .i64 c, .int .i64 p] 30 (0, 0)) := by rw [← hW6]; exact g5
      rw [hW6] at hb5
      have d0 : W6.cell? ⟨w.heap.size, 0, none⟩ = some (.slice none 0 0) := cell_of_row _ _ _ _ 27 (0, 0) r0
      have d1 : W6.cell? ⟨w.heap.size, 1, none⟩ = some (.slice none 0 0) := cell_of_row _ _ _ _ 27 (0, 0) r0
      have d2 : W6.cell? ⟨w.heap.size, 2, none⟩ = some (.slice none 0 0) := cell_of_row _ _ _ _ 27 (0, 0) r0
      have d3 : W6.cell? ⟨w.heap.size + 1, 0, none⟩ = some (.int .i64 c) := cell_of_row _ _ _ _ 30 (0, 0) r1
      have d4 : W6.cell? ⟨w.heap.size + 1, 1, none⟩ = some (.int .i64 p) := cell_of_row _ _ _ _ 30 (0, 0) r1
      have hres : ReadOk s w (.returned (.tuple #[zeroM, .agg #[.int .i64 c, .int .i64 p]])) W6 := by
        unfold ReadOk; rw [hR]; exact ⟨hb5, rfl⟩
      refine bodyPost_ret (v := .tuple #[zeroM, .agg #[.int .i64 c, .int .i64 p]]) ?_ rfl hres
      simp [results, Tryd.f13, go_sem, d0, d1, d2, d3, d4, Tryd.isAgg27, Tryd.isAgg30, Tryd.sizeOf27, Tryd.sizeOf30]
      rfl
  case p1 =>
    intro q2 g a wr hJ
    obtain ⟨hb, hvr, hx2, hx3, hfr, L, m, f, vf, ve, vb, vs, hg, hf, hL, hz, hfe, hR, hr⟩ := hJ
    obtain ⟨u, rfl⟩ := hfr
    have hlp : 0 < L.length := by
      obtain ⟨p, hp, e⟩ := hL
      rw [e]; exact toks_pos s p
    obtain ⟨q, rfl⟩ : ∃ q, f = q + 1 := ⟨f - 1, by omega⟩
    have hbase : w.heap.size + 2 ≤ wr.heap.size := hr.bs
    obtain ⟨gf, cf, hvf⟩ := own_form hr.feet hfe
    subst hvf
    have hcf : m.feet.length ≤ cf := by
      obtain ⟨A, c, e, hc, _⟩ := own_cap hr.feet
      cases e; exact hc
    have d1 := hr.rb.c1
    have d2 := hr.rb.c2
    have Hq2 := Lib.hid q2
    have Hr := Lib.hid hr
    have HR := Lib.hid hR
    have Hb := Lib.hid hb
    have Hvr := Lib.hid hvr
    have Hx2 := Lib.hid hx2
    have Hx3 := Lib.hid hx3
    have Hg := Lib.hid hg
    have Hf := Lib.hid hf
    have H6 : Hid (6 ≤ w.heap.size) := Lib.hid hv.six
    clear q2 hR hr hb hvr hx2 hx3 hg hf
    have hqs : eqS (hd L).2 SEMI = ((hd L).2.toList == [59]) := eqS_semi _
    by_cases h0 : (hd L).2.size = 0
    · have hl0 : (hd L).2.toList = [] := list_nil h0
      have HR2 : Hid (readP s = .ok m) := Lib.hid (by rw [← HR.out]; unfold clausesP; rw [if_pos h0])
      obtain ⟨A4, cc4, hve⟩ := own_slice Hr.out.ends
      obtain ⟨A5, cc5, hvb⟩ := own_slice Hr.out.brks
      subst hve hvb
      have c3 := Hr.out.rb.c3
      have c4 := Hr.out.rb.c4
      have c5 := Hr.out.rb.c5
      have k0 : wr.cell? ⟨w.heap.size, 0, none⟩ = some (.slice none 0 0) := cell_of_row _ _ _ _ 27 (0, 0) Hx2.out
      have k1 : wr.cell? ⟨w.heap.size, 1, none⟩ = some (.slice none 0 0) := cell_of_row _ _ _ _ 27 (0, 0) Hx2.out
      have k2 : wr.cell? ⟨w.heap.size, 2, none⟩ = some (.slice none 0 0) := cell_of_row _ _ _ _ 27 (0, 0) Hx2.out
      have l0 : wr.cell? ⟨w.heap.size + 1, 0, none⟩ = some (.int .i64 0) := cell_of_row _ _ _ _ 30 (0, 0) Hx3.out
      have l1 : wr.cell? ⟨w.heap.size + 1, 1, none⟩ = some (.int .i64 0) := cell_of_row _ _ _ _ 30 (0, 0) Hx3.out
      have z0 := frozen_of_row wr w.heap.size 0 _ 27 Hx2.out
      have z1 := frozen_of_row wr w.heap.size 1 _ 27 Hx2.out
      have z2 := frozen_of_row wr w.heap.size 2 _ 27 Hx2.out
      have y0 := frozen_of_row wr (w.heap.size + 1) 0 _ 30 Hx3.out
      have y1 := frozen_of_row wr (w.heap.size + 1) 1 _ 30 Hx3.out
      clear h0 hqs
      go_wp2_with fail
      obtain ⟨hbe, r0, r1⟩ := five_cells (v0 := .slice (some ⟨gf, 0, none⟩) m.feet.length cf) (v1 := .slice A4 m.ends.length cc4) (v2 := .slice A5 m.brks.length cc5) (v3 := .int .i64 0) (v4 := .int .i64 0) Hb.out Hx2.out Hx3.out rfl
      refine read_end rfl rfl r0 r1 ?_
      have hom := ((((Hr.out.om.put (k := w.heap.size) (by omega) 0 (.slice (some ⟨gf, 0, none⟩) m.feet.length cf)).put (k := w.heap.size) (by omega) 1 (.slice A4 m.ends.length cc4)).put (k := w.heap.size) (by omega) 2 (.slice A5 m.brks.length cc5)).put (k := w.heap.size + 1) (by omega) 0 (.int .i64 0)).put (k := w.heap.size + 1) (by omega) 1 (.int .i64 0)
      refine ⟨hbe, ?_⟩
      rw [HR2.out]
      exact ⟨hz, _, _, _, vs, rfl, hom.base_le (by omega)⟩
    · cases hc : eqS (hd L).2 SEMI with
      | false =>
        have hne : ((hd L).2.toList == [59]) = false := by rw [← hqs, hc]
        have hpos : 0 < (hd L).2.size := by omega
        have hl1 := list_pos hpos
        have hne' : ((hd L).2.toList != [59]) = true := by simp [bne, hne]
        have HR2 : Hid (readP s = .error (130, (hd L).1)) := Lib.hid (by rw [← HR.out]; unfold clausesP; simp [h0, hc])
        have HJ2 := Lib.hid (to_wrong Hb.out Hvr.out H6.out Hx2.out Hx3.out hbase (Below.refl _ _) HR2.out d1)
        clear h0 hqs hc
        go_wp2_with fail
        go_step3
        exact ⟨0, by have := Hg.out; omega, HJ2.out _ _ (FrE.of rfl rfl rfl rfl rfl rfl rfl)⟩
      | true =>
        have hne : ((hd L).2.toList == [59]) = true := by rw [← hqs, hc]
        have hpos : 0 < (hd L).2.size := by omega
        have hl1 := list_pos hpos
        have hne' : ((hd L).2.toList != [59]) = false := by simp [bne, hne]
        have Hlt := Lib.hid (semi_lt hL hc)
        have Hce := Lib.hid (fun (w3 w4 : World) (e : Ending) hb3 hcl => clause_end (w3 := w3) (w4 := w4) (e := e) (g := g) Hb.out Hvr.out H6.out Hx2.out Hx3.out hbase hb3 h0 hc Hlt.out Hg.out Hf.out hfe HR.out hcl)
        have Hcr := Lib.hid (fun (c : Int) (p : Nat) (he : clauseP (adv L) m = .error (c, p)) => (show readP s = .error (c, p) by rw [← HR.out]; unfold clausesP; simp [h0, hc, he]))
        have hnx := next_rs Hr.out hL hs6
        have Hbb := Lib.hid fun w1 hg => below_b (w' := w1) Hr.out hg
        clear h0 hqs hc
        go_wp2_with fail
        refine hnx.mono ?_
        rintro e w3 ⟨rfl, h3, hg3⟩
        have H3 := Lib.hid h3
        have Hb3 := Lib.hid (Hbb.out w3 hg3)
        have d2 := h3.rb.c2
        have Hv3 := Lib.hid (Hvr.out.below Hb3.out (by have := H6.out; omega))
        clear hnx Hbb h3 hg3
        have HL := Lib.hid hL.adv
        have q1 := eqS_any (hd (adv L)).2
        have q2 := eqS_end (hd (adv L)).2
        have q3 := eqS_break (hd (adv L)).2
        cases hc1 : eqS (hd (adv L)).2 ANY with
        | true =>
          have n1 : ((hd (adv L)).2.toList == [97, 110, 121]) = true := by rw [← q1, hc1]
          have Hcl := Lib.hid (show clauseP (adv L) m = waysP (adv (adv L)).length (adv (adv L)) m 0 m.feet.length true by unfold clauseP; simp [hc1])
          have hnx := next_rs H3.out HL.out hs6
          have Hbb := Lib.hid fun w1 hg => below_b (w' := w1) H3.out hg
          clear hc1 q1 q2 q3
          go_wp2_with fail
          refine hnx.mono ?_
          rintro e w5 ⟨rfl, h5, hg5⟩
          have H5 := Lib.hid h5
          have Hb5 := Lib.hid (Hb3.out.trans (Hbb.out w5 hg5))
          have d3 := h5.rb.c3
          have hw := waysR_any H5.out HL.out.adv hs6 (Hvr.out.below Hb5.out (by have := H6.out; omega)) (by have := H6.out; omega) hz 0 m.feet.length cf (by omega) true
          simp only [Nat.zero_mul] at hw
          have Hw := Lib.hid hw
          clear hnx Hbb h5 hg5 hw
          go_wp2_with fail
          refine Hw.out.mono ?_
          rintro e w6 ⟨hb6, hcl⟩
          have hce := Hce.out w5 w6 e Hb5.out (by rw [Hcl.out]; exact ⟨hb6, hcl⟩)
          clear hb6 hcl
          obtain ⟨c, rfl, hce⟩ := hce
          rcases hce with ⟨rfl, hJ⟩ | ⟨hne, hJ⟩
          · have HJ := Lib.hid hJ
            clear hJ
            go_wp2_with fail
            go_step3
            exact HJ.out _ (Fr.of rfl rfl rfl rfl rfl rfl)
          · have HJ := Lib.hid hJ
            have hne' : (c == 0) = false := by simpa using hne
            clear hJ hne
            go_wp2_with fail
            go_step3
            apply_assumption
            refine Code.wp_mono (jumps_mono (lower_mono (Nat.zero_le _))) (Hq2.out _ _ _ (HJ.out 0 _ ?_))
            exact FrE.of rfl rfl rfl rfl rfl rfl rfl
        | false =>
          have n1 : ((hd (adv L)).2.toList == [97, 110, 121]) = false := by rw [← q1, hc1]
          clear q1
          cases hc2 : eqS (hd (adv L)).2 END with
          | true =>
            have n2 : ((hd (adv L)).2.toList == [101, 110, 100]) = true := by rw [← q2, hc2]
            have Hcl := Lib.hid (show clauseP (adv L) m = endsP (adv (adv L)).length (adv (adv L)) m by unfold clauseP; simp [hc1, hc2])
            have hnx := next_rs H3.out HL.out hs6
            have Hbb := Lib.hid fun w1 hg => below_b (w' := w1) H3.out hg
            clear hc1 hc2 q2 q3
            go_wp2_with fail
            refine hnx.mono ?_
            rintro e w5 ⟨rfl, h5, hg5⟩
            have H5 := Lib.hid h5
            have Hb5 := Lib.hid (Hb3.out.trans (Hbb.out w5 hg5))
            have Hw := Lib.hid (ends_any H5.out HL.out.adv hs6 (Hvr.out.below Hb5.out (by have := H6.out; omega)) (by have := H6.out; omega) hz)
            clear hnx Hbb h5 hg5
            go_wp2_with fail
            refine Hw.out.mono ?_
            rintro e w6 ⟨hb6, hcl⟩
            have hce := Hce.out w5 w6 e Hb5.out (by rw [Hcl.out]; exact ⟨hb6, hcl⟩)
            clear hb6 hcl
            obtain ⟨c, rfl, hce⟩ := hce
            rcases hce with ⟨rfl, hJ⟩ | ⟨hne, hJ⟩
            · have HJ := Lib.hid hJ
              clear hJ
              go_wp2_with fail
              go_step3
              exact HJ.out _ (Fr.of rfl rfl rfl rfl rfl rfl)
            · have HJ := Lib.hid hJ
              have hne' : (c == 0) = false := by simpa using hne
              clear hJ hne
              go_wp2_with fail
              go_step3
              apply_assumption
              refine Code.wp_mono (jumps_mono (lower_mono (Nat.zero_le _))) (Hq2.out _ _ _ (HJ.out 0 _ ?_))
              exact FrE.of rfl rfl rfl rfl rfl rfl rfl
          | false =>
            have n2 : ((hd (adv L)).2.toList == [101, 110, 100]) = false := by rw [← q2, hc2]
            clear q2
            cases hc3 : eqS (hd (adv L)).2 BREAK with
            | true =>
              have n3 : ((hd (adv L)).2.toList == [98, 114, 101, 97, 107]) = true := by rw [← q3, hc3]
              have Hcl := Lib.hid (show clauseP (adv L) m = pauseP (adv (adv L)) m by unfold clauseP; simp [hc1, hc2, hc3])
              have hnx := next_rs H3.out HL.out hs6
              have Hbb := Lib.hid fun w1 hg => below_b (w' := w1) H3.out hg
              clear hc1 hc2 hc3 q3
              go_wp2_with fail
              refine hnx.mono ?_
              rintro e w5 ⟨rfl, h5, hg5⟩
              have H5 := Lib.hid h5
              have Hb5 := Lib.hid (Hb3.out.trans (Hbb.out w5 hg5))
              have Hw := Lib.hid (pause_any H5.out HL.out.adv hs6 (Hvr.out.below Hb5.out (by have := H6.out; omega)) (by have := H6.out; omega) hz)
              clear hnx Hbb h5 hg5
              go_wp2_with fail
              refine Hw.out.mono ?_
              rintro e w6 ⟨hb6, hcl⟩
              have hce := Hce.out w5 w6 e Hb5.out (by rw [Hcl.out]; exact ⟨hb6, hcl⟩)
              clear hb6 hcl
              obtain ⟨c, rfl, hce⟩ := hce
              rcases hce with ⟨rfl, hJ⟩ | ⟨hne, hJ⟩
              · have HJ := Lib.hid hJ
                clear hJ
                go_wp2_with fail
                go_step3
                exact HJ.out _ (Fr.of rfl rfl rfl rfl rfl rfl)
              · have HJ := Lib.hid hJ
                have hne' : (c == 0) = false := by simpa using hne
                clear hJ hne
                go_wp2_with fail
                go_step3
                apply_assumption
                refine Code.wp_mono (jumps_mono (lower_mono (Nat.zero_le _))) (Hq2.out _ _ _ (HJ.out 0 _ ?_))
                exact FrE.of rfl rfl rfl rfl rfl rfl rfl
            | false =>
              have n3 : ((hd (adv L)).2.toList == [98, 114, 101, 97, 107]) = false := by rw [← q3, hc3]
              clear q3
              have hfig := figure_any (w.heap.size + 2) (hd (adv L)).2 w3 d2
              cases hc4 : figB (hd (adv L)).2 with
              | false =>
                rw [hc4] at hfig
                have Her := Lib.hid (show clauseP (adv L) m = .error (130, (hd (adv L)).1) by unfold clauseP; simp [hc1, hc2, hc3, hc4])
                have hce := Hce.out w3 w3 (.returned (.int .i64 130)) Hb3.out (by rw [Her.out]; exact ⟨Below.refl _ _, rfl, by decide, H3.out.rb.c1⟩)
                have Hce3 := Lib.hid hce
                clear hc1 hc2 hc3 hc4 hce
                go_wp2_with fail
                refine hfig.mono ?_
                rintro e w' ⟨rfl, rfl⟩
                obtain ⟨c, hc, hce⟩ := Hce3.out
                cases hc
                rcases hce with ⟨h, _⟩ | ⟨hne, hJ⟩
                · exact absurd h (by decide)
                · have HJ := Lib.hid hJ
                  clear hJ hne
                  go_wp2_with fail
                  go_step3
                  apply_assumption
                  refine Code.wp_mono (jumps_mono (lower_mono (Nat.zero_le _))) (Hq2.out _ _ _ (HJ.out 0 _ ?_))
                  exact FrE.of rfl rfl rfl rfl rfl rfl rfl
              | true =>
                rw [hc4] at hfig
                have c3 := H3.out.rb.c3
                have hbl3 := H3.out.bl
                have Hfig := Lib.hid hfig
                have hnum := number_rs (w.heap.size + 2) (hd (adv L)).2 1 m.feet.length w3.drew d2 hbl3 (Hv3.out.drewN 1) (by have := HL.out.size; omega)
                have Hin := Lib.hid (fun h => numE_in (t := (hd (adv L)).2) (lo := 1) (hi := m.feet.length) h)
                have Hcl := Lib.hid (show clauseP (adv L) m = (if (numE (hd (adv L)).2 1 m.feet.length).2 = 0 then waysP (adv (adv L)).length (adv (adv L)) m ((numE (hd (adv L)).2 1 m.feet.length).1.toNat - 1) 1 false else .error ((numE (hd (adv L)).2 1 m.feet.length).2, (hd (adv L)).1)) by unfold clauseP; simp [hc1, hc2, hc3, hc4])
                generalize numE (hd (adv L)).2 1 m.feet.length = E at hnum Hin Hcl
                obtain ⟨nn, en⟩ := E
                simp only [] at hnum Hin Hcl
                have Hnum := Lib.hid hnum
                have Hbel9 := Lib.hid fun (w9 : World) (hb9 : Below w3.drew.heap.size w3.drew w9) => And.intro ((RS.drewN H3.out 1).below hb9) (Hb3.out.trans ((belowD (Below.refl (w.heap.size + 2) w3) 1 : Below (w.heap.size + 2) w3 w3.drew).trans (hb9.mono H3.out.bs)))
                clear hc1 hc2 hc3 hc4 hfig hnum
                go_wp2_with fail
                refine Hfig.out.mono ?_
                rintro e w' ⟨rfl, rfl⟩
                go_wp2_with fail
                go_region_with (go_at_call 49; refine (Hnum.out).mono ?_; rintro e w9 ⟨rfl, hb9⟩; obtain ⟨h9, hbe9⟩ := Hbel9.out _ hb9; have H9 := Lib.hid h9; have Hb9 := Lib.hid hbe9; have k3 := h9.rb.c3; clear h9 hbe9 hb9)
                all_goals
                  clear Hnum Hbel9 Hfig
                  by_cases hn0 : en = 0
                  · subst hn0
                    have hin := Hin.out rfl
                    obtain ⟨i, hi⟩ : ∃ i : Nat, nn = (i : Int) + 1 := ⟨(nn - 1).toNat, by have := hin.1; omega⟩
                    subst hi
                    have hil : i < m.feet.length := by have := hin.2; omega
                    have hcl1 := Hcl.out
                    rw [if_pos rfl, show ((i : Int) + 1).toNat - 1 = i by omega] at hcl1
                    have Hcl1 := Lib.hid hcl1
                    have hnx := next_rs H9.out HL.out hs6
                    have Hbb := Lib.hid fun w1 hg => below_b (w' := w1) H9.out hg
                    have hic : i < cf := by omega
                    have hine : ¬ i = cf := by omega
                    clear hin hcl1 Hin Hcl
                    go_wp2_with fail
                    refine hnx.mono ?_
                    rintro e w5 ⟨rfl, h5, hg5⟩
                    have H5 := Lib.hid h5
                    have Hb5 := Lib.hid (Hb9.out.trans (Hbb.out w5 hg5))
                    have d5 := h5.rb.c3
                    have hw := waysR_any H5.out HL.out.adv hs6 (Hvr.out.below Hb5.out (by have := H6.out; omega)) (by have := H6.out; omega) hz i 1 (cf - i) (by omega) false
                    have Hw := Lib.hid hw
                    have hf16 := hz.feet
                    clear hnx Hbb h5 hg5 hw
                    go_wp2_with fail
                    refine Hw.out.mono ?_
                    rintro e w6 ⟨hb6, hcl⟩
                    have hce := Hce.out w5 w6 e Hb5.out (by rw [Hcl1.out]; exact ⟨hb6, hcl⟩)
                    clear hb6 hcl
                    obtain ⟨c, rfl, hce⟩ := hce
                    rcases hce with ⟨rfl, hJ⟩ | ⟨hne, hJ⟩
                    · have HJ := Lib.hid hJ
                      clear hJ
                      go_wp2_with fail
                      go_step3
                      exact HJ.out _ (Fr.of rfl rfl rfl rfl rfl rfl)
                    · have HJ := Lib.hid hJ
                      have hne' : (c == 0) = false := by simpa using hne
                      clear hJ hne
                      go_wp2_with fail
                      go_step3
                      apply_assumption
                      refine Code.wp_mono (jumps_mono (lower_mono (Nat.zero_le _))) (Hq2.out _ _ _ (HJ.out 0 _ ?_))
                      exact FrE.of rfl rfl rfl rfl rfl rfl rfl
                  · have Her := Lib.hid (show clauseP (adv L) m = .error (en, (hd (adv L)).1) by rw [Hcl.out, if_neg hn0])
                    have hce := Hce.out _ _ (.returned (.int .i64 en)) Hb9.out (by rw [Her.out]; exact ⟨Below.refl _ _, rfl, hn0, H9.out.rb.c1⟩)
                    have hne1 : (en == 0) = false := by simpa using hn0
                    clear hn0
                    obtain ⟨c, hc, hce⟩ := hce
                    cases hc
                    rcases hce with ⟨h, _⟩ | ⟨hne, hJ⟩
                    · subst h
                      simp at hne1
                    · have HJ := Lib.hid hJ
                      clear hJ hne
                      go_wp2_with fail
                      go_step3
                      apply_assumption
                      refine Code.wp_mono (jumps_mono (lower_mono (Nat.zero_le _))) (Hq2.out _ _ _ (HJ.out 0 _ ?_))
                      exact FrE.of rfl rfl rfl rfl rfl rfl rfl
  case p0 =>
    intro q1 g a wr hJ
    obtain ⟨hb, hvr, hx2, hx3, hfr, L, m, f, vf, ve, vb, vs, hg, hf, hL, hz, hR, hr⟩ := hJ
    obtain ⟨u, rfl⟩ := hfr
    have hlp : 0 < L.length := by
      obtain ⟨p, hp, e⟩ := hL
      rw [e]; exact toks_pos s p
    obtain ⟨q, rfl⟩ : ∃ q, f = q + 1 := ⟨f - 1, by omega⟩
    have hgr := group_any hr hL hs6 hvr (by have := hv.six; omega) hz.feet
    have hbase : w.heap.size + 2 ≤ wr.heap.size := hr.bs
    have Hq1 := Lib.hid q1
    have HR := Lib.hid hR
    have Hb := Lib.hid hb
    have Hvr := Lib.hid hvr
    have Hx2 := Lib.hid hx2
    have Hx3 := Lib.hid hx3
    have Hg := Lib.hid hg
    have Hf := Lib.hid hf
    clear q1 hR hr hb hvr hx2 hx3 hg hf
    cases hgp : groupP L m with
    | error x =>
      obtain ⟨c, p⟩ := x
      rw [hgp] at hgr
      have HR2 : Hid (readP s = .error (c, p)) := Lib.hid (by rw [← HR.out]; unfold groupsP; rw [hgp])
      clear hgp
      go_wp2_with fail
      refine hgr.mono ?_
      rintro e w2 ⟨hb2, rfl, hc0⟩
      have x2 := (hb2.block w.heap.size (by omega)).trans Hx2.out
      have x3 := (hb2.block (w.heap.size + 1) (by omega)).trans Hx3.out
      have hb3 := Hb.out.trans (hb2.mono (by omega))
      have k0 : w2.cell? ⟨w.heap.size, 0, none⟩ = some (.slice none 0 0) := cell_of_row _ _ _ _ 27 (0, 0) x2
      have k1 : w2.cell? ⟨w.heap.size, 1, none⟩ = some (.slice none 0 0) := cell_of_row _ _ _ _ 27 (0, 0) x2
      have k2 : w2.cell? ⟨w.heap.size, 2, none⟩ = some (.slice none 0 0) := cell_of_row _ _ _ _ 27 (0, 0) x2
      have l0 : w2.cell? ⟨w.heap.size + 1, 0, none⟩ = some (.int .i64 0) := cell_of_row _ _ _ _ 30 (0, 0) x3
      have l1 : w2.cell? ⟨w.heap.size + 1, 1, none⟩ = some (.int .i64 0) := cell_of_row _ _ _ _ 30 (0, 0) x3
      have z0 := frozen_of_row w2 w.heap.size 0 _ 27 x2
      have z1 := frozen_of_row w2 w.heap.size 1 _ 27 x2
      have z2 := frozen_of_row w2 w.heap.size 2 _ 27 x2
      have y0 := frozen_of_row w2 (w.heap.size + 1) 0 _ 30 x3
      have y1 := frozen_of_row w2 (w.heap.size + 1) 1 _ 30 x3
      have hc0' : (c != 0) = true := by simpa using hc0
      unfold groupNo
      clear hc0
      go_wp2_with fail
      obtain ⟨hbe, r0, r1⟩ := five_cells (v0 := .slice none 0 0) (v1 := .slice none 0 0) (v2 := .slice none 0 0) (v3 := .int .i64 c) (v4 := .int .i64 p) hb3 x2 x3 rfl
      exact read_end rfl rfl r0 r1 ⟨hbe, by rw [HR2.out]; rfl⟩
    | ok y =>
      obtain ⟨L', m'⟩ := y
      rw [hgp] at hgr
      obtain ⟨hz', hah, hlen, hpo⟩ := group_ok hgp hz
      have hR2 : (if eqS (hd L').2 COMMA then groupsP q (adv L') m' else clausesP L'.length L' m') = readP s := by
        rw [← HR.out]
        conv => rhs; unfold groupsP
        rw [hgp]
      have HR2 := Lib.hid hR2
      clear hR2
      clear hgp
      go_wp2_with fail
      refine hgr.mono ?_
      rintro e w2 ⟨hb2, rfl, hL', vf', ve', vb', vs', h2⟩
      have x2 := (hb2.block w.heap.size (by omega)).trans Hx2.out
      have x3 := (hb2.block (w.heap.size + 1) (by omega)).trans Hx3.out
      have hb3 := Hb.out.trans (hb2.mono (by omega))
      have hv3 := Hvr.out.below hb2 (by have := hv.six; omega)
      have hq7 : eqS (hd L').2 COMMA = ((hd L').2.toList == [44]) := eqS_comma _
      rw [← hah] at h2
      have H2 := Lib.hid h2
      have d2 := h2.rb.c2
      clear h2 hgr
      unfold groupOk
      cases hc : eqS (hd L').2 COMMA with
      | true =>
        have hne : ((hd L').2.toList == [44]) = true := by rw [← hq7, hc]
        have HR3 : Hid (groupsP q (adv L') m' = readP s) := Lib.hid (by rw [← HR2.out, hc]; rfl)
        have Hlt := Lib.hid (comma_lt hL' hc)
        have hnx := next_rs H2.out hL' hs6
        have Hbb := Lib.hid fun w1 hg => below_b (w' := w1) H2.out hg
        clear hc hq7
        go_wp2_with fail
        refine hnx.mono ?_
        rintro e w3 ⟨rfl, h3, hg3⟩
        have hb4 := Hbb.out w3 hg3
        have hbs2 := H2.out.bs
        have J0 : ∀ a, Fr s w.heap.size (w.heap.size + 2) a → lower (JR s w) g 0 a w3 := fun a ha => ⟨(adv L').length * 3 + 2, by have := Hlt.out; have := Hg.out; omega, hb3.trans (hb4.mono (by omega)), hv3.below hb4 (by have := hv.six; omega),
          (hb4.block w.heap.size (by omega)).trans x2, (hb4.block (w.heap.size + 1) (by omega)).trans x3, ha, adv L', m', q, vf', ve', vb', vs', Nat.le_refl _, by have := Hlt.out; have := Hf.out; omega, hL'.adv, hz', HR3.out, h3⟩
        have HJ0 := Lib.hid J0
        clear J0 hb4 h3 hg3 Hbb hnx hb3 hv3 x2 x3
        go_wp2_with fail
        go_step3
        refine HJ0.out _ ?_
        exact Fr.of rfl rfl rfl rfl rfl rfl
      | false =>
        have hne : ((hd L').2.toList == [44]) = false := by rw [← hq7, hc]
        have HR3 : Hid (clausesP L'.length L' m' = readP s) := Lib.hid (by rw [← HR2.out, hc]; rfl)
        have J1 : ∀ a, Fr s w.heap.size (w.heap.size + 2) a → JR s w 1 (L'.length * 3 + 1) a w2 := fun a ha => ⟨hb3, hv3, x2, x3, ha, L', m', L'.length, vf', ve', vb', vs', Nat.le_refl _, Nat.le_refl _, hL', hz', hpo, HR3.out, H2.out⟩
        have HJ1 := Lib.hid J1
        clear J1 hc hq7 hb3 hv3 x2 x3
        go_wp2_with fail
        go_step3
        apply_assumption
        refine Code.wp_mono (jumps_mono (lower_mono (by have := Hg.out; omega))) (Hq1.out _ _ _ (HJ1.out _ ?_))
        exact Fr.of rfl rfl rfl rfl rfl rfl
  case first =>
    intro q0
    have Hq0 := Lib.hid q0
    have hb1 : Below w.heap.size w w1 := by rw [← hw1]; exact ((Below.refl _ _).alloc (Nat.le_refl _) _).alloc (by simp) _
    have Hb1 := Lib.hid hb1
    have Hw1 := Lib.hid hw1
    have x2 : w1.heap[w.heap.size]? = some (.cells #[nilV, nilV, nilV] 27 (0, 0)) := by rw [← hw1]; exact (Below.heap_alloc _ _ _ (by simp)).trans (World.alloc_heap_new w _)
    have x3 : w1.heap[w.heap.size + 1]? = some (.cells #[.int .i64 0, .int .i64 0] 30 (0, 0)) := by
      rw [← hw1]
      have := World.alloc_heap_new (w.alloc (.cells #[.slice none 0 0, .slice none 0 0, .slice none 0 0] 27)) (.cells #[.int .i64 0, .int .i64 0] 30)
      rw [World.size_alloc] at this
      exact this
    have X2 := Lib.hid x2
    have X3 := Lib.hid x3
    generalize hw2 : w1.alloc (.cells #[.string s, .int .i64 0, .string ⟨#[]⟩, .slice none 0 0, .slice none 0 0, .slice none 0 0, .int .i64 0] 90) = w2
    have r2 : RB w2 (w.heap.size + 2) s 0 ⟨#[]⟩ nilV nilV nilV 0 := by
      rw [← hw2, ← sw1]; exact World.alloc_heap_new w1 _
    have hb2 : Below (w.heap.size + 2) w1 w2 := by rw [← hw2]; exact (Below.refl _ _).alloc (by omega) _
    have Hw2 := Lib.hid hw2
    have s2 : w2.heap.size = w.heap.size + 3 := by rw [← hw2]; simp [sw1]
    have hnx := next_any (w.heap.size + 2) 0 s ⟨#[]⟩ nilV nilV nilV 0 w2 r2 (by show 0 + 0 ≤ s.size; omega) (by omega)
    have Hnx := Lib.hid hnx
    have Hb2 := Lib.hid hb2
    have R2 := Lib.hid r2
    have HvH := Lib.hid hv
    clear q0 hb1 hw1 hw2 hnx hb2 r2 x2 x3 hv
    go_wp2_with fail
    rw [Hw2.out]
    refine Hnx.out.mono ?_
    rintro e w3 ⟨rfl, r3, hg3⟩
    have hs0 : (0 : Nat) + (⟨#[]⟩ : ByteArray).size = 0 := rfl
    rw [hs0] at r3
    have hh := hd_toks (s := s) (p := 0) (by omega)
    have hb3 : Below (w.heap.size + 2) w1 w3 := Hb2.out.grown hg3 (by omega) (fun k e => by cases e; omega)
    have hrs : RS w3 (w.heap.size + 2) (w.heap.size + 2) s (hd (toks s 0)).1 (hd (toks s 0)).2 Met.zero (aheadOf Met.zero) nilV nilV nilV [] := by
      rw [hh]
      exact ⟨r3, Nat.le_refl _, rfl, World.ownsRow_nil _ _ _ _, fun k hk => absurd hk (Nat.not_lt_zero _), World.ownsRow_nil _ _ _ _, World.ownsRow_nil _ _ _ _, fun i j k hi hj hij h1 h2 => by simp at hi hj; omega⟩
    have hz0 : Sized Met.zero := ⟨by simp [Met.zero], fun k hk => absurd hk (Nat.not_lt_zero _), by simp [Met.zero], by simp [Met.zero, aheadOf]⟩
    have hR0 : groupsP (toks s 0).length (toks s 0) Met.zero = readP s := by
      conv => rhs; unfold readP
      rw [if_neg (by omega)]
    have J0 : ∀ a, Fr s w.heap.size (w.heap.size + 2) a → JR s w 0 ((toks s 0).length * 3 + 2) a w3 := fun a ha => ⟨Hb1.out.trans (hb3.mono (by omega)), (HvH.out.below Hb1.out HvH.out.six).below hb3 (by have := HvH.out.six; omega),
      (hb3.block w.heap.size (by omega)).trans X2.out, (hb3.block (w.heap.size + 1) (by omega)).trans X3.out, ha, toks s 0, Met.zero, (toks s 0).length, nilV, nilV, nilV, [], Nat.le_refl _, Nat.le_refl _, ⟨0, by omega, rfl⟩, hz0, hR0, hrs⟩
    have HJ0 := Lib.hid J0
    clear J0 hrs hz0 hR0 hb3 hh r3 hg3
    go_wp2_with fail
    go_step3
    apply_assumption
    exact Hq0.out _ _ _ (HJ0.out _ (Fr.of rfl rfl rfl rfl rfl rfl))
theorem read_any (s : ByteArray) (w : World) (hv : Vars w) (hs64 : s.size ≤ 4611686018427387904) :
    Calls Tryd.prog 13 #[.string s] w (ReadOk s w) := by
  by_cases h : 65536 < s.size
  · exact read_long s w hs64 h
  · exact read_short s w hv (by omega)
end Go.Proofs.YtkfkkoefpfmjkaaDoor

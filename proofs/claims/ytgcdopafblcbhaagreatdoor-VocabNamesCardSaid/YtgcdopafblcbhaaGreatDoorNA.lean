import Derived.Test.YtgcdopafblcbhaaGreatDoorGR
/- A range over an iterator that hands out a known list; a round may leave the loop. No program in sight. -/
namespace Go.Proofs.YtgcdopafblcbhaaGreatDoor
set_option linter.unusedVariables false
set_option linter.unusedSimpArgs false
open Go Go.RowKit

/-- all blocks from B on lie as they lay -/
def KeepsAll (B : Nat) (W W' : World) : Prop := W.heap.size ≤ W'.heap.size ∧ ∀ i o, B ≤ i → W.heap[i]? = some o → W'.heap[i]? = some o
theorem KeepsAll.refl (B : Nat) (W : World) : KeepsAll B W W := ⟨Nat.le_refl _, fun _ _ _ h => h⟩
theorem KeepsAll.trans {B : Nat} {W W' W2 : World} (h : KeepsAll B W W') (h' : KeepsAll B W' W2) : KeepsAll B W W2 := ⟨Nat.le_trans h.1 h'.1, fun i o hi ho => h'.2 i o hi (h.2 i o hi ho)⟩
theorem KeepsAll.mono {B B' : Nat} {W W' : World} (h : KeepsAll B W W') (hb : B ≤ B') : KeepsAll B' W W' := ⟨h.1, fun i o hi ho => h.2 i o (by omega) ho⟩
theorem KeepsAll.put {B : Nat} (W : World) (l : Nat) (o : Obj) (h : l < B) : KeepsAll B W (W.putObj l o) := ⟨by simp, fun i x hi hx => (World.putObj_heap_other (by omega)).trans hx⟩
theorem KeepsAll.alloc (B : Nat) (W : World) (o : Obj) : KeepsAll B W (W.alloc o) := ⟨by simp, fun i x hi hx => (Below.heap_alloc _ _ _ (Array.getElem?_eq_some_iff.1 hx).1).trans hx⟩
theorem KeepsAll.of_below {W W' : World} (B : Nat) (h : Below W.heap.size W W') : KeepsAll B W W' := ⟨h.size, fun i x hi hx => (h.block i (Array.getElem?_eq_some_iff.1 hx).1).trans hx⟩
theorem KeepsAll.only {B : Nat} {W W' : World} {row : Option Nat} (h : W.grownBy W' row) (hr : ∀ k, row = some k → k < B) : KeepsAll B W W' :=
  ⟨h.size, fun i x hi hx => (h.block i (Array.getElem?_eq_some_iff.1 hx).1 (fun e => by have := hr i e.symm; omega)).trans hx⟩
/-- some blocks lie as they lay -/
def KeepsSome (bs : List Nat) (W W' : World) : Prop := ∀ i ∈ bs, ∀ o, W.heap[i]? = some o → W'.heap[i]? = some o
theorem KeepsSome.refl (bs : List Nat) (W : World) : KeepsSome bs W W := fun _ _ _ h => h
theorem KeepsSome.trans {bs : List Nat} {W W' W2 : World} (h : KeepsSome bs W W') (h' : KeepsSome bs W' W2) : KeepsSome bs W W2 := fun i hi o ho => h' i hi o (h i hi o ho)
theorem KeepsSome.put {bs : List Nat} (W : World) (l : Nat) (o : Obj) (h : l ∉ bs) : KeepsSome bs W (W.putObj l o) := fun i hi x hx => (World.putObj_heap_other (fun e : i = l => h (by rw [← e]; exact hi))).trans hx
theorem KeepsSome.only {bs : List Nat} {W W' : World} {row : Option Nat} (h : W.grownBy W' row) (hr : ∀ k, row = some k → k ∉ bs) : KeepsSome bs W W' :=
  fun i hi x hx => (h.block i (Array.getElem?_eq_some_iff.1 hx).1 (fun e => hr i e.symm hi)).trans hx
theorem KeepsSome.of_below {bs : List Nat} {W W' : World} (h : Below W.heap.size W W') : KeepsSome bs W W' := fun i hi x hx => (h.block i (Array.getElem?_eq_some_iff.1 hx).1).trans hx

/-- the iterator's contract: it hands out L; bs: the blocks that it needs; a round that says 'false' is the last -/
def SeqX {α : Type} (F : Fence) (n : Nat) (P : Program) (g : Nat) (lb : Array Value) (encs : α → Array Value) (L : List α) (bs : List Nat) (w : World) : Prop :=
  ∀ (l : Nat) (J Jx : Nat → World → Prop) (W : World), Below w.heap.size w W → AbidesAll W.heap.size J → AbidesAll W.heap.size Jx →
    (∀ k x W1, L[k]? = some x → J k W1 → YieldAt F (n - 1) P l (encs x) W1 fun e W' => KeepsAll W.heap.size W1 W' ∧ KeepsSome bs W1 W' ∧ ((e = .returned (.bool true) ∧ J (k + 1) W') ∨ (e = .returned (.bool false) ∧ Jx k W'))) →
    J 0 W →
    CallsIn F n P g (#[.func (.yield l) #[] #[]] ++ lb) W fun e W' => (∃ v, e = .returned v) ∧ (J L.length W' ∨ ∃ k, k < L.length ∧ Jx k W')

/-- how a round's body may be left -/
def xPost (B : Nat) (bs : List Nat) (I : World → Prop) (Ix : Code → World → Prop) (W : World) : Exit → Act → World → Prop
  | .normal, _, W' => KeepsAll B W W' ∧ KeepsSome bs W W' ∧ I W'
  | .ret, _, W' => KeepsAll B W W' ∧ KeepsSome bs W W' ∧ Ix .ret W'
  | .exit id, _, W' => KeepsAll B W W' ∧ KeepsSome bs W W' ∧ Ix (.exit id) W'
  | .goto t, _, W' => KeepsAll B W W' ∧ KeepsSome bs W W' ∧ Ix (.goto t) W'
  | .panic _, _, _ => False
  | .outgrown, _, _ => False

theorem range_x {F : Fence} {n : Nat} {P : Program} {α : Type} {g : Operand} {ps : Array Tmp} {assign body : Code} {Q : Exit → Act → World → Prop} {a : Act} {w : World}
    (hro : F.round = none) (h1 : 1 ≤ n) {gf : Nat} {lb : Array Value} (hg : a.eval g = .func (.func gf) #[] lb) (hFg : F.fn gf) (eg : ∀ args w, (callFunc gf args).run P w = .ok (.enter gf args) w)
    {encs : α → Array Value} {L : List α} {bs : List Nat} (hbs : ∀ i ∈ bs, i < w.heap.size) (hseq : SeqX F (n - 1) P gf lb encs L bs w) (hps : ∀ x, (encs x).size = ps.size)
    (I : Nat → World → Prop) (Ix : Code → Nat → World → Prop) (hI : AbidesAll w.heap.size I) (hIx : ∀ c, AbidesAll w.heap.size (Ix c)) (h0 : I 0 w) (Ax : α → Act → World → Prop)
    (hassign : ∀ (l : Nat) (k : Nat) (x : α) (W : World) (K : Act → World → Prop), L[k]? = some x → I k W → w.heap.size ≤ W.heap.size → (∀ a' W', KeepsAll w.heap.size W W' → KeepsSome bs W W' → I k W' → Ax x a' W' → K a' W') →
      assign.wpIn (F.inRound l) (n - 1 - 1) P (Exit.then K (fun _ _ _ => False)) { tmps := (ps.zip (encs x)).foldl (fun t (p, v) => t.setIfInBounds p v) a.tmps, defers := [] } W)
    (hbody : ∀ (l : Nat) (k : Nat) (x : α) (a' : Act) (W : World), L[k]? = some x → I k W → Ax x a' W → w.heap.size ≤ W.heap.size → body.wpIn (F.inRound l) (n - 1 - 1) P (xPost w.heap.size bs (I (k + 1)) (fun c => Ix c k) W) a' W)
    (hAx : ∀ x a', OwnFrom w.heap.size (fun (_ : Unit) W => Ax x a' W))
    (hdone : ∀ (D : Nat) (W : World), w.heap.size ≤ D → I L.length W → W.heap[D]? = some (.deferred (some [])) → Q .normal { a with defers := { target := .collected D, args := #[] } :: a.defers } W)
    (hstop : ∀ (D : Nat) (c : Code) (k : Nat) (W : World), w.heap.size ≤ D → k < L.length → Ix c k W → W.heap[D]? = some (.deferred (some [])) → c.wpIn F n P Q { a with defers := { target := .collected D, args := #[] } :: a.defers } W) :
    (Code.rangeFunc g ps assign body).wpIn F n P Q a w := by
  refine wpIn_rangeFunc fun fn hfn => ?_
  rw [hro]
  let rec0 : LoopState → Option Code → Loop := fun st pe => { state := st, pending := pe, fn, tmps := a.tmps, params := ps, assign, body, defers := w.heap.size }
  obtain ⟨mk, hmk⟩ : ∃ mk, mk = rec0 := ⟨_, rfl⟩
  obtain ⟨W1, hW1⟩ : ∃ W1, (w.alloc (.deferred (some []))).alloc (.loop (mk .ready none)) = W1 := ⟨_, rfl⟩
  have sW1 : W1.heap.size = w.heap.size + 2 := by rw [← hW1]; simp
  have hL1 : W1.heap[w.heap.size + 1]? = some (.loop (mk .ready none)) := by
    have := World.alloc_heap_new (w.alloc (.deferred (some []))) (.loop (mk .ready none))
    rw [World.size_alloc] at this
    rw [← hW1]; exact this
  have hD1 : W1.heap[w.heap.size]? = some (.deferred (some [])) := by
    rw [← hW1]; exact (Below.heap_alloc _ _ _ (by simp)).trans (World.alloc_heap_new w _)
  have hI1 : I 0 W1 := by rw [← hW1]; exact hI.alloc _ (hI.alloc _ h0)
  have hB1 : Below w.heap.size w W1 := by rw [← hW1]; exact ((Below.refl _ w).alloc (Nat.le_refl _) _).alloc (by simp) _
  let J : Nat → World → Prop := fun k W => I k W ∧ W.heap[w.heap.size + 1]? = some (.loop (mk .ready none)) ∧ W.heap[w.heap.size]? = some (.deferred (some []))
  let Jx : Nat → World → Prop := fun k W => ∃ c, Ix c k W ∧ W.heap[w.heap.size + 1]? = some (.loop (mk .done (some c))) ∧ W.heap[w.heap.size]? = some (.deferred (some []))
  have old : ∀ {A B : World} {row : Option Nat} {k : Nat} {o : Obj}, A.grownBy B row → (∀ r, row = some r → W1.heap.size ≤ r) → k < W1.heap.size → A.heap[k]? = some o → B.heap[k]? = some o := fun hg hr hk ho =>
    (hg.block _ (Array.getElem?_eq_some_iff.1 ho).1 (fun e => by have := hr _ e.symm; omega)).trans ho
  have aJ : AbidesAll W1.heap.size J := fun s A B row hs hg hr =>
    ⟨hI s A B row hs.1 hg (fun r e => by have := hr r e; omega), old hg hr (by omega) hs.2.1, old hg hr (by omega) hs.2.2⟩
  have aJx : AbidesAll W1.heap.size Jx := fun s A B row hs hg hr => by
    obtain ⟨c, hc, hl, hd⟩ := hs
    exact ⟨c, hIx c s A B row hc hg (fun r e => by have := hr r e; omega), old hg hr (by omega) hl, old hg hr (by omega) hd⟩
  refine ⟨w.heap.size + 1, [{ target := .collected w.heap.size, args := #[] }], W1, { target := .fn (.func gf) lb, args := #[.func (.yield (w.heap.size + 1)) #[] #[]] }, W1, gf,
    #[.func (.yield (w.heap.size + 1)) #[] #[]] ++ lb, W1, ?_, ?_, ?_, ?_, fun _ => h1, ?_⟩
  · rw [← hW1, hmk]; exact run_enterLoop_outer _ _ _ _ _
  · simp only [resolve, hg]
    simp [go_sem]
  · intro f' hf'
    simp [Target.leads] at hf'
    subst hf'; exact hFg
  · simp [invoke, go_sem, eg]
  · refine (hseq (w.heap.size + 1) J Jx W1 hB1 aJ aJx ?_ ⟨hI1, hL1, hD1⟩).mono ?_
    · rintro k x W hx ⟨hi, hl, hd⟩
      have hlt : w.heap.size + 1 < W.heap.size := (Array.getElem?_eq_some_iff.1 hl).1
      have hy := run_yield (P := P) (args := encs x) hl (by rw [hmk]; exact hps x)
      rw [hmk] at hy
      refine ⟨fn, _, assign, body, hy, roundIn_of_wpIn hfn (hassign _ k x W _ hx hi (by omega) fun a' Wa hko hks hi' hax => ?_)⟩
      have hla : Wa.heap[w.heap.size + 1]? = some (.loop (mk .ready none)) := hko.2 _ _ (by omega) hl
      have hda : Wa.heap[w.heap.size]? = some (.deferred (some [])) := hko.2 _ _ (Nat.le_refl _) hd
      have hlta : w.heap.size + 1 < Wa.heap.size := (Array.getElem?_eq_some_iff.1 hla).1
      refine ⟨_, run_beginRound hla (by rw [hmk]), ?_⟩
      generalize hWb : Wa.putObj (w.heap.size + 1) (.loop { mk .ready none with state := .busy }) = Wb
      have hlb : Wb.heap[w.heap.size + 1]? = some (.loop { mk .ready none with state := .busy }) := by rw [← hWb]; exact World.putObj_heap_same hlta
      have hdb : Wb.heap[w.heap.size]? = some (.deferred (some [])) := by rw [← hWb]; exact (World.putObj_heap_other (by omega)).trans hda
      have hib : I k Wb := by rw [← hWb]; exact hI.put _ hi' (by omega)
      have hkb : KeepsAll W1.heap.size W Wb := by rw [← hWb]; exact (hko.mono (by omega)).trans (KeepsAll.put Wa _ _ (by omega))
      have hsb' : KeepsSome bs W Wb := by rw [← hWb]; exact hks.trans (KeepsSome.put Wa _ _ (fun hm => by have := hbs _ hm; omega))
      have haxb : Ax x a' Wb := by rw [← hWb]; exact (hAx x a').putObj (s := ()) _ hax (by omega) hla rfl
      have hsb : w.heap.size ≤ Wb.heap.size := by have := (Array.getElem?_eq_some_iff.1 hlb).1; omega
      refine wpIn_mono (hbody _ k x a' Wb hx hib haxb hsb) ?_
      have fin : ∀ (jump : Option Code) (W3 : World), KeepsAll w.heap.size Wb W3 → KeepsSome bs Wb W3 →
          (Instr.endRound (w.heap.size + 1) jump).run P W3 = .ok (.bool jump.isNone) (W3.putObj (w.heap.size + 1) (.loop (mk (if jump.isNone then .ready else .done) jump))) ∧
          (W3.putObj (w.heap.size + 1) (.loop (mk (if jump.isNone then .ready else .done) jump))).heap[w.heap.size + 1]? = some (.loop (mk (if jump.isNone then .ready else .done) jump)) ∧
          (W3.putObj (w.heap.size + 1) (.loop (mk (if jump.isNone then .ready else .done) jump))).heap[w.heap.size]? = some (.deferred (some [])) ∧
          KeepsAll W1.heap.size W (W3.putObj (w.heap.size + 1) (.loop (mk (if jump.isNone then .ready else .done) jump))) ∧
          KeepsSome bs W (W3.putObj (w.heap.size + 1) (.loop (mk (if jump.isNone then .ready else .done) jump))) := fun jump W3 hk3 hs3 => by
        have hl3 := hk3.2 _ _ (by omega) hlb
        have he := run_endRound (P := P) jump hl3
        refine ⟨?_, World.putObj_heap_same (Array.getElem?_eq_some_iff.1 hl3).1, (World.putObj_heap_other (by omega)).trans (hk3.2 _ _ (Nat.le_refl _) hdb), (hkb.trans (hk3.mono (by omega))).trans (KeepsAll.put W3 _ _ (by omega)), (hsb'.trans hs3).trans (KeepsSome.put W3 _ _ (fun hm => by have := hbs _ hm; omega))⟩
        rw [hmk] at he ⊢
        exact he
      rintro e a3 W3 hp
      cases e with
      | normal =>
        obtain ⟨hk3, hs3, hi3⟩ := hp
        obtain ⟨hr, hl4, hd4, hk4, hs4⟩ := fin none W3 hk3 hs3
        exact ⟨_, _, hr, hk4, hs4, .inl ⟨rfl, hI.put _ hi3 (by omega), hl4, hd4⟩⟩
      | ret =>
        obtain ⟨hk3, hs3, hi3⟩ := hp
        obtain ⟨hr, hl4, hd4, hk4, hs4⟩ := fin (some .ret) W3 hk3 hs3
        exact ⟨_, _, hr, hk4, hs4, .inr ⟨rfl, .ret, (hIx _).put _ hi3 (by omega), hl4, hd4⟩⟩
      | exit id =>
        obtain ⟨hk3, hs3, hi3⟩ := hp
        obtain ⟨hr, hl4, hd4, hk4, hs4⟩ := fin (some (.exit id)) W3 hk3 hs3
        exact ⟨_, _, hr, hk4, hs4, .inr ⟨rfl, .exit id, (hIx _).put _ hi3 (by omega), hl4, hd4⟩⟩
      | goto t =>
        obtain ⟨hk3, hs3, hi3⟩ := hp
        obtain ⟨hr, hl4, hd4, hk4, hs4⟩ := fin (some (.goto t)) W3 hk3 hs3
        exact ⟨_, _, hr, hk4, hs4, .inr ⟨rfl, .goto t, (hIx _).put _ hi3 (by omega), hl4, hd4⟩⟩
      | panic ch => exact hp.elim
      | outgrown => exact hp.elim
    · rintro e W2 ⟨⟨v, rfl⟩, (⟨hi, hl, hd⟩ | ⟨k, hk, c, hi, hl, hd⟩)⟩
      · exact ⟨none, _, by have := run_endLoop (P := P) hl (by rw [hmk]; simp [rec0]); rw [hmk] at this; exact this, hdone _ _ (Nat.le_refl _) (hI.put _ hi (by omega)) ((World.putObj_heap_other (by omega)).trans hd)⟩
      · exact ⟨some c, _, by have := run_endLoop (P := P) hl (by rw [hmk]; simp [rec0]); rw [hmk] at this; exact this, hstop _ c k _ (Nat.le_refl _) hk ((hIx c).put _ hi (by omega)) ((World.putObj_heap_other (by omega)).trans hd)⟩
theorem roundAny {F : Fence} (hd : F.depth = none) {m : Nat} (m' : Nat) {P : Program} {l : Nat} {f : FuncId} {tmps : Array Value} {assign body : Code} {w : World} {R : Ending → World → Prop}
    (h : RoundIn F m P l f tmps assign body w R) : RoundIn F m' P l f tmps assign body w R := ⟨h.1, fun c cs _ => h.2 c cs (fun d h => by rw [hd] at h; cases h)⟩
end Go.Proofs.YtgcdopafblcbhaaGreatDoor

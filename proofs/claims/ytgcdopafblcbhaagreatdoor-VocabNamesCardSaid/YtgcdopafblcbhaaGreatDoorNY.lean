import Derived.Test.YtgcdopafblcbhaaGreatDoorNF
/- A range over an iterator that hands out a known list; what the rounds make in memory stays. The pieces of a text so. -/
namespace Go.Proofs.YtgcdopafblcbhaaGreatDoor
set_option linter.unusedVariables false
set_option linter.unusedSimpArgs false
open Go Go.RowKit Go.Lib Go.Shelf

/-- the iterator's contract: it hands out L; bs: the blocks that it needs; a round that says 'false' is the last -/
def SeqY {α : Type} (F : Fence) (n : Nat) (P : Program) (g : Nat) (lb : Array Value) (encs : α → Array Value) (L : List α) (bs : List Nat) (w : World) : Prop :=
  ∀ (l : Nat) (J Jx : Nat → World → Prop) (W : World), Below w.heap.size w W → OwnFrom W.heap.size J → OwnFrom W.heap.size Jx →
    (∀ k x W1, L[k]? = some x → J k W1 → YieldAt F (n - 1) P l (encs x) W1 fun e W' => KeepsAll W.heap.size W1 W' ∧ KeepsSome bs W1 W' ∧ ((e = .returned (.bool true) ∧ J (k + 1) W') ∨ (e = .returned (.bool false) ∧ Jx k W'))) →
    J 0 W →
    CallsIn F n P g (#[.func (.yield l) #[] #[]] ++ lb) W fun e W' => (∃ v, e = .returned v) ∧ (J L.length W' ∨ ∃ k, k < L.length ∧ Jx k W')

theorem range_y {F : Fence} {n : Nat} {P : Program} {α : Type} {g : Operand} {ps : Array Tmp} {assign body : Code} {Q : Exit → Act → World → Prop} {a : Act} {w : World}
    (hro : F.round = none) (h1 : 1 ≤ n) {gf : Nat} {lb : Array Value} (hg : a.eval g = .func (.func gf) #[] lb) (hFg : F.fn gf) (eg : ∀ args w, (callFunc gf args).run P w = .ok (.enter gf args) w)
    {encs : α → Array Value} {L : List α} {bs : List Nat} (hbs : ∀ i ∈ bs, i < w.heap.size) (hseq : SeqY F (n - 1) P gf lb encs L bs w) (hps : ∀ x, (encs x).size = ps.size)
    (I : Nat → World → Prop) (Ix : Code → Nat → World → Prop) (hI : OwnFrom w.heap.size I) (hIx : ∀ c, OwnFrom w.heap.size (Ix c)) (h0 : I 0 w) (Ax : α → Act → World → Prop)
    (hassign : ∀ (l : Nat) (k : Nat) (x : α) (W : World) (K : Act → World → Prop), L[k]? = some x → I k W → w.heap.size ≤ W.heap.size → (∀ a' W', KeepsAll w.heap.size W W' → KeepsSome bs W W' → I k W' → Ax x a' W' → K a' W') →
      assign.wpIn (F.inRound l) (n - 1 - 1) P (Exit.then K (fun _ _ _ => False)) { tmps := (ps.zip (encs x)).foldl (fun t (p, v) => t.setIfInBounds p v) a.tmps, defers := [] } W)
    (hbody : ∀ (l : Nat) (k : Nat) (x : α) (a' : Act) (W : World), L[k]? = some x → I k W → Ax x a' W → w.heap.size ≤ W.heap.size → body.wpIn (F.inRound l) (n - 1 - 1) P (xPost w.heap.size bs (I (k + 1)) (fun c => Ix c k) W) a' W)
    (hAx : ∀ x a', OwnFrom w.heap.size (fun (_ : Unit) W => Ax x a' W))
    (hdone : ∀ (D : Nat) (W : World), w.heap.size ≤ D → I L.length W → W.heap[D]? = some (.deferred (some [])) → Q .normal { a with defers := { target := .collected D, args := #[] } :: a.defers } W)
    (hstop : ∀ (D : Nat) (c : Code) (k : Nat) (W : World), w.heap.size ≤ D → k < L.length → Ix c k W → W.heap[D]? = some (.deferred (some [])) → c.wpIn F n P Q { a with defers := { target := .collected D, args := #[] } :: a.defers } W) :
    (Code.rangeFunc g ps assign body).wpIn F n P Q a w := by
  refine wpIn_rangeFunc fun fn hfn => ?_
  rw [hro]
  let rec0 : LoopState → Option Code → Loop := fun st pe => { state := st, pending := pe, fn, tmps := a.tmps, params := ps, assign, body, defers := w.heap.size }
  obtain ⟨mk, hmk⟩ : ∃ mk, mk = rec0 := ⟨_, rfl⟩
  obtain ⟨W1, hW1⟩ : ∃ W1, (w.alloc (.deferred (some []))).alloc (.loop (mk .ready none)) = W1 := ⟨_, rfl⟩
  have sW1 : W1.heap.size = w.heap.size + 2 := by rw [← hW1]; simp
  have hL1 : W1.heap[w.heap.size + 1]? = some (.loop (mk .ready none)) := by
    have := World.alloc_heap_new (w.alloc (.deferred (some []))) (.loop (mk .ready none))
    rw [World.size_alloc] at this
    rw [← hW1]; exact this
  have hD1 : W1.heap[w.heap.size]? = some (.deferred (some [])) := by
    rw [← hW1]; exact (Below.heap_alloc _ _ _ (by simp)).trans (World.alloc_heap_new w _)
  have hI1 : I 0 W1 := by rw [← hW1]; exact hI.alloc _ (hI.alloc _ h0)
  have hB1 : Below w.heap.size w W1 := by rw [← hW1]; exact ((Below.refl _ w).alloc (Nat.le_refl _) _).alloc (by simp) _
  let J : Nat → World → Prop := fun k W => I k W ∧ W.heap[w.heap.size + 1]? = some (.loop (mk .ready none)) ∧ W.heap[w.heap.size]? = some (.deferred (some []))
  let Jx : Nat → World → Prop := fun k W => ∃ c, Ix c k W ∧ W.heap[w.heap.size + 1]? = some (.loop (mk .done (some c))) ∧ W.heap[w.heap.size]? = some (.deferred (some []))
  have old : ∀ {A B : World} {row : Option Nat} {k : Nat} {o : Obj}, A.grownBy B row → (∀ r, row = some r → W1.heap.size ≤ r) → k < W1.heap.size → A.heap[k]? = some o → B.heap[k]? = some o := fun hg hr hk ho =>
    (hg.block _ (Array.getElem?_eq_some_iff.1 ho).1 (fun e => by have := hr _ e.symm; omega)).trans ho
  have aJ : OwnFrom W1.heap.size J := fun s A B row hs hg hr =>
    ⟨hI s A B row hs.1 hg (fun r e => ⟨by have := (hr r e).1; omega, (hr r e).2⟩), old hg (fun r e => (hr r e).1) (by omega) hs.2.1, old hg (fun r e => (hr r e).1) (by omega) hs.2.2⟩
  have aJx : OwnFrom W1.heap.size Jx := fun s A B row hs hg hr => by
    obtain ⟨c, hc, hl, hd⟩ := hs
    exact ⟨c, hIx c s A B row hc hg (fun r e => ⟨by have := (hr r e).1; omega, (hr r e).2⟩), old hg (fun r e => (hr r e).1) (by omega) hl, old hg (fun r e => (hr r e).1) (by omega) hd⟩
  refine ⟨w.heap.size + 1, [{ target := .collected w.heap.size, args := #[] }], W1, { target := .fn (.func gf) lb, args := #[.func (.yield (w.heap.size + 1)) #[] #[]] }, W1, gf,
    #[.func (.yield (w.heap.size + 1)) #[] #[]] ++ lb, W1, ?_, ?_, ?_, ?_, fun _ => h1, ?_⟩
  · rw [← hW1, hmk]; exact run_enterLoop_outer _ _ _ _ _
  · simp only [resolve, hg]
    simp [go_sem]
  · intro f' hf'
    simp [Target.leads] at hf'
    subst hf'; exact hFg
  · simp [invoke, go_sem, eg]
  · refine (hseq (w.heap.size + 1) J Jx W1 hB1 aJ aJx ?_ ⟨hI1, hL1, hD1⟩).mono ?_
    · rintro k x W hx ⟨hi, hl, hd⟩
      have hlt : w.heap.size + 1 < W.heap.size := (Array.getElem?_eq_some_iff.1 hl).1
      have hy := run_yield (P := P) (args := encs x) hl (by rw [hmk]; exact hps x)
      rw [hmk] at hy
      refine ⟨fn, _, assign, body, hy, roundIn_of_wpIn hfn (hassign _ k x W _ hx hi (by omega) fun a' Wa hko hks hi' hax => ?_)⟩
      have hla : Wa.heap[w.heap.size + 1]? = some (.loop (mk .ready none)) := hko.2 _ _ (by omega) hl
      have hda : Wa.heap[w.heap.size]? = some (.deferred (some [])) := hko.2 _ _ (Nat.le_refl _) hd
      have hlta : w.heap.size + 1 < Wa.heap.size := (Array.getElem?_eq_some_iff.1 hla).1
      refine ⟨_, run_beginRound hla (by rw [hmk]), ?_⟩
      generalize hWb : Wa.putObj (w.heap.size + 1) (.loop { mk .ready none with state := .busy }) = Wb
      have hlb : Wb.heap[w.heap.size + 1]? = some (.loop { mk .ready none with state := .busy }) := by rw [← hWb]; exact World.putObj_heap_same hlta
      have hdb : Wb.heap[w.heap.size]? = some (.deferred (some [])) := by rw [← hWb]; exact (World.putObj_heap_other (by omega)).trans hda
      have hib : I k Wb := by rw [← hWb]; exact hI.putObj _ hi' (by omega) hla rfl
      have hkb : KeepsAll W1.heap.size W Wb := by rw [← hWb]; exact (hko.mono (by omega)).trans (KeepsAll.put Wa _ _ (by omega))
      have hsb' : KeepsSome bs W Wb := by rw [← hWb]; exact hks.trans (KeepsSome.put Wa _ _ (fun hm => by have := hbs _ hm; omega))
      have haxb : Ax x a' Wb := by rw [← hWb]; exact (hAx x a').putObj (s := ()) _ hax (by omega) hla rfl
      have hsb : w.heap.size ≤ Wb.heap.size := by have := (Array.getElem?_eq_some_iff.1 hlb).1; omega
      refine wpIn_mono (hbody _ k x a' Wb hx hib haxb hsb) ?_
      have fin : ∀ (jump : Option Code) (W3 : World), KeepsAll w.heap.size Wb W3 → KeepsSome bs Wb W3 →
          (Instr.endRound (w.heap.size + 1) jump).run P W3 = .ok (.bool jump.isNone) (W3.putObj (w.heap.size + 1) (.loop (mk (if jump.isNone then .ready else .done) jump))) ∧
          (W3.putObj (w.heap.size + 1) (.loop (mk (if jump.isNone then .ready else .done) jump))).heap[w.heap.size + 1]? = some (.loop (mk (if jump.isNone then .ready else .done) jump)) ∧
          (W3.putObj (w.heap.size + 1) (.loop (mk (if jump.isNone then .ready else .done) jump))).heap[w.heap.size]? = some (.deferred (some [])) ∧
          KeepsAll W1.heap.size W (W3.putObj (w.heap.size + 1) (.loop (mk (if jump.isNone then .ready else .done) jump))) ∧
          KeepsSome bs W (W3.putObj (w.heap.size + 1) (.loop (mk (if jump.isNone then .ready else .done) jump))) := fun jump W3 hk3 hs3 => by
        have hl3 := hk3.2 _ _ (by omega) hlb
        have he := run_endRound (P := P) jump hl3
        refine ⟨?_, World.putObj_heap_same (Array.getElem?_eq_some_iff.1 hl3).1, (World.putObj_heap_other (by omega)).trans (hk3.2 _ _ (Nat.le_refl _) hdb), (hkb.trans (hk3.mono (by omega))).trans (KeepsAll.put W3 _ _ (by omega)), (hsb'.trans hs3).trans (KeepsSome.put W3 _ _ (fun hm => by have := hbs _ hm; omega))⟩
        rw [hmk] at he ⊢
        exact he
      rintro e a3 W3 hp
      cases e with
      | normal =>
        obtain ⟨hk3, hs3, hi3⟩ := hp
        obtain ⟨hr, hl4, hd4, hk4, hs4⟩ := fin none W3 hk3 hs3
        exact ⟨_, _, hr, hk4, hs4, .inl ⟨rfl, hI.putObj _ hi3 (by omega) (hk3.2 _ _ (by omega) hlb) rfl, hl4, hd4⟩⟩
      | ret =>
        obtain ⟨hk3, hs3, hi3⟩ := hp
        obtain ⟨hr, hl4, hd4, hk4, hs4⟩ := fin (some .ret) W3 hk3 hs3
        exact ⟨_, _, hr, hk4, hs4, .inr ⟨rfl, .ret, (hIx _).putObj _ hi3 (by omega) (hk3.2 _ _ (by omega) hlb) rfl, hl4, hd4⟩⟩
      | exit id =>
        obtain ⟨hk3, hs3, hi3⟩ := hp
        obtain ⟨hr, hl4, hd4, hk4, hs4⟩ := fin (some (.exit id)) W3 hk3 hs3
        exact ⟨_, _, hr, hk4, hs4, .inr ⟨rfl, .exit id, (hIx _).putObj _ hi3 (by omega) (hk3.2 _ _ (by omega) hlb) rfl, hl4, hd4⟩⟩
      | goto t =>
        obtain ⟨hk3, hs3, hi3⟩ := hp
        obtain ⟨hr, hl4, hd4, hk4, hs4⟩ := fin (some (.goto t)) W3 hk3 hs3
        exact ⟨_, _, hr, hk4, hs4, .inr ⟨rfl, .goto t, (hIx _).putObj _ hi3 (by omega) (hk3.2 _ _ (by omega) hlb) rfl, hl4, hd4⟩⟩
      | panic ch => exact hp.elim
      | outgrown => exact hp.elim
    · rintro e W2 ⟨⟨v, rfl⟩, (⟨hi, hl, hd⟩ | ⟨k, hk, c, hi, hl, hd⟩)⟩
      · exact ⟨none, _, by have := run_endLoop (P := P) hl (by rw [hmk]; simp [rec0]); rw [hmk] at this; exact this, hdone _ _ (Nat.le_refl _) (hI.putObj _ hi (by omega) hl rfl) ((World.putObj_heap_other (by omega)).trans hd)⟩
      · exact ⟨some c, _, by have := run_endLoop (P := P) hl (by rw [hmk]; simp [rec0]); rw [hmk] at this; exact this, hstop _ c k _ (Nat.le_refl _) hk ((hIx c).putObj _ hi (by omega) hl rfl) ((World.putObj_heap_other (by omega)).trans hd)⟩
attribute [local go_sem] Oper.semAt_some
set_option maxRecDepth 100000 in
set_option maxHeartbeats 4000000 in
theorem pieces_seqY (n : Nat) (s : ByteArray) (hn : 3 ≤ n) (hs : s.size < 1000000) (b : Nat) (w : World) (hb : InBox b 9 (.string s) w) :
    SeqY Fence.wide n Tryz.prog 99 #[.pointer (some ⟨b, 0, none⟩)] (fun p => #[pcV p]) (pcs s) [b] w := fun l J Jx W hW hJ hJx hY h0 => by
  refine callsIn_of_wp Tryz.func99 rfl trivial ?_ rfl
  simp only [Tryz.ntmps99, List.size_toArray, List.length_cons, List.length_nil, Nat.reduceAdd, Nat.reduceSub, Array.replicate_succ, Array.replicate_zero, List.push_toArray, List.append_toArray, List.nil_append, List.cons_append]
  have hbl : b < w.heap.size := (Array.getElem?_eq_some_iff.1 hb).1
  have hbW : InBox b 9 (.string s) W := (hW.block _ hbl).trans hb
  have c0 : W.cell? ⟨b, 0, none⟩ = some (.string s) := cell_of_row _ _ 0 _ _ (0, 0) hbW
  gi_wp2
  gi_loopw [] (fun wr => ∃ i k f : Nat, i ≤ s.size ∧ s.size ≤ i + f ∧ k ≤ (pcs s).length ∧ (pcs s).drop k = pcsF s f i ∧ wr.heap[W.heap.size]? = some (.stringIter s i) ∧ InBox b 9 (.string s) wr ∧ J k wr) (fun wr => s.size - wr.iterPos W.heap.size)
  case atStart =>
    exact ⟨0, 0, s.size, by omega, by omega, by omega, rfl, World.iter_heap W _ 0, (Below.heap_alloc _ _ _ (by have := hW.size; omega)).trans hbW, hJ.alloc _ h0⟩
  case round =>
    obtain ⟨i, k, f, hi, hf, hk, hd, hI, hB, hJi⟩ := hrel
    by_cases hlt : i < s.size
    · obtain ⟨f, rfl⟩ : ∃ f', f = f' + 1 := ⟨f - 1, by omega⟩
      have hd' := hd
      unfold pcsF at hd'
      rw [if_pos hlt] at hd'
      obtain ⟨hx, hd2, hk2⟩ := drop_get hd'
      have hw1 := decode_width_pos s i hlt
      have hwle : i + (Utf8.decode s i).2 ≤ s.size := by
        have h0 := decodeN_width_le (s.size - i) (s.get! i).toNat (s.get! (i + 1)).toNat (s.get! (i + 2)).toNat (s.get! (i + 3)).toNat (by omega)
        rw [← decode_at] at h0
        omega
      have hnx := run_next_any_at (P := Tryz.prog) wr _ s i 0 hI hlt
      have hI1 := iterAt_heap wr W.heap.size s i (i + (Utf8.decode s i).2) hI
      have hWs := hW.size
      have hB1 : InBox b 9 (.string s) (wr.iterAt W.heap.size s (i + (Utf8.decode s i).2)) := (iterAt_other wr W.heap.size b s _ (by omega)).trans hB
      have hJ1 : J k (wr.iterAt W.heap.size s (i + (Utf8.decode s i).2)) := hJ _ _ _ (some W.heap.size) hJi ⟨rfl, rfl, rfl, by rw [iterAt_size]; exact Nat.le_refl _, fun j _ hj => iterAt_other wr _ _ s _ (fun e => hj (by rw [e]))⟩ (fun r e => by cases e; exact ⟨by omega, _, hI, rfl⟩)
      have hpos : wr.iterPos W.heap.size = i := by unfold World.iterPos; rw [hI]
      have Hpos := Lib.hid hpos
      have hr := read_any s i hlt hs (wr.iterAt W.heap.size s (i + (Utf8.decode s i).2))
      have Hd := Lib.hid hd2
      have Hw := Lib.hid (And.intro hw1 hwle)
      clear hd hd' hd2 hw1 hwle
      generalize hwd : (Utf8.decode s i).2 = wd at *
      generalize hw1 : wr.iterAt W.heap.size s (i + wd) = w1 at *
      have c1 : w1.cell? ⟨b, 0, none⟩ = some (.string s) := cell_of_row _ _ 0 _ _ (0, 0) hB1
      have Hr := Lib.hid hr
      clear hr hpos c0
      gi_wp2
      refine ⟨trivial, fun _ => by omega, CallsIn.mono (callsIn_wide.2 Hr.out) ?_⟩
      rintro e w' ⟨rfl, hbw⟩
      have hB2 : InBox b 9 (.string s) w' := (hbw.block _ (Array.getElem?_eq_some_iff.1 hB1).1).trans hB1
      have hI2 := (hbw.block _ (Array.getElem?_eq_some_iff.1 hI1).1).trans hI1
      have hJ2 : J k w' := hJ _ _ _ none hJ1 (only_below hbw none) (fun r e => by cases e)
      obtain ⟨fn, tmps, assign, body, hy, hR⟩ := hY k _ w' hx hJ2
      have HR := Lib.hid hR
      clear hR
      gi_wp2
      refine And.intro (fun _ => (by omega)) (RoundIn.mono (F := Fence.wide) (roundAny rfl _ HR.out) ?_)
      rintro e W4 ⟨hk4, hs4, (⟨rfl, hJ4⟩ | ⟨rfl, hJ4⟩)⟩
      · have hB4 : InBox b 9 (.string s) W4 := hs4 b (by simp) _ hB2
        have hI4 := hk4.2 _ _ (Nat.le_refl _) hI2
        gi_wp2
        refine ⟨⟨i + wd, k + 1, f, Hw.out.2, by have := Hw.out.1; omega, by omega, Hd.out, hI4, hB4, hJ4⟩, ?_⟩
        have : W4.iterPos W.heap.size = i + wd := by unfold World.iterPos; rw [hI4]
        rw [this, Hpos.out]
        have := Hw.out.1
        omega
      · gi_wp2
        refine bodyPost_ret (results_none rfl _ _ _) rfl ?_
        exact ⟨⟨_, rfl⟩, .inr ⟨k, hk2, hJ4⟩⟩
    · obtain rfl : i = s.size := by omega
      have hnx : (Instr.next (.pointer (some ⟨W.heap.size, 0, none⟩)) true 0).run Tryz.prog wr = .ok (.tuple #[.bool false]) wr := run_next_end_at wr _ s s.size 0 hI (by omega)
      have hkl : k = (pcs s).length := by
        have he : (pcs s).drop k = [] := by
          rw [hd]
          cases f with
          | zero => rfl
          | succ f => unfold pcsF; rw [if_neg (by omega)]
        have := List.drop_eq_nil_iff.1 he
        omega
      subst hkl
      gi_wp2
      go_end0
      exact ⟨⟨_, rfl⟩, .inl hJi⟩
end Go.Proofs.YtgcdopafblcbhaaGreatDoor

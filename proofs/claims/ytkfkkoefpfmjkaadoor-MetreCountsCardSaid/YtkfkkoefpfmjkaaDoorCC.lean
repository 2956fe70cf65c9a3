import Derived.Test.YtkfkkoefpfmjkaaDoorCB
import Derived.Test.YtkfkkoefpfmjkaaDoorGT
import Derived.Shelf.SlicesE.Clone
namespace Go.Proofs
open Go.Shelf
/- slices.Clone at []int: the kit's contract, laid by hand in the tool's own form. -/
def Tryd.cloneI_ren : Go.Shelf.Ren := ⟨fun | 41 => 73 | n => n, fun | 22 => 50 | 23 => 3 | 4 => 4 | n => n, fun | n => n⟩
theorem Tryd.cloneI : Go.Proofs.SlLaysE0.n41 Tryd.prog Tryd.cloneI_ren := {
  mixed := by kernel_rfl
  f41 := ⟨Tryd.f73.name, by decide, Tryd.func73.trans (congrArg some (by kernel_rfl))⟩
  t4 := Tryd.underlying4
  a4 := Tryd.isAgg4
  z4 := Tryd.sizeOf4
  v4 := Tryd.zeroValue4
  t22 := Tryd.underlying50
  a22 := Tryd.isAgg50
  z22 := Tryd.sizeOf50
  v22 := Tryd.zeroValue50 }
namespace YtkfkkoefpfmjkaaDoor
set_option linter.unusedVariables false
set_option linter.unusedSimpArgs false
open Go.RowKit Go.Lib

/-- slices.Clone of a row of numbers of one's own -/
theorem clonei_own (B n : Nat) (v : Value) (xs : List Value) (w : World) (h : w.ownsRow B 3 1 v n xs) (h1 : ∀ u ∈ xs, u.oneCell' = true) (hn : n ≤ 1000) :
    Calls Tryd.prog 73 #[v] w fun e w' => ∃ v', e = .returned v' ∧ w'.ownsRow w.heap.size 3 1 v' n xs ∧ Below w.heap.size w w' := by
  rcases h.2 with ⟨rfl, rfl⟩ | ⟨g, cap, cur, rfl, _⟩
  · refine (AnyE.slices_Clone_nil Tryd.cloneI 0 0 w).mono ?_
    rintro e w' ⟨rfl, rfl⟩
    exact ⟨_, rfl, ⟨h.1, .inl ⟨rfl, rfl⟩⟩, Below.refl _ _⟩
  · refine (AnyE.slices_Clone Tryd.cloneI _ _ 1 8 info3 zero3 size3 bytes3 rfl (by decide) Tryd.sizeOf3 g 0 n cap xs w h.1 (by unfold maxLen; omega) (by omega) ?_ h1).mono ?_
    · intro j u hu
      rw [Nat.zero_add, h.cellAt j (by have := (List.getElem?_eq_some_iff.1 hu).1; rw [h.1] at this; exact this), hu]
    · rintro e w' ⟨v', rfl, ho, _, hb⟩
      exact ⟨v', rfl, ho, hb⟩

/- what is told of a choice -/
structure YP where
  s : ByteArray
  c : Int
  ch : List Int
  v : Value
def YP.pat (x : YP) : Pat := ⟨x.s.data.toList, x.c, x.ch⟩
def yEncs (x : YP) : Array Value := #[.agg #[.string x.s, .int .i64 x.c, x.v]]
def yBlk (x : YP) : Option Nat := x.v.ownBlock
def yFits (N0 : Nat) (x : YP) (W : World) : Prop := W.ownsRow N0 3 1 x.v x.ch.length (intCells x.ch) ∧ x.ch.length ≤ 17 ∧ x.s.size ≤ 100 ∧ 0 ≤ x.c ∧ x.c ≤ 100000000
def pre3 (s : ByteArray) (c : Int) (ch : List Int) (p : Pat) : Pat := ⟨s.data.toList ++ p.s, c + p.c, ch ++ p.ch⟩
theorem pre3_pre (s : ByteArray) (c : Int) (ch : List Int) (v : Way) (k : Int) (p : Pat) : pre3 (s ++ v.1) (c + v.2) (ch ++ [k]) p = pre3 s c ch (preP v k p) := by
  unfold pre3 preP
  simp only [ByteArray.data_append, Array.toList_append, List.append_assoc, List.cons_append, List.nil_append]
  rw [show c + v.2 + p.c = c + (p.c + v.2) by omega]
theorem own_keepFor {w w' : World} {B N0 e z n : Nat} {v : Value} {xs : List Value} (h : w.ownsRow B e z v n xs) (hk : KeepsFor N0 w w') (hB : N0 ≤ B) : w'.ownsRow B e z v n xs := by
  refine ⟨h.1, h.2.imp id ?_⟩
  rintro ⟨g, cap, cur, h1, h2, h3, h4⟩
  exact ⟨g, cap, cur, h1, h2, hk.2 g _ (by omega) h3 (.inl rfl), h4⟩
theorem own_take {w : World} {B e n k g cap : Nat} {xs : List Value} (h : w.ownsRow B e 1 (.slice (some ⟨g, 0, none⟩) n cap) n xs) (hk : k ≤ n) : w.ownsRow B e 1 (.slice (some ⟨g, 0, none⟩) k cap) k (xs.take k) := by
  rcases h.2 with ⟨h0, _⟩ | ⟨g', cap', cur, h1, h2, h3, h4, h5, h6, h7⟩
  · cases h0
  · cases h1
    refine ⟨by have := h.1; simp; omega, .inr ⟨g, cap, cur, rfl, h2, h3, by omega, h5, h6, ?_⟩⟩
    rw [← h7, List.take_take, Nat.mul_one, Nat.mul_one, Nat.min_eq_left hk]

section
variable {B N0 l Y A C T : Nat} {rv : Value} {vs : List Value} {rows : List (List Way)} {J Jx : List YP → World → Prop}
def FN72 (Y A C T : Nat) : Value := .func (.func 72) #[] #[.pointer (some ⟨C, 0, none⟩), .pointer (some ⟨A, 0, none⟩), .pointer (some ⟨Y, 0, none⟩), .pointer (some ⟨T, 0, none⟩)]
structure TE (B l Y A C T : Nat) (rv : Value) (vs : List Value) (rows : List (List Way)) (vch : Value) (ch : List Int) (w : World) : Prop where
  y : w.heap[Y]? = some (.cells #[.func (.yield l) #[] #[]] 127 (0, 0))
  a : w.heap[A]? = some (.cells #[rv] 114 (0, 0))
  c : w.heap[C]? = some (.cells #[vch] 50 (0, 0))
  t : w.heap[T]? = some (.cells #[FN72 Y A C T] 128 (0, 0))
  rows : OR w B rv vs rows
  row : w.ownsRow B 3 1 vch ch.length (intCells ch)
  hY : B ≤ Y
  hA : B ≤ A
  hC : B ≤ C
  hT : B ≤ T
structure TS (B l Y A C T : Nat) (rv : Value) (vs : List Value) (rows : List (List Way)) (J : List YP → World → Prop) (pre : List YP) (vch : Value) (ch : List Int) (w : World) : Prop where
  te : TE B l Y A C T rv vs rows vch ch w
  j : J pre w
  gh : ∀ x ∈ pre, ∀ b, yBlk x = some b → b < w.heap.size ∧ b ≠ C ∧ vch.ownBlock ≠ some b
theorem lt_of {w : World} {k : Nat} {o : Obj} (h : w.heap[k]? = some o) : k < w.heap.size := (Array.getElem?_eq_some_iff.1 h).1
theorem TE.below {vch : Value} {ch : List Int} {w w' : World} (h : TE B l Y A C T rv vs rows vch ch w) (hb : Below w.heap.size w w') : TE B l Y A C T rv vs rows vch ch w' :=
  ⟨(hb.block _ (lt_of h.y)).trans h.y, (hb.block _ (lt_of h.a)).trans h.a, (hb.block _ (lt_of h.c)).trans h.c, (hb.block _ (lt_of h.t)).trans h.t, h.rows.below hb, h.row.kept (only_of_below hb none) some_ne, h.hY, h.hA, h.hC, h.hT⟩
theorem TE.keep {vch : Value} {ch : List Int} {w w' : World} (h : TE B l Y A C T rv vs rows vch ch w) (hk : KeepsFor N0 w w') (hB : N0 ≤ B) : TE B l Y A C T rv vs rows vch ch w' :=
  ⟨hk.2 _ _ (by have := h.hY; omega) h.y (.inl rfl), hk.2 _ _ (by have := h.hA; omega) h.a (.inl rfl), hk.2 _ _ (by have := h.hC; omega) h.c (.inl rfl), hk.2 _ _ (by have := h.hT; omega) h.t (.inl rfl),
    ⟨h.rows.vl, own_keepFor h.rows.out hk hB, fun k hk' => own_keepFor (h.rows.rows k hk') hk hB⟩, own_keepFor h.row hk hB, h.hY, h.hA, h.hC, h.hT⟩
theorem TS.sz {pre : List YP} {vch : Value} {ch : List Int} {w : World} (h : TS B l Y A C T rv vs rows J pre vch ch w) : B ≤ w.heap.size := by have := h.te.hC; have := lt_of h.te.c; omega
theorem TS.below {pre : List YP} {vch : Value} {ch : List Int} {w w' : World} (aJ : AbidesG B yBlk J) (h : TS B l Y A C T rv vs rows J pre vch ch w) (hb : Below w.heap.size w w') : TS B l Y A C T rv vs rows J pre vch ch w' :=
  ⟨h.te.below hb, aJ pre w w' h.j (hb.mono h.sz) (fun x hx b e => hb.block b (h.gh x hx b e).1), fun x hx b e => by
    obtain ⟨h1, h2⟩ := h.gh x hx b e
    have := hb.size
    exact ⟨by omega, h2⟩⟩
theorem TS.push {pre : List YP} {vch v1 : Value} {ch : List Int} {k : Int} {w w7 : World} (aJ : AbidesG B yBlk J) (h : TS B l Y A C T rv vs rows J pre vch ch w)
    (ho : w7.ownsRow B 3 1 v1 (ch.length + 1) (intCells ch ++ [.int .i64 k])) (hg : w.grownBy w7 vch.ownBlock) (hl : v1.ownBlock = vch.ownBlock ∨ ∃ b, v1.ownBlock = some b ∧ w.heap.size ≤ b) :
    TS B l Y A C T rv vs rows J pre v1 (ch ++ [k]) (w7.setCell ⟨C, 0, none⟩ v1) := by
  have te := h.te
  have nb : ∀ {b : Nat} {cs : Array Value} {t : Nat}, w.heap[b]? = some (.cells cs t (0, 0)) → 3 ≠ t → w7.heap[b]? = some (.cells cs t (0, 0)) := fun {b cs t} hb ht => by
    refine (hg.block b (lt_of hb) (fun e => ?_)).trans hb
    rcases own_neb te.row hb ht with h0 | h0
    · rw [h0] at e; cases e
    · exact h0 e.symm
  have oc : ∀ {b : Nat} {o : Obj}, b ≠ C → w7.heap[b]? = some o → (w7.setCell ⟨C, 0, none⟩ v1).heap[b]? = some o := fun hb ho => (Below.heap_setCell _ _ _ _ hb).trans ho
  have ty : ∀ {b : Nat} {cs cs' : Array Value} {t t' : Nat}, w.heap[b]? = some (.cells cs t (0, 0)) → w.heap[C]? = some (.cells cs' t' (0, 0)) → t ≠ t' → b ≠ C := fun h1 h2 ht e => by
    subst e; rw [h1] at h2; cases h2; exact ht rfl
  have c7 := nb te.c (by decide)
  have gC : w7.grownBy (w7.setCell ⟨C, 0, none⟩ v1) (some C) := grown_cell w7 C 0 v1
  have hlen : (ch ++ [k]).length = ch.length + 1 := by simp
  have hic : intCells (ch ++ [k]) = intCells ch ++ [.int .i64 k] := by simp [intCells]
  have kr : ∀ {e' z n : Nat} {v : Value} {xs : List Value}, w.ownsRow B e' z v n xs → 3 ≠ e' → e' ≠ 50 → (w7.setCell ⟨C, 0, none⟩ v1).ownsRow B e' z v n xs := fun hr h3 h50 => by
    have h7 := hr.kept hg (own_ne hr te.row (Ne.symm h3))
    exact h7.kept gC (own_neb h7 c7 h50)
  refine ⟨⟨oc (ty te.y te.c (by decide)) (nb te.y (by decide)), oc (ty te.a te.c (by decide)) (nb te.a (by decide)), heap_setCell_same w7 C 0 _ 50 v1 c7, oc (ty te.t te.c (by decide)) (nb te.t (by decide)),
    ⟨te.rows.vl, kr te.rows.out (by decide) (by decide), fun i hi => kr (te.rows.rows i hi) (by decide) (by decide)⟩, ?_, te.hY, te.hA, te.hC, te.hT⟩, ?_, ?_⟩
  · rw [hlen, hic]; exact ho.kept gC (own_neb ho c7 (by decide))
  · refine aJ pre w _ h.j ?_ (fun x hx b e => ?_)
    · exact ((Below.refl B w).grown hg h.sz (fun b e => (te.row.lt b e).1)).setCell (p := ⟨C, 0, none⟩) te.hC v1
    · obtain ⟨h1, h2, h3⟩ := h.gh x hx b e
      exact (Below.heap_setCell _ _ _ _ h2).trans (hg.block b h1 (fun e => h3 e.symm))
  · intro x hx b e
    obtain ⟨h1, h2, h3⟩ := h.gh x hx b e
    refine ⟨by have := hg.size; have : (w7.setCell ⟨C, 0, none⟩ v1).heap.size = w7.heap.size := by simp
               omega, h2, fun e2 => ?_⟩
    rcases hl with hl | ⟨b', hl, hb'⟩
    · exact h3 (hl ▸ e2)
    · rw [hl] at e2; cases e2; omega
theorem TS.pop {pre : List YP} {g cap : Nat} {ch : List Int} {k : Int} {w : World} (aJ : AbidesG B yBlk J) (h : TS B l Y A C T rv vs rows J pre (.slice (some ⟨g, 0, none⟩) (ch.length + 1) cap) (ch ++ [k]) w) :
    TS B l Y A C T rv vs rows J pre (.slice (some ⟨g, 0, none⟩) ch.length cap) ch (w.setCell ⟨C, 0, none⟩ (.slice (some ⟨g, 0, none⟩) ch.length cap)) := by
  have te := h.te
  have hlen : (ch ++ [k]).length = ch.length + 1 := by simp
  have hic : intCells (ch ++ [k]) = intCells ch ++ [.int .i64 k] := by simp [intCells]
  have hrow := te.row
  rw [hlen, hic] at hrow
  have hrow2 := own_take hrow (k := ch.length) (by omega)
  rw [List.take_left' (by simp [intCells])] at hrow2
  generalize hv : Value.slice (some ⟨g, 0, none⟩) ch.length cap = v1 at *
  have oc : ∀ {b : Nat} {o : Obj}, b ≠ C → w.heap[b]? = some o → (w.setCell ⟨C, 0, none⟩ v1).heap[b]? = some o := fun hb ho => (Below.heap_setCell _ _ _ _ hb).trans ho
  have ty : ∀ {b : Nat} {cs cs' : Array Value} {t t' : Nat}, w.heap[b]? = some (.cells cs t (0, 0)) → w.heap[C]? = some (.cells cs' t' (0, 0)) → t ≠ t' → b ≠ C := fun h1 h2 ht e => by
    subst e; rw [h1] at h2; cases h2; exact ht rfl
  have gC : w.grownBy (w.setCell ⟨C, 0, none⟩ v1) (some C) := grown_cell w C 0 v1
  have kr : ∀ {e' z n : Nat} {v : Value} {xs : List Value}, w.ownsRow B e' z v n xs → e' ≠ 50 → (w.setCell ⟨C, 0, none⟩ v1).ownsRow B e' z v n xs := fun hr h50 => hr.kept gC (own_neb hr te.c h50)
  refine ⟨⟨oc (ty te.y te.c (by decide)) te.y, oc (ty te.a te.c (by decide)) te.a, heap_setCell_same w C 0 _ 50 v1 te.c, oc (ty te.t te.c (by decide)) te.t,
    ⟨te.rows.vl, kr te.rows.out (by decide), fun i hi => kr (te.rows.rows i hi) (by decide)⟩, kr hrow2 (by decide), te.hY, te.hA, te.hC, te.hT⟩, ?_, ?_⟩
  · refine aJ pre w _ h.j ((Below.refl B w).setCell (p := ⟨C, 0, none⟩) te.hC v1) (fun x hx b e => ?_)
    exact Below.heap_setCell _ _ _ _ (h.gh x hx b e).2.1
  · intro x hx b e
    obtain ⟨h1, h2, h3⟩ := h.gh x hx b e
    exact ⟨by simpa using h1, h2, by rw [← hv]; exact h3⟩
theorem TS.yield {pre : List YP} {x : YP} {vch : Value} {ch : List Int} {w w1 w' : World} (h : TS B l Y A C T rv vs rows J pre vch ch w) (hb : Below w.heap.size w w1) (hx : w1.ownsRow w.heap.size 3 1 x.v x.ch.length (intCells x.ch))
    (hj : J (pre ++ [x]) w') (hk : KeepsFor N0 w1 w') (hB : N0 ≤ B) : TS B l Y A C T rv vs rows J (pre ++ [x]) vch ch w' := by
  refine ⟨(h.te.below hb).keep hk hB, hj, fun y hy b e => ?_⟩
  rcases List.mem_append.1 hy with hy | hy
  · obtain ⟨h1, h2⟩ := h.gh y hy b e
    have := hb.size; have := hk.1
    exact ⟨by omega, h2⟩
  · obtain rfl : y = x := by simpa using hy
    obtain ⟨h1, h2⟩ := hx.lt b e
    have := hk.1
    refine ⟨by omega, fun e2 => by have := lt_of h.te.c; omega, fun e2 => ?_⟩
    have := (h.te.row.lt b e2).2
    omega
def TellOk (B l Y A C T : Nat) (rv : Value) (vs : List Value) (rows : List (List Way)) (J Jx : List YP → World → Prop) (pre : List YP) (s : ByteArray) (c : Int) (ch : List Int) (e : Ending) (w' : World) : Prop :=
  ∃ r : Bool, e = .returned (.bool r) ∧ ((r = true ∧ ∃ xs vch', xs.map YP.pat = (pats (rows.drop ch.length)).map (pre3 s c ch) ∧ TS B l Y A C T rv vs rows J (pre ++ xs) vch' ch w') ∨ (r = false ∧ ∃ ps, Jx ps w'))
end
end YtkfkkoefpfmjkaaDoor
end Go.Proofs

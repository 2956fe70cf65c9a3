import Derived.Test.YtkfkkoefpfmjkaaDoorCF
import Derived.Test.YtkfkkoefpfmjkaaDoorVK
namespace Go.Proofs.YtkfkkoefpfmjkaaDoor
set_option linter.unusedVariables false
set_option linter.unusedSimpArgs false
open Go.RowKit

/- MetreCounts: what lies between the rounds of the law's loop. -/
def sgOf (sg0 : ByteArray) : List YP → ByteArray
  | [] => sg0
  | x :: _ => if sg0 = ⟨#[]⟩ then x.s else sg0
theorem sgOf_snoc (sg0 : ByteArray) (pre : List YP) (x : YP) (h : pre ≠ []) : sgOf sg0 (pre ++ [x]) = sgOf sg0 pre := by
  cases pre with
  | nil => exact absurd rfl h
  | cons y l => rfl
def stOf (sg0 : ByteArray) (pre : List YP) : Sm := sumP (sgOf sg0 pre).data.toList (pre.map YP.pat)
theorem stOf_snoc (sg0 : ByteArray) (pre : List YP) (x : YP) (sg : ByteArray) (h : sgOf sg0 (pre ++ [x]) = sg) (h2 : pre = [] ∨ sgOf sg0 pre = sg) : stOf sg0 (pre ++ [x]) = updP sg.data.toList (stOf sg0 pre) x.pat := by
  unfold stOf
  rw [h, List.map_append]
  show (pre.map YP.pat ++ [x.pat]).foldl (updP sg.data.toList) Sm.zero = _
  rw [List.foldl_append]
  rcases h2 with rfl | h2
  · rfl
  · rw [h2]; rfl
theorem stOf_w (sg0 : ByteArray) (pre : List YP) : (stOf sg0 pre).w ≤ pre.length := by
  have := sum_w (sgOf sg0 pre).data.toList (pre.map YP.pat)
  rw [List.length_map] at this
  exact this
theorem upd_off {s : List UInt8} {st : Sm} {p : Pat} (h : p.s ≠ s) : updP s st p = st := by
  unfold updP oneP; rw [if_neg h]; exact mrg_no rfl
theorem upd_new {s : List UInt8} {st : Sm} {p : Pat} (h : p.s = s) (h2 : st.w = 0 ∨ p.c < st.c) : updP s st p = ⟨p.c, 1, p.ch⟩ := by
  unfold updP oneP; rw [if_pos h]; exact mrg_new (b := ⟨p.c, 1, p.ch⟩) (by show (1 : Nat) ≠ 0; omega) h2
theorem upd_eq {s : List UInt8} {st : Sm} {p : Pat} (h : p.s = s) (h2 : st.w ≠ 0) (h3 : p.c = st.c) : updP s st p = ⟨st.c, st.w + 1, st.f⟩ := by
  unfold updP oneP; rw [if_pos h]; exact mrg_eq (b := ⟨p.c, 1, p.ch⟩) (by show (1 : Nat) ≠ 0; omega) h2 h3
theorem upd_old {s : List UInt8} {st : Sm} {p : Pat} (h : p.s = s) (h2 : st.w ≠ 0) (h3 : st.c < p.c) : updP s st p = st := by
  unfold updP oneP; rw [if_pos h]; exact mrg_old (b := ⟨p.c, 1, p.ch⟩) h2 h3

/-- what the first of the least is, in memory -/
def FirstIn (N0 : Nat) (sg0 : ByteArray) (pre : List YP) (b : Nat) (V : World) : Prop :=
  ∃ fs fc fA fn fcap, V.heap[b]? = some (.cells #[.string fs, .int .i64 fc, .slice fA fn fcap] 52 (0, 0)) ∧
    ((stOf sg0 pre).w ≠ 0 → fs = sgOf sg0 pre ∧ fc = (stOf sg0 pre).c ∧ V.ownsRow N0 3 1 (.slice fA fn fcap) (stOf sg0 pre).f.length (intCells (stOf sg0 pre).f) ∧ ∃ x ∈ pre, x.v = .slice fA fn fcap)
structure LR (N0 b0 bn bk : Nat) (mc : Array Value) (nn : Nat) (sg0 : ByteArray) (w : World) (pre : List YP) (V : World) : Prop where
  m : V.heap[b0]? = some (.cells mc 27 (0, 0))
  s : V.heap[b0 + 1]? = some (.cells #[.string (sgOf sg0 pre)] 9 (0, 0))
  r : V.heap[b0 + 2]? = some (.cells #[.bool false] 4 (0, 0))
  n : V.heap[bn]? = some (.cells #[.int .i64 nn] 3 (0, 0))
  k : V.heap[bk]? = some (.cells #[.int .i64 pre.length] 3 (0, 0))
  c : V.heap[bk + 1]? = some (.cells #[.int .i64 (stOf sg0 pre).c] 3 (0, 0))
  wy : V.heap[bk + 2]? = some (.cells #[.int .i64 (stOf sg0 pre).w] 3 (0, 0))
  f : FirstIn N0 sg0 pre (bk + 3) V
  b : Below b0 w V
  sz : (sgOf sg0 pre).size ≤ 9223372036854775807
  h1 : b0 + 2 < bn
  h2 : bn < bk
  h3 : bk + 3 < N0
  h4 : N0 ≤ V.heap.size
theorem own_same {w w' : World} {B e z n : Nat} {v : Value} {xs : List Value} (h : w.ownsRow B e z v n xs) (hb : ∀ b, v.ownBlock = some b → w'.heap[b]? = w.heap[b]?) : w'.ownsRow B e z v n xs := by
  refine ⟨h.1, h.2.imp id ?_⟩
  rintro ⟨g, cap, cur, h1, h2, h3, h4⟩
  exact ⟨g, cap, cur, h1, h2, (hb g (by rw [h1]; rfl)).trans h3, h4⟩
theorem LR.abides {N0 b0 bn bk nn : Nat} {mc : Array Value} {sg0 : ByteArray} {w : World} : AbidesG N0 yBlk (LR N0 b0 bn bk mc nn sg0 w) := by
  intro pre A B h hb hx
  have h1 := h.h1; have h2 := h.h2; have h3 := h.h3; have h4 := h.h4
  refine ⟨(hb.block _ (by omega)).trans h.m, (hb.block _ (by omega)).trans h.s, (hb.block _ (by omega)).trans h.r, (hb.block _ (by omega)).trans h.n, (hb.block _ (by omega)).trans h.k, (hb.block _ (by omega)).trans h.c, (hb.block _ (by omega)).trans h.wy, ?_,
    h.b.trans (hb.mono (by omega)), h.sz, h1, h2, h3, by have := hb.size; omega⟩
  obtain ⟨fs, fc, fA, fn, fcap, hf, hif⟩ := h.f
  refine ⟨fs, fc, fA, fn, fcap, (hb.block _ (by omega)).trans hf, fun hw => ?_⟩
  obtain ⟨a1, a2, a3, x, hxm, a4⟩ := hif hw
  exact ⟨a1, a2, own_same a3 (fun b e => hx x hxm b (by unfold yBlk; rw [a4]; exact e)), x, hxm, a4⟩
theorem LR.below {N0 b0 bn bk nn : Nat} {mc : Array Value} {sg0 : ByteArray} {w A B : World} {pre : List YP} (h : LR N0 b0 bn bk mc nn sg0 w pre A) (hb : Below A.heap.size A B) : LR N0 b0 bn bk mc nn sg0 w pre B := by
  have h1 := h.h1; have h2 := h.h2; have h3 := h.h3; have h4 := h.h4
  refine ⟨(hb.block _ (by omega)).trans h.m, (hb.block _ (by omega)).trans h.s, (hb.block _ (by omega)).trans h.r, (hb.block _ (by omega)).trans h.n, (hb.block _ (by omega)).trans h.k, (hb.block _ (by omega)).trans h.c, (hb.block _ (by omega)).trans h.wy, ?_,
    h.b.trans (hb.mono (by omega)), h.sz, h1, h2, h3, by have := hb.size; omega⟩
  obtain ⟨fs, fc, fA, fn, fcap, hf, hif⟩ := h.f
  refine ⟨fs, fc, fA, fn, fcap, (hb.block _ (by omega)).trans hf, fun hw => ?_⟩
  obtain ⟨a1, a2, a3, x, hxm, a4⟩ := hif hw
  exact ⟨a1, a2, own_same a3 (fun b e => hb.block b (a3.lt b e).2), x, hxm, a4⟩
theorem LR.cells {N0 b0 bn bk nn : Nat} {mc : Array Value} {sg0 : ByteArray} {w V : World} {pre : List YP} (h : LR N0 b0 bn bk mc nn sg0 w pre V) :
    V.cell? ⟨b0 + 1, 0, none⟩ = some (.string (sgOf sg0 pre)) ∧ V.cell? ⟨bn, 0, none⟩ = some (.int .i64 nn) ∧ V.cell? ⟨bk, 0, none⟩ = some (.int .i64 pre.length) ∧ V.cell? ⟨bk + 1, 0, none⟩ = some (.int .i64 (stOf sg0 pre).c) ∧ V.cell? ⟨bk + 2, 0, none⟩ = some (.int .i64 (stOf sg0 pre).w) :=
  ⟨cell_of_row _ _ 0 _ 9 (0, 0) h.s, cell_of_row _ _ 0 _ 3 (0, 0) h.n, cell_of_row _ _ 0 _ 3 (0, 0) h.k, cell_of_row _ _ 0 _ 3 (0, 0) h.c, cell_of_row _ _ 0 _ 3 (0, 0) h.wy⟩
/-- one round: nothing but the boxes has changed, and they say what they must -/
theorem LR.step {N0 b0 bn bk nn : Nat} {mc : Array Value} {sg0 : ByteArray} {w V V' : World} {pre : List YP} {x : YP} (h : LR N0 b0 bn bk mc nn sg0 w pre V) (sg : ByteArray) (hsg : sgOf sg0 (pre ++ [x]) = sg) (hsg2 : pre = [] ∨ sgOf sg0 pre = sg) (hsz : sg.size ≤ 9223372036854775807)
    (hoff : ∀ i, i ≠ b0 + 1 → i ≠ bk → i ≠ bk + 1 → i ≠ bk + 2 → i ≠ bk + 3 → V'.heap[i]? = V.heap[i]?) (hb : Below b0 V V') (hs : V'.heap.size = V.heap.size)
    (es : V'.heap[b0 + 1]? = some (.cells #[.string sg] 9 (0, 0))) (ek : V'.heap[bk]? = some (.cells #[.int .i64 (pre.length + 1)] 3 (0, 0)))
    (ec : V'.heap[bk + 1]? = some (.cells #[.int .i64 (updP sg.data.toList (stOf sg0 pre) x.pat).c] 3 (0, 0))) (ew : V'.heap[bk + 2]? = some (.cells #[.int .i64 (updP sg.data.toList (stOf sg0 pre) x.pat).w] 3 (0, 0)))
    (ef : (updP sg.data.toList (stOf sg0 pre) x.pat = stOf sg0 pre ∧ V'.heap[bk + 3]? = V.heap[bk + 3]?) ∨ ((stOf sg0 pre).w ≠ 0 ∧ (updP sg.data.toList (stOf sg0 pre) x.pat).c = (stOf sg0 pre).c ∧ (updP sg.data.toList (stOf sg0 pre) x.pat).f = (stOf sg0 pre).f ∧ V'.heap[bk + 3]? = V.heap[bk + 3]?) ∨
      (∃ A n c, x.v = .slice A n c ∧ yFits N0 x V ∧ sg = x.s ∧ updP sg.data.toList (stOf sg0 pre) x.pat = ⟨x.c, 1, x.ch⟩ ∧ V'.heap[bk + 3]? = some (.cells #[.string x.s, .int .i64 x.c, .slice A n c] 52 (0, 0)))) :
    LR N0 b0 bn bk mc nn sg0 w (pre ++ [x]) V' := by
  have h1 := h.h1; have h2 := h.h2; have h3 := h.h3
  have hst := stOf_snoc sg0 pre x sg hsg hsg2
  have hkeep : ∀ {e z n : Nat} {v : Value} {xs : List Value}, V.ownsRow N0 e z v n xs → V'.ownsRow N0 e z v n xs := fun hr => own_same hr fun b e => by
    have := (hr.lt b e).1
    exact hoff b (by omega) (by omega) (by omega) (by omega) (by omega)
  refine ⟨(hoff _ (by omega) (by omega) (by omega) (by omega) (by omega)).trans h.m, by rw [hsg]; exact es, (hoff _ (by omega) (by omega) (by omega) (by omega) (by omega)).trans h.r, (hoff _ (by omega) (by omega) (by omega) (by omega) (by omega)).trans h.n,
    by rw [List.length_append, List.length_singleton]; exact ek, by rw [hst]; exact ec, by rw [hst]; exact ew, ?_, h.b.trans hb, by rw [hsg]; exact hsz, h1, h2, h3, by rw [hs]; exact h.h4⟩
  unfold FirstIn
  rw [hst, hsg]
  rcases ef with ⟨e1, e2⟩ | ⟨e0, e1, e2, e3⟩ | ⟨A, n, c, e0, hf, e1, e2, e3⟩
  · obtain ⟨fs, fc, fA, fn, fcap, hf, hif⟩ := h.f
    refine ⟨fs, fc, fA, fn, fcap, e2.trans hf, fun hw => ?_⟩
    rw [e1] at hw ⊢
    obtain ⟨a1, a2, a3, y, hy, a4⟩ := hif hw
    refine ⟨?_, a2, hkeep a3, y, List.mem_append_left _ hy, a4⟩
    rcases hsg2 with rfl | hsg2
    · cases hy
    · rw [a1, hsg2]
  · obtain ⟨fs, fc, fA, fn, fcap, hf, hif⟩ := h.f
    refine ⟨fs, fc, fA, fn, fcap, e3.trans hf, fun _ => ?_⟩
    obtain ⟨a1, a2, a3, y, hy, a4⟩ := hif e0
    rw [e1, e2]
    refine ⟨?_, a2, hkeep a3, y, List.mem_append_left _ hy, a4⟩
    rcases hsg2 with rfl | hsg2
    · cases hy
    · rw [a1, hsg2]
  · refine ⟨x.s, x.c, A, n, c, e3, fun _ => ?_⟩
    rw [e2]
    refine ⟨e1.symm, rfl, ?_, x, List.mem_append_right _ (List.mem_singleton.2 rfl), e0⟩
    rw [← e0]
    exact hkeep hf.1
set_option maxRecDepth 100000 in
theorem arr_Fr9 (f : Nat → Value) : #[f 0, f 1, f 2, f 3, f 4, f 5, f 6, f 7, f 8, f 9, f 10, f 11, f 12, f 13, f 14, f 15, f 16, f 17, f 18, f 19, f 20, f 21, f 22, f 23, f 24, f 25, f 26, f 27, f 28, f 29, f 30, f 31, f 32, f 33, f 34, f 35, f 36, f 37, f 38, f 39, f 40, f 41, f 42, f 43, f 44, f 45, f 46, f 47, f 48, f 49, f 50, f 51, f 52, f 53, f 54, f 55, f 56, f 57, f 58, f 59, f 60, f 61, f 62, f 63, f 64, f 65, f 66, f 67, f 68, f 69, f 70, f 71, f 72, f 73, f 74, f 75, f 76, f 77, f 78, f 79, f 80, f 81, f 82, f 83, f 84, f 85, f 86, f 87, f 88, f 89, f 90, f 91, f 92, f 93, f 94, f 95, f 96, f 97, f 98, f 99, f 100, f 101, f 102, f 103, f 104, f 105, f 106, f 107, f 108, f 109, f 110, f 111, f 112, f 113, f 114, f 115, f 116, f 117, f 118, f 119, f 120, f 121, f 122, f 123, f 124, f 125, f 126, f 127, f 128, f 129, f 130, f 131, f 132, f 133, f 134, f 135, f 136] = ((List.range 137).map f).toArray := rfl
theorem arrOf_Fr9 (t : Array Value) (h : t.size = 137) : t = ((List.range 137).map fun n => t.getD n undef).toArray := by
  apply Array.ext
  · simp [h]
  · intro i h1 h2
    simp [Array.getD, h1]
def Fr9 (b0 bn bk bp : Nat) (a : Act) : Prop := ∃ f : Nat → Value, a = { tmps := #[f 0, f 1, .pointer (some ⟨b0, 0, none⟩), .pointer (some ⟨b0 + 1, 0, none⟩), .pointer (some ⟨b0 + 2, 0, none⟩), .pointer (some ⟨bn, 0, none⟩), f 6, .pointer (some ⟨bk, 0, none⟩), .pointer (some ⟨bk + 1, 0, none⟩), .pointer (some ⟨bk + 2, 0, none⟩), .pointer (some ⟨bk + 3, 0, none⟩), .pointer (some ⟨bp, 0, none⟩), f 12, f 13, f 14, f 15, f 16, f 17, f 18, f 19, f 20, f 21, f 22, f 23, f 24, f 25, f 26, f 27, f 28, f 29, f 30, f 31, f 32, f 33, f 34, f 35, f 36, f 37, f 38, f 39, f 40, f 41, f 42, f 43, f 44, f 45, f 46, f 47, f 48, f 49, f 50, f 51, f 52, f 53, f 54, f 55, f 56, f 57, f 58, f 59, f 60, f 61, f 62, f 63, f 64, f 65, f 66, f 67, f 68, f 69, f 70, f 71, f 72, f 73, f 74, f 75, f 76, f 77, f 78, f 79, f 80, f 81, f 82, f 83, f 84, f 85, f 86, f 87, f 88, f 89, f 90, f 91, f 92, f 93, f 94, f 95, f 96, f 97, f 98, f 99, f 100, f 101, f 102, f 103, f 104, f 105, f 106, f 107, f 108, f 109, f 110, f 111, f 112, f 113, f 114, f 115, f 116, f 117, f 118, f 119, f 120, f 121, f 122, f 123, f 124, f 125, f 126, f 127, f 128, f 129, f 130, f 131, f 132, f 133, f 134, f 135, f 136], defers := [] }
set_option maxRecDepth 100000 in
theorem Fr9.of {b0 bn bk bp : Nat} {a : Act} (hd : a.defers = []) (hs : a.tmps.size = 137) (h2 : a.tmps.getD 2 undef = .pointer (some ⟨b0, 0, none⟩)) (h3 : a.tmps.getD 3 undef = .pointer (some ⟨b0 + 1, 0, none⟩)) (h4 : a.tmps.getD 4 undef = .pointer (some ⟨b0 + 2, 0, none⟩)) (h5 : a.tmps.getD 5 undef = .pointer (some ⟨bn, 0, none⟩)) (h7 : a.tmps.getD 7 undef = .pointer (some ⟨bk, 0, none⟩)) (h8 : a.tmps.getD 8 undef = .pointer (some ⟨bk + 1, 0, none⟩)) (h9 : a.tmps.getD 9 undef = .pointer (some ⟨bk + 2, 0, none⟩)) (h10 : a.tmps.getD 10 undef = .pointer (some ⟨bk + 3, 0, none⟩)) (h11 : a.tmps.getD 11 undef = .pointer (some ⟨bp, 0, none⟩)) : Fr9 b0 bn bk bp a := by
  refine ⟨fun n => a.tmps.getD n undef, ?_⟩
  have e := (arrOf_Fr9 a.tmps hs).trans (arr_Fr9 fun n => a.tmps.getD n undef).symm
  obtain ⟨t, d⟩ := a
  simp only [] at *
  rw [h2, h3, h4, h5, h7, h8, h9, h10, h11] at e
  rw [hd, ← e]

/-- what a round's variable is -/
def Ax9 (N0 b0 bn bk : Nat) (x : YP) (a' : Act) (W : World) : Prop :=
  ∃ (bp : Nat) (A : Option Addr) (cap : Nat), Fr9 b0 bn bk bp a' ∧ x.v = .slice A x.ch.length cap ∧ W.heap[bp]? = some (.cells #[.string x.s, .int .i64 x.c, .slice A x.ch.length cap] 52 (0, 0)) ∧ N0 ≤ bp ∧ yFits N0 x W
theorem Ax9.keep {N0 b0 bn bk : Nat} (x : YP) (a' : Act) (W W' : World) (h : Ax9 N0 b0 bn bk x a' W) (hk : KeepsFor N0 W W') : Ax9 N0 b0 bn bk x a' W' := by
  obtain ⟨bp, A, cap, h1, h2, h3, h4, h5, h6⟩ := h
  exact ⟨bp, A, cap, h1, h2, hk.2 _ _ h4 h3 (.inl rfl), h4, own_keepFor h5 hk (Nat.le_refl _), h6⟩
theorem keepsFor_alloc (B : Nat) (W : World) (o : Obj) : KeepsFor B W (W.alloc o) := ⟨by simp, fun i x hi hx _ => (Below.heap_alloc _ _ _ (Array.getElem?_eq_some_iff.1 hx).1).trans hx⟩
theorem keepsFor_off {B : Nat} {W W' : World} (hs : W'.heap.size = W.heap.size) (h : ∀ i, B ≤ i → W'.heap[i]? = W.heap[i]?) : KeepsFor B W W' := ⟨by omega, fun i x hi hx _ => (h i hi).trans hx⟩
/-- the number of rounds is counted, and the signs are taken over -/
structure Mid (b0 bk : Nat) (k1 : Int) (sg : ByteArray) (V V2 : World) : Prop where
  off : ∀ i, i ≠ b0 + 1 → i ≠ bk → V2.heap[i]? = V.heap[i]?
  b : Below b0 V V2
  size : V2.heap.size = V.heap.size
  oth : KeepsOthers V V2
  s : V2.heap[b0 + 1]? = some (.cells #[.string sg] 9 (0, 0))
  k : V2.heap[bk]? = some (.cells #[.int .i64 k1] 3 (0, 0))
theorem Mid.start {N0 b0 bn bk nn : Nat} {mc : Array Value} {sg0 : ByteArray} {w V : World} {pre : List YP} (h : LR N0 b0 bn bk mc nn sg0 w pre V) (k1 : Int) : Mid b0 bk k1 (sgOf sg0 pre) V (V.setCell ⟨bk, 0, none⟩ (.int .i64 k1)) := by
  have h1 := h.h1; have h2 := h.h2
  exact ⟨fun i _ hi => Below.heap_setCell _ _ _ _ hi, (Below.refl _ V).setCell (p := ⟨bk, 0, none⟩) (by show b0 ≤ bk; omega) _, by simp, KeepsOthers.setCell _ _ _, (Below.heap_setCell _ _ _ _ (by show b0 + 1 ≠ bk; omega)).trans h.s, heap_setCell_same V bk 0 _ 3 _ h.k⟩
theorem Mid.sg {b0 bk : Nat} {k1 : Int} {sg : ByteArray} {V V2 : World} (h : Mid b0 bk k1 sg V V2) (hb : b0 + 1 ≠ bk) (sg' : ByteArray) : Mid b0 bk k1 sg' V (V2.setCell ⟨b0 + 1, 0, none⟩ (.string sg')) :=
  ⟨fun i hi hi2 => (Below.heap_setCell _ _ _ _ hi).trans (h.off i hi hi2), h.b.setCell (p := ⟨b0 + 1, 0, none⟩) (by show b0 ≤ b0 + 1; omega) _, by simp [h.size], h.oth.trans (KeepsOthers.setCell _ _ _), heap_setCell_same V2 (b0 + 1) 0 _ 9 _ h.s, (Below.heap_setCell _ _ _ _ (by show bk ≠ b0 + 1; omega)).trans h.k⟩
theorem Mid.facts {N0 b0 bn bk nn : Nat} {mc : Array Value} {sg0 : ByteArray} {w V V2 : World} {pre : List YP} {k1 : Int} {sg : ByteArray} (h : LR N0 b0 bn bk mc nn sg0 w pre V) (hm : Mid b0 bk k1 sg V V2) :
    V2.cell? ⟨b0 + 1, 0, none⟩ = some (.string sg) ∧ V2.cell? ⟨bn, 0, none⟩ = some (.int .i64 nn) ∧ V2.cell? ⟨bk, 0, none⟩ = some (.int .i64 k1) ∧ V2.cell? ⟨bk + 1, 0, none⟩ = some (.int .i64 (stOf sg0 pre).c) ∧ V2.cell? ⟨bk + 2, 0, none⟩ = some (.int .i64 (stOf sg0 pre).w) ∧
    V2.frozen? ⟨b0 + 1, 0, none⟩ = false ∧ V2.frozen? ⟨bk + 1, 0, none⟩ = false ∧ V2.frozen? ⟨bk + 2, 0, none⟩ = false := by
  have h1 := h.h1; have h2 := h.h2
  have n2 := (hm.off bn (by omega) (by omega)).trans h.n
  have c2 := (hm.off (bk + 1) (by omega) (by omega)).trans h.c
  have w2 := (hm.off (bk + 2) (by omega) (by omega)).trans h.wy
  exact ⟨cell_of_row _ _ 0 _ 9 (0, 0) hm.s, cell_of_row _ _ 0 _ 3 (0, 0) n2, cell_of_row _ _ 0 _ 3 (0, 0) hm.k, cell_of_row _ _ 0 _ 3 (0, 0) c2, cell_of_row _ _ 0 _ 3 (0, 0) w2, frozen_of_row _ _ 0 _ 9 hm.s, frozen_of_row _ _ 0 _ 3 c2, frozen_of_row _ _ 0 _ 3 w2⟩
/-- the least, how many, the first -/
structure Fin (b0 bk : Nat) (c wv : Int) (f : Array Value) (V2 V' : World) : Prop where
  off : ∀ i, i ≠ bk + 1 → i ≠ bk + 2 → i ≠ bk + 3 → V'.heap[i]? = V2.heap[i]?
  b : Below b0 V2 V'
  size : V'.heap.size = V2.heap.size
  oth : KeepsOthers V2 V'
  c : V'.heap[bk + 1]? = some (.cells #[.int .i64 c] 3 (0, 0))
  w : V'.heap[bk + 2]? = some (.cells #[.int .i64 wv] 3 (0, 0))
  f : V'.heap[bk + 3]? = some (.cells f 52 (0, 0))
theorem Fin.start {N0 b0 bn bk nn : Nat} {mc : Array Value} {sg0 : ByteArray} {w V V2 : World} {pre : List YP} {k1 : Int} {sg : ByteArray} (h : LR N0 b0 bn bk mc nn sg0 w pre V) (hm : Mid b0 bk k1 sg V V2) :
    ∃ fs fc fA fn fcap, Fin b0 bk (stOf sg0 pre).c (stOf sg0 pre).w #[.string fs, .int .i64 fc, .slice fA fn fcap] V2 V2 := by
  have h1 := h.h1; have h2 := h.h2
  obtain ⟨fs, fc, fA, fn, fcap, hf, _⟩ := h.f
  exact ⟨fs, fc, fA, fn, fcap, fun _ _ _ _ => rfl, Below.refl _ _, rfl, KeepsOthers.refl _, (hm.off _ (by omega) (by omega)).trans h.c, (hm.off _ (by omega) (by omega)).trans h.wy, (hm.off _ (by omega) (by omega)).trans hf⟩
theorem Fin.setc {b0 bk : Nat} {c wv : Int} {f : Array Value} {V2 V' : World} (h : Fin b0 bk c wv f V2 V') (hb : b0 ≤ bk) (c' : Int) : Fin b0 bk c' wv f V2 (V'.setCell ⟨bk + 1, 0, none⟩ (.int .i64 c')) :=
  ⟨fun i h1 h2 h3 => (Below.heap_setCell _ _ _ _ h1).trans (h.off i h1 h2 h3), h.b.setCell (p := ⟨bk + 1, 0, none⟩) (by show b0 ≤ bk + 1; omega) _, by simp [h.size], h.oth.trans (KeepsOthers.setCell _ _ _), heap_setCell_same V' _ 0 _ 3 _ h.c, (Below.heap_setCell _ _ _ _ (by show bk + 2 ≠ bk + 1; omega)).trans h.w, (Below.heap_setCell _ _ _ _ (by show bk + 3 ≠ bk + 1; omega)).trans h.f⟩
theorem Fin.setw {b0 bk : Nat} {c wv : Int} {f : Array Value} {V2 V' : World} (h : Fin b0 bk c wv f V2 V') (hb : b0 ≤ bk) (w' : Int) : Fin b0 bk c w' f V2 (V'.setCell ⟨bk + 2, 0, none⟩ (.int .i64 w')) :=
  ⟨fun i h1 h2 h3 => (Below.heap_setCell _ _ _ _ h2).trans (h.off i h1 h2 h3), h.b.setCell (p := ⟨bk + 2, 0, none⟩) (by show b0 ≤ bk + 2; omega) _, by simp [h.size], h.oth.trans (KeepsOthers.setCell _ _ _), (Below.heap_setCell _ _ _ _ (by show bk + 1 ≠ bk + 2; omega)).trans h.c, heap_setCell_same V' _ 0 _ 3 _ h.w, (Below.heap_setCell _ _ _ _ (by show bk + 3 ≠ bk + 2; omega)).trans h.f⟩
theorem Fin.setf {b0 bk : Nat} {c wv : Int} {f : Array Value} {V2 V' : World} (h : Fin b0 bk c wv f V2 V') (hb : b0 ≤ bk) (o : Nat) (v : Value) : Fin b0 bk c wv (f.setIfInBounds o v) V2 (V'.setCell ⟨bk + 3, o, none⟩ v) :=
  ⟨fun i h1 h2 h3 => (Below.heap_setCell _ _ _ _ h3).trans (h.off i h1 h2 h3), h.b.setCell (p := ⟨bk + 3, o, none⟩) (by show b0 ≤ bk + 3; omega) _, by simp [h.size], h.oth.trans (KeepsOthers.setCell _ _ _), (Below.heap_setCell _ _ _ _ (by show bk + 1 ≠ bk + 3; omega)).trans h.c, (Below.heap_setCell _ _ _ _ (by show bk + 2 ≠ bk + 3; omega)).trans h.w, heap_setCell_same V' _ o _ 52 _ h.f⟩
theorem Fin.drew {b0 bk : Nat} {c wv : Int} {f : Array Value} {V2 V' : World} (h : Fin b0 bk c wv f V2 V') : Fin b0 bk c wv f V2 V'.drew :=
  ⟨h.off, h.b.drew, h.size, h.oth.trans (KeepsOthers.drew _), h.c, h.w, h.f⟩
theorem LR.finish {N0 b0 bn bk nn : Nat} {mc : Array Value} {sg0 : ByteArray} {w V V2 V' : World} {pre : List YP} {x : YP} (h : LR N0 b0 bn bk mc nn sg0 w pre V) (sg : ByteArray) (hsg : sgOf sg0 (pre ++ [x]) = sg) (hsg2 : pre = [] ∨ sgOf sg0 pre = sg) (hsz : sg.size ≤ 9223372036854775807)
    (hm : Mid b0 bk (pre.length + 1) sg V V2) (c wv : Int) (f : Array Value) (he : Fin b0 bk c wv f V2 V')
    (ec : c = (updP sg.data.toList (stOf sg0 pre) x.pat).c) (ew : wv = (updP sg.data.toList (stOf sg0 pre) x.pat).w)
    (ef : (updP sg.data.toList (stOf sg0 pre) x.pat = stOf sg0 pre ∧ V'.heap[bk + 3]? = V.heap[bk + 3]?) ∨ ((stOf sg0 pre).w ≠ 0 ∧ (updP sg.data.toList (stOf sg0 pre) x.pat).c = (stOf sg0 pre).c ∧ (updP sg.data.toList (stOf sg0 pre) x.pat).f = (stOf sg0 pre).f ∧ V'.heap[bk + 3]? = V.heap[bk + 3]?) ∨
      (∃ A n c, x.v = .slice A n c ∧ yFits N0 x V ∧ sg = x.s ∧ updP sg.data.toList (stOf sg0 pre) x.pat = ⟨x.c, 1, x.ch⟩ ∧ f = #[.string x.s, .int .i64 x.c, .slice A n c])) :
    KeepsOthers V V' ∧ KeepsFor N0 V V' ∧ LR N0 b0 bn bk mc nn sg0 w (pre ++ [x]) V' := by
  have h1 := h.h1; have h2 := h.h2; have h3 := h.h3
  have hoff : ∀ i, i ≠ b0 + 1 → i ≠ bk → i ≠ bk + 1 → i ≠ bk + 2 → i ≠ bk + 3 → V'.heap[i]? = V.heap[i]? := fun i a1 a2 a3 a4 a5 => (he.off i a3 a4 a5).trans (hm.off i a1 a2)
  have hs : V'.heap.size = V.heap.size := he.size.trans hm.size
  refine ⟨hm.oth.trans he.oth, keepsFor_off hs fun i hi => hoff i (by omega) (by omega) (by omega) (by omega) (by omega), h.step sg hsg hsg2 hsz hoff (hm.b.trans he.b) hs ((he.off _ (by omega) (by omega) (by omega)).trans hm.s) ((he.off _ (by omega) (by omega) (by omega)).trans hm.k) (by rw [← ec]; exact he.c) (by rw [← ew]; exact he.w) ?_⟩
  rcases ef with ef | ef | ⟨A, n, c', e1, e2, e3, e4, e5⟩
  · exact .inl ef
  · exact .inr (.inl ef)
  · exact .inr (.inr ⟨A, n, c', e1, e2, e3, e4, by rw [← e5]; exact he.f⟩)
end Go.Proofs.YtkfkkoefpfmjkaaDoor

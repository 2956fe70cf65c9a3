/- 'copy(l[k+1:], l[k:])' on a row of the call's own whose elements have several cells. No program in sight. -/
import Derived.Laws.CopyOwn
import Derived.Laws.OwnMore
import Derived.Deep.RegionLaw
import Derived.Deep.MidRow
import Derived.Below
namespace Go.Proofs.Ytjlncnjmcgkkhaa
set_option linter.unusedVariables false
set_option linter.unusedSimpArgs false
open Go Go.RowKit

theorem run_copy_rowN (P : Program) (w : World) (dT sT ty elem : TypeId) (size g o dLen dCap : Nat) (a : Addr) (sLen sCap : Nat) (cur : Array Value) (t : TypeId) (cs : List Value)
    (hu : P.underlying dT = some (.slice elem)) (hs : (P.info? elem).map (·.size) = some size)
    (hg : w.heap[g]? = some (.cells cur t (0, 0))) (hn : cs.length = Nat.min sLen dLen * size)
    (hsrc : ∀ j v, cs[j]? = some v → w.cell? (a.add j) = some v) (hfit : o + cs.length ≤ cur.size) (h1 : ∀ v ∈ cs, v.oneCell' = true) :
    (Builtin.copy_ #[dT, sT] ty #[.slice (some ⟨g, o, none⟩) dLen dCap, .slice (some a) sLen sCap]).run P w =
      .ok (goInt (Nat.min sLen dLen)) (w.setRow g (cur.toList.take o ++ cs ++ cur.toList.drop (o + cs.length)).toArray) := by
  have hl := run_loadCells_list (P := P) w a cs hsrc
  have hst := run_storeCells_at P g o t cs 0 cur w hg (by simpa using hfit) h1
  cases hq : P.info? elem with
  | none => simp [hq] at hs
  | some i =>
    have hi : i.size = size := by simpa [hq] using hs
    rw [hn] at hl
    simp [Builtin.copy_, run_underlying hu, Builtin.lenOf, Builtin.firstCells, sizeOf, typeInfo, hq, hi, hl, hst]

/-- nothing to copy -/
theorem run_copy_zeroN (P : Program) (w : World) (dT sT ty elem : TypeId) (size dCap : Nat) (dp : Option Addr) (a : Addr) (sLen sCap : Nat)
    (hu : P.underlying dT = some (.slice elem)) (hs : (P.info? elem).map (·.size) = some size) :
    (Builtin.copy_ #[dT, sT] ty #[.slice dp 0 dCap, .slice (some a) sLen sCap]).run P w = .ok (goInt 0) w := by
  have hl := run_loadCells_list (P := P) w a [] (by simp)
  cases hq : P.info? elem with
  | none => simp [hq] at hs
  | some i =>
    have hi : i.size = size := by simpa [hq] using hs
    have hm : Nat.min sLen 0 = 0 := by simp [Nat.min_def]
    simp only [List.length_nil] at hl
    cases dp <;> simp [Builtin.copy_, run_underlying hu, Builtin.lenOf, Builtin.firstCells, sizeOf, typeInfo, hq, hi, hm, hl, storeCells]

/-- a row of the call's own, its cells turned -/
theorem own_setRow {w : World} {base : Nat} {e : TypeId} {size g n cap : Nat} {xs ys : List Value} {cur : Array Value} (hB : base ≤ g) (hg : w.heap[g]? = some (.cells cur e (0, 0))) (hn : n ≤ cap) (hm : cap ≤ maxLen) (hc : cur.size = cap * size)
    (L : List Value) (hL : L.length = cap * size) (ht : L.take (n * size) = ys) : (w.setRow g L.toArray).ownsRow base e size (.slice (some ⟨g, 0, none⟩) n cap) n ys := by
  refine ⟨?_, .inr ⟨g, cap, L.toArray, rfl, hB, setRow_heap w g cur _ _ _ hg, hn, hm, by simpa using hL, by simpa using ht⟩⟩
  rw [← ht, List.length_take, hL]
  exact Nat.min_eq_left (Nat.mul_le_mul_right _ hn)

theorem take_splice {α : Type} (L : List α) (o n : Nat) (cs : List α) (h : o + cs.length = n) (hn : n ≤ L.length) : (L.take o ++ (cs ++ L.drop (o + cs.length))).take n = L.take o ++ cs := by
  rw [← List.append_assoc, List.take_append_of_le_length (by simp; omega)]
  exact List.take_of_length_le (by simp; omega)

theorem step_copy_up {P : Program} {ops : Array Oper} {o : Oper} {a : Act} {w : World} {K : Act → World → Prop} {Q : Exit → Act → World → Prop} {E : Prop} (hgd : o.guard = none) (d s : Operand) (dT sT : TypeId)
    (ho : o.op = .call { callee := .builtin .copy, args := #[d, s], argTypes := #[dT, sT] }) (e : TypeId) (hu : P.underlying dT = some (.slice e)) (size : Nat) (hsz : (P.info? e).map (·.size) = some size) (hpos : 0 < size)
    (base g cap N : Nat) (xs : List Value) (hown : w.ownsRow base e size (.slice (some ⟨g, 0, none⟩) N cap) N xs) (h1 : ∀ v ∈ xs, v.oneCell' = true)
    (k : Nat) (hk : k + 1 ≤ N) (dp : Option Addr) (dc sc dl sl : Nat) (hd : a.eval d = .slice dp dl dc) (hdl : dl = N - (k + 1)) (hdp : k + 1 < N → dp = some ⟨g, (k + 1) * size, none⟩) (hs : a.eval s = .slice (some ⟨g, k * size, none⟩) sl sc) (hsl : sl = N - k)
    (hK : ∀ w', w'.ownsRow base e size (.slice (some ⟨g, 0, none⟩) N cap) N (xs.take ((k + 1) * size) ++ (xs.drop (k * size)).take ((N - (k + 1)) * size)) → w.grownBy w' (some g) → K (a.put o.dst (goInt (N - (k + 1) : Nat))) w') :
    if Region.wanted o (yielded ops a.tmps) = true then Oper.wp P o a w K Q else E := by
  have hw : Region.wanted o (yielded ops a.tmps) = true := by simp [Region.wanted, hgd]
  rw [if_pos hw]
  subst hdl
  subst hsl
  have hxl := hown.1
  have hcell := fun j (hj : j < N * size) => hown.cellAt j hj
  obtain ⟨_, hh⟩ := hown
  rcases hh with ⟨hx, _⟩ | ⟨g', cap', cur, hv, hB, hg, hn, hm, hc, ht⟩
  · cases hx
  · injection hv with e1 e2 e3
    injection e1 with e1
    injection e1 with e1
    subst e1; subst e3
    by_cases h0 : k + 1 = N
    · have hz : N - (k + 1) = 0 := by omega
      rw [hz] at hd
      have hrun := run_copy_zeroN P w dT sT o.type e size dc dp ⟨g, k * size, none⟩ (N - k) sc hu hsz
      unfold Oper.wp
      simp [execOp, ho, resolve, invoke, builtin, hd, hs, hrun, Result.andThen]
      have := hK w ⟨?_, .inr ⟨g, cap, cur, rfl, hB, hg, hn, hm, hc, ?_⟩⟩ (World.grownBy.refl w _)
      · rw [hz] at this; exact this
      · rw [hz, h0]; simp [List.length_take, hxl]
      · rw [hz, h0]; simp only [Nat.zero_mul, List.take_zero, List.append_nil]; rw [ht, List.take_of_length_le (by omega)]
    · have hlt : k + 1 < N := by omega
      obtain rfl := hdp hlt
      have hmin : Nat.min (N - k) (N - (k + 1)) = N - (k + 1) := by simp [Nat.min_def]; omega
      have hcs : ((xs.drop (k * size)).take ((N - (k + 1)) * size)).length = (N - (k + 1)) * size := by
        rw [List.length_take, List.length_drop, hxl, ← Nat.sub_mul]
        exact Nat.min_eq_left (Nat.mul_le_mul_right _ (by omega))
      have hsum : (k + 1) * size + (N - (k + 1)) * size = N * size := by rw [← Nat.add_mul]; congr 1; omega
      have hNs : N * size ≤ cur.size := by rw [hc]; exact Nat.mul_le_mul_right _ hn
      have hrun := run_copy_rowN P w dT sT o.type e size g ((k + 1) * size) (N - (k + 1)) dc ⟨g, k * size, none⟩ (N - k) sc cur e ((xs.drop (k * size)).take ((N - (k + 1)) * size)) hu hsz hg (by rw [hcs, hmin])
        (by
          intro j v hj
          have hj' : j < (N - (k + 1)) * size := by
            have := (List.getElem?_eq_some_iff.1 hj).1; rw [hcs] at this; exact this
          have e1 : (⟨g, k * size, none⟩ : Addr).add j = ⟨g, k * size + j, none⟩ := by unfold Addr.add; split <;> simp_all
          rw [e1, hcell (k * size + j) (by
            have : k * size + (N - (k + 1)) * size ≤ N * size := by rw [← Nat.add_mul]; exact Nat.mul_le_mul_right _ (by omega)
            omega)]
          rw [List.getElem?_take_of_lt hj', List.getElem?_drop] at hj
          exact hj)
        (by rw [hcs, hsum]; exact hNs) (fun v hv => h1 v (List.mem_of_mem_drop (List.mem_of_mem_take hv)))
      rw [hmin] at hrun
      generalize (xs.drop (k * size)).take ((N - (k + 1)) * size) = cs at *
      unfold Oper.wp
      simp [execOp, ho, resolve, invoke, builtin, hd, hs, hrun, Result.andThen]
      refine hK _ (own_setRow (xs := xs) hB hg hn hm hc _ ?_ ?_) ⟨rfl, rfl, rfl, by simp [World.setRow], fun i hi hne => setRow_other w g i _ (fun e => hne (by rw [e]))⟩
      · simp only [List.length_append, List.length_take, List.length_drop, Array.length_toList]
        omega
      · rw [take_splice cur.toList _ (N * size) _ (by rw [hcs]; exact hsum) (by simpa using hNs)]
        congr 1
        rw [← ht, List.take_take]
        congr 1
        rw [Nat.min_eq_left]
        exact Nat.mul_le_mul_right _ (by omega)

def setMany (xs : List Value) (o : Nat) : List Value → List Value
  | [] => xs
  | v :: r => setMany (xs.set o v) (o + 1) r
theorem setMany_eq (cs : List Value) : ∀ (xs : List Value) (o : Nat), o + cs.length ≤ xs.length → setMany xs o cs = xs.take o ++ cs ++ xs.drop (o + cs.length) := by
  induction cs with
  | nil => intro xs o h; simp [setMany]
  | cons v r ih =>
    intro xs o h
    rw [setMany, ih _ _ (by simp at h ⊢; omega)]
    have := list_seg_step xs o v r (by simpa using h)
    simpa using this
theorem own_setCells {base : Nat} {e : TypeId} {size g n cap : Nat} (cs : List Value) : ∀ {w : World} {xs : List Value} (o : Nat), w.ownsRow base e size (.slice (some ⟨g, 0, none⟩) n cap) n xs →
    (w.setCells g o cs).ownsRow base e size (.slice (some ⟨g, 0, none⟩) n cap) n (setMany xs o cs) := by
  induction cs with
  | nil => intro w xs o h; exact h
  | cons v r ih => intro w xs o h; exact ih (o + 1) (h.stored o v).1
theorem below_setCells {B g : Nat} (hB : B ≤ g) (cs : List Value) : ∀ {w0 w : World} (o : Nat), Below B w0 w → Below B w0 (w.setCells g o cs) := by
  induction cs with
  | nil => intro w0 w o h; exact h
  | cons v r ih => intro w0 w o h; exact ih (o + 1) (h.setCell hB v)
theorem grown_setCells {g : Nat} (cs : List Value) : ∀ {w0 w : World} (o : Nat), w0.grownBy w (some g) → w0.grownBy (w.setCells g o cs) (some g) := by
  induction cs with
  | nil => intro w0 w o h; exact h
  | cons v r ih => intro w0 w o h; exact ih (o + 1) ⟨h.os, h.tape, h.output, by simpa [World.setCell] using h.size, fun k hk hne => (Below.heap_setCell w ⟨g, o, none⟩ v k (fun e => hne (by rw [e]))).trans (h.block k hk hne)⟩
theorem own_there {w : World} {base : Nat} {e : TypeId} {size g n cap : Nat} {xs : List Value} (h : w.ownsRow base e size (.slice (some ⟨g, 0, none⟩) n cap) n xs) (o m : Nat) (hm : o + m ≤ n * size) : w.there g o m := by
  intro j hj
  refine ⟨?_, h.frozenAt _⟩
  rw [h.cellAt (o + j) (by omega), List.getElem?_eq_getElem (by rw [h.1]; omega)]; rfl

/-- a store of a whole element into a row of the call's own -/
theorem wpList_store_elem {P : Program} {ops : Array Oper} {rest : List Oper} {op : Oper} {a : Act} {w : World} {Q : Exit → Act → World → Prop} (hgd : op.guard = none) (ty : TypeId) (x y : Operand) (ho : op.op = .store ty x y)
    (size : Nat) (hi : (P.info? ty).map (·.size) = some size) (base : Nat) (g n cap : Nat) (xs : List Value) (hown : w.ownsRow base ty size (.slice (some ⟨g, 0, none⟩) n cap) n xs)
    (k o : Nat) (hk : k < n) (hko : o = k * size) (cells : Array Value) (hx : a.eval x = .pointer (some ⟨g, o, none⟩)) (hy : a.eval y = .agg cells) (hc : cells.size = size) (h1 : ∀ v ∈ cells.toList, v.oneCell' = true)
    (h : ∀ w', w'.ownsRow base ty size (.slice (some ⟨g, 0, none⟩) n cap) n (xs.take (k * size) ++ cells.toList ++ xs.drop (k * size + size)) → w.grownBy w' (some g) → wpList P ops Q rest (a.put op.dst undef) w') : wpList P ops Q (op :: rest) a w := by
  subst hko
  have hlt : k * size + size ≤ n * size := by rw [← Nat.succ_mul]; exact Nat.mul_le_mul_right _ hk
  have hB : base ≤ g := by
    rcases hown.2 with ⟨hx, _⟩ | ⟨g', cap', cur, hv, hB, _⟩
    · cases hx
    · injection hv with e1; injection e1 with e1; injection e1 with e1; subst e1; exact hB
  refine wpList_store_mid hgd ty x y ho g (k * size) cells hx hy (by rw [hc]; exact own_there hown _ _ hlt) (by rw [hc]; exact hi) (Array.all_eq_true_iff_forall_mem.2 fun v hv => h1 v (by simpa using hv)) ?_
  refine h _ ?_ (grown_setCells _ _ (World.grownBy.refl w _))
  have := own_setCells cells.toList (k * size) hown
  rw [setMany_eq _ _ _ (by rw [hown.1]; simpa [hc] using hlt)] at this
  simpa [hc] using this
end Go.Proofs.Ytjlncnjmcgkkhaa

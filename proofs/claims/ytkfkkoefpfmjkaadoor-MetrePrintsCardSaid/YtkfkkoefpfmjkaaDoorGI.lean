/- A region that draws its order: a condition held behind every operation but those that wait for all loads; and an invariant, each operation stepped once. No program in sight. -/
import Derived.OrdersHeld
import Derived.Deep.RegionHeld
import Derived.Laws.MakeOwn
import Derived.WalkKit
namespace Go.Proofs.YtkfkkoefpfmjkaaDoor
set_option linter.unusedVariables false
set_option linter.unusedSimpArgs false
open Go

def openN : List Bool → Nat
  | [] => 0
  | b :: l => (if b then 0 else 1) + openN l
theorem openN_set : ∀ (l : List Bool) (i : Nat), l[i]? = some false → openN (l.set i true) + 1 = openN l
  | [], i, h => by simp at h
  | b :: l, 0, h => by
    simp at h; subst h
    simp [openN]; omega
  | b :: l, i + 1, h => by
    simp at h
    have := openN_set l i h
    simp [openN]; omega
theorem openN_none : ∀ (l : List Bool), openN l = 0 → ∀ i : Nat, l[i]? ≠ some false
  | [], _, i => by simp
  | b :: l, h, 0 => by
    simp [openN] at h
    intro e; simp at e; rw [e] at h; simp at h
  | b :: l, h, i + 1 => by
    simp only [openN] at h
    simpa using openN_none l (by omega) i
section
variable {P : Program} {ops : Array Oper} {Q : Exit → Act → World → Prop} {md : Region.Mode} {S : World → Prop} {X : Nat → Bool}
theorem ready_open {listed : Array Bool} {i : Nat} (h : i ∈ Region.ready md ops listed) : listed.toList[i]? = some false := by
  have h1 := (mem_ready.1 h).1
  rw [Array.getElem?_toList]
  cases hq : listed[i]? with
  | none => simp [Array.getD_eq_getD_getElem?, hq] at h1
  | some b => simp [Array.getD_eq_getD_getElem?, hq] at h1; rw [h1]

/-- Whatever order is picked from here on; S holds behind every operation that is carried out, but those of X. -/
def wpAnyX (P : Program) (md : Region.Mode) (ops : Array Oper) (Q : Exit → Act → World → Prop) (S : World → Prop) (X : Nat → Bool) : Nat → Array Bool → Act → World → Prop
  | 0, listed, a, w => Region.ready md ops listed = [] ∧ Q .normal a w
  | fuel + 1, listed, a, w =>
    (Region.ready md ops listed = [] → Q .normal a w) ∧
    ∀ i ∈ Region.ready md ops listed, wpOp P ops Q i (fun a' w' => (X i = true ∨ S w') ∧ wpAnyX P md ops Q S X fuel (listed.setIfInBounds i true) a' w') a w
theorem wpAny_of_X : ∀ (fuel : Nat) (listed : Array Bool) (a : Act) (w : World), wpAnyX P md ops Q S X fuel listed a w → wpAny P md ops Q fuel listed a w
  | 0, _, _, _, h => h
  | fuel + 1, _, _, _, h => ⟨h.1, fun i hi => wpOp_mono (fun a' w' h' => wpAny_of_X fuel _ a' w' h'.2) (h.2 i hi)⟩
/-- the operations of X wait for number i -/
def WaitFor (md : Region.Mode) (ops : Array Oper) (X : Nat → Bool) (i : Nat) : Prop := ∀ x o, X x = true → ops[x]? = some o → ∃ e ∈ o.after, Region.binds md e = true ∧ e.on = i
theorem wpAnyX_first {i : Nat} {oi : Oper} {v : Value} (hi : ops[i]? = some oi) (hsel : ∀ (j : Nat) (o : Oper) cs b, ops[j]? = some o → o.op ≠ .select cs b)
    (hQ : ∀ c a w, Q (.panic c) (a.put oi.dst v) w → Q (.panic c) a w) (hX : WaitFor md ops X i) (hXi : X i = false) :
    ∀ (fuel : Nat) (listed : Array Bool) (a : Act) (w : World),
      (∀ j oj, ops[j]? = some oj → j ≠ i → listed.getD j true = false → (∀ e ∈ oj.after, Region.binds md e = true → e.on ≠ i) → oi.apart ops oj = true) →
      i ∈ Region.ready md ops listed → YieldsIf P ops S oi v a → S w →
      wpAnyX P md ops Q S X fuel (listed.setIfInBounds i true) (a.put oi.dst v) w → wpAnyX P md ops Q S X (fuel + 1) listed a w := by
  intro fuel
  induction fuel with
  | zero =>
    intro listed a w _ hr hy hS H
    refine ⟨fun h => (by rw [h] at hr; cases hr), fun j hj => ?_⟩
    by_cases hji : j = i
    · subst hji; exact hy.wpOp hi hS ⟨.inr hS, H⟩
    · have := ready_mono hj hji
      rw [H.1] at this
      cases this
  | succ fuel ih =>
    intro listed a w hfree hr hy hS H
    refine ⟨fun h => (by rw [h] at hr; cases hr), fun j hj => ?_⟩
    by_cases hji : j = i
    · subst hji; exact hy.wpOp hi hS ⟨.inr hS, H⟩
    · have h1 := H.2 j (ready_mono hj hji)
      obtain ⟨hjun, oj, hoj, hall⟩ := mem_ready.1 hj
      have hnot : ∀ e ∈ oj.after, Region.binds md e = true → e.on ≠ i := fun e he hb heq => by
        have h1 := hall e he hb
        have h0 := (mem_ready.1 hr).1
        rw [heq] at h1
        rcases Nat.lt_or_ge i listed.size with h' | h'
        · simp [h'] at h0 h1; rw [h0] at h1; cases h1
        · simp [Array.getElem?_eq_none h'] at h1
      have hXj : ¬ X j = true := fun hx => by
        obtain ⟨e, he, hb, ho⟩ := hX j oj hx hoj
        exact hnot e he hb ho
      have h2 := wpOp_putIf hoj (hfree j oj hoj hji hjun hnot) (fun cs b => hsel i oi cs b hi) (fun cs b => hsel j oj cs b hoj) hQ hy h1
      have hfree' : ∀ k ok, ops[k]? = some ok → k ≠ i → (listed.setIfInBounds j true).getD k true = false →
          (∀ e ∈ ok.after, Region.binds md e = true → e.on ≠ i) → oi.apart ops ok = true := fun k ok hk hki hun hno => by
        refine hfree k ok hk hki ?_ hno
        by_cases hjk : j = k
        · subst hjk; exact hjun
        · rw [getD_set_ne true hjk] at hun; exact hun
      refine wpOp_mono (fun a' w' h3 => ?_) h2
      have hSw : S w' := h3.2.1.resolve_left hXj
      refine ⟨.inr hSw, ih (listed.setIfInBounds j true) a' w' hfree' (ready_mono hr (Ne.symm hji)) h3.1 hSw ?_⟩
      rw [Array.setIfInBounds_comm _ _ hji]
      exact h3.2.2
/-- X's operations wait for number i, as a reckoning -/
def waitB (md : Region.Mode) (ops : Array Oper) (xs : List Nat) (i : Nat) : Bool := xs.all fun x => match ops[x]? with | some o => o.after.any fun e => Region.binds md e && e.on == i | none => true
theorem waitB_spec {xs : List Nat} {i : Nat} (h : waitB md ops xs i = true) : WaitFor md ops (fun x => xs.contains x) i := fun x o hx ho => by
  have h1 := List.all_eq_true.1 h x (by simpa using hx)
  rw [ho] at h1
  obtain ⟨k, hk, h2⟩ := Array.any_eq_true.1 h1
  simp only [Bool.and_eq_true, beq_iff_eq] at h2
  exact ⟨_, Array.getElem_mem hk, h2.1, h2.2⟩
variable {xs : List Nat}
theorem wpAnyX_take {i : Nat} {oi : Oper} {v : Value} {fuel : Nat} {listed : Array Bool} {a : Act} {w : World} (hi : ops[i]? = some oi)
    (hs : Region.noSelect ops = true) (hf : Region.free md ops listed i = true) (hr : (Region.ready md ops listed).contains i = true) (hx : (waitB md ops xs i && !xs.contains i) = true)
    (hQ : ∀ c a w, Q (.panic c) (a.put oi.dst v) w → Q (.panic c) a w) (hy : YieldsIf P ops S oi v a) (hS : S w)
    (h : wpAnyX P md ops Q S (fun x => xs.contains x) fuel (listed.setIfInBounds i true) (a.put oi.dst v) w) : wpAnyX P md ops Q S (fun x => xs.contains x) (fuel + 1) listed a w :=
  wpAnyX_first hi (Region.noSelect_spec hs) hQ (waitB_spec (Bool.and_eq_true_iff.1 hx).1) (by simpa using (Bool.and_eq_true_iff.1 hx).2) fuel listed a w (Region.free_spec hi hf) (by simpa using hr) hy hS h
theorem wpAnyX_one {i : Nat} {fuel : Nat} {listed : Array Bool} {a : Act} {w : World} (hr : Region.ready md ops listed = [i])
    (h : wpOp P ops Q i (fun a' w' => (X i = true ∨ S w') ∧ wpAnyX P md ops Q S X fuel (listed.setIfInBounds i true) a' w') a w) : wpAnyX P md ops Q S X (fuel + 1) listed a w :=
  ⟨(fun h0 => absurd (hr ▸ h0) (by simp)), fun j hj => by
    rw [hr] at hj
    obtain rfl : j = i := by simpa using hj
    exact h⟩
theorem wpAnyX_done {listed : Array Bool} {a : Act} {w : World} (hr : Region.ready md ops listed = []) (h : Q .normal a w) : ∀ fuel, wpAnyX P md ops Q S X fuel listed a w
  | 0 => ⟨hr, h⟩
  | _ + 1 => ⟨fun _ => h, by rw [hr]; simp⟩
theorem wp_region_X {id : Nat} {a : Act} {w : World} (hm : P.follows .mixedOrders = true)
    (h : wpAnyX P .any ops Q S X ops.size (Array.replicate ops.size false) a w.drew) : (Code.region id ops true).wp P Q a w :=
  wp_region_any hm (wpAny_of_X _ _ _ _ h)
/-- THE LAW: what holds of every state that the region may come to -/
theorem wpAnyX_inv (I : Array Bool → Act → World → Prop)
    (hend : ∀ listed a w, I listed a w → Region.ready md ops listed = [] → Q .normal a w)
    (hstep : ∀ listed a w i, I listed a w → i ∈ Region.ready md ops listed → wpOp P ops Q i (fun a' w' => (X i = true ∨ S w') ∧ I (listed.setIfInBounds i true) a' w') a w) :
    ∀ (fuel : Nat) (listed : Array Bool) (a : Act) (w : World), openN listed.toList ≤ fuel → I listed a w → wpAnyX P md ops Q S X fuel listed a w
  | 0, listed, a, w, hf, hI => by
    have hr : Region.ready md ops listed = [] := List.eq_nil_iff_forall_not_mem.2 fun i hi => openN_none _ (by omega) i (ready_open hi)
    exact ⟨hr, hend _ _ _ hI hr⟩
  | fuel + 1, listed, a, w, hf, hI => by
    refine ⟨fun hr => hend _ _ _ hI hr, fun i hi => wpOp_mono (fun a' w' h => ⟨h.1, wpAnyX_inv I hend hstep fuel _ a' w' ?_ h.2⟩) (hstep _ _ _ i hI hi)⟩
    have := openN_set _ _ (ready_open hi)
    rw [Array.toList_setIfInBounds]
    omega
theorem wpOp_of {i : Nat} {o : Oper} {a : Act} {w : World} {K : Act → World → Prop} (hi : ops[i]? = some o) (hg : o.guard = none) (h : o.wp P a w K Q) : wpOp P ops Q i K a w := by
  unfold wpOp
  rw [hi]
  have hw : Region.wanted o (yielded ops a.tmps) = true := by simp [Region.wanted, hg]
  simp only [hw, if_true]
  exact .inl h
theorem not_ready {listed : Array Bool} {i : Nat} {o : Oper} (hr : Region.ready md ops listed = []) (ho : ops[i]? = some o) (hall : (o.after.all fun e => !Region.binds md e || listed.getD e.on false) = true) : listed.getD i true = true := by
  cases hq : listed.getD i true with
  | true => rfl
  | false =>
    have hm : i ∈ Region.ready md ops listed := mem_ready.2 ⟨hq, o, ho, fun e he hb => by
      have h1 := Array.all_eq_true'.1 hall e he
      rw [hb] at h1
      simpa using h1⟩
    rw [hr] at hm; cases hm
theorem ready_dep {listed : Array Bool} {i : Nat} {o : Oper} (h : i ∈ Region.ready md ops listed) (ho : ops[i]? = some o) (k : Nat) (hk : (o.after.any fun e => Region.binds md e && e.on == k) = true) : listed.getD k false = true := by
  obtain ⟨_, o', ho', hall⟩ := mem_ready.1 h
  obtain rfl : o = o' := Option.some.inj (ho.symm.trans ho')
  obtain ⟨j, hj, h2⟩ := Array.any_eq_true.1 hk
  simp only [Bool.and_eq_true, beq_iff_eq] at h2
  have := hall _ (Array.getElem_mem hj) h2.1
  rw [h2.2] at this
  exact this
theorem below24 (i : Nat) (h : i < 24) : i = 0 ∨ i = 1 ∨ i = 2 ∨ i = 3 ∨ i = 4 ∨ i = 5 ∨ i = 6 ∨ i = 7 ∨ i = 8 ∨ i = 9 ∨ i = 10 ∨ i = 11 ∨ i = 12 ∨ i = 13 ∨ i = 14 ∨ i = 15 ∨ i = 16 ∨ i = 17 ∨ i = 18 ∨ i = 19 ∨ i = 20 ∨ i = 21 ∨ i = 22 ∨ i = 23 := by omega
/-- make([]T, 0, n) -/
theorem opMake {o : Oper} {a : Act} {w : World} {K : Act → World → Prop} (base : Nat) (t e : TypeId) (i : TypeInfo) (z : Value) (size : Nat) (x : Operand) (c : Nat)
    (ho : o.op = .makeSlice t (.const (.int .i64 0)) x) (hx : a.eval x = .int .i64 (c : Int)) (ht : P.underlying t = some (.slice e)) (hi : P.info? e = some i) (hz : i.zero = some z) (hsize : i.size = size)
    (hbytes : i.bytes * c ≤ 281474976710656) (h63 : c ≤ maxLen) (hbase : base ≤ w.heap.size)
    (h : ∀ w', w'.ownsRow base e size (.slice (some ⟨w.heap.size, 0, none⟩) 0 c) 0 [] → w.grownBy w' none → K (a.put o.dst (.slice (some ⟨w.heap.size, 0, none⟩) 0 c)) w') : o.wp P a w K Q := by
  obtain ⟨w', hr, h1, h2⟩ := run_make_own (P := P) w base t e i z size ht hi hz hsize .i64 .i64 c hbytes h63 hbase
  unfold Oper.wp
  have hev : a.eval (.const (.int .i64 0)) = .int .i64 0 := rfl
  simp only [execOp, ho, hx, hev, hr, Sem.run_bind, Sem.run_pure, Result.andThen_ok, Oper.upon]
  exact h w' h1 h2
end
end Go.Proofs.YtkfkkoefpfmjkaaDoor

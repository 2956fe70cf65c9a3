import Derived.Test.YtkfkkoefpfmjkaaDoorVA
import Derived.Test.YtkfkkoefpfmjkaaDoorMG
import Derived.Laws.AppendOwnNone
namespace Go.Proofs.YtkfkkoefpfmjkaaDoor
set_option linter.unusedVariables false
set_option linter.unusedSimpArgs false
open Go.RowKit

/- options: the ways of a foot, its own signs first. -/
theorem wayCells_len (l : List Way) : (wayCells l).length = l.length * 2 := by
  induction l with
  | nil => rfl
  | cons x l ih => simp [wayCells] at ih ⊢; omega
theorem wayCells_one (l : List Way) : ∀ u ∈ wayCells l, u.oneCell' = true := by
  intro u hu
  simp only [wayCells, List.mem_flatMap] at hu
  obtain ⟨v, _, hu⟩ := hu
  simp at hu
  rcases hu with rfl | rfl <;> rfl
theorem addr_add (b o j : Nat) : (⟨b, o, none⟩ : Addr).add j = ⟨b, o + j, none⟩ := by
  unfold Addr.add; by_cases hj : j = 0
  · simp [hj]
  · simp [hj]
theorem ways_cells {w : World} {B b off : Nat} {l : List Way} (h : ∀ k, k < l.length → w.cell? ⟨b, off + k * 2, none⟩ = some (.string (l.getD k default).1) ∧ w.cell? ⟨b, off + k * 2 + 1, none⟩ = some (.int .i64 (l.getD k default).2)) :
    ∀ j u, (wayCells l)[j]? = some u → w.cell? ((⟨b, off, none⟩ : Addr).add j) = some u := by
  intro j u hu
  rw [addr_add]
  have hj : j < (wayCells l).length := (List.getElem?_eq_some_iff.1 hu).1
  rw [wayCells_len] at hj
  have hk : j / 2 < l.length := by omega
  have hg := wayCells_get l (j / 2) hk
  have hc := h (j / 2) hk
  rcases Nat.mod_two_eq_zero_or_one j with e | e
  · have ej : j / 2 * 2 = j := by omega
    rw [ej] at hg hc
    rw [hg.1] at hu
    rw [hc.1]; exact hu
  · have ej : j / 2 * 2 + 1 = j := by omega
    have ej2 : off + j / 2 * 2 + 1 = off + j := by omega
    rw [ej] at hg
    rw [ej2] at hc
    rw [hg.2] at hu
    rw [hc.2]; exact hu
/-- append of nothing: the slice as it is -/
theorem run_append_nothing {P : Program} {w : World} (base : Nat) (t ty e : TypeId) (i : TypeInfo) (size : Nat) (ht : P.underlying t = some (.slice e)) (hi : P.info? e = some i)
    (v : Value) (n : Nat) (xs : List Value) (hown : w.ownsRow base e size v n xs) (c : Nat) : (Builtin.append_ #[t, t] ty #[v, .slice none 0 c]).run P w = .ok v w := by
  rcases hown.2 with ⟨rfl, h0⟩ | ⟨g, cap, cur, rfl, hb, hg, hcap, _⟩
  · simp [Builtin.append_, run_underlying ht, sizeOf, typeInfo, hi, Builtin.lenOf, Builtin.firstCells]
  · simp [Builtin.append_, run_underlying ht, sizeOf, typeInfo, hi, Builtin.lenOf, Builtin.firstCells, hcap, storeCells]
/-- append of ways that lie wherever, none too -/
theorem wpList_append_ways {w : World} {ops : Array Oper} {rest : List Oper} {o : Oper} {a : Act} {Q : Exit → Act → World → Prop} (hgd : o.guard = none) (s x : Operand)
    (ho : o.op = .call { callee := .builtin .append, args := #[s, x], argTypes := #[24, 24] })
    (base B : Nat) (v : Value) (n : Nat) (xs : List Value) (hs : a.eval s = v) (hown : w.ownsRow base 100 2 v n xs)
    (A : Option Addr) (c : Nat) (l : List Way) (hx : a.eval x = .slice A l.length c) (hl : IsWays w B A l)
    (h63 : n + l.length ≤ 1000) (hbase : base ≤ w.heap.size)
    (h : ∀ v' w', w'.ownsRow base 100 2 v' (n + l.length) (xs ++ wayCells l) → w.grownBy w' v.ownBlock → wpList Tryd.prog ops Q rest (a.put o.dst v') w') :
    wpList Tryd.prog ops Q (o :: rest) a w := by
  have hm : n + l.length ≤ maxLen := by unfold maxLen; omega
  have hby : (n + l.length) * 24 ≤ 140737488355328 := by omega
  cases A with
  | some ad =>
    refine wpList_append_own_at w hgd s x 24 ho base 100 _ _ 2 24 Tryd.underlying24 info100 zero100 size100 bytes100 rfl (by decide) v n xs hs hown ad l.length c (wayCells l) hx (wayCells_len l) ?_ (wayCells_one l) hm hby hbase fun v' w' h2 h3 _ _ => h v' w' h2 h3
    by_cases h0 : l.length = 0
    · have : l = [] := List.eq_nil_of_length_eq_zero h0
      subst this
      intro j u hu; simp [wayCells] at hu
    · obtain ⟨b, off, e, hbb, hn⟩ := hl (by omega)
      cases e
      exact ways_cells (B := B) hn
  | none =>
    have h0 : l.length = 0 := by
      cases hq : l.length with
      | zero => rfl
      | succ q => obtain ⟨b, off, e, _⟩ := hl (by omega); cases e
    have hl0 : l = [] := List.eq_nil_of_length_eq_zero h0
    subst hl0
    refine wpList_plain hgd fun K hK => ?_
    have hrun := run_append_nothing (P := Tryd.prog) (w := w) base 24 o.type 100 _ 2 Tryd.underlying24 info100 v n xs hown c
    simp only [List.length_nil] at hx
    unfold Oper.wp
    simp only [execOp, ho, resolve, invoke, builtin, Sem.run_bind, Sem.run_pure, Result.andThen_ok, List.map_toArray, List.map_cons, List.map_nil, hs, hx, hrun]
    exact hK _ _ (h v w (by simpa [wayCells] using hown) (World.grownBy.refl w _))
theorem ownsRow_block {w : World} {base g : Nat} {e : TypeId} {size : Nat} {nw : Array Value} (hg : w.heap[g]? = some (.cells nw e (0, 0))) (hb : base ≤ g) (hs : nw.size = size) : w.ownsRow base e size (.slice (some ⟨g, 0, none⟩) 1 1) 1 nw.toList :=
  ⟨by simp [hs], .inr ⟨g, 1, nw, rfl, hb, hg, Nat.le_refl _, by unfold maxLen; omega, by simp [hs], by rw [← hs]; exact List.take_of_length_le (by simp)⟩⟩

set_option maxRecDepth 100000 in
set_option maxHeartbeats 4000000 in
theorem opt1_any (own : ByteArray) (A : Option Addr) (c : Nat) (l : List Way) (w : World) (hl : IsWays w w.heap.size A l) (hb : l.length ≤ 100) :
    Calls Tryd.prog 101 #[.string own, .slice A l.length c] w fun e w' => ∃ v, e = .returned v ∧ w'.ownsRow w.heap.size 100 2 v (l.length + 1) (wayCells ((own, 0) :: l)) ∧ Below w.heap.size w w' := by
  go_enter Tryd.func101, Tryd.ntmps101
  have hb1 : Below w.heap.size w (w.alloc (.cells #[.string own, .int .i64 0] 100)) := (Below.refl _ w).alloc (Nat.le_refl _) _
  have hl1 := hl.below hb1
  have hown : (w.alloc (.cells #[.string own, .int .i64 0] 100)).ownsRow w.heap.size 100 2 (.slice (some ⟨w.heap.size, 0, none⟩) 1 1) 1 (#[.string own, .int .i64 0] : Array Value).toList := ownsRow_block (World.alloc_heap_new w _) (Nat.le_refl _) rfl
  have Hl1 := Lib.hid hl1
  have Hown := Lib.hid hown
  have Hb1 := Lib.hid hb1
  clear hb1 hl1 hown
  go_wp2_with (at_builtin; refine wpList_append_ways rfl _ _ rfl w.heap.size w.heap.size (.slice (some ⟨w.heap.size, 0, none⟩) 1 1) 1 _ rfl Hown.out A c l rfl Hl1.out (by omega) (by simp) ?_; intro v1 w1 hown1 hgr1; rw [Nat.add_comm 1] at hown1)
  have hbe : Below w.heap.size w w1 := Hb1.out.grown hgr1 (by simp) (fun k e => by cases e; exact Nat.le_refl _)
  obtain ⟨g1, cap1, rfl⟩ := own_form hown1 (by omega)
  go_wp2_with fail
  go_ret
  exact ⟨_, rfl, hown1, hbe⟩
end Go.Proofs.YtkfkkoefpfmjkaaDoor
namespace Go.Proofs.YtkfkkoefpfmjkaaDoor
set_option linter.unusedVariables false
set_option linter.unusedSimpArgs false
open Go.RowKit

/- options. -/
theorem info24 : Tryd.prog.info? 24 = some Tryd.t24 := by kernel_rfl
theorem zero24 : Tryd.t24.zero = some (.slice none 0 0) := by kernel_rfl
theorem size24 : Tryd.t24.size = 1 := by kernel_rfl
theorem bytes24 : Tryd.t24.bytes = 24 := by kernel_rfl
/-- rows of ways in memory -/
def IsRows (w : World) (B : Nat) (A : Option Addr) (rows : List (List Way)) : Prop :=
  0 < rows.length → ∃ b off, A = some ⟨b, off, none⟩ ∧ b < B ∧ ∀ k, k < rows.length → ∃ A' c', w.cell? ⟨b, off + k, none⟩ = some (.slice A' (rows.getD k []).length c') ∧ (rows.getD k []).length ≤ c' ∧ IsWays w B A' (rows.getD k [])
theorem IsRows.keep {w w' : World} {B : Nat} {A : Option Addr} {l : List (List Way)} (h : IsRows w B A l) (hk : ∀ p : Addr, p.block < B → w'.cell? p = w.cell? p) : IsRows w' B A l := fun hl => by
  obtain ⟨b, off, e, hb, hn⟩ := h hl
  refine ⟨b, off, e, hb, fun k hk' => ?_⟩
  obtain ⟨A', c', h1, h2, h3⟩ := hn k hk'
  exact ⟨A', c', (hk ⟨b, _, none⟩ hb).trans h1, h2, h3.keep hk⟩
theorem IsRows.below {w w' : World} {B : Nat} {A : Option Addr} {l : List (List Way)} (h : IsRows w B A l) (hb : Below B w w') : IsRows w' B A l := h.keep fun p hp => hb.cell hp
theorem IsRows.more {w : World} {B B' : Nat} {A : Option Addr} {l : List (List Way)} (h : IsRows w B A l) (hB : B ≤ B') : IsRows w B' A l := fun hl => by
  obtain ⟨b, off, e, hb, hn⟩ := h hl
  refine ⟨b, off, e, by omega, fun k hk => ?_⟩
  obtain ⟨A', c', h1, h2, h3⟩ := hn k hk
  exact ⟨A', c', h1, h2, h3.more hB⟩
/-- rows of ways of one's own -/
structure OR (w : World) (base : Nat) (v : Value) (vs : List Value) (rows : List (List Way)) : Prop where
  vl : vs.length = rows.length
  out : w.ownsRow base 24 1 v rows.length vs
  rows : ∀ k, k < rows.length → w.ownsRow base 100 2 (vs.getD k nilV) (rows.getD k []).length (wayCells (rows.getD k []))
theorem OR.below {w w' : World} {base : Nat} {v : Value} {vs : List Value} {rows : List (List Way)} (h : OR w base v vs rows) (hb : Below w.heap.size w w') : OR w' base v vs rows :=
  ⟨h.vl, h.out.kept (only_of_below hb none) some_ne, fun k hk => (h.rows k hk).kept (only_of_below hb none) some_ne⟩
theorem OR.snoc {w w1 : World} {base : Nat} {v v' x : Value} {vs : List Value} {rows : List (List Way)} {l : List Way} (h : OR w base v vs rows) (hx : w.ownsRow base 100 2 x l.length (wayCells l))
    (ho : w1.ownsRow base 24 1 v' (rows.length + 1) (vs ++ [x])) (hg : w.grownBy w1 v.ownBlock) : OR w1 base v' (vs ++ [x]) (rows ++ [l]) := by
  refine ⟨by simp [h.vl], by simpa using ho, fun k hk => ?_⟩
  simp only [List.length_append, List.length_cons, List.length_nil] at hk
  have hvl := h.vl
  by_cases e : k < rows.length
  · rw [getD_snoc _ _ _ _ (by omega), getD_snoc _ _ _ _ e]
    exact (h.rows k e).kept hg (own_ne (h.rows k e) h.out (by decide))
  · obtain rfl : k = rows.length := by omega
    rw [getD_last, ← hvl, getD_last]
    exact hx.kept hg (own_ne hx h.out (by decide))
theorem own_wayss {w : World} {base : Nat} {v : Value} {l : List Way} (h : w.ownsRow base 100 2 v l.length (wayCells l)) : ∃ A c, v = .slice A l.length c ∧ l.length ≤ c ∧ IsWays w w.heap.size A l := own_ways h
theorem OR.isRows {w : World} {base : Nat} {v : Value} {vs : List Value} {rows : List (List Way)} (h : OR w base v vs rows) : ∃ A c, v = .slice A rows.length c ∧ rows.length ≤ c ∧ IsRows w w.heap.size A rows := by
  rcases h.out.2 with ⟨rfl, h0⟩ | ⟨g, cap, cur, rfl, _, hg, hcap, _⟩
  · exact ⟨none, 0, by rw [h0], by omega, fun hl => by omega⟩
  · refine ⟨_, cap, rfl, hcap, fun hl => ⟨g, 0, rfl, (Array.getElem?_eq_some_iff.1 hg).1, fun k hk => ?_⟩⟩
    obtain ⟨A, c, hv, hc, hw⟩ := own_ways (h.rows k hk)
    refine ⟨A, c, ?_, hc, hw⟩
    rw [Nat.zero_add, h.out.cellAt k (by omega), ← hv]
    have hvl := h.vl
    rw [List.getD_eq_getElem?_getD, List.getElem?_eq_getElem (by omega)]; rfl
theorem OR.base_le {w : World} {base base' : Nat} {v : Value} {vs : List Value} {rows : List (List Way)} (h : OR w base v vs rows) (hb : base' ≤ base) : OR w base' v vs rows :=
  ⟨h.vl, ⟨h.out.1, h.out.2.imp id fun ⟨g, cp, cur, a1, a2, a3⟩ => ⟨g, cp, cur, a1, by omega, a3⟩⟩, fun k hk => ⟨(h.rows k hk).1, (h.rows k hk).2.imp id fun ⟨g, cp, cur, a1, a2, a3⟩ => ⟨g, cp, cur, a1, by omega, a3⟩⟩⟩
/-- the ways of a foot -/
def footRow (f : Ft) : List Way := (f.own, 0) :: f.ways
theorem optsP_def (m : Met) : optsP m = m.feet.map footRow ++ [(⟨#[]⟩, 0) :: m.ends] := rfl
/-- a metre's sizes, where it may be -/
structure Small (m : Met) : Prop where
  feet : m.feet.length ≤ 16
  pos : 0 < m.feet.length
  ways : ∀ f ∈ m.feet, f.ways.length ≤ 15
  ends : m.ends.length ≤ 4
theorem small_of {m : Met} (h : mayB m = true) : Small m := by
  unfold mayB at h
  simp only [Bool.and_eq_true, decide_eq_true_eq] at h
  obtain ⟨⟨⟨⟨h1, h2⟩, h3⟩, h4⟩, h5⟩ := h
  unfold waysB at h3
  simp only [Bool.and_eq_true, decide_eq_true_eq] at h3
  refine ⟨h2, h1, fun f hf => ?_, by omega⟩
  have := List.all_eq_true.1 h4 f hf
  unfold footMay waysB at this
  simp only [Bool.and_eq_true, decide_eq_true_eq] at this
  omega
theorem map_take_succ (l : List Ft) (k : Nat) (h : k < l.length) : (l.take (k + 1)).map footRow = (l.take k).map footRow ++ [footRow (l.getD k default)] := by
  rw [take_snoc' l k h, List.map_append]; rfl

def OptsOk (m : Met) (w : World) (e : Ending) (w' : World) : Prop := ∃ v vs, e = .returned v ∧ OR w' w.heap.size v vs (optsP m) ∧ Below w.heap.size w w'
set_option maxRecDepth 100000 in
set_option maxHeartbeats 8000000 in
theorem options_any (Af Ae Ab : Option Addr) (cf ce cb : Nat) (m : Met) (w : World) (h : IsMet w w.heap.size Af Ae Ab cf ce cb m) (hm : Small m) :
    Calls Tryd.prog 60 #[.agg #[.slice Af m.feet.length cf, .slice Ae m.ends.length ce, .slice Ab m.brks.length cb]] w (OptsOk m w) := by
  have hfl := hm.feet
  have hel := hm.ends
  have HM := Lib.hid hm
  generalize hW1 : w.alloc (.cells #[.slice Af m.feet.length cf, .slice Ae m.ends.length ce, .slice Ab m.brks.length cb] 27) = W1
  have sW1 : W1.heap.size = w.heap.size + 1 := by rw [← hW1]; simp
  have hB1 : Below w.heap.size w W1 := by rw [← hW1]; exact (Below.refl _ _).alloc (Nat.le_refl _) _
  have m1 : W1.cell? ⟨w.heap.size, 1, none⟩ = some (.slice Ae m.ends.length ce) := by rw [← hW1]; simp
  have m0 : W1.cell? ⟨w.heap.size, 0, none⟩ = some (.slice Af m.feet.length cf) := by rw [← hW1]; simp
  have H := Lib.hid (h.on hB1)
  have HW1 := Lib.hid hW1
  have Hkeep := Lib.hid fun (W2 : World) (hb2 : Below W1.heap.size W1 W2) => (hb2.cell (p := ⟨w.heap.size, 1, none⟩) (by show w.heap.size < W1.heap.size; omega)).trans m1
  have HB1 := Lib.hid hB1
  clear h hm hW1 hB1 m1
  go_enter Tryd.func60, Tryd.ntmps60
  go_wp2_with fail
  rw [HW1.out]
  go_loopw [4, 10] (fun v i wr => ∃ (k : Nat) (A : Option Addr) (c : Nat) (vs : List Value), k ≤ m.feet.length ∧ i = .int .i64 k ∧ v = .slice A k c ∧ Hid (OR wr W1.heap.size (.slice A k c) vs ((m.feet.take k).map footRow)) ∧ Hid (Below W1.heap.size W1 wr)) (fun _ i _ => m.feet.length - (intOf i).toNat)
  case atStart => exact ⟨0, none, 0, [], by omega, rfl, rfl, Lib.hid ⟨rfl, World.ownsRow_nil _ _ _ _, fun k hk => absurd hk (Nat.not_lt_zero _)⟩, Lib.hid (Below.refl _ _)⟩
  case round =>
    rename_i wr
    obtain ⟨k, A, c, vs, hk, rfl, rfl, hor, hbl⟩ := hrel
    clear m0
    by_cases hlt : k < m.feet.length
    · obtain ⟨b, off, rfl, hbb, hrow⟩ := (H.out.below hbl.out).feet (by omega)
      obtain ⟨hc1, A2, c2, hc2, hcc, hIW⟩ := hrow k hlt
      have hmem : m.feet.getD k default ∈ m.feet := by
        rw [List.getD_eq_getElem?_getD, List.getElem?_eq_getElem hlt]; exact List.getElem_mem hlt
      have hw15 := HM.out.ways _ hmem
      have Hst := Lib.hid (map_take_succ m.feet k hlt)
      have hbs := hbl.out.size
      clear hrow hmem
      generalize m.feet.getD k default = f at *
      obtain ⟨own, ways⟩ := f
      simp only [] at hc1 hc2 hcc hIW hw15
      generalize hW3 : wr.alloc (.cells #[.string own, .slice A2 ways.length c2] 81) = W3
      have sW3 : W3.heap.size = wr.heap.size + 1 := by rw [← hW3]; simp
      have hB3' : Below wr.heap.size wr W3 := by rw [← hW3]; exact (Below.refl _ _).alloc (Nat.le_refl _) _
      have hB3 : Below W1.heap.size W1 W3 := hbl.out.trans (hB3'.mono hbs)
      have hoc := opt1_any own A2 c2 ways W3 ((hIW.below (hB3'.mono (by omega))).more (by omega)) (by omega)
      have HB3 := Lib.hid hB3
      have HB3' := Lib.hid hB3'
      have HW3 := Lib.hid hW3
      have Hoc := Lib.hid hoc
      have Hrl : Hid (((m.feet.take k).map footRow).length = k) := Lib.hid (by simp; omega)
      clear hB3 hB3' hW3 hoc hIW
      go_wp2_with fail
      rw [HW3.out]
      refine Hoc.out.mono ?_
      rintro e w4 ⟨v4, rfl, hv4, hb4⟩
      obtain ⟨g4, cap4, rfl⟩ := own_form hv4 (by omega)
      have hor4 := (hor.out.below HB3'.out).below hb4
      have Hb4 := Lib.hid (HB3.out.trans (hb4.mono (by omega)))
      have hv4' : w4.ownsRow W1.heap.size 100 2 (.slice (some ⟨g4, 0, none⟩) (ways.length + 1) cap4) (footRow ⟨own, ways⟩).length (wayCells (footRow ⟨own, ways⟩)) := ⟨hv4.1, hv4.2.imp id fun ⟨g, cp, cur, a1, a2, a3⟩ => ⟨g, cp, cur, a1, by omega, a3⟩⟩
      have hsz4 := hb4.size
      have hout := hor4.out
      rw [Hrl.out] at hout
      have Hout := Lib.hid hout
      have Hor4 := Lib.hid hor4
      have Hv4 := Lib.hid hv4'
      clear hv4 hb4 hor4 hv4' hout Hoc
      go_wp2_with (at_builtin; refine wpList_append_boxg _ rfl _ _ 114 rfl W1.heap.size 24 _ _ 1 24 Tryd.underlying114 info24 zero24 size24 bytes24 rfl (by decide) (.slice A k c) k vs #[.slice (some ⟨g4, 0, none⟩) (ways.length + 1) cap4] w4.heap.size rfl rfl rfl Hout.out rfl (by intro u hu; simp at hu; subst hu; rfl) (by unfold maxLen; omega) (by omega) (by omega) ?_; intro v5 w5 hown5 hgr5 _)
      have hor5 := Hor4.out.snoc (l := footRow ⟨own, ways⟩) Hv4.out (by rw [Hrl.out]; exact hown5) hgr5
      rw [← Hst.out] at hor5
      have hb5 := Hb4.out.grown hgr5 (by omega) (fun q e => (Hout.out.lt q e).1)
      obtain ⟨g5, cap5, rfl⟩ := own_form hown5 (by omega)
      have Hor5 := Lib.hid hor5
      have Hb5 := Lib.hid hb5
      clear hor5 hb5 hown5 hgr5
      go_wp2_with fail
      go_roundw
      case rel => exact ⟨k + 1, some ⟨g5, 0, none⟩, cap5, _, by omega, by go_num, rfl, Hor5, Hb5⟩
      case measure => simp [intOf]; omega
    · obtain rfl : k = m.feet.length := by omega
      have m1 := Hkeep.out _ hbl.out
      have hbs := hbl.out.size
      have hoc := opt1_any ⟨#[]⟩ Ae ce m.ends wr (((H.out.below hbl.out).ends).more hbs) (by omega)
      have Hoc := Lib.hid hoc
      have Hrl : Hid (((m.feet.take m.feet.length).map footRow).length = m.feet.length) := Lib.hid (by simp)
      clear hoc
      go_wp2_with fail
      refine Hoc.out.mono ?_
      rintro e w4 ⟨v4, rfl, hv4, hb4⟩
      obtain ⟨g4, cap4, rfl⟩ := own_form hv4 (by omega)
      have hor4 := hor.out.below hb4
      have Hb4 := Lib.hid (hbl.out.trans (hb4.mono (by omega)))
      have hv4' : w4.ownsRow W1.heap.size 100 2 (.slice (some ⟨g4, 0, none⟩) (m.ends.length + 1) cap4) ((⟨#[]⟩, 0) :: m.ends : List Way).length (wayCells ((⟨#[]⟩, 0) :: m.ends)) := ⟨hv4.1, hv4.2.imp id fun ⟨g, cp, cur, a1, a2, a3⟩ => ⟨g, cp, cur, a1, by omega, a3⟩⟩
      have hsz4 := hb4.size
      have hout := hor4.out
      rw [Hrl.out] at hout
      have Hout := Lib.hid hout
      have Hor4 := Lib.hid hor4
      have Hv4 := Lib.hid hv4'
      clear hv4 hb4 hor4 hv4' hout Hoc
      go_wp2_with (at_builtin; refine wpList_append_boxg _ rfl _ _ 114 rfl W1.heap.size 24 _ _ 1 24 Tryd.underlying114 info24 zero24 size24 bytes24 rfl (by decide) (.slice A m.feet.length c) m.feet.length vs #[.slice (some ⟨g4, 0, none⟩) (m.ends.length + 1) cap4] w4.heap.size rfl rfl rfl Hout.out rfl (by intro u hu; simp at hu; subst hu; rfl) (by unfold maxLen; omega) (by omega) (by omega) ?_; intro v5 w5 hown5 hgr5 _)
      have hor5 := Hor4.out.snoc (l := (⟨#[]⟩, 0) :: m.ends) Hv4.out (by rw [Hrl.out]; exact hown5) hgr5
      rw [List.take_length, ← optsP_def] at hor5
      have hb5 := Hb4.out.grown hgr5 (by omega) (fun q e => (Hout.out.lt q e).1)
      obtain ⟨g5, cap5, rfl⟩ := own_form hown5 (by omega)
      have Hor5 := Lib.hid hor5
      have Hb5 := Lib.hid hb5
      clear hor5 hb5 hown5 hgr5
      go_wp2_with fail
      go_ret
      exact ⟨_, _, rfl, Hor5.out.base_le (by omega), HB1.out.trans (Hb5.out.mono (by omega))⟩
end Go.Proofs.YtkfkkoefpfmjkaaDoor

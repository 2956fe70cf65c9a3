import Derived.Test.YtkfkkoefpfmjkaaDoorCC
import Derived.Stop.RegionWithIn
namespace Go.Proofs.YtkfkkoefpfmjkaaDoor
set_option linter.unusedVariables false
set_option linter.unusedSimpArgs false
open Go.RowKit
attribute [local go_sem] Oper.semAt_some

section
variable {B N0 l Y A C T N : Nat} {rv : Value} {vs : List Value} {rows : List (List Way)} {J Jx : List YP → World → Prop}
theorem roundIn_any {n n' : Nat} {P : Program} {l : Nat} {f : FuncId} {tmps : Array Value} {assign body : Code} {w : World} {R : Ending → World → Prop} (h : RoundIn Fence.wide n P l f tmps assign body w R) : RoundIn Fence.wide n' P l f tmps assign body w R :=
  ⟨h.1, fun c cs _ => h.2 c cs (room_wide _)⟩
def YPost (N0 : Nat) (J Jx : List YP → World → Prop) (pre : List YP) (x : YP) (w1 : World) (e : Ending) (w' : World) : Prop :=
  ∃ r : Bool, e = .returned (.bool r) ∧ ((r = true ∧ J (pre ++ [x]) w' ∧ KeepsFor N0 w1 w') ∨ (r = false ∧ Jx (pre ++ [x]) w'))
/-- the yields, whatever room is left -/
def Yields (B N0 l N : Nat) (J Jx : List YP → World → Prop) : Prop := ∀ (pre : List YP) (x : YP) (w1 : World), J pre w1 → pre.length < N → yFits N0 x w1 → (∀ b, yBlk x = some b → B ≤ b) →
  ∃ fn tmps assign body, (Instr.yield l (yEncs x)).run Tryd.prog w1 = .ok (.round l fn tmps assign body) w1 ∧ ∀ m, RoundIn Fence.wide m Tryd.prog l fn tmps assign body w1 (YPost N0 J Jx pre x w1)
def LeafF (B N0 N : Nat) (J : List YP → World → Prop) (pre : List YP) (w : World) (ch : List Int) (v' : Value) (w' : World) : Prop := w'.ownsRow w.heap.size 3 1 v' ch.length (intCells ch) ∧ Below w.heap.size w w'
theorem int_one (l : List Int) : ∀ u ∈ intCells l, u.oneCell' = true := by
  intro u hu
  unfold intCells at hu
  obtain ⟨x, _, rfl⟩ := List.mem_map.1 hu
  rfl

set_option maxRecDepth 100000 in
set_option maxHeartbeats 4000000 in
theorem tell_leaf (n : Nat) (hB : N0 ≤ B) (aJ : AbidesG B yBlk J) (hY : Yields B N0 l N J Jx) (pre : List YP) (s : ByteArray) (c : Int) (vch : Value) (ch : List Int) (w : World)
    (h : TS B l Y A C T rv vs rows J pre vch ch w) (hlen : ch.length = rows.length) (hr : rows.length ≤ 17) (hs : s.size ≤ 100) (hc0 : 0 ≤ c) (hc1 : c ≤ 100000000) (hN : pre.length < N) :
    CallsIn Fence.wide n Tryd.prog 72 #[.string s, .int .i64 c, .pointer (some ⟨C, 0, none⟩), .pointer (some ⟨A, 0, none⟩), .pointer (some ⟨Y, 0, none⟩), .pointer (some ⟨T, 0, none⟩)] w (TellOk B l Y A C T rv vs rows J Jx pre s c ch) := by
  obtain ⟨fnF, tmF, asF, bdF, hsk⟩ : ∃ (fnF : Value → World → FuncId) (tmF : Value → World → Array Value) (asF bdF : Value → World → Code), ∀ v' w', LeafF B N0 N J pre w ch v' w' →
      (Instr.yield l #[.agg #[.string s, .int .i64 c, v']]).run Tryd.prog w' = .ok (.round l (fnF v' w') (tmF v' w') (asF v' w') (bdF v' w')) w' ∧
      ∀ m, RoundIn Fence.wide m Tryd.prog l (fnF v' w') (tmF v' w') (asF v' w') (bdF v' w') w' (YPost N0 J Jx pre ⟨s, c, ch, v'⟩ w') := by
    have key : ∀ v' w', ∃ (q : FuncId × Array Value × Code × Code), LeafF B N0 N J pre w ch v' w' → (Instr.yield l #[.agg #[.string s, .int .i64 c, v']]).run Tryd.prog w' = .ok (.round l q.1 q.2.1 q.2.2.1 q.2.2.2) w' ∧
        ∀ m, RoundIn Fence.wide m Tryd.prog l q.1 q.2.1 q.2.2.1 q.2.2.2 w' (YPost N0 J Jx pre ⟨s, c, ch, v'⟩ w') := by
      intro v' w'
      by_cases hF : LeafF B N0 N J pre w ch v' w'
      · obtain ⟨fn, tmps, assign, body, h1, h2⟩ := hY pre ⟨s, c, ch, v'⟩ w' (h.below aJ hF.2).j hN ⟨own_base hF.1 (by have := h.sz; omega), by show ch.length ≤ 17; omega, hs, hc0, hc1⟩ (fun b e => by have := (hF.1.lt b e).1; have := h.sz; omega)
        exact ⟨(fn, tmps, assign, body), fun _ => ⟨h1, h2⟩⟩
      · exact ⟨(0, #[], .skip, .skip), fun h => absurd h hF⟩
    exact ⟨fun v' w' => (Classical.choose (key v' w')).1, fun v' w' => (Classical.choose (key v' w')).2.1, fun v' w' => (Classical.choose (key v' w')).2.2.1, fun v' w' => (Classical.choose (key v' w')).2.2.2,
      fun v' w' hF => Classical.choose_spec (key v' w') hF⟩
  have hrun : ∀ v' w', LeafF B N0 N J pre w ch v' w' → (Instr.yield l #[.agg #[.string s, .int .i64 c, v']]).run Tryd.prog w' = .ok (.round l (fnF v' w') (tmF v' w') (asF v' w') (bdF v' w')) w' := fun v' w' hF => (hsk v' w' hF).1
  have Hrun := Lib.hid hrun
  clear hrun
  have HR := Lib.hid fun v' w' hF => (hsk v' w' hF).2
  have H := Lib.hid h
  obtain ⟨Ac, cc, hvc, hcc, _⟩ := row_ints h.te.row
  obtain ⟨Ar, cr, hva, hcr, _⟩ := h.te.rows.isRows
  have c0 : w.cell? ⟨C, 0, none⟩ = some vch := cell_of_row _ _ 0 _ 50 (0, 0) h.te.c
  have a0 : w.cell? ⟨A, 0, none⟩ = some rv := cell_of_row _ _ 0 _ 114 (0, 0) h.te.a
  have y0 : w.cell? ⟨Y, 0, none⟩ = some (.func (.yield l) #[] #[]) := cell_of_row _ _ 0 _ 127 (0, 0) h.te.y
  have HC := Lib.hid (clonei_own B ch.length vch (intCells ch) w.drew h.te.row (int_one ch) (by omega))
  have HY := Lib.hid fun (w9 : World) (hb : Below w.heap.size w w9) => (cell_of_row w9 Y 0 _ 127 (0, 0) ((hb.block _ (lt_of h.te.y)).trans h.te.y) : w9.cell? ⟨Y, 0, none⟩ = some (.func (.yield l) #[] #[]))
  rw [hvc] at c0
  rw [hva] at a0
  have HLF := Lib.hid fun (v' : Value) (w' : World) (h1 : w'.ownsRow w.heap.size 3 1 v' ch.length (intCells ch)) (h2 : Below w.heap.size w w') => (⟨h1, h2⟩ : LeafF B N0 N J pre w ch v' w')
  have Hvc := Lib.hid hvc
  have HC2 : Hid (Calls Tryd.prog 73 #[.slice Ac ch.length cc] w.drew fun e w' => ∃ v', e = .returned v' ∧ w'.ownsRow w.heap.size 3 1 v' ch.length (intCells ch) ∧ Below w.heap.size w w') := Lib.hid (by rw [← hvc]; exact HC.out.mono fun e w' ⟨v', h1, h2, h3⟩ => ⟨v', h1, h2, ((Below.refl _ w).drew).trans h3⟩)
  clear h hsk hvc hva HC
  have hd : ((ch.length : Int) == (rows.length : Int)) = true := by rw [hlen]; simp
  have Hlen := Lib.hid hlen
  clear hlen
  refine callsIn_of_wp Tryd.func72 rfl trivial ?_ rfl
  simp only [Tryd.ntmps72, List.size_toArray, List.length_cons, List.length_nil, Nat.reduceAdd, Nat.reduceSub, Array.replicate_succ, Array.replicate_zero, List.push_toArray, List.append_toArray, List.nil_append, List.cons_append]
  gi_wp2
  gi_region_with (first | (refine ⟨trivial, fun hd => (by simp [Fence.wide] at hd), CallsIn.mono (callsIn_wide.2 HC2.out) ?_⟩; rintro e w9 ⟨v9, rfl, ho9, hb9⟩; have hLF := HLF.out v9 w9 ho9 hb9; obtain ⟨A9, c9, rfl, hc9, _⟩ := row_ints ho9; clear ho9; have hy9 := Hrun.out _ _ hLF; have y9 := HY.out w9 hb9) | (refine ⟨fun hd => (by simp [Fence.wide] at hd), RoundIn.mono ((HR.out _ _ (by assumption)) _) ?_⟩; rintro e w8 ⟨r, rfl, hpost⟩))
  all_goals
    have Hp := Lib.hid hpost
    have HL := Lib.hid hLF
    clear hpost hLF hy9 y9
    gi_wp2
    go_ret
    refine ⟨r, rfl, ?_⟩
    rcases Hp.out with ⟨e1, h1, h2⟩ | ⟨e1, h1⟩
    · refine .inl ⟨e1, [⟨s, c, ch, _⟩], vch, ?_, H.out.yield HL.out.2 HL.out.1 h1 h2 hB⟩
      rw [Hlen.out, List.drop_length]
      show [YP.pat _] = [pre3 s c ch ⟨[], 0, []⟩]
      unfold YP.pat pre3
      simp
    · exact .inr ⟨e1, _, h1⟩
end
end Go.Proofs.YtkfkkoefpfmjkaaDoor

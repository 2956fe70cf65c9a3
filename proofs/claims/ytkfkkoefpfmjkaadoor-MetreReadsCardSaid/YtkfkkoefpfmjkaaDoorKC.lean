import Derived.Test.YtkfkkoefpfmjkaaDoorKB
namespace Go.Proofs.YtkfkkoefpfmjkaaDoor
set_option linter.unusedVariables false
set_option linter.unusedSimpArgs false
open Go.RowKit

theorem wpList_append_any {P : Program} {ops : Array Oper} {rest : List Oper} {o : Oper} {a : Act} {Q : Exit → Act → World → Prop} (w : World) (hgd : o.guard = none) (s x : Operand) (t : TypeId)
    (ho : o.op = .call { callee := .builtin .append, args := #[s, x], argTypes := #[t, t] })
    (base : Nat) (e : TypeId) (i : TypeInfo) (z : Value) (size bytes : Nat) (ht : P.underlying t = some (.slice e)) (hi : P.info? e = some i) (hz : i.zero = some z)
    (hsize : i.size = size) (hby : i.bytes = bytes) (hzs : z.cells.size = size) (hsz : 0 < size)
    (v : Value) (n : Nat) (xs : List Value) (hs : a.eval s = v) (hown : w.ownsRow base e size v n xs)
    (B' : Nat) (v2 : Value) (m : Nat) (news : List Value) (hx : a.eval x = v2) (hrow : w.ownsRow B' e size v2 m news) (h1 : ∀ u ∈ news, u.oneCell' = true)
    (h63 : n + m ≤ maxLen) (hbytes : (n + m) * bytes ≤ 140737488355328) (hbase : base ≤ w.heap.size)
    (h : ∀ v' w', w'.ownsRow base e size v' (n + m) (xs ++ news) → w.grownBy w' v.ownBlock → (v'.ownBlock = v.ownBlock ∨ v'.ownBlock = some w.heap.size) → wpList P ops Q rest (a.put o.dst v') w') : wpList P ops Q (o :: rest) a w := by
  refine wpList_plain hgd fun K hK => ?_
  rcases hrow.2 with ⟨rfl, rfl⟩ | ⟨g, cap, cur, rfl, _⟩
  · exact opAppend s x t ho base e i z size bytes ht hi hz hsize hby hzs hsz v n xs hs hown none 0 0 news hx (fun _ => rfl) hrow.1 (fun ad h => by cases h) h1 h63 hbytes hbase fun v' w' a1 a2 a3 => hK _ _ (h v' w' a1 a2 a3)
  · refine opAppend s x t ho base e i z size bytes ht hi hz hsize hby hzs hsz v n xs hs hown (some ⟨g, 0, none⟩) m cap news hx (fun h => by cases h) hrow.1 (fun ad h j u hu => ?_) h1 h63 hbytes hbase fun v' w' a1 a2 a3 => hK _ _ (h v' w' a1 a2 a3)
    cases h
    exact hrow.cells (g := g) rfl j u hu

def sum2 (n1 n2 i : Nat) : Nat := if i = 0 then 0 else if i = 1 then n1 else n1 + n2
def cat2 (x1 x2 : List Value) (i : Nat) : List Value := if i = 0 then [] else if i = 1 then x1 else x1 ++ x2

set_option maxRecDepth 100000 in
set_option maxHeartbeats 4000000 in
theorem concat_any (B g n1 n2 : Nat) (v1 v2 : Value) (x1 x2 : List Value) (w : World) (hc0 : w.cell? ⟨g, 0, none⟩ = some v1) (hc1 : w.cell? ⟨g, 1, none⟩ = some v2) (hgl : g < w.heap.size)
    (h1 : w.ownsRow B 81 2 v1 n1 x1) (h2 : w.ownsRow B 81 2 v2 n2 x2) (o1 : ∀ u ∈ x1, u.oneCell' = true) (o2 : ∀ u ∈ x2, u.oneCell' = true) (b1 : n1 ≤ 100) (b2 : n2 ≤ 100) :
    Calls Tryd.prog 64 #[.slice (some ⟨g, 0, none⟩) 2 2] w fun e w' => ∃ v, e = .returned v ∧ w'.ownsRow w.heap.size 81 2 v (n1 + n2) (x1 ++ x2) ∧ Below w.heap.size w w' := by
  obtain ⟨A1, c1, rfl⟩ := row_slice h1
  obtain ⟨A2, c2, rfl⟩ := row_slice h2
  have Hrow := Lib.hid fun (W : World) (hb : Below w.heap.size w W) => And.intro (h1.kept (only_of_below hb none) (by cases (Value.slice A1 n1 c1).ownBlock <;> simp)) (And.intro (h2.kept (only_of_below hb none) (by cases (Value.slice A2 n2 c2).ownBlock <;> simp))
    (And.intro ((hb.cell (p := ⟨g, 0, none⟩) hgl).trans hc0) ((hb.cell (p := ⟨g, 1, none⟩) hgl).trans hc1)))
  clear h1 h2
  go_enter Tryd.func64, Tryd.ntmps64
  go_wp2_with fail
  go_loopw [3, 11] (fun s a wr => ∃ i : Nat, i ≤ 2 ∧ a = .int .i64 i ∧ s = .int .i64 (sum2 n1 n2 i) ∧ wr = w) (fun _ a _ => 2 - (RowKit.intOf a).toNat)
  case atStart => exact ⟨0, by omega, rfl, rfl, rfl⟩
  case round =>
    obtain ⟨i, hi, rfl, rfl, hwr⟩ := hrel
    subst hwr
    have i3 : i = 0 ∨ i = 1 ∨ i = 2 := by omega
    have w1 : wrap64 ((0 : Int) + (n1 : Int)) = (n1 : Int) := by unfold wrap64; omega
    have w1' : wrap64 (n1 : Int) = (n1 : Int) := by unfold wrap64; omega
    have w2 : wrap64 ((n1 : Int) + (n2 : Int)) = ((n1 + n2 : Nat) : Int) := by unfold wrap64; omega
    have p1 : (0 : Int) ≤ (n1 : Int) := by omega
    have p2 : (0 : Int) ≤ ((n1 + n2 : Nat) : Int) := by omega
    have p1' : ¬ (n1 : Int) < 0 := by omega
    have p2' : ¬ ((n1 + n2 : Nat) : Int) < 0 := by omega
    obtain ⟨hr1, hr2, hc0, hc1⟩ := Hrow.out _ (Below.refl _ _)
    rcases i3 with rfl | rfl | rfl
    · rw [show ((sum2 n1 n2 0 : Nat) : Int) = 0 from rfl]
      go_wp2_with fail
      go_roundw
      case rel => exact ⟨1, by omega, by go_num, rfl, by trivial⟩
      case measure => simp [RowKit.intOf]
    · rw [show ((sum2 n1 n2 1 : Nat) : Int) = n1 from rfl]
      go_wp2_with fail
      go_roundw
      case rel => exact ⟨2, by omega, by go_num, rfl, by trivial⟩
      case measure => simp [RowKit.intOf]
    · rw [show ((sum2 n1 n2 2 : Nat) : Int) = ((n1 + n2 : Nat) : Int) from rfl]
      have hgrow := grow_nil (n1 + n2) wr (by omega)
      rw [show ((n1 + n2 : Nat) : Int) = (n1 : Int) + (n2 : Int) from by omega] at hgrow
      have Hg := Lib.hid hgrow
      clear hr1 hr2 hc0 hc1 w1 w1' w2 p1 p2 p1' hgrow
      go_wp2_with fail
      refine Hg.out.mono ?_
      rintro e w4 ⟨v4, rfl, ho4, hb4⟩
      have Ho4 := Lib.hid ho4
      have Hb4 := Lib.hid hb4
      clear ho4 hb4
      go_wp2_with fail
      obtain ⟨wo, rfl⟩ : ∃ wo : World, wo = wr := ⟨_, rfl⟩
      go_loopw [6, 27] (fun v a wr => ∃ i : Nat, i ≤ 2 ∧ a = .int .i64 i ∧ Hid (wr.ownsRow wo.heap.size 81 2 v (sum2 n1 n2 i) (cat2 x1 x2 i)) ∧ Hid (Below wo.heap.size wo wr)) (fun _ a _ => 2 - (RowKit.intOf a).toNat)
      case atStart => exact ⟨0, by omega, rfl, Ho4, Hb4⟩
      case round =>
        obtain ⟨w5, rfl⟩ : ∃ w5 : World, w5 = wr := ⟨_, rfl⟩
        obtain ⟨i, hi, rfl, ho5, hb5⟩ := hrel
        obtain ⟨hr1, hr2, hc0, hc1⟩ := Hrow.out _ hb5.out
        have hsz := hb5.out.size
        have i3 : i = 0 ∨ i = 1 ∨ i = 2 := by omega
        rcases i3 with rfl | rfl | rfl
        · have ho6 : w5.ownsRow wo.heap.size 81 2 u6 0 [] := ho5.out
          go_wp2_with (at_builtin; refine wpList_append_any w5 rfl _ _ 23 rfl wo.heap.size 81 _ _ 2 40 Tryd.underlying23 info81 zero81 size81 bytes81 rfl (by decide) u6 0 [] rfl ho6 B (.slice A1 n1 c1) n1 x1 rfl hr1 o1 (by unfold maxLen; omega) (by omega) hsz ?_; intro v7 w7 ho7 hg7 _)
          have Hb7 := Lib.hid (hb5.out.grown hg7 hsz (fun k e => (ho6.lt k e).1))
          simp only [Nat.zero_add, List.nil_append] at ho7
          have Ho7 := Lib.hid ho7
          clear ho7 hg7 hr1 hr2 hc0 hc1 ho6 ho5 hb5
          go_wp2_with fail
          go_roundw
          case rel => exact ⟨1, by omega, by go_num, Ho7, Hb7⟩
          case measure => simp [RowKit.intOf]
        · have ho6 : w5.ownsRow wo.heap.size 81 2 u6 n1 x1 := ho5.out
          go_wp2_with (at_builtin; refine wpList_append_any w5 rfl _ _ 23 rfl wo.heap.size 81 _ _ 2 40 Tryd.underlying23 info81 zero81 size81 bytes81 rfl (by decide) u6 n1 x1 rfl ho6 B (.slice A2 n2 c2) n2 x2 rfl hr2 o2 (by unfold maxLen; omega) (by omega) hsz ?_; intro v7 w7 ho7 hg7 _)
          have Hb7 := Lib.hid (hb5.out.grown hg7 hsz (fun k e => (ho6.lt k e).1))
          have Ho7 := Lib.hid ho7
          clear ho7 hg7 hr1 hr2 hc0 hc1 ho6 ho5 hb5
          go_wp2_with fail
          go_roundw
          case rel => exact ⟨2, by omega, by go_num, Ho7, Hb7⟩
          case measure => simp [RowKit.intOf]
        · clear hr1 hr2 hc0 hc1
          go_wp2_with fail
          go_ret
          exact ⟨_, rfl, ho5.out, hb5.out⟩
end Go.Proofs.YtkfkkoefpfmjkaaDoor

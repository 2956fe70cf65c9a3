import Derived.Test.YtjlncnjmcgkkhaaC4
namespace Go.Proofs.Ytjlncnjmcgkkhaa
set_option linter.unusedVariables false
set_option linter.unusedSimpArgs false
open Go.RowKit
attribute [local go_sem] run_store_float

/- room: notes with room behind them. -/
def notesCells (l : List Note) : List Value := l.flatMap Note.cells
theorem notesCells_length (l : List Note) : (notesCells l).length = l.length * 6 := by
  induction l with
  | nil => rfl
  | cons n l ih => show (n.cells ++ notesCells l).length = _; rw [List.length_append, ih]; simp [Note.cells]; omega
theorem notesCells_append (l m : List Note) : notesCells (l ++ m) = notesCells l ++ notesCells m := by simp [notesCells, List.flatMap_append]
theorem notesCells_get (l : List Note) (k j : Nat) (hj : j < 6) (hk : k < l.length) : (notesCells l)[k * 6 + j]? = ((l.getD k default).cells)[j]? := by
  induction l generalizing k with
  | nil => simp at hk
  | cons n l ih =>
    cases k with
    | zero =>
      show (n.cells ++ notesCells l)[0 * 6 + j]? = _
      rw [List.getElem?_append_left (by simp [Note.cells]; omega)]; simp
    | succ k =>
      show (n.cells ++ notesCells l)[(k + 1) * 6 + j]? = _
      rw [List.getElem?_append_right (by simp [Note.cells]; omega)]
      have : (k + 1) * 6 + j - n.cells.length = k * 6 + j := by simp [Note.cells]; omega
      rw [this, ih k (by simpa using hk)]; simp
theorem notesCells_one (l : List Note) : ∀ v ∈ notesCells l, v.oneCell' = true := by
  intro v hv
  unfold notesCells at hv
  obtain ⟨n, _, hn⟩ := List.mem_flatMap.1 hv
  simp [Note.cells] at hn
  rcases hn with rfl | rfl | rfl | rfl | rfl | rfl <;> rfl

/-- the cells of notes in memory, as one list -/
theorem IsNotes.cells {w : World} {B : Nat} {A : Option Addr} {l : List Note} (h : IsNotes w B A l) : ∀ ad, A = some ad → ∀ j u, (notesCells l)[j]? = some u → w.cell? (ad.add j) = some u := by
  intro ad hA j u hu
  have hj : j < l.length * 6 := by have := (List.getElem?_eq_some_iff.1 hu).1; rwa [notesCells_length] at this
  obtain ⟨b, off, e, hb, hn⟩ := h (by omega)
  rw [e] at hA
  injection hA with hA
  subst hA
  have e1 : (⟨b, off, none⟩ : Addr).add j = ⟨b, off + j, none⟩ := by unfold Addr.add; split <;> simp_all
  rw [e1]
  have hk : j / 6 < l.length := by omega
  have hj' : j / 6 * 6 + j % 6 = j := by omega
  have hr : j % 6 < 6 := by omega
  rw [← hj', notesCells_get l (j / 6) (j % 6) hr hk] at hu
  obtain ⟨h0, h1, h2, h3, h4, h5⟩ := hn (j / 6) hk
  have ho : off + j = off + j / 6 * 6 + j % 6 := by omega
  rw [ho]
  generalize l.getD (j / 6) default = x at *
  generalize off + j / 6 * 6 = o at *
  generalize j % 6 = r at *
  rcases (by omega : r = 0 ∨ r = 1 ∨ r = 2 ∨ r = 3 ∨ r = 4 ∨ r = 5) with rfl | rfl | rfl | rfl | rfl | rfl <;> simp [Note.cells] at hu <;> subst hu
  · exact h0
  · exact h1
  · exact h2
  · exact h3
  · exact h4
  · exact h5

theorem notes_of_own {w : World} {base n : Nat} {v : Value} {l : List Note} (h : w.ownsRow base 37 6 v n (notesCells l)) (hn : l.length = n) :
    ∃ A c, v = .slice A l.length c ∧ l.length ≤ c ∧ IsNotes w w.heap.size A l := by
  rcases Nat.eq_zero_or_pos n with h0 | h0
  · subst h0
    rcases h.2 with ⟨rfl, _⟩ | ⟨g, cap, cur, rfl, _⟩
    · exact ⟨_, _, by rw [hn], by omega, fun hl => by omega⟩
    · exact ⟨_, _, by rw [hn], by omega, fun hl => by omega⟩
  · obtain ⟨g, cap, rfl, _, hg⟩ := own_form h h0
    have hcap : n ≤ cap := by
      rcases h.2 with ⟨h1, _⟩ | ⟨g', cap', cur, hv, _, _, hc, _⟩
      · cases h1
      · injection hv with e1 e2 e3; subst e3; exact hc
    refine ⟨_, cap, by rw [hn], by omega, fun _ => ⟨g, 0, rfl, hg, fun k hk => ?_⟩⟩
    have hc : ∀ j, j < 6 → w.cell? ⟨g, 0 + k * 6 + j, none⟩ = ((l.getD k default).cells)[j]? := fun j hj => by
      rw [Nat.zero_add, h.cellAt (k * 6 + j) (by omega), notesCells_get l k j hj hk]
    exact ⟨hc 0 (by omega), hc 1 (by omega), hc 2 (by omega), hc 3 (by omega), hc 4 (by omega), hc 5 (by omega)⟩

theorem info37 : Try.prog.info? 37 = some Try.t37 := by kernel_rfl
theorem zero37 : Try.t37.zero = some (.agg #[.int .i64 0, .int .i64 0, .int .i64 0, .bool false, .float .f64 0, .float .f64 0]) := by kernel_rfl
theorem size37 : Try.t37.size = 6 := by kernel_rfl
theorem bytes37 : Try.t37.bytes = 48 := by kernel_rfl

/-- append within the capacity, the source nil, empty or not -/
theorem wpList_append_room {P : Program} (w : World) {ops : Array Oper} {rest : List Oper} {o : Oper} {a : Act} {Q : Exit → Act → World → Prop}
    (hg : o.guard = none) (s x : Operand) (t : TypeId) (hop : o.op = Op.call { callee := Callee.builtin Builtin.append, args := #[s, x], argTypes := #[t, t] })
    (base : Nat) (e : TypeId) (i : TypeInfo) (size : Nat) (h1 : P.underlying t = some (.slice e)) (h2 : P.info? e = some i) (h4 : i.size = size)
    (g k cap : Nat) (xs : List Value) (hs : a.eval s = .slice (some ⟨g, 0, none⟩) k cap) (hown : w.ownsRow base e size (.slice (some ⟨g, 0, none⟩) k cap) k xs) (ao : Option Addr) (m c : Nat) (news : List Value) (hx : a.eval x = .slice ao m c) (hn : news.length = m * size)
    (hnone : 0 < m → ao ≠ none) (hc : ∀ ad, ao = some ad → ∀ j u, news[j]? = some u → w.cell? (ad.add j) = some u) (h1c : ∀ u ∈ news, u.oneCell' = true) (b1 : k + m ≤ cap)
    (hK : ∀ w', w'.ownsRow base e size (.slice (some ⟨g, 0, none⟩) (k + m) cap) (k + m) (xs ++ news) → w.grownBy w' (some g) → wpList P ops Q rest (a.put o.dst (.slice (some ⟨g, 0, none⟩) (k + m) cap)) w') :
    wpList P ops Q (o :: rest) a w := by
  cases ao with
  | some ad => exact wpList_append_fits w hg s x t hop base e i size h1 h2 h4 g k cap xs hs hown ad m c news hx hn (hc ad rfl) h1c b1 hK
  | none =>
    have hm : m = 0 := by
      rcases Nat.eq_zero_or_pos m with h | h
      · exact h
      · exact absurd rfl (hnone h)
    subst hm
    have hne : news = [] := List.eq_nil_of_length_eq_zero (by simpa using hn)
    subst hne
    have hrun : (Builtin.append_ #[t, t] o.type #[.slice (some ⟨g, 0, none⟩) k cap, .slice none 0 c]).run P w = .ok (.slice (some ⟨g, 0, none⟩) k cap) w := by
      rcases hown.2 with ⟨h, _⟩ | ⟨g', cap', cur, hv, _, _, hnc, _⟩
      · cases h
      · injection hv with e1 e2 e3
        subst e3
        simp [Builtin.append_, run_underlying h1, sizeOf, typeInfo, h2, Builtin.lenOf, Builtin.firstCells, hnc, storeCells]
    refine wpList_plain hg fun K hK' => ?_
    unfold Oper.wp
    simp [execOp, hop, resolve, invoke, builtin, hs, hx, hrun, Result.andThen]
    exact hK' _ _ (hK w (by simpa using hown) (World.grownBy.refl w _))

theorem keepCell {w w1 : World} {A : Option Addr} {l : List Note} (hn : IsNotes w w.heap.size A l) (hg : w.grownBy w1 none) : ∀ ad, A = some ad → ∀ j u, (notesCells l)[j]? = some u → w1.cell? (ad.add j) = some u :=
  IsNotes.cells (B := w.heap.size) (hn.keep fun p hp => World.cell?_of_block (hg.block p.block hp (by simp)))

theorem newCells (w : World) (cs : List Value) (t : TypeId) : ∀ ad, some (⟨w.heap.size, 0, none⟩ : Addr) = some ad → ∀ j u, cs[j]? = some u → (w.alloc (.cells cs.toArray t)).cell? (ad.add j) = some u := by
  intro ad h j u hu
  injection h with h
  subst h
  have e1 : (⟨w.heap.size, 0, none⟩ : Addr).add j = ⟨w.heap.size, j, none⟩ := by unfold Addr.add; by_cases hj : j = 0 <;> simp [hj]
  rw [e1, cell_of_row (w.alloc (.cells cs.toArray t)) w.heap.size j cs.toArray t (0, 0) (heap_alloc_new w _)]
  simpa using hu
theorem own_block {w : World} {base : Nat} {e : TypeId} {size n : Nat} {v : Value} {xs : List Value} (h : w.ownsRow base e size v n xs) : ∀ b, v.ownBlock = some b → base ≤ b ∧ b < w.heap.size := by
  intro b hb
  rcases h.2 with ⟨rfl, _⟩ | ⟨g, cap, cur, rfl, h1, hg, _⟩
  · simp [Value.ownBlock] at hb
  · simp [Value.ownBlock] at hb; subst hb
    refine ⟨h1, ?_⟩
    rcases Nat.lt_or_ge g w.heap.size with h | h
    · exact h
    · rw [Array.getElem?_eq_none h] at hg; cases hg

def pad : Note := ⟨-7, 0, 0, false, 0, 0⟩
def roomL (l : List Note) (j : Nat) : List Note := l ++ List.replicate j pad
theorem roomL_length (l : List Note) (j : Nat) : (roomL l j).length = l.length + j := by simp [roomL]
theorem roomL_succ (l : List Note) (j : Nat) : roomL l (j + 1) = roomL l j ++ [pad] := by simp [roomL, List.replicate_succ', List.append_assoc]

set_option maxRecDepth 100000 in
set_option maxHeartbeats 2000000 in
theorem room_any (A : Option Addr) (c : Nat) (l : List Note) (w : World) (hn : IsNotes w w.heap.size A l) (hm : l.length ≤ 4398046511104) :
    Calls Try.prog 16 #[.slice A l.length c] w fun e w' => ∃ g, e = .returned (.slice (some ⟨g, 0, none⟩) (l.length + 9) (l.length + 9)) ∧
      w'.ownsRow w.heap.size 37 6 (.slice (some ⟨g, 0, none⟩) (l.length + 9) (l.length + 9)) (l.length + 9) (notesCells (roomL l 9)) ∧ Below w.heap.size w w' := by
  have hcells := hn.cells
  have hnone : 0 < l.length → A ≠ none := fun h => by obtain ⟨b, off, e, _⟩ := hn h; rw [e]; simp
  have Hc := Lib.hid hcells
  have Hnone := Lib.hid hnone
  clear hcells hnone
  go_enter Try.func16, Try.ntmps16
  have hcl := notesCells_length l
  have hone := notesCells_one l
  have Hcl := Lib.hid hcl
  have Hone := Lib.hid hone
  have Hc' := Lib.hid fun (w1 : World) (hg : w.grownBy w1 none) ad hA j u hu => (keepCell hn hg ad hA j u hu)
  clear hcl hone
  go_wp2_with (first | (at_make; refine wpList_make_own _ rfl _ _ 29 rfl w.heap.size 37 _ _ 6 Try.underlying29 info37 zero37 size37 _ _ _ (l.length + 9) rfl rfl ?c1 ?c2 ?c3 ?c4 ?_; rotate_right; intro w1 hown1 hgr1) | (at_builtin; go_loud (refine wpList_append_room _ rfl _ _ 29 rfl w.heap.size 37 _ 6 Try.underlying29 info37 size37 w.heap.size 0 (l.length + 9) [] rfl (by exact hown1) A l.length c (notesCells l) rfl Hcl.out Hnone.out (Hc'.out _ hgr1) Hone.out ?d1 ?_); rotate_right; intro w2 hown2 hgr2; clear hown1))
  case c1 => omega
  case c2 => rw [bytes37]; omega
  case c3 => unfold maxLen; omega
  case c4 => exact Nat.le_refl _
  case d1 => omega
  have hb2 : Below w.heap.size w w2 := ((Below.refl _ _).grown hgr1 (Nat.le_refl _) (by intro k hk; cases hk)).grown hgr2 hgr1.size (by intro k hk; injection hk with hk; omega)
  have e0 : l.length + 0 = 0 + l.length := by omega
  simp only [Nat.zero_add, List.nil_append] at hown2
  have Hown2 := Lib.hid hown2
  clear hown2 hgr1 hgr2 e0
  go_loopw [3, 4] (fun v i wr => ∃ j : Nat, j ≤ 9 ∧ i = .int .i64 j ∧ v = .slice (some ⟨w.heap.size, 0, none⟩) (l.length + j) (l.length + 9) ∧ wr.ownsRow w.heap.size 37 6 (.slice (some ⟨w.heap.size, 0, none⟩) (l.length + j) (l.length + 9)) (l.length + j) (notesCells (roomL l j)) ∧ Below w.heap.size w wr ∧ w.heap.size < wr.heap.size) (fun _ i _ => 9 - (intOf i).toNat)
  case atStart =>
    refine ⟨0, by omega, rfl, rfl, ?_, hb2, ?_⟩
    · have e : roomL l 0 = l := by simp [roomL]
      rw [e, Nat.add_zero]; exact Hown2.out
    · exact (own_block Hown2.out _ rfl).2
  case round =>
    clear hb2
    have Hl := Lib.hid hm
    obtain ⟨j, hj, rfl, rfl, hown, hbl, hsz⟩ := hrel
    rename_i wr
    by_cases hlt : j < 9
    · have Hsucc := Lib.hid (roomL_succ l j)
      have hbs := hbl.size
      go_wp2_with (at_builtin; go_loud (refine wpList_append_room _ rfl _ _ 29 rfl w.heap.size 37 _ 6 Try.underlying29 info37 size37 w.heap.size (l.length + j) (l.length + 9) _ rfl (by exact hown.alloc _) (some ⟨wr.heap.size, 0, none⟩) 1 1 pad.cells rfl rfl ?d1 ?d2 ?d3 ?d4 ?_); rotate_right; intro w2 hown2 hgr2)
      case d1 => intro _; simp
      case d2 => exact newCells _ _ _
      case d3 => exact notesCells_one [pad]
      case d4 => omega
      have hb2 := (hbl.alloc hbs _).grown hgr2 (by simp; omega) (by intro k hk; injection hk with hk; omega)
      have hsz2 := hgr2.size
      simp only [World.size_alloc] at hsz2
      have Hown2 := Lib.hid hown2
      clear hown hown2 hgr2
      go_roundw
      case rel =>
        refine ⟨j + 1, by omega, by go_num, rfl, ?_, hb2, by omega⟩
        rw [Hsucc.out, notesCells_append]; exact Hown2.out
      case measure => simp [intOf]; omega
    · obtain rfl : j = 9 := by omega
      have Hown := Lib.hid hown
      clear hown
      go_wp2_with fail
      go_ret
      exact ⟨_, rfl, Hown.out, hbl⟩
end Go.Proofs.Ytjlncnjmcgkkhaa

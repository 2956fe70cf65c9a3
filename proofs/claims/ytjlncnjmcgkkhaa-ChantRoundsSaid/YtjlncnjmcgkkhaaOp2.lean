/- Arguments opened: notes, voices. -/
import Derived.Test.YtjlncnjmcgkkhaaOp
import Derived.Test.YtjlncnjmcgkkhaaA3
import Derived.DataReads
namespace Go.Proofs.Ytjlncnjmcgkkhaa
set_option linter.unusedVariables false
set_option linter.unusedSimpArgs false
open Go Go.RowKit Go.WideShapes Go.ChangeShapes Go.Deep

theorem exists_list {α : Type} [Inhabited α] (Q : Nat → α → Prop) (n : Nat) (h : ∀ i, i < n → ∃ x, Q i x) : ∃ l : List α, l.length = n ∧ ∀ i, i < n → Q i (l.getD i default) := by
  induction n with
  | zero => exact ⟨[], rfl, fun i hi => by omega⟩
  | succ n ih =>
    obtain ⟨l, hl, hq⟩ := ih fun i hi => h i (by omega)
    obtain ⟨x, hx⟩ := h n (by omega)
    refine ⟨l ++ [x], by simp [hl], fun i hi => ?_⟩
    by_cases e : i < n
    · rw [List.getD_eq_getElem?_getD, List.getElem?_append_left (by omega), ← List.getD_eq_getElem?_getD]; exact hq i e
    · obtain rfl : i = n := by omega
      rw [List.getD_eq_getElem?_getD, List.getElem?_append_right (by omega)]; simpa [hl] using hx

section
variable {H : Type} {enc : TypeId × Value → H} {P : Program} {w : World} {base : Nat} {spare : Nat → Bool} {held : Bool}
theorem fields37 : Try.prog.underlying 37 = some (.struct (Try.prog.fieldsOf 37)) := by kernel_rfl
theorem cells37 : Try.prog.cellsOf 37 = 6 := by kernel_rfl
theorem cells29 : Try.prog.cellsOf 29 = 1 := by kernel_rfl
theorem f37_0 : ((Try.prog.fieldsOf 37)[0]?).map (fun f => (f.type, f.offset)) = some (3, 0) := by kernel_rfl
theorem f37_1 : ((Try.prog.fieldsOf 37)[1]?).map (fun f => (f.type, f.offset)) = some (3, 1) := by kernel_rfl
theorem f37_2 : ((Try.prog.fieldsOf 37)[2]?).map (fun f => (f.type, f.offset)) = some (3, 2) := by kernel_rfl
theorem f37_3 : ((Try.prog.fieldsOf 37)[3]?).map (fun f => (f.type, f.offset)) = some (4, 3) := by kernel_rfl
theorem f37_4 : ((Try.prog.fieldsOf 37)[4]?).map (fun f => (f.type, f.offset)) = some (22, 4) := by kernel_rfl
theorem f37_5 : ((Try.prog.fieldsOf 37)[5]?).map (fun f => (f.type, f.offset)) = some (22, 5) := by kernel_rfl

theorem one_int {n j : Nat} {cs : List Value} {fs : Array Field} (hf : ∀ (j : Nat) (f : Field), fs[j]? = some f → ∃ y, DataW.trod enc Try.prog w base spare held n f.type ((cs.drop f.offset).take (Try.prog.cellsOf f.type)) = some y)
    (hj : (fs[j]?).map (fun f => (f.type, f.offset)) = some (3, j)) : ∃ b, (cs.drop j).take 1 = [.int .i64 b] := by
  obtain ⟨f, h1, h2, h3⟩ := field_of hj
  obtain ⟨y, hy⟩ := hf j f h1
  rw [h2, h3, cells3] at hy
  obtain ⟨b, hb, _⟩ := DataW.trod_int Try.underlying3 hy
  exact ⟨b, hb⟩
theorem one_bool {n j : Nat} {cs : List Value} {fs : Array Field} (hf : ∀ (j : Nat) (f : Field), fs[j]? = some f → ∃ y, DataW.trod enc Try.prog w base spare held n f.type ((cs.drop f.offset).take (Try.prog.cellsOf f.type)) = some y)
    (hj : (fs[j]?).map (fun f => (f.type, f.offset)) = some (4, j)) : ∃ b, (cs.drop j).take 1 = [.bool b] := by
  obtain ⟨f, h1, h2, h3⟩ := field_of hj
  obtain ⟨y, hy⟩ := hf j f h1
  rw [h2, h3, cells4] at hy
  obtain ⟨b, hb, _⟩ := DataW.trod_bool Try.underlying4 hy
  exact ⟨b, hb⟩
theorem one_float {n j : Nat} {cs : List Value} {fs : Array Field} (hf : ∀ (j : Nat) (f : Field), fs[j]? = some f → ∃ y, DataW.trod enc Try.prog w base spare held n f.type ((cs.drop f.offset).take (Try.prog.cellsOf f.type)) = some y)
    (hj : (fs[j]?).map (fun f => (f.type, f.offset)) = some (22, j)) : ∃ b, (cs.drop j).take 1 = [.float .f64 b] := by
  obtain ⟨f, h1, h2, h3⟩ := field_of hj
  obtain ⟨y, hy⟩ := hf j f h1
  rw [h2, h3, cells22] at hy
  obtain ⟨b, hb, _⟩ := trod_float Try.underlying22 hy
  exact ⟨b, hb⟩

theorem note_cells {fuel : Nat} {cs : List Value} {x : DataW H × List MemPlace} (h : DataW.trod enc Try.prog w base spare held fuel 37 cs = some x) : ∃ n : Note, cs = n.cells := by
  obtain ⟨hl, n, hf⟩ := struct_cells fields37 h
  rw [cells37] at hl
  obtain ⟨x0, e0⟩ := one_int hf f37_0
  obtain ⟨x1, e1⟩ := one_int hf f37_1
  obtain ⟨x2, e2⟩ := one_int hf f37_2
  obtain ⟨x3, e3⟩ := one_bool hf f37_3
  obtain ⟨x4, e4⟩ := one_float hf f37_4
  obtain ⟨x5, e5⟩ := one_float hf f37_5
  clear hf h
  obtain ⟨c0, c1, c2, c3, c4, c5, rfl⟩ := list6 hl
  simp at e0 e1 e2 e3 e4 e5
  exact ⟨⟨x0, x1, x2, x3, x4, x5⟩, by rw [e0, e1, e2, e3, e4, e5]; rfl⟩

theorem notes_open {fuel : Nat} {v : Value} {x : DataW H × List MemPlace} (h : DataW.trod enc Try.prog w base spare held fuel 29 [v] = some x) :
    ∃ A c, ∃ l : List Note, v = .slice A l.length c ∧ l.length ≤ c ∧ c ≤ maxLen ∧ IsNotes w w.heap.size A l := by
  rcases open_slice Try.underlying29 h with ⟨hc, _⟩ | ⟨a, len, cap, m, n, D, Pl, hc, hb, hl, hm, hmm, hx, hi⟩
  · simp only [List.cons.injEq, and_true] at hc
    exact ⟨none, 0, [], hc, Nat.le_refl _, by unfold maxLen; omega, fun h => by simp at h⟩
  · simp only [List.cons.injEq, and_true] at hc
    have hlm : len ≤ m := by rw [hmm]; split <;> omega
    obtain ⟨l, hll, hq⟩ := exists_list (fun i (x : Note) => ∀ j u, x.cells[j]? = some u → w.cell? ((a.add (i * 6)).add j) = some u) len fun i hil => by
      obtain ⟨cs', h1, h2⟩ := hi i (by omega)
      rw [cells37] at h1
      obtain ⟨_, hcl, hat⟩ := World.cells?_some h1
      obtain ⟨nt, rfl⟩ := note_cells h2
      exact ⟨nt, fun j u hu => by
        have hj : j < 6 := by have := (List.getElem?_eq_some_iff.1 hu).1; simpa [Note.cells] using this
        rw [hat j hj]; exact hu⟩
    refine ⟨some a, cap, l, by rw [hc, hll], by omega, hm, fun hpos => ?_⟩
    have h0 := hq 0 (by omega) 0 _ rfl
    obtain ⟨b, off, spot⟩ := a
    have hspot : spot = none := by simpa [Addr.add] using World.cell?_spot h0
    subst hspot
    refine ⟨b, off, rfl, ?_, fun k hk => ?_⟩
    · have := block_lt_of_cell h0
      simpa [Addr.add] using this
    · have hk' := hq k (by omega)
      have e1 : ∀ j, ((⟨b, off, none⟩ : Addr).add (k * 6)).add j = ⟨b, off + k * 6 + j, none⟩ := fun j => by
        unfold Addr.add
        by_cases h1 : k * 6 = 0 <;> by_cases h2 : j = 0 <;> simp [h1, h2]
      exact ⟨(by have := hk' 0 _ rfl; rw [e1] at this; exact this), by rw [← hk' 1 _ rfl, e1], by rw [← hk' 2 _ rfl, e1], by rw [← hk' 3 _ rfl, e1], by rw [← hk' 4 _ rfl, e1], by rw [← hk' 5 _ rfl, e1]⟩

theorem voices_open {fuel : Nat} {v : Value} {x : DataW H × List MemPlace} (h : DataW.trod enc Try.prog w base spare held fuel 27 [v] = some x) :
    ∃ A c, ∃ vs : List (List Note), v = .slice A vs.length c ∧ vs.length ≤ c ∧ c ≤ maxLen ∧ IsVoices w w.heap.size A vs ∧ (vs = [] ∨ ∃ es sp, x.1 = .slice es sp ∧ es.length = vs.length) := by
  rcases open_slice Try.underlying27 h with ⟨hc, _⟩ | ⟨a, len, cap, m, n, D, Pl, hc, hb, hl, hm, hmm, hx, hi⟩
  · simp only [List.cons.injEq, and_true] at hc
    exact ⟨none, 0, [], hc, Nat.le_refl _, by unfold maxLen; omega, (fun h => by simp at h), .inl rfl⟩
  · simp only [List.cons.injEq, and_true] at hc
    have hlm : len ≤ m := by rw [hmm]; split <;> omega
    obtain ⟨vs, hll, hq⟩ := exists_list (fun i (l : List Note) => ∃ A' c', w.cell? (a.add i) = some (.slice A' l.length c') ∧ l.length ≤ c' ∧ IsNotes w w.heap.size A' l) len fun i hil => by
      obtain ⟨cs', h1, h2⟩ := hi i (by omega)
      rw [cells29, Nat.mul_one] at h1
      obtain ⟨_, hcl, hat⟩ := World.cells?_some h1
      obtain ⟨u, rfl⟩ : ∃ u, cs' = [u] := List.length_eq_one_iff.1 hcl
      obtain ⟨A', c', l, rfl, e2, _, e3⟩ := notes_open h2
      refine ⟨l, A', c', ?_, e2, e3⟩
      have := hat 0 (by omega)
      simpa [Addr.add] using this
    refine ⟨some a, cap, vs, by rw [hc, hll], by omega, hm, fun hpos => ?_, .inr ⟨_, _, by rw [hx], by simp [hll]⟩⟩
    obtain ⟨_, _, h0, _⟩ := hq 0 (by omega)
    obtain ⟨b, off, spot⟩ := a
    have hspot : spot = none := by simpa [Addr.add] using World.cell?_spot h0
    subst hspot
    refine ⟨b, off, rfl, ?_, fun k hk => ?_⟩
    · have := block_lt_of_cell h0
      simpa [Addr.add] using this
    · obtain ⟨A', c', e1, e2, e3⟩ := hq k (by omega)
      refine ⟨A', c', Eq.trans ?_ e1, e2, e3⟩
      congr 1
      unfold Addr.add
      by_cases h1 : k = 0 <;> simp [h1]
end
end Go.Proofs.Ytjlncnjmcgkkhaa

import Derived.Test.YtkfkkoefpfmjkaaDoorXD
import Derived.Shelf.Strings.BuilderK
import Derived.Lib.OthersKept
namespace Go.Proofs.YtkfkkoefpfmjkaaDoor
set_option linter.unusedVariables false
set_option linter.unusedSimpArgs false
open Go.RowKit

/- Print's builder, in block b. -/
def BB (b : Nat) (l : List UInt8) (w : World) : Prop := Lib.IsBuilderF 133 5 b b (Lib.byteCells l) w
theorem builderAtF_below {T e B b : Nat} {p : Value} {bs : List Value} {w w' : World} (h : Lib.BuilderAtF T e B b p bs w) (hb : Below w.heap.size w w') : Lib.BuilderAtF T e B b p bs w' := by
  have hlt := h.lt
  obtain ⟨hB, v, hc, hown, hne⟩ := h
  exact ⟨hB, v, (hb.block b hlt).trans hc, hown.kept (only_of_below hb none) (by cases hv : v.ownBlock <;> simp), hne⟩
theorem BB.below {b : Nat} {l : List UInt8} {w w' : World} (h : BB b l w) (hb : Below w.heap.size w w') : BB b l w' :=
  h.elim (fun x => .inl (builderAtF_below x hb)) (fun x => .inr (builderAtF_below x hb))
theorem BB.lt {b : Nat} {l : List UInt8} {w : World} (h : BB b l w) : b < w.heap.size := h.elim (fun x => x.lt) (fun x => x.lt)
theorem others_of_below {e : TypeId} {b : Option Nat} {w w' : World} (hb : Below w.heap.size w w') : Lib.OthersKept e b w w' :=
  fun k o hk _ _ => (hb.block k (Array.getElem?_eq_some_iff.1 hk).1).trans hk
theorem write_any (b : Nat) (l : List UInt8) (s : ByteArray) (w : World) (h : BB b l w) (hl : l.length + s.size ≤ 140737488355328) :
    Calls Tryd.prog 75 #[.pointer (some ⟨b, 0, none⟩), .string s] w fun e w' => e = .returned (.tuple #[.int .i64 s.size, .nilIface]) ∧ BB b (l ++ s.data.toList) w' ∧ Below b w w' ∧ Lib.OthersKept 5 (some b) w w' := by
  refine (Any.Builder_WriteString_k (ρ := Tryd.lays156_ren) { Tryd.lays156 with } Tryd.Builder_Extra_156 b b (Lib.byteCells l) s w h (by simpa [Lib.byteCells] using hl) (Nat.le_of_lt h.lt)).mono ?_
  rintro e w' ⟨he, h1, h2, h3⟩
  refine ⟨he, .inr ?_, h2, h3⟩
  have : Lib.byteCells (l ++ s.data.toList) = Lib.byteCells l ++ Lib.strCells s := by simp [Lib.byteCells, Lib.strCells]
  rw [this]; exact h1
def putL (xs : List ByteArray) : List UInt8 := Lib.join (xs.map (·.data.toList)) [32]
set_option maxRecDepth 100000 in
set_option maxHeartbeats 4000000 in
theorem put_any (b g c : Nat) (l : List UInt8) (xs : List ByteArray) (w : World) (h : BB b l w) (hg : g < w.heap.size) (hc : ∀ (j : Nat) x, xs[j]? = some x → w.cell? ⟨g, 0 + j, none⟩ = some (.string x)) (hn : xs.length ≤ c) (hx : xs.length ≤ 16)
    (hl : l.length + (putL xs).length ≤ 1000000) :
    Calls Tryd.prog 74 #[.slice (some ⟨g, 0, none⟩) xs.length c, .pointer (some ⟨b, 0, none⟩)] w fun e w' => (∃ v, e = .returned v) ∧ BB b (l ++ putL xs) w' ∧ Below b w w' ∧ Lib.OthersKept 5 (some b) w w' := by
  have hlt := h.lt
  have Hj := Lib.hid (Tryd.strings_Join g 0 c xs ⟨#[32]⟩ w hc hg (by omega) hn (by have := hl; unfold putL at this; show (Lib.join (xs.map (·.data.toList)) [32]).length ≤ _; omega))
  have HB := Lib.hid h
  have Hl := Lib.hid hl
  clear h hc hl
  go_enter Tryd.func74, Tryd.ntmps74
  go_wp2_with fail
  refine Hj.out.mono ?_
  rintro e w1 ⟨rfl, hb1⟩
  have Hb1 := Lib.hid hb1
  obtain ⟨S, hS⟩ : ∃ S : ByteArray, S = ⟨(Lib.join (xs.map (·.data.toList)) (ByteArray.mk #[32]).data.toList).toArray⟩ := ⟨_, rfl⟩
  have HS := Lib.hid (show S.data.toList = putL xs by rw [hS]; simp [putL])
  rw [← hS]
  clear hS hb1
  have hSs : S.size = (putL xs).length := by rw [← sizeL, HS.out]
  have Hw := Lib.hid (write_any b l S w1 (HB.out.below Hb1.out) (by have := Hl.out; omega))
  go_wp2_with fail
  refine Hw.out.mono ?_
  rintro e w2 ⟨rfl, h2, h3, h4⟩
  have H2 := Lib.hid (And.intro h2 (And.intro h3 h4))
  clear h2 h3 h4
  go_wp2_with fail
  go_end0
  refine ⟨⟨_, rfl⟩, by rw [← HS.out]; exact H2.out.1, Hb1.out.mono (Nat.le_of_lt hlt) |>.trans H2.out.2.1, Lib.OthersKept.trans (others_of_below Hb1.out) H2.out.2.2⟩
end Go.Proofs.YtkfkkoefpfmjkaaDoor

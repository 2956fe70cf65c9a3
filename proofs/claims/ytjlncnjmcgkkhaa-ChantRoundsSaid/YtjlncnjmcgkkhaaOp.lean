/- Arguments opened: floats; a tempo. -/
import Derived.Test.YtjlncnjmcgkkhaaRows
import Derived.WalkKit
import Derived.ProofKit
import Derived.Lib.SmallJoins
import Derived.Deep.Slices
import Derived.Deep.Fields
namespace Go.Proofs.Ytjlncnjmcgkkhaa
set_option linter.unusedVariables false
set_option linter.unusedSimpArgs false
open Go Go.RowKit Go.WideShapes Go.ChangeShapes Go.Deep

section
variable {H : Type} {enc : TypeId × Value → H} {P : Program} {w : World} {base : Nat} {spare : Nat → Bool} {held : Bool}
theorem trod_float {t : TypeId} {k : FloatKind} {fuel : Nat} {cs : List Value} {x : DataW H × List MemPlace} (ht : P.underlying t = some (.float k)) (h : DataW.trod enc P w base spare held fuel t cs = some x) :
    ∃ n, cs = [.float k n] ∧ x = (.lit (.float k n), []) ∧ (Lit.float k n).wf = true := by
  cases fuel with
  | zero => simp [DataW.trod] at h
  | succ n =>
    unfold DataW.trod at h
    rw [ht] at h
    split at h <;> simp_all

theorem struct_cells {fs : Array Field} {t : TypeId} {fuel : Nat} {cs : List Value} {x : DataW H × List MemPlace} (ht : P.underlying t = some (.struct fs)) (h : DataW.trod enc P w base spare held fuel t cs = some x) :
    cs.length = P.cellsOf t ∧ ∃ n, ∀ (j : Nat) (f : Field), fs[j]? = some f → ∃ y, DataW.trod enc P w base spare held n f.type ((cs.drop f.offset).take (P.cellsOf f.type)) = some y := by
  obtain ⟨xs, n, _, hx, h1, hlen, hg⟩ := DataW.trod_struct ht h
  refine ⟨h1, n, fun j f hj => ?_⟩
  have hj' : j < xs.length := by rw [hlen]; exact (Array.getElem?_eq_some_iff.1 hj).1
  exact ⟨_, (hg j f hj).trans (List.getElem?_eq_getElem hj')⟩

theorem agg_open {fs : Array Field} {r : Reach} {b0 : Nat} {t : TypeId} {v : Value} {d : DataW H} {p : List MemPlace} (ht : P.underlying t = some (.struct fs)) (hv : Value.okWide P w r b0 t v) (h : DataW.Trod enc P w base spare held t v d p) :
    ∃ (l : List Value) (fuel : Nat) (x : DataW H × List MemPlace), v = .agg l.toArray ∧ DataW.trod enc P w base spare held fuel t l = some x := by
  obtain ⟨cs, rfl, _⟩ := okWide_struct ht hv
  obtain ⟨fuel, hf⟩ := h
  exact ⟨cs.toList, fuel, _, by simp, hf⟩

theorem fields24 : Try.prog.underlying 24 = some (.struct (Try.prog.fieldsOf 24)) := by kernel_rfl
theorem cells24 : Try.prog.cellsOf 24 = 5 := by kernel_rfl
theorem cells22 : Try.prog.cellsOf 22 = 1 := by kernel_rfl
theorem cells3 : Try.prog.cellsOf 3 = 1 := by kernel_rfl
theorem cells4 : Try.prog.cellsOf 4 = 1 := by kernel_rfl
theorem field_of {fs : Array Field} {j a b : Nat} (h : (fs[j]?).map (fun f => (f.type, f.offset)) = some (a, b)) : ∃ f, fs[j]? = some f ∧ f.type = a ∧ f.offset = b := by
  cases hf : fs[j]? with
  | none => rw [hf] at h; cases h
  | some f => rw [hf] at h; simp at h; exact ⟨f, rfl, h.1, h.2⟩
theorem list5 {α : Type} {l : List α} (h : l.length = 5) : ∃ a b c d e, l = [a, b, c, d, e] := by
  match l, h with
  | [a, b, c, d, e], _ => exact ⟨a, b, c, d, e, rfl⟩
theorem list6 {α : Type} {l : List α} (h : l.length = 6) : ∃ a b c d e f, l = [a, b, c, d, e, f] := by
  match l, h with
  | [a, b, c, d, e, f], _ => exact ⟨a, b, c, d, e, f, rfl⟩
theorem f24_0 : ((Try.prog.fieldsOf 24)[0]?).map (fun f => (f.type, f.offset)) = some (22, 0) := by kernel_rfl
theorem f24_1 : ((Try.prog.fieldsOf 24)[1]?).map (fun f => (f.type, f.offset)) = some (22, 1) := by kernel_rfl
theorem f24_2 : ((Try.prog.fieldsOf 24)[2]?).map (fun f => (f.type, f.offset)) = some (22, 2) := by kernel_rfl
theorem f24_3 : ((Try.prog.fieldsOf 24)[3]?).map (fun f => (f.type, f.offset)) = some (22, 3) := by kernel_rfl
theorem f24_4 : ((Try.prog.fieldsOf 24)[4]?).map (fun f => (f.type, f.offset)) = some (22, 4) := by kernel_rfl

theorem tempo_cells {fuel : Nat} {cs : List Value} {x : DataW H × List MemPlace} (h : DataW.trod enc Try.prog w base spare held fuel 24 cs = some x) :
    ∃ x0 x1 x2 x3 x4 : Nat, cs = [.float .f64 x0, .float .f64 x1, .float .f64 x2, .float .f64 x3, .float .f64 x4] := by
  obtain ⟨hl, n, hf⟩ := struct_cells fields24 h
  rw [cells24] at hl
  have g : ∀ j, ((Try.prog.fieldsOf 24)[j]?).map (fun f => (f.type, f.offset)) = some (22, j) → ∃ b, (cs.drop j).take 1 = [.float .f64 b] := fun j hj => by
    obtain ⟨f, h1, h2, h3⟩ := field_of hj
    obtain ⟨y, hy⟩ := hf j f h1
    rw [h2, h3, cells22] at hy
    obtain ⟨b, hb, _⟩ := trod_float Try.underlying22 hy
    exact ⟨b, hb⟩
  obtain ⟨x0, e0⟩ := g 0 f24_0
  obtain ⟨x1, e1⟩ := g 1 f24_1
  obtain ⟨x2, e2⟩ := g 2 f24_2
  obtain ⟨x3, e3⟩ := g 3 f24_3
  obtain ⟨x4, e4⟩ := g 4 f24_4
  clear hf g h
  obtain ⟨c0, c1, c2, c3, c4, rfl⟩ := list5 hl
  simp at e0 e1 e2 e3 e4
  exact ⟨x0, x1, x2, x3, x4, by rw [e0, e1, e2, e3, e4]⟩

set_option maxRecDepth 100000 in
theorem tempo_open {r : Reach} {b0 : Nat} {v : Value} {d : DataW H} {p : List MemPlace} (hv : Value.okWide Try.prog w r b0 24 v) (h : DataW.Trod enc Try.prog w base spare held 24 v d p) :
    ∃ x0 x1 x2 x3 x4 : Nat, v = .agg #[.float .f64 x0, .float .f64 x1, .float .f64 x2, .float .f64 x3, .float .f64 x4] := by
  have ho := agg_open fields24 hv h
  clear hv h
  obtain ⟨l, fuel, x, hv, hf⟩ := ho
  have ht := tempo_cells hf
  clear hf
  obtain ⟨x0, x1, x2, x3, x4, e⟩ := ht
  rw [e] at hv
  exact ⟨x0, x1, x2, x3, x4, hv⟩
end
end Go.Proofs.Ytjlncnjmcgkkhaa

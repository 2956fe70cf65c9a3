/- The order in which notes of voices are laid: keys (voice, number), total; plain. -/
import Derived.Test.YtjlncnjmcgkkhaaA5
import Derived.Test.YtjlncnjmcgkkhaaSo
import Derived.Sort.Statements
import Derived.Sort.LotA
namespace Go.Proofs.Ytjlncnjmcgkkhaa
set_option linter.unusedVariables false
set_option linter.unusedSimpArgs false
open Go.RowKit

/-- the rank of a moment: all numbers ahead of what is none -/
def rk1 (a : Nat) : Int := match Fl.key a with | none => 1 | some _ => 0
def rk2 (a : Nat) : Int := match Fl.key a with | none => 0 | some x => x
theorem mom_lt (a b : Nat) : Fl.mom a b < 0 ↔ rk1 a < rk1 b ∨ rk1 a = rk1 b ∧ rk2 a < rk2 b := by
  unfold Fl.mom rk1 rk2
  cases Fl.key a <;> cases Fl.key b <;> simp
  rename_i x y
  by_cases h : x < y
  · simp [h]
  · by_cases h' : y < x <;> simp [h, h']
theorem mom_eq (a b : Nat) : Fl.mom a b = 0 ↔ rk1 a = rk1 b ∧ rk2 a = rk2 b := by
  unfold Fl.mom rk1 rk2
  cases Fl.key a <;> cases Fl.key b <;> simp
  rename_i x y
  by_cases h : x < y
  · simp [h]; omega
  · by_cases h' : y < x
    · simp [h, h']; omega
    · simp [h, h']; omega

def cap62 : Nat := 4611686018427387904
structure Key where
  v : Nat
  i : Nat
  hv : v < cap62
  hi : i < cap62
instance : Inhabited Key := ⟨⟨0, 0, by unfold cap62; omega, by unfold cap62; omega⟩⟩
theorem Key.ext' {x y : Key} (h : x.v = y.v) (h' : x.i = y.i) : x = y := by
  cases x; cases y; cases h; cases h'; rfl
def Key.pair (x : Key) : Nat × Nat := (x.v, x.i)

section
variable (vs : List (List Note))
def encK (x : Key) : List Value := sungOf vs x.pair
def cfK (x y : Key) : Int := cmpS x.v x.i (look vs x.pair) y.v y.i (look vs y.pair)
/-- the order on pairs (voice, number) -/
def ltP (p q : Nat × Nat) : Prop :=
  let a := (look vs p).at_; let b := (look vs q).at_
  rk1 a < rk1 b ∨ rk1 a = rk1 b ∧ (rk2 a < rk2 b ∨ rk2 a = rk2 b ∧ (p.1 < q.1 ∨ p.1 = q.1 ∧ p.2 < q.2))
instance : DecidableRel (ltP vs) := fun p q => by unfold ltP; exact inferInstance
theorem cfK_lt (x y : Key) : cfK vs x y < 0 ↔ ltP vs x.pair y.pair := by
  unfold cfK cmpS ltP Key.pair
  simp only []
  have h1 := mom_lt (look vs (x.v, x.i)).at_ (look vs (y.v, y.i)).at_
  have h2 := mom_eq (look vs (x.v, x.i)).at_ (look vs (y.v, y.i)).at_
  generalize Fl.mom (look vs (x.v, x.i)).at_ (look vs (y.v, y.i)).at_ = m at *
  generalize rk1 (look vs (x.v, x.i)).at_ = a1 at *
  generalize rk1 (look vs (y.v, y.i)).at_ = b1 at *
  generalize rk2 (look vs (x.v, x.i)).at_ = a2 at *
  generalize rk2 (look vs (y.v, y.i)).at_ = b2 at *
  by_cases hm : m = 0
  · rw [if_neg (by simp [hm])]
    have := h2.1 hm
    by_cases hv : x.v = y.v
    · rw [if_neg (by simp [hv])]; omega
    · rw [if_pos hv]; omega
  · rw [if_pos hm]
    have : ¬ (a1 = b1 ∧ a2 = b2) := fun h => hm (h2.2 h)
    omega
theorem ltP_irrefl (p : Nat × Nat) : ¬ ltP vs p p := by unfold ltP; simp only []; omega
theorem ltP_trans {p q r : Nat × Nat} (h : ltP vs p q) (h' : ltP vs q r) : ltP vs p r := by
  unfold ltP at *; simp only [] at *; omega
theorem ltP_tri {p q : Nat × Nat} (h : ¬ ltP vs p q) (h' : ¬ ltP vs q p) : p = q := by
  unfold ltP at *; simp only [] at *
  have : p.1 = q.1 ∧ p.2 = q.2 := by omega
  exact Prod.ext this.1 this.2
theorem ltP_ntrans {p q r : Nat × Nat} (h : ¬ ltP vs p q) (h' : ¬ ltP vs q r) : ¬ ltP vs p r := by
  unfold ltP at *; simp only [] at *; omega

def ltK (x y : Key) : Bool := decide (cfK vs x y < 0)
theorem ltK_iff (x y : Key) : ltK vs x y = true ↔ ltP vs x.pair y.pair := by unfold ltK; rw [decide_eq_true_iff]; exact cfK_lt vs x y
theorem ltK_false (x y : Key) : ltK vs x y = false ↔ ¬ ltP vs x.pair y.pair := by rw [← ltK_iff]; simp
theorem swoK : Sort.SWO (ltK vs) where
  irrefl x := by rw [ltK_false]; exact ltP_irrefl vs _
  trans x y z h1 h2 := by rw [ltK_iff] at *; exact ltP_trans vs h1 h2
  ntrans x y z h1 h2 := by rw [ltK_false] at *; exact ltP_ntrans vs h1 h2
theorem totK (x y : Key) (h : ltK vs x y = false) (h' : ltK vs y x = false) : x = y := by
  rw [ltK_false] at *
  have := ltP_tri vs h h'
  injection this with e1 e2
  exact Key.ext' e1 e2

/-- the keys in order -/
def sortP (l : List (Nat × Nat)) : List (Nat × Nat) := l.mergeSort fun x y => !(decide (ltP vs y x))

/-- A list that is sorted and holds the same is the sorted one. -/
theorem sorted_unique {l l' : List (Nat × Nat)} (hp : l'.Perm l) (hs : l'.Pairwise fun x y => ¬ ltP vs y x) : l' = sortP vs l := by
  refine List.Perm.eq_of_pairwise (le := fun x y => ¬ ltP vs y x) ?_ hs ?_ (hp.trans (List.mergeSort_perm _ _).symm)
  · intro a b _ _ h1 h2; exact ltP_tri vs h2 h1
  · have := List.pairwise_mergeSort (le := fun x y => !(decide (ltP vs y x))) (fun a b c h1 h2 => by simp at *; exact fun h => ltP_ntrans vs h2 h1 h) (fun a b => by
      simp; by_cases h : ltP vs b a
      · right; exact fun h' => ltP_irrefl vs _ (ltP_trans vs h h')
      · left; exact h) l
    refine this.imp ?_
    intro a b h; simpa using h

def toKeys (l : List (Nat × Nat)) (h : ∀ p ∈ l, p.1 < cap62 ∧ p.2 < cap62) : List Key := l.pmap (fun p hp => ⟨p.1, p.2, hp.1, hp.2⟩) h
theorem toKeys_pair (l : List (Nat × Nat)) (h : ∀ p ∈ l, p.1 < cap62 ∧ p.2 < cap62) : (toKeys l h).map Key.pair = l := by
  unfold toKeys
  rw [List.map_pmap]
  simp [Key.pair]
theorem toKeys_length (l : List (Nat × Nat)) (h : ∀ p ∈ l, p.1 < cap62 ∧ p.2 < cap62) : (toKeys l h).length = l.length := by simp [toKeys]
theorem cells_keys (l : List Key) : l.flatMap (encK vs) = cellsOf vs (l.map Key.pair) := by
  unfold cellsOf encK
  rw [List.flatMap_map]
theorem sorted_keys (l : List (Nat × Nat)) (h : ∀ p ∈ l, p.1 < cap62 ∧ p.2 < cap62) :
    ((toKeys l h).mergeSort fun x y => !(ltK vs) y x).map Key.pair = sortP vs l := by
  refine sorted_unique vs ?_ ?_
  · have := (List.mergeSort_perm (toKeys l h) fun x y => !(ltK vs) y x).map Key.pair
    rw [toKeys_pair] at this; exact this
  · rw [List.pairwise_map]
    have := List.pairwise_mergeSort (le := fun x y => !(ltK vs) y x) (fun a b c h1 h2 => by
      simp only [Bool.not_eq_true'] at *; exact (swoK vs).ntrans _ _ _ h2 h1) (fun a b => by
      simp only [Bool.or_eq_true, Bool.not_eq_true']
      cases h : ltK vs b a
      · left; rfl
      · right
        cases h' : ltK vs a b
        · rfl
        · have := (swoK vs).trans _ _ _ h h'; rw [(swoK vs).irrefl] at this; cases this) (toKeys l h)
    refine this.imp ?_
    intro a b h; simp only [Bool.not_eq_true'] at h; exact (ltK_false vs _ _).1 h
end
end Go.Proofs.Ytjlncnjmcgkkhaa

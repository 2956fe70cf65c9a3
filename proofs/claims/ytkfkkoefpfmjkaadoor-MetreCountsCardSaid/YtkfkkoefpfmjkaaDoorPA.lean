import Derived.WalkKit
import Derived.Lib.Bytealg
import Derived.Lib.ParseIntBTie
import Derived.Lib.AtoiTie
import Derived.Lib.AtoiAllCases
import Derived.Lib.ItoaNum
import Derived.Lib.Strings
/- Texts, signs, tokens: plain. No program in sight. -/
namespace Go.Proofs.YtkfkkoefpfmjkaaDoor
set_option linter.unusedVariables false
set_option linter.unusedSimpArgs false

def isSign (c : UInt8) : Bool := !(((c.toNat : Int) != 120) && ((c.toNat : Int) != 47))
/-- the first k bytes are signs -/
def signsTo (s : ByteArray) (k : Nat) : Bool := (s.data.toList.take k).all isSign
def signsB (s : ByteArray) (lo hi : Int) : Bool := signsTo s s.size && (decide (lo ≤ (s.size : Int)) && decide ((s.size : Int) ≤ hi))
theorem take_snoc (s : ByteArray) (k : Nat) (h : k < s.size) : s.data.toList.take (k + 1) = s.data.toList.take k ++ [s[k]] := by
  rw [List.take_succ_eq_append_getElem (by simpa using h)]; rfl
theorem signsTo_zero (s : ByteArray) : signsTo s 0 = true := by simp [signsTo]
theorem signsTo_succ (s : ByteArray) (k : Nat) (h : k < s.size) : signsTo s (k + 1) = (signsTo s k && isSign s[k]) := by
  unfold signsTo; rw [take_snoc s k h, List.all_append]; simp
theorem signsTo_false (s : ByteArray) (k : Nat) (h : k < s.size) (hf : isSign s[k] = false) : signsTo s s.size = false := by
  unfold signsTo
  rw [List.all_eq_false]
  refine ⟨s[k], ?_, by rw [hf]; simp⟩
  rw [List.take_of_length_le (by simp)]
  exact List.getElem_mem (by simpa using h)

/-- a word begins as a figure does -/
def figB (s : ByteArray) : Bool := match s.data.toList with
  | [] => false
  | c :: _ => ((c.toNat : Int) == 45) || (decide ((48 : Int) ≤ (c.toNat : Int)) && decide ((c.toNat : Int) ≤ (57 : Int)))
theorem figB_empty (s : ByteArray) (h : s.data.toList = []) : figB s = false := by unfold figB; rw [h]
theorem figB_some (s : ByteArray) (h : 0 < s.size) : figB s = (((s[0].toNat : Int) == 45) || (decide ((48 : Int) ≤ (s[0].toNat : Int)) && decide ((s[0].toNat : Int) ≤ (57 : Int)))) := by
  have hl : 0 < s.data.toList.length := by simpa using h
  unfold figB
  have e : s.data.toList = s[0] :: s.data.toList.tail := by
    cases hd : s.data.toList with
    | nil => rw [hd] at hl; simp at hl
    | cons c t =>
      have : s[0] = c := by
        show s.data[0] = c
        have h1 : s.data.toList[0]'hl = c := by simp [hd]
        rw [← h1]; simp
      rw [this]; rfl
  rw [e]
theorem data_nil {t : ByteArray} (h : t.size = 0) : t.data.toList = [] := List.eq_nil_of_length_eq_zero (by simpa using h)
theorem list_nil {t : ByteArray} (h : t.size = 0) : t.toList = [] := by rw [ByteArray.toList_eq]; exact data_nil h
theorem list_pos {t : ByteArray} (h : 0 < t.size) : t.toList.isEmpty = false := by
  rw [ByteArray.toList_eq]
  cases hd : t.data.toList with
  | nil => have : t.data.toList.length = 0 := by rw [hd]; rfl
           rw [Array.length_toList] at this
           have h2 : t.size = t.data.size := rfl
           omega
  | cons c l => rfl
end Go.Proofs.YtkfkkoefpfmjkaaDoor
/- Tokens of a text: plain. -/
namespace Go.Proofs.YtkfkkoefpfmjkaaDoor
set_option linter.unusedVariables false
set_option linter.unusedSimpArgs false

/-- behind the blanks -/
def skipN (s : ByteArray) (a : Nat) : Nat := if h : a < s.size then if ((s[a].toNat : Int) == 32) then skipN s (a + 1) else a else a
termination_by s.size - a
theorem skipN_space {s : ByteArray} {a : Nat} (h : a < s.size) (h2 : ((s[a].toNat : Int) == 32) = true) : skipN s a = skipN s (a + 1) := by
  conv => lhs; unfold skipN
  rw [dif_pos h, if_pos h2]
theorem skipN_stop {s : ByteArray} {a : Nat} (h : a < s.size) (h2 : ((s[a].toNat : Int) == 32) = false) : skipN s a = a := by
  unfold skipN
  rw [dif_pos h, if_neg (by rw [h2]; simp)]
theorem skipN_end {s : ByteArray} {a : Nat} (h : ¬ a < s.size) : skipN s a = a := by
  unfold skipN
  rw [dif_neg h]
theorem skipN_le {s : ByteArray} (a : Nat) (ha : a ≤ s.size) : a ≤ skipN s a ∧ skipN s a ≤ s.size := by
  induction h : s.size - a generalizing a with
  | zero => rw [skipN_end (by omega)]; omega
  | succ n ih =>
    have hlt : a < s.size := by omega
    cases h2 : ((s[a].toNat : Int) == 32) with
    | true => rw [skipN_space hlt h2]; have := ih (a + 1) (by omega) (by omega); omega
    | false => rw [skipN_stop hlt h2]; omega
theorem skipN_not {s : ByteArray} (a : Nat) (ha : a ≤ s.size) (h : skipN s a < s.size) : ((s[skipN s a].toNat : Int) == 32) = false := by
  induction hk : s.size - a generalizing a with
  | zero => exfalso; rw [skipN_end (by omega)] at h; omega
  | succ n ih =>
    have hlt : a < s.size := by omega
    cases h2 : ((s[a].toNat : Int) == 32) with
    | true =>
      have e := skipN_space hlt h2
      have h' : skipN s (a + 1) < s.size := by rw [← e]; exact h
      have := ih (a + 1) (by omega) h' (by omega)
      simp only [e]; exact this
    | false =>
      have e := skipN_stop hlt h2
      simp only [e]; exact h2

/-- does a word end there? -/
def stopC (c : UInt8) : Bool := (((c.toNat : Int) == 32) || ((c.toNat : Int) == 44)) || ((c.toNat : Int) == 59)
def markC (c : UInt8) : Bool := ((c.toNat : Int) == 44) || ((c.toNat : Int) == 59)
theorem byte_ext {a b : UInt8} (h : a.toNat = b.toNat) : a = b := UInt8.toNat_inj.1 h
theorem index_stop (c : UInt8) : decide ((0 : Int) ≤ Lib.indexByte [32, 44, 59] c) = stopC c := by
  unfold stopC
  by_cases h1 : c = 32
  · subst h1; rfl
  by_cases h2 : c = 44
  · subst h2; rfl
  by_cases h3 : c = 59
  · subst h3; rfl
  have n1 : ((c.toNat : Int) == 32) = false := by
    simp only [beq_eq_false_iff_ne]; intro e; exact h1 (byte_ext (b := 32) (by have : (32 : UInt8).toNat = 32 := rfl; omega))
  have n2 : ((c.toNat : Int) == 44) = false := by
    simp only [beq_eq_false_iff_ne]; intro e; exact h2 (byte_ext (b := 44) (by have : (44 : UInt8).toNat = 44 := rfl; omega))
  have n3 : ((c.toNat : Int) == 59) = false := by
    simp only [beq_eq_false_iff_ne]; intro e; exact h3 (byte_ext (b := 59) (by have : (59 : UInt8).toNat = 59 := rfl; omega))
  rw [n1, n2, n3]
  have e : Lib.indexByte [32, 44, 59] c = -1 := by
    have m1 : ((32 : UInt8) == c) = false := by simp; exact fun h => h1 h.symm
    have m2 : ((44 : UInt8) == c) = false := by simp; exact fun h => h2 h.symm
    have m3 : ((59 : UInt8) == c) = false := by simp; exact fun h => h3 h.symm
    simp [Lib.indexByte, m1, m2, m3]
  rw [e]; rfl
theorem index_neg (l : List UInt8) (c : UInt8) (h : Lib.indexByte l c < 0) : Lib.indexByte l c = -1 := by
  induction l with
  | nil => rfl
  | cons b l ih =>
    unfold Lib.indexByte at h ⊢
    by_cases h1 : (b == c) = true
    · rw [if_pos h1] at h; omega
    · rw [if_neg h1] at h ⊢
      by_cases h2 : (Lib.indexByte l c == -1) = true
      · rw [if_pos h2]
      · rw [if_neg h2] at h
        have := ih (by omega)
        rw [this] at h2; simp at h2
/-- where a word ends -/
def wordN (s : ByteArray) (e : Nat) : Nat := if h : e < s.size then if stopC s[e] then e else wordN s (e + 1) else e
termination_by s.size - e
theorem wordN_go {s : ByteArray} {a : Nat} (h : a < s.size) (h2 : stopC s[a] = false) : wordN s a = wordN s (a + 1) := by
  conv => lhs; unfold wordN
  rw [dif_pos h, if_neg (by rw [h2]; simp)]
theorem wordN_stop {s : ByteArray} {a : Nat} (h : a < s.size) (h2 : stopC s[a] = true) : wordN s a = a := by
  unfold wordN
  rw [dif_pos h, if_pos h2]
theorem wordN_end {s : ByteArray} {a : Nat} (h : ¬ a < s.size) : wordN s a = a := by
  unfold wordN
  rw [dif_neg h]
theorem wordN_le {s : ByteArray} (a : Nat) (ha : a ≤ s.size) : a ≤ wordN s a ∧ wordN s a ≤ s.size := by
  induction h : s.size - a generalizing a with
  | zero => rw [wordN_end (by omega)]; omega
  | succ n ih =>
    have hlt : a < s.size := by omega
    cases h2 : stopC s[a] with
    | false => rw [wordN_go hlt h2]; have := ih (a + 1) (by omega) (by omega); omega
    | true => rw [wordN_stop hlt h2]; omega
/-- where the word or mark that begins there ends -/
def stopN (s : ByteArray) (a : Nat) : Nat := if h : a < s.size then if markC s[a] then a + 1 else wordN s (a + 1) else a
theorem stopN_mark {s : ByteArray} {a : Nat} (h : a < s.size) (h2 : markC s[a] = true) : stopN s a = a + 1 := by
  unfold stopN; rw [dif_pos h, if_pos h2]
theorem stopN_word {s : ByteArray} {a : Nat} (h : a < s.size) (h2 : markC s[a] = false) : stopN s a = wordN s (a + 1) := by
  unfold stopN; rw [dif_pos h, if_neg (by rw [h2]; simp)]
theorem stopN_end {s : ByteArray} {a : Nat} (h : ¬ a < s.size) : stopN s a = a := by
  unfold stopN; rw [dif_neg h]
theorem stopN_le {s : ByteArray} (a : Nat) (ha : a ≤ s.size) : a ≤ stopN s a ∧ stopN s a ≤ s.size := by
  by_cases h : a < s.size
  · cases h2 : markC s[a] with
    | true => rw [stopN_mark h h2]; omega
    | false => rw [stopN_word h h2]; have := wordN_le (s := s) (a + 1) (by omega); omega
  · rw [stopN_end h]; omega
theorem stopN_lt {s : ByteArray} (a : Nat) (ha : a < s.size) : a < stopN s a := by
  cases h2 : markC s[a] with
  | true => rw [stopN_mark ha h2]; omega
  | false => rw [stopN_word ha h2]; have := wordN_le (s := s) (a + 1) (by omega); omega
end Go.Proofs.YtkfkkoefpfmjkaaDoor
/- Figures: plain. -/
namespace Go.Proofs.YtkfkkoefpfmjkaaDoor
set_option linter.unusedVariables false
set_option linter.unusedSimpArgs false
open Go.Lib

def isMinus (l : List UInt8) : Bool := match l with | [] => false | c :: _ => ((c.toNat : Int) == 45)
def magL (l : List UInt8) : List UInt8 := if isMinus l then l.tail else l
def withSign (l : List UInt8) (m : Nat) : Int := if isMinus l then -(m : Int) else (m : Int)
/-- the number that a figure is -/
def numB (t : ByteArray) : Option Int :=
  if figB t then if (magL t.data.toList).length ≤ 18 then match decNat (magL t.data.toList) with
    | some m => if itoa (withSign t.data.toList m) = t.data.toList then some (withSign t.data.toList m) else none
    | none => none
  else none else none

theorem fig_cases {l : List UInt8} {t : ByteArray} (hl : t.data.toList = l) (h : figB t = true) : (∃ r, l = 45 :: r ∧ isMinus l = true) ∨ ∃ c r, l = c :: r ∧ isMinus l = false ∧ c.toNat ≠ 43 ∧ c.toNat ≠ 45 := by
  unfold figB at h
  rw [hl] at h
  cases l with
  | nil => cases h
  | cons c r =>
    simp only [Bool.or_eq_true, Bool.and_eq_true, decide_eq_true_eq] at h
    by_cases hc : ((c.toNat : Int) == 45) = true
    · left
      have h1 : (c.toNat : Int) = 45 := by simpa using hc
      have : c = 45 := byte_ext (b := 45) (by have : (45 : UInt8).toNat = 45 := rfl; omega)
      subst this
      exact ⟨r, rfl, rfl⟩
    · right
      have h1 : ¬ (c.toNat : Int) = 45 := by simpa using hc
      refine ⟨c, r, rfl, by simpa [isMinus] using hc, ?_, by omega⟩
      rcases h with h | h
      · exact absurd h hc
      · omega
theorem trim_mag {l : List UInt8} : trimPrefix l [45] = magL l := by
  unfold trimPrefix hasPrefix magL isMinus
  cases l with
  | nil => rfl
  | cons c r =>
    by_cases hc : c = 45
    · subst hc; rfl
    · have h1 : ((45 : UInt8) == c) = false := by simp; exact fun h => hc h.symm
      have h2 : ((c.toNat : Int) == 45) = false := by
        simp only [beq_eq_false_iff_ne]
        intro h
        exact hc (byte_ext (b := 45) (by have : (45 : UInt8).toNat = 45 := rfl; omega))
      simp [List.isPrefixOf, h1, h2]

theorem parse_mag {t : ByteArray} (h : figB t = true) (hl : (magL t.data.toList).length ≤ 18) : parseIntB 64 t.data.toList = NumEnd.ofOption ((decNat (magL t.data.toList)).map (withSign t.data.toList)) := by
  rw [parseIntB_64]
  rcases fig_cases rfl h with ⟨r, e, hm⟩ | ⟨c, r, e, hm, h43, h45⟩
  · have e2 : magL t.data.toList = r := by unfold magL; rw [hm, e]; rfl
    have e3 : withSign t.data.toList = fun m : Nat => -(m : Int) := by funext m; unfold withSign; rw [hm]; rfl
    rw [e2] at hl ⊢
    rw [e3]
    rw [e, atoiAll_minus, signed_short hl]
  · have e2 : magL t.data.toList = c :: r := by unfold magL; rw [hm, e]; rfl
    have e3 : withSign t.data.toList = fun m : Nat => (m : Int) := by funext m; unfold withSign; rw [hm]; rfl
    rw [e2] at hl ⊢
    rw [e3]
    rw [e, atoiAll_plain c r h43 h45, signless_short hl]

theorem numB_some {t : ByteArray} {v : Int} (h : numB t = some v) : figB t = true ∧ parseIntB 64 t.data.toList = .ok v ∧ itoa v = t.data.toList ∧ (magL t.data.toList).length ≤ 18 := by
  unfold numB at h
  by_cases hf : figB t = true
  · rw [if_pos hf] at h
    by_cases hl : (magL t.data.toList).length ≤ 18
    · rw [if_pos hl] at h
      cases hd : decNat (magL t.data.toList) with
      | none => rw [hd] at h; cases h
      | some m =>
        rw [hd] at h
        simp only at h
        by_cases hi : itoa (withSign t.data.toList m) = t.data.toList
        · rw [if_pos hi] at h
          injection h with h
          subst h
          refine ⟨hf, ?_, hi, hl⟩
          rw [parse_mag hf hl, hd]; rfl
        · rw [if_neg hi] at h; cases h
    · rw [if_neg hl] at h; cases h
  · rw [if_neg hf] at h; cases h
theorem numB_ok {t : ByteArray} {v : Int} (hf : figB t = true) (hp : parseIntB 64 t.data.toList = .ok v) (hi : itoa v = t.data.toList) (hl : (magL t.data.toList).length ≤ 18) : numB t = some v := by
  unfold numB
  rw [if_pos hf, if_pos hl]
  rw [parse_mag hf hl] at hp
  cases hd : decNat (magL t.data.toList) with
  | none => rw [hd] at hp; cases hp
  | some m =>
    rw [hd] at hp
    have hv : withSign t.data.toList m = v := by injection hp
    simp only
    rw [hv, if_pos hi]
theorem numB_none1 {t : ByteArray} (hf : figB t = false) : numB t = none := by unfold numB; rw [if_neg (by rw [hf]; simp)]
theorem numB_none2 {t : ByteArray} (hp : ∀ v, parseIntB 64 t.data.toList ≠ .ok v) : numB t = none := by
  cases h : numB t with
  | none => rfl
  | some v => exact absurd (numB_some h).2.1 (hp v)
theorem numB_none3 {t : ByteArray} {v : Int} (hp : parseIntB 64 t.data.toList = .ok v) (hi : itoa v ≠ t.data.toList) : numB t = none := by
  cases h : numB t with
  | none => rfl
  | some v' =>
    obtain ⟨_, h1, h2, _⟩ := numB_some h
    rw [hp] at h1
    injection h1 with h1
    subst h1
    exact absurd h2 hi
theorem numB_none4 {t : ByteArray} (hl : ¬ (magL t.data.toList).length ≤ 18) : numB t = none := by
  cases h : numB t with
  | none => rfl
  | some v' => exact absurd (numB_some h).2.2.2 hl
end Go.Proofs.YtkfkkoefpfmjkaaDoor
/- The feet that have names: plain. -/
namespace Go.Proofs.YtkfkkoefpfmjkaaDoor
set_option linter.unusedVariables false
set_option linter.unusedSimpArgs false

abbrev F3 := List UInt8 × List UInt8 × List UInt8
/-- name, signs, adjective -/
def feetW : List F3 := [
  ([97, 109, 112, 104, 105, 98, 114, 97, 99, 104], [120, 47, 120], [97, 109, 112, 104, 105, 98, 114, 97, 99, 104, 105, 99]),
  ([97, 110, 97, 112, 101, 115, 116], [120, 120, 47], [97, 110, 97, 112, 101, 115, 116, 105, 99]),
  ([97, 110, 116, 105, 98, 97, 99, 99, 104, 105, 117, 115], [47, 47, 120], [97, 110, 116, 105, 98, 97, 99, 99, 104, 105, 99]),
  ([98, 97, 99, 99, 104, 105, 117, 115], [120, 47, 47], [98, 97, 99, 99, 104, 105, 99]),
  ([99, 104, 111, 114, 105, 97, 109, 98], [47, 120, 120, 47], [99, 104, 111, 114, 105, 97, 109, 98, 105, 99]),
  ([99, 114, 101, 116, 105, 99], [47, 120, 47], [99, 114, 101, 116, 105, 99]),
  ([100, 97, 99, 116, 121, 108], [47, 120, 120], [100, 97, 99, 116, 121, 108, 105, 99]),
  ([105, 97, 109, 98], [120, 47], [105, 97, 109, 98, 105, 99]),
  ([105, 111, 110, 105, 99], [120, 120, 47, 47], [105, 111, 110, 105, 99]),
  ([109, 111, 108, 111, 115, 115, 117, 115], [47, 47, 47], [109, 111, 108, 111, 115, 115, 105, 99]),
  ([112, 121, 114, 114, 104, 105, 99], [120, 120], [112, 121, 114, 114, 104, 105, 99]),
  ([115, 112, 111, 110, 100, 101, 101], [47, 47], [115, 112, 111, 110, 100, 97, 105, 99]),
  ([116, 114, 105, 98, 114, 97, 99, 104], [120, 120, 120], [116, 114, 105, 98, 114, 97, 99, 104, 105, 99]),
  ([116, 114, 111, 99, 104, 101, 101], [47, 120], [116, 114, 111, 99, 104, 97, 105, 99])]
def tblL : List UInt8 := feetW.flatMap fun f => f.1 ++ [32] ++ f.2.1 ++ [32] ++ f.2.2 ++ [32]
def TB : ByteArray := ⟨tblL.toArray⟩
def footAt (j : Nat) : F3 := feetW.getD j ([], [], [])
def cutL (a b : Nat) : List UInt8 := (tblL.drop a).take (b - a)
/-- the rest of the table read from a state on comes out right -/
def scanT : List UInt8 → Nat → Nat → Nat → Nat → List UInt8 → List UInt8 → Bool
  | [], i, k, a, n, f0, f1 => n == 14
  | c :: r, i, k, a, n, f0, f1 =>
    decide (c.toNat < 128) && (if c = 32 then decide (a ≤ i) && (
      if k = 0 then scanT r (i + 1) 1 (i + 1) n (cutL a i) f1
      else if k = 1 then scanT r (i + 1) 2 (i + 1) n f0 (cutL a i)
      else if k = 2 then decide (n < 14) && ((f0, f1, cutL a i) == footAt n) && scanT r (i + 1) 0 (i + 1) (n + 1) f0 f1
      else false)
    else scanT r (i + 1) k a n f0 f1)
theorem tbl_len : tblL.length = 300 := by decide +kernel
theorem scan_start : scanT tblL 0 0 0 0 [] [] = true := by decide +kernel
theorem TB_size : TB.size = 300 := by
  have : TB.size = tblL.length := by simp [TB, ByteArray.size]
  rw [this, tbl_len]
theorem TB_get (i : Nat) (h : i < TB.size) : tblL.drop i = TB[i] :: tblL.drop (i + 1) := by
  have hl : i < tblL.length := by rw [tbl_len]; rw [TB_size] at h; exact h
  rw [List.drop_eq_getElem_cons hl]
  congr 1
theorem TB_cut (a i : Nat) : TB.extract a i = ⟨(cutL a i).toArray⟩ := by
  unfold cutL TB
  apply ByteArray.ext
  simp [ByteArray.data_extract]
/-- the foot of a name -/
def byName (t : List UInt8) : Option F3 := feetW.find? fun f => f.1 == t
theorem find_first {α : Type} (p : α → Bool) (d : α) : ∀ (l : List α) (m : Nat), m < l.length → p (l.getD m d) = true → (∀ j, j < m → p (l.getD j d) = false) → l.find? p = some (l.getD m d)
  | [], m, hm, _, _ => by simp at hm
  | x :: l, 0, _, hp, _ => by simp at hp; simp [hp]
  | x :: l, m + 1, hm, hp, hn => by
    have h0 := hn 0 (by omega)
    simp at h0
    have ih := find_first p d l m (by simpa using hm) (by simpa using hp) (fun j hj => by have := hn (j + 1) (by omega); simpa using this)
    simp [List.find?_cons, h0]
    simpa using ih
theorem find_none {α : Type} (p : α → Bool) (d : α) : ∀ (l : List α), (∀ j, j < l.length → p (l.getD j d) = false) → l.find? p = none
  | [], _ => rfl
  | x :: l, hn => by
    have h0 := hn 0 (by simp)
    simp at h0
    have ih := find_none p d l (fun j hj => by have := hn (j + 1) (by simpa using hj); simpa using this)
    simp [List.find?_cons, h0]
    simpa using ih
theorem byName_at {t : List UInt8} {m : Nat} (hm : m < 14) (h : ((footAt m).1 == t) = true) (hn : ∀ j, j < m → ((footAt j).1 == t) = false) : byName t = some (footAt m) :=
  find_first (fun f : F3 => f.1 == t) ([], [], []) feetW m hm h hn
theorem byName_no {t : List UInt8} (hn : ∀ j, j < 14 → ((footAt j).1 == t) = false) : byName t = none :=
  find_none (fun f : F3 => f.1 == t) ([], [], []) feetW hn
end Go.Proofs.YtkfkkoefpfmjkaaDoor

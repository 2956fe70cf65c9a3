import Derived.Test.YtkfkkoefpfmjkaaDoorVI
import Derived.Test.YtkfkkoefpfmjkaaDoorSC
import Derived.Test.YtkfkkoefpfmjkaaDoorVJ
/- All choices of a metre, in their order: how many they are; of those with given signs the least cost, how many have it, the first. Plain. -/
namespace Go.Proofs.YtkfkkoefpfmjkaaDoor
set_option linter.unusedVariables false
set_option linter.unusedSimpArgs false
open Go.RowKit

theorem bsize (s : ByteArray) : s.data.toList.length = s.size := by rw [Array.length_toList]; rfl
structure Pat where
  s : List UInt8
  c : Int
  ch : List Int
def preP (v : Way) (k : Int) (p : Pat) : Pat := ⟨v.1.data.toList ++ p.s, p.c + v.2, k :: p.ch⟩
def patsK (r : List Pat) : Nat → List Way → List Pat
  | _, [] => []
  | k, v :: l => r.map (preP v k) ++ patsK r (k + 1) l
def pats : List (List Way) → List Pat
  | [] => [⟨[], 0, []⟩]
  | l :: r => patsK (pats r) 0 l
structure Sm where
  c : Int
  w : Nat
  f : List Int
def Sm.zero : Sm := ⟨0, 0, []⟩
def mrg (a b : Sm) : Sm := if b.w = 0 then a else if a.w = 0 ∨ b.c < a.c then b else if b.c = a.c then ⟨a.c, a.w + b.w, a.f⟩ else a
def oneP (s : List UInt8) (p : Pat) : Sm := if p.s = s then ⟨p.c, 1, p.ch⟩ else Sm.zero
def updP (s : List UInt8) (st : Sm) (p : Pat) : Sm := mrg st (oneP s p)
def sumP (s : List UInt8) (P : List Pat) : Sm := P.foldl (updP s) Sm.zero
theorem mrg_no {a b : Sm} (h : b.w = 0) : mrg a b = a := by unfold mrg; rw [if_pos h]
theorem mrg_new {a b : Sm} (h : b.w ≠ 0) (h2 : a.w = 0 ∨ b.c < a.c) : mrg a b = b := by unfold mrg; rw [if_neg h, if_pos h2]
theorem mrg_eq {a b : Sm} (h : b.w ≠ 0) (h2 : a.w ≠ 0) (h3 : b.c = a.c) : mrg a b = ⟨a.c, a.w + b.w, a.f⟩ := by
  unfold mrg; rw [if_neg h, if_neg (by omega), if_pos h3]
theorem mrg_old {a b : Sm} (h2 : a.w ≠ 0) (h3 : a.c < b.c) : mrg a b = a := by
  unfold mrg; split
  · rfl
  · rw [if_neg (by omega), if_neg (by omega)]
theorem mrg_w {a b : Sm} : (mrg a b).w = 0 ↔ a.w = 0 ∧ b.w = 0 := by
  by_cases hb : b.w = 0
  · rw [mrg_no hb]; omega
  · by_cases h : a.w = 0 ∨ b.c < a.c
    · rw [mrg_new hb h]; omega
    · by_cases h3 : b.c = a.c
      · rw [mrg_eq hb (by omega) h3]; show a.w + b.w = 0 ↔ _; omega
      · rw [mrg_old (by omega) (by omega)]; omega
theorem mrg_assoc (a b c : Sm) : mrg (mrg a b) c = mrg a (mrg b c) := by
  by_cases hc : c.w = 0
  · rw [mrg_no hc, mrg_no hc]
  by_cases hb : b.w = 0
  · rw [mrg_no hb]
    have : mrg b c = c := mrg_new hc (.inl hb)
    rw [this]
  by_cases ha : a.w = 0
  · have h1 : mrg a b = b := mrg_new hb (.inl ha)
    have h2 : (mrg b c).w ≠ 0 := fun e => hb (mrg_w.1 e).1
    rw [h1, mrg_new h2 (.inl ha)]
  rcases Int.lt_trichotomy b.c a.c with h | h | h
  · rw [mrg_new hb (.inr h)]
    rcases Int.lt_trichotomy c.c b.c with k | k | k
    · rw [mrg_new hc (.inr k), mrg_new hc (.inr (by omega))]
    · rw [mrg_eq hc hb k, mrg_new (b := ⟨b.c, b.w + c.w, b.f⟩) (by show b.w + c.w ≠ 0; omega) (.inr h)]
    · rw [mrg_old hb k, mrg_new hb (.inr h)]
  · rw [mrg_eq hb ha h]
    rcases Int.lt_trichotomy c.c b.c with k | k | k
    · rw [mrg_new hc (.inr k), mrg_new hc (.inr (by show c.c < a.c; omega)), mrg_new hc (.inr (by omega))]
    · rw [mrg_eq hc hb k, mrg_eq (a := ⟨a.c, a.w + b.w, a.f⟩) hc (by show a.w + b.w ≠ 0; omega) (by show c.c = a.c; omega), mrg_eq (b := ⟨b.c, b.w + c.w, b.f⟩) (by show b.w + c.w ≠ 0; omega) ha h]
      show (⟨a.c, a.w + b.w + c.w, a.f⟩ : Sm) = ⟨a.c, a.w + (b.w + c.w), a.f⟩
      rw [Nat.add_assoc]
    · rw [mrg_old hb k, mrg_old (a := ⟨a.c, a.w + b.w, a.f⟩) (by show a.w + b.w ≠ 0; omega) (by show a.c < c.c; omega), mrg_eq hb ha h]
  · rw [mrg_old ha h]
    rcases Int.lt_trichotomy c.c b.c with k | k | k
    · rw [mrg_new hc (.inr k)]
    · rw [mrg_eq hc hb k, mrg_old ha (by omega), mrg_old (b := ⟨b.c, b.w + c.w, b.f⟩) ha h]
    · rw [mrg_old hb k, mrg_old ha h, mrg_old ha (by omega)]
theorem one_zero (s : List UInt8) (p : Pat) : mrg Sm.zero (oneP s p) = oneP s p := by
  unfold oneP
  split
  · exact mrg_new (by show (1 : Nat) ≠ 0; omega) (.inl rfl)
  · exact mrg_no rfl
theorem fold_mrg (s : List UInt8) : ∀ (P : List Pat) (st : Sm), P.foldl (updP s) st = mrg st (sumP s P)
  | [], st => (mrg_no rfl).symm
  | p :: P, st => by
    show P.foldl (updP s) (updP s st p) = mrg st (P.foldl (updP s) (updP s Sm.zero p))
    rw [fold_mrg s P, fold_mrg s P]
    unfold updP
    rw [one_zero, mrg_assoc]
theorem sum_cons (s : List UInt8) (p : Pat) (P : List Pat) : sumP s (p :: P) = mrg (oneP s p) (sumP s P) := by
  show P.foldl (updP s) (updP s Sm.zero p) = _
  rw [fold_mrg]
  unfold updP
  rw [one_zero]
theorem sum_app (s : List UInt8) (P Q : List Pat) : sumP s (P ++ Q) = mrg (sumP s P) (sumP s Q) := by
  show (P ++ Q).foldl (updP s) Sm.zero = _
  rw [List.foldl_append, fold_mrg]; rfl
theorem sum_w (s : List UInt8) : ∀ P : List Pat, (sumP s P).w ≤ P.length
  | [] => Nat.le_refl _
  | p :: P => by
    rw [sum_cons]
    have ih := sum_w s P
    have h1 : (oneP s p).w ≤ 1 := by unfold oneP; split <;> simp [Sm.zero]
    unfold mrg
    simp only [List.length_cons]
    split
    · omega
    · split
      · omega
      · split
        · show (oneP s p).w + (sumP s P).w ≤ _; omega
        · omega
/-- what a way in front makes of it -/
def shiftP (v : Way) (k : Int) (m : Sm) : Sm := if m.w = 0 then Sm.zero else ⟨m.c + v.2, m.w, k :: m.f⟩
theorem shift_w (v : Way) (k : Int) (m : Sm) : (shiftP v k m).w = m.w := by
  unfold shiftP; split
  · rename_i h; rw [h]; rfl
  · rfl
theorem shift_mrg (v : Way) (k : Int) (a b : Sm) (ha : a.w = 0 → a = Sm.zero) : shiftP v k (mrg a b) = mrg (shiftP v k a) (shiftP v k b) := by
  by_cases hb : b.w = 0
  · rw [mrg_no hb, mrg_no (by rw [shift_w]; exact hb)]
  have hb' : (shiftP v k b).w ≠ 0 := by rw [shift_w]; exact hb
  have eb : shiftP v k b = ⟨b.c + v.2, b.w, k :: b.f⟩ := by unfold shiftP; rw [if_neg hb]
  by_cases ha0 : a.w = 0
  · rw [mrg_new hb (.inl ha0), mrg_new hb' (.inl (by rw [shift_w]; exact ha0))]
  have ea : shiftP v k a = ⟨a.c + v.2, a.w, k :: a.f⟩ := by unfold shiftP; rw [if_neg ha0]
  have ha' : (shiftP v k a).w ≠ 0 := by rw [shift_w]; exact ha0
  rcases Int.lt_trichotomy b.c a.c with h | h | h
  · rw [mrg_new hb (.inr h), mrg_new hb' (.inr (by rw [ea, eb]; show b.c + v.2 < a.c + v.2; omega))]
  · rw [mrg_eq hb ha0 h, mrg_eq hb' ha' (by rw [ea, eb]; show b.c + v.2 = a.c + v.2; omega), ea, eb]
    unfold shiftP
    rw [if_neg (by show a.w + b.w ≠ 0; omega)]
  · rw [mrg_old ha0 h, mrg_old ha' (by rw [ea, eb]; show a.c + v.2 < b.c + v.2; omega)]
theorem prefix_iff (s v : List UInt8) (t : List UInt8) : v ++ t = s ↔ Lib.hasPrefix s v = true ∧ t = s.drop v.length := by
  unfold Lib.hasPrefix
  constructor
  · rintro rfl
    exact ⟨by rw [List.isPrefixOf_iff_prefix]; exact List.prefix_append _ _, by simp⟩
  · rintro ⟨h, rfl⟩
    rw [List.isPrefixOf_iff_prefix] at h
    obtain ⟨u, rfl⟩ := h
    simp
def headP (s : List UInt8) (v : Way) (k : Int) (m : List UInt8 → Sm) : Sm := if Lib.hasPrefix s v.1.data.toList = true then shiftP v k (m (s.drop v.1.size)) else Sm.zero
theorem one_pre (s : List UInt8) (v : Way) (k : Int) (p : Pat) : oneP s (preP v k p) = headP s v k (fun t => oneP t p) := by
  unfold oneP headP preP
  by_cases h : v.1.data.toList ++ p.s = s
  · rw [if_pos h]
    obtain ⟨h1, h2⟩ := (prefix_iff _ _ _).1 h
    rw [if_pos h1]
    show _ = shiftP v k (if p.s = s.drop v.1.size then ⟨p.c, 1, p.ch⟩ else Sm.zero)
    rw [if_pos (show p.s = s.drop v.1.size by rw [h2, ← bsize])]
    rfl
  · rw [if_neg h]
    split
    · rename_i h1
      show _ = shiftP v k (if p.s = s.drop v.1.size then ⟨p.c, 1, p.ch⟩ else Sm.zero)
      rw [if_neg (fun h2 => h ((prefix_iff _ _ _).2 ⟨h1, by rw [h2, ← bsize]⟩))]
      rfl
    · rfl
theorem one_canon (s : List UInt8) (p : Pat) : (oneP s p).w = 0 → oneP s p = Sm.zero := by
  unfold oneP; split
  · intro h; cases h
  · intro _; rfl
theorem sum_pre (s : List UInt8) (v : Way) (k : Int) : ∀ P : List Pat, sumP s (P.map (preP v k)) = headP s v k (fun t => sumP t P)
  | [] => by
    unfold headP
    split
    · show Sm.zero = shiftP v k Sm.zero; rfl
    · rfl
  | p :: P => by
    rw [List.map_cons, sum_cons, sum_pre s v k P, one_pre]
    unfold headP
    split
    · show mrg (shiftP v k (oneP (s.drop v.1.size) p)) (shiftP v k (sumP (s.drop v.1.size) P)) = shiftP v k (sumP (s.drop v.1.size) (p :: P))
      rw [sum_cons, shift_mrg _ _ _ _ (one_canon _ _)]
    · exact mrg_no rfl
/-- the summary of all choices with signs s -/
def G (rows : List (List Way)) (s : List UInt8) : Sm := sumP s (pats rows)
def cellS (m : Sm) : Cell := (m.c, (m.w : Int))
theorem G_nil (s : List UInt8) : G [] s = if s = [] then ⟨0, 1, []⟩ else Sm.zero := by
  unfold G pats
  rw [sum_cons]
  have : oneP s ⟨[], 0, []⟩ = if s = [] then ⟨0, 1, []⟩ else Sm.zero := by
    unfold oneP
    by_cases h : s = []
    · subst h; rfl
    · rw [if_neg h, if_neg (fun e => h e.symm)]
  rw [this]
  exact mrg_no rfl
theorem step_sm (st m : Sm) (v : Way) (k : Int) (hw : (st.w : Int) + (m.w : Int) ≤ 4611686018427387904) :
    cellS (mrg st (shiftP v k m)) = if (m.w : Int) = 0 then cellS st else if (st.w : Int) = 0 ∨ m.c + v.2 < st.c then (m.c + v.2, (m.w : Int)) else if m.c + v.2 = st.c then (st.c, min (addW (st.w : Int) (m.w : Int)) manyN) else cellS st := by
  by_cases h0 : m.w = 0
  · rw [mrg_no (by rw [shift_w]; exact h0), if_pos (by omega)]
  · have e : shiftP v k m = ⟨m.c + v.2, m.w, k :: m.f⟩ := by unfold shiftP; rw [if_neg h0]
    rw [if_neg (by omega), e]
    by_cases h1 : st.w = 0 ∨ m.c + v.2 < st.c
    · rw [mrg_new (b := ⟨m.c + v.2, m.w, k :: m.f⟩) h0 h1, if_pos (h1.imp (fun h => by omega) id)]
      rfl
    · rw [if_neg (fun h => h1 (h.imp (fun h => by omega) id))]
      by_cases h2 : m.c + v.2 = st.c
      · rw [mrg_eq (b := ⟨m.c + v.2, m.w, k :: m.f⟩) h0 (by omega) h2, if_pos h2]
        show (st.c, (((st.w + m.w : Nat)) : Int)) = (st.c, min (addW (st.w : Int) (m.w : Int)) manyN)
        have e1 : addW (st.w : Int) (m.w : Int) = (st.w : Int) + (m.w : Int) := IntWalk.i64_in _ (by omega)
        have e2 : min ((st.w : Int) + (m.w : Int)) manyN = (st.w : Int) + (m.w : Int) := by unfold manyN; omega
        rw [e1, e2]; simp
      · rw [mrg_old (b := ⟨m.c + v.2, m.w, k :: m.f⟩) (by omega) (by show st.c < m.c + v.2; omega), if_neg h2]
theorem step_cell (r : List (List Way)) (s : List UInt8) (st : Sm) (v : Way) (k : Int) (hw : (st.w : Int) + ((G r (s.drop v.1.size)).w : Int) ≤ 4611686018427387904) :
    cellS (mrg st (headP s v k (G r))) = stepR s (fun q => cellS (G r (s.drop q))) (cellS st) v := by
  unfold headP stepR
  split
  · exact step_sm st _ v k hw
  · rw [mrg_no rfl]
theorem patsK_len (R : List Pat) : ∀ (l : List Way) (k : Nat), (patsK R k l).length = l.length * R.length
  | [], _ => by simp [patsK]
  | v :: l, k => by
    unfold patsK
    rw [List.length_append, List.length_map, patsK_len R l, List.length_cons, Nat.add_mul]; omega
theorem cell_of_sum : ∀ (rows : List (List Way)) (s : List UInt8), (pats rows).length ≤ 4611686018427387904 → (∀ l ∈ rows, 0 < l.length) → cellS (G rows s) = restR rows s
  | [], s, _, _ => by
    rw [G_nil]; unfold restR
    by_cases h : s = []
    · rw [if_pos h, if_pos h]; rfl
    · rw [if_neg h, if_neg h]; rfl
  | l :: r, s, hn, hp => by
    have hl := hp l (List.mem_cons_self ..)
    have hlen : (pats (l :: r)).length = l.length * (pats r).length := patsK_len _ _ _
    have hr : (pats r).length ≤ 4611686018427387904 := Nat.le_trans (Nat.le_mul_of_pos_left _ hl) (by rw [← hlen]; exact hn)
    have ih : ∀ t, cellS (G r t) = restR r t := fun t => cell_of_sum r t hr fun l h => hp l (List.mem_cons_of_mem _ h)
    have key : ∀ (l' : List Way) (k : Nat) (st : Sm), st.w + l'.length * (pats r).length ≤ 4611686018427387904 →
        cellS ((patsK (pats r) k l').foldl (updP s) st) = l'.foldl (stepR s (fun q => restR r (s.drop q))) (cellS st) := by
      intro l'
      induction l' with
      | nil => intro k st _; rfl
      | cons v l' ih2 =>
        intro k st hst
        rw [List.length_cons, Nat.add_mul] at hst
        have hw := sum_w (s.drop v.1.size) (pats r)
        show cellS (((pats r).map (preP v k) ++ patsK (pats r) (k + 1) l').foldl (updP s) st) = _
        rw [List.foldl_append, fold_mrg s ((pats r).map (preP v k)), sum_pre, List.foldl_cons]
        have hst2 : (mrg st (headP s v (k : Int) (fun t => sumP t (pats r)))).w ≤ st.w + (pats r).length := by
          have h1 : (headP s v (k : Int) (fun t => sumP t (pats r))).w ≤ (pats r).length := by
            unfold headP
            split
            · rw [shift_w]; exact hw
            · exact Nat.zero_le _
          unfold mrg
          split
          · omega
          · split
            · omega
            · split
              · show st.w + _ ≤ _; omega
              · omega
        rw [ih2 (k + 1) _ (by omega)]
        have hs := step_cell r s st v (k : Int) (by have : (G r (s.drop v.1.size)).w ≤ (pats r).length := hw; omega)
        have hcong : stepR s (fun q => cellS (G r (s.drop q))) (cellS st) v = stepR s (fun q => restR r (s.drop q)) (cellS st) v := stepR_congr (fun q _ => ih _) _ _
        rw [← hcong, ← hs]
        rfl
    have := key l 0 Sm.zero (by show 0 + _ ≤ _; rw [← hlen]; omega)
    exact this
/-- a way that will do, of those that cost c -/
def goodP (r : List (List Way)) (s : List UInt8) (c : Int) (v : Way) : Prop := Lib.hasPrefix s v.1.data.toList = true ∧ (G r (s.drop v.1.size)).w ≠ 0 ∧ (G r (s.drop v.1.size)).c + v.2 = c
theorem pick_any (r : List (List Way)) (s : List UInt8) : ∀ (l : List Way) (k : Nat) (st m : Sm), (patsK (pats r) k l).foldl (updP s) st = m → m.w ≠ 0 →
    (st.w ≠ 0 ∧ m.c = st.c ∧ m.f = st.f) ∨
    (∃ j, j < l.length ∧ goodP r s m.c (l.getD j default) ∧ m.f = ((k + j : Nat) : Int) :: (G r (s.drop (l.getD j default).1.size)).f ∧ (st.w = 0 ∨ m.c < st.c) ∧ ∀ i, i < j → ¬ goodP r s m.c (l.getD i default))
  | [], k, st, m, h, hm => .inl ⟨by subst h; exact hm, by subst h; rfl, by subst h; rfl⟩
  | v :: l, k, st, m, h, hm => by
    have h' : (patsK (pats r) (k + 1) l).foldl (updP s) (mrg st (headP s v (k : Int) (G r))) = m := by
      rw [← h]
      show _ = ((pats r).map (preP v k) ++ patsK (pats r) (k + 1) l).foldl (updP s) st
      rw [List.foldl_append, fold_mrg s ((pats r).map (preP v k)), sum_pre]; rfl
    have ex : headP s v (k : Int) (G r) = Sm.zero ∨ (Lib.hasPrefix s v.1.data.toList = true ∧ (G r (s.drop v.1.size)).w ≠ 0 ∧ headP s v (k : Int) (G r) = ⟨(G r (s.drop v.1.size)).c + v.2, (G r (s.drop v.1.size)).w, (k : Int) :: (G r (s.drop v.1.size)).f⟩) := by
      unfold headP
      by_cases hp : Lib.hasPrefix s v.1.data.toList = true
      · rw [if_pos hp]
        unfold shiftP
        by_cases h0 : (G r (s.drop v.1.size)).w = 0
        · rw [if_pos h0]; exact .inl rfl
        · rw [if_neg h0]; exact .inr ⟨hp, h0, rfl⟩
      · rw [if_neg hp]; exact .inl rfl
    rcases pick_any r s l (k + 1) _ m h' hm with ⟨h1, h2, h3⟩ | ⟨j, hj, hg, hf, hst, hno⟩
    · rcases ex with ex | ⟨hp, h0, ex⟩
      · rw [ex, mrg_no rfl] at h1 h2 h3
        exact .inl ⟨h1, h2, h3⟩
      · rw [ex] at h1 h2 h3
        by_cases hn : st.w = 0 ∨ (G r (s.drop v.1.size)).c + v.2 < st.c
        · rw [mrg_new (b := ⟨(G r (s.drop v.1.size)).c + v.2, (G r (s.drop v.1.size)).w, (k : Int) :: (G r (s.drop v.1.size)).f⟩) h0 hn] at h2 h3
          refine .inr ⟨0, by simp, ⟨hp, h0, h2.symm⟩, ?_, ?_, fun i hi => by omega⟩
          · rw [h3]; rfl
          · rw [h2]; exact hn
        · by_cases he : (G r (s.drop v.1.size)).c + v.2 = st.c
          · rw [mrg_eq (b := ⟨(G r (s.drop v.1.size)).c + v.2, (G r (s.drop v.1.size)).w, (k : Int) :: (G r (s.drop v.1.size)).f⟩) h0 (by omega) he] at h2 h3
            exact .inl ⟨by omega, h2, h3⟩
          · rw [mrg_old (a := st) (b := ⟨(G r (s.drop v.1.size)).c + v.2, (G r (s.drop v.1.size)).w, (k : Int) :: (G r (s.drop v.1.size)).f⟩) (by omega) (by show st.c < (G r (s.drop v.1.size)).c + v.2; omega)] at h2 h3
            exact .inl ⟨by omega, h2, h3⟩
    · have hw2 : st.w ≠ 0 → (mrg st (headP s v (k : Int) (G r))).w ≠ 0 := fun h e => h (mrg_w.1 e).1
      refine .inr ⟨j + 1, by simp; omega, hg, ?_, ?_, ?_⟩
      · rw [hf]
        show (((k + 1 + j : Nat)) : Int) :: _ = (((k + (j + 1) : Nat)) : Int) :: _
        rw [show k + 1 + j = k + (j + 1) by omega]; rfl
      · by_cases h0 : st.w = 0
        · exact .inl h0
        · refine .inr ?_
          have h1 := hw2 h0
          have h2 : m.c < (mrg st (headP s v (k : Int) (G r))).c := hst.elim (fun h => absurd h h1) id
          have h3 : (mrg st (headP s v (k : Int) (G r))).c ≤ st.c := by
            unfold mrg
            split
            · omega
            · split
              · rename_i h4; exact h4.elim (fun h => absurd h h0) (fun h => by omega)
              · split
                · exact Int.le_refl _
                · omega
          omega
      · intro i hi
        rcases i with _ | i
        · rintro ⟨hp, h0, hc⟩
          have hp' : Lib.hasPrefix s v.1.data.toList = true := hp
          have h0' : (G r (s.drop v.1.size)).w ≠ 0 := h0
          have hc' : (G r (s.drop v.1.size)).c + v.2 = m.c := hc
          have ex2 : headP s v (k : Int) (G r) = ⟨(G r (s.drop v.1.size)).c + v.2, (G r (s.drop v.1.size)).w, (k : Int) :: (G r (s.drop v.1.size)).f⟩ := by
            unfold headP shiftP; rw [if_pos hp', if_neg h0']
          have hx : (mrg st (headP s v (k : Int) (G r))).w ≠ 0 := fun e => by have := (mrg_w.1 e).2; rw [ex2] at this; exact h0' this
          have h2 : m.c < (mrg st (headP s v (k : Int) (G r))).c := hst.elim (fun h => absurd h hx) id
          have h3 : (mrg st (headP s v (k : Int) (G r))).c ≤ (G r (s.drop v.1.size)).c + v.2 := by
            rw [ex2]
            unfold mrg
            rw [if_neg h0']
            split
            · exact Int.le_refl _
            · rename_i h4
              split
              · rename_i h5; show st.c ≤ _; have : (G r (s.drop v.1.size)).c + v.2 = st.c := h5; omega
              · have h6 : ¬ ((G r (s.drop v.1.size)).c + v.2 < st.c) := fun e => h4 (.inr e)
                omega
          omega
        · exact hno i (by omega)
end Go.Proofs.YtkfkkoefpfmjkaaDoor

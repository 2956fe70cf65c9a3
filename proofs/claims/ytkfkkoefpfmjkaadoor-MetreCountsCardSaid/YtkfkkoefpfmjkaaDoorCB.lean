import Derived.Test.YtkfkkoefpfmjkaaDoorCA
/- The first choice of the least cost is First's; how many choices there are; how long their signs. Plain. -/
namespace Go.Proofs.YtkfkkoefpfmjkaaDoor
set_option linter.unusedVariables false
set_option linter.unusedSimpArgs false
open Go.RowKit

theorem pickS_at (rows : List (List Way)) (s : ByteArray) (i : Nat) (st : St) : ∀ (l : List Way) (k j : Nat), j < l.length → nextB rows s i st (l.getD j default) = true → (∀ q, q < j → nextB rows s i st (l.getD q default) = false) →
    pickS rows s i l k st = (st.1 + (l.getD j default).1.size, (restT rows s (i + 1) (st.1 + (l.getD j default).1.size)).1, st.2.2 ++ [((k + j : Nat) : Int)])
  | [], k, j, hj, _, _ => by simp at hj
  | v :: l, k, 0, _, h, _ => by
    have h' : nextB rows s i st v = true := h
    unfold pickS
    rw [if_pos h']
    rfl
  | v :: l, k, j + 1, hj, h, hno => by
    have h0 : nextB rows s i st v = false := hno 0 (by omega)
    unfold pickS
    rw [if_neg (by rw [h0]; simp)]
    have := pickS_at rows s i st l (k + 1) j (by simpa using hj) h (fun q hq => hno (q + 1) (by omega))
    rw [this, show k + 1 + j = k + (j + 1) by omega]
    rfl
theorem pats_drop {rows : List (List Way)} (hp : ∀ l ∈ rows, 0 < l.length) (hn : (pats rows).length ≤ 4611686018427387904) : ∀ i, (pats (rows.drop i)).length ≤ 4611686018427387904
  | 0 => hn
  | i + 1 => by
    have ih := pats_drop hp hn i
    cases h : rows.drop i with
    | nil =>
      have : rows.drop (i + 1) = [] := by rw [← List.drop_drop, h]; rfl
      rw [this]; simp [pats]
    | cons l r =>
      have e : rows.drop (i + 1) = r := by rw [← List.drop_drop, h]; rfl
      rw [h] at ih
      rw [e]
      have hl : 0 < l.length := hp l (List.mem_of_mem_drop (by rw [h]; exact List.mem_cons_self ..))
      have : (pats (l :: r)).length = l.length * (pats r).length := patsK_len _ _ _
      exact Nat.le_trans (Nat.le_mul_of_pos_left _ hl) (by rw [← this]; exact ih)
theorem rest_G {rows : List (List Way)} (hp : ∀ l ∈ rows, 0 < l.length) (hn : (pats rows).length ≤ 4611686018427387904) (s : ByteArray) (i a : Nat) : restT rows s i a = cellS (G (rows.drop i) (s.data.toList.drop a)) :=
  (cell_of_sum _ _ (pats_drop hp hn i) (fun l h => hp l (List.mem_of_mem_drop h))).symm
theorem next_good {rows : List (List Way)} (hp : ∀ l ∈ rows, 0 < l.length) (hn : (pats rows).length ≤ 4611686018427387904) (s : ByteArray) (i : Nat) (st : St) (v : Way) :
    nextB rows s i st v = true ↔ goodP (rows.drop (i + 1)) (s.data.toList.drop st.1) st.2.1 v := by
  unfold nextB goodP
  rw [rest_G hp hn, List.drop_drop]
  simp only [Bool.and_eq_true, decide_eq_true_eq, cellS]
  constructor
  · rintro ⟨h1, h2, h3⟩
    have h2 := of_decide_eq_true h2
    exact ⟨h1, by omega, of_decide_eq_true h3⟩
  · rintro ⟨h1, h2, h3⟩
    exact ⟨h1, decide_eq_true (by omega), decide_eq_true h3⟩
theorem prefix_fit {s : ByteArray} {a : Nat} {v : ByteArray} (ha : a ≤ s.size) (h : Lib.hasPrefix (s.data.toList.drop a) v.data.toList = true) : a + v.size ≤ s.size := by
  have := hasPrefix_len h
  rw [List.length_drop, bsize, bsize] at this
  omega
theorem first_inv {rows : List (List Way)} (hp : ∀ l ∈ rows, 0 < l.length) (hn : (pats rows).length ≤ 4611686018427387904) (s : ByteArray) (h0 : (G rows s.data.toList).w ≠ 0) : ∀ i, i ≤ rows.length →
    (firstTo rows s (G rows s.data.toList).c i).1 ≤ s.size ∧ (G (rows.drop i) (s.data.toList.drop (firstTo rows s (G rows s.data.toList).c i).1)).w ≠ 0 ∧
    (G (rows.drop i) (s.data.toList.drop (firstTo rows s (G rows s.data.toList).c i).1)).c = (firstTo rows s (G rows s.data.toList).c i).2.1 ∧
    (firstTo rows s (G rows s.data.toList).c i).2.2 ++ (G (rows.drop i) (s.data.toList.drop (firstTo rows s (G rows s.data.toList).c i).1)).f = (G rows s.data.toList).f
  | 0, _ => ⟨Nat.zero_le _, h0, rfl, rfl⟩
  | i + 1, hi => by
    obtain ⟨h1, h2, h3, h4⟩ := first_inv hp hn s h0 i (by omega)
    have hd : rows.drop i = rows.getD i [] :: rows.drop (i + 1) := by
      rw [List.drop_eq_getElem_cons (by omega)]; congr 1
      rw [List.getD_eq_getElem?_getD, List.getElem?_eq_getElem (by omega)]; rfl
    have he : firstTo rows s (G rows s.data.toList).c (i + 1) = pickS rows s i (rows.getD i []) 0 (firstTo rows s (G rows s.data.toList).c i) := rfl
    generalize firstTo rows s (G rows s.data.toList).c i = st at *
    rw [hd] at h2 h3 h4
    rcases pick_any (rows.drop (i + 1)) (s.data.toList.drop st.1) (rows.getD i []) 0 Sm.zero _ rfl h2 with ⟨hz, _⟩ | ⟨j, hj, hg, hf, _, hno⟩
    · exact absurd rfl hz
    · have hg' : goodP (rows.drop (i + 1)) (s.data.toList.drop st.1) st.2.1 ((rows.getD i []).getD j default) := by rw [← h3]; exact hg
      have hpk := pickS_at rows s i st (rows.getD i []) 0 j hj ((next_good hp hn s i st _).2 hg') (fun q hq => by
        cases hb : nextB rows s i st ((rows.getD i []).getD q default) with
        | false => rfl
        | true => exact absurd (by have := (next_good hp hn s i st _).1 hb; rw [← h3] at this; exact this) (hno q hq))
      rw [he, hpk]
      have hdd : s.data.toList.drop (st.1 + ((rows.getD i []).getD j default).1.size) = (s.data.toList.drop st.1).drop ((rows.getD i []).getD j default).1.size := by rw [List.drop_drop]
      have hf' : (G (rows.getD i [] :: rows.drop (i + 1)) (s.data.toList.drop st.1)).f = ((0 + j : Nat) : Int) :: (G (rows.drop (i + 1)) ((s.data.toList.drop st.1).drop ((rows.getD i []).getD j default).1.size)).f := hf
      refine ⟨prefix_fit h1 hg.1, ?_, ?_, ?_⟩
      · show (G (rows.drop (i + 1)) (s.data.toList.drop (st.1 + _))).w ≠ 0
        rw [hdd]; exact hg.2.1
      · show (G (rows.drop (i + 1)) (s.data.toList.drop (st.1 + _))).c = (restT rows s (i + 1) (st.1 + _)).1
        rw [rest_G hp hn]; rfl
      · show (st.2.2 ++ [((0 + j : Nat) : Int)]) ++ (G (rows.drop (i + 1)) (s.data.toList.drop (st.1 + _))).f = _
        rw [← h4, hf', hdd, List.append_assoc]; rfl
theorem choice_G {m : Met} (h : mayB m = true) (hn : (pats (optsP m)).length ≤ 4611686018427387904) (s : ByteArray) (h0 : (G (optsP m) s.data.toList).w ≠ 0) : choiceP m s = (G (optsP m) s.data.toList).f := by
  have ho := opts_ok h
  obtain ⟨_, h2, _, h4⟩ := first_inv ho.pos hn s h0 _ (Nat.le_refl _)
  have hc : (restR (optsP m) s.data.toList).1 = (G (optsP m) s.data.toList).c := by rw [← cell_of_sum _ _ hn ho.pos]; rfl
  unfold choiceP
  rw [hc]
  rw [List.drop_length] at h2 h4
  rw [G_nil] at h2 h4
  split at h4
  · rw [List.append_nil] at h4; exact h4
  · rename_i hne; rw [if_neg hne] at h2; exact absurd rfl h2
/- how many -/
theorem fold_many : ∀ (rows : List (List Way)), (∀ l ∈ rows, 0 < l.length) → rows.foldl (fun n l => timesP n l.length) 4611686018427387904 = 4611686018427387904
  | [], _ => rfl
  | l :: r, h => by
    rw [List.foldl_cons, timesP_many (by have := h l (List.mem_cons_self ..); omega)]
    exact fold_many r fun x hx => h x (List.mem_cons_of_mem _ hx)
theorem fold_prod : ∀ (rows : List (List Way)) (a : Int), (∀ l ∈ rows, 0 < l.length) → 1 ≤ a → a ≤ 4611686018427387904 → rows.foldl (fun n l => timesP n l.length) a ≤ 2000 →
    rows.foldl (fun n l => timesP n l.length) a = a * ((pats rows).length : Int)
  | [], a, _, _, _, _ => by simp [pats]
  | l :: r, a, h, h1, h2, hle => by
    have hl := h l (List.mem_cons_self ..)
    have hr : ∀ x ∈ r, 0 < x.length := fun x hx => h x (List.mem_cons_of_mem _ hx)
    rw [List.foldl_cons] at hle ⊢
    have hb := timesP_bd h1 h2 (b := (l.length : Int)) (by omega)
    have hlen : ((pats (l :: r)).length : Int) = (l.length : Int) * ((pats r).length : Int) := by
      have : (pats (l :: r)).length = l.length * (pats r).length := patsK_len _ _ _
      rw [this]; simp
    by_cases hm : 4611686018427387904 / (l.length : Int) < a
    · have e : timesP a l.length = 4611686018427387904 := by unfold timesP; rw [if_pos hm]
      rw [e, fold_many r hr] at hle
      omega
    · have e : timesP a l.length = a * l.length := by unfold timesP; rw [if_neg hm]
      rw [fold_prod r _ hr hb.1 hb.2 hle, e, hlen, Int.mul_assoc]
theorem count_pats {m : Met} (h : mayB m = true) (hc : countP m ≤ 2000) : ((pats (optsP m)).length : Int) = countP m := by
  unfold countP countTo at hc ⊢
  rw [List.take_length] at hc ⊢
  have := fold_prod (optsP m) 1 (opts_ok h).pos (by omega) (by omega) hc
  rw [this]; omega
/- how long -/
theorem mem_patsK {R : List Pat} {p : Pat} : ∀ {l : List Way} {k : Nat}, p ∈ patsK R k l → ∃ v ∈ l, ∃ j : Int, ∃ q ∈ R, p = preP v j q
  | [], k, h => by cases h
  | v :: l, k, h => by
    unfold patsK at h
    rcases List.mem_append.1 h with h | h
    · obtain ⟨q, hq, rfl⟩ := List.mem_map.1 h
      exact ⟨v, List.mem_cons_self .., _, q, hq, rfl⟩
    · obtain ⟨u, hu, j, q, hq, e⟩ := mem_patsK h
      exact ⟨u, List.mem_cons_of_mem _ hu, j, q, hq, e⟩
theorem pats_signs : ∀ (rows : List (List Way)) (last : List Way), (∀ l ∈ rows, ∀ v ∈ l, v.1.size ≤ 4) → (∀ v ∈ last, v.1.size ≤ 2) → ∀ p ∈ pats (rows ++ [last]), p.s.length ≤ 4 * rows.length + 2
  | [], last, _, h2, p, hp => by
    obtain ⟨v, hv, j, q, hq, rfl⟩ := mem_patsK hp
    have : q = ⟨[], 0, []⟩ := by simpa [pats] using hq
    subst this
    show (v.1.data.toList ++ []).length ≤ _
    rw [List.append_nil, bsize]
    have := h2 v hv
    omega
  | l :: r, last, h1, h2, p, hp => by
    obtain ⟨v, hv, j, q, hq, rfl⟩ := mem_patsK hp
    have ih := pats_signs r last (fun x hx => h1 x (List.mem_cons_of_mem _ hx)) h2 q hq
    have := h1 l (List.mem_cons_self ..) v hv
    show (v.1.data.toList ++ q.s).length ≤ _
    rw [List.length_append, bsize, List.length_cons]
    omega
theorem pats_size {m : Met} (h : mayB m = true) : ∀ p ∈ pats (optsP m), p.s.length ≤ 66 := by
  intro p hp
  have ho := opts_ok h
  have hm := h
  unfold mayB at hm
  simp only [Bool.and_eq_true, decide_eq_true_eq] at hm
  obtain ⟨⟨⟨⟨_, h2⟩, h3⟩, _⟩, _⟩ := hm
  unfold waysB at h3
  simp only [Bool.and_eq_true, decide_eq_true_eq] at h3
  rw [optsP_def] at hp ho
  have := pats_signs (m.feet.map footRow) ((⟨#[]⟩, 0) :: m.ends) (fun l hl => ho.four l (List.mem_append_left _ hl)) (fun v hv => by
    rcases List.mem_cons.1 hv with rfl | hv
    · decide
    · have := signs_size (waysFrom_all h3.2 v hv).2.2; omega) p hp
  rw [List.length_map] at this
  omega
theorem sum_none {s : List UInt8} : ∀ {P : List Pat}, (∀ p ∈ P, p.s ≠ s) → sumP s P = Sm.zero
  | [], _ => rfl
  | p :: P, h => by
    rw [sum_cons, sum_none (fun q hq => h q (List.mem_cons_of_mem _ hq)), mrg_no rfl]
    unfold oneP
    rw [if_neg (h p (List.mem_cons_self ..))]
/- what Least and First tell, out of all choices -/
theorem least_G {m : Met} (h : mayB m = true) (hn : (pats (optsP m)).length ≤ 4611686018427387904) (s : ByteArray) :
    leastP m s = if (G (optsP m) s.data.toList).w = 0 then (0, 0, 4) else ((G (optsP m) s.data.toList).c, ((G (optsP m) s.data.toList).w : Int), 0) := by
  unfold leastP
  rw [if_pos h]
  by_cases hs : 66 < s.size
  · rw [if_pos hs, if_pos]
    unfold G
    rw [sum_none]
    · rfl
    · intro p hp e
      have := pats_size h p hp
      rw [e, bsize] at this
      omega
  · rw [if_neg hs, ← cell_of_sum _ _ hn (opts_ok h).pos]
    by_cases h0 : (G (optsP m) s.data.toList).w = 0
    · rw [if_pos h0, if_pos (by show (((G (optsP m) s.data.toList).w : Nat) : Int) = 0; omega)]
    · rw [if_neg h0, if_neg (by show ¬ (((G (optsP m) s.data.toList).w : Nat) : Int) = 0; omega)]
      rfl
end Go.Proofs.YtkfkkoefpfmjkaaDoor

import Derived.Test.YtkfkkoefpfmjkaaDoorMI
import Derived.Test.YtkfkkoefpfmjkaaDoorVA
/- What a text's metre is made of; an error is never 0: plain. -/
namespace Go.Proofs.YtkfkkoefpfmjkaaDoor
set_option linter.unusedVariables false
set_option linter.unusedSimpArgs false

structure StrOk (m : Met) : Prop where
  feet : ∀ f ∈ m.feet, f.own.size ≤ 4 ∧ ∀ v ∈ f.ways, v.1.size ≤ 4
  ends : ∀ v ∈ m.ends, v.1.size ≤ 4
theorem feetW_size : ∀ f ∈ feetW, f.2.1.length ≤ 4 := by decide +kernel
theorem signs_size {t : ByteArray} {lo hi : Int} (h : signsB t lo hi = true) : (t.size : Int) ≤ hi := by
  unfold signsB at h
  simp only [Bool.and_eq_true, decide_eq_true_eq] at h
  exact h.2.2
theorem footB_size (t : ByteArray) : (footB t).1.size ≤ 4 := by
  unfold footB
  split
  · rename_i h
    have := signs_size h
    simp only []; omega
  · split
    · exact Nat.zero_le _
    · split
      · rename_i f hf
        exact feetW_size f (List.mem_of_find?_eq_some hf)
      · exact Nat.zero_le _
def ResOk : Res → Prop
  | .error (c, _) => c ≠ 0
  | .ok (_, m) => StrOk m
theorem tail_res {n : Int} {at0 : Nat} {L : List Tok} {m : Met} (hm : StrOk m) : ResOk (groupTail n at0 L m) := by
  unfold groupTail
  split
  · split
    · refine ⟨fun f hf => ?_, hm.ends⟩
      rcases List.mem_append.1 hf with hf | hf
      · exact hm.feet f hf
      · have := List.eq_of_mem_replicate hf
        subst this
        exact ⟨footB_size _, fun v hv => by cases hv⟩
    · exact (by decide : (3 : Int) ≠ 0)
  · rename_i h; exact h
theorem group_res {L : List Tok} {m : Met} (hm : StrOk m) : ResOk (groupP L m) := by
  unfold groupP
  split
  · split
    · exact tail_res hm
    · rename_i h; exact h
  · exact tail_res hm
theorem lay_str {fs : List Ft} {i n : Nat} {sg : ByteArray} {c : Int} {all : Bool} (h : ∀ f ∈ fs, f.own.size ≤ 4 ∧ ∀ v ∈ f.ways, v.1.size ≤ 4) (hs : sg.size ≤ 4) : ∀ f ∈ layR fs i n sg c all, f.own.size ≤ 4 ∧ ∀ v ∈ f.ways, v.1.size ≤ 4 := by
  intro f hf
  unfold layR at hf
  rcases List.mem_append.1 hf with hf | hf
  · rcases List.mem_append.1 hf with hf | hf
    · exact h f (List.mem_of_mem_take hf)
    · obtain ⟨g, hg, rfl⟩ := List.mem_map.1 hf
      have hg' := h g (List.mem_of_mem_drop (List.mem_of_mem_take hg))
      unfold layF
      split
      · refine ⟨hg'.1, fun v hv => ?_⟩
        rcases List.mem_append.1 hv with hv | hv
        · exact hg'.2 v hv
        · simp at hv; subst hv; exact hs
      · exact hg'
  · exact h f (List.mem_of_mem_drop hf)
theorem ways_res : ∀ (f : Nat) (L : List Tok) (m : Met) (i n : Nat) (all : Bool), StrOk m → ResOk (waysP f L m i n all)
  | 0, _, _, _, _, _, _ => (by decide : (130 : Int) ≠ 0)
  | f + 1, L, m, i, n, all, hm => by
    unfold waysP
    split
    · split
      · split
        · have hm2 : StrOk { m with feet := layR m.feet i n (footB (hd L).2).1 (numE (hd (adv L)).2 0 1048576).1 all } := ⟨lay_str hm.feet (footB_size _), hm.ends⟩
          split
          · exact ways_res f _ _ _ _ _ hm2
          · exact hm2
        · rename_i h; exact h
      · rename_i h; exact h
    · rename_i h; exact h
theorem ends_res : ∀ (f : Nat) (L : List Tok) (m : Met), StrOk m → ResOk (endsP f L m)
  | 0, _, _, _ => (by decide : (130 : Int) ≠ 0)
  | f + 1, L, m, hm => by
    unfold endsP
    split
    · rename_i hsg
      split
      · exact (by decide : (132 : Int) ≠ 0)
      · split
        · exact (by decide : (3 : Int) ≠ 0)
        · split
          · have hm2 : StrOk { m with ends := m.ends ++ [((hd L).2, (numE (hd (adv L)).2 0 1048576).1)] } := ⟨hm.feet, fun v hv => by
              rcases List.mem_append.1 hv with hv | hv
              · exact hm.ends v hv
              · simp at hv; subst hv
                have := signs_size hsg
                show (hd L).2.size ≤ 4
                omega⟩
            split
            · exact ends_res f _ _ hm2
            · exact hm2
          · rename_i h; exact h
    · exact (by decide : (130 : Int) ≠ 0)
theorem pause_res {L : List Tok} {m : Met} (hm : StrOk m) : ResOk (pauseP L m) := by
  unfold pauseP
  split
  · split
    · exact ⟨hm.feet, hm.ends⟩
    · rename_i h; exact h
  · rename_i h; exact h
theorem clause_res {L : List Tok} {m : Met} (hm : StrOk m) : ResOk (clauseP L m) := by
  unfold clauseP
  split
  · exact ways_res _ _ _ _ _ _ hm
  · split
    · exact ends_res _ _ _ hm
    · split
      · exact pause_res hm
      · split
        · split
          · exact ways_res _ _ _ _ _ _ hm
          · rename_i h; exact h
        · exact (by decide : (130 : Int) ≠ 0)
def EndOk : Except (Int × Nat) Met → Prop
  | .error (c, _) => c ≠ 0
  | .ok m => StrOk m
theorem clauses_res : ∀ (f : Nat) (L : List Tok) (m : Met), StrOk m → EndOk (clausesP f L m)
  | 0, _, _, _ => (by decide : (130 : Int) ≠ 0)
  | f + 1, L, m, hm => by
    unfold clausesP
    split
    · exact hm
    · split
      · have hc := clause_res (L := adv L) hm
        cases h : clauseP (adv L) m with
        | error x => rw [h] at hc; exact hc
        | ok x => rw [h] at hc; exact clauses_res f _ _ hc
      · exact (by decide : (130 : Int) ≠ 0)
theorem groups_res : ∀ (f : Nat) (L : List Tok) (m : Met), StrOk m → EndOk (groupsP f L m)
  | 0, _, _, _ => (by decide : (130 : Int) ≠ 0)
  | f + 1, L, m, hm => by
    unfold groupsP
    have hc := group_res (L := L) hm
    cases h : groupP L m with
    | error x => rw [h] at hc; exact hc
    | ok x =>
      rw [h] at hc
      simp only []
      split
      · exact groups_res f _ _ hc
      · exact clauses_res _ _ _ hc
theorem read_res (s : ByteArray) : EndOk (readP s) := by
  unfold readP
  split
  · exact (by decide : (3 : Int) ≠ 0)
  · exact groups_res _ _ _ ⟨(fun f hf => by cases hf), (fun v hv => by cases hv)⟩
theorem read_bounded {s : ByteArray} {m : Met} (h : readP s = .ok m) (hz : Sized m) : Bounded m := by
  have hs := read_res s
  rw [h] at hs
  refine ⟨by have := hz.feet; omega, fun f hf => ?_, ⟨by have := hz.ends; omega, fun v hv => by have := hs.ends v hv; omega⟩, by have := hz.brk; omega⟩
  obtain ⟨h1, h2⟩ := hs.feet f hf
  refine ⟨?_, by omega, fun v hv => by have := h2 v hv; omega⟩
  obtain ⟨k, hk, he⟩ := List.mem_iff_getElem.1 hf
  have := hz.ways k hk
  rw [List.getD_eq_getElem?_getD, List.getElem?_eq_getElem hk, he] at this
  simp only [Option.getD_some] at this
  omega
theorem read_err {s : ByteArray} {c : Int} {p : Nat} (h : readP s = .error (c, p)) : c ≠ 0 := by
  have hs := read_res s
  rw [h] at hs; exact hs
end Go.Proofs.YtkfkkoefpfmjkaaDoor

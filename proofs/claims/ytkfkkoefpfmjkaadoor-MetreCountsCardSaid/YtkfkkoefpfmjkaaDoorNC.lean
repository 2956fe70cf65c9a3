import Derived.Test.YtkfkkoefpfmjkaaDoorNB
import Derived.Test.YtkfkkoefpfmjkaaDoorVE
import Derived.LoopN
namespace Go.Proofs.YtkfkkoefpfmjkaaDoor
set_option linter.unusedVariables false
set_option linter.unusedSimpArgs false
open Go.RowKit Go.Shelf
attribute [local go_sem] Oper.semAt_some

/- MetreNames, walked. -/
def markD (D : Nat) : Deferred := { target := .collected D, args := #[] }
theorem leaves_marks {F : Fence} {n : Nat} {P : Program} {fn : Func} {tmps : Array Value} {R : Ending → World → Prop} : ∀ (Ds : List Nat) (W : World), Ds.Nodup → (∀ D ∈ Ds, W.heap[D]? = some (.deferred (some []))) →
    (∀ W', (∀ k, k ∉ Ds → W'.heap[k]? = W.heap[k]?) → (∀ B, (∀ D ∈ Ds, B ≤ D) → B ≤ W.heap.size → Below B W W') → LeavesIn F n P fn tmps R [] .returning W') → LeavesInM F n P fn tmps R (Ds.map markD) .returning W
  | [], W, _, _, h => h W (fun _ _ => rfl) (fun B _ _ => Below.refl B W)
  | D :: Ds, W, hnd, hd, h => by
    refine ⟨by simp, .inl ⟨D, _, rfl, run_takeDeferred (hd D (by simp)), ?_⟩⟩
    rw [List.nodup_cons] at hnd
    refine leaves_marks Ds _ hnd.2 (fun D' hD' => ?_) (fun W' h1 h2 => h W' (fun k hk => ?_) (fun B hB hs => ?_))
    · exact (World.putObj_heap_other (fun e : D' = D => hnd.1 (by rw [← e]; exact hD'))).trans (hd D' (by simp [hD']))
    · exact (h1 k (fun hk' => hk (by simp [hk']))).trans (World.putObj_heap_other (fun e => hk (by simp [e])))
    · have := h2 B (fun D' hD' => hB D' (by simp [hD'])) (by simpa using hs)
      refine Below.trans ?_ this
      exact (Below.refl B W).grown (grownBy_putObj' W D _) hs (fun k e => by cases e; exact hB D (by simp))

/-- what lies between the law's loops -/
structure NR (w : World) (bN : Nat) (Ds : List Nat) (V : World) : Prop where
  r : V.heap[w.heap.size]? = some (.cells #[.bool false] 4 (0, 0))
  n : V.heap[bN]? = some (.cells namesC 39 (0, 0))
  l : V.heap[bN + 1]? = some (.cells #[.slice (some ⟨bN, 0, none⟩) 14 14] 37 (0, 0))
  b : Below w.heap.size w V
  lt : w.heap.size < bN
  ds : ∀ D ∈ Ds, bN + 1 < D ∧ V.heap[D]? = some (.deferred (some []))
  nd : Ds.Nodup
theorem NR.grown {w V V' : World} {bN : Nat} {Ds : List Nat} {row : Option Nat} (h : NR w bN Ds V) (hg : V.grownBy V' row) (h1 : row ≠ some w.heap.size) (h2 : row ≠ some bN) (h3 : row ≠ some (bN + 1)) (h4 : ∀ D ∈ Ds, row ≠ some D) (h5 : ∀ k, row = some k → w.heap.size ≤ k) : NR w bN Ds V' :=
  ⟨(hg.block _ (Array.getElem?_eq_some_iff.1 h.r).1 (fun e => h1 e.symm)).trans h.r, (hg.block _ (Array.getElem?_eq_some_iff.1 h.n).1 (fun e => h2 e.symm)).trans h.n, (hg.block _ (Array.getElem?_eq_some_iff.1 h.l).1 (fun e => h3 e.symm)).trans h.l,
    h.b.grown hg h.b.size h5, h.lt, fun D hD => ⟨(h.ds D hD).1, (hg.block _ (Array.getElem?_eq_some_iff.1 (h.ds D hD).2).1 (fun e => h4 D hD e.symm)).trans (h.ds D hD).2⟩, h.nd⟩
theorem NR.size {w V : World} {bN : Nat} {Ds : List Nat} (h : NR w bN Ds V) : bN + 1 < V.heap.size := (Array.getElem?_eq_some_iff.1 h.l).1
theorem NR.abides {w V0 V V' : World} {bN : Nat} {Ds : List Nat} {row : Option Nat} (h0 : NR w bN Ds V0) (h : NR w bN Ds V) (hg : V.grownBy V' row) (hr : ∀ r, row = some r → V0.heap.size ≤ r) : NR w bN Ds V' := by
  have a := h0.size
  have b := h0.lt
  refine h.grown hg ?_ ?_ ?_ ?_ ?_
  · intro e; have := hr _ e; omega
  · intro e; have := hr _ e; omega
  · intro e; have := hr _ e; omega
  · intro D hD e; have := hr _ e; have := (Array.getElem?_eq_some_iff.1 (h0.ds D hD).2).1; omega
  · intro k e; have := hr _ e; omega
theorem NR.more {w V : World} {bN : Nat} {Ds : List Nat} {D : Nat} (h : NR w bN Ds V) (hD : V.heap[D]? = some (.deferred (some []))) (h1 : ∀ D' ∈ Ds, D' ≠ D) (h2 : bN + 1 < D) : NR w bN (D :: Ds) V :=
  ⟨h.r, h.n, h.l, h.b, h.lt, fun D' hD' => (List.mem_cons.1 hD').elim (fun e => by subst e; exact ⟨h2, hD⟩) (fun hd => h.ds D' hd), by rw [List.nodup_cons]; exact ⟨fun hd => h1 D hd rfl, h.nd⟩⟩
theorem NR.below {w V V' : World} {bN : Nat} {Ds : List Nat} (h : NR w bN Ds V) (hb : Below V.heap.size V V') : NR w bN Ds V' :=
  h.abides h (only_of_below hb none) (fun r e => by cases e)
theorem NR.c0 {w V : World} {bN : Nat} {Ds : List Nat} (h : NR w bN Ds V) : V.cell? ⟨bN + 1, 0, none⟩ = some (.slice (some ⟨bN, 0, none⟩) 14 14) := cell_of_row _ _ _ _ 37 (0, 0) h.l
theorem namesC_at : ∀ j, j < 14 → namesC[j * 3]? = some (strL (footAt j).1) ∧ namesC[j * 3 + 1]? = some (strL (footAt j).2.1) ∧ namesC[j * 3 + 2]? = some (strL (footAt j).2.2)
  | 0, _ => ⟨rfl, rfl, rfl⟩ | 1, _ => ⟨rfl, rfl, rfl⟩ | 2, _ => ⟨rfl, rfl, rfl⟩ | 3, _ => ⟨rfl, rfl, rfl⟩ | 4, _ => ⟨rfl, rfl, rfl⟩ | 5, _ => ⟨rfl, rfl, rfl⟩ | 6, _ => ⟨rfl, rfl, rfl⟩
  | 7, _ => ⟨rfl, rfl, rfl⟩ | 8, _ => ⟨rfl, rfl, rfl⟩ | 9, _ => ⟨rfl, rfl, rfl⟩ | 10, _ => ⟨rfl, rfl, rfl⟩ | 11, _ => ⟨rfl, rfl, rfl⟩ | 12, _ => ⟨rfl, rfl, rfl⟩ | 13, _ => ⟨rfl, rfl, rfl⟩
  | n + 14, h => by omega
theorem NR.cn {w V : World} {bN : Nat} {Ds : List Nat} (h : NR w bN Ds V) {j : Nat} (hj : j < 14) : V.cell? ⟨bN, j * 3, none⟩ = some (.string ⟨(footAt j).1.toArray⟩) ∧ V.cell? ⟨bN, j * 3 + 1, none⟩ = some (.string ⟨(footAt j).2.1.toArray⟩) ∧ V.cell? ⟨bN, j * 3 + 2, none⟩ = some (.string ⟨(footAt j).2.2.toArray⟩) := by
  refine ⟨?_, ?_, ?_⟩
  · rw [cell_of_row _ _ _ _ 39 (0, 0) h.n]; exact (namesC_at j hj).1
  · rw [cell_of_row _ _ _ _ 39 (0, 0) h.n]; exact (namesC_at j hj).2.1
  · rw [cell_of_row _ _ _ _ 39 (0, 0) h.n]; exact (namesC_at j hj).2.2
theorem foot_inj {x k : Nat} (hk : k < 14) (h : (footAt x).1 = (footAt k).1) : x = k := by
  by_cases hx : x < 14
  · have : ∀ a, a < 14 → ∀ b, b < 14 → (footAt a).1 = (footAt b).1 → a = b := by decide +kernel
    exact this x hx k hk h
  · have e : footAt x = ([], [], []) := by
      unfold footAt
      rw [List.getD_eq_getElem?_getD, List.getElem?_eq_none (by show 14 ≤ x; omega)]; rfl
    have : ∀ b, b < 14 → (footAt b).1 ≠ [] := by decide +kernel
    rw [e] at h
    exact absurd h.symm (this k hk)
theorem named_self : ∀ k, k < 14 → namedSigns (footAt k).1 = (footAt k).2.1 ∧ namedOk (footAt k).1 = true := by decide +kernel
/- what the law gathers: the last of the table -/
def gathS (t : List UInt8) (a : List UInt8) (f : F3) : List UInt8 := if f.1 == t then f.2.1 else a
def gathB (t : List UInt8) (a : Bool) (f : F3) : Bool := if f.1 == t then true else a
theorem gath_find (t : List UInt8) : ∀ (l : List F3) (a : List UInt8) (b : Bool), (l.map (·.1)).Nodup → l.foldl (gathS t) a = (match l.find? (fun f => f.1 == t) with | some f => f.2.1 | none => a) ∧ l.foldl (gathB t) b = ((l.find? (fun f => f.1 == t)).isSome || b)
  | [], a, b, _ => by simp
  | f :: l, a, b, h => by
    rw [List.map_cons, List.nodup_cons] at h
    have ih := gath_find t l (gathS t a f) (gathB t b f) h.2
    simp only [List.foldl_cons, ih.1, ih.2, List.find?_cons]
    cases hf : f.1 == t with
    | true =>
      have e : l.find? (fun f => f.1 == t) = none := by
        rw [List.find?_eq_none]
        intro g hg hgt
        have : f.1 = g.1 := by rw [eq_of_beq hf, eq_of_beq hgt]
        exact h.1 (this ▸ List.mem_map_of_mem hg)
      simp [e, gathS, gathB, hf]
    | false => simp [gathS, gathB, hf]
theorem gath_all (t : List UInt8) : feetW.foldl (gathS t) [] = namedSigns t ∧ feetW.foldl (gathB t) false = namedOk t := by
  have h := gath_find t feetW [] false (by decide +kernel)
  rw [h.1, h.2]
  unfold namedSigns namedOk byName
  exact ⟨rfl, by simp⟩
theorem gath_succ (t : List UInt8) (k : Nat) (hk : k < 14) (b : Bool) (h : ((footAt k).1 == t) = b) : (feetW.take (k + 1)).foldl (gathS t) [] = (if b then (footAt k).2.1 else (feetW.take k).foldl (gathS t) []) ∧ (feetW.take (k + 1)).foldl (gathB t) false = (if b then true else (feetW.take k).foldl (gathB t) false) := by
  have e : feetW.take (k + 1) = feetW.take k ++ [footAt k] := by
    rw [List.take_succ_eq_append_getElem (by show k < 14; exact hk)]
    simp [footAt, List.getD_eq_getElem?_getD, show k < feetW.length from hk]
  rw [e, List.foldl_append, List.foldl_append]
  subst h
  exact ⟨rfl, rfl⟩

def NamesPost (w : World) : Exit → Act → World → Prop
  | .ret, a, W => ∃ Ds : List Nat, a.defers = Ds.map markD ∧ Ds.Nodup ∧ (∀ D ∈ Ds, w.heap.size < D ∧ W.heap[D]? = some (.deferred (some []))) ∧ a.tmps[2]? = some (.pointer (some ⟨w.heap.size, 0, none⟩)) ∧
      W.heap[w.heap.size]? = some (.cells #[.bool true] 4 (0, 0)) ∧ Below w.heap.size w W
  | _, _, _ => False
theorem eql_func (w : World) : Sem.run Tryd.prog (binOp .eql 43 (.func (.func 52) #[] #[]) .nilFunc) w = .ok (.bool false) w := by
  kernel_rfl
theorem names19 (w : World) : Calls Tryd.prog 19 #[] w fun e w' => e = .returned (.func (.func 52) #[] #[]) ∧ w = w' := by
  go_enter Tryd.func19, Tryd.ntmps19
  go_wp2_with fail
  go_ret
  exact ⟨rfl, rfl⟩
theorem named18 (k : Nat) (hk : k < 14) (W : World) : Calls Tryd.prog 18 #[.string ⟨(footAt k).1.toArray⟩] W fun e w' => e = .returned (.tuple #[.string ⟨(footAt k).2.1.toArray⟩, .bool true]) ∧ Below W.heap.size W w' := by
  have h := named_any ⟨(footAt k).1.toArray⟩ W
  have e := named_self k hk
  simp only [e.1, e.2] at h
  exact h
set_option maxRecDepth 100000 in
theorem arr_Fr4 (f : Nat → Value) : #[f 0, f 1, f 2, f 3, f 4, f 5, f 6, f 7, f 8, f 9, f 10, f 11, f 12, f 13, f 14, f 15, f 16, f 17, f 18, f 19, f 20, f 21, f 22, f 23, f 24, f 25, f 26, f 27, f 28, f 29, f 30, f 31, f 32, f 33, f 34, f 35, f 36, f 37, f 38, f 39, f 40, f 41, f 42, f 43, f 44, f 45, f 46, f 47, f 48, f 49, f 50, f 51, f 52, f 53, f 54, f 55, f 56, f 57, f 58, f 59, f 60, f 61, f 62, f 63, f 64, f 65, f 66, f 67, f 68, f 69, f 70, f 71, f 72, f 73, f 74, f 75, f 76, f 77, f 78, f 79, f 80, f 81, f 82, f 83, f 84, f 85, f 86, f 87, f 88, f 89, f 90, f 91, f 92, f 93, f 94, f 95, f 96, f 97, f 98, f 99, f 100, f 101] = ((List.range 102).map f).toArray := rfl
theorem arrOf_Fr4 (t : Array Value) (h : t.size = 102) : t = ((List.range 102).map fun n => t.getD n undef).toArray := by
  apply Array.ext
  · simp [h]
  · intro i h1 h2
    simp [Array.getD, h1]
def Fr4 (B bN bn x : Nat) (a : Act) : Prop := ∃ f : Nat → Value, a = { tmps := #[f 0, f 1, .pointer (some ⟨B, 0, none⟩), f 3, f 4, .pointer (some ⟨bN + 1, 0, none⟩), f 6, f 7, f 8, f 9, f 10, f 11, f 12, f 13, .pointer (some ⟨bn, 0, none⟩), .string ⟨(footAt x).1.toArray⟩, .string ⟨(footAt x).2.1.toArray⟩, f 17, f 18, f 19, f 20, f 21, f 22, f 23, f 24, f 25, f 26, f 27, f 28, f 29, f 30, f 31, f 32, f 33, f 34, f 35, f 36, f 37, f 38, f 39, f 40, f 41, f 42, f 43, f 44, f 45, f 46, f 47, f 48, f 49, f 50, f 51, f 52, f 53, f 54, f 55, f 56, f 57, f 58, f 59, f 60, f 61, f 62, f 63, f 64, f 65, f 66, f 67, f 68, f 69, f 70, f 71, f 72, f 73, f 74, f 75, f 76, f 77, f 78, f 79, f 80, f 81, f 82, f 83, f 84, f 85, f 86, f 87, f 88, f 89, f 90, f 91, f 92, f 93, f 94, f 95, f 96, f 97, f 98, f 99, f 100, f 101], defers := [] }
set_option maxRecDepth 100000 in
theorem Fr4.of {B bN bn x : Nat} {a : Act} (hd : a.defers = []) (hs : a.tmps.size = 102) (h2 : a.tmps.getD 2 undef = .pointer (some ⟨B, 0, none⟩)) (h5 : a.tmps.getD 5 undef = .pointer (some ⟨bN + 1, 0, none⟩)) (h14 : a.tmps.getD 14 undef = .pointer (some ⟨bn, 0, none⟩)) (h15 : a.tmps.getD 15 undef = .string ⟨(footAt x).1.toArray⟩) (h16 : a.tmps.getD 16 undef = .string ⟨(footAt x).2.1.toArray⟩) : Fr4 B bN bn x a := by
  refine ⟨fun n => a.tmps.getD n undef, ?_⟩
  have e := (arrOf_Fr4 a.tmps hs).trans (arr_Fr4 fun n => a.tmps.getD n undef).symm
  obtain ⟨t, d⟩ := a
  simp only [] at *
  rw [h2, h5, h14, h15, h16] at e
  rw [hd, ← e]
def NAt (b k : Nat) (V : World) : Prop := V.heap[b]? = some (.cells #[.int .i64 k] 3 (0, 0))

set_option maxRecDepth 100000 in
set_option maxHeartbeats 8000000 in
theorem names4_any (t : ByteArray) (w : World) (hv : Vars w) :
    Calls Tryd.prog 4 #[.string t] w fun e w' => e = .returned (.bool true) ∧ Below w.heap.size w w' := by
  refine (callsIn_wide (n := 8)).1 ?_
  refine callsIn_of_wp_marks Tryd.func4 rfl trivial ?_ rfl
  simp only [Tryd.ntmps4, List.size_toArray, List.length_cons, List.length_nil, Nat.reduceAdd, Nat.reduceSub, Array.replicate_succ, Array.replicate_zero, List.push_toArray, List.append_toArray, List.nil_append, List.cons_append]
  refine wpIn_wide.2 (Code.wp_mono (Q := NamesPost w) ?_ ?_)
  · rintro e a W hq
    cases e <;> try exact hq.elim
    obtain ⟨Ds, hd, hnd, hds, h2, hc, hb⟩ := hq
    obtain ⟨T, df⟩ := a
    simp only [] at hd h2
    subst hd
    have h2' : T[2]?.getD undef = .pointer (some ⟨w.heap.size, 0, none⟩) := by rw [h2]; rfl
    refine leaves_marks Ds W hnd (fun D hD => (hds D hD).2) (fun W' h3 h4 => ?_)
    have hc' : W'.cell? ⟨w.heap.size, 0, none⟩ = some (.bool true) := cell_of_row _ _ _ _ 4 (0, 0) ((h3 _ (fun hD => by have := (hds _ hD).1; omega)).trans hc)
    refine ⟨.bool true, ?_, rfl, hb.trans (h4 w.heap.size (fun D hD => Nat.le_of_lt (hds D hD).1) hb.size)⟩
    simp [results, Tryd.f4, go_sem, h2', hc']
  have hvA := hv.below (w' := w.alloc (.cells #[.bool false] 4)) ((Below.refl w.heap.size w).alloc (Nat.le_refl _) _) hv.six
  have hwk := wakes_any (w.alloc (.cells #[.bool false] 4)) (by exact hvA)
  have Hwk := Lib.hid hwk
  have Hv := Lib.hid hv
  clear hwk hvA hv
  go_wp2_with fail
  refine Hwk.out.mono ?_
  rintro e w2 ⟨rfl, hb2⟩
  have r2 : w2.heap[w.heap.size]? = some (.cells #[.bool false] 4 (0, 0)) := (hb2.block _ (by simp)).trans (World.alloc_heap_new w _)
  have b2 : Below w.heap.size w w2 := ((Below.refl w.heap.size w).alloc (Nat.le_refl _) _).trans (hb2.mono (by simp))
  have s2 : w.heap.size < w2.heap.size := (Array.getElem?_eq_some_iff.1 r2).1
  clear hb2
  go_wp2_with fail
  refine (refnamed_any w2).mono ?_
  rintro e w3 ⟨rfl, hw3⟩
  have s3 : w3.heap.size = w2.heap.size + 1 := by rw [hw3]; simp
  have hN0 : NR w w2.heap.size [] (w3.alloc (.cells #[.slice (some ⟨w2.heap.size, 0, none⟩) 14 14] 37)) := by
    subst hw3
    refine ⟨((Below.heap_alloc _ _ _ (by omega)).trans (Below.heap_alloc _ _ _ s2)).trans r2, (Below.heap_alloc _ _ _ (by omega)).trans (World.alloc_heap_new w2 _), ?_, (b2.alloc (by omega) _).alloc (by omega) _, s2, fun D hD => (by cases hD), List.nodup_nil⟩
    rw [← s3]; exact World.alloc_heap_new _ _
  have HN0 := Lib.hid hN0
  have hbl : w3.heap.size = w2.heap.size + 1 := s3
  have Hv3 := Lib.hid (Hv.out.below hN0.b Hv.out.six)
  clear hw3 hN0 r2 b2
  generalize hbN : w2.heap.size = bN at *
  have Hsz := Lib.hid HN0.out.size
  generalize hW4 : w3.alloc _ = W4 at HN0 Hv3 Hsz
  have l0 := HN0.out.c0
  have HW4 := Lib.hid hW4
  clear hW4
  go_wp2_with fail
  rw [HW4.out]
  go_loopw [3, 4, 22] (fun a b i wr => ∃ k : Nat, k ≤ 14 ∧ i = .int .i64 k ∧ a = .string ⟨((feetW.take k).foldl (gathS t.data.toList) []).toArray⟩ ∧ b = .bool ((feetW.take k).foldl (gathB t.data.toList) false) ∧ Hid (NR w bN [] wr)) (fun _ _ i _ => 14 - (intOf i).toNat)
  case atStart => exact ⟨0, by omega, rfl, rfl, rfl, HN0⟩
  case round =>
    rename_i wr
    obtain ⟨k, hk, rfl, rfl, rfl, hr⟩ := hrel
    by_cases hlt : k < 14
    · obtain ⟨n1, n2, n3⟩ := hr.out.cn hlt
      have hsz := hr.out.size
      have HA := Lib.hid (hr.out.below ((Below.refl wr.heap.size wr).alloc (Nat.le_refl _) (.cells #[.string ⟨(footAt k).1.toArray⟩, .string ⟨(footAt k).2.1.toArray⟩, .string ⟨(footAt k).2.2.toArray⟩] 39)))
      have H18 := Lib.hid (named18 k hlt)
      have HG := Lib.hid (gath_succ t.data.toList k hlt)
      have HA1 : Hid ((wr.alloc (.cells #[.string ⟨(footAt k).1.toArray⟩, .string ⟨(footAt k).2.1.toArray⟩, .string ⟨(footAt k).2.2.toArray⟩] 39)).heap[wr.heap.size]? = _) := Lib.hid (World.alloc_heap_new wr _)
      have hfn := foot_name k t
      cases hP : ((footAt k).1 == t.data.toList) with
      | true =>
        rw [hP] at hfn
        have HG2 := Lib.hid (HG.out true hP)
        clear HG hP
        go_wp2_with fail
        refine (H18.out _).mono ?_
        rintro e w5 ⟨rfl, hb5⟩
        have c5 : w5.cell? ⟨wr.heap.size, 1, none⟩ = some (.string ⟨(footAt k).2.1.toArray⟩) := cell_of_row _ _ _ _ 39 (0, 0) ((hb5.block _ (by simp)).trans HA1.out)
        have HN5 := Lib.hid (HA.out.below hb5)
        clear hb5 hfn
        go_wp2_with fail
        go_roundw
        case rel => exact ⟨k + 1, by omega, by go_num, by rw [HG2.out.1]; rfl, by rw [HG2.out.2]; rfl, HN5⟩
        case measure => simp [intOf]; omega
      | false =>
        rw [hP] at hfn
        have HG2 := Lib.hid (HG.out false hP)
        clear HG hP
        go_wp2_with fail
        refine (H18.out _).mono ?_
        rintro e w5 ⟨rfl, hb5⟩
        have c5 : w5.cell? ⟨wr.heap.size, 1, none⟩ = some (.string ⟨(footAt k).2.1.toArray⟩) := cell_of_row _ _ _ _ 39 (0, 0) ((hb5.block _ (by simp)).trans HA1.out)
        have HN5 := Lib.hid (HA.out.below hb5)
        clear hb5 hfn
        go_wp2_with fail
        go_roundw
        case rel => exact ⟨k + 1, by omega, by go_num, by rw [HG2.out.1]; rfl, by rw [HG2.out.2]; rfl, HN5⟩
        case measure => simp [intOf]; omega
    · obtain rfl : k = 14 := by omega
      have hga := gath_all t.data.toList
      have e14 : feetW.take 14 = feetW := rfl
      rw [e14, hga.1, hga.2]
      have hna := named_any t wr
      have HNa := Lib.hid hna
      clear hna hga e14 HN0 l0 HW4
      go_wp2_with fail
      refine HNa.out.mono ?_
      rintro e w5 ⟨rfl, hb5⟩
      have HN5 := Lib.hid (hr.out.below hb5)
      clear hb5 hr HNa
      go_wp2_with fail
      refine (names19 w5).mono ?_
      rintro e w5' ⟨rfl, rfl⟩
      have heq := eql_func w5
      go_wp2_with fail
      refine wp_loop_rounds 3 ?_
      rw [rounds_succ]
      go_wp2_with fail
      refine wpIn_wide.1 (?_ : Code.wpIn Fence.wide 8 _ _ _ _ _)
      generalize hX0 : World.alloc w5 _ = X0
      have sX0 : X0.heap.size = w5.heap.size + 1 := by rw [← hX0]; simp
      have hN0 : NR w bN [] X0 := HN5.out.below (by rw [← hX0]; exact (Below.refl _ _).alloc (Nat.le_refl _) _)
      have hc0 : NAt w5.heap.size 0 X0 := by rw [← hX0]; exact World.alloc_heap_new _ _
      have zX0 := HN5.out.size
      clear hX0
      refine range_keep (F := Fence.wide) rfl (by omega : 1 ≤ 8) (gf := 52) (lb := #[]) rfl trivial (enters_of Tryd.func52 (by kernel_rfl) rfl) (names_seq (8 - 1) (by omega) X0) (fun _ => rfl)
        (fun pre V => pre = List.range pre.length ∧ NR w bN [] V ∧ NAt w5.heap.size pre.length V) (fun c pre V => c = .ret ∧ ∃ p x, pre = p ++ [x] ∧ x ≠ p.length)
        ?hI0 ?hIx0 ⟨rfl, hN0, hc0⟩ (fun x a' _ => Fr4 w.heap.size bN w5.heap.size x a') ?assign0 ?body0 ?hAx0 ?done0 ?stop0
      case hI0 =>
        rintro s A B row ⟨h1, h2, h3⟩ hg hr
        exact ⟨h1, hN0.abides h2 hg hr, (hg.block _ (Array.getElem?_eq_some_iff.1 h3).1 (fun e => by have := hr _ e.symm; omega)).trans h3⟩
      case hIx0 => exact fun _ _ _ _ _ hs _ _ => hs
      case hAx0 => exact fun _ _ _ _ _ _ hs _ _ => hs
      case assign0 =>
        intro l2 pre x V K hi hsz hK
        simp only [pairV, strL]
        gi_wp2
        exact hK _ _ (KeepsAll.refl _ _) hi (Fr4.of rfl rfl rfl rfl rfl rfl rfl)
      case body0 =>
        rintro l2 pre x a' V ⟨hp, hn, hc⟩ hlen ⟨f, rfl⟩ hsz
        obtain ⟨n1, n2, n3⟩ := hn.cn hlen
        have l0 := hn.c0
        have c0 : V.cell? ⟨w5.heap.size, 0, none⟩ = some (.int .i64 pre.length) := cell_of_row _ _ _ _ 3 (0, 0) hc
        have z0 := frozen_of_row V w5.heap.size 0 _ 3 hc
        have r0 : V.cell? ⟨w.heap.size, 0, none⟩ = some (.bool false) := cell_of_row _ _ _ _ 4 (0, 0) hn.r
        have zr := frozen_of_row V w.heap.size 0 _ 4 hn.r
        have HN := Lib.hid hn
        have Hp := Lib.hid hp
        have Hc := Lib.hid hc
        clear hn hp hc
        by_cases hx : x = pre.length
        · subst hx
          have g1 : ¬ ((14 : Int) ≤ (pre.length : Int)) := by omega
          have Hfin : Hid (pre ++ [pre.length] = List.range (pre ++ [pre.length]).length ∧ NR w bN [] (V.setCell ⟨w5.heap.size, 0, none⟩ (.int .i64 (pre.length + 1 : Nat))) ∧ NAt w5.heap.size (pre ++ [pre.length]).length (V.setCell ⟨w5.heap.size, 0, none⟩ (.int .i64 (pre.length + 1 : Nat)))) := Lib.hid ⟨by
            rw [List.length_append, List.length_singleton, List.range_succ, ← Hp.out], HN5.out.abides HN.out (grownBy_setCell' V w5.heap.size _) (fun r e => by cases e; omega), by
            unfold NAt
            rw [List.length_append, List.length_singleton]
            exact heap_setCell_same V w5.heap.size 0 _ 3 _ Hc.out⟩
          have hq : ((pre.length + 1 : Nat) : Int) = (pre.length : Int) + 1 := rfl
          simp only [hq] at Hfin
          clear hq
          gi_wp2
          exact ⟨KeepsAll.setCell _ _ _ (by show w5.heap.size < _; omega), Hfin.out⟩
        · have hne : ¬ (footAt x).1 = (footAt pre.length).1 := fun e => hx (foot_inj hlen e)
          have hne2 : ((footAt x).1 == (footAt pre.length).1) = false := by simpa using hne
          have hne3 : ((footAt x).1 != (footAt pre.length).1) = true := by simpa using hne
          have Hx := Lib.hid hx
          have g1 : ¬ ((14 : Int) ≤ (pre.length : Int)) := by omega
          clear hx
          gi_wp2
          exact ⟨KeepsAll.setCell _ _ _ (by show w.heap.size < _; omega), rfl, pre, x, rfl, Hx.out⟩
      case stop0 =>
        rintro D0 c pre V0 hD ⟨m, hm, rfl⟩ ⟨rfl, p, x, hpx, hne⟩ hK
        rw [List.range_succ] at hpx
        have := List.append_inj' hpx rfl
        exact absurd (by have h1 := this.1; have h2 : m = x := by simpa using this.2
                         rw [← h1, List.length_range, h2]) hne
      case done0 =>
        rintro D0 xs V0 hD rfl ⟨_, hn, hc⟩ hK
        have c0 : V0.cell? ⟨w5.heap.size, 0, none⟩ = some (.int .i64 14) := cell_of_row _ _ _ _ 3 (0, 0) hc
        have l0 := hn.c0
        have HM0 : Hid (NR w bN (D0 :: []) V0) := Lib.hid (hn.more hK (fun D' hD' e => by have := (Array.getElem?_eq_some_iff.1 (hN0.ds D' hD').2).1; omega) (by omega))
        clear hn hc hK
        go_wp2_with fail
        refine wpIn_wide.1 (?_ : Code.wpIn Fence.wide 8 _ _ _ _ _)
        refine range_keep (F := Fence.wide) rfl (by omega : 1 ≤ 8) (gf := 52) (lb := #[]) rfl trivial (enters_of Tryd.func52 (by kernel_rfl) rfl) (names_seq (8 - 1) (by omega) V0) (fun _ => rfl)
          (fun pre V' => pre = [] ∧ NR w bN (D0 :: []) V') (fun c pre V' => c = .exit 6 ∧ NR w bN (D0 :: []) V')
          ?hI20 ?hIx20 ⟨rfl, HM0.out⟩ (fun x a' _ => True) ?assign20 ?body20 ?hAx20 ?done20 ?stop20
        case hI20 =>
          rintro s A B row ⟨h1, h2⟩ hg hr
          exact ⟨h1, HM0.out.abides h2 hg hr⟩
        case hIx20 =>
          rintro c s A B row ⟨rfl, h2⟩ hg hr
          exact ⟨rfl, HM0.out.abides h2 hg hr⟩
        case hAx20 => exact fun _ _ _ _ _ _ hs _ _ => hs
        case assign20 =>
          intro l2 pre x V' K hi hsz hK
          gi_wp2
          exact hK _ _ (KeepsAll.refl _ _) hi trivial
        case body20 =>
          rintro l2 pre x a' V' ⟨rfl, hn⟩ hlen _ hsz
          gi_wp2
          exact ⟨KeepsAll.refl _ _, rfl, hn⟩
        case done20 =>
          rintro D2 xs V' hD2 rfl ⟨h, _⟩ hK
          exact absurd h (by decide)
        case stop20 =>
          rintro E0 c pre U0 hE hsp ⟨rfl, hn⟩ hK
          have HU0 : Hid (NR w bN (E0 :: D0 :: []) U0) := Lib.hid (hn.more hK (fun D' hD' e => by have := (Array.getElem?_eq_some_iff.1 (HM0.out.ds D' hD').2).1; omega) (by have := HM0.out.size; omega))
          clear hn hK
          refine wpIn_wide.2 ?_
          go_wp2_with fail
          rw [rounds_succ]
          go_wp2_with fail
          refine wpIn_wide.1 (?_ : Code.wpIn Fence.wide 8 _ _ _ _ _)
          generalize hX1 : World.alloc U0 _ = X1
          have sX1 : X1.heap.size = U0.heap.size + 1 := by rw [← hX1]; simp
          have hN1 : NR w bN (E0 :: D0 :: []) X1 := HU0.out.below (by rw [← hX1]; exact (Below.refl _ _).alloc (Nat.le_refl _) _)
          have hc1 : NAt U0.heap.size 0 X1 := by rw [← hX1]; exact World.alloc_heap_new _ _
          have zX1 := HU0.out.size
          clear hX1
          refine range_keep (F := Fence.wide) rfl (by omega : 1 ≤ 8) (gf := 52) (lb := #[]) rfl trivial (enters_of Tryd.func52 (by kernel_rfl) rfl) (names_seq (8 - 1) (by omega) X1) (fun _ => rfl)
            (fun pre V => pre = List.range pre.length ∧ NR w bN (E0 :: D0 :: []) V ∧ NAt U0.heap.size pre.length V) (fun c pre V => c = .ret ∧ ∃ p x, pre = p ++ [x] ∧ x ≠ p.length)
            ?hI1 ?hIx1 ⟨rfl, hN1, hc1⟩ (fun x a' _ => Fr4 w.heap.size bN U0.heap.size x a') ?assign1 ?body1 ?hAx1 ?done1 ?stop1
          case hI1 =>
            rintro s A B row ⟨h1, h2, h3⟩ hg hr
            exact ⟨h1, hN1.abides h2 hg hr, (hg.block _ (Array.getElem?_eq_some_iff.1 h3).1 (fun e => by have := hr _ e.symm; omega)).trans h3⟩
          case hIx1 => exact fun _ _ _ _ _ hs _ _ => hs
          case hAx1 => exact fun _ _ _ _ _ _ hs _ _ => hs
          case assign1 =>
            intro l2 pre x V K hi hsz hK
            simp only [pairV, strL]
            gi_wp2
            exact hK _ _ (KeepsAll.refl _ _) hi (Fr4.of rfl rfl rfl rfl rfl rfl rfl)
          case body1 =>
            rintro l2 pre x a' V ⟨hp, hn, hc⟩ hlen ⟨f, rfl⟩ hsz
            obtain ⟨n1, n2, n3⟩ := hn.cn hlen
            have l0 := hn.c0
            have c0 : V.cell? ⟨U0.heap.size, 0, none⟩ = some (.int .i64 pre.length) := cell_of_row _ _ _ _ 3 (0, 0) hc
            have z0 := frozen_of_row V U0.heap.size 0 _ 3 hc
            have r0 : V.cell? ⟨w.heap.size, 0, none⟩ = some (.bool false) := cell_of_row _ _ _ _ 4 (0, 0) hn.r
            have zr := frozen_of_row V w.heap.size 0 _ 4 hn.r
            have HN := Lib.hid hn
            have Hp := Lib.hid hp
            have Hc := Lib.hid hc
            clear hn hp hc
            by_cases hx : x = pre.length
            · subst hx
              have g1 : ¬ ((14 : Int) ≤ (pre.length : Int)) := by omega
              have Hfin : Hid (pre ++ [pre.length] = List.range (pre ++ [pre.length]).length ∧ NR w bN (E0 :: D0 :: []) (V.setCell ⟨U0.heap.size, 0, none⟩ (.int .i64 (pre.length + 1 : Nat))) ∧ NAt U0.heap.size (pre ++ [pre.length]).length (V.setCell ⟨U0.heap.size, 0, none⟩ (.int .i64 (pre.length + 1 : Nat)))) := Lib.hid ⟨by
                rw [List.length_append, List.length_singleton, List.range_succ, ← Hp.out], HU0.out.abides HN.out (grownBy_setCell' V U0.heap.size _) (fun r e => by cases e; omega), by
                unfold NAt
                rw [List.length_append, List.length_singleton]
                exact heap_setCell_same V U0.heap.size 0 _ 3 _ Hc.out⟩
              have hq : ((pre.length + 1 : Nat) : Int) = (pre.length : Int) + 1 := rfl
              simp only [hq] at Hfin
              clear hq
              gi_wp2
              exact ⟨KeepsAll.setCell _ _ _ (by show U0.heap.size < _; omega), Hfin.out⟩
            · have hne : ¬ (footAt x).1 = (footAt pre.length).1 := fun e => hx (foot_inj hlen e)
              have hne2 : ((footAt x).1 == (footAt pre.length).1) = false := by simpa using hne
              have hne3 : ((footAt x).1 != (footAt pre.length).1) = true := by simpa using hne
              have Hx := Lib.hid hx
              have g1 : ¬ ((14 : Int) ≤ (pre.length : Int)) := by omega
              clear hx
              gi_wp2
              exact ⟨KeepsAll.setCell _ _ _ (by show w.heap.size < _; omega), rfl, pre, x, rfl, Hx.out⟩
          case stop1 =>
            rintro D1 c pre V1 hD ⟨m, hm, rfl⟩ ⟨rfl, p, x, hpx, hne⟩ hK
            rw [List.range_succ] at hpx
            have := List.append_inj' hpx rfl
            exact absurd (by have h1 := this.1; have h2 : m = x := by simpa using this.2
                             rw [← h1, List.length_range, h2]) hne
          case done1 =>
            rintro D1 xs V1 hD rfl ⟨_, hn, hc⟩ hK
            have c0 : V1.cell? ⟨U0.heap.size, 0, none⟩ = some (.int .i64 14) := cell_of_row _ _ _ _ 3 (0, 0) hc
            have l0 := hn.c0
            have HM1 : Hid (NR w bN (D1 :: (E0 :: D0 :: [])) V1) := Lib.hid (hn.more hK (fun D' hD' e => by have := (Array.getElem?_eq_some_iff.1 (hN1.ds D' hD').2).1; omega) (by omega))
            clear hn hc hK
            go_wp2_with fail
            refine wpIn_wide.1 (?_ : Code.wpIn Fence.wide 8 _ _ _ _ _)
            refine range_keep (F := Fence.wide) rfl (by omega : 1 ≤ 8) (gf := 52) (lb := #[]) rfl trivial (enters_of Tryd.func52 (by kernel_rfl) rfl) (names_seq (8 - 1) (by omega) V1) (fun _ => rfl)
              (fun pre V' => pre = [] ∧ NR w bN (D1 :: (E0 :: D0 :: [])) V') (fun c pre V' => c = .exit 6 ∧ NR w bN (D1 :: (E0 :: D0 :: [])) V')
              ?hI21 ?hIx21 ⟨rfl, HM1.out⟩ (fun x a' _ => True) ?assign21 ?body21 ?hAx21 ?done21 ?stop21
            case hI21 =>
              rintro s A B row ⟨h1, h2⟩ hg hr
              exact ⟨h1, HM1.out.abides h2 hg hr⟩
            case hIx21 =>
              rintro c s A B row ⟨rfl, h2⟩ hg hr
              exact ⟨rfl, HM1.out.abides h2 hg hr⟩
            case hAx21 => exact fun _ _ _ _ _ _ hs _ _ => hs
            case assign21 =>
              intro l2 pre x V' K hi hsz hK
              gi_wp2
              exact hK _ _ (KeepsAll.refl _ _) hi trivial
            case body21 =>
              rintro l2 pre x a' V' ⟨rfl, hn⟩ hlen _ hsz
              gi_wp2
              exact ⟨KeepsAll.refl _ _, rfl, hn⟩
            case done21 =>
              rintro D2 xs V' hD2 rfl ⟨h, _⟩ hK
              exact absurd h (by decide)
            case stop21 =>
              rintro E1 c pre U1 hE hsp ⟨rfl, hn⟩ hK
              have HU1 : Hid (NR w bN (E1 :: D1 :: (E0 :: D0 :: [])) U1) := Lib.hid (hn.more hK (fun D' hD' e => by have := (Array.getElem?_eq_some_iff.1 (HM1.out.ds D' hD').2).1; omega) (by have := HM1.out.size; omega))
              clear hn hK
              refine wpIn_wide.2 ?_
              go_wp2_with fail
              rw [rounds_succ]
              have hvU := Hv.out.below HU1.out.b Hv.out.six
              have hwk := wakes_any U1 hvU
              have r1 : U1.cell? ⟨w.heap.size, 0, none⟩ = some (.bool false) := cell_of_row _ _ _ _ 4 (0, 0) HU1.out.r
              have Hwk9 := Lib.hid hwk
              clear hvU hwk
              go_wp2_with fail
              refine Hwk9.out.mono ?_
              rintro e w9 ⟨rfl, hb9⟩
              have H9 := Lib.hid (HU1.out.below hb9)
              have r9 : w9.cell? ⟨w.heap.size, 0, none⟩ = some (.bool false) := cell_of_row _ _ _ _ 4 (0, 0) H9.out.r
              have z9 := frozen_of_row w9 w.heap.size 0 _ 4 H9.out.r
              clear hb9
              go_wp2_with fail
              refine ⟨[E1, D1, E0, D0], rfl, H9.out.nd, fun D hD => ⟨by have := (H9.out.ds D hD).1; have := H9.out.lt; omega, (Below.heap_setCell _ _ _ _ (by have := (H9.out.ds D hD).1; have := H9.out.lt; show D ≠ w.heap.size; omega)).trans (H9.out.ds D hD).2⟩, rfl, heap_setCell_same w9 w.heap.size 0 _ 4 _ H9.out.r, H9.out.b.setCell (Nat.le_refl _) _⟩
end Go.Proofs.YtkfkkoefpfmjkaaDoor

import Derived.Test.YtkfkkoefpfmjkaaDoorCG
import Derived.Test.YtkfkkoefpfmjkaaDoorNC
namespace Go.Proofs.YtkfkkoefpfmjkaaDoor
set_option linter.unusedVariables false
set_option linter.unusedSimpArgs false
open Go.RowKit Go.Shelf
attribute [local go_sem] Oper.semAt_some

/- MetreCounts, walked. -/
def CountsPost (w : World) : Exit → Act → World → Prop
  | .ret, a, W => ∃ Ds : List Nat, a.defers = Ds.map markD ∧ Ds.Nodup ∧ (∀ D ∈ Ds, w.heap.size + 2 < D ∧ W.heap[D]? = some (.deferred (some []))) ∧ a.tmps[4]? = some (.pointer (some ⟨w.heap.size + 2, 0, none⟩)) ∧
      W.heap[w.heap.size + 2]? = some (.cells #[.bool true] 4 (0, 0)) ∧ Below w.heap.size w W
  | _, _, _ => False
theorem counts_end {w W : World} {T : Array Value} {v : Value} (h4 : T[4]? = some (.pointer (some ⟨w.heap.size + 2, 0, none⟩))) (hr : W.heap[w.heap.size + 2]? = some (.cells #[v] 4 (0, 0))) (hb : Below w.heap.size w W) :
    CountsPost w .ret { tmps := T, defers := [] } (W.setCell ⟨w.heap.size + 2, 0, none⟩ (.bool true)) :=
  ⟨[], rfl, List.nodup_nil, fun D hD => (by cases hD), h4, heap_setCell_same W _ 0 _ 4 _ hr, hb.setCell (p := ⟨w.heap.size + 2, 0, none⟩) (by show w.heap.size ≤ w.heap.size + 2; omega) _⟩
theorem counts_end2 {w W : World} {T : Array Value} {v : Value} {D : Nat} (h4 : T[4]? = some (.pointer (some ⟨w.heap.size + 2, 0, none⟩))) (hr : W.heap[w.heap.size + 2]? = some (.cells #[v] 4 (0, 0))) (hb : Below w.heap.size w W) (hD : w.heap.size + 2 < D) (hd : W.heap[D]? = some (.deferred (some []))) :
    CountsPost w .ret { tmps := T, defers := [markD D] } (W.setCell ⟨w.heap.size + 2, 0, none⟩ (.bool true)) :=
  ⟨[D], rfl, by simp, fun D' hD' => by
      obtain rfl : D' = D := by simpa using hD'
      exact ⟨hD, (Below.heap_setCell _ _ _ _ (by show D' ≠ w.heap.size + 2; omega)).trans hd⟩, h4, heap_setCell_same W _ 0 _ 4 _ hr, hb.setCell (p := ⟨w.heap.size + 2, 0, none⟩) (by show w.heap.size ≤ w.heap.size + 2; omega) _⟩

set_option maxRecDepth 100000 in
set_option maxHeartbeats 8000000 in
theorem counts9_any (Af Ae Ab : Option Addr) (cf ce cb : Nat) (m : Met) (s : ByteArray) (w : World) (h : IsMet w w.heap.size Af Ae Ab cf ce cb m) (hv : Vars w) (hs : s.size ≤ 9223372036854775807) :
    Calls Tryd.prog 9 #[.agg #[.slice Af m.feet.length cf, .slice Ae m.ends.length ce, .slice Ab m.brks.length cb], .string s] w fun e w' => e = .returned (.bool true) ∧ Below w.heap.size w w' := by
  refine (callsIn_wide (n := 8)).1 ?_
  refine callsIn_of_wp_marks Tryd.func9 rfl trivial ?_ rfl
  simp only [Tryd.ntmps9, List.size_toArray, List.length_cons, List.length_nil, Nat.reduceAdd, Nat.reduceSub, Array.replicate_succ, Array.replicate_zero, List.push_toArray, List.append_toArray, List.nil_append, List.cons_append]
  refine wpIn_wide.2 (Code.wp_mono (Q := CountsPost w) ?_ ?_)
  · rintro e a W hq
    cases e <;> try exact hq.elim
    obtain ⟨Ds, hd, hnd, hds, h2, hc, hb⟩ := hq
    obtain ⟨T, df⟩ := a
    simp only [] at hd h2
    subst hd
    have h2' : T[4]?.getD undef = .pointer (some ⟨w.heap.size + 2, 0, none⟩) := by rw [h2]; rfl
    refine leaves_marks Ds W hnd (fun D hD => (hds D hD).2) (fun W' h3 h4 => ?_)
    have hc' : W'.cell? ⟨w.heap.size + 2, 0, none⟩ = some (.bool true) := cell_of_row _ _ _ _ 4 (0, 0) ((h3 _ (fun hD => by have := (hds _ hD).1; omega)).trans hc)
    refine ⟨.bool true, ?_, rfl, hb.trans (h4 w.heap.size (fun D hD => by have := (hds D hD).1; omega) hb.size)⟩
    simp [results, Tryd.f9, go_sem, h2', hc']
  generalize hW1 : ((w.alloc (.cells #[.slice Af m.feet.length cf, .slice Ae m.ends.length ce, .slice Ab m.brks.length cb] 27)).alloc (.cells #[.string s] 9)).alloc (.cells #[.bool false] 4) = W1
  have sA : (w.alloc (.cells #[.slice Af m.feet.length cf, .slice Ae m.ends.length ce, .slice Ab m.brks.length cb] 27)).heap.size = w.heap.size + 1 := by simp
  have sB : ((w.alloc (.cells #[.slice Af m.feet.length cf, .slice Ae m.ends.length ce, .slice Ab m.brks.length cb] 27)).alloc (.cells #[.string s] 9)).heap.size = w.heap.size + 2 := by simp
  have sW1 : W1.heap.size = w.heap.size + 3 := by rw [← hW1]; simp
  have hB1 : Below w.heap.size w W1 := by rw [← hW1]; exact (((Below.refl _ _).alloc (Nat.le_refl _) _).alloc (by omega) _).alloc (by omega) _
  have hm1 : W1.heap[w.heap.size]? = some (.cells (metC Af Ae Ab cf ce cb m) 27 (0, 0)) := by
    rw [← hW1]; exact (Below.heap_alloc _ _ _ (by omega)).trans ((Below.heap_alloc _ _ _ (by omega)).trans (World.alloc_heap_new w _))
  have hs1 : W1.heap[w.heap.size + 1]? = some (.cells #[.string s] 9 (0, 0)) := by
    rw [← hW1]
    refine (Below.heap_alloc _ _ _ (by omega)).trans ?_
    have := World.alloc_heap_new (w.alloc (.cells #[.slice Af m.feet.length cf, .slice Ae m.ends.length ce, .slice Ab m.brks.length cb] 27)) (.cells #[.string s] 9)
    rw [sA] at this; exact this
  have hr1 : W1.heap[w.heap.size + 2]? = some (.cells #[.bool false] 4 (0, 0)) := by
    rw [← hW1]
    have := World.alloc_heap_new ((w.alloc (.cells #[.slice Af m.feet.length cf, .slice Ae m.ends.length ce, .slice Ab m.brks.length cb] 27)).alloc (.cells #[.string s] 9)) (.cells #[.bool false] 4)
    rw [sB] at this; exact this
  have HM0 := Lib.hid h
  have HV0 := Lib.hid hv
  have HM := Lib.hid (h.on hB1)
  have HV := Lib.hid (hv.below hB1 hv.six)
  have HW1 := Lib.hid hW1
  have HB1 := Lib.hid hB1
  have Hm1 := Lib.hid hm1
  have Hs1 := Lib.hid hs1
  have Hr1 := Lib.hid hr1
  have Hkeep : Hid (∀ (W2 : World), Below W1.heap.size W1 W2 → W2.cell? ⟨w.heap.size, 0, none⟩ = some (.slice Af m.feet.length cf) ∧ W2.cell? ⟨w.heap.size, 1, none⟩ = some (.slice Ae m.ends.length ce) ∧ W2.cell? ⟨w.heap.size, 2, none⟩ = some (.slice Ab m.brks.length cb)) := Lib.hid fun W2 hb2 =>
    have e := (hb2.block _ (by omega)).trans hm1
    ⟨cell_of_row W2 w.heap.size 0 _ 27 (0, 0) e, cell_of_row W2 w.heap.size 1 _ 27 (0, 0) e, cell_of_row W2 w.heap.size 2 _ 27 (0, 0) e⟩
  have Hnext := Lib.hid fun (W2 W3 : World) (hb2 : Below W1.heap.size W1 W2) (hb3 : Below W2.heap.size W2 W3) => hb2.trans (hb3.mono hb2.size)
  have Hwk := Lib.hid fun (W2 : World) (hb2 : Below W1.heap.size W1 W2) => wakes_any W2 (HV.out.below hb2 HV.out.six)
  have Hres := Lib.hid fun (W2 : World) (hb2 : Below W1.heap.size W1 W2) => (hb2.block _ (by omega)).trans hr1
  clear h hv hW1 hB1 hm1 hs1 hr1
  go_wp2_with fail
  rw [HW1.out]
  refine (Hwk.out _ (Below.refl _ _)).mono ?_
  rintro e w2 ⟨rfl, hb2⟩
  obtain ⟨q0, q1, q2⟩ := Hkeep.out _ hb2
  have Hb2 := Lib.hid hb2
  clear hb2
  cases hm : mayB m with
  | false =>
    have Hct := Lib.hid (count_off Af Ae Ab cf ce cb m w2 (HM.out.on Hb2.out) hm)
    clear hm
    go_wp2_with fail
    refine Hct.out.mono ?_
    rintro e w3 ⟨rfl, hb3⟩
    have Hb3 := Lib.hid ((Hnext.out _ _ Hb2.out hb3).alloc (Hnext.out _ _ Hb2.out hb3).size (.cells #[.int .i64 0] 3))
    clear hb3 q0 q1 q2
    go_wp2_with fail
    refine (Hwk.out _ Hb3.out).mono ?_
    rintro e w5 ⟨rfl, hb5⟩
    have Hb5 := Lib.hid (Hnext.out _ _ Hb3.out hb5)
    have r5 := Hres.out _ Hb5.out
    have z5 := frozen_of_row _ _ 0 _ 4 r5
    have c5 : w5.cell? ⟨w.heap.size + 2, 0, none⟩ = some (.bool false) := cell_of_row _ _ 0 _ 4 (0, 0) r5
    clear hb5
    go_wp2_with fail
    exact counts_end rfl r5 (HB1.out.trans (Hb5.out.mono (by omega)))
  | true =>
    have Hm := Lib.hid hm
    have Hct := Lib.hid (count_any Af Ae Ab cf ce cb m w2 (HM.out.on Hb2.out) hm)
    clear hm
    go_wp2_with fail
    refine Hct.out.mono ?_
    rintro e w3 ⟨rfl, hb3⟩
    have hb3' := Hnext.out _ _ Hb2.out hb3
    by_cases hn : 2000 < countP m
    · generalize countP m = N at *
      have Hb4 := Lib.hid (hb3'.alloc hb3'.size (.cells #[.int .i64 N] 3))
      clear hb3 hb3' q0 q1 q2
      go_wp2_with fail
      refine (Hwk.out _ Hb4.out).mono ?_
      rintro e w5 ⟨rfl, hb5⟩
      have Hb5 := Lib.hid (Hnext.out _ _ Hb4.out hb5)
      have r5 := Hres.out _ Hb5.out
      have z5 := frozen_of_row _ _ 0 _ 4 r5
      have c5 : w5.cell? ⟨w.heap.size + 2, 0, none⟩ = some (.bool false) := cell_of_row _ _ 0 _ 4 (0, 0) r5
      clear hb5
      go_wp2_with fail
      exact counts_end rfl r5 (HB1.out.trans (Hb5.out.mono (by omega)))
    · have hcp := count_pats Hm.out (by omega)
      generalize hN : (pats (optsP m)).length = N at *
      rw [← hcp] at hn ⊢
      have HN := Lib.hid hN
      have Hb4 := Lib.hid (hb3'.alloc hb3'.size (.cells #[.int .i64 N] 3))
      have hs3 : w.heap.size + 3 ≤ w3.heap.size := by have := hb3'.size; omega
      generalize hW5 : ((((w3.alloc (.cells #[.int .i64 N] 3)).alloc (.cells #[.int .i64 0] 3)).alloc (.cells #[.int .i64 0] 3)).alloc (.cells #[.int .i64 0] 3)).alloc (.cells #[.string ⟨#[]⟩, .int .i64 0, .slice none 0 0] 52) = W5
      have z1 : (w3.alloc (.cells #[.int .i64 N] 3)).heap.size = w3.heap.size + 1 := by simp
      have z2 : ((w3.alloc (.cells #[.int .i64 N] 3)).alloc (.cells #[.int .i64 0] 3)).heap.size = w3.heap.size + 1 + 1 := by simp
      have z3 : (((w3.alloc (.cells #[.int .i64 N] 3)).alloc (.cells #[.int .i64 0] 3)).alloc (.cells #[.int .i64 0] 3)).heap.size = w3.heap.size + 1 + 2 := by simp
      have z4 : ((((w3.alloc (.cells #[.int .i64 N] 3)).alloc (.cells #[.int .i64 0] 3)).alloc (.cells #[.int .i64 0] 3)).alloc (.cells #[.int .i64 0] 3)).heap.size = w3.heap.size + 1 + 3 := by simp
      have sW5 : W5.heap.size = w3.heap.size + 1 + 4 := by rw [← hW5]; simp
      have hB5 : Below w3.heap.size w3 W5 := by
        rw [← hW5]
        exact (((((Below.refl w3.heap.size w3).alloc (Nat.le_refl _) _).alloc (by omega) _).alloc (by omega) _).alloc (by omega) _).alloc (by omega) _
      have hN5 : W5.heap[w3.heap.size]? = some (.cells #[.int .i64 N] 3 (0, 0)) := by
        rw [← hW5]
        exact (Below.heap_alloc _ _ _ (by omega)).trans ((Below.heap_alloc _ _ _ (by omega)).trans ((Below.heap_alloc _ _ _ (by omega)).trans ((Below.heap_alloc _ _ _ (by omega)).trans (World.alloc_heap_new w3 _))))
      have hk5 : W5.heap[w3.heap.size + 1]? = some (.cells #[.int .i64 0] 3 (0, 0)) := by
        rw [← hW5]
        refine (Below.heap_alloc _ _ _ (by omega)).trans ((Below.heap_alloc _ _ _ (by omega)).trans ((Below.heap_alloc _ _ _ (by omega)).trans ?_))
        have := World.alloc_heap_new (w3.alloc (.cells #[.int .i64 N] 3)) (.cells #[.int .i64 0] 3)
        rw [z1] at this; exact this
      have hc5 : W5.heap[w3.heap.size + 1 + 1]? = some (.cells #[.int .i64 0] 3 (0, 0)) := by
        rw [← hW5]
        refine (Below.heap_alloc _ _ _ (by omega)).trans ((Below.heap_alloc _ _ _ (by omega)).trans ?_)
        have := World.alloc_heap_new ((w3.alloc (.cells #[.int .i64 N] 3)).alloc (.cells #[.int .i64 0] 3)) (.cells #[.int .i64 0] 3)
        rw [z2] at this; exact this
      have hw5 : W5.heap[w3.heap.size + 1 + 2]? = some (.cells #[.int .i64 0] 3 (0, 0)) := by
        rw [← hW5]
        refine (Below.heap_alloc _ _ _ (by omega)).trans ?_
        have := World.alloc_heap_new (((w3.alloc (.cells #[.int .i64 N] 3)).alloc (.cells #[.int .i64 0] 3)).alloc (.cells #[.int .i64 0] 3)) (.cells #[.int .i64 0] 3)
        rw [z3] at this; exact this
      have hf5 : W5.heap[w3.heap.size + 1 + 3]? = some (.cells #[.string ⟨#[]⟩, .int .i64 0, .slice none 0 0] 52 (0, 0)) := by
        rw [← hW5]
        have := World.alloc_heap_new ((((w3.alloc (.cells #[.int .i64 N] 3)).alloc (.cells #[.int .i64 0] 3)).alloc (.cells #[.int .i64 0] 3)).alloc (.cells #[.int .i64 0] 3)) (.cells #[.string ⟨#[]⟩, .int .i64 0, .slice none 0 0] 52)
        rw [z4] at this; exact this
      have hb5 : Below W1.heap.size W1 W5 := Hnext.out _ _ hb3' hB5
      obtain ⟨q0, q1, q2⟩ := Hkeep.out _ hb5
      rw [← hW5] at q0 q1 q2
      have HW5 := Lib.hid hW5
      have Hb5 := Lib.hid hb5
      have Hf5 := Lib.hid (And.intro hN5 (And.intro hk5 (And.intro hc5 (And.intro hw5 hf5))))
      have Hpat := Lib.hid (patterns_any Af Ae Ab cf ce cb m W5)
      clear hb3 hb3' hcp hN hW5 hb5 hN5 hk5 hc5 hw5 hf5 hB5
      go_wp2_with fail
      rw [HW5.out]
      refine Hpat.out.mono ?_
      rintro e X0 ⟨rfl, hX0⟩
      have sX0 : X0.heap.size = W5.heap.size + 1 := by rw [hX0]; simp
      have hbX : Below W5.heap.size W5 X0 := by rw [hX0]; exact (Below.refl _ _).alloc (Nat.le_refl _) _
      have hbm : X0.heap[w3.heap.size + 1 + 4]? = some (.cells (metC Af Ae Ab cf ce cb m) 27 (0, 0)) := by rw [hX0, ← sW5]; exact World.alloc_heap_new W5 _
      have HbX := Lib.hid (Hnext.out _ _ Hb5.out hbX)
      have hLR0 : LR X0.heap.size w.heap.size w3.heap.size (w3.heap.size + 1) (metC Af Ae Ab cf ce cb m) N s w [] X0 := by
        obtain ⟨f1, f2, f3, f4, f5⟩ := Hf5.out
        refine ⟨(HbX.out.block _ (by omega)).trans Hm1.out, (HbX.out.block _ (by omega)).trans Hs1.out, (HbX.out.block _ (by omega)).trans Hr1.out, (hbX.block _ (by omega)).trans f1, (hbX.block _ (by omega)).trans f2, (hbX.block _ (by omega)).trans f3, (hbX.block _ (by omega)).trans f4,
          ⟨_, _, _, _, _, (hbX.block _ (by omega)).trans f5, fun h => absurd rfl h⟩, HB1.out.trans (HbX.out.mono (by omega)), hs, by omega, by omega, by omega, Nat.le_refl _⟩
      have hseq := pats_seq (8 - 1) Af Ae Ab cf ce cb m (w3.heap.size + 1 + 4) X0 (HM.out.on HbX.out) Hm.out hbm
      rw [HN.out] at hseq
      have HLR0 := Lib.hid hLR0
      clear hLR0 hX0 hbm hbX q0 q1 q2
      go_wp2_with fail
      refine wpIn_wide.1 (?_ : Code.wpIn Fence.wide 8 _ _ _ _ _)
      refine range_ghost (F := Fence.wide) rfl (by omega : 1 ≤ 8) (gf := 71) (lb := #[.pointer (some ⟨w3.heap.size + 1 + 4, 0, none⟩)]) rfl trivial (enters_of Tryd.func71 (by kernel_rfl) rfl) hseq (fun _ => rfl)
        (LR X0.heap.size w.heap.size w3.heap.size (w3.heap.size + 1) (metC Af Ae Ab cf ce cb m) N s w) (fun _ _ _ => False) LR.abides (fun _ _ _ _ h _ _ => h) (fun _ _ _ h => h) HLR0.out
        (Ax9 X0.heap.size w.heap.size w3.heap.size (w3.heap.size + 1)) ?hassign ?hbody Ax9.keep ?hdone ?hstop
      case hstop => rintro D c pre W hD _ h _; exact h.elim
      case hassign =>
        rintro l2 pre ⟨xs, xc, xch, xv⟩ V K hi hfit hsz hK
        have hfit' := hfit
        obtain ⟨A, cap, hv, hcap, _⟩ := row_ints hfit.1
        simp only [] at hv
        subst hv
        simp only [yEncs]
        have HK := Lib.hid hK
        have Hfit := Lib.hid hfit'
        have Hi := Lib.hid hi
        clear hK hfit hfit' hi
        gi_wp2
        have hb : Below V.heap.size V (V.alloc (.cells #[.string xs, .int .i64 xc, .slice A xch.length cap] 52)) := (Below.refl _ V).alloc (Nat.le_refl _) _
        refine HK.out _ _ (KeepsOthers.alloc _ _) (keepsFor_alloc _ _ _) (Hi.out.below hb) ⟨V.heap.size, A, cap, Fr9.of rfl rfl rfl rfl rfl rfl rfl rfl rfl rfl rfl, rfl, World.alloc_heap_new V _, hsz, ⟨Hfit.out.1.alloc _, Hfit.out.2⟩⟩
      case hbody =>
        rintro l2 pre ⟨xs, xc, xch, xv⟩ a' V hi hlen ⟨bp, A, cap, ⟨f, rfl⟩, hxv, hbp, hnb, hfit⟩ hsz hblk
        simp only [] at hxv hbp
        subst hxv
        obtain ⟨q, hq⟩ : ∃ q, q = pre.length := ⟨_, rfl⟩
        have h12 := hi.h1; have h22 := hi.h2; have h32 := hi.h3
        have HA := Lib.hid (Mid.start hi ((q : Int) + 1))
        obtain ⟨s0, n0, k0, c0, w0⟩ := hi.cells
        rw [← hq] at k0
        have zk := frozen_of_row _ _ 0 _ 3 hi.k
        obtain ⟨sa, na, ka, ca, wa, za1, za2, za3⟩ := Mid.facts hi HA.out
        have hpa := (HA.out.off bp (by omega) (by omega)).trans hbp
        have p0 : (V.setCell ⟨w3.heap.size + 1, 0, none⟩ (.int .i64 ((q : Int) + 1))).cell? ⟨bp, 0, none⟩ = some (.string xs) := cell_of_row _ _ 0 _ 52 (0, 0) hpa
        have p1 : (V.setCell ⟨w3.heap.size + 1, 0, none⟩ (.int .i64 ((q : Int) + 1))).cell? ⟨bp, 1, none⟩ = some (.int .i64 xc) := cell_of_row _ _ 1 _ 52 (0, 0) hpa
        have p2 : (V.setCell ⟨w3.heap.size + 1, 0, none⟩ (.int .i64 ((q : Int) + 1))).cell? ⟨bp, 2, none⟩ = some (.slice A xch.length cap) := cell_of_row _ _ 2 _ 52 (0, 0) hpa
        have hwst := stOf_w s pre
        have hqN : q < N := by omega
        have hN2 : N ≤ 2000 := by omega
        have hwk : IntKind.i64.wrap ((q : Int) + 1) = (q : Int) + 1 := IntWalk.i64_in _ (by omega)
        have g1 : ¬ ((N : Int) < (q : Int) + 1) := by omega
        have g1' : decide ((N : Int) < (q : Int) + 1) = false := decide_eq_false g1
        have Hi := Lib.hid hi
        have Hq := Lib.hid hq
        have Hfit := Lib.hid hfit
        have Hbp := Lib.hid hbp
        clear hi hq hfit hbp hpa hblk HLR0 Hpat Hf5
        generalize hsg : sgOf s pre = sg at *
        generalize hst : stOf s pre = st at *
        obtain ⟨stc, stw, stf⟩ := st
        simp only [] at c0 w0 ca wa hwst
        have Hsg := Lib.hid hsg
        have Hst := Lib.hid hst
        clear hsg hst
        have hszg : sg.size ≤ 9223372036854775807 := by rw [← Hsg.out]; exact Hi.out.sz
        have HsX := Lib.hid sX0
        have hwt : IntKind.i64.wrap ((stw : Int) + 1) = (stw : Int) + 1 := IntWalk.i64_in _ (by omega)
        clear sX0 sW5
        by_cases hch : q = 0 ∧ sg = ⟨#[]⟩
        · obtain ⟨hq0, rfl⟩ := hch
          have hpre : pre = [] := List.eq_nil_of_length_eq_zero (by rw [← Hq.out]; exact hq0)
          have hb : ((q : Int) + 1 == 1) = true := by simp [hq0]
          have hw0 : stw = 0 := by have := Hq.out; omega
          have HS1 : Hid (sgOf s (pre ++ [⟨xs, xc, xch, .slice A xch.length cap⟩]) = xs) := Lib.hid (by
            have h0 := Hsg.out
            rw [hpre] at h0 ⊢
            have hs0 : s = ⟨#[]⟩ := h0
            show (if s = ⟨#[]⟩ then xs else s) = xs
            rw [if_pos hs0])
          have HS2 : Hid (pre = [] ∨ sgOf s pre = xs) := Lib.hid (.inl hpre)
          have hszg : xs.size ≤ 9223372036854775807 := by have h3 := Hfit.out.2.2.1; have h4 : xs.size ≤ 100 := h3; omega
          have HU : Hid (updP xs.data.toList (stOf s pre) (YP.pat ⟨xs, xc, xch, .slice A xch.length cap⟩) = ⟨xc, 1, xch⟩) := Lib.hid (upd_new rfl (.inl (by rw [Hst.out]; exact hw0)))
          have HB := Lib.hid (HA.out.sg (by omega) xs)
          obtain ⟨sb, nb, kb, cb', wb, zb1, zb2, zb3⟩ := Mid.facts Hi.out HB.out
          rw [Hst.out] at cb' wb
          simp only [] at cb' wb
          have hpb := (HB.out.off bp (by omega) (by omega)).trans Hbp.out
          have p0' : ((V.setCell ⟨w3.heap.size + 1, 0, none⟩ (.int .i64 ((q : Int) + 1))).setCell ⟨w.heap.size + 1, 0, none⟩ (.string xs)).cell? ⟨bp, 0, none⟩ = some (.string xs) := cell_of_row _ _ 0 _ 52 (0, 0) hpb
          have p1' : ((V.setCell ⟨w3.heap.size + 1, 0, none⟩ (.int .i64 ((q : Int) + 1))).setCell ⟨w.heap.size + 1, 0, none⟩ (.string xs)).cell? ⟨bp, 1, none⟩ = some (.int .i64 xc) := cell_of_row _ _ 1 _ 52 (0, 0) hpb
          have p2' : ((V.setCell ⟨w3.heap.size + 1, 0, none⟩ (.int .i64 ((q : Int) + 1))).setCell ⟨w.heap.size + 1, 0, none⟩ (.string xs)).cell? ⟨bp, 2, none⟩ = some (.slice A xch.length cap) := cell_of_row _ _ 2 _ 52 (0, 0) hpb
          clear hpre hpb hq0
          gi_wp2
          refine wpIn_region_held_round (S := fun W' => W'.cell? ⟨bp, 0, none⟩ = some (.string xs) ∧ W'.cell? ⟨bp, 1, none⟩ = some (.int .i64 xc) ∧ W'.cell? ⟨bp, 2, none⟩ = some (.slice A xch.length cap)) (by kernel_rfl) (by kernel_rfl) (fun ⟨_, _, h⟩ => h) ⟨p0', p1', p2'⟩ (fun hHeld => ?_)
          refine wpAnyH_take (i := 0) (v := ?_) rfl (by kernel_rfl) (by kernel_rfl) (by kernel_rfl) (fun _ _ _ h => h) (Or.inl ⟨by rfl, ?_⟩) (by assumption) ?_
          rotate_left
          · intro w hSw
            obtain ⟨hS1, hS2, hS3⟩ := hSw
            go_simp
            try with_reducible rfl
          simp only [Act.put, List.getElem_toArray, List.getElem_cons_zero, List.getElem_cons_succ, List.setIfInBounds_toArray, List.set_cons_zero, List.set_cons_succ]
          refine wpAnyH_take (i := 1) (v := ?_) rfl (by kernel_rfl) (by kernel_rfl) (by kernel_rfl) (fun _ _ _ h => h) (Or.inl ⟨by rfl, ?_⟩) (by assumption) ?_
          rotate_left
          · intro w hSw
            obtain ⟨hS1, hS2, hS3⟩ := hSw
            go_simp
            try with_reducible rfl
          simp only [Act.put, List.getElem_toArray, List.getElem_cons_zero, List.getElem_cons_succ, List.setIfInBounds_toArray, List.set_cons_zero, List.set_cons_succ]
          refine wpAnyH_take (i := 2) (v := ?_) rfl (by kernel_rfl) (by kernel_rfl) (by kernel_rfl) (fun _ _ _ h => h) (Or.inl ⟨by rfl, ?_⟩) (by assumption) ?_
          rotate_left
          · intro w hSw
            obtain ⟨hS1, hS2, hS3⟩ := hSw
            go_simp
            try with_reducible rfl
          simp only [Act.put, List.getElem_toArray, List.getElem_cons_zero, List.getElem_cons_succ, List.setIfInBounds_toArray, List.set_cons_zero, List.set_cons_succ]
          have hpV : ∀ {V' : World} {c wv : Int} {f : Array Value}, Fin w.heap.size (w3.heap.size + 1) c wv f ((V.setCell ⟨w3.heap.size + 1, 0, none⟩ (.int .i64 ((q : Int) + 1))).setCell ⟨w.heap.size + 1, 0, none⟩ (.string xs)) V' → V'.cell? ⟨bp, 0, none⟩ = some (.string xs) ∧ V'.cell? ⟨bp, 1, none⟩ = some (.int .i64 xc) ∧ V'.cell? ⟨bp, 2, none⟩ = some (.slice A xch.length cap) := fun hF => by
            have e := (hF.off bp (by omega) (by omega) (by omega)).trans ((HB.out.off bp (by omega) (by omega)).trans Hbp.out)
            exact ⟨cell_of_row _ _ 0 _ 52 (0, 0) e, cell_of_row _ _ 1 _ 52 (0, 0) e, cell_of_row _ _ 2 _ 52 (0, 0) e⟩
          obtain ⟨fs, fc, fA, fn, fcap, hF0⟩ := Fin.start Hi.out HB.out
          rw [Hst.out] at hF0
          simp only [] at hF0
          have hF1 := (hF0.setc (by omega) xc).drew
          refine wpAnyH_ready (rs := [3]) (by kernel_rfl) (by simp) (AllReadyH.cons rfl (fun K hK => ?_) AllReadyH.nil)
          go_simp
          refine hK.out _ _ (hpV hF1) (fun hHeld2 => ?_)
          clear hK K hHeld
          generalize World.drew _ = V3 at hF1 hHeld2 ⊢
          have y3 : V3.cell? ⟨w3.heap.size + 1 + 2, 0, none⟩ = some (.int .i64 _) := cell_of_row _ _ 0 _ 3 (0, 0) hF1.w
          have u3 := frozen_of_row _ _ 0 _ 3 hF1.w
          have hF2 := hF1.setw (by omega) 1
          refine wpAnyH_ready (rs := [4]) (by kernel_rfl) (by simp) (AllReadyH.cons rfl (fun K hK => ?_) AllReadyH.nil)
          go_simp
          refine hK.out _ _ (hpV hF2) (fun hHeld3 => ?_)
          clear hK K hHeld2
          generalize V3.setCell _ _ = V4 at hF2 hHeld3 ⊢
          have y40 : V4.cell? ⟨w3.heap.size + 1 + 3, 0, none⟩ = some (.string fs) := cell_of_row _ _ 0 _ 52 (0, 0) hF2.f
          have y41 : V4.cell? ⟨w3.heap.size + 1 + 3, 1, none⟩ = some (.int .i64 fc) := cell_of_row _ _ 1 _ 52 (0, 0) hF2.f
          have y42 : V4.cell? ⟨w3.heap.size + 1 + 3, 2, none⟩ = some (.slice fA fn fcap) := cell_of_row _ _ 2 _ 52 (0, 0) hF2.f
          have u40 := frozen_of_row _ _ 0 _ 52 hF2.f
          have u41 := frozen_of_row _ _ 1 _ 52 hF2.f
          have u42 := frozen_of_row _ _ 2 _ 52 hF2.f
          have hF3 := ((hF2.setf (by omega) 0 (.string xs)).setf (by omega) 1 (.int .i64 xc)).setf (by omega) 2 (.slice A xch.length cap)
          refine wpAnyH_ready (rs := [5]) (by kernel_rfl) (by simp) (AllReadyH.cons rfl (fun K hK => ?_) AllReadyH.nil)
          go_simp
          refine hK.out _ _ (hpV hF3) (fun hHeld4 => ?_)
          clear hK K hHeld3
          refine wpAnyH_done (by kernel_rfl) ?_ _
          exact Hi.out.finish xs HS1.out HS2.out hszg (by rw [← Hq.out]; exact HB.out) _ _ _ hF3 (by rw [HU.out]) (by rw [HU.out]; rfl) (.inr (.inr ⟨A, xch.length, cap, rfl, Hfit.out, rfl, HU.out, rfl⟩))
        · have HS1 : Hid (sgOf s (pre ++ [⟨xs, xc, xch, .slice A xch.length cap⟩]) = sg) := Lib.hid (by
            cases pre with
            | nil =>
              have hq0 : q = 0 := Hq.out
              have hs0 : s = sg := Hsg.out
              show (if s = ⟨#[]⟩ then xs else s) = sg
              rw [if_neg (fun e => hch ⟨hq0, by rw [← hs0]; exact e⟩)]; exact hs0
            | cons y l => rw [sgOf_snoc s _ _ (by simp)]; exact Hsg.out)
          have HS2 : Hid (pre = [] ∨ sgOf s pre = sg) := Lib.hid (.inr Hsg.out)
          have hb : ((q : Int) + 1 == 1) = false ∨ (((q : Int) + 1 == 1) = true ∧ (sg.toList == ([] : List UInt8)) = false) := by
            by_cases h0 : q = 0
            · refine .inr ⟨by simp [h0], ?_⟩
              cases hh : (sg.toList == ([] : List UInt8)) with
              | false => rfl
              | true => exact absurd ⟨h0, eqS_true (b := ⟨#[]⟩) (by unfold eqS; rw [show (ByteArray.mk #[]).toList = [] from by kernel_rfl]; exact hh)⟩ hch
            · refine .inl ?_
              have : ¬ ((q : Int) + 1 = 1) := by omega
              simpa using this
          clear hch
          by_cases hx : xs = sg
          · subst hx
            by_cases hw0 : stw = 0
            · have HU : Hid (updP xs.data.toList (stOf s pre) (YP.pat ⟨xs, xc, xch, .slice A xch.length cap⟩) = ⟨xc, 1, xch⟩) := Lib.hid (upd_new rfl (.inl (by rw [Hst.out]; exact hw0)))
              rcases hb with hb | ⟨hb, hb2⟩
              · gi_wp2
                refine wpIn_region_held_round (S := fun W' => W'.cell? ⟨bp, 0, none⟩ = some (.string xs) ∧ W'.cell? ⟨bp, 1, none⟩ = some (.int .i64 xc) ∧ W'.cell? ⟨bp, 2, none⟩ = some (.slice A xch.length cap)) (by kernel_rfl) (by kernel_rfl) (fun ⟨_, _, h⟩ => h) ⟨p0, p1, p2⟩ (fun hHeld => ?_)
                refine wpAnyH_take (i := 0) (v := ?_) rfl (by kernel_rfl) (by kernel_rfl) (by kernel_rfl) (fun _ _ _ h => h) (Or.inl ⟨by rfl, ?_⟩) (by assumption) ?_
                rotate_left
                · intro w hSw
                  obtain ⟨hS1, hS2, hS3⟩ := hSw
                  go_simp
                  try with_reducible rfl
                simp only [Act.put, List.getElem_toArray, List.getElem_cons_zero, List.getElem_cons_succ, List.setIfInBounds_toArray, List.set_cons_zero, List.set_cons_succ]
                refine wpAnyH_take (i := 1) (v := ?_) rfl (by kernel_rfl) (by kernel_rfl) (by kernel_rfl) (fun _ _ _ h => h) (Or.inl ⟨by rfl, ?_⟩) (by assumption) ?_
                rotate_left
                · intro w hSw
                  obtain ⟨hS1, hS2, hS3⟩ := hSw
                  go_simp
                  try with_reducible rfl
                simp only [Act.put, List.getElem_toArray, List.getElem_cons_zero, List.getElem_cons_succ, List.setIfInBounds_toArray, List.set_cons_zero, List.set_cons_succ]
                refine wpAnyH_take (i := 2) (v := ?_) rfl (by kernel_rfl) (by kernel_rfl) (by kernel_rfl) (fun _ _ _ h => h) (Or.inl ⟨by rfl, ?_⟩) (by assumption) ?_
                rotate_left
                · intro w hSw
                  obtain ⟨hS1, hS2, hS3⟩ := hSw
                  go_simp
                  try with_reducible rfl
                simp only [Act.put, List.getElem_toArray, List.getElem_cons_zero, List.getElem_cons_succ, List.setIfInBounds_toArray, List.set_cons_zero, List.set_cons_succ]
                have hpV : ∀ {V' : World} {c wv : Int} {f : Array Value}, Fin w.heap.size (w3.heap.size + 1) c wv f (V.setCell ⟨w3.heap.size + 1, 0, none⟩ (.int .i64 ((q : Int) + 1))) V' → V'.cell? ⟨bp, 0, none⟩ = some (.string xs) ∧ V'.cell? ⟨bp, 1, none⟩ = some (.int .i64 xc) ∧ V'.cell? ⟨bp, 2, none⟩ = some (.slice A xch.length cap) := fun hF => by
                  have e := (hF.off bp (by omega) (by omega) (by omega)).trans ((HA.out.off bp (by omega) (by omega)).trans Hbp.out)
                  exact ⟨cell_of_row _ _ 0 _ 52 (0, 0) e, cell_of_row _ _ 1 _ 52 (0, 0) e, cell_of_row _ _ 2 _ 52 (0, 0) e⟩
                obtain ⟨fs, fc, fA, fn, fcap, hF0⟩ := Fin.start Hi.out HA.out
                rw [Hst.out] at hF0
                simp only [] at hF0
                have hF1 := (hF0.setc (by omega) xc).drew
                refine wpAnyH_ready (rs := [3]) (by kernel_rfl) (by simp) (AllReadyH.cons rfl (fun K hK => ?_) AllReadyH.nil)
                go_simp
                refine hK.out _ _ (hpV hF1) (fun hHeld2 => ?_)
                clear hK K hHeld
                generalize World.drew _ = V3 at hF1 hHeld2 ⊢
                have y3 : V3.cell? ⟨w3.heap.size + 1 + 2, 0, none⟩ = some (.int .i64 _) := cell_of_row _ _ 0 _ 3 (0, 0) hF1.w
                have u3 := frozen_of_row _ _ 0 _ 3 hF1.w
                have hF2 := hF1.setw (by omega) 1
                refine wpAnyH_ready (rs := [4]) (by kernel_rfl) (by simp) (AllReadyH.cons rfl (fun K hK => ?_) AllReadyH.nil)
                go_simp
                refine hK.out _ _ (hpV hF2) (fun hHeld3 => ?_)
                clear hK K hHeld2
                generalize V3.setCell _ _ = V4 at hF2 hHeld3 ⊢
                have y40 : V4.cell? ⟨w3.heap.size + 1 + 3, 0, none⟩ = some (.string fs) := cell_of_row _ _ 0 _ 52 (0, 0) hF2.f
                have y41 : V4.cell? ⟨w3.heap.size + 1 + 3, 1, none⟩ = some (.int .i64 fc) := cell_of_row _ _ 1 _ 52 (0, 0) hF2.f
                have y42 : V4.cell? ⟨w3.heap.size + 1 + 3, 2, none⟩ = some (.slice fA fn fcap) := cell_of_row _ _ 2 _ 52 (0, 0) hF2.f
                have u40 := frozen_of_row _ _ 0 _ 52 hF2.f
                have u41 := frozen_of_row _ _ 1 _ 52 hF2.f
                have u42 := frozen_of_row _ _ 2 _ 52 hF2.f
                have hF3 := ((hF2.setf (by omega) 0 (.string xs)).setf (by omega) 1 (.int .i64 xc)).setf (by omega) 2 (.slice A xch.length cap)
                refine wpAnyH_ready (rs := [5]) (by kernel_rfl) (by simp) (AllReadyH.cons rfl (fun K hK => ?_) AllReadyH.nil)
                go_simp
                refine hK.out _ _ (hpV hF3) (fun hHeld4 => ?_)
                clear hK K hHeld3
                refine wpAnyH_done (by kernel_rfl) ?_ _
                exact Hi.out.finish xs HS1.out HS2.out hszg (by rw [← Hq.out]; exact HA.out) _ _ _ hF3 (by rw [HU.out]) (by rw [HU.out]; rfl) (.inr (.inr ⟨A, xch.length, cap, rfl, Hfit.out, rfl, HU.out, rfl⟩))
              · gi_wp2
                refine wpIn_region_held_round (S := fun W' => W'.cell? ⟨bp, 0, none⟩ = some (.string xs) ∧ W'.cell? ⟨bp, 1, none⟩ = some (.int .i64 xc) ∧ W'.cell? ⟨bp, 2, none⟩ = some (.slice A xch.length cap)) (by kernel_rfl) (by kernel_rfl) (fun ⟨_, _, h⟩ => h) ⟨p0, p1, p2⟩ (fun hHeld => ?_)
                refine wpAnyH_take (i := 0) (v := ?_) rfl (by kernel_rfl) (by kernel_rfl) (by kernel_rfl) (fun _ _ _ h => h) (Or.inl ⟨by rfl, ?_⟩) (by assumption) ?_
                rotate_left
                · intro w hSw
                  obtain ⟨hS1, hS2, hS3⟩ := hSw
                  go_simp
                  try with_reducible rfl
                simp only [Act.put, List.getElem_toArray, List.getElem_cons_zero, List.getElem_cons_succ, List.setIfInBounds_toArray, List.set_cons_zero, List.set_cons_succ]
                refine wpAnyH_take (i := 1) (v := ?_) rfl (by kernel_rfl) (by kernel_rfl) (by kernel_rfl) (fun _ _ _ h => h) (Or.inl ⟨by rfl, ?_⟩) (by assumption) ?_
                rotate_left
                · intro w hSw
                  obtain ⟨hS1, hS2, hS3⟩ := hSw
                  go_simp
                  try with_reducible rfl
                simp only [Act.put, List.getElem_toArray, List.getElem_cons_zero, List.getElem_cons_succ, List.setIfInBounds_toArray, List.set_cons_zero, List.set_cons_succ]
                refine wpAnyH_take (i := 2) (v := ?_) rfl (by kernel_rfl) (by kernel_rfl) (by kernel_rfl) (fun _ _ _ h => h) (Or.inl ⟨by rfl, ?_⟩) (by assumption) ?_
                rotate_left
                · intro w hSw
                  obtain ⟨hS1, hS2, hS3⟩ := hSw
                  go_simp
                  try with_reducible rfl
                simp only [Act.put, List.getElem_toArray, List.getElem_cons_zero, List.getElem_cons_succ, List.setIfInBounds_toArray, List.set_cons_zero, List.set_cons_succ]
                have hpV : ∀ {V' : World} {c wv : Int} {f : Array Value}, Fin w.heap.size (w3.heap.size + 1) c wv f (V.setCell ⟨w3.heap.size + 1, 0, none⟩ (.int .i64 ((q : Int) + 1))) V' → V'.cell? ⟨bp, 0, none⟩ = some (.string xs) ∧ V'.cell? ⟨bp, 1, none⟩ = some (.int .i64 xc) ∧ V'.cell? ⟨bp, 2, none⟩ = some (.slice A xch.length cap) := fun hF => by
                  have e := (hF.off bp (by omega) (by omega) (by omega)).trans ((HA.out.off bp (by omega) (by omega)).trans Hbp.out)
                  exact ⟨cell_of_row _ _ 0 _ 52 (0, 0) e, cell_of_row _ _ 1 _ 52 (0, 0) e, cell_of_row _ _ 2 _ 52 (0, 0) e⟩
                obtain ⟨fs, fc, fA, fn, fcap, hF0⟩ := Fin.start Hi.out HA.out
                rw [Hst.out] at hF0
                simp only [] at hF0
                have hF1 := (hF0.setc (by omega) xc).drew
                refine wpAnyH_ready (rs := [3]) (by kernel_rfl) (by simp) (AllReadyH.cons rfl (fun K hK => ?_) AllReadyH.nil)
                go_simp
                refine hK.out _ _ (hpV hF1) (fun hHeld2 => ?_)
                clear hK K hHeld
                generalize World.drew _ = V3 at hF1 hHeld2 ⊢
                have y3 : V3.cell? ⟨w3.heap.size + 1 + 2, 0, none⟩ = some (.int .i64 _) := cell_of_row _ _ 0 _ 3 (0, 0) hF1.w
                have u3 := frozen_of_row _ _ 0 _ 3 hF1.w
                have hF2 := hF1.setw (by omega) 1
                refine wpAnyH_ready (rs := [4]) (by kernel_rfl) (by simp) (AllReadyH.cons rfl (fun K hK => ?_) AllReadyH.nil)
                go_simp
                refine hK.out _ _ (hpV hF2) (fun hHeld3 => ?_)
                clear hK K hHeld2
                generalize V3.setCell _ _ = V4 at hF2 hHeld3 ⊢
                have y40 : V4.cell? ⟨w3.heap.size + 1 + 3, 0, none⟩ = some (.string fs) := cell_of_row _ _ 0 _ 52 (0, 0) hF2.f
                have y41 : V4.cell? ⟨w3.heap.size + 1 + 3, 1, none⟩ = some (.int .i64 fc) := cell_of_row _ _ 1 _ 52 (0, 0) hF2.f
                have y42 : V4.cell? ⟨w3.heap.size + 1 + 3, 2, none⟩ = some (.slice fA fn fcap) := cell_of_row _ _ 2 _ 52 (0, 0) hF2.f
                have u40 := frozen_of_row _ _ 0 _ 52 hF2.f
                have u41 := frozen_of_row _ _ 1 _ 52 hF2.f
                have u42 := frozen_of_row _ _ 2 _ 52 hF2.f
                have hF3 := ((hF2.setf (by omega) 0 (.string xs)).setf (by omega) 1 (.int .i64 xc)).setf (by omega) 2 (.slice A xch.length cap)
                refine wpAnyH_ready (rs := [5]) (by kernel_rfl) (by simp) (AllReadyH.cons rfl (fun K hK => ?_) AllReadyH.nil)
                go_simp
                refine hK.out _ _ (hpV hF3) (fun hHeld4 => ?_)
                clear hK K hHeld3
                refine wpAnyH_done (by kernel_rfl) ?_ _
                exact Hi.out.finish xs HS1.out HS2.out hszg (by rw [← Hq.out]; exact HA.out) _ _ _ hF3 (by rw [HU.out]) (by rw [HU.out]; rfl) (.inr (.inr ⟨A, xch.length, cap, rfl, Hfit.out, rfl, HU.out, rfl⟩))
            · have hw1 : ((stw : Int) == 0) = false := by simpa using hw0
              by_cases hlt : xc < stc
              · have HU : Hid (updP xs.data.toList (stOf s pre) (YP.pat ⟨xs, xc, xch, .slice A xch.length cap⟩) = ⟨xc, 1, xch⟩) := Lib.hid (upd_new rfl (.inr (by rw [Hst.out]; exact hlt)))
                rcases hb with hb | ⟨hb, hb2⟩
                · gi_wp2
                  refine wpIn_region_held_round (S := fun W' => W'.cell? ⟨bp, 0, none⟩ = some (.string xs) ∧ W'.cell? ⟨bp, 1, none⟩ = some (.int .i64 xc) ∧ W'.cell? ⟨bp, 2, none⟩ = some (.slice A xch.length cap)) (by kernel_rfl) (by kernel_rfl) (fun ⟨_, _, h⟩ => h) ⟨p0, p1, p2⟩ (fun hHeld => ?_)
                  refine wpAnyH_take (i := 0) (v := ?_) rfl (by kernel_rfl) (by kernel_rfl) (by kernel_rfl) (fun _ _ _ h => h) (Or.inl ⟨by rfl, ?_⟩) (by assumption) ?_
                  rotate_left
                  · intro w hSw
                    obtain ⟨hS1, hS2, hS3⟩ := hSw
                    go_simp
                    try with_reducible rfl
                  simp only [Act.put, List.getElem_toArray, List.getElem_cons_zero, List.getElem_cons_succ, List.setIfInBounds_toArray, List.set_cons_zero, List.set_cons_succ]
                  refine wpAnyH_take (i := 1) (v := ?_) rfl (by kernel_rfl) (by kernel_rfl) (by kernel_rfl) (fun _ _ _ h => h) (Or.inl ⟨by rfl, ?_⟩) (by assumption) ?_
                  rotate_left
                  · intro w hSw
                    obtain ⟨hS1, hS2, hS3⟩ := hSw
                    go_simp
                    try with_reducible rfl
                  simp only [Act.put, List.getElem_toArray, List.getElem_cons_zero, List.getElem_cons_succ, List.setIfInBounds_toArray, List.set_cons_zero, List.set_cons_succ]
                  refine wpAnyH_take (i := 2) (v := ?_) rfl (by kernel_rfl) (by kernel_rfl) (by kernel_rfl) (fun _ _ _ h => h) (Or.inl ⟨by rfl, ?_⟩) (by assumption) ?_
                  rotate_left
                  · intro w hSw
                    obtain ⟨hS1, hS2, hS3⟩ := hSw
                    go_simp
                    try with_reducible rfl
                  simp only [Act.put, List.getElem_toArray, List.getElem_cons_zero, List.getElem_cons_succ, List.setIfInBounds_toArray, List.set_cons_zero, List.set_cons_succ]
                  have hpV : ∀ {V' : World} {c wv : Int} {f : Array Value}, Fin w.heap.size (w3.heap.size + 1) c wv f (V.setCell ⟨w3.heap.size + 1, 0, none⟩ (.int .i64 ((q : Int) + 1))) V' → V'.cell? ⟨bp, 0, none⟩ = some (.string xs) ∧ V'.cell? ⟨bp, 1, none⟩ = some (.int .i64 xc) ∧ V'.cell? ⟨bp, 2, none⟩ = some (.slice A xch.length cap) := fun hF => by
                    have e := (hF.off bp (by omega) (by omega) (by omega)).trans ((HA.out.off bp (by omega) (by omega)).trans Hbp.out)
                    exact ⟨cell_of_row _ _ 0 _ 52 (0, 0) e, cell_of_row _ _ 1 _ 52 (0, 0) e, cell_of_row _ _ 2 _ 52 (0, 0) e⟩
                  obtain ⟨fs, fc, fA, fn, fcap, hF0⟩ := Fin.start Hi.out HA.out
                  rw [Hst.out] at hF0
                  simp only [] at hF0
                  have hF1 := (hF0.setc (by omega) xc).drew
                  refine wpAnyH_ready (rs := [3]) (by kernel_rfl) (by simp) (AllReadyH.cons rfl (fun K hK => ?_) AllReadyH.nil)
                  go_simp
                  refine hK.out _ _ (hpV hF1) (fun hHeld2 => ?_)
                  clear hK K hHeld
                  generalize World.drew _ = V3 at hF1 hHeld2 ⊢
                  have y3 : V3.cell? ⟨w3.heap.size + 1 + 2, 0, none⟩ = some (.int .i64 _) := cell_of_row _ _ 0 _ 3 (0, 0) hF1.w
                  have u3 := frozen_of_row _ _ 0 _ 3 hF1.w
                  have hF2 := hF1.setw (by omega) 1
                  refine wpAnyH_ready (rs := [4]) (by kernel_rfl) (by simp) (AllReadyH.cons rfl (fun K hK => ?_) AllReadyH.nil)
                  go_simp
                  refine hK.out _ _ (hpV hF2) (fun hHeld3 => ?_)
                  clear hK K hHeld2
                  generalize V3.setCell _ _ = V4 at hF2 hHeld3 ⊢
                  have y40 : V4.cell? ⟨w3.heap.size + 1 + 3, 0, none⟩ = some (.string fs) := cell_of_row _ _ 0 _ 52 (0, 0) hF2.f
                  have y41 : V4.cell? ⟨w3.heap.size + 1 + 3, 1, none⟩ = some (.int .i64 fc) := cell_of_row _ _ 1 _ 52 (0, 0) hF2.f
                  have y42 : V4.cell? ⟨w3.heap.size + 1 + 3, 2, none⟩ = some (.slice fA fn fcap) := cell_of_row _ _ 2 _ 52 (0, 0) hF2.f
                  have u40 := frozen_of_row _ _ 0 _ 52 hF2.f
                  have u41 := frozen_of_row _ _ 1 _ 52 hF2.f
                  have u42 := frozen_of_row _ _ 2 _ 52 hF2.f
                  have hF3 := ((hF2.setf (by omega) 0 (.string xs)).setf (by omega) 1 (.int .i64 xc)).setf (by omega) 2 (.slice A xch.length cap)
                  refine wpAnyH_ready (rs := [5]) (by kernel_rfl) (by simp) (AllReadyH.cons rfl (fun K hK => ?_) AllReadyH.nil)
                  go_simp
                  refine hK.out _ _ (hpV hF3) (fun hHeld4 => ?_)
                  clear hK K hHeld3
                  refine wpAnyH_done (by kernel_rfl) ?_ _
                  exact Hi.out.finish xs HS1.out HS2.out hszg (by rw [← Hq.out]; exact HA.out) _ _ _ hF3 (by rw [HU.out]) (by rw [HU.out]; rfl) (.inr (.inr ⟨A, xch.length, cap, rfl, Hfit.out, rfl, HU.out, rfl⟩))
                · gi_wp2
                  refine wpIn_region_held_round (S := fun W' => W'.cell? ⟨bp, 0, none⟩ = some (.string xs) ∧ W'.cell? ⟨bp, 1, none⟩ = some (.int .i64 xc) ∧ W'.cell? ⟨bp, 2, none⟩ = some (.slice A xch.length cap)) (by kernel_rfl) (by kernel_rfl) (fun ⟨_, _, h⟩ => h) ⟨p0, p1, p2⟩ (fun hHeld => ?_)
                  refine wpAnyH_take (i := 0) (v := ?_) rfl (by kernel_rfl) (by kernel_rfl) (by kernel_rfl) (fun _ _ _ h => h) (Or.inl ⟨by rfl, ?_⟩) (by assumption) ?_
                  rotate_left
                  · intro w hSw
                    obtain ⟨hS1, hS2, hS3⟩ := hSw
                    go_simp
                    try with_reducible rfl
                  simp only [Act.put, List.getElem_toArray, List.getElem_cons_zero, List.getElem_cons_succ, List.setIfInBounds_toArray, List.set_cons_zero, List.set_cons_succ]
                  refine wpAnyH_take (i := 1) (v := ?_) rfl (by kernel_rfl) (by kernel_rfl) (by kernel_rfl) (fun _ _ _ h => h) (Or.inl ⟨by rfl, ?_⟩) (by assumption) ?_
                  rotate_left
                  · intro w hSw
                    obtain ⟨hS1, hS2, hS3⟩ := hSw
                    go_simp
                    try with_reducible rfl
                  simp only [Act.put, List.getElem_toArray, List.getElem_cons_zero, List.getElem_cons_succ, List.setIfInBounds_toArray, List.set_cons_zero, List.set_cons_succ]
                  refine wpAnyH_take (i := 2) (v := ?_) rfl (by kernel_rfl) (by kernel_rfl) (by kernel_rfl) (fun _ _ _ h => h) (Or.inl ⟨by rfl, ?_⟩) (by assumption) ?_
                  rotate_left
                  · intro w hSw
                    obtain ⟨hS1, hS2, hS3⟩ := hSw
                    go_simp
                    try with_reducible rfl
                  simp only [Act.put, List.getElem_toArray, List.getElem_cons_zero, List.getElem_cons_succ, List.setIfInBounds_toArray, List.set_cons_zero, List.set_cons_succ]
                  have hpV : ∀ {V' : World} {c wv : Int} {f : Array Value}, Fin w.heap.size (w3.heap.size + 1) c wv f (V.setCell ⟨w3.heap.size + 1, 0, none⟩ (.int .i64 ((q : Int) + 1))) V' → V'.cell? ⟨bp, 0, none⟩ = some (.string xs) ∧ V'.cell? ⟨bp, 1, none⟩ = some (.int .i64 xc) ∧ V'.cell? ⟨bp, 2, none⟩ = some (.slice A xch.length cap) := fun hF => by
                    have e := (hF.off bp (by omega) (by omega) (by omega)).trans ((HA.out.off bp (by omega) (by omega)).trans Hbp.out)
                    exact ⟨cell_of_row _ _ 0 _ 52 (0, 0) e, cell_of_row _ _ 1 _ 52 (0, 0) e, cell_of_row _ _ 2 _ 52 (0, 0) e⟩
                  obtain ⟨fs, fc, fA, fn, fcap, hF0⟩ := Fin.start Hi.out HA.out
                  rw [Hst.out] at hF0
                  simp only [] at hF0
                  have hF1 := (hF0.setc (by omega) xc).drew
                  refine wpAnyH_ready (rs := [3]) (by kernel_rfl) (by simp) (AllReadyH.cons rfl (fun K hK => ?_) AllReadyH.nil)
                  go_simp
                  refine hK.out _ _ (hpV hF1) (fun hHeld2 => ?_)
                  clear hK K hHeld
                  generalize World.drew _ = V3 at hF1 hHeld2 ⊢
                  have y3 : V3.cell? ⟨w3.heap.size + 1 + 2, 0, none⟩ = some (.int .i64 _) := cell_of_row _ _ 0 _ 3 (0, 0) hF1.w
                  have u3 := frozen_of_row _ _ 0 _ 3 hF1.w
                  have hF2 := hF1.setw (by omega) 1
                  refine wpAnyH_ready (rs := [4]) (by kernel_rfl) (by simp) (AllReadyH.cons rfl (fun K hK => ?_) AllReadyH.nil)
                  go_simp
                  refine hK.out _ _ (hpV hF2) (fun hHeld3 => ?_)
                  clear hK K hHeld2
                  generalize V3.setCell _ _ = V4 at hF2 hHeld3 ⊢
                  have y40 : V4.cell? ⟨w3.heap.size + 1 + 3, 0, none⟩ = some (.string fs) := cell_of_row _ _ 0 _ 52 (0, 0) hF2.f
                  have y41 : V4.cell? ⟨w3.heap.size + 1 + 3, 1, none⟩ = some (.int .i64 fc) := cell_of_row _ _ 1 _ 52 (0, 0) hF2.f
                  have y42 : V4.cell? ⟨w3.heap.size + 1 + 3, 2, none⟩ = some (.slice fA fn fcap) := cell_of_row _ _ 2 _ 52 (0, 0) hF2.f
                  have u40 := frozen_of_row _ _ 0 _ 52 hF2.f
                  have u41 := frozen_of_row _ _ 1 _ 52 hF2.f
                  have u42 := frozen_of_row _ _ 2 _ 52 hF2.f
                  have hF3 := ((hF2.setf (by omega) 0 (.string xs)).setf (by omega) 1 (.int .i64 xc)).setf (by omega) 2 (.slice A xch.length cap)
                  refine wpAnyH_ready (rs := [5]) (by kernel_rfl) (by simp) (AllReadyH.cons rfl (fun K hK => ?_) AllReadyH.nil)
                  go_simp
                  refine hK.out _ _ (hpV hF3) (fun hHeld4 => ?_)
                  clear hK K hHeld3
                  refine wpAnyH_done (by kernel_rfl) ?_ _
                  exact Hi.out.finish xs HS1.out HS2.out hszg (by rw [← Hq.out]; exact HA.out) _ _ _ hF3 (by rw [HU.out]) (by rw [HU.out]; rfl) (.inr (.inr ⟨A, xch.length, cap, rfl, Hfit.out, rfl, HU.out, rfl⟩))
              · cases heq : (xc == stc) with
                | true =>
                  have HU : Hid (updP xs.data.toList (stOf s pre) (YP.pat ⟨xs, xc, xch, .slice A xch.length cap⟩) = ⟨stc, stw + 1, stf⟩) := Lib.hid (by
                    have h0 := upd_eq (s := xs.data.toList) (st := stOf s pre) (p := (YP.pat ⟨xs, xc, xch, .slice A xch.length cap⟩)) rfl (by rw [Hst.out]; exact hw0) (by rw [Hst.out]; show xc = stc; simpa using heq)
                    rw [h0, Hst.out])
                  rcases hb with hb | ⟨hb, hb2⟩
                  · gi_wp2
                    obtain ⟨fs, fc, fA, fn, fcap, hF0⟩ := Fin.start Hi.out HA.out
                    rw [Hst.out] at hF0
                    simp only [] at hF0
                    exact Hi.out.finish xs HS1.out HS2.out hszg (by rw [← Hq.out]; exact HA.out) _ _ _ (hF0.setw (by omega) ((stw : Int) + 1)) (by rw [HU.out]) (by rw [HU.out]; rfl) (.inr (.inl ⟨by rw [Hst.out]; exact hw0, by rw [HU.out, Hst.out], by rw [HU.out, Hst.out], (Below.heap_setCell _ _ _ _ (by show w3.heap.size + 1 + 3 ≠ w3.heap.size + 1 + 2; omega)).trans (HA.out.off _ (by omega) (by omega))⟩))
                  · gi_wp2
                    obtain ⟨fs, fc, fA, fn, fcap, hF0⟩ := Fin.start Hi.out HA.out
                    rw [Hst.out] at hF0
                    simp only [] at hF0
                    exact Hi.out.finish xs HS1.out HS2.out hszg (by rw [← Hq.out]; exact HA.out) _ _ _ (hF0.setw (by omega) ((stw : Int) + 1)) (by rw [HU.out]) (by rw [HU.out]; rfl) (.inr (.inl ⟨by rw [Hst.out]; exact hw0, by rw [HU.out, Hst.out], by rw [HU.out, Hst.out], (Below.heap_setCell _ _ _ _ (by show w3.heap.size + 1 + 3 ≠ w3.heap.size + 1 + 2; omega)).trans (HA.out.off _ (by omega) (by omega))⟩))
                | false =>
                  have HU : Hid (updP xs.data.toList (stOf s pre) (YP.pat ⟨xs, xc, xch, .slice A xch.length cap⟩) = stOf s pre) := Lib.hid (upd_old rfl (by rw [Hst.out]; exact hw0) (by
                    rw [Hst.out]; show stc < xc
                    have : ¬ xc = stc := by simpa using heq
                    omega))
                  rcases hb with hb | ⟨hb, hb2⟩
                  · gi_wp2
                    obtain ⟨fs, fc, fA, fn, fcap, hF0⟩ := Fin.start Hi.out HA.out
                    rw [Hst.out] at hF0
                    simp only [] at hF0
                    exact Hi.out.finish xs HS1.out HS2.out hszg (by rw [← Hq.out]; exact HA.out) _ _ _ hF0 (by rw [HU.out, Hst.out]) (by rw [HU.out, Hst.out]) (.inl ⟨HU.out, HA.out.off _ (by omega) (by omega)⟩)
                  · gi_wp2
                    obtain ⟨fs, fc, fA, fn, fcap, hF0⟩ := Fin.start Hi.out HA.out
                    rw [Hst.out] at hF0
                    simp only [] at hF0
                    exact Hi.out.finish xs HS1.out HS2.out hszg (by rw [← Hq.out]; exact HA.out) _ _ _ hF0 (by rw [HU.out, Hst.out]) (by rw [HU.out, Hst.out]) (.inl ⟨HU.out, HA.out.off _ (by omega) (by omega)⟩)
          · have hx2 : (xs.toList == sg.toList) = false := by
              cases hh : (xs.toList == sg.toList) with
              | false => rfl
              | true => exact absurd (eqS_true (a := xs) (b := sg) hh) hx
            have HU : Hid (updP sg.data.toList (stOf s pre) (YP.pat ⟨xs, xc, xch, .slice A xch.length cap⟩) = stOf s pre) := Lib.hid (upd_off (fun e => hx (by
              have e' : xs.data.toList = sg.data.toList := e
              exact ByteArray.ext (Array.toList_inj.1 e'))))
            rcases hb with hb | ⟨hb, hb2⟩
            · gi_wp2
              obtain ⟨fs, fc, fA, fn, fcap, hF0⟩ := Fin.start Hi.out HA.out
              rw [Hst.out] at hF0
              simp only [] at hF0
              exact Hi.out.finish sg HS1.out HS2.out hszg (by rw [← Hq.out]; exact HA.out) _ _ _ hF0 (by rw [HU.out, Hst.out]) (by rw [HU.out, Hst.out]) (.inl ⟨HU.out, HA.out.off _ (by omega) (by omega)⟩)
            · gi_wp2
              obtain ⟨fs, fc, fA, fn, fcap, hF0⟩ := Fin.start Hi.out HA.out
              rw [Hst.out] at hF0
              simp only [] at hF0
              exact Hi.out.finish sg HS1.out HS2.out hszg (by rw [← Hq.out]; exact HA.out) _ _ _ hF0 (by rw [HU.out, Hst.out]) (by rw [HU.out, Hst.out]) (.inl ⟨HU.out, HA.out.off _ (by omega) (by omega)⟩)
      case hdone =>
        rintro D xs V hD hxs hi hK
        have hlen : xs.length = N := by rw [← HN.out, ← hxs, List.length_map]
        have hG : stOf s xs = G (optsP m) (sgOf s xs).data.toList := by unfold stOf G; rw [hxs]
        have hn2 : (pats (optsP m)).length ≤ 4611686018427387904 := by rw [HN.out]; omega
        have hL := least_G Hm.out hn2 (sgOf s xs)
        have hC := choice_G Hm.out hn2 (sgOf s xs)
        rw [← hG] at hL hC
        obtain ⟨fs, fc, fA, fn, fcap, hf, hif⟩ := hi.f
        have hsz := hi.sz
        have hc := hi.c
        have hw := hi.wy
        have hk := hi.k
        have hs' := hi.s
        rw [hlen] at hk
        have h12 := hi.h1; have h22 := hi.h2; have h32 := hi.h3; have h42 := hi.h4
        generalize stOf s xs = st at *
        generalize sgOf s xs = sg at *
        obtain ⟨stc, stw, stf⟩ := st
        simp only [] at hc hw hif hL hC
        have Hi := Lib.hid hi
        have HkV : Hid (∀ (W2 : World), Below V.heap.size V W2 → W2.cell? ⟨w.heap.size, 0, none⟩ = some (.slice Af m.feet.length cf) ∧ W2.cell? ⟨w.heap.size, 1, none⟩ = some (.slice Ae m.ends.length ce) ∧ W2.cell? ⟨w.heap.size, 2, none⟩ = some (.slice Ab m.brks.length cb) ∧
            W2.cell? ⟨w.heap.size + 1, 0, none⟩ = some (.string sg) ∧ W2.cell? ⟨w3.heap.size, 0, none⟩ = some (.int .i64 N) ∧ W2.cell? ⟨w3.heap.size + 1, 0, none⟩ = some (.int .i64 N) ∧ W2.cell? ⟨w3.heap.size + 1 + 1, 0, none⟩ = some (.int .i64 stc) ∧ W2.cell? ⟨w3.heap.size + 1 + 2, 0, none⟩ = some (.int .i64 stw) ∧
            W2.cell? ⟨w3.heap.size + 1 + 3, 0, none⟩ = some (.string fs) ∧ W2.cell? ⟨w3.heap.size + 1 + 3, 1, none⟩ = some (.int .i64 fc) ∧ W2.cell? ⟨w3.heap.size + 1 + 3, 2, none⟩ = some (.slice fA fn fcap)) := Lib.hid fun W2 hb2 => by
          have e := (hb2.block _ (by omega)).trans hi.m
          have e9 := (hb2.block _ (by omega)).trans hf
          exact ⟨cell_of_row W2 w.heap.size 0 _ 27 (0, 0) e, cell_of_row W2 w.heap.size 1 _ 27 (0, 0) e, cell_of_row W2 w.heap.size 2 _ 27 (0, 0) e, cell_of_row _ _ 0 _ 9 (0, 0) ((hb2.block _ (by omega)).trans hs'), cell_of_row _ _ 0 _ 3 (0, 0) ((hb2.block _ (by omega)).trans hi.n), cell_of_row _ _ 0 _ 3 (0, 0) ((hb2.block _ (by omega)).trans hk),
            cell_of_row _ _ 0 _ 3 (0, 0) ((hb2.block _ (by omega)).trans hc), cell_of_row _ _ 0 _ 3 (0, 0) ((hb2.block _ (by omega)).trans hw), cell_of_row _ _ 0 _ 52 (0, 0) e9, cell_of_row _ _ 1 _ 52 (0, 0) e9, cell_of_row _ _ 2 _ 52 (0, 0) e9⟩
        have HrV : Hid (∀ (W2 : World), Below V.heap.size V W2 → W2.heap[w.heap.size + 2]? = some (.cells #[.bool false] 4 (0, 0)) ∧ W2.heap[D]? = some (.deferred (some [])) ∧ Below w.heap.size w W2) := Lib.hid fun W2 hb2 =>
          ⟨(hb2.block _ (by omega)).trans hi.r, (hb2.block _ (lt_of hK)).trans hK, hi.b.trans (hb2.mono (by omega))⟩
        have HwV : Hid (∀ (W2 : World), Below V.heap.size V W2 → Calls Tryd.prog 11 #[] W2 fun e w' => e = .returned (.bool true) ∧ Below W2.heap.size W2 w') := Lib.hid fun W2 hb2 => wakes_any W2 (HV0.out.below (HrV.out W2 hb2).2.2 HV0.out.six)
        have HmV : Hid (∀ (W2 : World), Below V.heap.size V W2 → IsMet W2 W2.heap.size Af Ae Ab cf ce cb m) := Lib.hid fun W2 hb2 => HM0.out.on (HrV.out W2 hb2).2.2
        have HnV : Hid (∀ (W2 W3 : World), Below V.heap.size V W2 → Below W2.heap.size W2 W3 → Below V.heap.size V W3) := Lib.hid fun W2 W3 h2 h3 => h2.trans (h3.mono h2.size)
        have Hif := Lib.hid hif
        have Hlst := Lib.hid (least_any Af Ae Ab cf ce cb m sg V (HmV.out V (Below.refl _ _)) hsz)
        have HL := Lib.hid hL
        have HC := Lib.hid hC
        obtain ⟨a0, a1, a2, a3, a4, a5, a6, a7, a8, a9, a10⟩ := HkV.out V (Below.refl _ _)
        have HD := Lib.hid hD
        have hD2 : w.heap.size + 2 < D := by omega
        clear hi hif hf hc hw hk hs' hxs hlen hG hL hC hK HLR0 Hpat Hf5
        go_wp2_with fail
        refine Hlst.out.mono ?_
        rintro e W2 ⟨rfl, hb2⟩
        have Hb2 := Lib.hid (HnV.out _ _ (Below.refl _ _) hb2)
        obtain ⟨q0, q1, q2, q3, _⟩ := HkV.out _ Hb2.out
        have Hfi := Lib.hid (first_any Af Ae Ab cf ce cb m sg W2 (HmV.out _ Hb2.out) hsz)
        clear hb2 a0 a1 a2 a3 a4 a5 a6 a7 a8 a9 a10
        by_cases hw0 : stw = 0
        · have hle : leastP m sg = (0, 0, 4) := by rw [HL.out, if_pos hw0]
          rw [hle]
          have hw1 : ((stw : Int) == 0) = true := by simp [hw0]
          clear hw0
          go_wp2_with fail
          refine Hfi.out.mono ?_
          rintro e W3 ⟨hb3, hans⟩
          rw [hle, if_neg (by decide)] at hans
          subst hans
          have Hb3 := Lib.hid ((HnV.out _ _ Hb2.out hb3).alloc (HnV.out _ _ Hb2.out hb3).size (.cells #[.string ⟨#[]⟩, .int .i64 0, .slice none 0 0] 52))
          obtain ⟨a0, a1, a2, a3, a4, a5, a6, a7, a8, a9, a10⟩ := HkV.out _ Hb3.out
          clear hb3 q0 q1 q2 q3 a0 a1 a2 a3
          go_wp2_with fail
          refine (HwV.out _ Hb3.out).mono ?_
          rintro e W5 ⟨rfl, hb5⟩
          have Hb5 := Lib.hid (HnV.out _ _ Hb3.out hb5)
          obtain ⟨r5, d5, b5⟩ := HrV.out _ Hb5.out
          have z5 := frozen_of_row _ _ 0 _ 4 r5
          have c5 : W5.cell? ⟨w.heap.size + 2, 0, none⟩ = some (.bool false) := cell_of_row _ _ 0 _ 4 (0, 0) r5
          clear hb5
          go_wp2_with fail
          exact counts_end2 rfl r5 b5 hD2 d5
        · have hle : leastP m sg = (stc, (stw : Int), 0) := by rw [HL.out, if_neg hw0]
          have hw1 : ((stw : Int) == 0) = false := by simpa using hw0
          have hch := HC.out hw0
          have hcl := choice_len m sg
          have hc17 := (opts_small Hm.out).1
          obtain ⟨rfl, rfl, hrow, _, _, _⟩ := Hif.out hw0
          rw [hle]
          clear hw0
          go_wp2_with fail
          refine Hfi.out.mono ?_
          rintro e W3 ⟨hb3, hans⟩
          rw [hle, if_pos rfl, hch] at hans
          obtain ⟨A2, c2, rfl, hc2, hin2⟩ := hans
          rw [hch] at hcl
          have hbA : Below W3.heap.size W3 (W3.alloc (.cells #[.string fs, .int .i64 fc, .slice A2 stf.length c2] 52)) := (Below.refl _ _).alloc (Nat.le_refl _) _
          have Hb3 := Lib.hid (HnV.out _ _ (HnV.out _ _ Hb2.out hb3) hbA)
          obtain ⟨a0, a1, a2, a3, a4, a5, a6, a7, a8, a9, a10⟩ := HkV.out _ Hb3.out
          have hrow2 := hrow.kept (only_of_below Hb3.out none) some_ne
          obtain ⟨A3, c3, e3, hc3, hin3⟩ := row_ints hrow2
          cases e3
          have eb := World.alloc_heap_new W3 (.cells #[.string fs, .int .i64 fc, .slice A2 stf.length c2] 52)
          have k0 : (W3.alloc (.cells #[.string fs, .int .i64 fc, .slice A2 stf.length c2] 52)).cell? ⟨W3.heap.size, 0, none⟩ = some (.string fs) := cell_of_row _ _ 0 _ 52 (0, 0) eb
          have k1 : (W3.alloc (.cells #[.string fs, .int .i64 fc, .slice A2 stf.length c2] 52)).cell? ⟨W3.heap.size, 1, none⟩ = some (.int .i64 fc) := cell_of_row _ _ 1 _ 52 (0, 0) eb
          have k2 : (W3.alloc (.cells #[.string fs, .int .i64 fc, .slice A2 stf.length c2] 52)).cell? ⟨W3.heap.size, 2, none⟩ = some (.slice A2 stf.length c2) := cell_of_row _ _ 2 _ 52 (0, 0) eb
          have Hpt := Lib.hid (pattern_any fs fs fc fc A2 fA c2 fcap stf stf _ ((hin2.below hbA).more hbA.size) hin3 (by omega) (by omega) hc2 hc3)
          clear hb3 q0 q1 q2 q3 a0 a1 a2 a3 hrow hrow2 hin3 hin2 hbA eb hch hcl hc17
          go_wp2_with fail
          refine Hpt.out.mono ?_
          rintro e W4 ⟨rfl, hb4⟩
          have Hb4 := Lib.hid (HnV.out _ _ Hb3.out hb4)
          clear hb4
          rw [pat_self]
          go_wp2_with fail
          refine (HwV.out _ Hb4.out).mono ?_
          rintro e W5 ⟨rfl, hb5⟩
          have Hb5 := Lib.hid (HnV.out _ _ Hb4.out hb5)
          obtain ⟨r5, d5, b5⟩ := HrV.out _ Hb5.out
          have z5 := frozen_of_row _ _ 0 _ 4 r5
          have c5 : W5.cell? ⟨w.heap.size + 2, 0, none⟩ = some (.bool false) := cell_of_row _ _ 0 _ 4 (0, 0) r5
          clear hb5
          go_wp2_with fail
          exact counts_end2 rfl r5 b5 hD2 d5
end Go.Proofs.YtkfkkoefpfmjkaaDoor

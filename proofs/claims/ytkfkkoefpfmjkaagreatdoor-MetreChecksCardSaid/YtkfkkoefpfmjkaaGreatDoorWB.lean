import Derived.Test.YtkfkkoefpfmjkaaGreatDoorWA
import Derived.Test.YtkfkkoefpfmjkaaGreatDoorVE
import Derived.Test.YtkfkkoefpfmjkaaGreatDoorVF
import Derived.Test.YtkfkkoefpfmjkaaGreatDoorVJ
import Derived.Test.YtkfkkoefpfmjkaaGreatDoorUA
import Derived.WalkMore
import Derived.Test.YtkfkkoefpfmjkaaGreatDoorTC
namespace Go.Proofs.YtkfkkoefpfmjkaaGreatDoor
set_option linter.unusedVariables false
set_option linter.unusedSimpArgs false
open Go.RowKit Go.Shelf Go.Lib Go

/- MetreChecks, walked. -/
def WJ : ByteArray := ⟨#[105, 97, 109, 98]⟩
def MJ : Met := ⟨[⟨⟨#[120, 47]⟩, []⟩], [], []⟩
theorem wj_toks : toks WJ 0 = [(0, ⟨#[105, 97, 109, 98]⟩), (4, ⟨#[]⟩)] := by decide +kernel
theorem wj_read : readP WJ = .ok MJ := by
  unfold readP
  rw [if_neg (by decide +kernel), wj_toks]
  kernel_rfl
theorem MJ_bd : Bounded MJ := by
  refine ⟨by decide, fun f hf => ?_, ⟨by decide, fun v hv => by cases hv⟩, by decide⟩
  simp only [MJ, List.mem_cons, List.not_mem_nil, or_false] at hf
  subst hf
  exact ⟨by decide, by decide, fun v hv => by cases hv⟩
theorem same_self (m : Met) : sameP m m = mayB m := by
  unfold sameP equalP eqFeet
  have e : ∀ {α : Type} [DecidableEq α] (a : List α), eqL a a = true := fun a => decide_eq_true rfl
  rw [e, e, e]; simp
theorem idx9 (k : Nat) (h : k < 9) (W : World) : (Instr.index 53 (.agg #[.int .i64 2, .int .i64 2, .int .i64 2, .int .i64 2, .int .i64 2, .int .i64 2, .int .i64 2, .int .i64 2, .int .i64 2]) (.int .i64 k)).run Tryz.prog W = .ok (.int .i64 2) W := by
  have i3 : k = 0 ∨ k = 1 ∨ k = 2 ∨ k = 3 ∨ k = 4 ∨ k = 5 ∨ k = 6 ∨ k = 7 ∨ k = 8 := by omega
  rcases i3 with rfl | rfl | rfl | rfl | rfl | rfl | rfl | rfl | rfl
  all_goals (show (Instr.index _ _ _).run _ _ = _; kernel_rfl)
theorem below_next {A W2 W3 : World} (h : Below A.heap.size A W2) (h2 : Below W2.heap.size W2 W3) : Below A.heap.size A W3 := h.trans (h2.mono h.size)
/-- what the law holds on to between its calls -/
structure Ck (w W1 : World) (s : ByteArray) (Af Ae Ab : Option Addr) (cf ce cb : Nat) (m : Met) : Prop where
  keep : ∀ (W2 : World), Below W1.heap.size W1 W2 → W2.cell? ⟨w.heap.size, 0, none⟩ = some (.slice Af m.feet.length cf) ∧ W2.cell? ⟨w.heap.size, 1, none⟩ = some (.slice Ae m.ends.length ce) ∧ W2.cell? ⟨w.heap.size, 2, none⟩ = some (.slice Ab m.brks.length cb) ∧
    W2.cell? ⟨w.heap.size + 1, 0, none⟩ = some (.bool false) ∧ W2.frozen? ⟨w.heap.size + 1, 0, none⟩ = false
  next : ∀ (W2 W3 : World), Below W1.heap.size W1 W2 → Below W2.heap.size W2 W3 → Below W1.heap.size W1 W3
  wk : ∀ (W2 : World), Below W1.heap.size W1 W2 → Calls Tryz.prog 4 #[] W2 fun e w' => e = .returned (.bool true) ∧ Below W2.heap.size W2 w'
  met : ∀ (W2 : World), Below W1.heap.size W1 W2 → IsMet W2 W2.heap.size Af Ae Ab cf ce cb m
  rd : ∀ (W2 : World), Below W1.heap.size W1 W2 → Calls Tryz.prog 8 #[.string WJ] W2 (ReadOk WJ W2)
  fin : ∀ (W2 : World), Below W1.heap.size W1 W2 → Below w.heap.size w (W2.setCell ⟨w.heap.size + 1, 0, none⟩ (.bool true))

theorem ck_start (Af Ae Ab : Option Addr) (cf ce cb : Nat) (m : Met) (s : ByteArray) (w W1 : World) (h : IsMet w w.heap.size Af Ae Ab cf ce cb m) (hv : Vars w)
    (hW1 : (w.alloc (.cells #[.slice Af m.feet.length cf, .slice Ae m.ends.length ce, .slice Ab m.brks.length cb] 26)).alloc (.cells #[.bool false] 4) = W1) : Ck w W1 s Af Ae Ab cf ce cb m := by
  have sW1 : W1.heap.size = w.heap.size + 2 := by rw [← hW1]; simp
  have hB1 : Below w.heap.size w W1 := by rw [← hW1]; exact ((Below.refl _ _).alloc (Nat.le_refl _) _).alloc (by simp) _
  have hx1 : W1.heap[w.heap.size]? = some (.cells #[.slice Af m.feet.length cf, .slice Ae m.ends.length ce, .slice Ab m.brks.length cb] 26 (0, 0)) := by
    rw [← hW1]; exact (Below.heap_alloc _ _ _ (by simp)).trans (World.alloc_heap_new w _)
  have hx2 : W1.heap[w.heap.size + 1]? = some (.cells #[.bool false] 4 (0, 0)) := by
    rw [← hW1]
    have := World.alloc_heap_new (w.alloc (.cells #[.slice Af m.feet.length cf, .slice Ae m.ends.length ce, .slice Ab m.brks.length cb] 26)) (.cells #[.bool false] 4)
    rw [World.size_alloc] at this
    exact this
  have HV := hv.below hB1 hv.six
  refine ⟨fun W2 hb2 => ?_, fun W2 W3 hb2 hb3 => hb2.trans (hb3.mono hb2.size), fun W2 hb2 => wakes_any W2 (HV.below hb2 HV.six), fun W2 hb2 => (h.on hB1).on hb2, fun W2 hb2 => read_any WJ W2 (HV.below hb2 HV.six) (by decide +kernel), fun W2 hb2 => ?_⟩
  · have x1 := (hb2.block w.heap.size (by omega)).trans hx1
    have x2 := (hb2.block (w.heap.size + 1) (by omega)).trans hx2
    exact ⟨cell_of_row _ _ 0 _ 26 (0, 0) x1, cell_of_row _ _ 1 _ 26 (0, 0) x1, cell_of_row _ _ 2 _ 26 (0, 0) x1, cell_of_row _ _ 0 _ 4 (0, 0) x2, frozen_of_row _ _ 0 _ 4 x2⟩
  · exact (hB1.trans (hb2.mono (by omega))).setCell (by show w.heap.size ≤ w.heap.size + 1; omega) _

theorem chk_end {W : World} {T : Array Value} {Q : Ending → World → Prop} {P : Nat} {v : Value} (h4 : T.getD 4 undef = .pointer (some ⟨P, 0, none⟩)) (hc : W.cell? ⟨P, 0, none⟩ = some v)
    (hQ : Q (.returned v) W) : bodyPost Tryz.prog Tryz.f3 Q Exit.ret { tmps := T, defers := [] } W := by
  have h4' : T[4]?.getD undef = .pointer (some ⟨P, 0, none⟩) := by simpa using h4
  refine bodyPost_ret (v := v) ?_ rfl hQ
  simp [results, Tryz.f3, go_sem, h4', hc]

set_option maxRecDepth 100000 in
set_option maxHeartbeats 4000000 in
theorem checks_may (Af Ae Ab : Option Addr) (cf ce cb : Nat) (m : Met) (s : ByteArray) (w : World) (h : IsMet w w.heap.size Af Ae Ab cf ce cb m) (hv : Vars w) (hm : mayB m = true) :
    Calls Tryz.prog 3 #[.agg #[.slice Af m.feet.length cf, .slice Ae m.ends.length ce, .slice Ab m.brks.length cb], .string s] w fun e w' => e = .returned (.bool true) ∧ Below w.heap.size w w' := by
  generalize hW1 : (w.alloc (.cells #[.slice Af m.feet.length cf, .slice Ae m.ends.length ce, .slice Ab m.brks.length cb] 26)).alloc (.cells #[.bool false] 4) = W1
  have Hk := Lib.hid (ck_start Af Ae Ab cf ce cb m s w W1 h hv hW1)
  have HW1 := Lib.hid hW1
  have Hmay := Lib.hid fun (W2 : World) (hb2 : Below W1.heap.size W1 W2) => may_any Af Ae Ab cf ce cb m W2 (Hk.out.met W2 hb2)
  have Hchk := Lib.hid fun (W2 : World) (hb2 : Below W1.heap.size W1 W2) => check_any Af Ae Ab cf ce cb m W2 (Hk.out.met W2 hb2)
  have Hsam := Lib.hid fun (W2 : World) (hb2 : Below W1.heap.size W1 W2) => same_any Af Ae Ab cf ce cb m Af Ae Ab cf ce cb m W2 (Hk.out.met W2 hb2) (Hk.out.met W2 hb2)
  rw [hm] at Hmay
  rw [same_self, hm] at Hsam
  have hcn : checkN m = 0 := by unfold checkN; rw [hm]; rfl
  rw [hcn] at Hchk
  clear h hW1 hm hcn
  go_enter Tryz.func3, Tryz.ntmps3
  go_wp2_with fail
  rw [HW1.out]
  refine (Hk.out.wk _ (Below.refl _ _)).mono ?_
  rintro e w2 ⟨rfl, hb2⟩
  obtain ⟨m0, m1, m2, r0, rz⟩ := Hk.out.keep _ hb2
  have Hb2 := Lib.hid hb2
  clear hb2
  go_wp2_with fail
  refine (Hmay.out _ Hb2.out).mono ?_
  rintro e w3 ⟨rfl, hb3⟩
  have Hb3 := Lib.hid (Hk.out.next _ _ Hb2.out hb3)
  obtain ⟨n0, n1, n2, t0, tz⟩ := Hk.out.keep _ Hb3.out
  clear hb3 m0 m1 m2 r0 rz
  go_wp2_with fail
  refine (Hchk.out _ Hb3.out).mono ?_
  rintro e w4 ⟨rfl, hb4⟩
  have Hb4 := Lib.hid (Hk.out.next _ _ Hb3.out hb4)
  obtain ⟨m0, m1, m2, r0, rz⟩ := Hk.out.keep _ Hb4.out
  clear hb4 n0 n1 n2 t0 tz
  go_wp2_with fail
  refine (Hsam.out _ Hb4.out).mono ?_
  rintro e w5 ⟨rfl, hb5⟩
  have Hb5 := Lib.hid (Hk.out.next _ _ Hb4.out hb5)
  obtain ⟨n0, n1, n2, t0, tz⟩ := Hk.out.keep _ Hb5.out
  clear hb5 m0 m1 m2 r0 rz
  go_wp2_with fail
  refine (Hk.out.wk _ Hb5.out).mono ?_
  rintro e w6 ⟨rfl, hb6⟩
  have Hb6 := Lib.hid (Hk.out.next _ _ Hb5.out hb6)
  obtain ⟨m0, m1, m2, r0, rz⟩ := Hk.out.keep _ Hb6.out
  clear hb6 n0 n1 n2 t0 tz
  go_wp2_with fail
  exact chk_end rfl (World.cell?_setCell_same _ _ _ (by rw [r0])) ⟨rfl, Hk.out.fin _ Hb6.out⟩

/-- the law's end behind the range, ahead of the loop's deferred calls (there are none) -/
def ChPost (w : World) (e : Exit) (a : Act) (W : World) : Prop :=
  match e with
  | .ret => a.tmps.getD 4 undef = .pointer (some ⟨w.heap.size + 1, 0, none⟩) ∧ W.cell? ⟨w.heap.size + 1, 0, none⟩ = some (.bool true) ∧ Below w.heap.size w W ∧
      ∃ D, a.defers = [{ target := .collected D, args := #[] }] ∧ w.heap.size + 2 ≤ D ∧ W.heap[D]? = some (.deferred (some []))
  | _ => False
set_option maxRecDepth 100000 in
set_option maxHeartbeats 4000000 in
theorem checks_off (Af Ae Ab : Option Addr) (cf ce cb : Nat) (m : Met) (s : ByteArray) (w : World) (h : IsMet w w.heap.size Af Ae Ab cf ce cb m) (hv : Vars w) (hs : s.size ≤ 9223372036854775807) (hm : mayB m = false) :
    Calls Tryz.prog 3 #[.agg #[.slice Af m.feet.length cf, .slice Ae m.ends.length ce, .slice Ab m.brks.length cb], .string s] w fun e w' => e = .returned (.bool true) ∧ Below w.heap.size w w' := by
  generalize hW1 : (w.alloc (.cells #[.slice Af m.feet.length cf, .slice Ae m.ends.length ce, .slice Ab m.brks.length cb] 26)).alloc (.cells #[.bool false] 4) = W1
  have hsz : w.heap.size + 2 = W1.heap.size := by rw [← hW1]; simp
  have Hk := Lib.hid (ck_start Af Ae Ab cf ce cb m s w W1 h hv hW1)
  have HW1 := Lib.hid hW1
  have Hmay := Lib.hid fun (W2 : World) (hb2 : Below W1.heap.size W1 W2) => may_any Af Ae Ab cf ce cb m W2 (Hk.out.met W2 hb2)
  have Hchk := Lib.hid fun (W2 : World) (hb2 : Below W1.heap.size W1 W2) => check_any Af Ae Ab cf ce cb m W2 (Hk.out.met W2 hb2)
  have Hsam := Lib.hid fun (W2 : World) (hb2 : Below W1.heap.size W1 W2) => same_any Af Ae Ab cf ce cb m Af Ae Ab cf ce cb m W2 (Hk.out.met W2 hb2) (Hk.out.met W2 hb2)
  have Hprint := Lib.hid fun (W2 : World) (hb2 : Below W1.heap.size W1 W2) => print_off Af Ae Ab cf ce cb m W2 (Hk.out.met W2 hb2) hm
  have Htitle := Lib.hid fun (W2 : World) (hb2 : Below W1.heap.size W1 W2) => title_off Af Ae Ab cf ce cb m W2 (Hk.out.met W2 hb2) hm
  have Hspans := Lib.hid fun (W2 : World) (hb2 : Below W1.heap.size W1 W2) => spans_off Af Ae Ab cf ce cb m W2 (Hk.out.met W2 hb2) hm
  have Hsyll := Lib.hid fun (W2 : World) (hb2 : Below W1.heap.size W1 W2) => syllables_off Af Ae Ab cf ce cb m W2 (Hk.out.met W2 hb2) hm
  have Hjoin1 := Lib.hid fun (W2 : World) (hb2 : Below W1.heap.size W1 W2) (Bf Be Bb : Option Addr) (df de db : Nat) (hn : IsMet W2 W2.heap.size Bf Be Bb df de db MJ) => join_off Af Ae Ab cf ce cb m Bf Be Bb df de db MJ W2 (Hk.out.met W2 hb2) hn (.inl hm)
  have Hjoin2 := Lib.hid fun (W2 : World) (hb2 : Below W1.heap.size W1 W2) (Bf Be Bb : Option Addr) (df de db : Nat) (hn : IsMet W2 W2.heap.size Bf Be Bb df de db MJ) => join_off Bf Be Bb df de db MJ Af Ae Ab cf ce cb m W2 hn (Hk.out.met W2 hb2) (.inr hm)
  simp only [show MJ.feet.length = 1 from rfl, show MJ.ends.length = 0 from rfl, show MJ.brks.length = 0 from rfl] at Hjoin1 Hjoin2
  have Hcount := Lib.hid fun (W2 : World) (hb2 : Below W1.heap.size W1 W2) => count_off Af Ae Ab cf ce cb m W2 (Hk.out.met W2 hb2) hm
  have Hleast := Lib.hid fun (W2 : World) (hb2 : Below W1.heap.size W1 W2) => least_any Af Ae Ab cf ce cb m s W2 (Hk.out.met W2 hb2) hs
  have Hfirst := Lib.hid fun (W2 : World) (hb2 : Below W1.heap.size W1 W2) => first_any Af Ae Ab cf ce cb m s W2 (Hk.out.met W2 hb2) hs
  rw [hm] at Hmay
  rw [same_self, hm] at Hsam
  rw [least_off hm] at Hleast
  have hfo : ∀ W e W', FirstOk m s W e W' → Below W.heap.size W W' ∧ e = .returned (.tuple #[.agg #[.string ⟨#[]⟩, .int .i64 0, .slice none 0 0], .int .i64 2]) := fun W e W' hf => by
    obtain ⟨hb, hr⟩ := hf
    rw [least_off hm, if_neg (by decide)] at hr
    exact ⟨hb, hr⟩
  have Hfo := Lib.hid hfo
  have hcn : checkN m = 2 := by unfold checkN; rw [hm]; rfl
  rw [hcn] at Hchk
  have Hm := Lib.hid hm
  have Hsz := Lib.hid hsz
  clear h hW1 hm hcn hfo hsz
  refine (callsIn_wide (n := 6)).1 ?_
  refine callsIn_of_wp_marks Tryz.func3 rfl trivial ?_ rfl
  simp only [Tryz.ntmps3, List.size_toArray, List.length_cons, List.length_nil, Nat.reduceAdd, Nat.reduceSub, Array.replicate_succ, Array.replicate_zero, List.push_toArray, List.append_toArray, List.nil_append, List.cons_append]
  refine wpIn_wide.2 (Code.wp_mono (Q := ChPost w) ?_ ?_)
  · rintro e a W hq
    cases e <;> try exact hq.elim
    obtain ⟨h4, hc, hb, D, hd, hD, hK⟩ := hq
    obtain ⟨T, df⟩ := a
    simp only [] at hd h4
    subst hd
    have h4' : T[4]?.getD undef = .pointer (some ⟨w.heap.size + 1, 0, none⟩) := by simpa using h4
    have hc' : (W.putObj D (.deferred none)).cell? ⟨w.heap.size + 1, 0, none⟩ = some (.bool true) :=
      (World.cell?_of_block (by exact World.putObj_heap_other (by show w.heap.size + 1 ≠ D; omega))).trans hc
    refine ⟨by simp, .inl ⟨_, _, rfl, run_takeDeferred hK, ?_⟩⟩
    refine ⟨_, ?_, rfl, ?_⟩
    · simp [results, Tryz.f3, go_sem, h4', hc']
    · exact ⟨hb.os, hb.tape, hb.output, by rw [World.putObj_size]; exact hb.size, fun k hk => (World.putObj_heap_other (by omega)).trans (hb.block k hk)⟩
  go_wp2_with fail
  rw [HW1.out]
  refine (Hk.out.wk _ (Below.refl _ _)).mono ?_
  rintro e w2 ⟨rfl, hb2⟩
  obtain ⟨m0, m1, m2, r0, rz⟩ := Hk.out.keep _ hb2
  have Hb2 := Lib.hid hb2
  clear hb2
  go_wp2_with fail
  refine (Hmay.out _ Hb2.out).mono ?_
  rintro e w3 ⟨rfl, hb3⟩
  have Hb3 := Lib.hid (Hk.out.next _ _ Hb2.out hb3)
  obtain ⟨n0, n1, n2, t0, tz⟩ := Hk.out.keep _ Hb3.out
  clear hb3 m0 m1 m2 r0 rz
  go_wp2_with fail
  refine (Hchk.out _ Hb3.out).mono ?_
  rintro e w4 ⟨rfl, hb4⟩
  have Hb4 := Lib.hid (Hk.out.next _ _ Hb3.out hb4)
  obtain ⟨m0, m1, m2, r0, rz⟩ := Hk.out.keep _ Hb4.out
  clear hb4 n0 n1 n2 t0 tz
  go_wp2_with fail
  refine (Hk.out.rd _ Hb4.out).mono ?_
  rintro e w5 ⟨hb5, hr⟩
  rw [wj_read] at hr
  obtain ⟨hz, vf, ve, vb, vs, rfl, hom⟩ := hr
  obtain ⟨Bf, Be, Bb, df, de, db, rfl, rfl, rfl, hin⟩ := hom.isMet MJ_bd
  have hb5' := Hk.out.next _ _ Hb4.out hb5
  have hn1 : MJ.feet.length = 1 := rfl
  have hn2 : MJ.ends.length = 0 := rfl
  have hn3 : MJ.brks.length = 0 := rfl
  rw [hn1, hn2, hn3]
  generalize hW5 : (w5.alloc (.cells #[.slice Bf 1 df, .slice Be 0 de, .slice Bb 0 db] 26)).alloc (.cells #[.int .i64 0, .int .i64 0] 33) = W5
  have sW5 : W5.heap.size = w5.heap.size + 2 := by rw [← hW5]; simp
  have hB5 : Below w5.heap.size w5 W5 := by rw [← hW5]; exact ((Below.refl _ _).alloc (Nat.le_refl _) _).alloc (by simp) _
  have hx5 : W5.heap[w5.heap.size]? = some (.cells #[.slice Bf 1 df, .slice Be 0 de, .slice Bb 0 db] 26 (0, 0)) := by
    rw [← hW5]; exact (Below.heap_alloc _ _ _ (by simp)).trans (World.alloc_heap_new w5 _)
  have Hb5 := Lib.hid (Hk.out.next _ _ hb5' hB5)
  have Hin := Lib.hid (hin.on hB5)
  have Hk5 := Lib.hid fun (W2 : World) (hb2 : Below W5.heap.size W5 W2) => And.intro (cell_of_row _ _ 0 _ 26 (0, 0) ((hb2.block w5.heap.size (by omega)).trans hx5)) (And.intro (cell_of_row _ _ 1 _ 26 (0, 0) ((hb2.block w5.heap.size (by omega)).trans hx5)) (cell_of_row _ _ 2 _ 26 (0, 0) ((hb2.block w5.heap.size (by omega)).trans hx5)))
  have Hn5 := Lib.hid fun (W2 W3 : World) (hb2 : Below W5.heap.size W5 W2) (hb3 : Below W2.heap.size W2 W3) => hb2.trans (hb3.mono hb2.size)
  have Hc5 := Lib.hid (Below.refl W5.heap.size W5)
  obtain ⟨n0, n1, n2, t0, tz⟩ := Hk.out.keep _ Hb5.out
  obtain ⟨i0, i1, i2⟩ := Hk5.out _ Hc5.out
  have HW5 := Lib.hid hW5
  clear hb5 hz hom hin hb5' hn1 hn2 hn3 hW5 sW5 hB5 hx5 m0 m1 m2 r0 rz
  rw [← HW5.out] at n0 n1 n2 t0 tz i0 i1 i2
  go_wp2_with fail
  rw [HW5.out]
  refine (Hprint.out _ Hb5.out).mono ?_
  rintro e w6 ⟨rfl, hb6⟩
  have Hb6 := Lib.hid (below_next Hb5.out hb6)
  have Hc6 := Lib.hid (below_next Hc5.out hb6)
  obtain ⟨m0, m1, m2, r0, rz⟩ := Hk.out.keep _ Hb6.out
  obtain ⟨j0, j1, j2⟩ := Hk5.out _ Hc6.out
  clear hb6 n0 n1 n2 t0 tz i0 i1 i2
  go_wp2_with fail
  refine (Htitle.out _ Hb6.out).mono ?_
  rintro e w7 ⟨rfl, hb7⟩
  have Hb7 := Lib.hid (below_next Hb6.out hb7)
  have Hc7 := Lib.hid (below_next Hc6.out hb7)
  obtain ⟨n0, n1, n2, t0, tz⟩ := Hk.out.keep _ Hb7.out
  obtain ⟨i0, i1, i2⟩ := Hk5.out _ Hc7.out
  clear hb7 m0 m1 m2 r0 rz j0 j1 j2
  go_wp2_with fail
  refine (Hspans.out _ Hb7.out).mono ?_
  rintro e w8 ⟨rfl, hb8⟩
  have Hb8 := Lib.hid (below_next Hb7.out hb8)
  have Hc8 := Lib.hid (below_next Hc7.out hb8)
  obtain ⟨m0, m1, m2, r0, rz⟩ := Hk.out.keep _ Hb8.out
  obtain ⟨j0, j1, j2⟩ := Hk5.out _ Hc8.out
  clear hb8 n0 n1 n2 t0 tz i0 i1 i2
  go_wp2_with fail
  refine (Hsyll.out _ Hb8.out).mono ?_
  rintro e w9 ⟨rfl, hb9⟩
  have Hb9 := Lib.hid (below_next Hb8.out hb9)
  have Hc9 := Lib.hid (below_next Hc8.out hb9)
  obtain ⟨n0, n1, n2, t0, tz⟩ := Hk.out.keep _ Hb9.out
  obtain ⟨i0, i1, i2⟩ := Hk5.out _ Hc9.out
  clear hb9 m0 m1 m2 r0 rz j0 j1 j2
  go_wp2_with fail
  refine (Hjoin1.out _ Hb9.out Bf Be Bb df de db (Hin.out.on Hc9.out)).mono ?_
  rintro e w10 ⟨rfl, hb10⟩
  obtain ⟨X10, HX10⟩ : ∃ X, Hid (w10.alloc (.cells #[.slice none 0 0, .slice none 0 0, .slice none 0 0] 26) = X) := ⟨_, Lib.hid rfl⟩
  have hx10 : Below w10.heap.size w10 X10 := by rw [← HX10.out]; exact (Below.refl _ _).alloc (Nat.le_refl _) _
  have Hnew10 := Lib.hid (show X10.heap[w10.heap.size]? = some (.cells #[.slice none 0 0, .slice none 0 0, .slice none 0 0] 26 (0, 0)) ∧ w10.heap.size < X10.heap.size by rw [← HX10.out]; exact ⟨World.alloc_heap_new _ _, by simp⟩)
  have Hb10 := Lib.hid (below_next (below_next Hb9.out hb10) hx10)
  have Hc10 := Lib.hid (below_next (below_next Hc9.out hb10) hx10)
  have Hd10 := Lib.hid (Below.refl X10.heap.size X10)
  obtain ⟨m0, m1, m2, r0, rz⟩ := Hk.out.keep _ Hb10.out
  obtain ⟨j0, j1, j2⟩ := Hk5.out _ Hc10.out
  clear hb10 n0 n1 n2 t0 tz i0 i1 i2
  clear hx10
  rw [← HX10.out] at m0 m1 m2 r0 rz j0 j1 j2
  go_wp2_with fail
  rw [HX10.out]
  refine (Hjoin2.out _ Hb10.out Bf Be Bb df de db (Hin.out.on Hc10.out)).mono ?_
  rintro e w11 ⟨rfl, hb11⟩
  obtain ⟨X11, HX11⟩ : ∃ X, Hid (w11.alloc (.cells #[.slice none 0 0, .slice none 0 0, .slice none 0 0] 26) = X) := ⟨_, Lib.hid rfl⟩
  have hx11 : Below w11.heap.size w11 X11 := by rw [← HX11.out]; exact (Below.refl _ _).alloc (Nat.le_refl _) _
  have Hnew11 := Lib.hid (show X11.heap[w11.heap.size]? = some (.cells #[.slice none 0 0, .slice none 0 0, .slice none 0 0] 26 (0, 0)) ∧ w11.heap.size < X11.heap.size by rw [← HX11.out]; exact ⟨World.alloc_heap_new _ _, by simp⟩)
  have Hb11 := Lib.hid (below_next (below_next Hb10.out hb11) hx11)
  have Hc11 := Lib.hid (below_next (below_next Hc10.out hb11) hx11)
  have Hd11 := Lib.hid (below_next (below_next Hd10.out hb11) hx11)
  have Hf11 := Lib.hid (Below.refl X11.heap.size X11)
  obtain ⟨n0, n1, n2, t0, tz⟩ := Hk.out.keep _ Hb11.out
  clear hb11 m0 m1 m2 r0 rz j0 j1 j2
  clear hx11
  rw [← HX11.out] at n0 n1 n2 t0 tz
  go_wp2_with fail
  rw [HX11.out]
  refine (Hcount.out _ Hb11.out).mono ?_
  rintro e w12 ⟨rfl, hb12⟩
  have Hb12 := Lib.hid (below_next Hb11.out hb12)
  have Hc12 := Lib.hid (below_next Hc11.out hb12)
  have Hd12 := Lib.hid (below_next Hd11.out hb12)
  have Hf12 := Lib.hid (below_next Hf11.out hb12)
  obtain ⟨m0, m1, m2, r0, rz⟩ := Hk.out.keep _ Hb12.out
  clear hb12 n0 n1 n2 t0 tz
  go_wp2_with fail
  refine (Hleast.out _ Hb12.out).mono ?_
  rintro e w13 ⟨rfl, hb13⟩
  have Hb13 := Lib.hid (below_next Hb12.out hb13)
  have Hc13 := Lib.hid (below_next Hc12.out hb13)
  have Hd13 := Lib.hid (below_next Hd12.out hb13)
  have Hf13 := Lib.hid (below_next Hf12.out hb13)
  obtain ⟨n0, n1, n2, t0, tz⟩ := Hk.out.keep _ Hb13.out
  clear hb13 m0 m1 m2 r0 rz
  go_wp2_with fail
  refine (Hfirst.out _ Hb13.out).mono ?_
  rintro e w14 hans14
  obtain ⟨hb14, rfl⟩ := Hfo.out _ _ _ hans14
  obtain ⟨X14, HX14⟩ : ∃ X, Hid (w14.alloc (.cells #[.string ⟨#[]⟩, .int .i64 0, .slice none 0 0] 50) = X) := ⟨_, Lib.hid rfl⟩
  have hx14 : Below w14.heap.size w14 X14 := by rw [← HX14.out]; exact (Below.refl _ _).alloc (Nat.le_refl _) _
  have Hnew14 := Lib.hid (show X14.heap[w14.heap.size]? = some (.cells #[.string ⟨#[]⟩, .int .i64 0, .slice none 0 0] 50 (0, 0)) ∧ w14.heap.size < X14.heap.size by rw [← HX14.out]; exact ⟨World.alloc_heap_new _ _, by simp⟩)
  have Hb14 := Lib.hid (below_next (below_next Hb13.out hb14) hx14)
  have Hc14 := Lib.hid (below_next (below_next Hc13.out hb14) hx14)
  have Hd14 := Lib.hid (below_next (below_next Hd13.out hb14) hx14)
  have Hf14 := Lib.hid (below_next (below_next Hf13.out hb14) hx14)
  have Hg14 := Lib.hid (Below.refl X14.heap.size X14)
  obtain ⟨m0, m1, m2, r0, rz⟩ := Hk.out.keep _ Hb14.out
  clear hb14 n0 n1 n2 t0 tz
  clear hx14
  rw [← HX14.out] at m0 m1 m2 r0 rz
  clear hans14 Hprint Htitle Hspans Hsyll Hjoin1 Hjoin2 Hcount Hleast Hfirst Hfo Hmay Hin Hk5 Hn5
  go_wp2_with fail
  rw [HX14.out]
  rw [HX14.out] at m0 m1 m2 r0 rz
  go_loopw [121] (fun i wr => ∃ k : Nat, k ≤ 9 ∧ i = .int .i64 k ∧ wr = X14) (fun i _ => 9 - (RowKit.intOf i).toNat)
  case atStart => exact ⟨0, by omega, rfl, rfl⟩
  case round =>
    rename_i wr
    obtain ⟨k, hk, rfl, hwr⟩ := hrel
    obtain rfl := hwr.symm
    by_cases hlt : k < 9
    · have i1 : (0 : Int) ≤ (k : Int) := by omega
      have i2 : (k : Int) < 9 := by omega
      have hix := idx9 k hlt X14
      go_wp2_with fail
      go_roundw
      case rel => exact ⟨k + 1, by omega, by go_num, by trivial⟩
      case measure => simp [RowKit.intOf]; omega
    · obtain rfl : k = 9 := by omega
      go_wp2_with fail
      refine (patterns_any _ _ _ X14).mono ?_
      rintro e w15 ⟨rfl, rfl⟩
      go_wp2_with fail
      obtain ⟨X15, HX15⟩ : ∃ X, Hid (X14.alloc (.cells #[.slice Af m.feet.length cf, .slice Ae m.ends.length ce, .slice Ab m.brks.length cb] 26) = X) := ⟨_, Lib.hid rfl⟩
      rw [HX15.out]
      have hx15 : Below X14.heap.size X14 X15 := by rw [← HX15.out]; exact (Below.refl _ _).alloc (Nat.le_refl _) _
      have hnew15 : X15.heap[X14.heap.size]? = some (.cells #[.slice Af m.feet.length cf, .slice Ae m.ends.length ce, .slice Ab m.brks.length cb] 26 (0, 0)) := by rw [← HX15.out]; exact World.alloc_heap_new _ _
      have Hb15 := Lib.hid (below_next Hb14.out hx15)
      have Hd15 := Lib.hid (below_next Hd14.out hx15)
      have Hf15 := Lib.hid (below_next Hf14.out hx15)
      have Hg15 := Lib.hid (below_next Hg14.out hx15)
      have hseq := patterns_seq 5 X14.heap.size Af Ae Ab cf ce cb m X15 (Hk.out.met _ Hb15.out) Hm.out hnew15
      clear hx15 hnew15 m0 m1 m2 r0 rz
      refine wpIn_wide.1 (range_all (F := Fence.wide) (n := 6) (gf := 54) (lb := #[.pointer (some ⟨X14.heap.size, 0, none⟩)]) rfl (by decide) rfl trivial (enters_of Tryz.func54 (by kernel_rfl) rfl) hseq (fun x => x.elim)
        (fun _ W => Below X15.heap.size X15 W) (fun _ _ _ => False) ?hI ?hIx (Below.refl _ _) (fun _ _ _ => True) ?assign ?body ?hAx ?done ?stop)
      case hI =>
        rintro s A A' row h2 hg hr
        exact h2.grown hg h2.size hr
      case hIx => exact fun c s A A' row h _ _ => h
      case assign => exact fun l pre x => x.elim
      case body => exact fun l pre x => x.elim
      case hAx => exact fun x => x.elim
      case stop => exact fun D c pre W _ h => h.elim
      case done =>
        rintro D xs W hD rfl hW15 hK
        have Hb16 := Lib.hid (below_next Hb15.out hW15)
        have Hd16 := Lib.hid (below_next Hd15.out hW15)
        have Hf16 := Lib.hid (below_next Hf15.out hW15)
        have Hg16 := Lib.hid (below_next Hg15.out hW15)
        have HD := Lib.hid (And.intro hD hK)
        have HD16 := Lib.hid (Below.refl W.heap.size W)
        obtain ⟨n0, n1, n2, t0, tz⟩ := Hk.out.keep _ Hb16.out
        clear hW15 hD hK hseq
        go_wp2_with fail
        refine (Hsam.out _ Hb16.out).mono ?_
        rintro e w17 ⟨rfl, hb17⟩
        have Hb17 := Lib.hid (below_next Hb16.out hb17)
        have Hd17 := Lib.hid (below_next Hd16.out hb17)
        have Hf17 := Lib.hid (below_next Hf16.out hb17)
        have Hg17 := Lib.hid (below_next Hg16.out hb17)
        have HD17 := Lib.hid (below_next HD16.out hb17)
        have hj := (Hd17.out.block w10.heap.size Hnew10.out.2).trans Hnew10.out.1
        have j0 := cell_of_row _ _ 0 _ 26 (0, 0) hj
        have j1 := cell_of_row _ _ 1 _ 26 (0, 0) hj
        have j2 := cell_of_row _ _ 2 _ 26 (0, 0) hj
        clear hb17 hj n0 n1 n2 t0 tz
        go_wp2_with fail
        refine (zero_nil w17).mono ?_
        rintro e w18 ⟨rfl, hb18⟩
        have Hb18 := Lib.hid (below_next Hb17.out hb18)
        have Hd18 := Lib.hid (below_next Hd17.out hb18)
        have Hf18 := Lib.hid (below_next Hf17.out hb18)
        have Hg18 := Lib.hid (below_next Hg17.out hb18)
        have HD18 := Lib.hid (below_next HD17.out hb18)
        have hj := (Hf18.out.block w11.heap.size Hnew11.out.2).trans Hnew11.out.1
        clear j0 j1 j2
        have j0 := cell_of_row _ _ 0 _ 26 (0, 0) hj
        have j1 := cell_of_row _ _ 1 _ 26 (0, 0) hj
        have j2 := cell_of_row _ _ 2 _ 26 (0, 0) hj
        clear hb18 hj
        go_wp2_with fail
        refine (zero_nil w18).mono ?_
        rintro e w19 ⟨rfl, hb19⟩
        have Hb19 := Lib.hid (below_next Hb18.out hb19)
        have Hd19 := Lib.hid (below_next Hd18.out hb19)
        have Hf19 := Lib.hid (below_next Hf18.out hb19)
        have Hg19 := Lib.hid (below_next Hg18.out hb19)
        have HD19 := Lib.hid (below_next HD18.out hb19)
        have hj := (Hg19.out.block w14.heap.size Hnew14.out.2).trans Hnew14.out.1
        clear j0 j1 j2
        have j0 := cell_of_row _ _ 0 _ 50 (0, 0) hj
        have j1 := cell_of_row _ _ 1 _ 50 (0, 0) hj
        have j2 := cell_of_row _ _ 2 _ 50 (0, 0) hj
        clear hb19 hj
        go_wp2_with fail
        have hpat := pattern_any ⟨#[]⟩ ⟨#[]⟩ 0 0 none none 0 0 [] [] w19 (fun h => by cases h) (fun h => by cases h) (by decide) (by decide) (by decide) (by decide)
        rw [pat_self] at hpat
        refine hpat.mono ?_
        rintro e w20 ⟨rfl, hb20⟩
        have Hb20 := Lib.hid (below_next Hb19.out hb20)
        have HD20 := Lib.hid (below_next HD19.out hb20)
        clear hb20 hpat j0 j1 j2
        go_wp2_with fail
        refine (Hk.out.wk _ Hb20.out).mono ?_
        rintro e w21 ⟨rfl, hb21⟩
        have Hb21 := Lib.hid (below_next Hb20.out hb21)
        have HD21 := Lib.hid (below_next HD20.out hb21)
        obtain ⟨n0, n1, n2, t0, tz⟩ := Hk.out.keep _ Hb21.out
        clear hb21
        go_wp2_with fail
        have hsz := Hsz.out
        have hs15 := Hb15.out.size
        have hD := HD.out.1
        refine ⟨rfl, World.cell?_setCell_same _ _ _ (by rw [t0]), Hk.out.fin _ Hb21.out, D, rfl, by omega, (Below.heap_setCell _ _ _ _ (by show D ≠ w.heap.size + 1; omega)).trans ((HD21.out.block D ?_).trans HD.out.2)⟩
        exact (Array.getElem?_eq_some_iff.1 HD.out.2).1

theorem checks_any (Af Ae Ab : Option Addr) (cf ce cb : Nat) (m : Met) (s : ByteArray) (w : World) (h : IsMet w w.heap.size Af Ae Ab cf ce cb m) (hv : Vars w) (hs : s.size ≤ 9223372036854775807) :
    Calls Tryz.prog 3 #[.agg #[.slice Af m.feet.length cf, .slice Ae m.ends.length ce, .slice Ab m.brks.length cb], .string s] w fun e w' => e = .returned (.bool true) ∧ Below w.heap.size w w' := by
  cases hm : mayB m with
  | false => exact checks_off Af Ae Ab cf ce cb m s w h hv hs hm
  | true => exact checks_may Af Ae Ab cf ce cb m s w h hv hm
end Go.Proofs.YtkfkkoefpfmjkaaGreatDoor

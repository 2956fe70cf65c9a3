import Derived.Test.YtkfkkoefpfmjkaaDoorQK
import Derived.Test.YtkfkkoefpfmjkaaDoorQM
import Derived.Test.YtkfkkoefpfmjkaaDoorJB
import Derived.Test.YtkfkkoefpfmjkaaDoorUA
import Derived.Test.YtkfkkoefpfmjkaaDoorKI
import Derived.Deep.Cut
namespace Go.Proofs.YtkfkkoefpfmjkaaDoor
set_option linter.unusedVariables false
set_option linter.unusedSimpArgs false
open Go.RowKit

/- MetreReads, walked. -/
theorem few_sized {m : Met} (h : Sized m) : Few m := ⟨by have := h.feet; omega, fun k hk => by have := h.ways k hk; omega, by have := h.ends; omega, by have := h.brk; omega⟩
theorem away_keep {W W' : World} {B E C : Nat} {m : Met} {vf ve vb : Value} {vs : List Value} (h : OM W C m vf ve vb vs) (ha : Away B E W W') (hE : E ≤ C) : OM W' C m vf ve vb vs := by
  have keep : ∀ {e n : Nat} {v : Value} {xs : List Value}, W.ownsRow C e 2 v n xs → W'.ownsRow C e 2 v n xs := fun {e n v xs} o => by
    refine ⟨o.1, o.2.imp id ?_⟩
    rintro ⟨g, cap, cur, h1, h2, h3, h4⟩
    exact ⟨g, cap, cur, h1, h2, (ha.block g (Array.getElem?_eq_some_iff.1 h3).1 (.inr (by omega))).trans h3, h4⟩
  exact ⟨h.vl, keep h.feet, fun k hk => keep (h.ways k hk), keep h.ends, keep h.brks, h.apart⟩
theorem eq_self (m : Met) : equalP m m = true := by
  have e : ∀ {α : Type} [DecidableEq α] (a : List α), eqL a a = true := fun a => decide_eq_true rfl
  unfold equalP eqFeet
  rw [e, e, e]; rfl
theorem lt_heap {w : World} {k : Nat} {o : Obj} (h : w.heap[k]? = some o) : k < w.heap.size := (Array.getElem?_eq_some_iff.1 h).1
set_option maxRecDepth 100000 in
set_option maxHeartbeats 16000000 in
theorem read_long2 (s : ByteArray) (w : World) (hs6 : 65536 < s.size) :
    Calls Tryd.prog 13 #[.string s] w (ReadOk s w) := by
  have HR2 : Hid (readP s = .error (3, 65536)) := Lib.hid (by unfold readP; rw [if_pos hs6])
  go_enter Tryd.func13, Tryd.ntmps13
  go_wp2_with fail
  generalize hw1 : (w.alloc (.cells #[.slice none 0 0, .slice none 0 0, .slice none 0 0] 27)).alloc (.cells #[.int .i64 0, .int .i64 0] 30) = w1
  have x2 : w1.heap[w.heap.size]? = some (.cells #[nilV, nilV, nilV] 27 (0, 0)) := by rw [← hw1]; exact (Below.heap_alloc _ _ _ (by simp)).trans (World.alloc_heap_new w _)
  have x3 : w1.heap[w.heap.size + 1]? = some (.cells #[.int .i64 0, .int .i64 0] 30 (0, 0)) := by
    rw [← hw1]
    have := World.alloc_heap_new (w.alloc (.cells #[.slice none 0 0, .slice none 0 0, .slice none 0 0] 27)) (.cells #[.int .i64 0, .int .i64 0] 30)
    rw [World.size_alloc] at this
    exact this
  have hb1 : Below w.heap.size w w1 := by rw [← hw1]; exact ((Below.refl _ _).alloc (Nat.le_refl _) _).alloc (by simp) _
  have k0 : w1.cell? ⟨w.heap.size, 0, none⟩ = some (.slice none 0 0) := cell_of_row _ _ _ _ 27 (0, 0) x2
  have k1 : w1.cell? ⟨w.heap.size, 1, none⟩ = some (.slice none 0 0) := cell_of_row _ _ _ _ 27 (0, 0) x2
  have k2 : w1.cell? ⟨w.heap.size, 2, none⟩ = some (.slice none 0 0) := cell_of_row _ _ _ _ 27 (0, 0) x2
  have l0 : w1.cell? ⟨w.heap.size + 1, 0, none⟩ = some (.int .i64 0) := cell_of_row _ _ _ _ 30 (0, 0) x3
  have l1 : w1.cell? ⟨w.heap.size + 1, 1, none⟩ = some (.int .i64 0) := cell_of_row _ _ _ _ 30 (0, 0) x3
  have z0 := frozen_of_row w1 w.heap.size 0 _ 27 x2
  have z1 := frozen_of_row w1 w.heap.size 1 _ 27 x2
  have z2 := frozen_of_row w1 w.heap.size 2 _ 27 x2
  have y0 := frozen_of_row w1 (w.heap.size + 1) 0 _ 30 x3
  have y1 := frozen_of_row w1 (w.heap.size + 1) 1 _ 30 x3
  have Hb1 := Lib.hid hb1
  have X2 := Lib.hid x2
  have X3 := Lib.hid x3
  clear hb1 hw1 x2 x3
  refine wp_scope_ghost (fun _ _ _ _ => False) ?_ (fun _ _ _ _ h => h.elim)
  go_wp2_with fail
  obtain ⟨hbe, r0, r1⟩ := five_cells (v0 := .slice none 0 0) (v1 := .slice none 0 0) (v2 := .slice none 0 0) (v3 := .int .i64 3) (v4 := .int .i64 65536) Hb1.out X2.out X3.out rfl
  exact read_end rfl rfl r0 r1 ⟨hbe, by rw [HR2.out]; rfl⟩
theorem read_any2 (s : ByteArray) (w : World) (hv : Vars w) : Calls Tryd.prog 13 #[.string s] w (ReadOk s w) := by
  by_cases h : 65536 < s.size
  · exact read_long2 s w h
  · exact read_any s w hv (by omega)
set_option maxRecDepth 100000 in
set_option maxHeartbeats 16000000 in
theorem reads3_any (s : ByteArray) (w : World) (hv : Vars w) :
    Calls Tryd.prog 3 #[.string s] w fun e w' => e = .returned (.bool true) ∧ Below w.heap.size w w' := by
  have Hv : Hid (∀ W, Below w.heap.size w W → Vars W) := Lib.hid (fun W hb => hv.below hb hv.six)
  have Hwk : Hid (∀ W, Below w.heap.size w W → Calls Tryd.prog 11 #[] W fun e w' => e = .returned (.bool true) ∧ Below W.heap.size W w') := Lib.hid (fun W hb => wakes_any W (Hv.out W hb))
  have Hnext : Hid (∀ W W', Below w.heap.size w W → Below W.heap.size W W' → Below w.heap.size w W') := Lib.hid (fun W W' h h' => h.trans (h'.mono h.size))
  have Hb0 := Lib.hid (Below.refl w.heap.size w)
  clear hv
  go_enter Tryd.func3, Tryd.ntmps3
  go_wp2_with fail
  refine (Hwk.out _ Hb0.out).mono ?_
  rintro e w2 ⟨rfl, hb2⟩
  have Hb2 := Lib.hid (Hnext.out _ _ Hb0.out hb2)
  clear hb2
  go_wp2_with fail
  refine (refread_any s w2 (Hv.out _ Hb2.out)).mono ?_
  rintro e w3 ⟨hb3, hr3⟩
  have Hb3 := Lib.hid (Hnext.out _ _ Hb2.out hb3)
  have Hl3 := Lib.hid hb3
  clear hb3
  cases hrp : readP s with
  | error x =>
    obtain ⟨c, p⟩ := x
    have hc0 := read_err hrp
    have hc1 : (c != 0) = true := by simpa using hc0
    have hc2 : (c == 0) = false := by simpa using hc0
    rw [hrp] at hr3
    subst hr3
    unfold zeroM nilV
    have HRp := Lib.hid hrp
    clear hrp
    go_wp2_with fail
    generalize hX3 : (w3.alloc (.cells #[.slice none 0 0, .slice none 0 0, .slice none 0 0] 27)).alloc (.cells #[.int .i64 c, .int .i64 p] 30) = X3
    have g3a : X3.heap[w3.heap.size]? = some (.cells #[.slice none 0 0, .slice none 0 0, .slice none 0 0] 27 (0, 0)) := by rw [← hX3]; exact (Below.heap_alloc _ _ _ (by simp)).trans (World.alloc_heap_new w3 _)
    have g3b : X3.heap[w3.heap.size + 1]? = some (.cells #[.int .i64 c, .int .i64 p] 30 (0, 0)) := by
      rw [← hX3]
      have := World.alloc_heap_new (w3.alloc (.cells #[.slice none 0 0, .slice none 0 0, .slice none 0 0] 27)) (.cells #[.int .i64 c, .int .i64 p] 30)
      rw [World.size_alloc] at this
      exact this
    have hwX3 : Below w3.heap.size w3 X3 := by rw [← hX3]; exact ((Below.refl _ _).alloc (Nat.le_refl _) _).alloc (by simp) _
    have HwX3 := Lib.hid hwX3
    have HX3 := Lib.hid (Hnext.out _ _ Hb3.out hwX3)
    have G3a := Lib.hid g3a
    have G3b := Lib.hid g3b
    have Hsz3 : Hid (X3.heap.size = w3.heap.size + 2) := Lib.hid (by rw [← hX3]; simp)
    clear hX3 g3a g3b hwX3
    refine (read_any2 s X3 (Hv.out _ HX3.out)).mono ?_
    rintro e w4 ⟨hb4, hr4⟩
    have Hb4 := Lib.hid (Hnext.out _ _ HX3.out hb4)
    have Hl4 := Lib.hid hb4
    clear hb4
    rw [HRp.out] at hr4
    subst hr4
    unfold zeroM nilV
    go_wp2_with fail
    generalize hX4 : (w4.alloc (.cells #[.slice none 0 0, .slice none 0 0, .slice none 0 0] 27)).alloc (.cells #[.int .i64 c, .int .i64 p] 30) = X4
    have g4a : X4.heap[w4.heap.size]? = some (.cells #[.slice none 0 0, .slice none 0 0, .slice none 0 0] 27 (0, 0)) := by rw [← hX4]; exact (Below.heap_alloc _ _ _ (by simp)).trans (World.alloc_heap_new w4 _)
    have g4b : X4.heap[w4.heap.size + 1]? = some (.cells #[.int .i64 c, .int .i64 p] 30 (0, 0)) := by
      rw [← hX4]
      have := World.alloc_heap_new (w4.alloc (.cells #[.slice none 0 0, .slice none 0 0, .slice none 0 0] 27)) (.cells #[.int .i64 c, .int .i64 p] 30)
      rw [World.size_alloc] at this
      exact this
    have hwX4 : Below w4.heap.size w4 X4 := by rw [← hX4]; exact ((Below.refl _ _).alloc (Nat.le_refl _) _).alloc (by simp) _
    have HwX4 := Lib.hid hwX4
    have HX4 := Lib.hid (Hnext.out _ _ Hb4.out hwX4)
    have G4a := Lib.hid g4a
    have G4b := Lib.hid g4b
    have Hsz4 : Hid (X4.heap.size = w4.heap.size + 2) := Lib.hid (by rw [← hX4]; simp)
    clear hX4 g4a g4b hwX4
    refine (read_any2 s X4 (Hv.out _ HX4.out)).mono ?_
    rintro e w5 ⟨hb5, hr5⟩
    have Hb5 := Lib.hid (Hnext.out _ _ HX4.out hb5)
    have Hl5 := Lib.hid hb5
    clear hb5
    rw [HRp.out] at hr5
    subst hr5
    unfold zeroM nilV
    have Hc := Lib.hid (And.intro hc0 (And.intro hc1 hc2))
    clear hc0 hc1 hc2
    go_upto_region 6 with (fail)
    generalize hX5 : (w5.alloc (.cells #[.slice none 0 0, .slice none 0 0, .slice none 0 0] 27)).alloc (.cells #[.int .i64 c, .int .i64 p] 30) = X5
    have g5a : X5.heap[w5.heap.size]? = some (.cells #[.slice none 0 0, .slice none 0 0, .slice none 0 0] 27 (0, 0)) := by rw [← hX5]; exact (Below.heap_alloc _ _ _ (by simp)).trans (World.alloc_heap_new w5 _)
    have g5b : X5.heap[w5.heap.size + 1]? = some (.cells #[.int .i64 c, .int .i64 p] 30 (0, 0)) := by
      rw [← hX5]
      have := World.alloc_heap_new (w5.alloc (.cells #[.slice none 0 0, .slice none 0 0, .slice none 0 0] 27)) (.cells #[.int .i64 c, .int .i64 p] 30)
      rw [World.size_alloc] at this
      exact this
    have hwX5 : Below w5.heap.size w5 X5 := by rw [← hX5]; exact ((Below.refl _ _).alloc (Nat.le_refl _) _).alloc (by simp) _
    have HwX5 := Lib.hid hwX5
    have HX5 := Lib.hid (Hnext.out _ _ Hb5.out hwX5)
    have G5a := Lib.hid g5a
    have G5b := Lib.hid g5b
    have Hsz5 : Hid (X5.heap.size = w5.heap.size + 2) := Lib.hid (by rw [← hX5]; simp)
    clear hX5 g5a g5b hwX5
    have F5 : Hid (Below X5.heap.size X5 X5) := Lib.hid (Below.refl _ _)
    have F4 : Hid (Below X4.heap.size X4 X5) := Lib.hid (Hl5.out.trans (HwX5.out.mono Hl5.out.size))
    have F3 : Hid (Below X3.heap.size X3 X5) := Lib.hid ((Hl4.out.trans (HwX4.out.mono Hl4.out.size)).trans (F4.out.mono (Nat.le_trans Hl4.out.size HwX4.out.size)))
    have q3a : X5.heap[w3.heap.size]? = _ := ((F3.out).block _ (lt_heap G3a.out)).trans G3a.out
    have q3b : X5.heap[w3.heap.size + 1]? = _ := ((F3.out).block _ (lt_heap G3b.out)).trans G3b.out
    have r30 := cell_of_row _ _ 0 _ 27 (0, 0) q3a
    have r31 := cell_of_row _ _ 1 _ 27 (0, 0) q3a
    have r32 := cell_of_row _ _ 2 _ 27 (0, 0) q3a
    have u30 := cell_of_row _ _ 0 _ 30 (0, 0) q3b
    have u31 := cell_of_row _ _ 1 _ 30 (0, 0) q3b
    clear q3a q3b
    have q4a : X5.heap[w4.heap.size]? = _ := ((F4.out).block _ (lt_heap G4a.out)).trans G4a.out
    have q4b : X5.heap[w4.heap.size + 1]? = _ := ((F4.out).block _ (lt_heap G4b.out)).trans G4b.out
    have r40 := cell_of_row _ _ 0 _ 27 (0, 0) q4a
    have r41 := cell_of_row _ _ 1 _ 27 (0, 0) q4a
    have r42 := cell_of_row _ _ 2 _ 27 (0, 0) q4a
    have u40 := cell_of_row _ _ 0 _ 30 (0, 0) q4b
    have u41 := cell_of_row _ _ 1 _ 30 (0, 0) q4b
    clear q4a q4b
    have q5a : X5.heap[w5.heap.size]? = _ := ((F5.out).block _ (lt_heap G5a.out)).trans G5a.out
    have q5b : X5.heap[w5.heap.size + 1]? = _ := ((F5.out).block _ (lt_heap G5b.out)).trans G5b.out
    have r50 := cell_of_row _ _ 0 _ 27 (0, 0) q5a
    have r51 := cell_of_row _ _ 1 _ 27 (0, 0) q5a
    have r52 := cell_of_row _ _ 2 _ 27 (0, 0) q5a
    have u50 := cell_of_row _ _ 0 _ 30 (0, 0) q5b
    have u51 := cell_of_row _ _ 1 _ 30 (0, 0) q5b
    clear q5a q5b
    have hc0 := Hc.out.1
    have hc1 := Hc.out.2.1
    have hc2 := Hc.out.2.2
    go_wp2_with fail
    refine (zero_nil X5).mono ?_
    rintro e w6 ⟨rfl, hb6⟩
    have HX6 := Lib.hid (Hnext.out _ _ HX5.out hb6)
    have q5a : w6.heap[w5.heap.size]? = _ := (hb6.block _ (lt_heap G5a.out)).trans G5a.out
    clear r30 r31 r32 r40 r41 r42 r50 r51 r52 u30 u31 u40 u41 u50 u51
    have r50 := cell_of_row _ _ 0 _ 27 (0, 0) q5a
    have r51 := cell_of_row _ _ 1 _ 27 (0, 0) q5a
    have r52 := cell_of_row _ _ 2 _ 27 (0, 0) q5a
    clear q5a hb6
    go_wp2_with fail
    refine (zero_nil w6).mono ?_
    rintro e w7 ⟨rfl, hb7⟩
    have HX7 := Lib.hid (Hnext.out _ _ HX6.out hb7)
    clear hb7 r50 r51 r52
    go_wp2_with fail
    refine (Hwk.out _ HX7.out).mono ?_
    rintro e w8 ⟨rfl, hb8⟩
    have HX8 := Lib.hid (Hnext.out _ _ HX7.out hb8)
    clear hb8
    go_wp2_with fail
    go_ret
    exact ⟨rfl, HX8.out⟩
  | ok m =>
    rw [hrp] at hr3
    obtain ⟨hz, vfw, vew, vbw, vsw, rfl, hom3⟩ := hr3
    have Hz := Lib.hid hz
    have Hbd := Lib.hid (read_bounded hrp hz)
    have HRp := Lib.hid hrp
    obtain ⟨Afw, Aew, Abw, cfw, cew, cbw, rfl, rfl, rfl, him3⟩ := hom3.isMet Hbd.out
    have HIM3 := Lib.hid him3
    clear hrp hz hom3 him3
    go_wp2_with fail
    generalize hX3 : (w3.alloc (.cells #[.slice Afw m.feet.length cfw, .slice Aew m.ends.length cew, .slice Abw m.brks.length cbw] 27)).alloc (.cells #[.int .i64 0, .int .i64 0] 30) = X3
    have g3a : X3.heap[w3.heap.size]? = some (.cells #[.slice Afw m.feet.length cfw, .slice Aew m.ends.length cew, .slice Abw m.brks.length cbw] 27 (0, 0)) := by rw [← hX3]; exact (Below.heap_alloc _ _ _ (by simp)).trans (World.alloc_heap_new w3 _)
    have g3b : X3.heap[w3.heap.size + 1]? = some (.cells #[.int .i64 0, .int .i64 0] 30 (0, 0)) := by
      rw [← hX3]
      have := World.alloc_heap_new (w3.alloc (.cells #[.slice Afw m.feet.length cfw, .slice Aew m.ends.length cew, .slice Abw m.brks.length cbw] 27)) (.cells #[.int .i64 0, .int .i64 0] 30)
      rw [World.size_alloc] at this
      exact this
    have hwX3 : Below w3.heap.size w3 X3 := by rw [← hX3]; exact ((Below.refl _ _).alloc (Nat.le_refl _) _).alloc (by simp) _
    have HwX3 := Lib.hid hwX3
    have HX3 := Lib.hid (Hnext.out _ _ Hb3.out hwX3)
    have G3a := Lib.hid g3a
    have G3b := Lib.hid g3b
    have Hsz3 : Hid (X3.heap.size = w3.heap.size + 2) := Lib.hid (by rw [← hX3]; simp)
    clear hX3 g3a g3b hwX3
    refine (read_any2 s X3 (Hv.out _ HX3.out)).mono ?_
    rintro e w4 ⟨hb4, hr4⟩
    have Hb4 := Lib.hid (Hnext.out _ _ HX3.out hb4)
    have Hl4 := Lib.hid hb4
    clear hb4
    rw [HRp.out] at hr4
    obtain ⟨_, vfa, vea, vba, vsa, rfl, hom4⟩ := hr4
    have HOM4 := Lib.hid hom4
    obtain ⟨Afa, Aea, Aba, cfa, cea, cba, rfl, rfl, rfl, him4⟩ := hom4.isMet Hbd.out
    have HIM4 := Lib.hid him4
    clear hom4 him4
    go_wp2_with fail
    generalize hX4 : (w4.alloc (.cells #[.slice Afa m.feet.length cfa, .slice Aea m.ends.length cea, .slice Aba m.brks.length cba] 27)).alloc (.cells #[.int .i64 0, .int .i64 0] 30) = X4
    have g4a : X4.heap[w4.heap.size]? = some (.cells #[.slice Afa m.feet.length cfa, .slice Aea m.ends.length cea, .slice Aba m.brks.length cba] 27 (0, 0)) := by rw [← hX4]; exact (Below.heap_alloc _ _ _ (by simp)).trans (World.alloc_heap_new w4 _)
    have g4b : X4.heap[w4.heap.size + 1]? = some (.cells #[.int .i64 0, .int .i64 0] 30 (0, 0)) := by
      rw [← hX4]
      have := World.alloc_heap_new (w4.alloc (.cells #[.slice Afa m.feet.length cfa, .slice Aea m.ends.length cea, .slice Aba m.brks.length cba] 27)) (.cells #[.int .i64 0, .int .i64 0] 30)
      rw [World.size_alloc] at this
      exact this
    have hwX4 : Below w4.heap.size w4 X4 := by rw [← hX4]; exact ((Below.refl _ _).alloc (Nat.le_refl _) _).alloc (by simp) _
    have HwX4 := Lib.hid hwX4
    have HX4 := Lib.hid (Hnext.out _ _ Hb4.out hwX4)
    have G4a := Lib.hid g4a
    have G4b := Lib.hid g4b
    have Hsz4 : Hid (X4.heap.size = w4.heap.size + 2) := Lib.hid (by rw [← hX4]; simp)
    clear hX4 g4a g4b hwX4
    refine (read_any2 s X4 (Hv.out _ HX4.out)).mono ?_
    rintro e w5 ⟨hb5, hr5⟩
    have Hb5 := Lib.hid (Hnext.out _ _ HX4.out hb5)
    have Hl5 := Lib.hid hb5
    clear hb5
    rw [HRp.out] at hr5
    obtain ⟨_, vfb, veb, vbb, vsb, rfl, hom5⟩ := hr5
    have HOM5 := Lib.hid hom5
    obtain ⟨Afb, Aeb, Abb, cfb, ceb, cbb, rfl, rfl, rfl, him5⟩ := hom5.isMet Hbd.out
    have HIM5 := Lib.hid him5
    clear hom5 him5
    go_upto_region 6 with (fail)
    generalize hX5 : (w5.alloc (.cells #[.slice Afb m.feet.length cfb, .slice Aeb m.ends.length ceb, .slice Abb m.brks.length cbb] 27)).alloc (.cells #[.int .i64 0, .int .i64 0] 30) = X5
    have g5a : X5.heap[w5.heap.size]? = some (.cells #[.slice Afb m.feet.length cfb, .slice Aeb m.ends.length ceb, .slice Abb m.brks.length cbb] 27 (0, 0)) := by rw [← hX5]; exact (Below.heap_alloc _ _ _ (by simp)).trans (World.alloc_heap_new w5 _)
    have g5b : X5.heap[w5.heap.size + 1]? = some (.cells #[.int .i64 0, .int .i64 0] 30 (0, 0)) := by
      rw [← hX5]
      have := World.alloc_heap_new (w5.alloc (.cells #[.slice Afb m.feet.length cfb, .slice Aeb m.ends.length ceb, .slice Abb m.brks.length cbb] 27)) (.cells #[.int .i64 0, .int .i64 0] 30)
      rw [World.size_alloc] at this
      exact this
    have hwX5 : Below w5.heap.size w5 X5 := by rw [← hX5]; exact ((Below.refl _ _).alloc (Nat.le_refl _) _).alloc (by simp) _
    have HwX5 := Lib.hid hwX5
    have HX5 := Lib.hid (Hnext.out _ _ Hb5.out hwX5)
    have G5a := Lib.hid g5a
    have G5b := Lib.hid g5b
    have Hsz5 : Hid (X5.heap.size = w5.heap.size + 2) := Lib.hid (by rw [← hX5]; simp)
    clear hX5 g5a g5b hwX5
    have F5 : Hid (Below X5.heap.size X5 X5) := Lib.hid (Below.refl _ _)
    have F4 : Hid (Below X4.heap.size X4 X5) := Lib.hid (Hl5.out.trans (HwX5.out.mono Hl5.out.size))
    have F3 : Hid (Below X3.heap.size X3 X5) := Lib.hid ((Hl4.out.trans (HwX4.out.mono Hl4.out.size)).trans (F4.out.mono (Nat.le_trans Hl4.out.size HwX4.out.size)))
    have K3 : Hid (Below w3.heap.size w3 X5) := Lib.hid (HwX3.out.trans (F3.out.mono HwX3.out.size))
    have K4 : Hid (Below w4.heap.size w4 X5) := Lib.hid (HwX4.out.trans (F4.out.mono HwX4.out.size))
    have hfe := refequal_any Afa Aea Aba cfa cea cba m Afw Aew Abw cfw cew cbw m X5 (HIM4.out.on K4.out) (HIM3.out.on K3.out)
    rw [eq_self] at hfe
    have Hfe := Lib.hid hfe
    clear hfe
    have q3a : X5.heap[w3.heap.size]? = _ := ((F3.out).block _ (lt_heap G3a.out)).trans G3a.out
    have q3b : X5.heap[w3.heap.size + 1]? = _ := ((F3.out).block _ (lt_heap G3b.out)).trans G3b.out
    have r30 := cell_of_row _ _ 0 _ 27 (0, 0) q3a
    have r31 := cell_of_row _ _ 1 _ 27 (0, 0) q3a
    have r32 := cell_of_row _ _ 2 _ 27 (0, 0) q3a
    have u30 := cell_of_row _ _ 0 _ 30 (0, 0) q3b
    have u31 := cell_of_row _ _ 1 _ 30 (0, 0) q3b
    clear q3a q3b
    have q4a : X5.heap[w4.heap.size]? = _ := ((F4.out).block _ (lt_heap G4a.out)).trans G4a.out
    have q4b : X5.heap[w4.heap.size + 1]? = _ := ((F4.out).block _ (lt_heap G4b.out)).trans G4b.out
    have r40 := cell_of_row _ _ 0 _ 27 (0, 0) q4a
    have r41 := cell_of_row _ _ 1 _ 27 (0, 0) q4a
    have r42 := cell_of_row _ _ 2 _ 27 (0, 0) q4a
    have u40 := cell_of_row _ _ 0 _ 30 (0, 0) q4b
    have u41 := cell_of_row _ _ 1 _ 30 (0, 0) q4b
    clear q4a q4b
    have q5a : X5.heap[w5.heap.size]? = _ := ((F5.out).block _ (lt_heap G5a.out)).trans G5a.out
    have q5b : X5.heap[w5.heap.size + 1]? = _ := ((F5.out).block _ (lt_heap G5b.out)).trans G5b.out
    have r50 := cell_of_row _ _ 0 _ 27 (0, 0) q5a
    have r51 := cell_of_row _ _ 1 _ 27 (0, 0) q5a
    have r52 := cell_of_row _ _ 2 _ 27 (0, 0) q5a
    have u50 := cell_of_row _ _ 0 _ 30 (0, 0) q5b
    have u51 := cell_of_row _ _ 1 _ 30 (0, 0) q5b
    clear q5a q5b
    go_wp2_with fail
    refine Hfe.out.mono ?_
    rintro e w6 ⟨rfl, hb6⟩
    have HX6 := Lib.hid (Hnext.out _ _ HX5.out hb6)
    have Hl6 := Lib.hid hb6
    clear r30 r31 r32 r40 r41 r42 r50 r51 r52 u30 u31 u40 u41 u50 u51 Hfe
    have M4 : Hid (Below X4.heap.size X4 w6) := Lib.hid (F4.out.trans (hb6.mono F4.out.size))
    have M3 : Hid (Below X3.heap.size X3 w6) := Lib.hid (F3.out.trans (hb6.mono F3.out.size))
    have M5 : Hid (Below X5.heap.size X5 w6) := Lib.hid hb6
    have q3a : w6.heap[w3.heap.size]? = _ := ((M3.out).block _ (lt_heap G3a.out)).trans G3a.out
    have q3b : w6.heap[w3.heap.size + 1]? = _ := ((M3.out).block _ (lt_heap G3b.out)).trans G3b.out
    have r30 := cell_of_row _ _ 0 _ 27 (0, 0) q3a
    have r31 := cell_of_row _ _ 1 _ 27 (0, 0) q3a
    have r32 := cell_of_row _ _ 2 _ 27 (0, 0) q3a
    have t30 := cell_of_row _ _ 0 _ 30 (0, 0) q3b
    have t31 := cell_of_row _ _ 1 _ 30 (0, 0) q3b
    clear q3a q3b
    have q4a : w6.heap[w4.heap.size]? = _ := ((M4.out).block _ (lt_heap G4a.out)).trans G4a.out
    have q4b : w6.heap[w4.heap.size + 1]? = _ := ((M4.out).block _ (lt_heap G4b.out)).trans G4b.out
    have r40 := cell_of_row _ _ 0 _ 27 (0, 0) q4a
    have r41 := cell_of_row _ _ 1 _ 27 (0, 0) q4a
    have r42 := cell_of_row _ _ 2 _ 27 (0, 0) q4a
    have t40 := cell_of_row _ _ 0 _ 30 (0, 0) q4b
    have t41 := cell_of_row _ _ 1 _ 30 (0, 0) q4b
    clear q4a q4b
    have q5a : w6.heap[w5.heap.size]? = _ := ((M5.out).block _ (lt_heap G5a.out)).trans G5a.out
    have q5b : w6.heap[w5.heap.size + 1]? = _ := ((M5.out).block _ (lt_heap G5b.out)).trans G5b.out
    have r50 := cell_of_row _ _ 0 _ 27 (0, 0) q5a
    have r51 := cell_of_row _ _ 1 _ 27 (0, 0) q5a
    have r52 := cell_of_row _ _ 2 _ 27 (0, 0) q5a
    have t50 := cell_of_row _ _ 0 _ 30 (0, 0) q5b
    have t51 := cell_of_row _ _ 1 _ 30 (0, 0) q5b
    clear q5a q5b
    clear hb6 t30 t31 t40 t41 t50 t51
    have hom6 : OM w6 X3.heap.size m (.slice Afa m.feet.length cfa) (.slice Aea m.ends.length cea) (.slice Aba m.brks.length cba) vsa := HOM4.out.below (K4.out.trans (M5.out.mono K4.out.size))
    have hah := HOM4.out.lt
    have hE6 : w4.heap.size ≤ w6.heap.size := Nat.le_trans K4.out.size Hl6.out.size
    have hB6 : X3.heap.size ≤ w4.heap.size := Hl4.out.size
    have hsp := spoil_any X3.heap.size w4.heap.size m _ _ _ vsa w6 hom6 hah hE6 (few_sized Hz.out) hB6
    have Hsp := Lib.hid hsp
    clear hom6 hah hE6 hB6 hsp
    go_wp2_with fail
    refine Hsp.out.mono ?_
    rintro e w7 ⟨⟨vr, rfl⟩, haw⟩
    have HAw := Lib.hid haw
    have hb7 : Below X3.heap.size w6 w7 := haw.below (Nat.le_trans (Nat.le_trans F3.out.size (Nat.le_refl _)) Hl6.out.size)
    have HX7 : Hid (Below w.heap.size w w7) := Lib.hid (HX6.out.trans (hb7.mono HX3.out.size))
    have HIw : Hid (Below w3.heap.size w3 w7) := Lib.hid ((K3.out.trans (Hl6.out.mono K3.out.size)).trans (hb7.mono HwX3.out.size))
    have q5a := haw.box _ _ (((M5.out).block _ (lt_heap G5a.out)).trans G5a.out)
    have q3a := haw.box _ _ (((M3.out).block _ (lt_heap G3a.out)).trans G3a.out)
    have homb : OM w7 X4.heap.size m (.slice Afb m.feet.length cfb) (.slice Aeb m.ends.length ceb) (.slice Abb m.brks.length cbb) vsb := away_keep (HOM5.out.below (HwX5.out.trans (M5.out.mono HwX5.out.size))) haw HwX4.out.size
    obtain ⟨Af9, Ae9, Ab9, cf9, ce9, cb9, y1, y2, y3, himb⟩ := homb.isMet Hbd.out
    cases y1; cases y2; cases y3
    have hfe := refequal_any _ _ _ _ _ _ m Afw Aew Abw cfw cew cbw m w7 himb (HIM3.out.on HIw.out)
    rw [eq_self] at hfe
    have Hfe := Lib.hid hfe
    clear hfe himb homb hb7 haw r30 r31 r32 r40 r41 r42 r50 r51 r52
    have r50 := cell_of_row _ _ 0 _ 27 (0, 0) q5a
    have r51 := cell_of_row _ _ 1 _ 27 (0, 0) q5a
    have r52 := cell_of_row _ _ 2 _ 27 (0, 0) q5a
    have r30 := cell_of_row _ _ 0 _ 27 (0, 0) q3a
    have r31 := cell_of_row _ _ 1 _ 27 (0, 0) q3a
    have r32 := cell_of_row _ _ 2 _ 27 (0, 0) q3a
    clear q5a q3a
    go_wp2_with fail
    refine Hfe.out.mono ?_
    rintro e w8 ⟨rfl, hb8⟩
    have HX8 := Lib.hid (Hnext.out _ _ HX7.out hb8)
    clear hb8 r50 r51 r52 r30 r31 r32
    go_wp2_with fail
    refine (Hwk.out _ HX8.out).mono ?_
    rintro e w9 ⟨rfl, hb9⟩
    have HX9 := Lib.hid (Hnext.out _ _ HX8.out hb9)
    clear hb9
    go_wp2_with fail
    go_ret
    exact ⟨rfl, HX9.out⟩
end Go.Proofs.YtkfkkoefpfmjkaaDoor

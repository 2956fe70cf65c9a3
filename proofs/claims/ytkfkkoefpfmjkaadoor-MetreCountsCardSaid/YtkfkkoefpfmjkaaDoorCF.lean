import Derived.Test.YtkfkkoefpfmjkaaDoorCE
namespace Go.Proofs.YtkfkkoefpfmjkaaDoor
set_option linter.unusedVariables false
set_option linter.unusedSimpArgs false
open Go.RowKit

/- Patterns. -/
theorem run_store_func (P : Program) (w : World) (a : Addr) (m : Mode) (f : Fn) (x y : Array Value) : (store a (.func f x y) m).run P w = stored P w a (.func f x y) m := run_store P w a _ m rfl
attribute [local go_sem] run_store_func
def metC (Af Ae Ab : Option Addr) (cf ce cb : Nat) (m : Met) : Array Value := #[.slice Af m.feet.length cf, .slice Ae m.ends.length ce, .slice Ab m.brks.length cb]
theorem patterns_any (Af Ae Ab : Option Addr) (cf ce cb : Nat) (m : Met) (w : World) :
    Calls Tryd.prog 36 #[.agg #[.slice Af m.feet.length cf, .slice Ae m.ends.length ce, .slice Ab m.brks.length cb]] w fun e w' => e = .returned (.func (.func 71) #[] #[.pointer (some ⟨w.heap.size, 0, none⟩)]) ∧ w' = w.alloc (.cells (metC Af Ae Ab cf ce cb m) 27) := by
  unfold metC
  go_enter Tryd.func36, Tryd.ntmps36
  go_wp2_with fail
  go_ret
  exact ⟨rfl, rfl⟩
theorem pre3_id (p : Pat) : pre3 ⟨#[]⟩ 0 [] p = p := by
  unfold pre3; simp

set_option maxRecDepth 100000 in
set_option maxHeartbeats 8000000 in
theorem pats_seq (n : Nat) (Af Ae Ab : Option Addr) (cf ce cb : Nat) (m : Met) (bm : Nat) (w : World) (h : IsMet w w.heap.size Af Ae Ab cf ce cb m) (hm : mayB m = true) (hbm : w.heap[bm]? = some (.cells (metC Af Ae Ab cf ce cb m) 27 (0, 0))) :
    SeqG Fence.wide n Tryd.prog 71 #[.pointer (some ⟨bm, 0, none⟩)] yEncs yBlk (yFits w.heap.size) (fun xs => xs.map YP.pat = pats (optsP m)) (fun _ => True) (pats (optsP m)).length w := by
  intro l J Jx W hW aJ aJx hno hY h0
  have hYs : Yields W.heap.size w.heap.size l (pats (optsP m)).length J Jx := by
    intro pre x W1 hj hl hf hb
    obtain ⟨fn, tmps, assign, body, h1, h2⟩ := hY pre x W1 hj hl hf hb
    refine ⟨fn, tmps, assign, body, h1, fun k => RoundIn.mono (roundIn_any h2) ?_⟩
    rintro e W' (⟨rfl, h3, h4⟩ | ⟨rfl, h3⟩)
    · exact ⟨true, rfl, .inl ⟨rfl, h3, h4⟩⟩
    · exact ⟨false, rfl, .inr ⟨rfl, h3⟩⟩
  refine callsIn_wide.2 ?_
  have hWs := hW.size
  have hbs := lt_of hbm
  generalize hW1 : W.alloc (.cells #[.func (.yield l) #[] #[]] 127) = W1
  have sW1 : W1.heap.size = W.heap.size + 1 := by rw [← hW1]; simp
  have hB1 : Below W.heap.size W W1 := by rw [← hW1]; exact (Below.refl _ _).alloc (Nat.le_refl _) _
  have hy1 : W1.heap[W.heap.size]? = some (.cells #[.func (.yield l) #[] #[]] 127 (0, 0)) := by rw [← hW1]; exact World.alloc_heap_new W _
  have hm1 : W1.heap[bm]? = some (.cells (metC Af Ae Ab cf ce cb m) 27 (0, 0)) := (hB1.block bm (by omega)).trans ((hW.block bm hbs).trans hbm)
  unfold metC at hm1
  have m0 : W1.cell? ⟨bm, 0, none⟩ = some (.slice Af m.feet.length cf) := cell_of_row _ _ 0 _ 27 (0, 0) hm1
  have m1 : W1.cell? ⟨bm, 1, none⟩ = some (.slice Ae m.ends.length ce) := cell_of_row _ _ 1 _ 27 (0, 0) hm1
  have m2 : W1.cell? ⟨bm, 2, none⟩ = some (.slice Ab m.brks.length cb) := cell_of_row _ _ 2 _ 27 (0, 0) hm1
  have HMet := Lib.hid (((h.below (hW.trans (hB1.mono hWs))).more (by omega) : IsMet W1 W1.heap.size Af Ae Ab cf ce cb m))
  have Hchk := Lib.hid (check_any Af Ae Ab cf ce cb m W1 HMet.out)
  have hck : checkN m = 0 := by unfold checkN; rw [if_pos hm]
  rw [hck] at Hchk
  have Hkeep := Lib.hid fun (W2 : World) (hb2 : Below W1.heap.size W1 W2) => And.intro ((hb2.cell (p := ⟨bm, 0, none⟩) (by show bm < W1.heap.size; omega)).trans m0) (And.intro ((hb2.cell (p := ⟨bm, 1, none⟩) (by show bm < W1.heap.size; omega)).trans m1) ((hb2.cell (p := ⟨bm, 2, none⟩) (by show bm < W1.heap.size; omega)).trans m2))
  have HW1 := Lib.hid hW1
  rw [← hW1] at m0 m1 m2
  have HJ := Lib.hid h0
  have HaJ := Lib.hid aJ
  have Hno := Lib.hid hno
  have HYs := Lib.hid hYs
  have Hm := Lib.hid hm
  have HB1 := Lib.hid hB1
  have Hy1 := Lib.hid hy1
  have HWw := Lib.hid hWs
  clear hW1 h0 aJ aJx hno hYs hm hck hY hm1 h hW hbm hB1 hy1
  simp only [List.append_toArray, List.cons_append, List.nil_append]
  go_enter Tryd.func71, Tryd.ntmps71
  go_wp2_with fail
  rw [HW1.out]
  refine Hchk.out.mono ?_
  rintro e w2 ⟨rfl, hb2⟩
  obtain ⟨p0, p1, p2⟩ := Hkeep.out _ hb2
  have Hopt := Lib.hid (options_any Af Ae Ab cf ce cb m w2 (HMet.out.on hb2) (small_of Hm.out))
  have Hb2 := Lib.hid hb2
  clear hb2 m0 m1 m2
  go_wp2_with fail
  refine Hopt.out.mono ?_
  rintro e w3 ⟨v, vs, rfl, hor, hb3⟩
  obtain ⟨Ar, cr, hvr, hcr, _⟩ := hor.isRows
  subst hvr
  generalize hv : (Value.slice Ar (optsP m).length cr) = v at hor
  have Hor := Lib.hid hor
  have Hv := Lib.hid hv
  have Hb3 := Lib.hid hb3
  have hs2 := Hb2.out.size
  have hs3 := hb3.size
  clear hor hb3 p0 p1 p2 hv
  generalize hW4 : ((w3.alloc (.cells #[v] 114)).alloc (.cells #[.slice none 0 0] 50)).alloc (.cells #[FN72 W.heap.size w3.heap.size (w3.heap.size + 1) (w3.heap.size + 1 + 1)] 128) = W4
  have sA : (w3.alloc (.cells #[v] 114)).heap.size = w3.heap.size + 1 := by simp
  have sC : ((w3.alloc (.cells #[v] 114)).alloc (.cells #[.slice none 0 0] 50)).heap.size = w3.heap.size + 1 + 1 := by simp
  have hB4 : Below w3.heap.size w3 W4 := by
    rw [← hW4]
    exact (((Below.refl w3.heap.size w3).alloc (Nat.le_refl _) _).alloc (by omega) _).alloc (by omega) _
  have hT4 : W4.heap[w3.heap.size + 1 + 1]? = some (.cells #[FN72 W.heap.size w3.heap.size (w3.heap.size + 1) (w3.heap.size + 1 + 1)] 128 (0, 0)) := by
    rw [← hW4]
    have := World.alloc_heap_new ((w3.alloc (.cells #[v] 114)).alloc (.cells #[.slice none 0 0] 50)) (.cells #[FN72 W.heap.size w3.heap.size (w3.heap.size + 1) (w3.heap.size + 1 + 1)] 128)
    rw [sC] at this; exact this
  have hT3 : (((w3.alloc (.cells #[v] 114)).alloc (.cells #[.slice none 0 0] 50)).alloc (.cells #[.nilFunc] 128)).heap[w3.heap.size + 1 + 1]? = some (.cells #[.nilFunc] 128 (0, 0)) := by
    have := World.alloc_heap_new ((w3.alloc (.cells #[v] 114)).alloc (.cells #[.slice none 0 0] 50)) (.cells #[.nilFunc] 128)
    rw [sC] at this; exact this
  have x5 : (((w3.alloc (.cells #[v] 114)).alloc (.cells #[.slice none 0 0] 50)).alloc (.cells #[.nilFunc] 128)).cell? ⟨w3.heap.size + 1 + 1, 0, none⟩ = some .nilFunc := cell_of_row _ _ 0 _ 128 (0, 0) hT3
  have z5 : (((w3.alloc (.cells #[v] 114)).alloc (.cells #[.slice none 0 0] 50)).alloc (.cells #[.nilFunc] 128)).frozen? ⟨w3.heap.size + 1 + 1, 0, none⟩ = false := frozen_of_row _ _ 0 _ 128 hT3
  have hC4 : W4.heap[w3.heap.size + 1]? = some (.cells #[.slice none 0 0] 50 (0, 0)) := by
    rw [← hW4]
    refine (Below.heap_alloc _ _ _ (by omega)).trans ?_
    have := World.alloc_heap_new (w3.alloc (.cells #[v] 114)) (.cells #[.slice none 0 0] 50)
    rw [sA] at this; exact this
  have hA4 : W4.heap[w3.heap.size]? = some (.cells #[v] 114 (0, 0)) := by
    rw [← hW4]
    exact (Below.heap_alloc _ _ _ (by omega)).trans ((Below.heap_alloc _ _ _ (by omega)).trans (World.alloc_heap_new w3 _))
  have hBall : Below W.heap.size W W4 := HB1.out.trans (((Hb2.out.trans (Hb3.out.mono hs2)).trans (hB4.mono (by omega))).mono (by omega))
  have hte : TE W.heap.size l W.heap.size w3.heap.size (w3.heap.size + 1) (w3.heap.size + 1 + 1) v vs (optsP m) (.slice none 0 0) [] W4 := by
    refine ⟨?_, hA4, hC4, hT4, (Hor.out.base_le (by omega)).below hB4, ⟨rfl, .inl ⟨rfl, rfl⟩⟩, Nat.le_refl _, by omega, by omega, by omega⟩
    exact (hB4.block _ (by omega)).trans ((Hb3.out.block _ (by omega)).trans ((Hb2.out.block _ (by omega)).trans Hy1.out))
  have hin : TellIn W.heap.size l W.heap.size w3.heap.size (w3.heap.size + 1) (w3.heap.size + 1 + 1) (pats (optsP m)).length v vs (optsP m) J [] ⟨#[]⟩ 0 (.slice none 0 0) [] W4 :=
    ⟨⟨hte, HaJ.out [] W W4 HJ.out hBall (fun x hx => by cases hx), fun x hx => by cases hx⟩, Nat.zero_le _, by decide, by omega, by simp, by simp⟩
  have hs := opts_small Hm.out
  have Htell := Lib.hid (tell_any (Jx := Jx) HWw.out HaJ.out Hno.out HYs.out (opts_ok Hm.out) (fun l hl => (hs.2 l hl).2) (optsP m).length [] ⟨#[]⟩ 0 (.slice none 0 0) [] W4 (by simp) hin)
  unfold tellArgs at Htell
  have HW4 := Lib.hid hW4
  unfold FN72 at HW4
  have t4 : W4.cell? ⟨w3.heap.size + 1 + 1, 0, none⟩ = some (FN72 W.heap.size w3.heap.size (w3.heap.size + 1) (w3.heap.size + 1 + 1)) := cell_of_row _ _ 0 _ 128 (0, 0) hT4
  unfold FN72 at t4
  rw [← HW4.out, ← Hv.out] at t4
  rw [← Hv.out] at x5 z5
  rw [← Hv.out] at HW4
  clear hW4 hin hte hBall hA4 hC4 hT4 hB4
  rw [← Hv.out]
  go_wp2_with fail
  rw [HW4.out]
  refine Htell.out.mono ?_
  rintro e w5 ⟨r, rfl, ⟨rfl, xs, v7, hx, hts⟩ | ⟨rfl, ps, hps⟩⟩
  · have Hx := Lib.hid hx
    have Hts := Lib.hid hts
    clear hx hts
    go_wp2_with fail
    refine bodyPost_end (results_none rfl _ _ _) rfl ?_
    refine ⟨⟨_, rfl⟩, .inl ⟨xs, ?_, Hts.out.j⟩⟩
    rw [Hx.out]
    show (pats (optsP m)).map (pre3 ⟨#[]⟩ 0 []) = _
    rw [show (pre3 ⟨#[]⟩ 0 []) = id from funext pre3_id, List.map_id]
  · exact (Hno.out _ _ hps).elim
end Go.Proofs.YtkfkkoefpfmjkaaDoor

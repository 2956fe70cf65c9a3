import Derived.Test.YtjlncnjmcgkkhaaG2
namespace Go.Proofs.Ytjlncnjmcgkkhaa
set_option linter.unusedVariables false
set_option linter.unusedSimpArgs false
open Go.RowKit
attribute [local go_sem] run_store_float run_fquo

/- The reference's Grid. -/
theorem refgrid_no (A : Option Addr) (c step : Nat) (l : List Note) (w : World) (hok : stepOk step = false) :
    Calls Try.prog 39 #[.slice A l.length c, .float .f64 step] w (GridNo 2 w) := by
  have hf := fun W => reffinite_any step W
  unfold stepOk at hok
  cases o1 : Fl.finB step with
  | false =>
    rw [o1] at hf
    have Hf := Lib.hid hf
    clear hf hok
    go_enter Try.func39, Try.ntmps39
    go_wp2_with fail
    refine (Hf.out _).mono ?_
    rintro e w2 ⟨rfl, n2, rfl⟩
    go_wp2_with fail
    go_ret2
    exact ⟨rfl, belowD (Below.refl _ _) _⟩
  | true =>
    rw [o1] at hf hok
    have Hf := Lib.hid hf
    have o2 : (FloatKind.f64.format.order step 0 == some .lt || FloatKind.f64.format.order step 0 == some .eq) = true := by rw [Bool.true_and, Bool.not_eq_false'] at hok; exact hok
    clear hf hok o1
    go_enter Try.func39, Try.ntmps39
    go_wp2_with fail
    refine (Hf.out _).mono ?_
    rintro e w2 ⟨rfl, n2, rfl⟩
    go_wp2_with fail
    go_ret2
    exact ⟨rfl, belowD (Below.refl _ _) _⟩

theorem grid_rel {w w1 : World} {l : List Note} {step k : Nat} {v1 : Value} {nt : Note} {N : Int} (hk : k < l.length) (hall : ∀ j, j < k → Fl.inB (quoN step (l.getD j default)) = true) (hge : l.getD k default = nt) (hi : true = Fl.inB (quoN step nt))
    (htk : intsV (gridL step (l.take (k + 1))) = intsV (gridL step (l.take k)) ++ [.int .i64 (Fl.gridN (quoN step nt))]) (hN : Fl.gridN (quoN step nt) = N) (hown : w1.ownsRow w.heap.size 3 1 v1 (k + 1) (intsV (gridL step (l.take k)) ++ (#[.int .i64 N] : Array Value).toList)) (hb : Below w.heap.size w w1) :
    ∃ k' : Nat, k' ≤ l.length ∧ Value.int .i64 ((k : Int) + 1) = .int .i64 k' ∧ (∀ j, j < k' → Fl.inB (quoN step (l.getD j default)) = true) ∧ w1.ownsRow w.heap.size 3 1 v1 k' (intsV (gridL step (l.take k'))) ∧ Below w.heap.size w w1 := by
  refine ⟨k + 1, by omega, by go_num, fun j hj => ?_, ?_, hb⟩
  · by_cases e : j < k
    · exact hall j e
    · obtain rfl : j = k := by omega
      rw [hge]; exact hi.symm
  · rw [htk, hN]; exact hown

set_option maxRecDepth 100000 in
set_option maxHeartbeats 4000000 in
theorem refgrid_post (A : Option Addr) (c step : Nat) (l : List Note) (w : World) (hn : IsNotes w w.heap.size A l) (hok : stepOk step = true) (hl : l.length ≤ 65536) :
    Calls Try.prog 39 #[.slice A l.length c, .float .f64 step] w (GridPost l step w) := by
  have Hn := Lib.hid hn
  have hf := fun W => reffinite_any step W
  unfold stepOk at hok
  rw [Bool.and_eq_true] at hok
  obtain ⟨o1, o2⟩ := hok
  rw [o1] at hf
  have Hf := Lib.hid hf
  have o3 : (FloatKind.f64.format.order step 0 == some .lt || FloatKind.f64.format.order step 0 == some .eq) = false := by rw [Bool.not_eq_true'] at o2; exact o2
  clear hf o1 o2 hn
  go_enter Try.func39, Try.ntmps39
  go_wp2_with fail
  refine (Hf.out _).mono ?_
  rintro e w2 ⟨rfl, n2, rfl⟩
  go_wp2_with fail
  clear o3
  go_loopw [6, 21] (fun v i wr => ∃ k : Nat, k ≤ l.length ∧ i = .int .i64 k ∧ (∀ j, j < k → Fl.inB (quoN step (l.getD j default)) = true) ∧ wr.ownsRow w.heap.size 3 1 v k (intsV (gridL step (l.take k))) ∧ Below w.heap.size w wr) (fun _ i _ => l.length - (intOf i).toNat)
  case atStart => exact ⟨0, by omega, rfl, fun j h => by omega, ⟨rfl, .inl ⟨rfl, rfl⟩⟩, belowD (Below.refl _ _) _⟩
  case round =>
    obtain ⟨k, hk, rfl, hall, hrow, hbl⟩ := hrel
    have Hall := Lib.hid hall
    have Hrow := Lib.hid hrow
    clear hall hrow
    by_cases hlt : k < l.length
    · obtain ⟨b, off, rfl, hb, hnt⟩ := Hn.out (by omega)
      obtain ⟨c0, c1, c2, c3, c4, c5⟩ := (hnt k hlt).keep hb (keepOf hbl)
      clear hnt
      have Htk := Lib.hid (gridL_take step l k hlt)
      have Hgf := Lib.hid (@gridAll_false step l k hlt)
      generalize hge : l.getD k default = nt at *
      have Hge := Lib.hid hge
      clear hge
      have hbs := hbl.size
      have Hq := Lib.hid fun W => fres_feq .quo nt.at_ step W
      have Hx := Lib.hid (own_below Hrow.out (belowD ((Below.refl wr.heap.size wr).alloc (Nat.le_refl _) (.cells #[.int .i64 nt.line, .int .i64 nt.beat, .int .i64 nt.word, .bool nt.strong, .float .f64 nt.at_, .float .f64 nt.long] 37)) (fdr .quo nt.at_ step)))
      have Hbx := Lib.hid (belowD (hbl.alloc hbs (.cells #[.int .i64 nt.line, .int .i64 nt.beat, .int .i64 nt.word, .bool nt.strong, .float .f64 nt.at_, .float .f64 nt.long] 37)) (fdr .quo nt.at_ step))
      have hq := Hq.out ((wr.alloc (.cells #[.int .i64 nt.line, .int .i64 nt.beat, .int .i64 nt.word, .bool nt.strong, .float .f64 nt.at_, .float .f64 nt.long] 37)))
      generalize hqe : fres .quo nt.at_ step _ = q at *
      have Hqe := Lib.hid hqe
      have hiq : Fl.inB q = Fl.inB (quoN step nt) := Fl.inB_congr hq.key
      have hin : (FloatKind.f64.format.order q 14069245235905429504 == some .gt && FloatKind.f64.format.order q 4845873199050653696 == some .lt) = Fl.inB q := Fl.in_ref q
      cases hi : Fl.inB q with
      | false =>
        rw [hi] at hin hiq
        have Hiq := Lib.hid hiq
        clear hi hq hiq
        have hgf := Hgf.out Hiq.out.symm
        have Hgf2 := Lib.hid hgf
        clear hgf
        cases h1 : (FloatKind.f64.format.order q 14069245235905429504 == some .gt) with
        | false =>
          clear hin
          have h1n : ¬ FloatKind.f64.format.order q 14069245235905429504 = some .gt := by simpa using h1
          clear h1
          go_wp2_with fail
          go_ret2
          exact ⟨fun h => (by rw [Hgf2.out] at h; cases h), fun _ => ⟨rfl, Hbx.out⟩⟩
        | true =>
          rw [h1, Bool.true_and] at hin
          have h1p : FloatKind.f64.format.order q 14069245235905429504 = some .gt := by simpa using h1
          clear h1
          go_wp2_with fail
          go_ret2
          exact ⟨fun h => (by rw [Hgf2.out] at h; cases h), fun _ => ⟨rfl, Hbx.out⟩⟩
      | true =>
        rw [hi] at hin hiq
        rw [Bool.and_eq_true] at hin
        obtain ⟨hin1, hin2⟩ := hin
        rw [beq_iff_eq] at hin1 hin2
        have Hiq := Lib.hid hiq
        have Hgq := Lib.hid (show Fl.gridN q = Fl.gridN (quoN step nt) by
          rcases hq with rfl | ⟨h1, _⟩
          · rfl
          · obtain ⟨k', hk', _⟩ := Fl.inB_key hi
            rw [h1] at hk'; cases hk')
        obtain ⟨F, r, o, hF, hN, hF1, hF2, hr, ho⟩ := Fl.gridN_down hi
        have Hfl := Lib.hid fun W => floor_any q (Fl.inB_fin hi) W
        have hcv := fun W => run_convert_float_int (P := Try.prog) W 22 3 .f64 .i64 _ _ (by kernel_rfl) Try.underlying3 hF
        have hsb := fun W => run_float_arith (P := Try.prog) W .sub 22 .f64 q (Fl.intg .down q) r hr
        have HN := Lib.hid hN
        have ho' : FloatKind.f64.format.order r 4602678819172646912 = some o := ho
        clear hi hq hiq hF hN hr ho
        go_wp2_with fail
        refine (Hfl.out _).mono ?_
        rintro e w3 ⟨rfl, rfl⟩
        go_wp2_with fail
        refine (Hfl.out _).mono ?_
        rintro e w3 ⟨rfl, rfl⟩
        clear hin1 hin2
        cases o with
        | gt =>
          have HN2 := Lib.hid (show Fl.gridN q = F + 1 by rw [HN.out]; unfold Fl.after; rw [if_pos (.inl rfl)])
          go_wp2_with (at_builtin; go_loud (refine wpList_append_box _ rfl _ _ 55 rfl w.heap.size 3 _ _ 1 8 Try.underlying55 info3 zero3 size3 bytes3 rfl (by decide) u6 k (intsV (gridL step (l.take k))) _ _ rfl rfl ?c0 (by exact Hx.out) rfl ?c1 ?c2 ?c3 ?c4 ?_); rotate_right; intro v1 w1 hown1 hbl1)
          case c0 => simp
          case c1 => simp [Value.oneCell']
          case c2 => unfold maxLen; omega
          case c3 => omega
          case c4 => simp; omega
          go_roundw
          case rel => exact grid_rel hlt Hall.out Hge.out Hiq.out Htk.out (Hgq.out.symm.trans HN2.out) hown1 (Hbx.out.trans hbl1)
          case measure => simp [intOf]; omega
        | lt =>
          have HN2 := Lib.hid (show Fl.gridN q = F by rw [HN.out]; unfold Fl.after; rw [if_neg (by simp)])
          go_wp2_with (at_builtin; go_loud (refine wpList_append_box _ rfl _ _ 55 rfl w.heap.size 3 _ _ 1 8 Try.underlying55 info3 zero3 size3 bytes3 rfl (by decide) u6 k (intsV (gridL step (l.take k))) _ _ rfl rfl ?c0 (by exact Hx.out) rfl ?c1 ?c2 ?c3 ?c4 ?_); rotate_right; intro v1 w1 hown1 hbl1)
          case c0 => simp
          case c1 => simp [Value.oneCell']
          case c2 => unfold maxLen; omega
          case c3 => omega
          case c4 => simp; omega
          go_roundw
          case rel => exact grid_rel hlt Hall.out Hge.out Hiq.out Htk.out (Hgq.out.symm.trans HN2.out) hown1 (Hbx.out.trans hbl1)
          case measure => simp [intOf]; omega
        | eq =>
          by_cases hm : F.tmod 2 = 0
          · have HN2 := Lib.hid (show Fl.gridN q = F by rw [HN.out]; unfold Fl.after; rw [if_neg (by simp [hm])])
            go_wp2_with (at_builtin; go_loud (refine wpList_append_box _ rfl _ _ 55 rfl w.heap.size 3 _ _ 1 8 Try.underlying55 info3 zero3 size3 bytes3 rfl (by decide) u6 k (intsV (gridL step (l.take k))) _ _ rfl rfl ?c0 (by exact Hx.out) rfl ?c1 ?c2 ?c3 ?c4 ?_); rotate_right; intro v1 w1 hown1 hbl1)
            case c0 => simp
            case c1 => simp [Value.oneCell']
            case c2 => unfold maxLen; omega
            case c3 => omega
            case c4 => simp; omega
            go_roundw
            case rel => exact grid_rel hlt Hall.out Hge.out Hiq.out Htk.out (Hgq.out.symm.trans HN2.out) hown1 (Hbx.out.trans hbl1)
            case measure => simp [intOf]; omega
          · have HN2 := Lib.hid (show Fl.gridN q = F + 1 by rw [HN.out]; unfold Fl.after; rw [if_pos (.inr ⟨rfl, hm⟩)])
            have hm2 : (F.tmod 2 != 0) = true := by simpa using hm
            go_wp2_with (at_builtin; go_loud (refine wpList_append_box _ rfl _ _ 55 rfl w.heap.size 3 _ _ 1 8 Try.underlying55 info3 zero3 size3 bytes3 rfl (by decide) u6 k (intsV (gridL step (l.take k))) _ _ rfl rfl ?c0 (by exact Hx.out) rfl ?c1 ?c2 ?c3 ?c4 ?_); rotate_right; intro v1 w1 hown1 hbl1)
            case c0 => simp
            case c1 => simp [Value.oneCell']
            case c2 => unfold maxLen; omega
            case c3 => omega
            case c4 => simp; omega
            go_roundw
            case rel => exact grid_rel hlt Hall.out Hge.out Hiq.out Htk.out (Hgq.out.symm.trans HN2.out) hown1 (Hbx.out.trans hbl1)
            case measure => simp [intOf]; omega
    · obtain rfl : k = l.length := by omega
      go_wp2_with fail
      go_ret2
      refine ⟨fun _ => ⟨_, rfl, by have := Hrow.out; rw [List.take_length] at this; exact this, hbl⟩, fun h => ?_⟩
      rw [gridAll_true Hall.out] at h; cases h
end Go.Proofs.Ytjlncnjmcgkkhaa

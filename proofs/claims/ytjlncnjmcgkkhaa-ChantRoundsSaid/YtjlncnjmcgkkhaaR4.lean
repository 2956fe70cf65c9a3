import Derived.Test.YtjlncnjmcgkkhaaR3
import Derived.Deep.CutRange
namespace Go.Proofs.Ytjlncnjmcgkkhaa
set_option linter.unusedVariables false
set_option linter.unusedSimpArgs false
open Go.RowKit
attribute [local go_sem] run_store_float run_fadd run_fsub run_fmul run_fquo

/- The reference's Round. -/
def Boxed1 (nt : Note) (late : Nat) (wr wx : World) : Prop := ∃ a, FEq a (plainV (fv .add nt.at_ late)) ∧ Below wr.heap.size wr wx ∧ wr.heap.size < wx.heap.size ∧
  wx.cell? ⟨wr.heap.size, 0, none⟩ = some (.int .i64 nt.line) ∧ wx.cell? ⟨wr.heap.size, 1, none⟩ = some (.int .i64 nt.beat) ∧ wx.cell? ⟨wr.heap.size, 2, none⟩ = some (.int .i64 nt.word) ∧ wx.cell? ⟨wr.heap.size, 3, none⟩ = some (.bool nt.strong) ∧
  wx.cell? ⟨wr.heap.size, 4, none⟩ = some (.float .f64 a) ∧ wx.cell? ⟨wr.heap.size, 5, none⟩ = some (.float .f64 nt.long)
theorem boxed1_of {nt : Note} {late a : Nat} {wr W : World} (ha : FEq a (plainV (fv .add nt.at_ late))) (h : Below wr.heap.size wr W)
    (hg : W.heap[wr.heap.size]? = some (.cells #[.int .i64 nt.line, .int .i64 nt.beat, .int .i64 nt.word, .bool nt.strong, .float .f64 nt.at_, .float .f64 nt.long] 37 (0, 0))) :
    Boxed1 nt late wr (W.setCell ⟨wr.heap.size, 4, none⟩ (.float .f64 a)) := by
  have h1 := heap_setCell_same W wr.heap.size 4 _ 37 (.float .f64 a) hg
  have hc : ∀ j, (W.setCell ⟨wr.heap.size, 4, none⟩ (.float .f64 a)).cell? ⟨wr.heap.size, j, none⟩ = _ := fun j => cell_of_row _ wr.heap.size j _ 37 (0, 0) h1
  refine ⟨a, ha, h.setCell (p := ⟨_, _, _⟩) (Nat.le_refl _) _, heap_lt h1, hc 0, hc 1, hc 2, hc 3, hc 4, hc 5⟩
set_option maxRecDepth 100000 in
set_option maxHeartbeats 4000000 in
theorem refround_yes (A : Option Addr) (c n delay : Nat) (l : List Note) (w : World) (hn : IsNotes w w.heap.size A l) (hv1 : 1 ≤ n) (hv2 : n ≤ 16) (hf : Fl.finB delay = true) (hd : (FloatKind.f64.format.order delay 0 == some .lt) = false) (hl : l.length * n ≤ 65536) (hl' : l.length ≤ 65536) :
    Calls Try.prog 27 #[.slice A l.length c, .int .i64 n, .float .f64 delay] w (RoundYes l n delay w) := by
  have Hn := Lib.hid hn
  have hfin := fun W => reffinite_any delay W
  rw [hf] at hfin
  have Hfin := Lib.hid hfin
  clear hfin hf hn
  have s2 : decide ((65536 : Int) / (n : Int) < (l.length : Int)) = false := by
    rw [decide_eq_false_iff_not, div_lt n l.length hv1]; omega
  go_enter Try.func27, Try.ntmps27
  go_wp2_with fail
  refine (Hfin.out _).mono ?_
  rintro e w2 ⟨rfl, n2, rfl⟩
  go_wp2_with fail
  clear s2
  go_loopw [8, 9] (fun v i wr => ∃ k : Nat, k ≤ n ∧ i = .int .i64 k ∧ Made (fun j => lateL (lateV j delay) l) w.heap.size k v wr ∧ Below w.heap.size w wr) (fun _ i _ => n - (intOf i).toNat)
  case atStart => exact ⟨0, by omega, rfl, Made.start _ _ _, belowD (Below.refl _ _) _⟩
  case round =>
    obtain ⟨k, hk, rfl, hmade, hbl⟩ := hrel
    have Hmade := Lib.hid hmade
    clear hmade
    by_cases hlt : k < n
    · have hbs := hbl.size
      obtain ⟨wx, rfl⟩ : ∃ wx : World, wx = wr := ⟨_, rfl⟩
      go_wp2_with fail
      go_loopw [10, 40] (fun v i wz => ∃ (j : Nat) (lo : List Note), j ≤ l.length ∧ i = .int .i64 j ∧ lo.length = j ∧ (∀ i, i < j → NEq (lo.getD i default) (lateN (lateV k delay) (l.getD i default))) ∧ wz.ownsRow wx.heap.size 37 6 v j (notesCells lo) ∧ Below wx.heap.size wx wz) (fun _ i _ => l.length - (intOf i).toNat)
      case atStart => exact ⟨0, [], by omega, rfl, rfl, fun i h => by omega, ⟨rfl, .inl ⟨rfl, rfl⟩⟩, Below.refl _ _⟩
      case round =>
        obtain ⟨j, lo, hj, rfl, hlo, hhalf, hrow, hb2⟩ := hrel
        have Hhalf := Lib.hid hhalf
        have Hrow := Lib.hid hrow
        clear hhalf hrow
        by_cases hjl : j < l.length
        · obtain ⟨b, off, rfl, hb, hnt⟩ := Hn.out (by omega)
          have hbw := hbl.trans (hb2.mono hbs)
          obtain ⟨c0, c1, c2, c3, c4, c5⟩ := (hnt j hjl).keep hb (keepOf hbw)
          clear hnt
          generalize hge : l.getD j default = nt at *
          have Hge := Lib.hid hge
          clear hge
          have hbs2 := hb2.size
          go_upto_region 13 with (fail)
          go_cut [10, 12, 40] from 40 to 57 (fun v10 v12 v40 wy => v10 = u10 ∧ v12 = Value.pointer (some ⟨wr.heap.size, 0, none⟩) ∧ v40 = Value.int .i64 j ∧ Boxed1 nt (lateV k delay) wr wy)
          case first =>
            have G := Lib.hid (heap_alloc_new wr (.cells #[.int .i64 nt.line, .int .i64 nt.beat, .int .i64 nt.word, .bool nt.strong, .float .f64 nt.at_, .float .f64 nt.long] 37))
            have GB := Lib.hid ((Below.refl wr.heap.size wr).alloc (Nat.le_refl _) (.cells #[.int .i64 nt.line, .int .i64 nt.beat, .int .i64 nt.word, .bool nt.strong, .float .f64 nt.at_, .float .f64 nt.long] 37))
            go_wp2_with fail
            refine (refplain_any _ (fres_lt _ _ _ _) _).mono ?_
            rintro e w4 ⟨r4, n4, rfl, hr4, hrl4, rfl⟩
            have Hr4 := Lib.hid (hr4.trans (plainV_congr (fres_congr .add (FEq.refl _) (fres_feq _ _ _ _) _)))
            clear hr4
            go_wp2_with fail
            go_meet
            exact ⟨rfl, rfl, rfl, boxed1_of Hr4.out (belowD GB.out _) G.out⟩
          case rest =>
            obtain ⟨rfl, rfl, rfl, a4, ha4, hwb, hws, b0, b1, b2, b3, b4, b5⟩ := hcut
            have Hx := Lib.hid (own_below Hrow.out hwb)
            have HB := Lib.hid (hb2.trans (hwb.mono hbs2))
            have hbs3 := HB.out.size
            have Ha4 := Lib.hid ha4
            have Hlo := Lib.hid hlo
            clear ha4 hlo c0 c1 c2 c3 c4 c5
            go_wp2_with (at_builtin; go_loud (refine wpList_append_box _ rfl _ _ 29 rfl wx.heap.size 37 _ _ 6 48 Try.underlying29 info37 zero37 size37 bytes37 rfl (by decide) _ j (notesCells lo) _ _ rfl rfl ?c0 (by exact Hx.out) rfl ?c1 ?c2 ?c3 ?c4 ?_); rotate_right; intro v1 w1 hown1 hbl1)
            case c0 => rfl
            case c1 => exact ⟨rfl, rfl, rfl, rfl, rfl, rfl⟩
            case c2 => unfold maxLen; omega
            case c3 => omega
            case c4 => exact hbs3
            go_roundw
            case rel =>
              have hl := Hlo.out
              refine ⟨j + 1, lo ++ [{ nt with at_ := a4 }], by omega, by go_num, by simp [hl], fun i hi => ?_, ?_, HB.out.trans hbl1⟩
              · by_cases e : i < j
                · rw [List.getD_eq_getElem?_getD, List.getElem?_append_left (by omega), ← List.getD_eq_getElem?_getD]
                  exact Hhalf.out i e
                · obtain rfl : i = j := by omega
                  rw [List.getD_eq_getElem?_getD, List.getElem?_append_right (by omega), hl, Nat.sub_self, Hge.out]
                  exact ⟨rfl, rfl, rfl, rfl, Ha4.out, FEq.refl _⟩
              · have e : notesCells (lo ++ [{ nt with at_ := a4 }]) = notesCells lo ++ (Note.cells { nt with at_ := a4 }) := by unfold notesCells; simp
                rw [e]; exact hown1
            case measure => simp [intOf]; omega
        · obtain rfl : j = l.length := by omega
          obtain ⟨us, hv0, hm0⟩ := Hmade.out
          have hm1 := Made.ready hm0 hb2
          have Hv1 := Lib.hid (own_below hv0 hb2)
          have Hm1 := Lib.hid hm1
          have hbs2 : w.heap.size ≤ wr.heap.size := Nat.le_trans hbs hb2.size
          have hbw := hbl.trans (hb2.mono hbs)
          have hown8 := own_block hv0
          have Hown8 := Lib.hid hown8
          have Hdone := Lib.hid (show NsEq lo (lateL (lateV k delay) l) from ⟨by rw [lateL_length, hlo], fun i hi => by rw [lateL_get _ _ _ (by omega)]; exact Hhalf.out i (by omega)⟩)
          obtain ⟨A', cap, rfl⟩ := own_slice Hrow.out
          clear hv0 hm0 hm1 hown8
          go_wp2_with (at_builtin; go_loud (refine wpList_append_boxg _ rfl _ _ 27 rfl w.heap.size 29 _ _ 1 24 Try.underlying27 info29 zero29 size29 bytes29 rfl (by decide) u8 k us _ wr.heap.size rfl rfl ?c0 (by exact Hv1.out) rfl ?c1 ?c2 ?c3 ?c4 ?_); rotate_right; intro v4 w4 hown4 hgr4 _)
          case c0 => rfl
          case c1 => rfl
          case c2 => unfold maxLen; omega
          case c3 => omega
          case c4 => exact hbs2
          go_roundw
          case rel =>
            refine ⟨k + 1, by omega, by go_num, ?_, ?_⟩
            · exact Made.step hbs Hv1.out Hm1.out Hdone.out (by rw [lateL_length]; exact Hrow.out) hown4 hgr4
            · exact hbw.grown hgr4 hbs2 (fun b hb => (Hown8.out b hb).1)
          case measure => simp [intOf]; omega
    · obtain rfl : k = n := by omega
      go_wp2_with fail
      go_ret2
      exact ⟨_, rfl, Hmade.out, hbl⟩
end Go.Proofs.Ytjlncnjmcgkkhaa

import Derived.Test.YtjlncnjmcgkkhaaE3
import Derived.Deep.CutRange
import Derived.Deep.RegionHeld3
namespace Go.Proofs.Ytjlncnjmcgkkhaa
set_option linter.unusedVariables false
set_option linter.unusedSimpArgs false
open Go.RowKit
attribute [local go_sem] run_store_float run_fadd run_fsub run_fmul run_fquo

/- The reference's Scale. -/
def Boxed2 (nt : Note) (q : Nat) (wr wx : World) : Prop := ∃ a b, FEq a (plainV (fv .mul nt.at_ q)) ∧ FEq b (plainV (fv .mul nt.long q)) ∧ Below wr.heap.size wr wx ∧ wr.heap.size < wx.heap.size ∧
  wx.cell? ⟨wr.heap.size, 0, none⟩ = some (.int .i64 nt.line) ∧ wx.cell? ⟨wr.heap.size, 1, none⟩ = some (.int .i64 nt.beat) ∧ wx.cell? ⟨wr.heap.size, 2, none⟩ = some (.int .i64 nt.word) ∧ wx.cell? ⟨wr.heap.size, 3, none⟩ = some (.bool nt.strong) ∧
  wx.cell? ⟨wr.heap.size, 4, none⟩ = some (.float .f64 a) ∧ wx.cell? ⟨wr.heap.size, 5, none⟩ = some (.float .f64 b)
theorem boxed2_of {nt : Note} {q a b : Nat} {wr W : World} (ha : FEq a (plainV (fv .mul nt.at_ q))) (hb : FEq b (plainV (fv .mul nt.long q))) (h : Below wr.heap.size wr W)
    (hg : W.heap[wr.heap.size]? = some (.cells #[.int .i64 nt.line, .int .i64 nt.beat, .int .i64 nt.word, .bool nt.strong, .float .f64 nt.at_, .float .f64 nt.long] 37 (0, 0))) :
    Boxed2 nt q wr ((W.setCell ⟨wr.heap.size, 4, none⟩ (.float .f64 a)).setCell ⟨wr.heap.size, 5, none⟩ (.float .f64 b)) := by
  have h1 := heap_setCell_same W wr.heap.size 4 _ 37 (.float .f64 a) hg
  have h2 := heap_setCell_same _ wr.heap.size 5 _ 37 (.float .f64 b) h1
  have hc : ∀ j, ((W.setCell ⟨wr.heap.size, 4, none⟩ (.float .f64 a)).setCell ⟨wr.heap.size, 5, none⟩ (.float .f64 b)).cell? ⟨wr.heap.size, j, none⟩ = _ := fun j => cell_of_row _ wr.heap.size j _ 37 (0, 0) h2
  refine ⟨a, b, ha, hb, (h.setCell (p := ⟨_, _, _⟩) (Nat.le_refl _) _).setCell (p := ⟨_, _, _⟩) (Nat.le_refl _) _, heap_lt h2, hc 0, hc 1, hc 2, hc 3, hc 4, hc 5⟩
def RefScaleYes (l : List Note) (total : Nat) (w : World) (e : Ending) (w' : World) : Prop :=
  ∃ v lo, e = .returned (.tuple #[v, .bool true]) ∧ NsEq lo (scaleL l total) ∧ w'.ownsRow w.heap.size 37 6 v l.length (notesCells lo) ∧ Below w.heap.size w w'

set_option maxRecDepth 100000 in
set_option maxHeartbeats 4000000 in
theorem refscale_yes (A : Option Addr) (c : Nat) (l : List Note) (total : Nat) (w : World) (hn : IsNotes w w.heap.size A l) (hm : l.length ≤ 2932031007402) (hok : scaleOk l total = true) :
    Calls Try.prog 31 #[.slice A l.length c, .float .f64 total] w (RefScaleYes l total w) := by
  simp only [scaleOk, Bool.and_eq_true, Bool.not_eq_true'] at hok
  obtain ⟨⟨⟨o1, o2⟩, o3⟩, o4⟩ := hok
  have Hn := Lib.hid hn
  have O2 := Lib.hid o2
  have O4 := Lib.hid o4
  have hlen := reflength_any A c l w hn (by omega)
  have Hlen := Lib.hid hlen
  have hf1 := fun W => reffinite_any total W
  rw [o1] at hf1
  have Hf1 := Lib.hid hf1
  clear hlen hf1 hn o1 o2 o4
  go_enter Try.func31, Try.ntmps31
  go_wp2_with fail
  refine (Hlen.out).mono ?_
  rintro e w1 ⟨r, rfl, hr, hrl, hb1⟩
  have Hr := Lib.hid hr
  have hf2 := fun W => reffinite_any r W
  rw [finB_congr hr] at hf2
  have hf2' : ∀ W, Calls Try.prog 47 #[.float .f64 r] W (FinOk true W) := fun W => by have := hf2 W; unfold lenV at O2; rw [O2.out] at this; exact this
  have Hf2 := Lib.hid hf2'
  have o5 : FloatKind.f64.format.order r 0 = some .gt := by
    have h1 : FloatKind.f64.format.order r 0 = FloatKind.f64.format.order (plainV (sumF l)) 0 := hr.order (FEq.refl 0)
    have h2 := O4.out
    unfold lenV at h2
    rw [h1]; simpa using h2
  clear hr hf2 hf2'
  go_wp2_with fail
  refine (Hf1.out _).mono ?_
  rintro e w2 ⟨rfl, n2, rfl⟩
  go_wp2_with fail
  refine (Hf2.out _).mono ?_
  rintro e w3 ⟨rfl, n3, rfl⟩
  go_wp2_with fail
  have Hq := Lib.hid fun W => fres_congr .quo (FEq.refl total) Hr.out W
  generalize hqe : fres .quo total r _ = q at *
  have Hqe := Lib.hid (hqe ▸ Hq.out _)
  clear hqe Hq
  go_loopw [8, 35] (fun v i wr => ∃ (k : Nat) (lo : List Note), k ≤ l.length ∧ i = .int .i64 k ∧ lo.length = k ∧ (∀ j, j < k → NEq (lo.getD j default) (scaleN q (l.getD j default))) ∧ wr.ownsRow w.heap.size 37 6 v k (notesCells lo) ∧ Below w.heap.size w wr) (fun _ i _ => l.length - (intOf i).toNat)
  case atStart => exact ⟨0, [], by omega, rfl, rfl, fun j h => by omega, ⟨rfl, .inl ⟨rfl, rfl⟩⟩, belowD hb1 _⟩
  case round =>
    obtain ⟨k, lo, hk, rfl, hlo, hhalf, hrow, hbl⟩ := hrel
    have Hhalf := Lib.hid hhalf
    have Hrow := Lib.hid hrow
    clear hhalf hrow
    by_cases hlt : k < l.length
    · obtain ⟨b, off, rfl, hb, hnt⟩ := Hn.out (by omega)
      obtain ⟨c0, c1, c2, c3, c4, c5⟩ := (hnt k hlt).keep hb (keepOf hbl)
      clear hnt
      generalize hge : l.getD k default = nt at *
      have Hge := Lib.hid hge
      clear hge
      have hbs := hbl.size
      go_wp2_with fail
      go_cut [8, 10, 35] from 35 to 55 (fun v8 v10 v35 wx => v8 = u8 ∧ v10 = Value.pointer (some ⟨wr.heap.size, 0, none⟩) ∧ v35 = Value.int .i64 k ∧ Boxed2 nt q wr wx)
      case first =>
        have G := Lib.hid (heap_alloc_new wr (.cells #[.int .i64 nt.line, .int .i64 nt.beat, .int .i64 nt.word, .bool nt.strong, .float .f64 nt.at_, .float .f64 nt.long] 37))
        have GB := Lib.hid ((Below.refl wr.heap.size wr).alloc (Nat.le_refl _) (.cells #[.int .i64 nt.line, .int .i64 nt.beat, .int .i64 nt.word, .bool nt.strong, .float .f64 nt.at_, .float .f64 nt.long] 37))
        go_region_with (go_at_call 48; refine (refplain_any _ (fres_lt _ _ _ _) _).mono ?_; rintro e wz ⟨rz, nz, rfl, hrz, hrzl, rfl⟩)
        all_goals (go_wp2_with fail; go_meet; exact ⟨rfl, rfl, rfl, boxed2_of (FEq.trans (by assumption) (plainV_congr (fres_feq _ _ _ _))) (FEq.trans (by assumption) (plainV_congr (fres_feq _ _ _ _))) (belowD GB.out _) G.out⟩)
      case rest =>
        obtain ⟨rfl, rfl, rfl, a4, a5, ha4, ha5, hwb, hws, b0, b1, b2, b3, b4, b5⟩ := hcut
        have Hx := Lib.hid (own_below Hrow.out hwb)
        have HB := Lib.hid (hbl.trans (hwb.mono hbs))
        have hbs2 := HB.out.size
        have Ha4 := Lib.hid ha4
        have Ha5 := Lib.hid ha5
        have Hlo := Lib.hid hlo
        clear ha4 ha5 hlo c0 c1 c2 c3 c4 c5
        go_wp2_with (at_builtin; go_loud (refine wpList_append_box _ rfl _ _ 29 rfl w.heap.size 37 _ _ 6 48 Try.underlying29 info37 zero37 size37 bytes37 rfl (by decide) _ k (notesCells lo) _ _ rfl rfl ?c0 (by exact Hx.out) rfl ?c1 ?c2 ?c3 ?c4 ?_); rotate_right; intro v1 w1 hown1 hbl1)
        case c0 => rfl
        case c1 => exact ⟨rfl, rfl, rfl, rfl, rfl, rfl⟩
        case c2 => unfold maxLen; omega
        case c3 => omega
        case c4 => exact hbs2
        go_roundw
        case rel =>
          have hl := Hlo.out
          refine ⟨k + 1, lo ++ [{ nt with at_ := a4, long := a5 }], by omega, by go_num, by simp [hl], fun j hj => ?_, ?_, HB.out.trans hbl1⟩
          · by_cases e : j < k
            · rw [List.getD_eq_getElem?_getD, List.getElem?_append_left (by omega), ← List.getD_eq_getElem?_getD]
              exact Hhalf.out j e
            · obtain rfl : j = k := by omega
              rw [List.getD_eq_getElem?_getD, List.getElem?_append_right (by omega), hl, Nat.sub_self, Hge.out]
              exact ⟨rfl, rfl, rfl, rfl, Ha4.out, Ha5.out⟩
          · have e : notesCells (lo ++ [{ nt with at_ := a4, long := a5 }]) = notesCells lo ++ (Note.cells { nt with at_ := a4, long := a5 }) := by unfold notesCells; simp
            rw [e]; exact hown1
        case measure => simp [intOf]; omega
    · obtain rfl : k = l.length := by omega
      go_wp2_with fail
      go_ret2
      refine ⟨_, lo, rfl, ⟨by simp [scaleL, hlo], fun k hk => ?_⟩, Hrow.out, hbl⟩
      have h := (Hhalf.out k (by omega)).trans (scaleN_congr _ Hqe.out)
      unfold scaleL
      have e : (l.map (scaleN (fv .quo total (lenV l)))).getD k default = scaleN (fv .quo total (lenV l)) (l.getD k default) := by
        rw [List.getD_eq_getElem?_getD, List.getElem?_map, List.getD_eq_getElem?_getD, List.getElem?_eq_getElem (by omega)]; rfl
      rw [e]; exact h
end Go.Proofs.Ytjlncnjmcgkkhaa

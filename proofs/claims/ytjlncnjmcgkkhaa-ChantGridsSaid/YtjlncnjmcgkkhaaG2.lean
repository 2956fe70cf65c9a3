import Derived.Test.YtjlncnjmcgkkhaaG1
import Derived.Test.YtjlncnjmcgkkhaaE1
import Derived.Test.YtjlncnjmcgkkhaaC7
namespace Go.Proofs.Ytjlncnjmcgkkhaa
set_option linter.unusedVariables false
set_option linter.unusedSimpArgs false
open Go.RowKit
attribute [local go_sem] run_store_float run_fadd run_fsub run_fmul run_fquo

/- Grid. -/
def quoN (step : Nat) (n : Note) : Nat := fv .quo n.at_ step
def gridL (step : Nat) (l : List Note) : List Int := l.map fun n => Fl.gridN (quoN step n)
def intsV (xs : List Int) : List Value := xs.map fun x => Value.int .i64 x
def stepOk (step : Nat) : Bool := Fl.finB step && !(FloatKind.f64.format.order step 0 == some .lt || FloatKind.f64.format.order step 0 == some .eq)
def gridAll (step : Nat) (l : List Note) : Bool := l.all fun n => Fl.inB (quoN step n)
def GridYes (l : List Note) (step : Nat) (w : World) (e : Ending) (w' : World) : Prop :=
  ∃ v, e = .returned (.tuple #[v, .int .i64 0]) ∧ w'.ownsRow w.heap.size 3 1 v l.length (intsV (gridL step l)) ∧ Below w.heap.size w w'
def GridNo (ec : Int) (w : World) (e : Ending) (w' : World) : Prop := e = .returned (.tuple #[.slice none 0 0, .int .i64 ec]) ∧ Below w.heap.size w w'
def GridPost (l : List Note) (step : Nat) (w : World) (e : Ending) (w' : World) : Prop :=
  (gridAll step l = true → GridYes l step w e w') ∧ (gridAll step l = false → GridNo 5 w e w')
theorem info3 : Try.prog.info? 3 = some Try.t3 := by kernel_rfl
theorem zero3 : Try.t3.zero = some (.int .i64 0) := by kernel_rfl
theorem size3 : Try.t3.size = 1 := by kernel_rfl
theorem bytes3 : Try.t3.bytes = 8 := by kernel_rfl

theorem gridAll_false {step : Nat} {l : List Note} {k : Nat} (hk : k < l.length) (h : Fl.inB (quoN step (l.getD k default)) = false) : gridAll step l = false := by
  unfold gridAll
  rw [List.all_eq_false]
  refine ⟨l.getD k default, ?_, by rw [h]; simp⟩
  rw [List.getD_eq_getElem?_getD, List.getElem?_eq_getElem hk]
  exact List.getElem_mem hk
theorem gridAll_true {step : Nat} {l : List Note} (h : ∀ j, j < l.length → Fl.inB (quoN step (l.getD j default)) = true) : gridAll step l = true := by
  unfold gridAll
  rw [List.all_eq_true]
  intro n hn
  obtain ⟨j, hj, rfl⟩ := List.getElem_of_mem hn
  have := h j hj
  rw [List.getD_eq_getElem?_getD, List.getElem?_eq_getElem hj] at this
  exact this
theorem gridL_take (step : Nat) (l : List Note) (k : Nat) (hk : k < l.length) : intsV (gridL step (l.take (k + 1))) = intsV (gridL step (l.take k)) ++ [.int .i64 (Fl.gridN (quoN step (l.getD k default)))] := by
  unfold intsV gridL
  rw [List.take_succ_eq_append_getElem hk, List.getD_eq_getElem?_getD, List.getElem?_eq_getElem hk, List.map_append, List.map_append]; rfl

theorem grid_no (A : Option Addr) (c step : Nat) (l : List Note) (w : World) (hok : stepOk step = false) :
    Calls Try.prog 40 #[.slice A l.length c, .float .f64 step] w (GridNo 2 w) := by
  have hf := fun W => finite_any step W
  unfold stepOk at hok
  cases o1 : Fl.finB step with
  | false =>
    rw [o1] at hf
    have Hf := Lib.hid hf
    clear hf hok
    go_enter Try.func40, Try.ntmps40
    go_wp2_with fail
    refine (Hf.out _).mono ?_
    rintro e w2 ⟨rfl, rfl⟩
    go_wp2_with fail
    go_ret2
    exact ⟨rfl, Below.refl _ _⟩
  | true =>
    rw [o1] at hf hok
    have Hf := Lib.hid hf
    have o2 : (FloatKind.f64.format.order step 0 == some .lt || FloatKind.f64.format.order step 0 == some .eq) = true := by rw [Bool.true_and, Bool.not_eq_false'] at hok; exact hok
    clear hf hok o1
    go_enter Try.func40, Try.ntmps40
    go_wp2_with fail
    refine (Hf.out _).mono ?_
    rintro e w2 ⟨rfl, rfl⟩
    go_wp2_with fail
    go_ret2
    exact ⟨rfl, Below.refl _ _⟩

set_option maxRecDepth 100000 in
set_option maxHeartbeats 4000000 in
theorem grid_post (A : Option Addr) (c step : Nat) (l : List Note) (w : World) (hn : IsNotes w w.heap.size A l) (hok : stepOk step = true) (hl : l.length ≤ 65536) :
    Calls Try.prog 40 #[.slice A l.length c, .float .f64 step] w (GridPost l step w) := by
  have Hn := Lib.hid hn
  have hf := fun W => finite_any step W
  unfold stepOk at hok
  rw [Bool.and_eq_true] at hok
  obtain ⟨o1, o2⟩ := hok
  rw [o1] at hf
  have Hf := Lib.hid hf
  have o3 : (FloatKind.f64.format.order step 0 == some .lt || FloatKind.f64.format.order step 0 == some .eq) = false := by rw [Bool.not_eq_true'] at o2; exact o2
  clear hf o1 o2 hn
  go_enter Try.func40, Try.ntmps40
  go_wp2_with fail
  refine (Hf.out _).mono ?_
  rintro e w2 ⟨rfl, rfl⟩
  go_wp2_with fail
  clear o3
  go_loopw [6, 19] (fun v i wr => ∃ k : Nat, k ≤ l.length ∧ i = .int .i64 k ∧ (∀ j, j < k → Fl.inB (quoN step (l.getD j default)) = true) ∧ wr.ownsRow w.heap.size 3 1 v k (intsV (gridL step (l.take k))) ∧ Below w.heap.size w wr) (fun _ i _ => l.length - (intOf i).toNat)
  case atStart => exact ⟨0, by omega, rfl, fun j h => by omega, ⟨rfl, .inl ⟨rfl, rfl⟩⟩, Below.refl _ _⟩
  case round =>
    obtain ⟨k, hk, rfl, hall, hrow, hbl⟩ := hrel
    have Hall := Lib.hid hall
    have Hrow := Lib.hid hrow
    clear hall hrow
    by_cases hlt : k < l.length
    · obtain ⟨b, off, rfl, hb, hnt⟩ := Hn.out (by omega)
      obtain ⟨c0, c1, c2, c3, c4, c5⟩ := (hnt k hlt).keep hb (keepOf hbl)
      clear hnt
      have Htk := Lib.hid (gridL_take step l k hlt)
      have Hgf := Lib.hid (@gridAll_false step l k hlt)
      generalize hge : l.getD k default = nt at *
      have Hge := Lib.hid hge
      clear hge
      have hbs := hbl.size
      have Hq := Lib.hid fun W => fres_feq .quo nt.at_ step W
      go_wp2_with fail
      have hq := Hq.out ((wr.alloc (.cells #[.int .i64 nt.line, .int .i64 nt.beat, .int .i64 nt.word, .bool nt.strong, .float .f64 nt.at_, .float .f64 nt.long] 37)))
      generalize fres .quo nt.at_ step _ = q at *
      have hiq : Fl.inB q = Fl.inB (quoN step nt) := Fl.inB_congr hq.key
      have ha := fun W => abs_any q W
      have hin : (FloatKind.f64.format.order (q % 9223372036854775808) 4845873199050653696 == some .lt) = Fl.inB q := Fl.in_abs q
      have Ha := Lib.hid ha
      cases hi : Fl.inB q with
      | false =>
        rw [hi] at hin hiq
        have Hiq := Lib.hid hiq
        clear hi hq ha hiq
        refine (Ha.out _).mono ?_
        rintro e w3 ⟨rfl, rfl⟩
        go_wp2_with fail
        go_ret2
        have hgf := Hgf.out Hiq.out.symm
        exact ⟨fun h => (by rw [hgf] at h; cases h), fun _ => ⟨rfl, belowD (hbl.alloc hbs _) _⟩⟩
      | true =>
        rw [hi] at hin hiq
        have Hiq := Lib.hid hiq
        have Hgq := Lib.hid (show Fl.gridN q = Fl.gridN (quoN step nt) by
          rcases hq with rfl | ⟨h1, _⟩
          · rfl
          · obtain ⟨k', hk', _⟩ := Fl.inB_key hi
            rw [h1] at hk'; cases hk')
        have Hx := Lib.hid (own_below Hrow.out (belowD ((Below.refl wr.heap.size wr).alloc (Nat.le_refl _) (.cells #[.int .i64 nt.line, .int .i64 nt.beat, .int .i64 nt.word, .bool nt.strong, .float .f64 nt.at_, .float .f64 nt.long] 37)) (fdr .quo nt.at_ step)))
        have hev := fun W => ext57 q W (Fl.inB_fin hi)
        have hcv := fun W => run_convert_float_int (P := Try.prog) W 22 3 .f64 .i64 _ _ (by kernel_rfl) Try.underlying3 (Fl.gridN_even hi)
        clear hi hq ha hiq
        refine (Ha.out _).mono ?_
        rintro e w3 ⟨rfl, rfl⟩
        go_wp2_with (at_builtin; go_loud (refine wpList_append_box _ rfl _ _ 55 rfl w.heap.size 3 _ _ 1 8 Try.underlying55 info3 zero3 size3 bytes3 rfl (by decide) u6 k (intsV (gridL step (l.take k))) _ _ rfl rfl ?c0 (by exact Hx.out) rfl ?c1 ?c2 ?c3 ?c4 ?_); rotate_right; intro v1 w1 hown1 hbl1)
        case c0 => simp
        case c1 => simp [Value.oneCell']
        case c2 => unfold maxLen; omega
        case c3 => omega
        case c4 => simp; omega
        go_roundw
        case rel =>
          refine ⟨k + 1, by omega, by go_num, fun j hj => ?_, ?_, (belowD (hbl.alloc hbs _) _).trans hbl1⟩
          · by_cases e : j < k
            · exact Hall.out j e
            · obtain rfl : j = k := by omega
              rw [Hge.out]; exact Hiq.out.symm
          · rw [Htk.out, ← Hgq.out]; exact hown1
        case measure => simp [intOf]; omega
    · obtain rfl : k = l.length := by omega
      go_wp2_with fail
      go_ret2
      refine ⟨fun _ => ⟨_, rfl, by have := Hrow.out; rw [List.take_length] at this; exact this, hbl⟩, fun h => ?_⟩
      rw [gridAll_true Hall.out] at h; cases h
end Go.Proofs.Ytjlncnjmcgkkhaa

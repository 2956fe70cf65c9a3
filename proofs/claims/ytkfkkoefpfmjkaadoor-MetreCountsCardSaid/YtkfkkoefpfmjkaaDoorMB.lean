import Derived.Test.YtkfkkoefpfmjkaaDoorMA
import Derived.Test.YtkfkkoefpfmjkaaDoorPA
import Derived.Deep.RegionWith
import Derived.Lib.SmallJoins
namespace Go.Proofs.YtkfkkoefpfmjkaaDoor
set_option linter.unusedVariables false
set_option linter.unusedSimpArgs false
open Go.RowKit

/- The variables; figures. -/
/-- what the library's variables hold -/
def Vars (w : World) : Prop := (∃ t p, w.cell? ⟨1, 0, none⟩ = some (.iface t p)) ∧ (∃ t p, w.cell? ⟨2, 0, none⟩ = some (.iface t p)) ∧ Lib.TabIs Tryd.prog w "internal/strconv.uint64pow10" .u64 Lib.pow10Tab ∧ 6 ≤ w.heap.size
theorem globalPow : Tryd.prog.globalNamed "internal/strconv.uint64pow10" = some 3 := by kernel_rfl
theorem Vars.keep {w w' : World} (h : Vars w) (hb : ∀ i, i < 6 → w'.heap[i]? = w.heap[i]?) (hs : w.heap.size ≤ w'.heap.size) : Vars w' := by
  obtain ⟨⟨t1, p1, h1⟩, ⟨t2, p2, h2⟩, h3, h4⟩ := h
  refine ⟨⟨t1, p1, (World.cell?_of_block (hb 1 (by omega))).trans h1⟩, ⟨t2, p2, (World.cell?_of_block (hb 2 (by omega))).trans h2⟩, ?_, by omega⟩
  unfold Lib.TabIs World.var? at *
  rw [globalPow] at h3 ⊢
  simp only [Option.bind_some] at h3 ⊢
  rw [hb 3 (by omega)]
  exact h3
theorem Vars.below {w w' : World} {B : Nat} (h : Vars w) (hb : Below B w w') (hB : 6 ≤ B) : Vars w' := h.keep (fun i hi => hb.block i (by omega)) hb.size
theorem Vars.six {w : World} (h : Vars w) : 6 ≤ w.heap.size := h.2.2.2
theorem Vars.drewN {w : World} (h : Vars w) (n : Nat) : Vars (w.drewN n) := h.keep (fun _ _ => rfl) (Nat.le_refl _)

def NumOk (r : Option Int) (lo hi : Int) (w : World) (e : Ending) (w' : World) : Prop :=
  e = .returned (.tuple #[.int .i64 (match r with | none => 0 | some n => if n < lo ∨ n > hi then 0 else n), .int .i64 (match r with | none => 130 | some n => if n < lo ∨ n > hi then 2 else 0)]) ∧ Below w.heap.size w w'

theorem ne_nil (w : World) : (binOp .neq 136 .nilIface .nilIface).run Tryd.prog w = .ok (.bool false) w := by kernel_rfl
theorem ne_some (n : Nat) (w : World) : (binOp .neq 136 (.iface 194 (.pointer (some ⟨n, 0, none⟩))) .nilIface).run Tryd.prog w = .ok (.bool true) w := by kernel_rfl

theorem below_growN (w : World) (q : Nat) (os : Array Obj) : Below w.heap.size w (Sort.grow (w.drewN q) os) :=
  ⟨rfl, rfl, rfl, by first | (simp [Sort.grow]; done) | (simp [Sort.grow]; omega), fun i hi => by
    show ((w.drewN q).heap ++ os)[i]? = _
    rw [Array.getElem?_append_left (by show i < w.heap.size; omega)]
    rfl⟩
theorem parse_ok (t : ByteArray) (v : Int) (w : World) (ht : t.size ≤ 65536) (hp : Lib.parseIntB 64 t.data.toList = .ok v) :
    Calls Tryd.prog 95 #[.string t, .int .i64 10, .int .i64 64] w fun e w' => e = .returned (.tuple #[.int .i64 v, .nilIface]) ∧ Below w.heap.size w w' := by
  refine (Tryd.strconv_ParseInt_10_at64_ok t (by omega) v hp w).mono ?_
  rintro e w' ⟨rfl, h⟩
  refine ⟨rfl, ?_⟩
  rcases h with rfl | ⟨t, rfl⟩
  · exact Below.refl _ _
  · exact Joins.below_bytesWorld _ _ _ _ (Nat.le_refl _)
def ParseBad (w : World) (e : Ending) (w' : World) : Prop := ∃ (n : Int) (N : Nat), e = .returned (.tuple #[.int .i64 n, .iface 194 (.pointer (some ⟨N, 0, none⟩))]) ∧ Below w.heap.size w w'
def ParseAny (w : World) (e : Ending) (w' : World) : Prop := ∃ (n : Int) (x : Value), e = .returned (.tuple #[.int .i64 n, x]) ∧ Below w.heap.size w w'
theorem parse_bad (t : ByteArray) (w : World) (ht : t.size ≤ 65536) (hv : Vars w) (hp : ∀ v, Lib.parseIntB 64 t.data.toList ≠ .ok v) :
    Calls Tryd.prog 95 #[.string t, .int .i64 10, .int .i64 64] w (ParseBad w) := by
  obtain ⟨⟨t1, p1, h1⟩, ⟨t2, p2, h2⟩, _⟩ := hv
  rcases hq : Lib.parseIntB 64 t.data.toList with v | _ | _
  · exact absurd hq (hp v)
  · refine (Tryd.strconv_ParseInt_10_at64_syntax t (by omega) hq _ w h1 (.inr ⟨_, _, rfl⟩)).mono ?_
    rintro e w' ⟨N, rfl, _, _, hb⟩
    exact ⟨_, N, rfl, hb⟩
  · refine (Tryd.strconv_ParseInt_10_at64_range t (by omega) hq _ w h2 (.inr ⟨_, _, rfl⟩)).mono ?_
    rintro e w' ⟨N, rfl, _, _, hb⟩
    exact ⟨_, N, rfl, hb⟩
theorem format_any (v : Int) (w : World) (hv : Vars w) (h0 : -9223372036854775808 ≤ v) (h1 : v ≤ 9223372036854775807) :
    Calls Tryd.prog 96 #[.int .i64 v, .int .i64 10] w fun e w' => e = .returned (.string ⟨(Lib.itoa v).toArray⟩) ∧ Below w.heap.size w w' := by
  refine (Tryd.strconv_FormatInt_10 v h0 h1 w hv.2.2.1).mono ?_
  rintro e w' ⟨rfl, k, os, rfl⟩
  exact ⟨rfl, below_growN w k os⟩
theorem trim_any (t : ByteArray) (w : World) :
    Calls Tryd.prog 97 #[.string t, .string ⟨#[45]⟩] w fun e w' => e = .returned (.string ⟨(magL t.data.toList).toArray⟩) ∧ w = w' := by
  refine (Tryd.strings_TrimPrefix t ⟨#[45]⟩ w).mono ?_
  rintro e w' ⟨rfl, rfl⟩
  rw [← trim_mag]
  exact ⟨rfl, rfl⟩

theorem keepS {w w1 w2 : World} (hb : Below w1.heap.size w1 w2) (h : Below w.heap.size w w1 ∧ ∀ b o, b < w.heap.size → w1.cell? ⟨b, o, none⟩ = w.cell? ⟨b, o, none⟩) :
    Below w.heap.size w w2 ∧ ∀ b o, b < w.heap.size → w2.cell? ⟨b, o, none⟩ = w.cell? ⟨b, o, none⟩ :=
  ⟨h.1.trans (hb.mono h.1.size), fun b o ho => (hb.cell (p := ⟨b, o, none⟩) (Nat.lt_of_lt_of_le ho h.1.size)).trans (h.2 b o ho)⟩
theorem startS {w : World} : Below w.heap.size w w.drew ∧ ∀ b o, b < w.heap.size → w.drew.cell? ⟨b, o, none⟩ = w.cell? ⟨b, o, none⟩ := ⟨(Below.refl _ _).drew, fun _ _ _ => rfl⟩
theorem belowD {B : Nat} {a w : World} (h : Below B a w) (n : Nat) : Below B a (w.drewN n) := ⟨h.os, h.tape, h.output, h.size, h.block⟩
theorem quiet_left {P : Program} {f : FuncId} {args : Array Value} {w : World} {n : Nat} {v : Value}
    (h : Calls P f args (w.drewN n) fun e w' => e = .returned v ∧ w.drewN n = w') : Calls P f args (w.drewN n) fun e w'' => e = .returned v ∧ ∃ m, w'' = w.drewN m :=
  h.mono fun _ _ ⟨he, hm⟩ => ⟨he, n, hm.symm⟩
set_option maxRecDepth 100000 in
set_option maxHeartbeats 4000000 in
/-- no figure: refused -/
theorem number_nofig (b : Nat) (t : ByteArray) (lo hi : Int) (w : World) (hc : w.cell? ⟨b, 2, none⟩ = some (.string t)) (hb : b < w.heap.size) (hf : figB t = false)
    (hp : Calls Tryd.prog 95 #[.string t, .int .i64 10, .int .i64 64] w (ParseAny w)) :
    Calls Tryd.prog 49 #[.pointer (some ⟨b, 0, none⟩), .int .i64 lo, .int .i64 hi] w (NumOk none lo hi w) := by
  have Hp := Lib.hid hp
  have Hf := Lib.hid hf
  clear hf hp
  go_enter Tryd.func49, Tryd.ntmps49
  go_wp2_with fail
  refine Hp.out.mono ?_
  rintro e w1 ⟨n, x, rfl, hb1⟩
  have hc1 := (hb1.cell (p := ⟨b, 2, none⟩) hb).trans hc
  have Hfg := Lib.hid fun W hc => figure_any b t W hc
  rw [Hf.out] at Hfg
  go_wp2_with fail
  go_quiet ((go_at_call 48; exact quiet_left (Hfg.out _ hc1)))
  go_wp2_with fail
  go_ret2
  exact ⟨rfl, belowD hb1 _⟩

set_option maxRecDepth 100000 in
set_option maxHeartbeats 4000000 in
/-- a figure that can't be read: refused -/
theorem number_bad (b : Nat) (t : ByteArray) (lo hi : Int) (w : World) (hc : w.cell? ⟨b, 2, none⟩ = some (.string t)) (hb : b < w.heap.size) (hf : figB t = true)
    (hp : Calls Tryd.prog 95 #[.string t, .int .i64 10, .int .i64 64] w (ParseBad w)) :
    Calls Tryd.prog 49 #[.pointer (some ⟨b, 0, none⟩), .int .i64 lo, .int .i64 hi] w (NumOk none lo hi w) := by
  have Hp := Lib.hid hp
  have Hf := Lib.hid hf
  clear hf hp
  go_enter Tryd.func49, Tryd.ntmps49
  go_wp2_with fail
  refine Hp.out.mono ?_
  rintro e w1 ⟨n, N, rfl, hb1⟩
  have hc1 := (hb1.cell (p := ⟨b, 2, none⟩) hb).trans hc
  have Hfg := Lib.hid fun W hc => figure_any b t W hc
  rw [Hf.out] at Hfg
  have hne := ne_some N
  go_wp2_with fail
  go_quiet ((go_at_call 48; exact quiet_left (Hfg.out _ hc1)))
  go_wp2_with fail
  go_ret2
  exact ⟨rfl, belowD hb1 _⟩

theorem num_in {v lo hi : Int} {w w' : World} (h1 : lo ≤ v) (h2 : v ≤ hi) (hB : Below w.heap.size w w') : NumOk (some v) lo hi w (.returned (.tuple #[.int .i64 v, .int .i64 0])) w' := by
  unfold NumOk
  simp only []
  rw [if_neg (by omega), if_neg (by omega)]
  exact ⟨rfl, hB⟩
theorem num_out {v lo hi : Int} {w w' : World} (h1 : v < lo ∨ hi < v) (hB : Below w.heap.size w w') : NumOk (some v) lo hi w (.returned (.tuple #[.int .i64 0, .int .i64 2])) w' := by
  unfold NumOk
  simp only []
  rw [if_pos (by omega), if_pos (by omega)]
  exact ⟨rfl, hB⟩
set_option maxRecDepth 100000 in
set_option maxHeartbeats 4000000 in
theorem number_deep (b : Nat) (t : ByteArray) (lo hi v : Int) (w : World) (hc : w.cell? ⟨b, 2, none⟩ = some (.string t)) (hb : b < w.heap.size) (hv : Vars w) (ht : t.size ≤ 65536) (hf : figB t = true)
    (hp : Lib.parseIntB 64 t.data.toList = .ok v) (hi1 : Lib.itoa v = t.data.toList) (h0 : -9223372036854775808 ≤ v) (h1 : v ≤ 9223372036854775807)
    (hlen : (magL t.data.toList).length ≤ 18) :
    Calls Tryd.prog 49 #[.pointer (some ⟨b, 0, none⟩), .int .i64 lo, .int .i64 hi] w (NumOk (some v) lo hi w) := by
  have Hp := Lib.hid (parse_ok t v w ht hp)
  have Hf := Lib.hid hf
  have Hi := Lib.hid (show (⟨(Lib.itoa v).toArray⟩ : ByteArray) = t by rw [hi1])
  have Hv := Lib.hid hv
  clear hf hp hi1 hv
  go_enter Tryd.func49, Tryd.ntmps49
  go_wp2_with fail
  refine Hp.out.mono ?_
  rintro e w1 ⟨rfl, hb1⟩
  have hc1 := (hb1.cell (p := ⟨b, 2, none⟩) hb).trans hc
  have Hfg := Lib.hid fun W hc => figure_any b t W hc
  rw [Hf.out] at Hfg
  have hne := ne_nil
  have Hfm := Lib.hid fun (W : World) (hW : Below w1.heap.size w1 W) => format_any v W (Hv.out.below (hb1.trans (hW.mono hb1.size)) Hv.out.six) h0 h1
  rw [Hi.out] at Hfm
  have Htr := Lib.hid fun W => trim_any t W
  have hb1s := hb1.size
  have hbw : b < w1.heap.size := by omega
  have hstr : (t.toList != t.toList) = false := by simp
  go_wp2_with fail
  go_region_held3 (fun w' => Below w1.heap.size w1 w' ∧ ∀ b o, b < w1.heap.size → w'.cell? ⟨b, o, none⟩ = w1.cell? ⟨b, o, none⟩) (((repeat (apply keepS; assumption)); exact startS)) (first | (go_at_call 48; refine (Hfg.out _ (by first | exact hc1 | simp [*])).mono ?_; rintro e w9 ⟨rfl, rfl⟩) | (go_at_call 96; refine (Hfm.out _ (by first | exact startS.1 | exact And.left (by assumption))).mono ?_; rintro e w9 ⟨rfl, hb9⟩) | (go_at_call 97; refine (Htr.out _).mono ?_; rintro e w9 ⟨rfl, rfl⟩))
  all_goals
    have hS : Below w1.heap.size w1 w9 := And.left (by assumption)
    have hB := hb1.trans (hS.mono hb1.size)
    go_wp2_with fail
  all_goals
    go_ret2
    first
    | exact num_in (by omega) (by omega) hB
    | exact num_out (by omega) hB

set_option maxRecDepth 100000 in
set_option maxHeartbeats 4000000 in
theorem number_long (b : Nat) (t : ByteArray) (lo hi v : Int) (w : World) (hc : w.cell? ⟨b, 2, none⟩ = some (.string t)) (hb : b < w.heap.size) (hv : Vars w) (ht : t.size ≤ 65536) (hf : figB t = true)
    (hp : Lib.parseIntB 64 t.data.toList = .ok v) (hi1 : Lib.itoa v = t.data.toList) (h0 : -9223372036854775808 ≤ v) (h1 : v ≤ 9223372036854775807)
    (hlen : 18 < (magL t.data.toList).length) (hlen2 : (magL t.data.toList).length ≤ 65536) :
    Calls Tryd.prog 49 #[.pointer (some ⟨b, 0, none⟩), .int .i64 lo, .int .i64 hi] w (NumOk none lo hi w) := by
  have Hp := Lib.hid (parse_ok t v w ht hp)
  have Hf := Lib.hid hf
  have Hi := Lib.hid (show (⟨(Lib.itoa v).toArray⟩ : ByteArray) = t by rw [hi1])
  have Hv := Lib.hid hv
  clear hf hp hi1 hv
  go_enter Tryd.func49, Tryd.ntmps49
  go_wp2_with fail
  refine Hp.out.mono ?_
  rintro e w1 ⟨rfl, hb1⟩
  have hc1 := (hb1.cell (p := ⟨b, 2, none⟩) hb).trans hc
  have Hfg := Lib.hid fun W hc => figure_any b t W hc
  rw [Hf.out] at Hfg
  have hne := ne_nil
  have Hfm := Lib.hid fun (W : World) (hW : Below w1.heap.size w1 W) => format_any v W (Hv.out.below (hb1.trans (hW.mono hb1.size)) Hv.out.six) h0 h1
  rw [Hi.out] at Hfm
  have Htr := Lib.hid fun W => trim_any t W
  have hb1s := hb1.size
  have hbw : b < w1.heap.size := by omega
  have hstr : (t.toList != t.toList) = false := by simp
  go_wp2_with fail
  go_region_held3 (fun w' => Below w1.heap.size w1 w' ∧ ∀ b o, b < w1.heap.size → w'.cell? ⟨b, o, none⟩ = w1.cell? ⟨b, o, none⟩) (((repeat (apply keepS; assumption)); exact startS)) (first | (go_at_call 48; refine (Hfg.out _ (by first | exact hc1 | simp [*])).mono ?_; rintro e w9 ⟨rfl, rfl⟩) | (go_at_call 96; refine (Hfm.out _ (by first | exact startS.1 | exact And.left (by assumption))).mono ?_; rintro e w9 ⟨rfl, hb9⟩) | (go_at_call 97; refine (Htr.out _).mono ?_; rintro e w9 ⟨rfl, rfl⟩))
  have hS : Below w1.heap.size w1 w9 := And.left (by assumption)
  have hB := hb1.trans (hS.mono hb1.size)
  go_wp2_with fail
  go_ret2
  exact ⟨rfl, hB⟩

set_option maxRecDepth 100000 in
set_option maxHeartbeats 4000000 in
theorem number_unlike (b : Nat) (t : ByteArray) (lo hi v : Int) (w : World) (hc : w.cell? ⟨b, 2, none⟩ = some (.string t)) (hb : b < w.heap.size) (hv : Vars w) (ht : t.size ≤ 65536) (hf : figB t = true)
    (hp : Lib.parseIntB 64 t.data.toList = .ok v) (hi1 : Lib.itoa v ≠ t.data.toList) (h0 : -9223372036854775808 ≤ v) (h1 : v ≤ 9223372036854775807) :
    Calls Tryd.prog 49 #[.pointer (some ⟨b, 0, none⟩), .int .i64 lo, .int .i64 hi] w (NumOk none lo hi w) := by
  have Hp := Lib.hid (parse_ok t v w ht hp)
  have Hf := Lib.hid hf
  have hstr : ((⟨(Lib.itoa v).toArray⟩ : ByteArray).toList != t.toList) = true := by
    rw [ByteArray.toList_eq, ByteArray.toList_eq]
    simpa using hi1
  have hstr2 : ((⟨(Lib.itoa v).toArray⟩ : ByteArray).toList == t.toList) = false := by
    rw [bne] at hstr; simpa using hstr
  have Hv := Lib.hid hv
  clear hf hp hi1 hv
  go_enter Tryd.func49, Tryd.ntmps49
  go_wp2_with fail
  refine Hp.out.mono ?_
  rintro e w1 ⟨rfl, hb1⟩
  have hc1 := (hb1.cell (p := ⟨b, 2, none⟩) hb).trans hc
  have Hfg := Lib.hid fun W hc => figure_any b t W hc
  rw [Hf.out] at Hfg
  have hne := ne_nil
  have Hfm := Lib.hid fun (W : World) (hW : Below w1.heap.size w1 W) => format_any v W (Hv.out.below (hb1.trans (hW.mono hb1.size)) Hv.out.six) h0 h1
  generalize (⟨(Lib.itoa v).toArray⟩ : ByteArray) = x at *
  have hb1s := hb1.size
  have hbw : b < w1.heap.size := by omega
  go_wp2_with fail
  refine wp_region_held_drew (S := fun w' => Below w1.heap.size w1 w' ∧ ∀ b o, b < w1.heap.size → w'.cell? ⟨b, o, none⟩ = w1.cell? ⟨b, o, none⟩) (by kernel_rfl) startS (fun hHeld => ?_)
  refine wpAnyH_take (i := 0) (oi := { dst := some 19, op := Op.move (Operand.tmp 0), type := 154, pos := "metre.go:149", after := #[], guard := none }) (v := ?_) rfl (by kernel_rfl) (by kernel_rfl) (by kernel_rfl) (fun _ _ _ h => h) (Or.inl ⟨by rfl, ?_⟩) (by assumption) ?_
  rotate_left
  · intro w hSw
    obtain ⟨hS1, hS2⟩ := hSw
    go_simp
    try with_reducible rfl
  simp only [Act.put, List.setIfInBounds_toArray, List.set_cons_zero, List.set_cons_succ]
  refine wpAnyH_ready (rs := [1]) (by kernel_rfl) (by simp) (AllReadyH.cons (o := { dst := some 20, op := Op.call { callee := Callee.value (Operand.func 48), args := #[Operand.tmp 19], argTypes := #[154] }, type := 4, pos := "metre.go:149", after := #[{ on := 0, ground := Ground.data }], guard := none }) rfl (fun K hK => ?_) AllReadyH.nil)
  go_simp
  go_at_call 48
  refine (Hfg.out _ (by simp [*])).mono ?_
  rintro e w8 ⟨rfl, rfl⟩
  refine hK.out _ _ hHeld (fun hHeld2 => ?_)
  clear hK K
  try simp only [Act.put, List.setIfInBounds_toArray, List.set_cons_zero, List.set_cons_succ]
  refine wpAnyH_take (i := 2) (oi := { dst := some 21, op := Op.unOp UnOp.not 4 (Operand.tmp 20), type := 4, pos := "metre.go:149", after := #[{ on := 1, ground := Ground.data }], guard := none }) (v := ?_) rfl (by kernel_rfl) (by kernel_rfl) (by kernel_rfl) (fun _ _ _ h => h) (Or.inl ⟨by rfl, ?_⟩) (by assumption) ?_
  rotate_left
  · intro w hSw
    obtain ⟨hS1, hS2⟩ := hSw
    go_simp
    try with_reducible rfl
  simp only [Act.put, List.setIfInBounds_toArray, List.set_cons_zero, List.set_cons_succ]
  refine wpAnyH_take (i := 3) (oi := { dst := some 22, op := Op.move (Operand.tmp 21), type := 4, pos := "metre.go:149", after := #[{ on := 2, ground := Ground.data }, { on := 1, ground := Ground.chain }], guard := none }) (v := ?_) rfl (by kernel_rfl) (by kernel_rfl) (by kernel_rfl) (fun _ _ _ h => h) (Or.inl ⟨by rfl, ?_⟩) (by assumption) ?_
  rotate_left
  · intro w hSw
    obtain ⟨hS1, hS2⟩ := hSw
    go_simp
    try with_reducible rfl
  simp only [Act.put, List.setIfInBounds_toArray, List.set_cons_zero, List.set_cons_succ]
  refine wpAnyH_take (i := 4) (oi := { dst := some 23, op := Op.move (Operand.tmp 9), type := 136, pos := "metre.go:149", after := #[{ on := 3, ground := Ground.guard }], guard := some (3, false) }) (v := ?_) rfl (by kernel_rfl) (by kernel_rfl) (by kernel_rfl) (fun _ _ _ h => h) (Or.inl ⟨by rfl, ?_⟩) (by assumption) ?_
  rotate_left
  · intro w hSw
    obtain ⟨hS1, hS2⟩ := hSw
    go_simp
    try with_reducible rfl
  simp only [Act.put, List.setIfInBounds_toArray, List.set_cons_zero, List.set_cons_succ]
  refine wpAnyH_take (i := 5) (oi := { dst := some 24, op := Op.binOp BinOp.neq 136 (Operand.tmp 23) (Operand.const Value.nilIface) 136, type := 4, pos := "metre.go:149", after := #[{ on := 4, ground := Ground.data }, { on := 3, ground := Ground.guard }], guard := some (3, false) }) (v := ?_) rfl (by kernel_rfl) (by kernel_rfl) (by kernel_rfl) (fun _ _ _ h => h) (Or.inl ⟨by rfl, ?_⟩) (by assumption) ?_
  rotate_left
  · intro w hSw
    obtain ⟨hS1, hS2⟩ := hSw
    go_simp
    try with_reducible rfl
  simp only [Act.put, List.setIfInBounds_toArray, List.set_cons_zero, List.set_cons_succ]
  refine wpAnyH_take (i := 6) (oi := { dst := some 25, op := Op.pick (Operand.tmp 22) (Operand.const (Value.bool true)) (Operand.tmp 24), type := 4, pos := "metre.go:149", after := #[{ on := 3, ground := Ground.data }, { on := 5, ground := Ground.data }], guard := none }) (v := ?_) rfl (by kernel_rfl) (by kernel_rfl) (by kernel_rfl) (fun _ _ _ h => h) (Or.inl ⟨by rfl, ?_⟩) (by assumption) ?_
  rotate_left
  · intro w hSw
    obtain ⟨hS1, hS2⟩ := hSw
    go_simp
    try with_reducible rfl
  simp only [Act.put, List.setIfInBounds_toArray, List.set_cons_zero, List.set_cons_succ]
  refine wpAnyH_take (i := 7) (oi := { dst := some 26, op := Op.move (Operand.tmp 25), type := 4, pos := "metre.go:149", after := #[{ on := 6, ground := Ground.data }, { on := 3, ground := Ground.chain }], guard := none }) (v := ?_) rfl (by kernel_rfl) (by kernel_rfl) (by kernel_rfl) (fun _ _ _ h => h) (Or.inl ⟨by rfl, ?_⟩) (by assumption) ?_
  rotate_left
  · intro w hSw
    obtain ⟨hS1, hS2⟩ := hSw
    go_simp
    try with_reducible rfl
  simp only [Act.put, List.setIfInBounds_toArray, List.set_cons_zero, List.set_cons_succ]
  refine wpAnyH_take (i := 8) (oi := { dst := some 27, op := Op.move (Operand.tmp 8), type := 2, pos := "metre.go:149", after := #[{ on := 7, ground := Ground.guard }], guard := some (7, false) }) (v := ?_) rfl (by kernel_rfl) (by kernel_rfl) (by kernel_rfl) (fun _ _ _ h => h) (Or.inl ⟨by rfl, ?_⟩) (by assumption) ?_
  rotate_left
  · intro w hSw
    obtain ⟨hS1, hS2⟩ := hSw
    go_simp
    try with_reducible rfl
  simp only [Act.put, List.setIfInBounds_toArray, List.set_cons_zero, List.set_cons_succ]
  refine wpAnyH_take (i := 10) (oi := { dst := some 29, op := Op.move (Operand.tmp 0), type := 154, pos := "metre.go:149", after := #[{ on := 7, ground := Ground.guard }], guard := some (7, false) }) (v := ?_) rfl (by kernel_rfl) (by kernel_rfl) (by kernel_rfl) (fun _ _ _ h => h) (Or.inl ⟨by rfl, ?_⟩) (by assumption) ?_
  rotate_left
  · intro w hSw
    obtain ⟨hS1, hS2⟩ := hSw
    go_simp
    try with_reducible rfl
  simp only [Act.put, List.setIfInBounds_toArray, List.set_cons_zero, List.set_cons_succ]
  refine wpAnyH_take (i := 11) (oi := { dst := some 30, op := Op.nilCheck (Operand.tmp 29), type := 0, pos := "metre.go:149", after := #[{ on := 10, ground := Ground.data }, { on := 7, ground := Ground.guard }], guard := some (7, false) }) (v := ?_) rfl (by kernel_rfl) (by kernel_rfl) (by kernel_rfl) (fun _ _ _ h => h) (Or.inl ⟨by rfl, ?_⟩) (by assumption) ?_
  rotate_left
  · intro w hSw
    obtain ⟨hS1, hS2⟩ := hSw
    go_simp
    try with_reducible rfl
  simp only [Act.put, List.setIfInBounds_toArray, List.set_cons_zero, List.set_cons_succ]
  refine wpAnyH_take (i := 12) (oi := { dst := some 31, op := Op.fieldAddr 88 (Operand.tmp 30) 2, type := 0, pos := "metre.go:149", after := #[{ on := 11, ground := Ground.data }, { on := 7, ground := Ground.guard }], guard := some (7, false) }) (v := ?_) rfl (by kernel_rfl) (by kernel_rfl) (by kernel_rfl) (fun _ _ _ h => h) (Or.inl ⟨by rfl, ?_⟩) (by assumption) ?_
  rotate_left
  · intro w hSw
    obtain ⟨hS1, hS2⟩ := hSw
    go_simp
    try with_reducible rfl
  simp only [Act.put, List.setIfInBounds_toArray, List.set_cons_zero, List.set_cons_succ]
  refine wpAnyH_take (i := 13) (oi := { dst := some 32, op := Op.load 9 (Operand.tmp 31), type := 9, pos := "metre.go:149", after := #[{ on := 12, ground := Ground.data }, { on := 7, ground := Ground.guard }], guard := some (7, false) }) (v := ?_) rfl (by kernel_rfl) (by kernel_rfl) (by kernel_rfl) (fun _ _ _ h => h) (Or.inl ⟨by rfl, ?_⟩) (by assumption) ?_
  rotate_left
  · intro w hSw
    obtain ⟨hS1, hS2⟩ := hSw
    go_simp
    try with_reducible rfl
  simp only [Act.put, List.setIfInBounds_toArray, List.set_cons_zero, List.set_cons_succ]
  refine wpAnyH_ready (rs := [9]) (by kernel_rfl) (by simp) (AllReadyH.cons (o := { dst := some 28, op := Op.call { callee := Callee.value (Operand.func 96), args := #[Operand.tmp 27, Operand.const (Value.int IntKind.i64 10)], argTypes := #[2, 3] }, type := 9, pos := "metre.go:149", after := #[{ on := 8, ground := Ground.data }, { on := 7, ground := Ground.chain }, { on := 7, ground := Ground.guard }], guard := some (7, false) }) rfl (fun K hK => ?_) AllReadyH.nil)
  go_simp
  go_at_call 96
  refine (Hfm.out _ (by exact hHeld2.1)).mono ?_
  rintro e w9 ⟨rfl, hb9⟩
  refine hK.out _ _ (keepS hb9 hHeld2) (fun hHeld3 => ?_)
  clear hK K
  try simp only [Act.put, List.setIfInBounds_toArray, List.set_cons_zero, List.set_cons_succ]
  refine wpAnyH_take (i := 14) (oi := { dst := some 33, op := Op.binOp BinOp.neq 9 (Operand.tmp 28) (Operand.tmp 32) 9, type := 4, pos := "metre.go:149", after := #[{ on := 9, ground := Ground.data }, { on := 13, ground := Ground.data }, { on := 7, ground := Ground.guard }], guard := some (7, false) }) (v := ?_) rfl (by kernel_rfl) (by kernel_rfl) (by kernel_rfl) (fun _ _ _ h => h) (Or.inl ⟨by rfl, ?_⟩) (by assumption) ?_
  rotate_left
  · intro w hSw
    obtain ⟨hS1, hS2⟩ := hSw
    go_simp
    try with_reducible rfl
  simp only [Act.put, List.setIfInBounds_toArray, List.set_cons_zero, List.set_cons_succ]
  refine wpAnyH_take (i := 15) (oi := { dst := some 34, op := Op.pick (Operand.tmp 26) (Operand.const (Value.bool true)) (Operand.tmp 33), type := 4, pos := "metre.go:149", after := #[{ on := 7, ground := Ground.data }, { on := 14, ground := Ground.data }], guard := none }) (v := ?_) rfl (by kernel_rfl) (by kernel_rfl) (by kernel_rfl) (fun _ _ _ h => h) (Or.inl ⟨by rfl, ?_⟩) (by assumption) ?_
  rotate_left
  · intro w hSw
    obtain ⟨hS1, hS2⟩ := hSw
    go_simp
    try with_reducible rfl
  simp only [Act.put, List.setIfInBounds_toArray, List.set_cons_zero, List.set_cons_succ]
  refine wpAnyH_take (i := 16) (oi := { dst := some 35, op := Op.move (Operand.tmp 34), type := 4, pos := "metre.go:149", after := #[{ on := 15, ground := Ground.data }, { on := 9, ground := Ground.chain }], guard := none }) (v := ?_) rfl (by kernel_rfl) (by kernel_rfl) (by kernel_rfl) (fun _ _ _ h => h) (Or.inl ⟨by rfl, ?_⟩) (by assumption) ?_
  rotate_left
  · intro w hSw
    obtain ⟨hS1, hS2⟩ := hSw
    go_simp
    try with_reducible rfl
  simp only [Act.put, List.setIfInBounds_toArray, List.set_cons_zero, List.set_cons_succ]
  refine wpAnyH_take (i := 17) (oi := { dst := some 36, op := Op.move (Operand.tmp 0), type := 154, pos := "metre.go:149", after := #[{ on := 16, ground := Ground.guard }], guard := some (16, false) }) (v := undef) rfl (by kernel_rfl) (by kernel_rfl) (by kernel_rfl) (fun _ _ _ h => h) (Or.inr ⟨by rfl, rfl⟩) (by assumption) ?_
  simp only [Act.put, List.setIfInBounds_toArray, List.set_cons_zero, List.set_cons_succ]
  refine wpAnyH_take (i := 18) (oi := { dst := some 37, op := Op.nilCheck (Operand.tmp 36), type := 0, pos := "metre.go:149", after := #[{ on := 17, ground := Ground.data }, { on := 16, ground := Ground.guard }], guard := some (16, false) }) (v := undef) rfl (by kernel_rfl) (by kernel_rfl) (by kernel_rfl) (fun _ _ _ h => h) (Or.inr ⟨by rfl, rfl⟩) (by assumption) ?_
  simp only [Act.put, List.setIfInBounds_toArray, List.set_cons_zero, List.set_cons_succ]
  refine wpAnyH_take (i := 19) (oi := { dst := some 38, op := Op.fieldAddr 88 (Operand.tmp 37) 2, type := 0, pos := "metre.go:149", after := #[{ on := 18, ground := Ground.data }, { on := 16, ground := Ground.guard }], guard := some (16, false) }) (v := undef) rfl (by kernel_rfl) (by kernel_rfl) (by kernel_rfl) (fun _ _ _ h => h) (Or.inr ⟨by rfl, rfl⟩) (by assumption) ?_
  simp only [Act.put, List.setIfInBounds_toArray, List.set_cons_zero, List.set_cons_succ]
  refine wpAnyH_take (i := 20) (oi := { dst := some 39, op := Op.load 9 (Operand.tmp 38), type := 9, pos := "metre.go:149", after := #[{ on := 19, ground := Ground.data }, { on := 16, ground := Ground.guard }], guard := some (16, false) }) (v := undef) rfl (by kernel_rfl) (by kernel_rfl) (by kernel_rfl) (fun _ _ _ h => h) (Or.inr ⟨by rfl, rfl⟩) (by assumption) ?_
  simp only [Act.put, List.setIfInBounds_toArray, List.set_cons_zero, List.set_cons_succ]
  refine wpAnyH_take (i := 21) (oi := { dst := some 40, op := Op.call { callee := Callee.value (Operand.func 97), args := #[Operand.tmp 39, Operand.const (Value.string { data := #[45] })], argTypes := #[9, 9] }, type := 9, pos := "metre.go:149", after := #[{ on := 20, ground := Ground.data }, { on := 16, ground := Ground.chain }, { on := 16, ground := Ground.guard }], guard := some (16, false) }) (v := undef) rfl (by kernel_rfl) (by kernel_rfl) (by kernel_rfl) (fun _ _ _ h => h) (Or.inr ⟨by rfl, rfl⟩) (by assumption) ?_
  simp only [Act.put, List.setIfInBounds_toArray, List.set_cons_zero, List.set_cons_succ]
  refine wpAnyH_take (i := 22) (oi := { dst := some 41, op := Op.call { callee := Callee.builtin Builtin.len, args := #[Operand.tmp 40], argTypes := #[9] }, type := 3, pos := "metre.go:149", after := #[{ on := 21, ground := Ground.data }, { on := 16, ground := Ground.guard }], guard := some (16, false) }) (v := undef) rfl (by kernel_rfl) (by kernel_rfl) (by kernel_rfl) (fun _ _ _ h => h) (Or.inr ⟨by rfl, rfl⟩) (by assumption) ?_
  simp only [Act.put, List.setIfInBounds_toArray, List.set_cons_zero, List.set_cons_succ]
  refine wpAnyH_take (i := 23) (oi := { dst := some 42, op := Op.binOp BinOp.gtr 3 (Operand.tmp 41) (Operand.const (Value.int IntKind.i64 18)) 3, type := 4, pos := "metre.go:149", after := #[{ on := 22, ground := Ground.data }, { on := 16, ground := Ground.guard }], guard := some (16, false) }) (v := undef) rfl (by kernel_rfl) (by kernel_rfl) (by kernel_rfl) (fun _ _ _ h => h) (Or.inr ⟨by rfl, rfl⟩) (by assumption) ?_
  simp only [Act.put, List.setIfInBounds_toArray, List.set_cons_zero, List.set_cons_succ]
  refine wpAnyH_take (i := 24) (oi := { dst := some 43, op := Op.pick (Operand.tmp 35) (Operand.const (Value.bool true)) (Operand.tmp 42), type := 4, pos := "metre.go:149", after := #[{ on := 16, ground := Ground.data }, { on := 23, ground := Ground.data }], guard := none }) (v := ?_) rfl (by kernel_rfl) (by kernel_rfl) (by kernel_rfl) (fun _ _ _ h => h) (Or.inl ⟨by rfl, ?_⟩) (by assumption) ?_
  rotate_left
  · intro w hSw
    obtain ⟨hS1, hS2⟩ := hSw
    go_simp
    try with_reducible rfl
  simp only [Act.put, List.setIfInBounds_toArray, List.set_cons_zero, List.set_cons_succ]
  refine wpAnyH_take (i := 25) (oi := { dst := some 18, op := Op.assign (Operand.tmp 43), type := 4, pos := "metre.go:149", after := #[{ on := 24, ground := Ground.data }, { on := 21, ground := Ground.chain }], guard := none }) (v := ?_) rfl (by kernel_rfl) (by kernel_rfl) (by kernel_rfl) (fun _ _ _ h => h) (Or.inl ⟨by rfl, ?_⟩) (by assumption) ?_
  rotate_left
  · intro w hSw
    obtain ⟨hS1, hS2⟩ := hSw
    go_simp
    try with_reducible rfl
  simp only [Act.put, List.setIfInBounds_toArray, List.set_cons_zero, List.set_cons_succ]
  have hB := hb1.trans (hHeld3.1.mono hb1.size)
  refine wpAnyH_done (by kernel_rfl) ?_ _
  go_wp2_with fail
  go_ret2
  exact ⟨rfl, hB⟩
end Go.Proofs.YtkfkkoefpfmjkaaDoor
namespace Go.Proofs.YtkfkkoefpfmjkaaDoor
set_option linter.unusedVariables false
set_option linter.unusedSimpArgs false
open Go.RowKit

/-- number: the figure that stands there, or why there is none -/
theorem number_any (b : Nat) (t : ByteArray) (lo hi : Int) (w : World) (hc : w.cell? ⟨b, 2, none⟩ = some (.string t)) (hb : b < w.heap.size) (hv : Vars w) (ht : t.size ≤ 65536) :
    Calls Tryd.prog 49 #[.pointer (some ⟨b, 0, none⟩), .int .i64 lo, .int .i64 hi] w (NumOk (numB t) lo hi w) := by
  cases hf : figB t with
  | false =>
    rw [numB_none1 hf]
    refine number_nofig b t lo hi w hc hb hf ?_
    rcases hp : Lib.parseIntB 64 t.data.toList with v | _ | _
    · exact (parse_ok t v w ht hp).mono fun e w' ⟨he, hb⟩ => ⟨_, _, he, hb⟩
    · exact (parse_bad t w ht hv (by intro v; rw [hp]; simp)).mono fun e w' ⟨n, N, he, hb⟩ => ⟨_, _, he, hb⟩
    · exact (parse_bad t w ht hv (by intro v; rw [hp]; simp)).mono fun e w' ⟨n, N, he, hb⟩ => ⟨_, _, he, hb⟩
  | true =>
    rcases hp : Lib.parseIntB 64 t.data.toList with v | _ | _
    · have hbd := Lib.parseIntB_bounds hp
      have e63 : ((2 ^ (64 - 1) : Nat) : Int) = 9223372036854775808 := by decide
      rw [e63] at hbd
      by_cases hi1 : Lib.itoa v = t.data.toList
      · by_cases hl : (magL t.data.toList).length ≤ 18
        · rw [numB_ok hf hp hi1 hl]
          exact number_deep b t lo hi v w hc hb hv ht hf hp hi1 hbd.1 (by omega) hl
        · rw [numB_none4 hl]
          have h2 : (magL t.data.toList).length ≤ t.data.toList.length := by
            unfold magL; split
            · simp
            · exact Nat.le_refl _
          have h3 : t.data.toList.length = t.size := by simp
          exact number_long b t lo hi v w hc hb hv ht hf hp hi1 hbd.1 (by omega) (by omega) (by omega)
      · rw [numB_none3 hp hi1]
        exact number_unlike b t lo hi v w hc hb hv ht hf hp hi1 hbd.1 (by omega)
    · rw [numB_none2 (by intro v; rw [hp]; simp)]
      exact number_bad b t lo hi w hc hb hf (parse_bad t w ht hv (by intro v; rw [hp]; simp))
    · rw [numB_none2 (by intro v; rw [hp]; simp)]
      exact number_bad b t lo hi w hc hb hf (parse_bad t w ht hv (by intro v; rw [hp]; simp))
end Go.Proofs.YtkfkkoefpfmjkaaDoor

import Derived.Test.YtkfkkoefpfmjkaaDoorMC
/- metre.Check: what a metre must be. -/

namespace Go.Proofs.YtkfkkoefpfmjkaaDoor
set_option linter.unusedVariables false
set_option linter.unusedSimpArgs false
open Go.RowKit

theorem same1_any (v : Way) (p : Nat) (s : ByteArray) (W : World) (hc : W.cell? ⟨p, 0, none⟩ = some (.string s)) (hp : p < W.heap.size) :
    Calls Tryd.prog 120 #[.agg #[.string v.1, .int .i64 v.2], .pointer (some ⟨p, 0, none⟩)] W fun e w' => e = .returned (.bool (eqS v.1 s)) ∧ Below W.heap.size W w' := by
  have hne : p ≠ W.heap.size := by omega
  unfold eqS
  go_enter Tryd.func120, Tryd.ntmps120
  go_wp2_with fail
  all_goals (go_ret; exact ⟨by simp_all, (Below.refl _ W).alloc (Nat.le_refl _) _⟩)
set_option maxRecDepth 100000 in
set_option maxHeartbeats 4000000 in
/-- the first that has the signs; below zero: none -/
theorem index2_any (A : Option Addr) (c p : Nat) (l : List Way) (s : ByteArray) (w : World) (hl : IsWays w w.heap.size A l) (hb : l.length ≤ 4611686018427387904) (hc : w.cell? ⟨p, 0, none⟩ = some (.string s)) (hp : p < w.heap.size) :
    Calls Tryd.prog 129 #[.slice A l.length c, .func (.func 120) #[] #[.pointer (some ⟨p, 0, none⟩)]] w fun e w' => ∃ n : Int, e = .returned (.int .i64 n) ∧ decide (0 ≤ n) = hasW l s ∧ Below w.heap.size w w' := by
  go_enter Tryd.func129, Tryd.ntmps129
  go_wp2_with fail
  go_loopw [5, 8] (fun _ i wr => ∃ k : Nat, k ≤ l.length ∧ i = .int .i64 k ∧ (l.take k).any (fun v => eqS v.1 s) = false ∧ Below w.heap.size w wr) (fun _ i _ => l.length - (intOf i).toNat)
  case atStart => exact ⟨0, by omega, rfl, rfl, Below.refl _ _⟩
  case round =>
    rename_i wr
    obtain ⟨k, hk, rfl, hn, hbl⟩ := hrel
    have Hn := Lib.hid hn
    clear hn
    by_cases hlt : k < l.length
    · obtain ⟨b, off, rfl, hbb, hrow⟩ := hl (by omega)
      have hc1 := (hbl.cell (p := ⟨b, off + k * 2, none⟩) hbb).trans (hrow k hlt).1
      have hc2 := (hbl.cell (p := ⟨b, off + k * 2 + 1, none⟩) hbb).trans (hrow k hlt).2
      have hcp := (hbl.cell (p := ⟨p, 0, none⟩) hp).trans hc
      have Hst := Lib.hid (any_take_succ l (fun v => eqS v.1 s) k hlt)
      have Hit := Lib.hid (any_hit l (fun v => eqS v.1 s) k hlt)
      have hbs := hbl.size
      clear hrow hl
      generalize l.getD k default = v at *
      cases hq : eqS v.1 s with
      | true =>
        have Hq := Lib.hid hq
        have hcl := same1_any v p s wr hcp (by omega)
        rw [hq] at hcl
        clear hq
        go_wp2_with fail
        refine hcl.mono ?_
        rintro e w' ⟨rfl, hb'⟩
        have hbe := hbl.trans (hb'.mono hbs)
        go_wp2_with fail
        go_ret
        exact ⟨_, rfl, by rw [show hasW l s = true from Hit.out Hq.out]; simp, hbe⟩
      | false =>
        have Hq := Lib.hid hq
        have hcl := same1_any v p s wr hcp (by omega)
        rw [hq] at hcl
        clear hq
        go_wp2_with fail
        refine hcl.mono ?_
        rintro e w' ⟨rfl, hb'⟩
        have hbe := hbl.trans (hb'.mono hbs)
        go_wp2_with fail
        go_roundw
        case rel => exact ⟨k + 1, by omega, by go_num, by rw [Hst.out, Hn.out, Hq.out]; rfl, hbe⟩
        case measure => simp [intOf]; omega
    · obtain rfl : k = l.length := by omega
      go_wp2_with fail
      go_ret
      exact ⟨_, rfl, by have hx := Hn.out; rw [List.take_length] at hx; unfold hasW; rw [hx]; rfl, hbl⟩
theorem contains2_any (A : Option Addr) (c p : Nat) (l : List Way) (s : ByteArray) (w : World) (hl : IsWays w w.heap.size A l) (hb : l.length ≤ 4611686018427387904) (hc : w.cell? ⟨p, 0, none⟩ = some (.string s)) (hp : p < w.heap.size) :
    Calls Tryd.prog 114 #[.slice A l.length c, .func (.func 120) #[] #[.pointer (some ⟨p, 0, none⟩)]] w fun e w' => e = .returned (.bool (hasW l s)) ∧ Below w.heap.size w w' := by
  go_enter Tryd.func114, Tryd.ntmps114
  go_wp2_with fail
  refine (index2_any A c p l s w hl hb hc hp).mono ?_
  rintro e w' ⟨n, rfl, hn, hb'⟩
  have Hn := Lib.hid hn
  clear hn
  go_wp2_with fail
  go_ret
  exact ⟨ret_bool (by rw [← Hn.out]), hb'⟩
end Go.Proofs.YtkfkkoefpfmjkaaDoor
namespace Go.Proofs.YtkfkkoefpfmjkaaDoor
set_option linter.unusedVariables false
set_option linter.unusedSimpArgs false
open Go.RowKit

/- metre.ways. -/
def IsStrs (w : World) (B : Nat) (A : Option Addr) (l : List ByteArray) : Prop :=
  0 < l.length → ∃ b off, A = some ⟨b, off, none⟩ ∧ b < B ∧ ∀ k, k < l.length → w.cell? ⟨b, off + k, none⟩ = some (.string (l.getD k ByteArray.empty))
theorem IsStrs.below {w w' : World} {B : Nat} {A : Option Addr} {l : List ByteArray} (h : IsStrs w B A l) (hb : Below B w w') : IsStrs w' B A l := fun hl => by
  obtain ⟨b, off, e, hbb, hn⟩ := h hl
  exact ⟨b, off, e, hbb, fun k hk => (hb.cell (p := ⟨b, _, none⟩) hbb).trans (hn k hk)⟩
theorem IsStrs.more {w : World} {B B' : Nat} {A : Option Addr} {l : List ByteArray} (h : IsStrs w B A l) (hB : B ≤ B') : IsStrs w B' A l := fun hl => by
  obtain ⟨b, off, e, hb, hn⟩ := h hl
  exact ⟨b, off, e, by omega, hn⟩
theorem IsWays.take {w : World} {B : Nat} {A : Option Addr} {l : List Way} (h : IsWays w B A l) (k : Nat) : IsWays w B A (l.take k) := fun hl => by
  simp only [List.length_take] at hl
  obtain ⟨b, off, e, hb, hn⟩ := h (by omega)
  refine ⟨b, off, e, hb, fun j hj => ?_⟩
  simp only [List.length_take] at hj
  have e : (l.take k).getD j default = l.getD j default := by simp only [List.getD_eq_getElem?_getD, List.getElem?_take, if_pos (show j < k by omega)]
  rw [e]; exact hn j (by omega)
theorem ownHas_lib (own : List ByteArray) (x : ByteArray) : Lib.containsS own x = ownHas own x := by
  rw [Bool.eq_iff_iff, Lib.containsS_iff]
  unfold ownHas
  rw [List.any_eq_true]
  constructor
  · exact fun h => ⟨x, h, eqS_refl x⟩
  · rintro ⟨y, hy, he⟩
    rw [← eqS_true he]; exact hy
theorem contains_own (A : Option Addr) (c : Nat) (own : List ByteArray) (x : ByteArray) (w : World) (hl : IsStrs w w.heap.size A own) (hb : own.length ≤ 9223372036854775807) :
    Calls Tryd.prog 121 #[.slice A own.length c, .string x] w fun e w' => e = .returned (.bool (ownHas own x)) ∧ w = w' := by
  by_cases h0 : own.length = 0
  · have e0 : own = [] := List.eq_nil_of_length_eq_zero h0
    subst e0
    refine (Tryd.slices_Contains_string_empty A c x w).mono ?_
    rintro e w' ⟨rfl, rfl⟩
    exact ⟨rfl, rfl⟩
  · obtain ⟨b, off, rfl, hbb, hn⟩ := hl (by omega)
    refine (Tryd.slices_Contains_string b off own.length c own x w (Nat.le_refl _) hb hn).mono ?_
    rintro e w' ⟨rfl, rfl⟩
    exact ⟨by rw [List.take_length, ownHas_lib], rfl⟩

set_option maxRecDepth 100000 in
set_option maxHeartbeats 8000000 in
theorem waysC_any (A Ao : Option Addr) (c co : Nat) (l : List Way) (most lg : Int) (own : List ByteArray) (w : World) (hl : IsWays w w.heap.size A l) (hb : l.length ≤ 4611686018427387904) (hc : l.length ≤ c) (ho : IsStrs w w.heap.size Ao own) (hob : own.length ≤ 16)
    (hv : ∀ v ∈ l, v.1.size ≤ 9223372036854775807) :
    Calls Tryd.prog 98 #[.slice A l.length c, .int .i64 most, .int .i64 lg, .slice Ao own.length co] w fun e w' => e = .returned (.bool (waysB l most lg own)) ∧ Below w.heap.size w w' := by
  by_cases hm : (l.length : Int) ≤ most
  · have hW : waysB l most lg own = waysFrom lg own (l.take 0) (l.drop 0) := by unfold waysB; simp [hm]
    generalize hR : waysB l most lg own = R at *
    have HW := Lib.hid hW
    clear hW hR
    go_enter Tryd.func98, Tryd.ntmps98
    go_wp2_with fail
    go_loopw [18] (fun i wr => ∃ k : Nat, k ≤ l.length ∧ i = .int .i64 k ∧ Hid (R = waysFrom lg own (l.take k) (l.drop k)) ∧ Below w.heap.size w wr) (fun i _ => l.length - (intOf i).toNat)
    case atStart => exact ⟨0, by omega, rfl, HW, Below.refl _ _⟩
    case round =>
      rename_i wr
      obtain ⟨k, hk, rfl, hRk, hbl⟩ := hrel
      clear HW
      by_cases hlt : k < l.length
      · obtain ⟨b, off, rfl, hbb, hrow⟩ := hl (by omega)
        have hc1 := (hbl.cell (p := ⟨b, off + k * 2, none⟩) hbb).trans (hrow k hlt).1
        have hc2 := (hbl.cell (p := ⟨b, off + k * 2 + 1, none⟩) hbb).trans (hrow k hlt).2
        have Hst := Lib.hid (hRk.out.trans (waysFrom_step lg own l k hlt))
        have hvs : (l.getD k default).1.size ≤ 9223372036854775807 := by
          rw [List.getD_eq_getElem?_getD, List.getElem?_eq_getElem hlt]
          exact hv _ (List.getElem_mem hlt)
        have hbs := hbl.size
        clear hrow
        unfold wayOk at Hst
        generalize l.getD k default = v at *
        obtain ⟨vs, vn⟩ := v
        simp only [] at hc1 hc2 hvs Hst
        generalize hW1 : wr.alloc (.cells #[.string vs, .int .i64 vn] 100) = W1
        have sW1 : W1.heap.size = wr.heap.size + 1 := by rw [← hW1]; simp
        have hB1 : Below w.heap.size w W1 := by rw [← hW1]; exact hbl.alloc hbs _
        have e1 : W1.cell? ⟨wr.heap.size, 0, none⟩ = some (.string vs) := by rw [← hW1]; simp
        have e2 : W1.cell? ⟨wr.heap.size, 1, none⟩ = some (.int .i64 vn) := by rw [← hW1]; simp
        have HW1 := Lib.hid hW1
        have hcn := contains2_any (some ⟨b, off, none⟩) c wr.heap.size (l.take k) vs W1 (((hl.take k).below hB1).more hB1.size) (by rw [List.length_take_of_le (by omega)]; omega) e1 (by omega)
        rw [List.length_take_of_le (by omega)] at hcn
        have Hown := Lib.hid fun (W2 : World) (hb2 : Below W1.heap.size W1 W2) => contains_own Ao co own vs W2 ((IsStrs.below ho (hB1.trans (hb2.mono (by omega)))).more (by have := hb2.size; omega)) (by omega)
        have Hc2 := Lib.hid fun (W2 : World) (hb2 : Below W1.heap.size W1 W2) => And.intro ((hb2.cell (p := ⟨wr.heap.size, 0, none⟩) (by show wr.heap.size < W1.heap.size; omega)).trans e1) ((hb2.cell (p := ⟨wr.heap.size, 1, none⟩) (by show wr.heap.size < W1.heap.size; omega)).trans e2)
        have hT : (List.take k l).any (fun u => eqS u.1 vs) = hasW (l.take k) vs := rfl
        rw [hT] at Hst
        generalize hasW (l.take k) vs = T at hcn Hst
        generalize hO : ownHas own vs = O at Hst Hown
        have hsg := fun W2 => signs_any vs lg W2 hvs
        generalize hS : signsB vs 1 lg = S at hsg Hst
        have Hsg := Lib.hid hsg
        clear hT hO hS hsg hW1
        go_wp2_with fail
        rw [HW1.out]
        refine hcn.mono ?_
        rintro e w2 ⟨rfl, hb2⟩
        obtain ⟨g1, g2⟩ := Hc2.out _ hb2
        have Hb2 := Lib.hid (hB1.trans (hb2.mono (by omega)))
        have hown := Hown.out _ hb2
        have Hown2 := Lib.hid hown
        clear hown hcn hb2
        go_wp2_with fail
        refine (Hsg.out _).mono ?_
        rintro e w' ⟨rfl, rfl⟩
        cases S with
        | false =>
          go_wp2_with fail
          go_ret
          exact ⟨ret_bool (by rw [Hst.out]; rfl), Hb2.out⟩
        | true =>
          by_cases h1 : vn < 0
          · go_wp2_with fail
            go_ret
            exact ⟨ret_bool (by rw [Hst.out]; simp; omega), Hb2.out⟩
          · by_cases h2 : 1048576 < vn
            · go_wp2_with fail
              go_ret
              exact ⟨ret_bool (by rw [Hst.out]; simp; omega), Hb2.out⟩
            · cases T with
              | true =>
                go_wp2_with fail
                go_ret
                exact ⟨ret_bool (by rw [Hst.out]; simp), Hb2.out⟩
              | false =>
                go_wp2_with fail
                refine (Hown2.out).mono ?_
                rintro e w' ⟨rfl, rfl⟩
                cases O with
                | true =>
                  go_wp2_with fail
                  go_ret
                  exact ⟨ret_bool (by rw [Hst.out]; simp), Hb2.out⟩
                | false =>
                  go_wp2_with fail
                  go_roundw
                  case rel => exact ⟨k + 1, by omega, by go_num, Lib.hid (by rw [Hst.out]; simp; omega), Hb2.out⟩
                  case measure => simp [intOf]; omega
      · obtain rfl : k = l.length := by omega
        go_wp2_with fail
        go_ret
        exact ⟨ret_bool (by rw [hRk.out, waysFrom_end]), hbl⟩
  · have hW : waysB l most lg own = false := by unfold waysB; simp [hm]
    rw [hW]
    clear hW
    go_enter Tryd.func98, Tryd.ntmps98
    go_wp2_with fail
    go_ret
    exact ⟨rfl, Below.refl _ _⟩
end Go.Proofs.YtkfkkoefpfmjkaaDoor
namespace Go.Proofs.YtkfkkoefpfmjkaaDoor
set_option linter.unusedVariables false
set_option linter.unusedSimpArgs false
open Go.RowKit

/- metre.Check. -/
def IsBrks (w : World) (B : Nat) (A : Option Addr) (l : List (Int × Int)) : Prop :=
  0 < l.length → ∃ b off, A = some ⟨b, off, none⟩ ∧ b < B ∧ ∀ k, k < l.length → w.cell? ⟨b, off + k * 2, none⟩ = some (.int .i64 (l.getD k default).1) ∧ w.cell? ⟨b, off + k * 2 + 1, none⟩ = some (.int .i64 (l.getD k default).2)
theorem IsBrks.keep {w w' : World} {B : Nat} {A : Option Addr} {l : List (Int × Int)} (h : IsBrks w B A l) (hk : ∀ p : Addr, p.block < B → w'.cell? p = w.cell? p) : IsBrks w' B A l := fun hl => by
  obtain ⟨b, off, e, hb, hn⟩ := h hl
  exact ⟨b, off, e, hb, fun k hk' => ⟨(hk ⟨b, _, none⟩ hb).trans (hn k hk').1, (hk ⟨b, _, none⟩ hb).trans (hn k hk').2⟩⟩
theorem IsBrks.below {w w' : World} {B : Nat} {A : Option Addr} {l : List (Int × Int)} (h : IsBrks w B A l) (hb : Below B w w') : IsBrks w' B A l := h.keep fun p hp => hb.cell hp
theorem IsBrks.more {w : World} {B B' : Nat} {A : Option Addr} {l : List (Int × Int)} (h : IsBrks w B A l) (hB : B ≤ B') : IsBrks w B' A l := fun hl => by
  obtain ⟨b, off, e, hb, hn⟩ := h hl
  exact ⟨b, off, e, by omega, hn⟩
/-- what the walks ask of the sizes -/
structure Bounded (m : Met) : Prop where
  feet : m.feet.length ≤ 4611686018427387904
  ways : ∀ f ∈ m.feet, f.ways.length ≤ 4611686018427387904 ∧ f.own.size ≤ 9223372036854775807 ∧ ∀ v ∈ f.ways, v.1.size ≤ 9223372036854775807
  ends : m.ends.length ≤ 4611686018427387904 ∧ ∀ v ∈ m.ends, v.1.size ≤ 9223372036854775807
  brks : m.brks.length ≤ 4611686018427387904
/-- a metre in memory -/
structure IsMet (w : World) (B : Nat) (Af Ae Ab : Option Addr) (cf ce cb : Nat) (m : Met) : Prop where
  feet : IsFeet w B Af m.feet
  ends : IsWays w B Ae m.ends
  brks : IsBrks w B Ab m.brks
  cf : m.feet.length ≤ cf
  ce : m.ends.length ≤ ce
  cb : m.brks.length ≤ cb
  bd : Bounded m
theorem IsMet.below {w w' : World} {B : Nat} {Af Ae Ab : Option Addr} {cf ce cb : Nat} {m : Met} (h : IsMet w B Af Ae Ab cf ce cb m) (hb : Below B w w') : IsMet w' B Af Ae Ab cf ce cb m := ⟨h.feet.below hb, h.ends.below hb, h.brks.below hb, h.cf, h.ce, h.cb, h.bd⟩
theorem IsMet.more {w : World} {B B' : Nat} {Af Ae Ab : Option Addr} {cf ce cb : Nat} {m : Met} (h : IsMet w B Af Ae Ab cf ce cb m) (hB : B ≤ B') : IsMet w B' Af Ae Ab cf ce cb m := ⟨h.feet.more hB, h.ends.more hB, h.brks.more hB, h.cf, h.ce, h.cb, h.bd⟩
theorem IsMet.on {w w' : World} {Af Ae Ab : Option Addr} {cf ce cb : Nat} {m : Met} (h : IsMet w w.heap.size Af Ae Ab cf ce cb m) (hb : Below w.heap.size w w') : IsMet w' w'.heap.size Af Ae Ab cf ce cb m := (h.below hb).more hb.size
theorem ret_int {k : IntKind} {a b : Int} (h : a = b) : Ending.returned (.int k a) = .returned (.int k b) := by rw [h]
def metV (Af Ae Ab : Option Addr) (cf ce cb : Nat) (m : Met) : Value := .agg #[.slice Af m.feet.length cf, .slice Ae m.ends.length ce, .slice Ab m.brks.length cb]
def checkN (m : Met) : Int := if mayB m then 0 else 2

set_option maxRecDepth 100000 in
set_option maxHeartbeats 4000000 in
theorem check_any (Af Ae Ab : Option Addr) (cf ce cb : Nat) (m : Met) (w : World) (h : IsMet w w.heap.size Af Ae Ab cf ce cb m) :
    Calls Tryd.prog 56 #[.agg #[.slice Af m.feet.length cf, .slice Ae m.ends.length ce, .slice Ab m.brks.length cb]] w fun e w' => e = .returned (.int .i64 (checkN m)) ∧ Below w.heap.size w w' := by
  generalize hR : checkN m = R
  have HR := Lib.hid hR
  clear hR
  have hfl := h.bd.feet
  have hel := h.bd.ends.1
  have hbl := h.bd.brks
  have H := Lib.hid h
  clear h
  have hR0 : R = (if mayB m then 0 else 2) := HR.out.symm
  by_cases h1 : m.feet.length < 1
  · have Hm : Hid (mayB m = false) := Lib.hid (by unfold mayB; simp; omega)
    have HR0 := Lib.hid hR0
    clear hR0
    go_enter Tryd.func56, Tryd.ntmps56
    go_wp2_with fail
    go_ret
    exact ⟨ret_int (by rw [HR0.out, Hm.out]; rfl), (Below.refl _ _).alloc (Nat.le_refl _) _⟩
  · by_cases h2 : 16 < m.feet.length
    · have Hm : Hid (mayB m = false) := Lib.hid (by unfold mayB; simp; omega)
      have HR0 := Lib.hid hR0
      clear hR0
      go_enter Tryd.func56, Tryd.ntmps56
      go_wp2_with fail
      go_ret
      exact ⟨ret_int (by rw [HR0.out, Hm.out]; rfl), (Below.refl _ _).alloc (Nat.le_refl _) _⟩
    · have hm : mayB m = (waysB m.ends 4 2 [] && (m.feet.drop 0).all footMay && brksFrom m.feet.length 0 (m.brks.drop 0)) := by
        have a1 : decide (1 ≤ m.feet.length) = true := decide_eq_true (by omega)
        have a2 : decide (m.feet.length ≤ 16) = true := decide_eq_true (by omega)
        unfold mayB; rw [a1, a2]; simp only [Bool.true_and, List.drop_zero]
      rw [hm] at hR0
      generalize hW1 : w.alloc (.cells #[.slice Af m.feet.length cf, .slice Ae m.ends.length ce, .slice Ab m.brks.length cb] 27) = W1
      have sW1 : W1.heap.size = w.heap.size + 1 := by rw [← hW1]; simp
      have hB1 : Below w.heap.size w W1 := by rw [← hW1]; exact (Below.refl _ _).alloc (Nat.le_refl _) _
      have m0 : W1.cell? ⟨w.heap.size, 0, none⟩ = some (.slice Af m.feet.length cf) := by rw [← hW1]; simp
      have m1 : W1.cell? ⟨w.heap.size, 1, none⟩ = some (.slice Ae m.ends.length ce) := by rw [← hW1]; simp
      have m2 : W1.cell? ⟨w.heap.size, 2, none⟩ = some (.slice Ab m.brks.length cb) := by rw [← hW1]; simp
      have HM := Lib.hid (H.out.on hB1)
      have HW1 := Lib.hid hW1
      have Hkeep := Lib.hid fun (W2 : World) (hb2 : Below W1.heap.size W1 W2) => And.intro ((hb2.cell (p := ⟨w.heap.size, 0, none⟩) (by show w.heap.size < W1.heap.size; omega)).trans m0) (And.intro ((hb2.cell (p := ⟨w.heap.size, 1, none⟩) (by show w.heap.size < W1.heap.size; omega)).trans m1) ((hb2.cell (p := ⟨w.heap.size, 2, none⟩) (by show w.heap.size < W1.heap.size; omega)).trans m2))
      have hwe := waysC_any Ae none ce 0 m.ends 4 2 [] W1 HM.out.ends hel HM.out.ce (fun hl => absurd hl (by decide)) (by decide) HM.out.bd.ends.2
      have HR0 := Lib.hid hR0
      have HB1 := Lib.hid hB1
      simp only [List.length_nil] at hwe
      generalize waysB m.ends 4 2 [] = E at hwe HR0
      clear hW1 hm hR0 m0 m1 m2 hB1
      go_enter Tryd.func56, Tryd.ntmps56
      go_wp2_with fail
      rw [HW1.out]
      refine hwe.mono ?_
      rintro e w2 ⟨rfl, hb2⟩
      obtain ⟨q0, q1, q2⟩ := Hkeep.out _ hb2
      have Hb2 := Lib.hid hb2
      clear hwe hb2
      cases E with
      | false =>
        go_wp2_with fail
        go_ret
        exact ⟨ret_int (by rw [HR0.out]; rfl), HB1.out.trans (Hb2.out.mono (by omega))⟩
      | true =>
        go_wp2_with fail
        go_loopw [27] (fun i wr => ∃ k : Nat, k ≤ m.feet.length ∧ i = .int .i64 k ∧ Hid (R = (if ((m.feet.drop k).all footMay && brksFrom m.feet.length 0 (m.brks.drop 0)) then 0 else 2)) ∧ Hid (Below W1.heap.size W1 wr)) (fun i _ => m.feet.length - (intOf i).toNat)
        case atStart => exact ⟨0, by omega, rfl, Lib.hid (by rw [HR0.out]; rfl), Hb2⟩
        case round =>
          rename_i wr
          obtain ⟨k, hk, rfl, hRk, hbl⟩ := hrel
          clear HR0 Hb2 q0 q1 q2
          obtain ⟨q0, q1, q2⟩ := Hkeep.out _ hbl.out
          by_cases hlt : k < m.feet.length
          · obtain ⟨b, off, rfl, hbb, hrow⟩ := (HM.out.below hbl.out).feet (by omega)
            obtain ⟨hc1, A2, c2, hc2, hcc, hIW⟩ := hrow k hlt
            have Hst := Lib.hid (hRk.out.trans (by rw [all_step m.feet footMay k hlt]))
            have hmem : m.feet.getD k default ∈ m.feet := by
              rw [List.getD_eq_getElem?_getD, List.getElem?_eq_getElem hlt]; exact List.getElem_mem hlt
            obtain ⟨bw, bo, bv⟩ := H.out.bd.ways _ hmem
            have hbs := hbl.out.size
            clear hrow hmem
            generalize m.feet.getD k default = f at *
            obtain ⟨own, ways⟩ := f
            simp only [] at hc1 hc2 hcc hIW bw bo bv
            have hfm : footMay ⟨own, ways⟩ = (signsB own 1 4 && waysB ways 15 4 [own]) := rfl
            rw [hfm] at Hst
            generalize hW3 : wr.alloc (.cells #[.string own, .slice A2 ways.length c2] 81) = W3
            have sW3 : W3.heap.size = wr.heap.size + 1 := by rw [← hW3]; simp
            have hB3 : Below W1.heap.size W1 W3 := by rw [← hW3]; exact hbl.out.alloc hbs _
            have e1 : W3.cell? ⟨wr.heap.size, 0, none⟩ = some (.string own) := by rw [← hW3]; simp
            have e2 : W3.cell? ⟨wr.heap.size, 1, none⟩ = some (.slice A2 ways.length c2) := by rw [← hW3]; simp
            have hB3' : Below wr.heap.size wr W3 := by rw [← hW3]; exact (Below.refl _ _).alloc (Nat.le_refl _) _
            have hsg := signs_any own 4 W3 bo
            generalize hW4 : W3.alloc (.cells #[.string own] 9) = W4
            have sW4 : W4.heap.size = W3.heap.size + 1 := by rw [← hW4]; simp
            have hB4 : Below W3.heap.size W3 W4 := by rw [← hW4]; exact (Below.refl _ _).alloc (Nat.le_refl _) _
            have hB34 := hB3'.trans (hB4.mono (by omega))
            have hst1 : IsStrs W4 W4.heap.size (some ⟨W3.heap.size, 0, none⟩) [own] := fun _ => ⟨W3.heap.size, 0, rfl, by omega, fun j hj => by
              obtain rfl : j = 0 := by simp at hj; omega
              rw [← hW4]; simp⟩
            have hwc := waysC_any A2 (some ⟨W3.heap.size, 0, none⟩) c2 1 ways 15 4 [own] W4 ((hIW.below (hB34.mono (by omega))).more (by omega)) bw hcc hst1 (by simp) bv
            simp only [List.length_cons, List.length_nil, Nat.zero_add, sW3] at hwc
            have HW3 := Lib.hid hW3
            have HW4 := Lib.hid hW4
            have HB4 := Lib.hid (hB3.trans (hB4.mono (by omega)))
            have HB3 := Lib.hid hB3
            generalize signsB own 1 4 = S at hsg Hst
            generalize waysB ways 15 4 [own] = T at hwc Hst
            have Hwc := Lib.hid hwc
            clear hW3 hW4 hfm hst1 hwc hB3 hB3' hB4 hB34 hIW bv
            go_wp2_with fail
            rw [HW3.out]
            refine hsg.mono ?_
            rintro e w' ⟨rfl, rfl⟩
            cases S with
            | false =>
              go_wp2_with fail
              go_ret
              exact ⟨ret_int (by rw [Hst.out]; rfl), HB1.out.trans (HB3.out.mono (by omega))⟩
            | true =>
              go_wp2_with fail
              rw [HW4.out]
              refine Hwc.out.mono ?_
              rintro e w5 ⟨rfl, hb5⟩
              have Hb5 := Lib.hid (HB4.out.trans (hb5.mono (by omega)))
              clear hb5
              cases T with
              | false =>
                go_wp2_with fail
                go_ret
                exact ⟨ret_int (by rw [Hst.out]; rfl), HB1.out.trans (Hb5.out.mono (by omega))⟩
              | true =>
                go_wp2_with fail
                go_roundw
                case rel => exact ⟨k + 1, by omega, by go_num, Lib.hid (by rw [Hst.out]; rfl), Hb5⟩
                case measure => simp [intOf]; omega
          · obtain rfl : k = m.feet.length := by omega
            have HR1 : Hid (R = (if brksFrom m.feet.length 0 (m.brks.drop 0) then 0 else 2)) := Lib.hid (by rw [hRk.out, List.drop_length]; rfl)
            clear hRk
            go_wp2_with fail
            obtain ⟨wo, hwo⟩ : ∃ wo : World, wo = wr := ⟨_, rfl⟩
            subst hwo
            go_loopw [5, 48] (fun a i wr2 => ∃ (k : Nat) (af : Int), k ≤ m.brks.length ∧ i = .int .i64 k ∧ a = .int .i64 af ∧ Hid (R = (if brksFrom m.feet.length af (m.brks.drop k) then 0 else 2)) ∧ Hid (Below W1.heap.size W1 wr2)) (fun _ i _ => m.brks.length - (intOf i).toNat)
            case atStart => exact ⟨0, 0, by omega, rfl, rfl, HR1, hbl⟩
            case round =>
              obtain ⟨k, af, hk, rfl, rfl, hRk, hbl2⟩ := hrel
              clear HR1 q0 q1 q2
              obtain ⟨q0, q1, q2⟩ := Hkeep.out _ hbl2.out
              by_cases hlt : k < m.brks.length
              · obtain ⟨b, off, rfl, hbb, hrow⟩ := (HM.out.below hbl2.out).brks (by omega)
                obtain ⟨hc1, hc2⟩ := hrow k hlt
                have Hst := Lib.hid (hRk.out.trans (by rw [brksFrom_step m.feet.length af m.brks k hlt]))
                have hbs := hbl2.out.size
                clear hrow
                generalize m.brks.getD k default = x at *
                obtain ⟨xa, xc⟩ := x
                simp only [] at hc1 hc2 Hst
                have hne : w.heap.size < wr.heap.size := by omega
                have r0 : (wr.alloc (.cells #[.int .i64 xa, .int .i64 xc] 98)).cell? ⟨w.heap.size, 0, none⟩ = some (.slice Af m.feet.length cf) := (((Below.refl wr.heap.size wr).alloc (Nat.le_refl _) _).cell (p := ⟨w.heap.size, 0, none⟩) hne).trans q0
                have Hb3 : Hid (Below W1.heap.size W1 (wr.alloc (.cells #[.int .i64 xa, .int .i64 xc] 98))) := Lib.hid (hbl2.out.alloc hbs _)
                by_cases g1 : xa ≤ af
                · go_wp2_with fail
                  go_ret
                  exact ⟨ret_int (by rw [Hst.out]; simp; omega), HB1.out.trans (Hb3.out.mono (by omega))⟩
                · by_cases g2 : (m.feet.length : Int) ≤ xa
                  · go_wp2_with fail
                    go_ret
                    exact ⟨ret_int (by rw [Hst.out]; simp; omega), HB1.out.trans (Hb3.out.mono (by omega))⟩
                  · by_cases g3 : xc < 1
                    · go_wp2_with fail
                      go_ret
                      exact ⟨ret_int (by rw [Hst.out]; simp; omega), HB1.out.trans (Hb3.out.mono (by omega))⟩
                    · by_cases g4 : 1048576 < xc
                      · go_wp2_with fail
                        go_ret
                        exact ⟨ret_int (by rw [Hst.out]; simp; omega), HB1.out.trans (Hb3.out.mono (by omega))⟩
                      · go_wp2_with fail
                        go_roundw
                        case rel => exact ⟨k + 1, xa, by omega, by go_num, rfl, Lib.hid (by rw [Hst.out]; have e1 : decide (af < xa) = true := decide_eq_true (by omega); have e2 : decide (xa < (m.feet.length : Int)) = true := decide_eq_true (by omega); have e3 : decide (1 ≤ xc) = true := decide_eq_true (by omega); have e4 : decide (xc ≤ 1048576) = true := decide_eq_true (by omega); rw [e1, e2, e3, e4]; rfl), Hb3⟩
                        case measure => simp [intOf]; omega
              · obtain rfl : k = m.brks.length := by omega
                go_wp2_with fail
                go_ret
                exact ⟨ret_int (by rw [hRk.out, List.drop_length]; rfl), HB1.out.trans (hbl2.out.mono (by omega))⟩
end Go.Proofs.YtkfkkoefpfmjkaaDoor

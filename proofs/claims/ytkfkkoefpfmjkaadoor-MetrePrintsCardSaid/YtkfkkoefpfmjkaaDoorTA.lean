import Derived.Test.YtkfkkoefpfmjkaaDoorSA
import Derived.Laws.StructEq
namespace Go.Proofs.YtkfkkoefpfmjkaaDoor
set_option linter.unusedVariables false
set_option linter.unusedSimpArgs false
open Go.RowKit

/- Sameness. -/
def eqL {α : Type} [DecidableEq α] (a b : List α) : Bool := decide (a = b)
theorem eqL_len {α : Type} [DecidableEq α] {a b : List α} (h : ¬ a.length = b.length) : eqL a b = false := decide_eq_false fun e => h (by rw [e])
theorem eqL_miss {α : Type} [DecidableEq α] [Inhabited α] {a b : List α} (k : Nat) (h : ¬ a.getD k default = b.getD k default) : eqL a b = false := decide_eq_false fun e => h (by rw [e])
theorem eqL_all {α : Type} [DecidableEq α] [Inhabited α] {a b : List α} (hl : a.length = b.length) (h : a.take a.length = b.take a.length) : eqL a b = true := decide_eq_true (by
  rw [List.take_length] at h; rw [h, hl, List.take_length])
theorem take_eq_succ {α : Type} [Inhabited α] {a b : List α} {k : Nat} (h : a.take k = b.take k) (ha : k < a.length) (hb : k < b.length) (e : a.getD k default = b.getD k default) : a.take (k + 1) = b.take (k + 1) := by
  rw [take_snoc' a k ha, take_snoc' b k hb, h, e]
theorem str_ne {a b : ByteArray} (h : ¬ a = b) : (a.toList == b.toList) = false := by
  cases hq : (a.toList == b.toList) with
  | false => rfl
  | true => exact absurd (eqS_true hq) h

set_option maxRecDepth 100000 in
set_option maxHeartbeats 8000000 in
theorem variants_any (A B : Option Addr) (c d : Nat) (l r : List (ByteArray × Int)) (w : World) (hl : IsWays w w.heap.size A l) (hr : IsWays w w.heap.size B r) (hb1 : l.length ≤ 4611686018427387904) (hb2 : r.length ≤ 4611686018427387904) (hc : l.length ≤ c) (hd : r.length ≤ d) :
    Calls Tryd.prog 50 #[.slice A l.length c, .slice B r.length d] w fun e w' => e = .returned (.bool (eqL l r)) ∧ Below w.heap.size w w' := by
  by_cases hq : l.length = r.length
  · have Hq := Lib.hid hq
    have hi1 : ((l.length : Int) == (r.length : Int)) = true := by simp [hq]
    have HR := Lib.hid hr
    have HL := Lib.hid hl
    clear hr hl hi1
    rw [← hq] at hd ⊢
    clear hq
    go_enter Tryd.func50, Tryd.ntmps50
    go_wp2_with fail
    go_loopw [13] (fun i wr => ∃ k : Nat, k ≤ l.length ∧ i = .int .i64 k ∧ Hid (l.take k = r.take k) ∧ Hid (Below w.heap.size w wr)) (fun i _ => l.length - (intOf i).toNat)
    case atStart => exact ⟨0, by omega, rfl, Lib.hid rfl, Lib.hid (Below.refl _ _)⟩
    case round =>
      rename_i wr
      obtain ⟨k, hk, rfl, ht, hbl⟩ := hrel
      by_cases hlt : k < l.length
      · obtain ⟨b, off, rfl, hbb, hrow⟩ := (HL.out.below hbl.out) (by omega)
        obtain ⟨b2, off2, rfl, hbb2, hrow2⟩ := (HR.out.below hbl.out) (by rw [← Hq.out]; omega)
        obtain ⟨c1, c2⟩ := hrow k hlt
        obtain ⟨d1, d2⟩ := hrow2 k (by rw [← Hq.out]; omega)
        have Hmiss := Lib.hid (eqL_miss (a := l) (b := r) k)
        have Hstep := Lib.hid (take_eq_succ ht.out hlt (by rw [← Hq.out]; omega))
        have hki : (k : Int) < (l.length : Int) := by omega
        have hk0 : (0 : Int) ≤ (k : Int) := by omega
        clear hrow hrow2
        generalize l.getD k default = v at *
        generalize r.getD k default = u at *
        obtain ⟨v1, v2⟩ := v
        obtain ⟨u1, u2⟩ := u
        simp only [] at c1 c2 d1 d2
        by_cases he : v1 = u1
        · by_cases he2 : v2 = u2
          · have Hs := Lib.hid (Hstep.out (by rw [he, he2]))
            subst he; subst he2
            clear Hstep Hmiss
            go_wp2_with fail
            go_quiet (fail)
            go_wp2_with fail
            go_roundw
            case rel => exact ⟨k + 1, by omega, by go_num, Hs, Lib.hid (belowD hbl.out _)⟩
            case measure => simp [intOf]; omega
          · have Hm := Lib.hid (Hmiss.out (by intro e; exact he2 (Prod.mk.inj e).2))
            have hx2 : (v2 == u2) = false := by simpa using he2
            subst he
            clear Hstep Hmiss he2
            go_wp2_with fail
            go_quiet (fail)
            go_wp2_with fail
            go_ret
            exact ⟨by rw [Hm.out]; rfl, belowD hbl.out _⟩
        · have Hm := Lib.hid (Hmiss.out (by intro e; exact he (Prod.mk.inj e).1))
          have hx1 : (v1.toList == u1.toList) = false := str_ne he
          clear Hstep Hmiss he
          go_wp2_with fail
          go_quiet (fail)
          go_wp2_with fail
          go_ret
          exact ⟨by rw [Hm.out]; rfl, belowD hbl.out _⟩
      · obtain rfl : k = l.length := by omega
        have Ha := Lib.hid (eqL_all Hq.out ht.out)
        go_wp2_with fail
        go_ret
        exact ⟨by rw [Ha.out]; rfl, hbl.out⟩
  · have Hm := Lib.hid (eqL_len hq)
    have hi1 : ((l.length : Int) == (r.length : Int)) = false := by simp; omega
    clear hl hr
    go_enter Tryd.func50, Tryd.ntmps50
    go_wp2_with fail
    go_ret
    exact ⟨by rw [Hm.out]; rfl, Below.refl _ _⟩

set_option maxRecDepth 100000 in
set_option maxHeartbeats 8000000 in
theorem eqways_any (A B : Option Addr) (c d : Nat) (l r : List (ByteArray × Int)) (w : World) (hl : IsWays w w.heap.size A l) (hr : IsWays w w.heap.size B r) (hb1 : l.length ≤ 4611686018427387904) (hb2 : r.length ≤ 4611686018427387904) (hc : l.length ≤ c) (hd : r.length ≤ d) :
    Calls Tryd.prog 55 #[.slice A l.length c, .slice B r.length d] w fun e w' => e = .returned (.bool (eqL l r)) ∧ Below w.heap.size w w' := by
  by_cases hq : l.length = r.length
  · have Hq := Lib.hid hq
    have hi1 : ((l.length : Int) == (r.length : Int)) = true := by simp [hq]
    have HR := Lib.hid hr
    have HL := Lib.hid hl
    clear hr hl hi1
    rw [← hq] at hd ⊢
    clear hq
    go_enter Tryd.func55, Tryd.ntmps55
    go_wp2_with fail
    go_loopw [13] (fun i wr => ∃ k : Nat, k ≤ l.length ∧ i = .int .i64 k ∧ Hid (l.take k = r.take k) ∧ Hid (Below w.heap.size w wr)) (fun i _ => l.length - (intOf i).toNat)
    case atStart => exact ⟨0, by omega, rfl, Lib.hid rfl, Lib.hid (Below.refl _ _)⟩
    case round =>
      rename_i wr
      obtain ⟨k, hk, rfl, ht, hbl⟩ := hrel
      by_cases hlt : k < l.length
      · obtain ⟨b, off, rfl, hbb, hrow⟩ := (HL.out.below hbl.out) (by omega)
        obtain ⟨b2, off2, rfl, hbb2, hrow2⟩ := (HR.out.below hbl.out) (by rw [← Hq.out]; omega)
        obtain ⟨c1, c2⟩ := hrow k hlt
        obtain ⟨d1, d2⟩ := hrow2 k (by rw [← Hq.out]; omega)
        have Hmiss := Lib.hid (eqL_miss (a := l) (b := r) k)
        have Hstep := Lib.hid (take_eq_succ ht.out hlt (by rw [← Hq.out]; omega))
        have hki : (k : Int) < (l.length : Int) := by omega
        have hk0 : (0 : Int) ≤ (k : Int) := by omega
        clear hrow hrow2
        generalize l.getD k default = v at *
        generalize r.getD k default = u at *
        obtain ⟨v1, v2⟩ := v
        obtain ⟨u1, u2⟩ := u
        simp only [] at c1 c2 d1 d2
        by_cases he : v1 = u1
        · by_cases he2 : v2 = u2
          · have Hs := Lib.hid (Hstep.out (by rw [he, he2]))
            subst he; subst he2
            clear Hstep Hmiss
            go_wp2_with fail
            go_quiet (fail)
            go_wp2_with fail
            go_roundw
            case rel => exact ⟨k + 1, by omega, by go_num, Hs, Lib.hid (belowD hbl.out _)⟩
            case measure => simp [intOf]; omega
          · have Hm := Lib.hid (Hmiss.out (by intro e; exact he2 (Prod.mk.inj e).2))
            have hx2 : (v2 == u2) = false := by simpa using he2
            subst he
            clear Hstep Hmiss he2
            go_wp2_with fail
            go_quiet (fail)
            go_wp2_with fail
            go_ret
            exact ⟨by rw [Hm.out]; rfl, belowD hbl.out _⟩
        · have Hm := Lib.hid (Hmiss.out (by intro e; exact he (Prod.mk.inj e).1))
          have hx1 : (v1.toList == u1.toList) = false := str_ne he
          clear Hstep Hmiss he
          go_wp2_with fail
          go_quiet (fail)
          go_wp2_with fail
          go_ret
          exact ⟨by rw [Hm.out]; rfl, belowD hbl.out _⟩
      · obtain rfl : k = l.length := by omega
        have Ha := Lib.hid (eqL_all Hq.out ht.out)
        go_wp2_with fail
        go_ret
        exact ⟨by rw [Ha.out]; rfl, hbl.out⟩
  · have Hm := Lib.hid (eqL_len hq)
    have hi1 : ((l.length : Int) == (r.length : Int)) = false := by simp; omega
    clear hl hr
    go_enter Tryd.func55, Tryd.ntmps55
    go_wp2_with fail
    go_ret
    exact ⟨by rw [Hm.out]; rfl, Below.refl _ _⟩

set_option maxRecDepth 100000 in
set_option maxHeartbeats 8000000 in
theorem eqbrks_any (A B : Option Addr) (c d : Nat) (l r : List (Int × Int)) (w : World) (hl : IsBrks w w.heap.size A l) (hr : IsBrks w w.heap.size B r) (hb1 : l.length ≤ 4611686018427387904) (hb2 : r.length ≤ 4611686018427387904) (hc : l.length ≤ c) (hd : r.length ≤ d) :
    Calls Tryd.prog 58 #[.slice A l.length c, .slice B r.length d] w fun e w' => e = .returned (.bool (eqL l r)) ∧ Below w.heap.size w w' := by
  by_cases hq : l.length = r.length
  · have Hq := Lib.hid hq
    have hi1 : ((l.length : Int) == (r.length : Int)) = true := by simp [hq]
    have HR := Lib.hid hr
    have HL := Lib.hid hl
    clear hr hl hi1
    rw [← hq] at hd ⊢
    clear hq
    go_enter Tryd.func58, Tryd.ntmps58
    go_wp2_with fail
    go_loopw [13] (fun i wr => ∃ k : Nat, k ≤ l.length ∧ i = .int .i64 k ∧ Hid (l.take k = r.take k) ∧ Hid (Below w.heap.size w wr)) (fun i _ => l.length - (intOf i).toNat)
    case atStart => exact ⟨0, by omega, rfl, Lib.hid rfl, Lib.hid (Below.refl _ _)⟩
    case round =>
      rename_i wr
      obtain ⟨k, hk, rfl, ht, hbl⟩ := hrel
      by_cases hlt : k < l.length
      · obtain ⟨b, off, rfl, hbb, hrow⟩ := (HL.out.below hbl.out) (by omega)
        obtain ⟨b2, off2, rfl, hbb2, hrow2⟩ := (HR.out.below hbl.out) (by rw [← Hq.out]; omega)
        obtain ⟨c1, c2⟩ := hrow k hlt
        obtain ⟨d1, d2⟩ := hrow2 k (by rw [← Hq.out]; omega)
        have Hmiss := Lib.hid (eqL_miss (a := l) (b := r) k)
        have Hstep := Lib.hid (take_eq_succ ht.out hlt (by rw [← Hq.out]; omega))
        have hki : (k : Int) < (l.length : Int) := by omega
        have hk0 : (0 : Int) ≤ (k : Int) := by omega
        clear hrow hrow2
        generalize l.getD k default = v at *
        generalize r.getD k default = u at *
        obtain ⟨v1, v2⟩ := v
        obtain ⟨u1, u2⟩ := u
        simp only [] at c1 c2 d1 d2
        by_cases he : v1 = u1
        · by_cases he2 : v2 = u2
          · have Hs := Lib.hid (Hstep.out (by rw [he, he2]))
            subst he; subst he2
            clear Hstep Hmiss
            go_wp2_with fail
            go_quiet (fail)
            go_wp2_with fail
            go_roundw
            case rel => exact ⟨k + 1, by omega, by go_num, Hs, Lib.hid (belowD hbl.out _)⟩
            case measure => simp [intOf]; omega
          · have Hm := Lib.hid (Hmiss.out (by intro e; exact he2 (Prod.mk.inj e).2))
            have hx2 : (v2 == u2) = false := by simpa using he2
            subst he
            clear Hstep Hmiss he2
            go_wp2_with fail
            go_quiet (fail)
            go_wp2_with fail
            go_ret
            exact ⟨by rw [Hm.out]; rfl, belowD hbl.out _⟩
        · have Hm := Lib.hid (Hmiss.out (by intro e; exact he (Prod.mk.inj e).1))
          have hx1 : (v1 == u1) = false := (fun h => by simpa using h) he
          clear Hstep Hmiss he
          go_wp2_with fail
          go_quiet (fail)
          go_wp2_with fail
          go_ret
          exact ⟨by rw [Hm.out]; rfl, belowD hbl.out _⟩
      · obtain rfl : k = l.length := by omega
        have Ha := Lib.hid (eqL_all Hq.out ht.out)
        go_wp2_with fail
        go_ret
        exact ⟨by rw [Ha.out]; rfl, hbl.out⟩
  · have Hm := Lib.hid (eqL_len hq)
    have hi1 : ((l.length : Int) == (r.length : Int)) = false := by simp; omega
    clear hl hr
    go_enter Tryd.func58, Tryd.ntmps58
    go_wp2_with fail
    go_ret
    exact ⟨by rw [Hm.out]; rfl, Below.refl _ _⟩

end Go.Proofs.YtkfkkoefpfmjkaaDoor

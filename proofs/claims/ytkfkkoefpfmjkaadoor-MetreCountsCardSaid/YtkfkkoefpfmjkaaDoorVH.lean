import Derived.Test.YtkfkkoefpfmjkaaDoorVG
import Derived.Test.YtkfkkoefpfmjkaaDoorVE
namespace Go.Proofs.YtkfkkoefpfmjkaaDoor
set_option linter.unusedVariables false
set_option linter.unusedSimpArgs false
open Go.RowKit

/- The reference's Least. -/
theorem signs_size {v : ByteArray} {lo hi : Int} (h : signsB v lo hi = true) : lo ≤ (v.size : Int) ∧ (v.size : Int) ≤ hi := by
  unfold signsB at h
  simp only [Bool.and_eq_true, decide_eq_true_eq] at h
  exact ⟨h.2.1, h.2.2⟩
theorem opts_signs {m : Met} (h : mayB m = true) : ∀ l ∈ optsP m, ∀ v ∈ l, v.1.size ≤ 1000 := by
  intro l hl v hv
  unfold mayB at h
  simp only [Bool.and_eq_true, decide_eq_true_eq] at h
  obtain ⟨⟨⟨⟨_, _⟩, h3⟩, h4⟩, _⟩ := h
  unfold optsP at hl
  rw [List.mem_append] at hl
  rcases hl with hl | hl
  · obtain ⟨f, hf, rfl⟩ := List.mem_map.1 hl
    have h5 := List.all_eq_true.1 h4 f hf
    unfold footMay waysB at h5
    simp only [Bool.and_eq_true, decide_eq_true_eq] at h5
    rcases List.mem_cons.1 hv with rfl | hv
    · have := signs_size h5.1; show f.own.size ≤ 1000; omega
    · have := signs_size (waysFrom_all h5.2.2 v hv).2.2; omega
  · have hl' : l = (⟨#[]⟩, 0) :: m.ends := by simpa using hl
    subst hl'
    unfold waysB at h3
    simp only [Bool.and_eq_true, decide_eq_true_eq] at h3
    rcases List.mem_cons.1 hv with rfl | hv
    · decide
    · have := signs_size (waysFrom_all h3.2 v hv).2.2; omega
def refLeastP (m : Met) (s : ByteArray) : Cell := if 66 < s.size then (0, 0) else restR (optsP m) s.data.toList
set_option maxRecDepth 100000 in
set_option maxHeartbeats 4000000 in
theorem refleast_any (Af Ae Ab : Option Addr) (cf ce cb : Nat) (m : Met) (s : ByteArray) (w : World) (h : IsMet w w.heap.size Af Ae Ab cf ce cb m) (hm : mayB m = true) (hs : s.size ≤ 9223372036854775807) :
    Calls Tryd.prog 24 #[.agg #[.slice Af m.feet.length cf, .slice Ae m.ends.length ce, .slice Ab m.brks.length cb], .string s] w fun e w' =>
      e = .returned (.tuple #[.int .i64 (refLeastP m s).1, .int .i64 (refLeastP m s).2]) ∧ Below w.heap.size w w' := by
  generalize hR : refLeastP m s = R
  have HR := Lib.hid hR
  clear hR
  generalize hW1 : w.alloc (.cells #[.slice Af m.feet.length cf, .slice Ae m.ends.length ce, .slice Ab m.brks.length cb] 27) = W1
  have hB1 : Below w.heap.size w W1 := by rw [← hW1]; exact (Below.refl _ _).alloc (Nat.le_refl _) _
  have sW1 : W1.heap.size = w.heap.size + 1 := by rw [← hW1]; simp
  have HM := Lib.hid (h.on hB1)
  have HW1 := Lib.hid hW1
  have HB1 := Lib.hid hB1
  have Hm := Lib.hid hm
  clear h hW1 hB1 hm
  go_enter Tryd.func24, Tryd.ntmps24
  by_cases h66 : 66 < s.size
  · have Hl : Hid (refLeastP m s = (0, 0)) := Lib.hid (by unfold refLeastP; rw [if_pos h66])
    go_wp2_with fail
    rw [HW1.out]
    go_ret2
    exact ⟨by rw [← HR.out, Hl.out]; rfl, HB1.out⟩
  · have Hl : Hid (refLeastP m s = restR (optsP m) s.data.toList) := Lib.hid (by unfold refLeastP; rw [if_neg h66])
    have Hop := Lib.hid (choices_any Af Ae Ab cf ce cb m W1 HM.out (small_of Hm.out))
    go_wp2_with fail
    rw [HW1.out]
    refine Hop.out.mono ?_
    rintro e w3 ⟨v, vs, rfl, hor, hb3⟩
    obtain ⟨A3, c3, rfl, hc3, hrw⟩ := hor.isRows
    obtain ⟨ho1, ho2⟩ := opts_small Hm.out
    have hre := states_any A3 c3 (optsP m) s w3 hrw hc3 (by rw [optsP_len]; omega) ho1 (by omega) ho2 (opts_signs Hm.out)
    have Hre := Lib.hid hre
    have Hb3 := Lib.hid hb3
    have Hrt := Lib.hid (show restT (optsP m) s 0 0 = restR (optsP m) s.data.toList from rfl)
    clear hor hc3 hrw ho1 ho2 hre hb3
    go_wp2_with fail
    refine Hre.out.mono ?_
    rintro e w4 ⟨rfl, hmem, hb4⟩
    have o1 := hmem.oc 0 (by omega)
    have o2 := hmem.t1 0 0 (by omega) (by omega)
    have o3 := hmem.t2 0 0 (by omega) (by omega)
    simp only [Nat.add_zero, Nat.zero_mul] at o1 o2 o3
    rw [Hrt.out] at o2 o3
    have Hb4 := Lib.hid (Hb3.out.trans (hb4.mono Hb3.out.size))
    generalize restR (optsP m) s.data.toList = C at *
    obtain ⟨c1, c2⟩ := C
    simp only [] at o2 o3 Hl
    clear hmem hb4
    go_wp2_with fail
    go_quiet (fail)
    go_wp2_with fail
    go_ret2
    exact ⟨by rw [← HR.out, Hl.out]; rfl, HB1.out.trans ((belowD (Hb4.out.alloc Hb4.out.size _) nq).mono (by omega))⟩
end Go.Proofs.YtkfkkoefpfmjkaaDoor
namespace Go.Proofs.YtkfkkoefpfmjkaaDoor
set_option linter.unusedVariables false
set_option linter.unusedSimpArgs false
open Go.RowKit

/- The first choice: plain; patterns compared. -/
abbrev St := Nat × Int × List Int
def nextB (rows : List (List Way)) (s : ByteArray) (i : Nat) (st : St) (v : Way) : Bool :=
  Lib.hasPrefix (s.data.toList.drop st.1) v.1.data.toList && (decide (0 < (restT rows s (i + 1) (st.1 + v.1.size)).2) && decide ((restT rows s (i + 1) (st.1 + v.1.size)).1 + v.2 = st.2.1))
/-- the first way from number k on that will do -/
def pickS (rows : List (List Way)) (s : ByteArray) (i : Nat) : List Way → Nat → St → St
  | [], _, st => st
  | v :: l, k, st => if nextB rows s i st v then (st.1 + v.1.size, (restT rows s (i + 1) (st.1 + v.1.size)).1, st.2.2 ++ [(k : Int)]) else pickS rows s i l (k + 1) st
def firstTo (rows : List (List Way)) (s : ByteArray) (c0 : Int) : Nat → St
  | 0 => (0, c0, [])
  | i + 1 => pickS rows s i (rows.getD i []) 0 (firstTo rows s c0 i)
theorem pickS_step (rows : List (List Way)) (s : ByteArray) (i : Nat) (l : List Way) (k : Nat) (st : St) (h : k < l.length) :
    pickS rows s i (l.drop k) k st = if nextB rows s i st (l.getD k default) then (st.1 + (l.getD k default).1.size, (restT rows s (i + 1) (st.1 + (l.getD k default).1.size)).1, st.2.2 ++ [(k : Int)]) else pickS rows s i (l.drop (k + 1)) (k + 1) st := by
  rw [drop_cons l k h]; rfl
theorem pickS_end (rows : List (List Way)) (s : ByteArray) (i : Nat) (l : List Way) (st : St) : pickS rows s i (l.drop l.length) l.length st = st := by
  rw [List.drop_length]; rfl
def intCells (l : List Int) : List Value := l.map (.int .i64)
def IsInts (w : World) (B : Nat) (A : Option Addr) (l : List Int) : Prop :=
  0 < l.length → ∃ b off, A = some ⟨b, off, none⟩ ∧ b < B ∧ ∀ k, k < l.length → w.cell? ⟨b, off + k, none⟩ = some (.int .i64 (l.getD k 0))
theorem IsInts.below {w w' : World} {B : Nat} {A : Option Addr} {l : List Int} (h : IsInts w B A l) (hb : Below B w w') : IsInts w' B A l := fun hl => by
  obtain ⟨b, off, e, hbb, hn⟩ := h hl
  exact ⟨b, off, e, hbb, fun k hk => (hb.cell (p := ⟨b, _, none⟩) hbb).trans (hn k hk)⟩
theorem IsInts.more {w : World} {B B' : Nat} {A : Option Addr} {l : List Int} (h : IsInts w B A l) (hB : B ≤ B') : IsInts w B' A l := fun hl => by
  obtain ⟨b, off, e, hb, hn⟩ := h hl
  exact ⟨b, off, e, by omega, hn⟩
def sameTo (a b : List Int) (k : Nat) : Bool := (a.take k) == (b.take k)
theorem sameTo_succ (a b : List Int) (k : Nat) (ha : k < a.length) (hb : k < b.length) : sameTo a b (k + 1) = (sameTo a b k && (a.getD k 0 == b.getD k 0)) := by
  unfold sameTo
  have e1 : a.take (k + 1) = a.take k ++ [a.getD k 0] := by rw [List.take_succ_eq_append_getElem ha]; simp [List.getD_eq_getElem?_getD, ha]
  have e2 : b.take (k + 1) = b.take k ++ [b.getD k 0] := by rw [List.take_succ_eq_append_getElem hb]; simp [List.getD_eq_getElem?_getD, hb]
  rw [e1, e2, Bool.eq_iff_iff]
  simp only [beq_iff_eq, Bool.and_eq_true]
  constructor
  · intro h; have := List.append_inj' h rfl; exact ⟨this.1, by simpa using this.2⟩
  · rintro ⟨h, h2⟩; rw [h, h2]
theorem same_miss (a b : List Int) (k : Nat) (ha : k < a.length) (hb : k < b.length) (h : (a.getD k 0 == b.getD k 0) = false) : sameTo a b a.length = false := by
  unfold sameTo
  rw [List.take_length]
  cases hq : (a == b.take a.length) with
  | false => rfl
  | true =>
    have e : a = b.take a.length := by simpa using hq
    have e2 : a.getD k 0 = b.getD k 0 := by
      conv => lhs; rw [e]
      simp only [List.getD_eq_getElem?_getD, List.getElem?_take, if_pos ha]
    rw [e2] at h
    simp at h
def patB (s1 : ByteArray) (c1 : Int) (l1 : List Int) (s2 : ByteArray) (c2 : Int) (l2 : List Int) : Bool := (s1.toList == s2.toList) && (c1 == c2) && (l1.length == l2.length) && (l1 == l2)
set_option maxRecDepth 100000 in
set_option maxHeartbeats 4000000 in
theorem pattern_any (s1 s2 : ByteArray) (n1 n2 : Int) (A1 A2 : Option Addr) (k1 k2 : Nat) (l1 l2 : List Int) (w : World) (h1 : IsInts w w.heap.size A1 l1) (h2 : IsInts w w.heap.size A2 l2) (b1 : l1.length ≤ 100) (b2 : l2.length ≤ 100) (q1 : l1.length ≤ k1) (q2 : l2.length ≤ k2) :
    Calls Tryd.prog 27 #[.agg #[.string s1, .int .i64 n1, .slice A1 l1.length k1], .agg #[.string s2, .int .i64 n2, .slice A2 l2.length k2]] w fun e w' => e = .returned (.bool (patB s1 n1 l1 s2 n2 l2)) ∧ Below w.heap.size w w' := by
  have hb : Below w.heap.size w ((w.alloc (.cells #[.string s1, .int .i64 n1, .slice A1 l1.length k1] 52)).alloc (.cells #[.string s2, .int .i64 n2, .slice A2 l2.length k2] 52)) := ((Below.refl _ w).alloc (Nat.le_refl _) _).alloc (by simp) _
  have Hb := Lib.hid hb
  have H1 := Lib.hid (h1.below hb)
  have H2 := Lib.hid (h2.below hb)
  clear h1 h2 hb
  cases e1 : (s1.toList == s2.toList) with
  | false =>
    have e1' : (s1.toList != s2.toList) = true := by simp [bne, e1]
    have Hp : Hid (patB s1 n1 l1 s2 n2 l2 = false) := Lib.hid (by unfold patB; rw [e1]; rfl)
    go_enter Tryd.func27, Tryd.ntmps27
    go_wp2_with fail
    go_ret
    exact ⟨ret_bool Hp.out.symm, Hb.out⟩
  | true =>
    have e1' : (s1.toList != s2.toList) = false := by simp [bne, e1]
    cases e2 : (n1 == n2) with
    | false =>
      have e2' : (n1 != n2) = true := by simp [bne, e2]
      have Hp : Hid (patB s1 n1 l1 s2 n2 l2 = false) := Lib.hid (by unfold patB; rw [e1, e2]; rfl)
      go_enter Tryd.func27, Tryd.ntmps27
      go_wp2_with fail
      go_ret
      exact ⟨ret_bool Hp.out.symm, Hb.out⟩
    | true =>
      have e2' : (n1 != n2) = false := by simp [bne, e2]
      by_cases e3 : l1.length = l2.length
      · have Hp : Hid (patB s1 n1 l1 s2 n2 l2 = sameTo l1 l2 l1.length) := Lib.hid (by unfold patB sameTo; rw [e1, e2]; simp [e3]; rw [← e3, List.take_length])
        have hN2 : l2.length = l1.length := e3.symm
        have e3' : ((l1.length : Int) != (l2.length : Int)) = false := by simp; omega
        generalize hW0 : (w.alloc (.cells #[.string s1, .int .i64 n1, .slice A1 l1.length k1] 52)).alloc (.cells #[.string s2, .int .i64 n2, .slice A2 l2.length k2] 52) = W0
        have u1 : W0.cell? ⟨w.heap.size, 2, none⟩ = some (.slice A1 l1.length k1) := by rw [← hW0]; simp
        have u2 : W0.cell? ⟨w.heap.size + 1, 2, none⟩ = some (.slice A2 l2.length k2) := by rw [← hW0]; simp
        rw [hW0] at H1 H2 Hb
        have HW0 := Lib.hid hW0
        have HN2 := Lib.hid hN2
        clear hW0 e3 hN2
        go_enter Tryd.func27, Tryd.ntmps27
        go_wp2_with fail
        rw [HW0.out]
        go_loopw [30] (fun i wr => ∃ (k q : Nat), k ≤ l1.length ∧ i = .int .i64 k ∧ Hid (sameTo l1 l2 k = true) ∧ Hid (wr = W0.drewN q)) (fun i _ => l1.length - (intOf i).toNat)
        case atStart => exact ⟨0, 0, by omega, rfl, Lib.hid rfl, Lib.hid rfl⟩
        case round =>
          obtain ⟨k, q, hk, rfl, hs, hw⟩ := hrel
          have hw' := hw.out
          subst hw'
          by_cases hlt : k < l1.length
          · have hlt2 : k < l2.length := by rw [HN2.out]; exact hlt
            obtain ⟨b1', o1, rfl, hbb1, hc1⟩ := H1.out (by omega)
            obtain ⟨b2', o2, rfl, hbb2, hc2⟩ := H2.out (by omega)
            have g1 : (W0.drewN q).cell? ⟨b1', o1 + k, none⟩ = some (.int .i64 (l1.getD k 0)) := hc1 k hlt
            have g2 : (W0.drewN q).cell? ⟨b2', o2 + k, none⟩ = some (.int .i64 (l2.getD k 0)) := hc2 k hlt2
            have v1 : (W0.drewN q).cell? ⟨w.heap.size, 2, none⟩ = some (.slice (some ⟨b1', o1, none⟩) l1.length k1) := u1
            have v2 : (W0.drewN q).cell? ⟨w.heap.size + 1, 2, none⟩ = some (.slice (some ⟨b2', o2, none⟩) l2.length k2) := u2
            have Hss := Lib.hid (sameTo_succ l1 l2 k hlt hlt2)
            have Hmis := Lib.hid (fun (h : (l1.getD k 0 == l2.getD k 0) = false) => same_miss l1 l2 k hlt hlt2 h)
            have i1 : (0 : Int) ≤ (k : Int) := by omega
            have i2 : (k : Int) < (l1.length : Int) := by omega
            have i3 : (k : Int) < (l2.length : Int) := by omega
            have hwq : Below w.heap.size w (W0.drewN q) := belowD Hb.out q
            have Hwq := Lib.hid hwq
            clear hc1 hc2 u1 u2 hwq
            generalize l1.getD k 0 = x1 at *
            generalize l2.getD k 0 = x2 at *
            have hdr : ∀ p, (W0.drewN q).drewN p = W0.drewN (q + p) := fun p => by rw [World.drewN_drewN]
            have Hdr := Lib.hid hdr
            clear hdr
            generalize hWW : W0.drewN q = WW at *
            have HWW := Lib.hid hWW
            clear hWW
            cases hx : (x1 == x2) with
            | true =>
              have hx' : (x1 != x2) = false := by simp [bne, hx]
              have Hs2 : Hid (sameTo l1 l2 (k + 1) = true) := Lib.hid (by rw [Hss.out, hs.out, hx]; rfl)
              go_wp2_with fail
              go_quiet (fail)
              go_wp2_with fail
              go_roundw
              case rel => exact ⟨k + 1, q + nq, by omega, by go_num, Hs2, Lib.hid (by rw [← Hdr.out])⟩
              case measure => simp [intOf]; omega
            | false =>
              have hx' : (x1 != x2) = true := by simp [bne, hx]
              have Hs2 : Hid (sameTo l1 l2 l1.length = false) := Lib.hid (Hmis.out hx)
              go_wp2_with fail
              go_quiet (fail)
              go_wp2_with fail
              go_ret
              exact ⟨ret_bool (by rw [Hp.out, Hs2.out]), belowD Hwq.out nq⟩
          · obtain rfl : k = l1.length := by omega
            go_wp2_with fail
            go_ret
            exact ⟨ret_bool (by rw [Hp.out, hs.out]), belowD Hb.out q⟩
      · have e3' : ((l1.length : Int) != (l2.length : Int)) = true := by simp; omega
        have Hp : Hid (patB s1 n1 l1 s2 n2 l2 = false) := Lib.hid (by unfold patB; simp [e3])
        go_enter Tryd.func27, Tryd.ntmps27
        go_wp2_with fail
        go_ret
        exact ⟨ret_bool Hp.out.symm, Hb.out⟩
end Go.Proofs.YtkfkkoefpfmjkaaDoor

import Derived.Test.YtjlncnjmcgkkhaaB2
import Derived.Test.YtjlncnjmcgkkhaaFf
namespace Go.Proofs.Ytjlncnjmcgkkhaa
set_option linter.unusedVariables false
set_option linter.unusedSimpArgs false
open Go.RowKit
attribute [local go_sem] run_store_float run_fadd

/- Sounding, Most: how many notes sound. -/
theorem belowD {B : Nat} {a w : World} (h : Below B a w) (n : Nat) : Below B a (w.drewN n) := ⟨h.os, h.tape, h.output, h.size, h.block⟩

def begun (x : Note) (t : Nat) : Bool := FloatKind.f64.format.order x.at_ t == some .lt || FloatKind.f64.format.order x.at_ t == some .eq
def lasts (x : Note) (t : Nat) : Bool := FloatKind.f64.format.order (fv .add x.at_ x.long) t == some .gt
def cnt (x : Note) (t : Nat) : Bool := begun x t && lasts x t
def sndN (l : List Note) (t : Nat) : Nat := (l.filter fun x => cnt x t).length
def sound (vs : List (List Note)) (t : Nat) : Nat := (vs.map fun l => sndN l t).sum
theorem sndN_le (l : List Note) (t : Nat) : sndN l t ≤ l.length := List.length_filter_le _ _
theorem sndN_take (l : List Note) (t j : Nat) (h : j < l.length) : sndN (l.take (j + 1)) t = sndN (l.take j) t + if cnt (l.getD j default) t then 1 else 0 := by
  unfold sndN
  rw [List.take_succ_eq_append_getElem h, List.filter_append, List.length_append, List.getD_eq_getElem?_getD, List.getElem?_eq_getElem h]
  simp only [List.filter_cons, List.filter_nil, Option.getD_some]
  split <;> simp
theorem sound_take (vs : List (List Note)) (t k : Nat) (h : k < vs.length) : sound (vs.take (k + 1)) t = sound (vs.take k) t + sndN (vs.getD k []) t := by
  unfold sound
  rw [List.take_succ_eq_append_getElem h, List.map_append, List.sum_append]
  simp [List.getD_eq_getElem?_getD, h]
theorem sound_le (vs : List (List Note)) (t : Nat) : sound vs t ≤ total vs := by
  unfold sound total
  induction vs with
  | nil => simp
  | cons l vs ih => simp only [List.map_cons, List.sum_cons]; have := sndN_le l t; omega
theorem lasts_at (x : Note) (t : Nat) (w : World) : (FloatKind.f64.format.order (fres .add x.at_ x.long w) t == some .gt) = lasts x t := by
  have : Ieee.double.order (fres .add x.at_ x.long w) t = Ieee.double.order (fv .add x.at_ x.long) t := (fres_feq .add x.at_ x.long w).order (FEq.refl t)
  show (Ieee.double.order _ t == some .gt) = _
  rw [this]; rfl

set_option maxRecDepth 100000 in
set_option maxHeartbeats 4000000 in
theorem sounding_any (A : Option Addr) (c : Nat) (vs : List (List Note)) (t : Nat) (w : World) (hv : IsVoices w w.heap.size A vs) (hl1 : vs.length ≤ 4611686018427387904) (hl2 : total vs ≤ 4611686018427387904) :
    Calls Try.prog 22 #[.slice A vs.length c, .float .f64 t] w fun e w' => e = .returned (.int .i64 (sound vs t : Nat)) ∧ Below w.heap.size w w' := by
  have ht' : ∀ k, sound (vs.take k) t ≤ 4611686018427387904 := fun k => Nat.le_trans (sound_le _ _) (Nat.le_trans (total_take_le vs k) hl2)
  have htt : ∀ k, total (vs.take k) ≤ 4611686018427387904 := fun k => Nat.le_trans (total_take_le vs k) hl2
  have hst : ∀ k, sound (vs.take k) t ≤ total (vs.take k) := fun k => sound_le _ _
  have Ht := Lib.hid ht'
  have Htt := Lib.hid htt
  have Hst := Lib.hid hst
  clear ht' htt hst
  go_enter Try.func22, Try.ntmps22
  go_wp2_with fail
  go_loopw [5, 12] (fun s i wr => ∃ k : Nat, k ≤ vs.length ∧ i = .int .i64 k ∧ s = .int .i64 (sound (vs.take k) t : Nat) ∧ Below w.heap.size w wr) (fun _ i _ => vs.length - (intOf i).toNat)
  case atStart => exact ⟨0, by omega, rfl, rfl, Below.refl _ _⟩
  case round =>
    obtain ⟨k, hk, rfl, rfl, hbl⟩ := hrel
    by_cases hlt : k < vs.length
    · obtain ⟨b, off, rfl, hb, hn⟩ := hv (by omega)
      obtain ⟨A', c', hc, _, hi⟩ := hn k hlt
      have hc1 := (hbl.cell (p := ⟨b, off + k, none⟩) hb).trans hc
      have h2 := Ht.out (k + 1)
      have h3 := sound_take vs t k hlt
      have h4 := total_take vs k hlt
      have h5 := Htt.out (k + 1)
      have h6 := Hst.out k
      have h7 : sound (vs.take k) t + (vs.getD k []).length ≤ 4611686018427387904 := by omega
      have H3 := Lib.hid h3
      clear hn hc h2 h3 h4 h5 h6
      generalize vs.getD k [] = lk at *
      generalize hS : sound (vs.take k) t = S at *
      have HS := Lib.hid hS
      clear hS
      go_wp2_with fail
      go_loopw [5, 18] (fun s i wx => ∃ j : Nat, j ≤ lk.length ∧ i = .int .i64 j ∧ s = .int .i64 ((S + sndN (lk.take j) t : Nat) : Int) ∧ Below w.heap.size w wx) (fun _ i _ => lk.length - (intOf i).toNat)
      case atStart => exact ⟨0, by omega, rfl, rfl, hbl⟩
      case round =>
        clear hbl hc1 hb
        obtain ⟨j, hj, rfl, rfl, hbl⟩ := hrel
        by_cases hjl : j < lk.length
        · obtain ⟨b', off', rfl, hb', hnt⟩ := hi (by omega)
          obtain ⟨c0, c1, c2, c3, c4, c5⟩ := (hnt j hjl).keep hb' (keepOf hbl)
          have hs := sndN_take lk t j hjl
          have hj2 := sndN_le (lk.take j) t
          rw [List.length_take] at hj2
          have hj3 : S + sndN (lk.take j) t + 1 ≤ 4611686018427387904 := by omega
          have Hs := Lib.hid hs
          clear hs hnt hj2
          generalize lk.getD j default = nt at *
          generalize hQ : S + sndN (lk.take j) t = Q at *
          have HQ := Lib.hid hQ
          clear hQ
          have hbs := hbl.size
          cases hbg : begun nt t
          · have hcn : cnt nt t = false := by unfold cnt; rw [hbg]; rfl
            have Hcn := Lib.hid hcn
            have hbg' : (FloatKind.f64.format.order nt.at_ t == some .lt || FloatKind.f64.format.order nt.at_ t == some .eq) = false := hbg
            simp only [Bool.or_eq_false_iff] at hbg'
            obtain ⟨g1, g2⟩ := hbg'
            clear hcn hbg
            go_wp2_with fail
            go_roundw
            case rel => exact ⟨j + 1, by omega, by go_num, by rw [Hs.out, Hcn.out, ← Nat.add_assoc, HQ.out]; rfl, hbl.alloc hbs _⟩
            case measure => simp [intOf]; omega
          · have hl := fun W => lasts_at nt t W
            cases hla : lasts nt t
            · have hcn : cnt nt t = false := by unfold cnt; rw [hbg, hla]; rfl
              rw [hla] at hl
              have Hcn := Lib.hid hcn
              have hbg' : (FloatKind.f64.format.order nt.at_ t == some .lt || FloatKind.f64.format.order nt.at_ t == some .eq) = true := hbg
              have hbg2 : FloatKind.f64.format.order nt.at_ t = some .lt ∨ FloatKind.f64.format.order nt.at_ t = some .eq := by simpa using hbg'
              clear hcn hbg hbg' hla
              rcases hbg2 with g1 | g1
              all_goals
                go_wp2_with fail
                go_roundw
                case rel => exact ⟨j + 1, by omega, by go_num, by rw [Hs.out, Hcn.out, ← Nat.add_assoc, HQ.out]; rfl, belowD (hbl.alloc hbs _) _⟩
                case measure => simp [intOf]; omega
            · have hcn : cnt nt t = true := by unfold cnt; rw [hbg, hla]; rfl
              rw [hla] at hl
              have Hcn := Lib.hid hcn
              have hbg' : (FloatKind.f64.format.order nt.at_ t == some .lt || FloatKind.f64.format.order nt.at_ t == some .eq) = true := hbg
              have hbg2 : FloatKind.f64.format.order nt.at_ t = some .lt ∨ FloatKind.f64.format.order nt.at_ t = some .eq := by simpa using hbg'
              clear hcn hbg hbg' hla
              rcases hbg2 with g1 | g1
              all_goals
                go_wp2_with fail
                go_roundw
                case rel => exact ⟨j + 1, by omega, by go_num, by rw [Hs.out, Hcn.out, ← Nat.add_assoc, HQ.out]; rfl, belowD (hbl.alloc hbs _) _⟩
                case measure => simp [intOf]; omega
        · obtain rfl : j = lk.length := by omega
          go_wp2_with fail
          go_roundw
          case rel => exact ⟨k + 1, by omega, by go_num, by rw [H3.out, List.take_length], hbl⟩
          case measure => simp [intOf]; omega
    · obtain rfl : k = vs.length := by omega
      go_wp2_with fail
      go_ret
      exact ⟨by rw [List.take_length]; rfl, hbl⟩

set_option maxRecDepth 100000 in
set_option maxHeartbeats 4000000 in
theorem refsounding_any (A : Option Addr) (c : Nat) (vs : List (List Note)) (t : Nat) (w : World) (hv : IsVoices w w.heap.size A vs) (hl1 : vs.length ≤ 4611686018427387904) (hl2 : total vs ≤ 4611686018427387904) :
    Calls Try.prog 23 #[.slice A vs.length c, .float .f64 t] w fun e w' => e = .returned (.int .i64 (sound vs t : Nat)) ∧ Below w.heap.size w w' := by
  have ht' : ∀ k, sound (vs.take k) t ≤ 4611686018427387904 := fun k => Nat.le_trans (sound_le _ _) (Nat.le_trans (total_take_le vs k) hl2)
  have htt : ∀ k, total (vs.take k) ≤ 4611686018427387904 := fun k => Nat.le_trans (total_take_le vs k) hl2
  have hst : ∀ k, sound (vs.take k) t ≤ total (vs.take k) := fun k => sound_le _ _
  have Ht := Lib.hid ht'
  have Htt := Lib.hid htt
  have Hst := Lib.hid hst
  clear ht' htt hst
  go_enter Try.func23, Try.ntmps23
  go_wp2_with fail
  go_loopw [5, 12] (fun s i wr => ∃ k : Nat, k ≤ vs.length ∧ i = .int .i64 k ∧ s = .int .i64 (sound (vs.take k) t : Nat) ∧ Below w.heap.size w wr) (fun _ i _ => vs.length - (intOf i).toNat)
  case atStart => exact ⟨0, by omega, rfl, rfl, Below.refl _ _⟩
  case round =>
    obtain ⟨k, hk, rfl, rfl, hbl⟩ := hrel
    by_cases hlt : k < vs.length
    · obtain ⟨b, off, rfl, hb, hn⟩ := hv (by omega)
      obtain ⟨A', c', hc, _, hi⟩ := hn k hlt
      have hc1 := (hbl.cell (p := ⟨b, off + k, none⟩) hb).trans hc
      have h2 := Ht.out (k + 1)
      have h3 := sound_take vs t k hlt
      have h4 := total_take vs k hlt
      have h5 := Htt.out (k + 1)
      have h6 := Hst.out k
      have h7 : sound (vs.take k) t + (vs.getD k []).length ≤ 4611686018427387904 := by omega
      have H3 := Lib.hid h3
      clear hn hc h2 h3 h4 h5 h6
      generalize vs.getD k [] = lk at *
      generalize hS : sound (vs.take k) t = S at *
      have HS := Lib.hid hS
      clear hS
      go_wp2_with fail
      go_loopw [5, 18] (fun s i wx => ∃ j : Nat, j ≤ lk.length ∧ i = .int .i64 j ∧ s = .int .i64 ((S + sndN (lk.take j) t : Nat) : Int) ∧ Below w.heap.size w wx) (fun _ i _ => lk.length - (intOf i).toNat)
      case atStart => exact ⟨0, by omega, rfl, rfl, hbl⟩
      case round =>
        clear hbl hc1 hb
        obtain ⟨j, hj, rfl, rfl, hbl⟩ := hrel
        by_cases hjl : j < lk.length
        · obtain ⟨b', off', rfl, hb', hnt⟩ := hi (by omega)
          obtain ⟨c0, c1, c2, c3, c4, c5⟩ := (hnt j hjl).keep hb' (keepOf hbl)
          have hs := sndN_take lk t j hjl
          have hj2 := sndN_le (lk.take j) t
          rw [List.length_take] at hj2
          have hj3 : S + sndN (lk.take j) t + 1 ≤ 4611686018427387904 := by omega
          have Hs := Lib.hid hs
          clear hs hnt hj2
          generalize lk.getD j default = nt at *
          generalize hQ : S + sndN (lk.take j) t = Q at *
          have HQ := Lib.hid hQ
          clear hQ
          have hbs := hbl.size
          cases hbg : begun nt t
          · have hcn : cnt nt t = false := by unfold cnt; rw [hbg]; rfl
            have Hcn := Lib.hid hcn
            have hbg' : (FloatKind.f64.format.order nt.at_ t == some .lt || FloatKind.f64.format.order nt.at_ t == some .eq) = false := hbg
            simp only [Bool.or_eq_false_iff] at hbg'
            obtain ⟨g1, g2⟩ := hbg'
            clear hcn hbg
            go_wp2_with fail
            go_roundw
            case rel => exact ⟨j + 1, by omega, by go_num, by rw [Hs.out, Hcn.out, ← Nat.add_assoc, HQ.out]; rfl, hbl.alloc hbs _⟩
            case measure => simp [intOf]; omega
          · have hl := fun W => lasts_at nt t W
            cases hla : lasts nt t
            · have hcn : cnt nt t = false := by unfold cnt; rw [hbg, hla]; rfl
              rw [hla] at hl
              have Hcn := Lib.hid hcn
              have hbg' : (FloatKind.f64.format.order nt.at_ t == some .lt || FloatKind.f64.format.order nt.at_ t == some .eq) = true := hbg
              have hbg2 : FloatKind.f64.format.order nt.at_ t = some .lt ∨ FloatKind.f64.format.order nt.at_ t = some .eq := by simpa using hbg'
              clear hcn hbg hbg' hla
              rcases hbg2 with g1 | g1
              all_goals
                go_wp2_with fail
                go_roundw
                case rel => exact ⟨j + 1, by omega, by go_num, by rw [Hs.out, Hcn.out, ← Nat.add_assoc, HQ.out]; rfl, belowD (hbl.alloc hbs _) _⟩
                case measure => simp [intOf]; omega
            · have hcn : cnt nt t = true := by unfold cnt; rw [hbg, hla]; rfl
              rw [hla] at hl
              have Hcn := Lib.hid hcn
              have hbg' : (FloatKind.f64.format.order nt.at_ t == some .lt || FloatKind.f64.format.order nt.at_ t == some .eq) = true := hbg
              have hbg2 : FloatKind.f64.format.order nt.at_ t = some .lt ∨ FloatKind.f64.format.order nt.at_ t = some .eq := by simpa using hbg'
              clear hcn hbg hbg' hla
              rcases hbg2 with g1 | g1
              all_goals
                go_wp2_with fail
                go_roundw
                case rel => exact ⟨j + 1, by omega, by go_num, by rw [Hs.out, Hcn.out, ← Nat.add_assoc, HQ.out]; rfl, belowD (hbl.alloc hbs _) _⟩
                case measure => simp [intOf]; omega
        · obtain rfl : j = lk.length := by omega
          go_wp2_with fail
          go_roundw
          case rel => exact ⟨k + 1, by omega, by go_num, by rw [H3.out, List.take_length], hbl⟩
          case measure => simp [intOf]; omega
    · obtain rfl : k = vs.length := by omega
      go_wp2_with fail
      go_ret
      exact ⟨by rw [List.take_length]; rfl, hbl⟩
end Go.Proofs.Ytjlncnjmcgkkhaa

import Derived.Test.YtjlncnjmcgkkhaaR5
namespace Go.Proofs.Ytjlncnjmcgkkhaa
set_option linter.unusedVariables false
set_option linter.unusedSimpArgs false
open Go.RowKit
attribute [local go_sem] run_store_float run_fadd run_fsub run_fmul run_fquo

/- ChantRounds: the law's walk where the round may be. -/
set_option maxRecDepth 100000 in
set_option maxHeartbeats 4000000 in
theorem chantrounds_yes (A : Option Addr) (c n delay : Nat) (l : List Note) (w : World) (hn : IsNotes w w.heap.size A l) (hc : l.length ≤ c) (hl : l.length ≤ 65536)
    (hv1 : 1 ≤ n) (hv2 : n ≤ 16) (hf : Fl.finB delay = true) (hd : (FloatKind.f64.format.order delay 0 == some .lt) = false) :
    Calls Try.prog 6 #[.slice A l.length c, .int .i64 n, .float .f64 delay] w fun e w' => e = .returned (.bool true) ∧ Below w.heap.size w w' := by
  have Hfew := Lib.hid fun W => few_any A c l W hc (by omega)
  have Hn := Lib.hid (hn.take 200)
  have hlen : (l.take 200).length ≤ 200 := by simp; omega
  have hlc : (l.take 200).length ≤ c := by simp; omega
  have hprod : (l.take 200).length * n ≤ 65536 := Nat.le_trans (Nat.mul_le_mul hlen hv2) (by omega)
  have HR := Lib.hid fun A c W hW => refround_yes A c n delay (l.take 200) W hW hv1 hv2 hf hd hprod (by omega)
  have HG := Lib.hid fun A c W hW => round_yes A c n delay (l.take 200) W hW hv1 hv2 hf hd hprod (by omega)
  clear hn hf hd hprod
  generalize l.take 200 = l' at *
  have hls : ∀ j, ((fun j => lateL (lateV j delay) l') j).length = l'.length := fun j => lateL_length _ _
  have Hls := Lib.hid hls
  clear hls
  have hne : ((n : Int) != (n : Int)) = false := by simp
  go_enter Try.func6, Try.ntmps6
  go_wp2_with fail
  refine (wakes_any _).mono ?_
  rintro e w1 ⟨rfl, hb1⟩
  go_wp2_with fail
  refine (Hfew.out _).mono ?_
  rintro e w2 ⟨rfl, rfl⟩
  go_wp2_with fail
  have n1 := Hn.out.later hb1
  refine (HR.out A c _ n1).mono ?_
  rintro e w2 ⟨v2, rfl, hm2, hb2⟩
  obtain ⟨A2, c2, rfl⟩ : ∃ A c, v2 = .slice A n c := by obtain ⟨us, h1, _⟩ := hm2; exact own_slice h1
  have M2 := Lib.hid hm2.from0
  have N2 := Lib.hid (n1.later hb2)
  have hB2 := hb1.trans (hb2.mono hb1.size)
  clear n1 hb2 hm2 hb1
  go_wp2_with fail
  refine (room_any A c l' _ N2.out (by omega)).mono ?_
  rintro e w3 ⟨g, rfl, hfull, hb3⟩
  have M3 := Lib.hid (M2.out.below hb3)
  have N3 := Lib.hid (N2.out.later hb3)
  have G3 := Lib.hid (own_whole hfull)
  have hB3 := hB2.trans (hb3.mono hB2.size)
  clear hfull N2 hb3 hB2 M2
  go_wp2_with fail
  refine (HG.out _ _ _ (full_notes G3.out)).mono ?_
  rintro e w4 ⟨v4, rfl, hm4, hb4⟩
  obtain ⟨A4, c4, rfl⟩ : ∃ A c, v4 = .slice A n c := by obtain ⟨us, h1, _⟩ := hm4; exact own_slice h1
  have P4 := Lib.hid hm4.from0
  have M4 := Lib.hid (M3.out.below hb4)
  have N4 := Lib.hid (N3.out.later hb4)
  have G4 := Lib.hid (heap_keep G3.out hb4)
  have C4 : Below w3.heap.size w3 w4 := hb4
  clear hb4 hm4
  go_wp2_with fail
  refine (stayed_true g c A l' _ G4.out N4.out (by omega)).mono ?_
  rintro e w8 ⟨rfl, hb8⟩
  have P8 := Lib.hid (P4.out.below hb8)
  have C8 := C4.trans (hb8.mono C4.size)
  clear hb8 P4 M4 N4 G4 C4
  go_wp2_with fail
  go_loopw [57] (fun i wr => ∃ k : Nat, k ≤ n ∧ i = .int .i64 k ∧ MadeFrom (fun j => lateL (lateV j delay) l') w3.heap.size n k (.slice A4 n c4) wr ∧ Below w3.heap.size w3 wr) (fun i _ => n - (intOf i).toNat)
  case atStart => exact ⟨0, by omega, rfl, P8.out, C8⟩
  case round =>
    obtain ⟨wx, rfl⟩ : ∃ wx : World, wx = wr := ⟨_, rfl⟩
    clear C8
    obtain ⟨k, hk, rfl, hmf, hbx⟩ := hrel
    by_cases hlt : k < n
    · obtain ⟨g2, cap2, A5, c5, lo5, hv5, hg2, hc2, he5, hc5, hn5⟩ := made_at Hls.out M3.out hlt
      injection hv5 with q1 q2 q3
      subst q1 q3
      obtain ⟨us, hu1, hu2⟩ := hmf
      obtain ⟨u, lo, e1, e2, e3, _⟩ := hu2 k (by omega) hlt
      obtain ⟨g4, cap4, hv6, hB4, hg4⟩ := own_form hu1 (by omega)
      injection hv6 with q1 q2' q3
      subst q1 q3
      have hl : lo.length = l'.length := e2.1.trans (Hls.out k)
      have e3' : wx.ownsRow w3.heap.size 37 6 u l'.length (notesCells lo) := by rw [← Hls.out k]; exact e3
      obtain ⟨A6, c6, rfl, hc6, hn6⟩ := notes_row e3' hl
      rw [hl] at hc6
      have hl5 : lo5.length = l'.length := he5.1.trans (Hls.out k)
      have d1 : wx.cell? ⟨g4, k, none⟩ = some (.slice A6 l'.length c6) := by rw [← hl]; exact (hu1.cellAt k (by omega)).trans e1
      have d2 : wx.cell? ⟨g2, k, none⟩ = some (.slice A5 l'.length c5) := (hbx.cell (p := ⟨g2, k, none⟩) hg2).trans hc2
      have hnt := fun (W : World) (hW : Below wx.heap.size wx W) => notes_true A6 A5 c6 c5 lo lo5 W (hn6.later hW) ((hn5.below (hbx.trans (hW.mono hbx.size))).more (Nat.le_trans hbx.size hW.size)) (by omega) (by omega) (nsEq_eqN e2 he5)
      rw [hl, hl5] at hnt
      have Hnt := Lib.hid hnt
      have E1 := Lib.hid e1
      have U1 := Lib.hid hu1
      have U2 := Lib.hid hu2
      have E3 := Lib.hid e3'
      have hgx : g4 < wx.heap.size := hg4
      have hgx2 : g2 < wx.heap.size := Nat.lt_of_lt_of_le hg2 hbx.size
      have i1 : (0 : Int) ≤ (k : Int) := by omega
      have i2 : (k : Int) < (n : Int) := by omega
      have Hl := Lib.hid hl
      have Hhl5 := Lib.hid hl5
      clear hnt e1 hu1 hu2 e3 e3' he5 hn5 hn6 e2 q2 q2' hc2 hl hl5
      go_wp2_with fail
      go_region_held3 (fun w' => Below wx.heap.size wx w' ∧ ∀ b o, b < wx.heap.size → w'.cell? ⟨b, o, none⟩ = wx.cell? ⟨b, o, none⟩) (((repeat (apply keepS; assumption)); exact startS)) (first | (go_at_call 18; refine (Hnt.out _ (by first | exact startS.1 | exact And.left (by assumption))).mono ?_; rintro e w9 ⟨rfl, hb9⟩))
      have hS : Below wx.heap.size wx w9 := And.left (by assumption)
      have f1 : w9.cell? ⟨g4, k, none⟩ = some (.slice A6 l'.length c6) := (hS.cell (p := ⟨g4, k, none⟩) hgx).trans d1
      have Hsp := Lib.hid (spoil_any (.slice A6 l'.length c6) l'.length w3.heap.size lo w9 (own_below (by have := E3.out; rw [Hl.out] at this; exact this) hS) (Nat.le_trans hbx.size hS.size) (by omega))
      go_wp2_with fail
      refine (Hsp.out).mono ?_
      rintro e w10 ⟨rfl, hg10⟩
      go_wp2_with fail
      go_roundw
      case rel =>
        refine ⟨k + 1, by omega, by go_num, MadeFrom.spoilt (own_below U1.out hS) (fun j h1 h2 => ?_) (by have := E1.out; rw [Hl.out] at this; exact this) hlt hg10, (hbx.trans (hS.mono hbx.size)).grown hg10 (Nat.le_trans hbx.size hS.size) (fun b hb => (own_block E3.out b (by rw [Hl.out]; exact hb)).1)⟩
        obtain ⟨u, lo, q1, q2, q3, q4⟩ := U2.out j h1 h2
        exact ⟨u, lo, q1, q2, own_below q3 hS, q4⟩
      case measure => simp [intOf]; omega
    · obtain rfl : k = n := by omega
      have hB9 := hB3.trans (hbx.mono hB3.size)
      have N9 := Lib.hid ((N3.out.below hbx).more hbx.size)
      have G9 := Lib.hid (heap_keep G3.out hbx)
      go_wp2_with fail
      refine (stayed_true g c A l' _ G9.out N9.out (by omega)).mono ?_
      rintro e w9 ⟨rfl, hb9⟩
      have hB10 := hB9.trans (hb9.mono hB9.size)
      go_wp2_with fail
      refine (wakes_any _).mono ?_
      rintro e w10 ⟨rfl, hb10⟩
      go_wp2_with fail
      go_ret
      exact ⟨rfl, hB10.trans (hb10.mono hB10.size)⟩
end Go.Proofs.Ytjlncnjmcgkkhaa

import Derived.Test.YtjlncnjmcgkkhaaC8
import Derived.Deep.RegionHeld3
namespace Go.Proofs.Ytjlncnjmcgkkhaa
set_option linter.unusedVariables false
set_option linter.unusedSimpArgs false
open Go.RowKit
attribute [local go_sem] run_store_float

theorem IsVoices.more {w : World} {B B' : Nat} {A : Option Addr} {vs : List (List Note)} (h : IsVoices w B A vs) (hB : B ≤ B') : IsVoices w B' A vs := fun hl => by
  obtain ⟨b, off, e, hb, hn⟩ := h hl
  refine ⟨b, off, e, by omega, fun k hk => ?_⟩
  obtain ⟨A', c', h1, h2, h3⟩ := hn k hk
  exact ⟨A', c', h1, h2, h3.more hB⟩
/-- voices read so in a later world -/
theorem IsVoices.later {w w' : World} {A : Option Addr} {vs : List (List Note)} (h : IsVoices w w.heap.size A vs) (hb : Below w.heap.size w w') : IsVoices w' w'.heap.size A vs := (h.below hb).more hb.size
theorem IsNotes.later {w w' : World} {A : Option Addr} {l : List Note} (h : IsNotes w w.heap.size A l) (hb : Below w.heap.size w w') : IsNotes w' w'.heap.size A l := (h.below hb).more hb.size

theorem someL_lens (vs : List (List Note)) : (someL vs).length ≤ 17 ∧ ∀ k, ((someL vs).getD k []).length ≤ 60 := by
  refine ⟨by rw [someL_length]; omega, fun k => ?_⟩
  by_cases hk : k < (someL vs).length
  · rw [someL_length] at hk
    rw [someL_get vs k (by omega) (by omega)]; simp; omega
  · rw [List.getD_eq_getElem?_getD, List.getElem?_eq_none (by omega)]; simp
theorem total_le (vs : List (List Note)) (n : Nat) (h : ∀ k, (vs.getD k []).length ≤ n) : total vs ≤ vs.length * n := by
  have : ∀ k, k ≤ vs.length → total (vs.take k) ≤ k * n := by
    intro k
    induction k with
    | zero => intro _; simp [total]
    | succ k ih => intro hk; rw [total_take vs k (by omega)]; have := ih (by omega); have := h k; rw [Nat.succ_mul]; omega
  have := this vs.length (Nat.le_refl _)
  rwa [List.take_length] at this
theorem someL_total (vs : List (List Note)) : total (someL vs) ≤ 1020 := by
  obtain ⟨h1, h2⟩ := someL_lens vs
  have := total_le _ _ h2
  have : (someL vs).length * 60 ≤ 17 * 60 := Nat.mul_le_mul_right _ h1
  omega

theorem sortP_len (us : List (List Note)) : (sortP us (keysTo us us.length)).length = total us := by
  unfold sortP
  rw [(List.mergeSort_perm _ _).length_eq, keysTo_length us us.length (Nat.le_refl _), List.take_length]

set_option maxRecDepth 100000 in
set_option maxHeartbeats 4000000 in
theorem merges_any (A : Option Addr) (c : Nat) (vs : List (List Note)) (w : World) (hv : IsVoices w w.heap.size A vs) (hl : vs.length ≤ 4611686018427387904) :
    Calls Try.prog 4 #[.slice A vs.length c] w fun e w' => e = .returned (.bool true) ∧ Below w.heap.size w w' := by
  have hus1 := (someL_lens vs).1
  have hus2 := (someL_lens vs).2
  have hus3 := someL_total vs
  go_enter Try.func4, Try.ntmps4
  go_wp2_with fail
  refine (wakes_any _).mono ?_
  rintro e w1 ⟨rfl, hb1⟩
  go_wp2_with fail
  refine (some_any A c vs w1 (hv.later hb1) hl).mono ?_
  rintro e w2 ⟨v, rfl, ⟨A2, c2, rfl, hv2⟩, hb2⟩
  generalize someL vs = us at *
  have hb := hb1.trans (hb2.mono hb1.size)
  clear hb1 hb2 hv hl
  go_wp2_with fail
  go_loopw [3, 15] (fun fv i wr => ∃ k : Nat, k ≤ us.length ∧ i = .int .i64 k ∧ FullRel us w2.heap.size k fv wr ∧ Below w2.heap.size w2 wr) (fun _ i _ => us.length - (intOf i).toNat)
  case atStart => exact ⟨0, by omega, rfl, ⟨[], ⟨rfl, .inl ⟨rfl, rfl⟩⟩, by omega⟩, Below.refl _ _⟩
  case round =>
    rename_i wr
    obtain ⟨k, hk, rfl, hrl, hbl⟩ := hrel
    have Hrl := Lib.hid hrl
    clear hrl
    by_cases hlt : k < us.length
    · obtain ⟨b, off, rfl, hbb, hn⟩ := hv2 (by omega)
      obtain ⟨A', c', hc, hcap, hi⟩ := hn k hlt
      have hc1 := (hbl.cell (p := ⟨b, off + k, none⟩) hbb).trans hc
      have h60 := hus2 k
      have hi' := (hi.below hbl).more hbl.size
      have hroom := room_any A' c' (us.getD k []) wr hi' (by omega)
      have Hroom := Lib.hid hroom
      clear hn hc hi' hroom
      generalize hlk : us.getD k [] = lk at *
      have Hlk := Lib.hid hlk
      clear hlk
      go_wp2_with fail
      refine (Hroom.out).mono ?_
      rintro e w3 ⟨g, rfl, hog, hb3⟩
      have hw3 := own_whole hog
      obtain ⟨xs, ho, hx⟩ := Hrl.out.below hb3
      have Hw3 := Lib.hid hw3
      have Hx := Lib.hid hx
      have Ho := Lib.hid ho
      clear hog hw3 hx ho
      have hb23 := hbl.trans (hb3.mono hbl.size)
      have hsz := hb23.size
      go_wp2_with (at_builtin; go_loud (refine wpList_append_boxg _ rfl _ _ 27 rfl w2.heap.size 29 _ _ 1 24 Try.underlying27 info29 zero29 size29 bytes29 rfl (by decide) _ k xs _ w3.heap.size rfl rfl ?c0 (by exact Ho.out) rfl ?c1 ?c2 ?c3 ?c4 ?_); rotate_right; intro v4 w4 hown4 hgr4 _)
      case c0 => rfl
      case c1 => rfl
      case c2 => unfold maxLen; omega
      case c3 => omega
      case c4 => exact hsz
      go_roundw
      case rel => exact ⟨k + 1, by omega, by go_num, FullRel.step Ho.out Hx.out (by rw [Hlk.out]; exact Hw3.out) (by rw [Hlk.out]; exact hown4) hgr4, hb23.grown hgr4 hsz (ownAbove Ho.out)⟩
      case measure => simp [intOf]; omega
    · obtain rfl : k = us.length := by omega
      obtain ⟨Af, cf, rfl, hvf⟩ := full_voices Hrl.out
      have hbw := hb.trans (hbl.mono hb.size)
      cases hlong : longB us
      · have hmg := merge_any Af cf us wr hvf hlong
        have Hmg := Lib.hid hmg
        have Hlong := Lib.hid hlong
        clear hmg hlong
        go_wp2_with fail
        refine (Hmg.out).mono ?_
        rintro e wm ⟨vm, rfl, hom, hbm⟩
        obtain ⟨Am, cm, rfl, hsm⟩ := sung_of_own hom (sortP_len us)
        have Hkl := Lib.hid (sortP_len us)
        have Hsm := Lib.hid hsm
        have Hrm := Lib.hid (Hrl.out.below hbm)
        have Hvm := Lib.hid (hv2.later (hbl.trans (hbm.mono hbl.size)))
        have hbwm := hbw.trans (hbm.mono hbw.size)
        clear hom hsm hbm hbl hv2 hvf Hmg Hrl hb
        go_wp2_with fail
        go_loopw [35] (fun i wx => ∃ k : Nat, k ≤ us.length ∧ i = .int .i64 k ∧ Below wm.heap.size wm wx) (fun i _ => us.length - (intOf i).toNat)
        case atStart => exact ⟨0, by omega, rfl, Below.refl _ _⟩
        case round =>
          obtain ⟨wx, rfl⟩ : ∃ wx : World, wx = wr := ⟨_, rfl⟩
          obtain ⟨k, hk, rfl, hbx⟩ := hrel
          by_cases hlt : k < us.length
          · obtain ⟨b, off, rfl, hbb, hn⟩ := Hvm.out (by omega)
            obtain ⟨A', c', hc, hcap, hi⟩ := hn k hlt
            obtain ⟨xs, ho, hx⟩ := Hrm.out
            obtain ⟨g, hx1, hx2⟩ := hx k hlt
            obtain ⟨gf, capf, hvf, _, hgf⟩ := own_form ho (by omega)
            have Hvf := Lib.hid hvf
            clear hvf
            injection Hvf.out with q1 q2 q3
            subst q1; subst q3
            have hcf : wm.cell? ⟨gf, k, none⟩ = some (.slice (some ⟨g, 0, none⟩) (us.getD k []).length ((us.getD k []).length + 9)) := (ho.cellAt k (by omega)).trans hx1
            have c1 := (hbx.cell (p := ⟨gf, k, none⟩) hgf).trans hcf
            have c2 := (hbx.cell (p := ⟨b, off + k, none⟩) hbb).trans hc
            have c3 := (hbx.cell (p := ⟨g, _, none⟩) (heap_lt hx2)).trans (full_pad hx2)
            have h60 := hus2 k
            have hnf := full_notes hx2
            have hnt := fun (W : World) (hW : Below wx.heap.size wx W) => notes_true (some ⟨g, 0, none⟩) A' ((us.getD k []).length + 9) c' (us.getD k []) (us.getD k []) W (hnf.later (hbx.trans (hW.mono hbx.size))) (hi.later (hbx.trans (hW.mono hbx.size))) rfl (by omega) (fun _ _ => eqN_refl _)
            have Hnt := Lib.hid hnt
            have hgx : gf < wx.heap.size := Nat.lt_of_lt_of_le hgf hbx.size
            have hgx2 : g < wx.heap.size := Nat.lt_of_lt_of_le (heap_lt hx2) hbx.size
            have hbx3 : b < wx.heap.size := Nat.lt_of_lt_of_le hbb hbx.size
            clear hn hc hi ho hx hx1 hx2 hcf hnf hnt q2
            generalize us.getD k [] = lk at *
            go_wp2_with fail
            have s1 : IntKind.i64.wrap ((lk.length : Int) + 1) = (lk.length : Int) + 1 := IntWalk.i64_in _ (by omega)
            have s2 : (0 : Int) ≤ (lk.length : Int) + 1 := by omega
            have s3 : (lk.length : Int) + 1 ≤ (lk.length : Int) + 9 := by omega
            have s4 : ((lk.length : Int) + 1).toNat = lk.length + 1 := by omega
            have s5 : (lk.length : Int) < (lk.length : Int) + 1 := by omega
            go_region_held3 (fun w' => Below wx.heap.size wx w' ∧ ∀ b o, b < wx.heap.size → w'.cell? ⟨b, o, none⟩ = wx.cell? ⟨b, o, none⟩) (((repeat (apply keepS; assumption)); exact startS)) (first | (go_at_call 18; refine (Hnt.out _ (by first | exact startS.1 | exact And.left (by assumption))).mono ?_; rintro e w9 ⟨rfl, hb9⟩))
            have hS : Below wx.heap.size wx w9 := And.left (by assumption)
            clear s1 s2 s3 s4 s5
            go_wp2_with fail
            go_roundw
            case rel => exact ⟨k + 1, by omega, by go_num, hbx.trans (hS.mono hbx.size)⟩
            case measure => simp [intOf]; omega
          · obtain rfl : k = us.length := by omega
            have hbe := hbwm.trans (hbx.mono hbwm.size)
            have hlg := reflong_any A2 c2 us _ wx (Hvm.out.later hbx) (by omega) (by omega)
            rw [Hlong.out] at hlg
            have Hlg := Lib.hid hlg
            clear hlg
            go_wp2_with fail
            refine (Hlg.out).mono ?_
            rintro e wy ⟨rfl, rfl⟩
            go_wp2_with fail
            refine (refmerge_any A2 c2 us wx (Hvm.out.later hbx) (by omega) (by omega)).mono ?_
            rintro e w5 ⟨v5, rfl, ho5, hb5⟩
            obtain ⟨A5, c5, rfl, hs5⟩ := sung_of_own ho5 Hkl.out
            have Hs5 := Lib.hid hs5
            have Hb5 := Lib.hid hb5
            clear ho5 hs5 hb5
            go_wp2_with fail
            refine (sung_true us _ Am A5 cm c5 w5 ((Hsm.out.below (hbx.trans (Hb5.out.mono hbx.size))).more (Nat.le_trans hbx.size Hb5.out.size)) Hs5.out (by rw [Hkl.out]; omega)).mono ?_
            rintro e w6 ⟨rfl, hb6⟩
            go_wp2_with fail
            refine (wakes_any _).mono ?_
            rintro e w7 ⟨rfl, hb7⟩
            go_wp2_with fail
            go_ret
            have hb56 := hbe.trans (Hb5.out.mono hbe.size)
            have hb567 := hb56.trans (hb6.mono hb56.size)
            exact ⟨rfl, hb567.trans (hb7.mono hb567.size)⟩
      · obtain ⟨wm, rfl⟩ : ∃ wm : World, wm = wr := ⟨_, rfl⟩
        have hmg := merge_long Af cf us wm hvf hlong (by omega) (by omega)
        have Hmg := Lib.hid hmg
        have Hlong := Lib.hid hlong
        clear hmg hlong
        go_wp2_with fail
        refine (Hmg.out).mono ?_
        rintro e wm' ⟨rfl, rfl⟩
        have Hrm := Lib.hid Hrl.out
        have Hvm := Lib.hid (hv2.later hbl)
        have hbwm := hbw
        clear hbl hv2 hvf Hmg Hrl hb hbw
        go_wp2_with fail
        go_loopw [35] (fun i wx => ∃ k : Nat, k ≤ us.length ∧ i = .int .i64 k ∧ Below wm.heap.size wm wx) (fun i _ => us.length - (intOf i).toNat)
        case atStart => exact ⟨0, by omega, rfl, Below.refl _ _⟩
        case round =>
          obtain ⟨wx, rfl⟩ : ∃ wx : World, wx = wr := ⟨_, rfl⟩
          obtain ⟨k, hk, rfl, hbx⟩ := hrel
          by_cases hlt : k < us.length
          · obtain ⟨b, off, rfl, hbb, hn⟩ := Hvm.out (by omega)
            obtain ⟨A', c', hc, hcap, hi⟩ := hn k hlt
            obtain ⟨xs, ho, hx⟩ := Hrm.out
            obtain ⟨g, hx1, hx2⟩ := hx k hlt
            obtain ⟨gf, capf, hvf, _, hgf⟩ := own_form ho (by omega)
            have Hvf := Lib.hid hvf
            clear hvf
            injection Hvf.out with q1 q2 q3
            subst q1; subst q3
            have hcf : wm.cell? ⟨gf, k, none⟩ = some (.slice (some ⟨g, 0, none⟩) (us.getD k []).length ((us.getD k []).length + 9)) := (ho.cellAt k (by omega)).trans hx1
            have c1 := (hbx.cell (p := ⟨gf, k, none⟩) hgf).trans hcf
            have c2 := (hbx.cell (p := ⟨b, off + k, none⟩) hbb).trans hc
            have c3 := (hbx.cell (p := ⟨g, _, none⟩) (heap_lt hx2)).trans (full_pad hx2)
            have h60 := hus2 k
            have hnf := full_notes hx2
            have hnt := fun (W : World) (hW : Below wx.heap.size wx W) => notes_true (some ⟨g, 0, none⟩) A' ((us.getD k []).length + 9) c' (us.getD k []) (us.getD k []) W (hnf.later (hbx.trans (hW.mono hbx.size))) (hi.later (hbx.trans (hW.mono hbx.size))) rfl (by omega) (fun _ _ => eqN_refl _)
            have Hnt := Lib.hid hnt
            have hgx : gf < wx.heap.size := Nat.lt_of_lt_of_le hgf hbx.size
            have hgx2 : g < wx.heap.size := Nat.lt_of_lt_of_le (heap_lt hx2) hbx.size
            have hbx3 : b < wx.heap.size := Nat.lt_of_lt_of_le hbb hbx.size
            clear hn hc hi ho hx hx1 hx2 hcf hnf hnt q2
            generalize us.getD k [] = lk at *
            go_wp2_with fail
            have s1 : IntKind.i64.wrap ((lk.length : Int) + 1) = (lk.length : Int) + 1 := IntWalk.i64_in _ (by omega)
            have s2 : (0 : Int) ≤ (lk.length : Int) + 1 := by omega
            have s3 : (lk.length : Int) + 1 ≤ (lk.length : Int) + 9 := by omega
            have s4 : ((lk.length : Int) + 1).toNat = lk.length + 1 := by omega
            have s5 : (lk.length : Int) < (lk.length : Int) + 1 := by omega
            go_region_held3 (fun w' => Below wx.heap.size wx w' ∧ ∀ b o, b < wx.heap.size → w'.cell? ⟨b, o, none⟩ = wx.cell? ⟨b, o, none⟩) (((repeat (apply keepS; assumption)); exact startS)) (first | (go_at_call 18; refine (Hnt.out _ (by first | exact startS.1 | exact And.left (by assumption))).mono ?_; rintro e w9 ⟨rfl, hb9⟩))
            have hS : Below wx.heap.size wx w9 := And.left (by assumption)
            clear s1 s2 s3 s4 s5
            go_wp2_with fail
            go_roundw
            case rel => exact ⟨k + 1, by omega, by go_num, hbx.trans (hS.mono hbx.size)⟩
            case measure => simp [intOf]; omega
          · obtain rfl : k = us.length := by omega
            have hbe := hbwm.trans (hbx.mono hbwm.size)
            have hlg := reflong_any A2 c2 us _ wx (Hvm.out.later hbx) (by omega) (by omega)
            rw [Hlong.out] at hlg
            have Hlg := Lib.hid hlg
            clear hlg
            go_wp2_with fail
            refine (Hlg.out).mono ?_
            rintro e wy ⟨rfl, rfl⟩
            go_wp2_with fail
            refine (wakes_any _).mono ?_
            rintro e w7 ⟨rfl, hb7⟩
            go_wp2_with fail
            go_ret
            exact ⟨rfl, hbe.trans (hb7.mono hbe.size)⟩
end Go.Proofs.Ytjlncnjmcgkkhaa

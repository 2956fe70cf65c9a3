import Derived.Test.YtjlncnjmcgkkhaaE5
import Derived.Test.YtjlncnjmcgkkhaaE7
import Derived.Test.YtjlncnjmcgkkhaaA8
namespace Go.Proofs.Ytjlncnjmcgkkhaa
set_option linter.unusedVariables false
set_option linter.unusedSimpArgs false
open Go.RowKit
attribute [local go_sem] run_store_float run_fadd run_fsub run_fmul run_fquo

/- ChantScales: the law's walk. -/
theorem heap_keep {w w' : World} {g : Nat} {o : Obj} (h : w.heap[g]? = some o) (hb : Below w.heap.size w w') : w'.heap[g]? = some o := (hb.block g (heap_lt h)).trans h

set_option maxRecDepth 100000 in
set_option maxHeartbeats 4000000 in
theorem chantscales_no (A : Option Addr) (c total : Nat) (l : List Note) (w : World) (hn : IsNotes w w.heap.size A l) (hc : l.length ≤ c) (hl : l.length ≤ 9223372036854775807) (hok : scaleOk (l.take 200) total = false) :
    Calls Try.prog 7 #[.slice A l.length c, .float .f64 total] w fun e w' => e = .returned (.bool true) ∧ Below w.heap.size w w' := by
  have Hfew := Lib.hid fun W => few_any A c l W hc hl
  have Hn := Lib.hid (hn.take 200)
  have hlen : (l.take 200).length ≤ 200 := by simp; omega
  have hlc : (l.take 200).length ≤ c := by simp; omega
  clear hn
  generalize l.take 200 = l' at *
  have Hok := Lib.hid hok
  clear hok
  go_enter Try.func7, Try.ntmps7
  go_wp2_with fail
  refine (wakes_any _).mono ?_
  rintro e w1 ⟨rfl, hb1⟩
  go_wp2_with fail
  refine (Hfew.out _).mono ?_
  rintro e w2 ⟨rfl, rfl⟩
  go_wp2_with fail
  have n1 := Hn.out.later hb1
  refine (refscale_no A c l' total _ n1 (by omega) Hok.out).mono ?_
  rintro e w2 ⟨rfl, hb2⟩
  have N2 := Lib.hid (n1.later hb2)
  have hB2 := hb1.trans (hb2.mono hb1.size)
  clear n1 hb2 hb1
  go_wp2_with fail
  refine (room_any A c l' _ N2.out (by omega)).mono ?_
  rintro e w3 ⟨g, rfl, hfull, hb3⟩
  have N3 := Lib.hid (N2.out.later hb3)
  have G3 := Lib.hid (own_whole hfull)
  have hB3 := hB2.trans (hb3.mono hB2.size)
  clear hfull N2 hb3 hB2
  go_wp2_with fail
  refine (length_any _ _ l' _ (full_notes G3.out) (by omega)).mono ?_
  rintro e w4 ⟨r1, rfl, hr1, _, hb4⟩
  have Hr1 := Lib.hid hr1
  have N4 := Lib.hid (N3.out.later hb4)
  have G4 := Lib.hid (heap_keep G3.out hb4)
  have hB4 := hB3.trans (hb4.mono hB3.size)
  clear N3 G3 hb4 hB3 hr1
  go_wp2_with fail
  refine (reflength_any A c l' _ N4.out (by omega)).mono ?_
  rintro e w5 ⟨r2, rfl, hr2, _, hb5⟩
  have hsame := sameB_of (Hr1.out.trans hr2.symm)
  have Hsame := Lib.hid hsame
  have N5 := Lib.hid (N4.out.later hb5)
  have G5 := Lib.hid (heap_keep G4.out hb5)
  have hB5 := hB4.trans (hb5.mono hB4.size)
  clear N4 G4 hb5 hB4 hr2 hsame
  go_wp2_with fail
  refine (same_any r1 r2 _).mono ?_
  rintro e w6 ⟨rfl, rfl⟩
  rw [Hsame.out]
  go_wp2_with fail
  refine (scale_no _ _ l' total _ (full_notes G5.out) (by omega) Hok.out).mono ?_
  rintro e w6 ⟨rfl, hb6⟩
  have N6 := Lib.hid (N5.out.later hb6)
  have G6 := Lib.hid (heap_keep G5.out hb6)
  have hB6 := hB5.trans (hb6.mono hB5.size)
  clear N5 G5 hb6 hB5
  go_wp2_with fail
  refine (scale_no _ _ l' total _ (full_notes G6.out) (by omega) Hok.out).mono ?_
  rintro e w7 ⟨rfl, hb7⟩
  have N7 := Lib.hid (N6.out.later hb7)
  have G7 := Lib.hid (heap_keep G6.out hb7)
  have hB7 := hB6.trans (hb7.mono hB6.size)
  clear N6 G6 hb7 hB6
  go_wp2_with fail
  refine (stayed_true g c A l' _ G7.out N7.out (by omega)).mono ?_
  rintro e w8 ⟨rfl, hb8⟩
  have hB8 := hB7.trans (hb8.mono hB7.size)
  clear N7 G7 hb8 hB7
  go_wp2_with fail
  refine (wakes_any _).mono ?_
  rintro e w9 ⟨rfl, hb9⟩
  go_wp2_with fail
  go_ret
  exact ⟨rfl, hB8.trans (hb9.mono hB8.size)⟩

theorem nsEq_eqN {a b s : List Note} (ha : NsEq a s) (hb : NsEq b s) : ∀ k, k < a.length → eqN (a.getD k default) (b.getD k default) = true := fun k hk =>
  eqN_of ((ha.2 k hk).trans (hb.2 k (by have := ha.1; have := hb.1; omega)).symm)

/-- a row of the call's own as notes -/
theorem notes_row {w : World} {base n : Nat} {v : Value} {l : List Note} (h : w.ownsRow base 37 6 v n (notesCells l)) (hn : l.length = n) :
    ∃ A c, v = .slice A l.length c ∧ l.length ≤ c ∧ IsNotes w w.heap.size A l := notes_of_own h hn

set_option maxRecDepth 100000 in
set_option maxHeartbeats 4000000 in
theorem chantscales_yes (A : Option Addr) (c total : Nat) (l : List Note) (w : World) (hn : IsNotes w w.heap.size A l) (hc : l.length ≤ c) (hl : l.length ≤ 9223372036854775807) (hok : scaleOk (l.take 200) total = true) :
    Calls Try.prog 7 #[.slice A l.length c, .float .f64 total] w fun e w' => e = .returned (.bool true) ∧ Below w.heap.size w w' := by
  have Hfew := Lib.hid fun W => few_any A c l W hc hl
  have Hn := Lib.hid (hn.take 200)
  have hlen : (l.take 200).length ≤ 200 := by simp; omega
  have hlc : (l.take 200).length ≤ c := by simp; omega
  clear hn
  generalize l.take 200 = l' at *
  have Hok := Lib.hid hok
  clear hok
  go_enter Try.func7, Try.ntmps7
  go_wp2_with fail
  refine (wakes_any _).mono ?_
  rintro e w1 ⟨rfl, hb1⟩
  go_wp2_with fail
  refine (Hfew.out _).mono ?_
  rintro e w2 ⟨rfl, rfl⟩
  go_wp2_with fail
  have n1 := Hn.out.later hb1
  refine (refscale_yes A c l' total _ n1 (by omega) Hok.out).mono ?_
  rintro e w2 ⟨v5, lo5, rfl, he5, hown5, hb2⟩
  have hl5 : lo5.length = l'.length := by have := he5.1; simpa [scaleL] using this
  obtain ⟨A5, c5, rfl, hc5, hn5⟩ := notes_row hown5 hl5
  have R2 := Lib.hid hn5
  have E5 := Lib.hid he5
  have N2 := Lib.hid (n1.later hb2)
  have hB2 := hb1.trans (hb2.mono hb1.size)
  clear n1 hb2 hb1 hn5 he5 hown5
  go_wp2_with fail
  refine (room_any A c l' _ N2.out (by omega)).mono ?_
  rintro e w3 ⟨g, rfl, hfull, hb3⟩
  have N3 := Lib.hid (N2.out.later hb3)
  have R3 := Lib.hid (R2.out.later hb3)
  have G3 := Lib.hid (own_whole hfull)
  have hB3 := hB2.trans (hb3.mono hB2.size)
  clear hfull N2 hb3 hB2 R2
  go_wp2_with fail
  refine (length_any _ _ l' _ (full_notes G3.out) (by omega)).mono ?_
  rintro e w4 ⟨r1, rfl, hr1, _, hb4⟩
  have Hr1 := Lib.hid hr1
  have N4 := Lib.hid (N3.out.later hb4)
  have R4 := Lib.hid (R3.out.later hb4)
  have G4 := Lib.hid (heap_keep G3.out hb4)
  have hB4 := hB3.trans (hb4.mono hB3.size)
  clear N3 G3 hb4 hB3 hr1 R3
  go_wp2_with fail
  refine (reflength_any A c l' _ N4.out (by omega)).mono ?_
  rintro e w5 ⟨r2, rfl, hr2, _, hb5⟩
  have hsame := sameB_of (Hr1.out.trans hr2.symm)
  have Hsame := Lib.hid hsame
  have N5 := Lib.hid (N4.out.later hb5)
  have R5 := Lib.hid (R4.out.later hb5)
  have G5 := Lib.hid (heap_keep G4.out hb5)
  have hB5 := hB4.trans (hb5.mono hB4.size)
  clear N4 G4 hb5 hB4 hr2 hsame R4
  go_wp2_with fail
  refine (same_any r1 r2 _).mono ?_
  rintro e w6 ⟨rfl, rfl⟩
  rw [Hsame.out]
  go_wp2_with fail
  refine (scale_yes _ _ l' total _ (full_notes G5.out) (by omega) Hok.out).mono ?_
  rintro e w6 ⟨v8, lo8, rfl, he8, hown8, hb6⟩
  have hl8 : lo8.length = l'.length := by have := he8.1; simpa [scaleL] using this
  obtain ⟨A8, c8, rfl, hc8, hn8⟩ := notes_row hown8 hl8
  rw [hl8] at hown8
  have E8 := Lib.hid he8
  have O8 := Lib.hid hown8
  have Q8 := Lib.hid (own_block hown8)
  have S8 := Lib.hid hn8
  have N6 := Lib.hid (N5.out.later hb6)
  have G6 := Lib.hid (heap_keep G5.out hb6)
  have hC6 : Below w5.heap.size w5 w6 := hb6
  clear hb6 he8 hown8 hn8
  go_wp2_with fail
  refine (scale_yes _ _ l' total _ (full_notes G6.out) (by omega) Hok.out).mono ?_
  rintro e w7 ⟨v10, lo10, rfl, he10, hown10, hb7⟩
  have hl10 : lo10.length = l'.length := by have := he10.1; simpa [scaleL] using this
  obtain ⟨A10, c10, rfl, hc10, _⟩ := notes_row hown10 hl10
  rw [hl10] at hown10
  have E10 := Lib.hid he10
  have O10 := Lib.hid hown10
  have Q10 := Lib.hid (own_block hown10)
  have O8b := Lib.hid (own_below O8.out hb7)
  have S8b := Lib.hid (S8.out.later hb7)
  have N7 := Lib.hid (N6.out.later hb7)
  have G7 := Lib.hid (heap_keep G6.out hb7)
  have hC7 := hC6.trans (hb7.mono hC6.size)
  clear hb7 he10 hown10 O8 S8 N6 G6
  go_wp2_with fail
  refine (stayed_true g c A l' _ G7.out N7.out (by omega)).mono ?_
  rintro e w8 ⟨rfl, hb8⟩
  have hC8 := hC7.trans (hb8.mono hC7.size)
  have O8c := Lib.hid (own_below O8b.out hb8)
  have O10c := Lib.hid (own_below O10.out hb8)
  have S8c := Lib.hid (S8b.out.later hb8)
  have R8 := Lib.hid ((R5.out.below hC8).more hC8.size)
  clear N7 G7 hb8 hC7 hC6 O8b O10 S8b
  have Hn1 := Lib.hid (notes_true A8 A5 c8 c5 lo8 lo5 w8 S8c.out R8.out (by omega) (by omega) (nsEq_eqN E8.out E5.out))
  rw [hl8, hl5] at Hn1
  go_wp2_with fail
  refine (Hn1.out).mono ?_
  rintro e w9 ⟨rfl, hb9⟩
  have hC9 := hC8.trans (hb9.mono hC8.size)
  have O8d := Lib.hid (own_below O8c.out hb9)
  have O10d := Lib.hid (own_below O10c.out hb9)
  clear hb9 hC8 O8c O10c S8c R8 Hn1
  have Hsp := Lib.hid (spoil_any (.slice A8 l'.length c8) l'.length w5.heap.size lo8 w9 O8d.out hC9.size (by omega))
  go_wp2_with fail
  refine (Hsp.out).mono ?_
  rintro e w10 ⟨rfl, hg10⟩
  have hC10 : Below w5.heap.size w5 w10 := hC9.grown hg10 hC9.size (fun k hk => (Q8.out k hk).1)
  have O10e := Lib.hid (O10d.out.kept hg10 (by
    cases hv : (Value.slice A10 l'.length c10).ownBlock with
    | none => exact .inl rfl
    | some b =>
      refine .inr fun e => ?_
      have h1 := (Q10.out b hv).1
      have h2 := (Q8.out b e.symm).2
      omega))
  have N10 := Lib.hid ((N5.out.below hC10).more hC10.size)
  have R10 := Lib.hid ((R5.out.below hC10).more hC10.size)
  have G10 := Lib.hid (heap_keep G5.out hC10)
  obtain ⟨_, _, hv10, _, hn10⟩ := notes_row O10e.out hl10
  injection hv10 with e1 e2 e3
  subst e1 e3
  have Hn2 := Lib.hid (notes_true A10 A5 c10 c5 lo10 lo5 w10 hn10 R10.out (by omega) (by omega) (nsEq_eqN E10.out E5.out))
  rw [hl10, hl5] at Hn2
  clear hn10 hg10 hC9 O8d O10d R10 e2
  go_wp2_with fail
  refine (Hn2.out).mono ?_
  rintro e w11 ⟨rfl, hb11⟩
  have hB10 := hB5.trans (hC10.mono hB5.size)
  have N11 := Lib.hid (N10.out.later hb11)
  have G11 := Lib.hid (heap_keep G10.out hb11)
  have hB11 := hB10.trans (hb11.mono hB10.size)
  go_wp2_with fail
  refine (stayed_true g c A l' _ G11.out N11.out (by omega)).mono ?_
  rintro e w12 ⟨rfl, hb12⟩
  have hB12 := hB11.trans (hb12.mono hB11.size)
  go_wp2_with fail
  refine (wakes_any _).mono ?_
  rintro e w13 ⟨rfl, hb13⟩
  go_wp2_with fail
  go_ret
  exact ⟨rfl, hB12.trans (hb13.mono hB12.size)⟩

theorem chantscales_any (A : Option Addr) (c total : Nat) (l : List Note) (w : World) (hn : IsNotes w w.heap.size A l) (hc : l.length ≤ c) (hl : l.length ≤ 9223372036854775807) :
    Calls Try.prog 7 #[.slice A l.length c, .float .f64 total] w fun e w' => e = .returned (.bool true) ∧ Below w.heap.size w w' := by
  cases h : scaleOk (l.take 200) total with
  | false => exact chantscales_no A c total l w hn hc hl h
  | true => exact chantscales_yes A c total l w hn hc hl h
end Go.Proofs.Ytjlncnjmcgkkhaa

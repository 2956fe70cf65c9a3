/- ChantRounds: the notes of a round, for whatever number of voices and delay, are as the reference lays them, each voice in memory of its own, or refused as it refuses; the law returns true and leaves its arguments alone. No condition. -/
import Derived.Test.YtjlncnjmcgkkhaaR6
import Derived.Test.YtjlncnjmcgkkhaaFr
import Derived.Test.YtjlncnjmcgkkhaaOp2
import Derived.SizedLaws
namespace Go.Proofs.Ytjlncnjmcgkkhaa.lawChantRounds
set_option linter.unusedVariables false
set_option linter.unusedSimpArgs false
open Go Go.ChangeShapes Go.WideShapes Go.ChangeAt Go.RowKit

theorem chantrounds_any (A : Option Addr) (c : Nat) (x : Int) (delay : Nat) (l : List Note) (w : World) (hn : IsNotes w w.heap.size A l) (hc : l.length ≤ c) (hm : l.length ≤ 2932031007402) (hx : -9223372036854775808 ≤ x) (hx' : x ≤ 9223372036854775807) :
    Calls Try.prog 6 #[.slice A l.length c, .int .i64 x, .float .f64 delay] w fun e w' => e = .returned (.bool true) ∧ Below w.heap.size w w' := by
  cases h : voicesOk x delay with
  | false =>
    by_cases hl : l.length ≤ 65536
    · exact chantrounds_no_small A c delay 2 x l w hn hc hl ⟨fun A c W => refround_no A c delay x _ W hx hx' h, fun A c W => round_no A c delay x _ W hx hx' h⟩
    · exact chantrounds_no_big A c delay 2 x l w hn hc (by omega) hm ⟨fun A c W => refround_no A c delay x _ W hx hx' h, fun A c W => round_no A c delay x _ W hx hx' h⟩
  | true =>
    simp only [voicesOk, Bool.and_eq_true, decide_eq_true_eq, Bool.not_eq_true'] at h
    obtain ⟨⟨⟨h1, h2⟩, h3⟩, h4⟩ := h
    obtain ⟨n, rfl⟩ : ∃ n : Nat, x = (n : Int) := ⟨x.toNat, by omega⟩
    by_cases hl : l.length ≤ 65536
    · exact chantrounds_yes A c n delay l w hn hc hl (by omega) (by omega) h3 h4
    · have hp : 65536 < l.length * n := Nat.lt_of_lt_of_le (by omega) (Nat.le_mul_of_pos_right l.length (by omega : 0 < n))
      exact chantrounds_no_big A c delay 3 n l w hn hc (by omega) hm ⟨fun A c W => refround_long A c n delay _ W (by omega) (by omega) h3 h4 hp (by omega), fun A c W => round_long A c n delay _ W (by omega) (by omega) h3 h4 hp (by omega)⟩

theorem own : ownKnob Try.prog.godebug = none := by kernel_rfl

theorem readable : ∀ t ∈ Try.f6.params.toList, Try.prog.readableRec t = true ∧ t < Try.prog.types.size := by
  rw [Try.params6]
  intro t ht
  simp at ht
  rcases ht with rfl | rfl | rfl
  all_goals exact ⟨by kernel_rfl, of_decide_eq_true (by kernel_rfl)⟩

theorem slice_data {H : Type} {enc : TypeId × Value → H} {w : World} {base : Nat} {spare : Nat → Bool} {held : Bool} {fuel : Nat} {A : Option Addr} {n c : Nat} {x : DataW H × List MemPlace} (h : DataW.trod enc Try.prog w base spare held fuel 29 [.slice A n c] = some x) :
    n = 0 ∨ ∃ es sp, x.1 = .slice es sp ∧ es.length = n := by
  rcases Deep.open_slice Try.underlying29 h with ⟨hc, _⟩ | ⟨a, len, cap, m, k, D, Pl, hc, hb, hl, hm, hmm, hx, hi⟩
  · simp only [List.cons.injEq, and_true] at hc
    injection hc with _ e _
    exact .inl e
  · simp only [List.cons.injEq, and_true] at hc
    injection hc with _ e _
    exact .inr ⟨_, _, by rw [hx], by simp [e]⟩
theorem bytesOf37 : Try.prog.bytesOf 37 = 48 := by kernel_rfl

set_option maxRecDepth 100000 in
theorem lifted (os : Os) (started : os.Started) (H : Type) (enc : TypeId × Value → H) :
    ReturnsInHanded {} Try.checked os 6 .any (Rows.chantRoundsSpec.pre6 enc Try.prog Try.f6 Rows.chantRoundsRow.domain false) (Rows.chantRoundsSpec.post enc Try.prog Try.f6 false true false false) := by
  refine returnsInHanded_of_change_sized (C := Try.checked) own started (by kernel_rfl) Try.func6
    (ChangeSpec.witness6 (enc := enc) (C := Try.checked) false ⟨#[], #[.slice none 0 0, .int .i64 0, .float .f64 0], []⟩ 8 (by kernel_rfl) (by kernel_rfl) (by kernel_rfl) (by kernel_rfl)) ?_
  intro W base args ds gs before hval0 hW hcnd hsz0 _
  have hval : ∀ (j : Nat) t v, Try.f6.params[j]? = some t → args[j]? = some v → Value.okWide Try.prog W .any base t v := hval0
  have hW' := hW
  obtain ⟨p, q, hA0, hV, rfl, hfz, hnd⟩ := hW
  have hA : DataW.TrodAll enc Try.prog W 0 (fun _ => true) true Try.f6.params.toList args.toList ds p := hA0
  have hsz : (DataW.weightsEach Try.prog (Try.f6.params.toList ++ Rows.chantRoundsSpec.plain.varTypes Try.prog) (ds ++ gs)).all (· ≤ reachBytes) = true := hsz0
  rw [Try.params6] at hA hval hsz
  obtain ⟨v0, v1, v2, d0, d1, d2, p0, p1, p2, rfl, rfl, rfl, h0, h1, h2⟩ := trodAll_three hA
  obtain ⟨rfl, rfl⟩ := trodVars_none hV
  obtain ⟨x1, rfl, rfl, rfl, wf1⟩ := open_int Try.underlying3 (hval 1 3 v1 rfl rfl) h1
  obtain ⟨x2, rfl, rfl, rfl, wf2⟩ := open_float Try.underlying22 (hval 2 22 v2 rfl rfl) h2
  obtain ⟨a0, len0, cap0, rfl⟩ := okWide_slice Try.underlying29 (hval 0 29 v0 rfl rfl)
  obtain ⟨fuel0, hf0⟩ := h0
  obtain ⟨A0, c0, l0, e0, hc0, hm0, hn0⟩ := notes_open hf0
  have hl0 : l0.length ≤ 2932031007402 := by
    have e0' : len0 = l0.length := by injection e0
    rcases slice_data hf0 with h | ⟨es, sp, h3, h4⟩
    · omega
    · have h3' : d0 = .slice es sp := h3
      have := sized_slice hsz (j := 0) (t := 29) (e := 37) rfl (by rw [h3']; rfl) Try.underlying29
      rw [bytesOf37] at this
      simp only [reachBytes] at this
      omega
  have hx1 : -9223372036854775808 ≤ x1 ∧ x1 ≤ 9223372036854775807 := by
    have e1 : IntKind.i64.min = -9223372036854775808 := by decide
    have e2 : IntKind.i64.max = 9223372036854775807 := by decide
    simpa [Lit.wf, e1, e2] using wf1
  clear hA0 hval0 hval hA hf0 hsz hsz0
  rw [e0] at hW' ⊢
  refine (chantrounds_any A0 c0 x1 x2 l0 W hn0 hc0 hl0 hx1.1 hx1.2).mono fun e W' ⟨he, hb⟩ => ?_
  subst he
  exact ⟨_, rfl, law_post (ds := [d0, .lit (.int .i64 x1), .lit (.float .f64 x2)]) (gs := []) (tb := 4) (by kernel_rfl) readable (by kernel_rfl) Try.underlying4 rfl rfl hW' hb⟩

theorem over : ({ Rows.chantRoundsRow with leaving := false }).holds Try.pinned (OpenSpec.ofChange Rows.chantRoundsSpec) :=
  OpenClaim.holds_of_wide 6 Try.f6 rfl rfl rfl rfl rfl rfl rfl ⟨rfl, rfl, rfl, rfl, rfl⟩ rfl rfl rfl rfl rfl (by kernel_rfl) Try.func6 (by kernel_rfl)
    (of_decide_eq_true (by kernel_rfl)) (by unfold Func.isWrapper; first | (rw [if_pos (by decide +kernel)]; kernel_rfl) | (rw [if_neg (by decide +kernel)]; exact ⟨rfl, rfl⟩))
    (fun os started H enc _ => lifted os started H enc)

theorem proved : Rows.ChantRoundsSaid := holds_leaving Rows.chantRoundsRow rfl rfl rfl over
#print axioms proved
end Go.Proofs.Ytjlncnjmcgkkhaa.lawChantRounds

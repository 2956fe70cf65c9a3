/- MouldHouse: the forms of the house, by their names; other names are none. No condition. The eight variables of Go's library that the row lists are tied to the program's text by the given tie. -/
import Derived.Test.YtgklikkddckgbaaGreatDoorKYK
import Derived.Test.YtgklikkddckgbaaGreatDoorCards
import Derived.Test.YtgklikkddckgbaaGreatDoorTie
set_option linter.all false
set_option maxRecDepth 100000
namespace Go.Proofs.YtgklikkddckgbaaGreatDoor.lawMouldHouse
set_option linter.unusedVariables false
set_option linter.unusedSimpArgs false
open Go Go.ChangeShapes Go.WideShapes Go.ChangeAt Go.WideMaps Go.ChangeMaps Go.WideElems Go.RowKit

theorem zoV : ∀ t ∈ Tryz.f8.params.toList, Tryz.prog.readableRec t = true /\ t < Tryz.prog.types.size := by
  rw [Tryz.params8]
  intro t ht
  simp at ht
  rcases ht with rfl | rfl
  · exact zs7
  · exact zs8

theorem lifted (os : Os) (started : os.Started) (H : Type) (enc : TypeId × Value -> H) :
    ReturnsInHanded {} Tryz.checked os 8 .any (λw args => (Rows.mouldHouseSpec.pre enc Tryz.prog Tryz.f8 [] false w args /\ laidMetH Tryz.prog znx w) /\ sizedMet enc Tryz.prog Tryz.f8 (OpenSpec.ofChange Rows.mouldHouseSpec) false w args)
      (Rows.mouldHouseSpec.post enc Tryz.prog Tryz.f8 false true false false) := by
  refine uV (C := Tryz.checked) (X := λw _ => laidMetH Tryz.prog znx w) (λ_ _ _ hh h => h.of_heap hh) own started (by kernel_rfl) Tryz.func8
    (ChangeSpec.witness_shaped (enc := enc) (C := Tryz.checked) (os := os) (X := λw _ => laidMetH Tryz.prog znx w) false (World.laidAll Tryz.prog os znx) #[.string ⟨#[]⟩, .int .i64 0] 8 (World.laidAll_os _ _ _)
      (World.shaped_of_ZipB (by kernel_rfl) (by kernel_rfl)) (by kernel_rfl) (by kernel_rfl) (by kernel_rfl)
      (by rw [MakeChecks.laidMetH_plain _ _ _ (by kernel_rfl)]; exact laidMet_laidAll _ (by kernel_rfl) (by kernel_rfl))) ?_
  intro W base args ds gs before hval0 hW hz hL hsh
  have hval : ∀ (j : Nat) t v, Tryz.f8.params[j]? = some t -> args[j]? = some v -> Value.okWide Tryz.prog W .any base t v := hval0
  have hW' := hW
  obtain ⟨p, q, hA0, hV, rfl, hfz, hnd⟩ := hW
  have hA : DataW.TrodAll enc Tryz.prog W 0 (λ_ => true) true Tryz.f8.params.toList args.toList ds p := hA0
  rw [Tryz.params8] at hA hval hz
  obtain ⟨v0, v1, d0, d1, p0, p1, rfl, rfl, rfl, h0, h1⟩ := trodAll_two hA
  obtain ⟨rfl, rfl⟩ := trodVars_none hV
  have hvars := zmU hL
  have hmax := znl hsh
  obtain ⟨s0, rfl, rfl, rfl, ws0⟩ := open_string qN (hval 0 9 v0 rfl rfl) h0
  have hs0 : s0.size <= 4611686018427387904 := by
    have hw : zoN Tryz.prog 9 (DataW.lit (.string s0.data.toList) : DataW H) := zos hz 0 rfl rfl
    have h9 := hw s0.data.toList.length (by simp [DataW.weights])
    have e9 : s0.data.toList.length = s0.size := by rw [qS]; rfl
    rw [e9] at h9
    unfold reachBytes at h9
    omega
  obtain ⟨x1, rfl, rfl, rfl, wx1⟩ := open_int zu (hval 1 3 v1 rfl rfl) h1
  clear hA0 hval0 hval hA hz hL hsh
  refine (Mo.VO s0 x1 W hvars hmax hs0).mono λe W' ⟨he, hb⟩ => ?_
  subst he
  exact ⟨_, rfl, zoU (ds := [.lit (.string s0.data.toList), .lit (.int .i64 x1)]) (gs := []) (tb := 4) (by kernel_rfl) zoV (by kernel_rfl) zI rfl rfl hW' hb⟩

theorem row : Rows.MouldHouseSaid :=
  OpenClaim.holds_of_wide 8 Tryz.f8 rfl rfl rfl rfl rfl rfl rfl ⟨rfl, rfl, rfl, rfl, rfl⟩ rfl rfl rfl rfl rfl (by kernel_rfl) Tryz.func8 (by kernel_rfl)
    (zf (by kernel_rfl)) (by unfold Func.isWrapper; first | (rw [qx (by decide +kernel)]; kernel_rfl) | (rw [qv (by decide +kernel)]; exact ⟨rfl, rfl⟩))
    (λos started H enc _ => lifted os started H enc)

theorem proved : Rows.MouldHouseCardSaid :=
  Claim7.holds_tied_plain_at .later [] [.data, .data, .data, .data, .sentinel, .sentinel, .pinned, .pinned] true (true, "5e382eb2a93edc8a2149d9d91411bd1129859cd84ea20f0ef3575aec56e67244") true
    row (λ_ h => by cases h) (by kernel_rfl) (λ_ h => by cases h) mouldHouse_row_tie rfl ⟨rfl, rfl⟩ (by kernel_rfl) rfl
    (λf fn hf hfn => by
      obtain rfl : f = 8 := kO ((show Tryz.prog.funcNamed Rows.mouldHouseRow.func = some 8 by kernel_rfl).symm.trans hf) |>.symm
      obtain rfl : fn = Tryz.f8 := (kO (Tryz.func8.symm.trans hfn)).symm
      exact ⟨by kernel_rfl, λj t ht => by
        rw [Tryz.params8] at ht
        have hm : t ∈ [9, 3] := by simpa using Array.mem_of_getElem? ht
        have hall : ([9, 3].all λu => !Tryz.prog.wantsStandIn u) = true := by kernel_rfl
        exact (show Tryz.prog.wantsStandIn t = false by simpa using zN.1 hall t hm)⟩)
    (by kernel_rfl)
#print axioms proved
end Go.Proofs.YtgklikkddckgbaaGreatDoor.lawMouldHouse

/- MouldReads: for every text the program reads the form, or refuses the text, as the reference does; its name, its rounds, its metres, its text. No condition. The eight variables of Go's library that the row lists are tied to the program's text by the given tie. -/
import Derived.Test.YtgklikkddckgbaaGreatDoorLZQ
import Derived.Test.YtgklikkddckgbaaGreatDoorCards
import Derived.Test.YtgklikkddckgbaaGreatDoorTie
set_option linter.all false
set_option maxRecDepth 100000
namespace Go.Proofs.YtgklikkddckgbaaGreatDoor.lawMouldReads
set_option linter.unusedVariables false
set_option linter.unusedSimpArgs false
open Go Go.ChangeShapes Go.WideShapes Go.ChangeAt Go.WideMaps Go.ChangeMaps Go.WideElems Go.RowKit

theorem zpj : ∀ t ∈ Tryz.f9.params.toList, Tryz.prog.readableRec t = true /\ t < Tryz.prog.types.size := by
  rw [Tryz.params9]
  intro t ht
  simp at ht
  subst ht
  exact ztB

theorem lifted (os : Os) (started : os.Started) (H : Type) (enc : TypeId × Value -> H) :
    ReturnsInHanded {} Tryz.checked os 9 .any (λw args => (Rows.mouldReadsSpec.pre enc Tryz.prog Tryz.f9 [] false w args /\ laidMetH Tryz.prog znS w) /\ sizedMet enc Tryz.prog Tryz.f9 (OpenSpec.ofChange Rows.mouldReadsSpec) false w args)
      (Rows.mouldReadsSpec.post enc Tryz.prog Tryz.f9 false true false false) := by
  refine uY (C := Tryz.checked) (X := λw _ => laidMetH Tryz.prog znS w) (λ_ _ _ hh h => h.of_heap hh) own started (by kernel_rfl) Tryz.func9
    (ChangeSpec.witness_shaped (enc := enc) (C := Tryz.checked) (os := os) (X := λw _ => laidMetH Tryz.prog znS w) false (World.laidAll Tryz.prog os znS) #[.string ⟨#[]⟩] 8 (World.laidAll_os _ _ _)
      (World.shaped_of_ZipB (by kernel_rfl) (by kernel_rfl)) (by kernel_rfl) (by kernel_rfl) (by kernel_rfl)
      (by rw [MakeChecks.laidMetH_plain _ _ _ (by kernel_rfl)]; exact laidMet_laidAll _ (by kernel_rfl) (by kernel_rfl))) ?_
  intro W base args ds gs before hval0 hW hz hL hsh
  have hval : ∀ (j : Nat) t v, Tryz.f9.params[j]? = some t -> args[j]? = some v -> Value.okWide Tryz.prog W .any base t v := hval0
  have hW' := hW
  obtain ⟨p, q, hA0, hV, rfl, hfz, hnd⟩ := hW
  have hA : DataW.TrodAll enc Tryz.prog W 0 (λ_ => true) true Tryz.f9.params.toList args.toList ds p := hA0
  rw [Tryz.params9] at hA hval hz
  obtain ⟨v0, d0, rfl, rfl, h0⟩ := trodAll_one hA
  obtain ⟨rfl, rfl⟩ := trodVars_none hV
  have hvars := zng hL
  have hmax := znD hsh
  obtain ⟨s0, rfl, rfl, rfl, ws0⟩ := open_string qN (hval 0 9 v0 rfl rfl) h0
  have hs0 : s0.size <= 4611686018427387904 := by
    have hw : zpb Tryz.prog 9 (DataW.lit (.string s0.data.toList) : DataW H) := zoO hz 0 rfl rfl
    have h9 := hw s0.data.toList.length (by simp [DataW.weights])
    have e9 : s0.data.toList.length = s0.size := by rw [qS]; rfl
    rw [e9] at h9
    unfold reachBytes at h9
    omega
  clear hA0 hval0 hval hA hz hL hsh
  refine (Mo.Ue s0 W hvars hmax hs0).mono λe W' ⟨he, hb⟩ => ?_
  subst he
  exact ⟨_, rfl, zpi (ds := [.lit (.string s0.data.toList)]) (gs := []) (tb := 4) (by kernel_rfl) zpj (by kernel_rfl) zu rfl rfl hW' hb⟩

theorem row : Rows.MouldReadsSaid :=
  OpenClaim.holds_of_wide 9 Tryz.f9 rfl rfl rfl rfl rfl rfl rfl ⟨rfl, rfl, rfl, rfl, rfl⟩ rfl rfl rfl rfl rfl (by kernel_rfl) Tryz.func9 (by kernel_rfl)
    (zk (by kernel_rfl)) (by unfold Func.isWrapper; first | (rw [qy (by decide +kernel)]; kernel_rfl) | (rw [qx (by decide +kernel)]; exact ⟨rfl, rfl⟩))
    (λos started H enc _ => lifted os started H enc)

theorem proved : Rows.MouldReadsCardSaid :=
  Claim7.holds_tied_plain_at .later [] [.data, .data, .data, .data, .sentinel, .sentinel, .pinned, .pinned] true (true, "5e382eb2a93edc8a2149d9d91411bd1129859cd84ea20f0ef3575aec56e67244") true
    row (λ_ h => by cases h) (by kernel_rfl) (λ_ h => by cases h) mouldReads_row_tie rfl ⟨rfl, rfl⟩ (by kernel_rfl) rfl
    (λf fn hf hfn => by
      obtain rfl : f = 9 := kJ ((show Tryz.prog.funcNamed Rows.mouldReadsRow.func = some 9 by kernel_rfl).symm.trans hf) |>.symm
      obtain rfl : fn = Tryz.f9 := (kJ (Tryz.func9.symm.trans hfn)).symm
      exact ⟨by kernel_rfl, λj t ht => by
        rw [Tryz.params9] at ht
        have hm : t ∈ [9] := by simpa using Array.mem_of_getElem? ht
        have hall : ([9].all λu => !Tryz.prog.wantsStandIn u) = true := by kernel_rfl
        exact (show Tryz.prog.wantsStandIn t = false by simpa using zO.1 hall t hm)⟩)
    (by kernel_rfl)
#print axioms proved
end Go.Proofs.YtgklikkddckgbaaGreatDoor.lawMouldReads

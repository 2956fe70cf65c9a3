/- MouldBack: what is printed is read as the same. No condition. The eight variables of Go's library that the row lists are tied to the program's text by the given tie. -/
import Derived.Test.YtgklikkddckgbaaGreatDoorJZL
import Derived.Test.YtgklikkddckgbaaGreatDoorCards
import Derived.Test.YtgklikkddckgbaaGreatDoorTie
set_option linter.all false
set_option maxRecDepth 100000
namespace Go.Proofs.YtgklikkddckgbaaGreatDoor.lawMouldBack
set_option linter.unusedVariables false
set_option linter.unusedSimpArgs false
open Go Go.ChangeShapes Go.WideShapes Go.ChangeAt Go.WideMaps Go.ChangeMaps Go.WideElems Go.RowKit

theorem zqA : ∀ t ∈ Tryz.f10.params.toList, Tryz.prog.readableRec t = true /\ t < Tryz.prog.types.size := by
  rw [Tryz.params10]
  intro t ht
  simp at ht
  subst ht
  exact zu4

theorem lifted (os : Os) (started : os.Started) (H : Type) (enc : TypeId × Value -> H) :
    ReturnsInHanded {} Tryz.checked os 10 .any (λw args => (Rows.mouldBackSpec.pre enc Tryz.prog Tryz.f10 [] false w args /\ laidMetH Tryz.prog zos w) /\ sizedMet enc Tryz.prog Tryz.f10 (OpenSpec.ofChange Rows.mouldBackSpec) false w args)
      (Rows.mouldBackSpec.post enc Tryz.prog Tryz.f10 false true false false) := by
  refine pA (C := Tryz.checked) (X := λw _ => laidMetH Tryz.prog zos w) (λ_ _ _ hh h => h.of_heap hh) own started (by kernel_rfl) Tryz.func10
    (ChangeSpec.witness_shaped (enc := enc) (C := Tryz.checked) (os := os) (X := λw _ => laidMetH Tryz.prog zos w) false (World.laidAll Tryz.prog os zos) #[.string ⟨#[]⟩] 8 (World.laidAll_os _ _ _)
      (World.shaped_of_ZipB (by kernel_rfl) (by kernel_rfl)) (by kernel_rfl) (by kernel_rfl) (by kernel_rfl)
      (by rw [MakeChecks.laidMetH_plain _ _ _ (by kernel_rfl)]; exact laidMet_laidAll _ (by kernel_rfl) (by kernel_rfl))) ?_
  intro W base args ds gs before hval0 hW hz hL hsh
  have hval : ∀ (j : Nat) t v, Tryz.f10.params[j]? = some t -> args[j]? = some v -> Value.okWide Tryz.prog W .any base t v := hval0
  have hW' := hW
  obtain ⟨p, q, hA0, hV, rfl, hfz, hnd⟩ := hW
  have hA : DataW.TrodAll enc Tryz.prog W 0 (λ_ => true) true Tryz.f10.params.toList args.toList ds p := hA0
  rw [Tryz.params10] at hA hval hz
  obtain ⟨v0, d0, rfl, rfl, h0⟩ := trodAll_one hA
  obtain ⟨rfl, rfl⟩ := trodVars_none hV
  have hvars := znr hL
  have hmax := zn6 hsh
  obtain ⟨s0, rfl, rfl, rfl, ws0⟩ := open_string zn (hval 0 9 v0 rfl rfl) h0
  have hs0 : s0.size <= 4611686018427387904 := by
    have hw : zqs Tryz.prog 9 (DataW.lit (.string s0.data.toList) : DataW H) := zpP hz 0 rfl rfl
    have h9 := hw s0.data.toList.length (by simp [DataW.weights])
    have e9 : s0.data.toList.length = s0.size := by rw [qP]; rfl
    rw [e9] at h9
    unfold reachBytes at h9
    omega
  clear hA0 hval0 hval hA hz hL hsh
  refine (Mo.zrD s0 W hvars hmax hs0).mono λe W' ⟨he, hb⟩ => ?_
  subst he
  exact ⟨_, rfl, zqz (ds := [.lit (.string s0.data.toList)]) (gs := []) (tb := 4) (by kernel_rfl) zqA (by kernel_rfl) ka rfl rfl hW' hb⟩

theorem row : Rows.MouldBackSaid :=
  OpenClaim.holds_of_wide 10 Tryz.f10 rfl rfl rfl rfl rfl rfl rfl ⟨rfl, rfl, rfl, rfl, rfl⟩ rfl rfl rfl rfl rfl (by kernel_rfl) Tryz.func10 (by kernel_rfl)
    (zt (by kernel_rfl)) (by unfold Func.isWrapper; first | (rw [qq (by decide +kernel)]; kernel_rfl) | (rw [qp (by decide +kernel)]; exact ⟨rfl, rfl⟩))
    (λos started H enc _ => lifted os started H enc)

theorem proved : Rows.MouldBackCardSaid :=
  Claim7.holds_tied_plain_at .later [] [.data, .data, .data, .data, .sentinel, .sentinel, .pinned, .pinned] true (true, "5e382eb2a93edc8a2149d9d91411bd1129859cd84ea20f0ef3575aec56e67244") true
    row (λ_ h => by cases h) (by kernel_rfl) (λ_ h => by cases h) mouldBack_row_tie rfl ⟨rfl, rfl⟩ (by kernel_rfl) rfl
    (λf fn hf hfn => by
      obtain rfl : f = 10 := kR ((show Tryz.prog.funcNamed Rows.mouldBackRow.func = some 10 by kernel_rfl).symm.trans hf) |>.symm
      obtain rfl : fn = Tryz.f10 := (kR (Tryz.func10.symm.trans hfn)).symm
      exact ⟨by kernel_rfl, λj t ht => by
        rw [Tryz.params10] at ht
        have hm : t ∈ [9] := by simpa using Array.mem_of_getElem? ht
        have hall : ([9].all λu => !Tryz.prog.wantsStandIn u) = true := by kernel_rfl
        exact (show Tryz.prog.wantsStandIn t = false by simpa using zF.1 hall t hm)⟩)
    (by kernel_rfl)
#print axioms proved
end Go.Proofs.YtgklikkddckgbaaGreatDoor.lawMouldBack

/- MouldLines: what the lines are to be, of so many rounds; in memory of its own. No condition. The seven variables of Go's library that the row lists are tied to the program's text by the given tie. -/
import Derived.Test.YtgklikkddckgbaaGreatDoorHWJ
import Derived.Test.YtgklikkddckgbaaGreatDoorHED
import Derived.Test.YtgklikkddckgbaaGreatDoorCards
import Derived.Test.YtgklikkddckgbaaGreatDoorTie
set_option linter.all false
namespace Go.Proofs.YtgklikkddckgbaaGreatDoor.lawMouldLines
open Go Go.ChangeShapes Go.WideShapes Go.ChangeAt Go.WideMaps Go.ChangeMaps Go.WideElems Go.RowKit
theorem readable:∀t∈Tryz.f7.params.toList,Tryz.prog.readableRec t=true∧t<Tryz.prog.types.size:=by
  rw[Tryz.params7]
  intro t ht
  simp at ht
  rcases ht with rfl|rfl
  · exact read9
  · exact read3
set_option maxRecDepth 100000 in
theorem lifted (os:Os) (started:os.Started) (H:Type) (enc:TypeId×Value→H):
    ReturnsInHanded {} Tryz.checked os 7 .any (fun w args=>(Rows.mouldLinesSpec.pre enc Tryz.prog Tryz.f7 [] false w args∧laidMetH Tryz.prog laid7 w)∧sizedMet enc Tryz.prog Tryz.f7 (OpenSpec.ofChange Rows.mouldLinesSpec) false w args)
      (Rows.mouldLinesSpec.post enc Tryz.prog Tryz.f7 false true false false):=by
  refine handed_and_shaped (C:=Tryz.checked) (X:=fun w _=>laidMetH Tryz.prog laid7 w) (fun _ _ _ hh h=>h.of_heap hh) own started (by kernel_rfl) Tryz.func7
    (ChangeSpec.witness_shaped (enc:=enc) (C:=Tryz.checked) (os:=os) (X:=fun w _=>laidMetH Tryz.prog laid7 w) false (World.laidAll Tryz.prog os laid7) #[.string ⟨#[]⟩,.int .i64 0] 8 (World.laidAll_os _ _ _)
      (World.shaped_of_ZipB (by kernel_rfl) (by kernel_rfl)) (by kernel_rfl) (by kernel_rfl) (by kernel_rfl)
      (by rw[MakeChecks.laidMetH_plain _ _ _ (by kernel_rfl)];exact laidMet_laidAll _ (by kernel_rfl) (by kernel_rfl))) ?_
  intro W base args ds gs before hval0 hW hz hL hsh
  have hval:∀(j:Nat) t v,Tryz.f7.params[j]?=some t→args[j]?=some v→Value.okWide Tryz.prog W .any base t v:=hval0
  have hW':=hW
  obtain⟨p,q,hA0,hV,rfl,hfz,hnd⟩:=hW
  have hA:DataW.TrodAll enc Tryz.prog W 0 (fun _=>true) true Tryz.f7.params.toList args.toList ds p:=hA0
  rw[Tryz.params7] at hA hval hz
  obtain⟨v0,v1,d0,d1,p0,p1,rfl,rfl,rfl,h0,h1⟩:=trodAll_two hA
  obtain⟨rfl,rfl⟩:=trodVars_none hV
  have hvars:=vars_of_laid hL
  have hmax:=max_of_shape hsh
  obtain⟨s0,rfl,rfl,rfl,ws0⟩:=open_string Tryz.underlying9 (hval 0 9 v0 rfl rfl) h0
  have hs0:s0.size≤4611686018427387904:=by
    have hw:Within Tryz.prog 9 (DataW.lit (.string s0.data.toList):DataW H):=within_of hz 0 rfl rfl
    have h9:=hw s0.data.toList.length (by simp[DataW.weights])
    have e9:s0.data.toList.length=s0.size:=by rw[Array.length_toList];rfl
    rw[e9] at h9
    unfold reachBytes at h9
    omega
  obtain⟨x1,rfl,rfl,rfl,wx1⟩:=open_int Tryz.underlying3 (hval 1 3 v1 rfl rfl) h1
  clear hA0 hval0 hval hA hz hL hsh
  refine(Mo.linesL_any s0 x1 W hvars hmax hs0).mono fun e W' ⟨he,hb⟩=>?_
  subst he
  exact⟨_,rfl,law_post (ds:=[.lit (.string s0.data.toList),.lit (.int .i64 x1)]) (gs:=[]) (tb:=4) (by kernel_rfl) readable (by kernel_rfl) Tryz.underlying4 rfl rfl hW' hb⟩
theorem row:Rows.MouldLinesSaid:=
  OpenClaim.holds_of_wide 7 Tryz.f7 rfl rfl rfl rfl rfl rfl rfl ⟨rfl,rfl,rfl,rfl,rfl⟩ rfl rfl rfl rfl rfl (by kernel_rfl) Tryz.func7 (by kernel_rfl)
    (of_decide_eq_true (by kernel_rfl)) (by unfold Func.isWrapper;first|(rw[if_pos (by decide+kernel)];kernel_rfl)|(rw[if_neg (by decide+kernel)];exact⟨rfl,rfl⟩))
    (fun os started H enc _=>lifted os started H enc)
theorem proved:Rows.MouldLinesCardSaid:=
  Claim7.holds_tied_plain_at .later [] [.data,.data,.data,.data,.sentinel,.sentinel,.pinned] true (true,"5e382eb2a93edc8a2149d9d91411bd1129859cd84ea20f0ef3575aec56e67244") true
    row (fun _ h=>by cases h) (by kernel_rfl) (fun _ h=>by cases h) mouldLines_row_tie rfl ⟨rfl,rfl⟩ (by kernel_rfl) rfl
    (fun f fn hf hfn=>by
      obtain rfl:f=7:=Option.some.inj ((show Tryz.prog.funcNamed Rows.mouldLinesRow.func=some 7 by kernel_rfl).symm.trans hf)|>.symm
      obtain rfl:fn=Tryz.f7:=(Option.some.inj (Tryz.func7.symm.trans hfn)).symm
      exact⟨by kernel_rfl,fun j t ht=>by
        rw[Tryz.params7] at ht
        have hm:t∈[9,3]:=by simpa using Array.mem_of_getElem? ht
        have hall:([9,3].all fun u=>!Tryz.prog.wantsStandIn u)=true:=by kernel_rfl
        exact(show Tryz.prog.wantsStandIn t=false by simpa using List.all_eq_true.1 hall t hm)⟩)
    (by kernel_rfl)
#print axioms proved
end Go.Proofs.YtgklikkddckgbaaGreatDoor.lawMouldLines

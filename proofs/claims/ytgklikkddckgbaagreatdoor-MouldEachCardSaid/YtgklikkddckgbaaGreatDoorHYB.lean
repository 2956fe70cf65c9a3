import Derived.Test.YtgklikkddckgbaaGreatDoorHAA
import Derived.Test.YtgklikkddckgbaaGreatDoorRows
import Derived.WalkLawsBesides
import Derived.WalkSpells
import Derived.Deep.Quiet
import Derived.Lib.Hide
import Derived.RangeFuncRecord
/- Lemmas of the claim. -/
set_option linter.all false
namespace Go.Proofs.YtgklikkddckgbaaGreatDoor.Mo
open Go.RowKit
theorem check_nil (r:Int) (w:World):Calls Tryz.prog 38 #[.pointer none,.int .i64 r] w fun e w'=>e=.returned (.int .i64 1)∧w=w':=by
  go_enter Tryz.func38,Tryz.ntmps38;go_wp2_with fail;go_ret;exact⟨rfl,rfl⟩
theorem size_nil (r:Int) (w:World):Calls Tryz.prog 23 #[.pointer none,.int .i64 r] w fun e w'=>e=.returned (.tuple #[.int .i64 0,.int .i64 1])∧w=w':=by
  have Hc:=qh (check_nil r w);go_enter Tryz.func23,Tryz.ntmps23;go_wp2_with fail;refine Hc.out.mono ?_;rintro e w2 ⟨rfl,rfl⟩;go_wp2_with fail;go_ret2;exact⟨rfl,rfl⟩
theorem lines_nil (r:Int) (w:World):Calls Tryz.prog 21 #[.pointer none,.int .i64 r] w fun e w'=>e=.returned (.tuple #[.slice none 0 0,.int .i64 1])∧w=w':=by
  have Hc:=qh (check_nil r w);go_enter Tryz.func21,Tryz.ntmps21;go_wp2_with fail;refine Hc.out.mono ?_;rintro e w2 ⟨rfl,rfl⟩;go_wp2_with fail;go_ret2;exact⟨rfl,rfl⟩
theorem scheme_end {W:World} {T:Array Value} {Q:Ending→World→Prop} {P:Nat} {v0 v1 z:Value} (h4:T.getD 4 undef=.pointer (some ⟨P,0,none⟩)) (h5:T.getD 5 undef=z) (r:W.heap[P]?=some (.cells #[v0,v1] 60 (0,0))) (hQ:Q (.returned (.tuple #[.agg #[v0,v1],z])) W):
    bodyPost Tryz.prog Tryz.f24 Q Exit.ret {tmps:=T,defers:=[]} W:=by
  have d0:W.cell? ⟨P,0,none⟩=some v0:=qc _ _ _ _ _ (0,0) r;have d1:W.cell? ⟨P,1,none⟩=some v1:=qc _ _ _ _ _ (0,0) r;have h4':T[4]?.getD undef=.pointer (some ⟨P,0,none⟩):=by simpa using h4
  have h5':T[5]?.getD undef=z:=by simpa using h5
  refine bodyPost_ret (v:=.tuple #[.agg #[v0,v1],z]) ?_ rfl hQ;simp[results,Tryz.f24,go_sem,h4',h5',d0,d1,Tryz.isAgg60,Tryz.sizeOf60]
theorem scheme_nil (r:Int) (w:World):Calls Tryz.prog 24 #[.pointer none,.int .i64 r] w fun e w'=>e=.returned (.tuple #[.agg #[.slice none 0 0,.slice none 0 0],.int .i64 1])∧Below w.heap.size w w':=by
  have Hc:=qh (fun W=>check_nil r W);have hb0:Below w.heap.size w (w.alloc (.cells #[.slice none 0 0,.slice none 0 0] 60)):=(qb _ _).alloc (ql _) _;have Hb0:=qh hb0;have hx:=qn w (.cells #[.slice none 0 0,.slice none 0 0] 60);have Hx:=qh hx;clear hb0 hx;go_enter Tryz.func24,Tryz.ntmps24;go_wp2_with fail;refine(Hc.out _).mono ?_;rintro e w2 ⟨rfl,rfl⟩;go_wp2_with fail;exact scheme_end rfl rfl Hx.out ⟨rfl,Hb0.out⟩
theorem fit_nil (r:Int) (w:World):Calls Tryz.prog 15 #[.pointer none,.int .i64 r] w fun e w'=>e=.returned (.tuple #[.int .i64 0,.bool false])∧w=w':=by
  go_enter Tryz.func15,Tryz.ntmps15;go_wp2_with fail;go_ret2;exact⟨rfl,rfl⟩
theorem rounds_nil (w:World):Calls Tryz.prog 22 #[.pointer none] w fun e w'=>e=.returned (.tuple #[.int .i64 0,.int .i64 0])∧w=w':=by
  go_enter Tryz.func22,Tryz.ntmps22;go_wp2_with fail;go_ret2;exact⟨rfl,rfl⟩
theorem name_nil (w:World):Calls Tryz.prog 31 #[.pointer none] w fun e w'=>e=.returned (.string ⟨#[]⟩)∧w=w':=by
  go_enter Tryz.func31,Tryz.ntmps31;go_wp2_with fail;go_ret;exact⟨rfl,rfl⟩
theorem print_nil (w:World):Calls Tryz.prog 29 #[.pointer none] w fun e w'=>e=.returned (.string ⟨#[]⟩)∧w=w':=by
  go_enter Tryz.func29,Tryz.ntmps29;go_wp2_with fail;go_ret;exact⟨rfl,rfl⟩
theorem metres_nil (w:World):Calls Tryz.prog 33 #[.pointer none] w fun e w'=>e=.returned (.slice none 0 0)∧w=w':=by
  go_enter Tryz.func33,Tryz.ntmps33;go_wp2_with fail;go_ret;exact⟨rfl,rfl⟩
theorem each_any (vf:Value) (r:Int) (w:World) (hf:vf=.pointer none∨∃b,vf=.pointer (some ⟨b,0,none⟩)):Calls Tryz.prog 18 #[vf,.int .i64 r] w fun e w'=>e=.returned (.func (.func 37) #[] #[.pointer (some ⟨w.heap.size,0,none⟩),.pointer (some ⟨w.heap.size+1,0,none⟩)])∧w'=(w.alloc (.cells #[vf] 24)).alloc (.cells #[.int .i64 r] 3):=by
  rcases hf with rfl|⟨b,rfl⟩
  · go_enter Tryz.func18,Tryz.ntmps18
    go_wp2_with fail;go_ret;exact⟨rfl,rfl⟩
  · go_enter Tryz.func18,Tryz.ntmps18
    go_wp2_with fail;go_ret;exact⟨rfl,rfl⟩
theorem each1_nil (l fb rb:Nat) (r:Int) (w:World) (hf:w.heap[fb]?=some (.cells #[.pointer none] 24 (0,0))) (hr:w.heap[rb]?=some (.cells #[.int .i64 r] 3 (0,0))):
    Calls Tryz.prog 37 #[.func (.yield l) #[] #[],.pointer (some ⟨fb,0,none⟩),.pointer (some ⟨rb,0,none⟩)] w fun e w'=>(∃v,e=.returned v)∧w=w':=by
  have c0:=qc _ _ 0 _ 24 (0,0) hf;have c1:=qc _ _ 0 _ 3 (0,0) hr;have Hc:=qh (check_nil r w);clear hf hr;go_enter Tryz.func37,Tryz.ntmps37;go_wp2_with fail;refine Hc.out.mono ?_;rintro e w2 ⟨rfl,rfl⟩;go_wp2_with fail
  (try simp only[Exit.inBlock,Exit.then])
  refine bodyPost_ret (results_none rfl _ _ _) rfl ?_;exact⟨⟨_,rfl⟩,rfl⟩
end Go.Proofs.YtgklikkddckgbaaGreatDoor.Mo

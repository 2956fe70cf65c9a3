import Derived.Test.YtgklikkddckgbaaGreatDoorHAA
import Derived.Test.YtgklikkddckgbaaGreatDoorRows
import Derived.WalkLawsBesides
import Derived.WalkSpells
import Derived.Deep.Quiet
import Derived.Lib.Hide
import Derived.RangeFuncRecord
/- Lemmas of the claim. -/
set_option linter.all false
namespace Go.Proofs.YtgklikkddckgbaaGreatDoor.Mo
open Go.RowKit
theorem each_any (vf:Value) (r:Int) (w:World) (hf:vf=.pointer none∨∃b,vf=.pointer (some ⟨b,0,none⟩)):Calls Tryz.prog 18 #[vf,.int .i64 r] w fun e w'=>e=.returned (.func (.func 37) #[] #[.pointer (some ⟨w.heap.size,0,none⟩),.pointer (some ⟨w.heap.size+1,0,none⟩)])∧w'=(w.alloc (.cells #[vf] 24)).alloc (.cells #[.int .i64 r] 3):=by
  rcases hf with rfl|⟨b,rfl⟩
  · go_enter Tryz.func18,Tryz.ntmps18
    go_wp2_with fail;go_ret;exact⟨rfl,rfl⟩
  · go_enter Tryz.func18,Tryz.ntmps18
    go_wp2_with fail;go_ret;exact⟨rfl,rfl⟩

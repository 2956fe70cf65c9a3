import Derived.Test.YtgklikkddckgbaaGreatDoorHBD
/- Lemmas of the claim. -/
set_option linter.all false
namespace Go.Proofs.YtgklikkddckgbaaGreatDoor.Mo
open Go.RowKit
def YD0:YD:=⟨0,⟨0,0,0,0,0,0,0,[],0⟩,.nilFunc⟩
theorem ydC_get:∀(xs:List YD) (k o:Nat),k<xs.length→o<9→(ydC xs)[k*9+o]?=(dmC (xs.getD k YD0).d (xs.getD k YD0).v)[o]?
  |[],k,o,hk,_=>by simp at hk
  |x::xs,0,o,_,ho=>by
   unfold ydC;rw[List.flatMap_cons,List.getElem?_append_left (by simp[dmC];omega)];simp
  |x::xs,k+1,o,hk,ho=>by
   have ih:=ydC_get xs k o (by simpa using hk) ho;unfold ydC at ih⊢;rw[List.flatMap_cons,List.getElem?_append_right (by simp[dmC];omega)];have e:(k+1)*9+o-(dmC x.d x.v).toList.length=k*9+o:=(by simp[dmC];omega);rw[e,ih];simp
theorem DmsM.get {w:World} {B g n c:Nat} {xs:List YD} (h:DmsM w B (.slice (some ⟨g,0,none⟩) n c) xs) (hn:xs.length=n) {k:Nat} (hk:k<n) (o:Nat) (ho:o<9):w.cell? ⟨g,k*9+o,none⟩=(dmC (xs.getD k YD0).d (xs.getD k YD0).v)[o]?:=by
  have h1:=h.o;rw[hn] at h1;exact(h1.cellAt (k*9+o) (by omega)).trans (ydC_get xs k o (by omega) ho)

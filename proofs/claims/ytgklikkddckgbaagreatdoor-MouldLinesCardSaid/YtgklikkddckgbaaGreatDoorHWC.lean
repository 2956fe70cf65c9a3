import Derived.Test.YtgklikkddckgbaaGreatDoorHWB
import Derived.Test.YtgklikkddckgbaaGreatDoorHBI
import Derived.Test.YtgklikkddckgbaaGreatDoorHBK
/- Lemmas of the claim. -/
set_option linter.all false
namespace Go.Proofs.YtgklikkddckgbaaGreatDoor.Mo
open Go.RowKit
def FitR (rows:List Rw) (least most lines n:Int) (ok:Bool):Prop:=
  (ok=true∧least≤n∧n≤most∧za6 rows n=lines∧∀j,least≤j→j<n→za6 rows j≠lines)∨(ok=false∧n=0∧∀j,least≤j→j≤most→za6 rows j≠lines)
theorem FitR.hit {rows:List Rw} {least most lines n k:Int} {ok:Bool} (h:FitR rows least most lines n ok) (h1:least≤k) (h2:k≤most) (hs:za6 rows k=lines) (hno:∀j,least≤j→j<k→za6 rows j≠lines):ok=true∧n=k:=by
  rcases h with⟨e,a1,a2,a3,a4⟩|⟨_,_,a⟩
  · refine⟨e,?_⟩
    rcases Int.lt_trichotomy n k with h|h|h
    · exact absurd a3 (hno n a1 h)
    · exact h
    · exact absurd hs (a4 k h1 h)
  · exact absurd hs (a k h1 h2)
theorem bel_on {A W2 W3:World} (h:Below A.heap.size A W2) (h2:Below W2.heap.size W2 W3):Below A.heap.size A W3:=h.trans (h2.mono h.size)
theorem row_at {w w':World} {b:Nat} {o:Obj} (h:w.heap[b]?=some o) (hb:Below w.heap.size w w'):w'.heap[b]?=some o:=(hb.block b (qg h).1).trans h
theorem dms_at {w:World} {B n c:Nat} {A:Option Addr} {xs:List YD} {ds:List Dm} (h:DmsM w B (.slice A n c) xs) (hd:xs.map YD.d=ds) (hn:ds.length=n) {k:Nat} (hk:k<n):
    ∃(g:Nat) (d:Dm) (Ah:Option Addr) (ch:Nat),A=some ⟨g,0,none⟩∧g<w.heap.size∧ds[k]?=some d∧(∀o,o<9→w.cell? ⟨g,k*9+o,none⟩=(dmC d (.slice Ah d.has.length ch))[o]?)∧w.ownsRow B 3 1 (.slice Ah d.has.length ch) d.has.length (intC d.has)∧d.has.length≤4:=by
  have hx:xs.length=n:=by rw[←hn,←hd,List.length_map]
  have hkx:k<xs.length:=by omega
  have hget:xs.getD k YD0=xs[k]:=by simp[List.getD_eq_getElem?_getD,hkx]
  have hm:=h.h (xs.getD k YD0) (by rw[hget];exact qM _);obtain⟨Ah,ch,hv⟩:=zab hm.1;rcases h.o.2 with⟨_,e0⟩|⟨g,cap,cur,e,_,hg,hcap,_⟩
  · omega
  · cases e
    refine⟨g,(xs.getD k YD0).d,Ah,ch,rfl,(qg hg).1,?_,fun o ho=>?_,?_,hm.2⟩
    · rw[←hd,hget];simp[hkx]
    · rw[←hv];exact h.get hx hk o ho
    · rw[←hv];exact hm.1

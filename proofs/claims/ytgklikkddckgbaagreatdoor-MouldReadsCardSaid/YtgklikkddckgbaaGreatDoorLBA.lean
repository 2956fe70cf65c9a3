import Derived.Test.YtgklikkddckgbaaGreatDoorLDN
/- Lemmas. -/
set_option linter.all false
namespace Go.Proofs.YtgklikkddckgbaaGreatDoor.Mo
open Go.RowKit
theorem pL.parts {W:World} {B fb:Nat} {f:Fm} {vl vm vs:Value} (h:pL W B fb f vl vm vs):∃(vis:List Value) (vhss:Nat->List Value),RwM W B vs f.rows vis/\∀k,k<f.rows.length->QB W B f.gN (vis.getD k .nilFunc) (f.rows.getD k ⟨false,[]⟩).items (vhss k):=by
  obtain⟨vis,h1,h2⟩:=h.r;refine⟨vis,λk=>if hk:k<f.rows.length then Classical.choose (h2 k hk) else [],h1,λk hk=>?_⟩;simp only[hk,jm];exact Classical.choose_spec (h2 k hk)
theorem zpa {W:World} {B c:Nat} {A:Option Addr} {rows:List Rw} {vis:List Value} (h:RwM W B (.slice A rows.length c) rows vis) {k:Nat} (hk:k<rows.length):
    ∃g,A=some ⟨g,0,none⟩/\W.cell? ⟨g,k*2,none⟩=some (.bool (rows.getD k ⟨false,[]⟩).round)/\W.cell? ⟨g,k*2+1,none⟩=some (vis.getD k .nilFunc):=by
  rcases h.o.2 with⟨_,e0⟩|⟨g,cap,cur,e,_,hg,hcap,_⟩
  · omega
  · cases e
    have hlen:=zhn rows vis h.n;have hget:=zho rows vis k h.n hk;exact⟨g,rfl,(h.o.cellAt (k*2) (by omega)).trans hget.1,(h.o.cellAt (k*2+1) (by omega)).trans hget.2⟩
theorem zoN {W:World} {B c:Nat} {gN:List UInt8} {A:Option Addr} {l:List It} {pD:List Value} (h:QB W B gN (.slice A l.length c) l pD) {k:Nat} (hk:k<l.length):
    ∃g,A=some ⟨g,0,none⟩/\∀o,o<13->W.cell? ⟨g,k*13+o,none⟩=(Qs gN (l.getD k px).cls (l.getD k px).ref (l.getD k px).gP (l.getD k px).at_ (pD.getD k .nilFunc))[o]?:=by
  rcases h.o.2 with⟨_,e0⟩|⟨g,cap,cur,e,_,hg,hcap,_⟩
  · omega
  · cases e
    have hlen:=zih gN l pD h.n;refine⟨g,rfl,λo ho=>?_⟩;exact(h.o.cellAt (k*13+o) (by omega)).trans (zii gN l pD k o h.n hk ho)
end Go.Proofs.YtgklikkddckgbaaGreatDoor.Mo

import Derived.Test.YtgklikkddckgbaaGreatDoorLZO
/- Lemmas. -/
set_option linter.all false
namespace Go.Proofs.YtgklikkddckgbaaGreatDoor.Mo
open Go.RowKit
theorem znB {W:World} {B e z n g:Nat} {v:Value} {ys:List Value} (h:W.ownsRow B e z v n ys) (hg:v.ownBlock=some g):∃cur,W.heap[g]?=some (.cells cur e (0,0)):=by
  rcases h.2 with⟨h1,_⟩|⟨g',cap,cur,h1,_,h2,_⟩
  · rw[h1] at hg;cases hg
  · rw[h1] at hg;cases hg;exact⟨_,h2⟩
theorem uF {W:World} {B e z n g k:Nat} {v u:Value} {ys:List Value} (h:W.ownsRow B e z v n ys):∃ys',(W.setCell ⟨g,k,none⟩ u).ownsRow B e z v n ys':=by
  obtain⟨A,c,rfl⟩:=pJ h;by_cases e:(Value.slice A n c).ownBlock=some g
  · rcases h.2 with⟨e2,_⟩|⟨g',cap,cur,e2,_⟩
    · cases e2;cases e
    · cases e2
      have:g'=g:=(by simpa [Value.ownBlock] using e);subst this;exact⟨_,(h.stored k u).1⟩
  · exact⟨ys,xg h e u⟩
theorem zmT {W:World} {B e z n g k L:Nat} {v u:Value} {ys:List Value} (h:W.ownsRow B e z v n ys) (hL:g<B):(W.setCell ⟨g,k,none⟩ u).ownsRow B e z v n ys:=
  xg h (by
    intro e;have:=(h.lt g e).1;omega) u
structure SX (B E:Nat) (m:Met) (vf ve vb:Value) (vs:List Value) (W:World):Prop where
  vl:vs.length=m.gO.length
  gO:∃xs,W.ownsRow B 81 2 vf m.gO.length xs/\∀k,k<m.gO.length->xs[k*2+1]?=some (vs.getD k yK)
  gR:∀k,k<m.gO.length->∃ys,W.ownsRow B 83 2 (vs.getD k yK) (m.gO.getD k default).gR.length ys
  ends:∃ys,W.ownsRow B 83 2 ve m.ends.length ys
  gS:∃ys,W.ownsRow B 85 2 vb m.gS.length ys
  ah:∀v,v=vf∨v=ve∨v=vb∨v∈vs->∀g,v.ownBlock=some g->g<E
theorem CM.sx {B E:Nat} {m:Met} {vf ve vb:Value} {vs:List Value} {W:World} (h:CM B E m vf ve vb vs W):SX B E m vf ve vb vs W:=
  ⟨h.vl,⟨_,h.gO,λk hk=>(zcr m.gO vs k h.vl hk).2⟩,λk hk=>⟨_,h.gR k hk⟩,⟨_,h.ends⟩,⟨_,h.gS⟩,h.ah⟩
structure Ky (S i:Nat) (ms:List Met) (v:Value) (cs:List (Value×Value×Value)) (us:Nat->List Value) (lo:Nat->Nat) (W0 W:World):Prop where
  b:Below S W0 W
  o:W.ownsRow S 79 3 v ms.length (vS cs)
  rest:∀k,i<k->k<ms.length->CM (lo k) (lo (k+1)) (ms.getD k yO) (cs.getD k default).1 (cs.getD k default).2.1 (cs.getD k default).2.2 (us k) W
  cur:SX (lo i) (lo (i+1)) (ms.getD i yO) (cs.getD i default).1 (cs.getD i default).2.1 (cs.getD i default).2.2 (us i) W
  low:S<=lo i
  up:∀k,i<k->k<ms.length->lo (i+1)<=lo k
theorem CM.off {B E g k:Nat} {m:Met} {vf ve vb u:Value} {vs:List Value} {W:World} (h:CM B E m vf ve vb vs W) (hg:g<B):CM B E m vf ve vb vs (W.setCell ⟨g,k,none⟩ u):=
  ⟨h.vl,zmT (L:=0) h.gO hg,λk hk=>zmT (L:=0) (h.gR k hk) hg,zmT (L:=0) h.ends hg,zmT (L:=0) h.gS hg,h.ah⟩
theorem Ky.base {S i g k e:Nat} {ms:List Met} {v u:Value} {cs:List (Value×Value×Value)} {us:Nat->List Value} {lo:Nat->Nat} {W0 W:World} {cur:Array Value} (h:Ky S i ms v cs us lo W0 W) (hg:lo i<=g) (hE:g<lo (i+1)) (hb:W.heap[g]?=some (.cells cur e (0,0))) (he:79≠e)
    (hx:SX (lo i) (lo (i+1)) (ms.getD i yO) (cs.getD i default).1 (cs.getD i default).2.1 (cs.getD i default).2.2 (us i) (W.setCell ⟨g,k,none⟩ u)):Ky S i ms v cs us lo W0 (W.setCell ⟨g,k,none⟩ u):=
  ⟨h.b.setCell (p:=⟨g,k,none⟩) (qm h.low hg) _,uE h.o hb he,λk' h1 h2=>(h.rest k' h1 h2).off (qD hE (h.up k' h1 h2)),hx,h.low,h.up⟩
theorem Ky.putRow {S i g k e n:Nat} {ms:List Met} {v v' u:Value} {cs:List (Value×Value×Value)} {us:Nat->List Value} {lo:Nat->Nat} {W0 W:World} {ys:List Value} (h:Ky S i ms v cs us lo W0 W)
    (hr:W.ownsRow (lo i) e 2 v' n ys) (hv:v'.ownBlock=some g) (hE:g<lo (i+1)) (he:79≠e) (he2:81≠e):Ky S i ms v cs us lo W0 (W.setCell ⟨g,k,none⟩ u):=by
  obtain⟨cur,hb⟩:=znB hr hv;obtain⟨xs,hf,hfx⟩:=h.cur.gO;refine h.base (hr.lt g hv).1 hE hb he ⟨h.cur.vl,⟨xs,uE hf hb he2,hfx⟩,λk' hk'=>?_,?_,?_,h.cur.ah⟩
  · obtain⟨ys',hy⟩:=h.cur.gR k' hk';exact uF hy
  · obtain⟨ys',hy⟩:=h.cur.ends;exact uF hy
  · obtain⟨ys',hy⟩:=h.cur.gS;exact uF hy
theorem Ky.cell {S i g c:Nat} {ms:List Met} {cs:List (Value×Value×Value)} {us:Nat->List Value} {lo:Nat->Nat} {W0 W:World} (h:Ky S i ms (.slice (some ⟨g,0,none⟩) ms.length c) cs us lo W0 W) (hl:cs.length=ms.length) (hi:i<ms.length):
    W.cell? ⟨g,i*3,none⟩=some (cs.getD i default).1/\W.cell? ⟨g,i*3+1,none⟩=some (cs.getD i default).2.1/\W.cell? ⟨g,i*3+2,none⟩=some (cs.getD i default).2.2:=by
  have hlen:=ui cs;rw[hl] at hlen;have hget:=uj cs i (by rw[hl];exact hi);exact⟨(h.o.cellAt (i*3) (by omega)).trans hget.1,(h.o.cellAt (i*3+1) (by omega)).trans hget.2.1,(h.o.cellAt (i*3+2) (by omega)).trans hget.2.2⟩
theorem Ky.own {S i k:Nat} {ms:List Met} {v:Value} {cs:List (Value×Value×Value)} {us:Nat->List Value} {lo:Nat->Nat} {W0 W:World} (h:Ky S i ms v cs us lo W0 W) (hk:k<(ms.getD i yO).gO.length):
    ∃g c,(cs.getD i default).1=.slice (some ⟨g,0,none⟩) (ms.getD i yO).gO.length c/\(∃u,W.cell? ⟨g,k*2,none⟩=some u)/\W.cell? ⟨g,k*2+1,none⟩=some ((us i).getD k yK)/\W.frozen? ⟨g,k*2,none⟩=false/\∀z,Ky S i ms v cs us lo W0 (W.setCell ⟨g,k*2,none⟩ z):=by
  obtain⟨xs,hf,hfx⟩:=h.cur.gO;obtain⟨g,cap,hv⟩:=Zv hf (by omega);have hlen:=hf.1;have hE:=h.cur.ah _ (.inl rfl) g (by rw[hv];rfl);obtain⟨cur,hb⟩:=znB hf (g:=g) (by rw[hv];rfl);have hg:=(hf.lt g (by rw[hv];rfl)).1;have hf0:=hf;rw[hv] at hf;refine⟨g,cap,hv,⟨xs[k*2]'(by omega),(hf.cellAt (k*2) (by omega)).trans (qz _)⟩,(hf.cellAt (k*2+1) (by omega)).trans (hfx k hk),hf.frozenAt _,λz=>?_⟩;refine h.base hg hE hb (by decide) ⟨h.cur.vl,⟨xs.set (k*2) z,?_,λk' hk'=>?_⟩,λk' hk'=>?_,?_,?_,h.cur.ah⟩
  · rw[hv];exact(hf.stored (k*2) z).1
  · rw[List.getElem?_set_ne (by omega)];exact hfx k' hk'
  · obtain⟨ys',hy⟩:=h.cur.gR k' hk';exact uF hy
  · obtain⟨ys',hy⟩:=h.cur.ends;exact uF hy
  · obtain⟨ys',hy⟩:=h.cur.gS;exact uF hy
theorem Ky.slot {S i e n j:Nat} {ms:List Met} {v v':Value} {cs:List (Value×Value×Value)} {us:Nat->List Value} {lo:Nat->Nat} {W0 W:World} {ys:List Value} (h:Ky S i ms v cs us lo W0 W) (hr:W.ownsRow (lo i) e 2 v' n ys) (hE:∀g,v'.ownBlock=some g->g<lo (i+1)) (he:79≠e) (he2:81≠e) (hj:j<n):
    ∃g c,v'=.slice (some ⟨g,0,none⟩) n c/\(∃u,W.cell? ⟨g,j*2+1,none⟩=some u)/\W.frozen? ⟨g,j*2+1,none⟩=false/\∀z,Ky S i ms v cs us lo W0 (W.setCell ⟨g,j*2+1,none⟩ z):=by
  obtain⟨g,cap,rfl⟩:=Zv hr (by omega);have hlen:=hr.1;refine⟨g,cap,rfl,⟨ys[j*2+1]'(by omega),(hr.cellAt (j*2+1) (by omega)).trans (qz _)⟩,hr.frozenAt _,λz=>h.putRow hr rfl (hE g rfl) he he2⟩
theorem Ky.way {S i k j:Nat} {ms:List Met} {v:Value} {cs:List (Value×Value×Value)} {us:Nat->List Value} {lo:Nat->Nat} {W0 W:World} (h:Ky S i ms v cs us lo W0 W) (hk:k<(ms.getD i yO).gO.length) (hj:j<((ms.getD i yO).gO.getD k default).gR.length):
    ∃g c,(us i).getD k yK=.slice (some ⟨g,0,none⟩) ((ms.getD i yO).gO.getD k default).gR.length c/\(∃u,W.cell? ⟨g,j*2+1,none⟩=some u)/\W.frozen? ⟨g,j*2+1,none⟩=false/\∀z,Ky S i ms v cs us lo W0 (W.setCell ⟨g,j*2+1,none⟩ z):=by
  obtain⟨ys,hy⟩:=h.cur.gR k hk;have hv:=h.cur.vl;refine h.slot hy (λg hg=>h.cur.ah _ (.inr (.inr (.inr ?_))) g hg) (by decide) (by decide) hj;rw[qj,qz (by omega)];exact qM _
theorem Ky.ztl {S i k:Nat} {ms:List Met} {v:Value} {cs:List (Value×Value×Value)} {us:Nat->List Value} {lo:Nat->Nat} {W0 W:World} (h:Ky S i ms v cs us lo W0 W) (hk:k<(ms.getD i yO).gO.length):∃A c,(us i).getD k yK=.slice A ((ms.getD i yO).gO.getD k default).gR.length c:=by
  obtain⟨ys,hy⟩:=h.cur.gR k hk;obtain⟨A,c,e⟩:=pJ hy;exact⟨A,c,e⟩
theorem Ky.ztm {S i j:Nat} {ms:List Met} {v:Value} {cs:List (Value×Value×Value)} {us:Nat->List Value} {lo:Nat->Nat} {W0 W:World} (h:Ky S i ms v cs us lo W0 W) (hj:j<(ms.getD i yO).ends.length):
    ∃g c,(cs.getD i default).2.1=.slice (some ⟨g,0,none⟩) (ms.getD i yO).ends.length c/\(∃u,W.cell? ⟨g,j*2+1,none⟩=some u)/\W.frozen? ⟨g,j*2+1,none⟩=false/\∀z,Ky S i ms v cs us lo W0 (W.setCell ⟨g,j*2+1,none⟩ z):=by
  obtain⟨ys,hy⟩:=h.cur.ends;exact h.slot hy (λg hg=>h.cur.ah _ (.inr (.inl rfl)) g hg) (by decide) (by decide) hj
theorem Ky.ztn {S i j:Nat} {ms:List Met} {v:Value} {cs:List (Value×Value×Value)} {us:Nat->List Value} {lo:Nat->Nat} {W0 W:World} (h:Ky S i ms v cs us lo W0 W) (hj:j<(ms.getD i yO).gS.length):
    ∃g c,(cs.getD i default).2.2=.slice (some ⟨g,0,none⟩) (ms.getD i yO).gS.length c/\(∃u,W.cell? ⟨g,j*2+1,none⟩=some u)/\W.frozen? ⟨g,j*2+1,none⟩=false/\∀z,Ky S i ms v cs us lo W0 (W.setCell ⟨g,j*2+1,none⟩ z):=by
  obtain⟨ys,hy⟩:=h.cur.gS;exact h.slot hy (λg hg=>h.cur.ah _ (.inr (.inr (.inl rfl))) g hg) (by decide) (by decide) hj
structure Yx (S i:Nat) (ms:List Met) (v:Value) (cs:List (Value×Value×Value)) (us:Nat->List Value) (lo:Nat->Nat) (W0 W:World):Prop where
  b:Below S W0 W
  o:W.ownsRow S 79 3 v ms.length (vS cs)
  rest:∀k,i<=k->k<ms.length->CM (lo k) (lo (k+1)) (ms.getD k yO) (cs.getD k default).1 (cs.getD k default).2.1 (cs.getD k default).2.2 (us k) W
theorem Yx.start {S:Nat} {ms:List Met} {v:Value} {cs:List (Value×Value×Value)} {us:Nat->List Value} {lo:Nat->Nat} {W0 W:World} (h:MsC S ms ms.length v cs us lo W) (hb:Below S W0 W):Yx S 0 ms v cs us lo W0 W:=⟨hb,h.o,λk _ hk=>h.m k hk⟩
theorem Yx.below {S i:Nat} {ms:List Met} {v:Value} {cs:List (Value×Value×Value)} {us:Nat->List Value} {lo:Nat->Nat} {W0 W W':World} (h:Yx S i ms v cs us lo W0 W) (hS:S<=W.heap.size) (hb:Below W.heap.size W W'):Yx S i ms v cs us lo W0 W':=⟨h.b.trans (hb.mono hS),h.o.kept (Zq hb none) ZH,λk h1 h2=>(h.rest k h1 h2).below hb⟩
theorem Yx.t {S i:Nat} {ms:List Met} {v:Value} {cs:List (Value×Value×Value)} {us:Nat->List Value} {lo:Nat->Nat} {W0 W:World} (h:Yx S i ms v cs us lo W0 W) (hi:i<ms.length) (hlow:S<=lo 0) (hup:∀a b,a<=b->b<=ms.length->lo a<=lo b):Ky S i ms v cs us lo W0 W:=
  ⟨h.b,h.o,λk h1 h2=>h.rest k (by omega) h2,(h.rest i (ql _) hi).sx,qm hlow (hup 0 i (qF _) (by omega)),λk h1 h2=>hup _ _ h1 (by omega)⟩
theorem Ky.next {S i:Nat} {ms:List Met} {v:Value} {cs:List (Value×Value×Value)} {us:Nat->List Value} {lo:Nat->Nat} {W0 W:World} (h:Ky S i ms v cs us lo W0 W):Yx S (i+1) ms v cs us lo W0 W:=⟨h.b,h.o,λk h1 h2=>h.rest k h1 h2⟩
theorem Yx.at {S i:Nat} {ms:List Met} {v:Value} {cs:List (Value×Value×Value)} {us:Nat->List Value} {lo:Nat->Nat} {W0 W:World} (h:Yx S i ms v cs us lo W0 W) (hl:cs.length=ms.length) (hi:i<ms.length) (hm:vp (ms.getD i yO)=true):
    ∃g c Af Ae Ab cf ce cb,v=.slice (some ⟨g,0,none⟩) ms.length c/\cs.getD i default=(.slice Af (ms.getD i yO).gO.length cf,.slice Ae (ms.getD i yO).ends.length ce,.slice Ab (ms.getD i yO).gS.length cb)/\g<W.heap.size/\
    W.cell? ⟨g,i*3,none⟩=some (.slice Af (ms.getD i yO).gO.length cf)/\W.cell? ⟨g,i*3+1,none⟩=some (.slice Ae (ms.getD i yO).ends.length ce)/\W.cell? ⟨g,i*3+2,none⟩=some (.slice Ab (ms.getD i yO).gS.length cb)/\pW W W.heap.size Af Ae Ab cf ce cb (ms.getD i yO):=by
  have hC:=h.rest i (ql _) hi;obtain⟨Af,Ae,Ab,cf,ce,cb,e1,e2,e3,hM⟩:=hC.zp5 (uW hm);obtain⟨g,c,rfl⟩:=Zv h.o (by omega);have hlen:=ui cs;rw[hl] at hlen;have hget:=uj cs i (by rw[hl];exact hi);rw[e1,e2,e3] at hget;exact⟨g,c,Af,Ae,Ab,cf,ce,cb,rfl,by rw[<-e1,<-e2,<-e3],(h.o.lt g rfl).2,(h.o.cellAt (i*3) (by omega)).trans hget.1,(h.o.cellAt (i*3+1) (by omega)).trans hget.2.1,(h.o.cellAt (i*3+2) (by omega)).trans hget.2.2,hM⟩
structure SpQ (m:Met) (i g:Nat) (Af:Option Addr) (cf:Nat) (Ae:Option Addr) (ce:Nat) (Ab:Option Addr) (cb:Nat) (zs:List Value) (Q:World->Prop):Prop where
  cell:∀W,Q W->W.cell? ⟨g,i*3,none⟩=some (.slice Af m.gO.length cf)/\W.cell? ⟨g,i*3+1,none⟩=some (.slice Ae m.ends.length ce)/\W.cell? ⟨g,i*3+2,none⟩=some (.slice Ab m.gS.length cb)
  own:∀W,Q W->∀k,k<m.gO.length->∃g,Af=some ⟨g,0,none⟩/\(∃u,W.cell? ⟨g,k*2,none⟩=some u)/\W.cell? ⟨g,k*2+1,none⟩=some (zs.getD k yK)/\W.frozen? ⟨g,k*2,none⟩=false/\∀z,Q (W.setCell ⟨g,k*2,none⟩ z)
  wayL:∀k,k<m.gO.length->∃A c,zs.getD k yK=.slice A (m.gO.getD k default).gR.length c
  way:∀W,Q W->∀k j,k<m.gO.length->j<(m.gO.getD k default).gR.length->∃g c,zs.getD k yK=.slice (some ⟨g,0,none⟩) (m.gO.getD k default).gR.length c/\(∃u,W.cell? ⟨g,j*2+1,none⟩=some u)/\W.frozen? ⟨g,j*2+1,none⟩=false/\∀z,Q (W.setCell ⟨g,j*2+1,none⟩ z)
  ztm:∀W,Q W->∀j,j<m.ends.length->∃g,Ae=some ⟨g,0,none⟩/\(∃u,W.cell? ⟨g,j*2+1,none⟩=some u)/\W.frozen? ⟨g,j*2+1,none⟩=false/\∀z,Q (W.setCell ⟨g,j*2+1,none⟩ z)
  ztn:∀W,Q W->∀j,j<m.gS.length->∃g,Ab=some ⟨g,0,none⟩/\(∃u,W.cell? ⟨g,j*2+1,none⟩=some u)/\W.frozen? ⟨g,j*2+1,none⟩=false/\∀z,Q (W.setCell ⟨g,j*2+1,none⟩ z)
theorem Yx.q {S i:Nat} {ms:List Met} {v:Value} {cs:List (Value×Value×Value)} {us:Nat->List Value} {lo:Nat->Nat} {W0 W:World} (h:Yx S i ms v cs us lo W0 W) (hl:cs.length=ms.length) (hi:i<ms.length) (hm:vp (ms.getD i yO)=true) (hlow:S<=lo 0) (hup:∀a b,a<=b->b<=ms.length->lo a<=lo b):
    ∃(m:Met) (g c:Nat) (Af Ae Ab:Option Addr) (cf ce cb:Nat) (zs:List Value) (Q:World->Prop),ms.getD i yO=m/\v=.slice (some ⟨g,0,none⟩) ms.length c/\g<W.heap.size/\pW W W.heap.size Af Ae Ab cf ce cb m/\SpQ m i g Af cf Ae ce Ab cb zs Q/\
     (∀W',Yx S i ms v cs us lo W0 W'->Q W')/\(∀W',Q W'->Yx S (i+1) ms v cs us lo W0 W')/\W.cell? ⟨g,i*3,none⟩=some (.slice Af m.gO.length cf)/\W.cell? ⟨g,i*3+1,none⟩=some (.slice Ae m.ends.length ce)/\W.cell? ⟨g,i*3+2,none⟩=some (.slice Ab m.gS.length cb):=by
  obtain⟨g,c,Af,Ae,Ab,cf,ce,cb,rfl,hcs,hgl,k0,k1,k2,hM⟩:=h.at hl hi hm;have hT:=h.t hi hlow hup;refine⟨_,g,c,Af,Ae,Ab,cf,ce,cb,us i,λW'=>Ky S i ms (.slice (some ⟨g,0,none⟩) ms.length c) cs us lo W0 W',rfl,rfl,hgl,hM,⟨λW' h'=>?_,λW' h' k hk=>?_,λk hk=>hT.ztl hk,λW' h' k j hk hj=>h'.way hk hj,λW' h' j hj=>?_,λW' h' j hj=>?_⟩,λW' h'=>h'.t hi hlow hup,λW' h'=>h'.next,k0,k1,k2⟩
  · have:=h'.cell hl hi
    rw[hcs] at this;exact this
  · obtain⟨g',c',e,h1,h2,h3,h4⟩:=h'.own hk
    rw[hcs] at e;cases e;exact⟨g',rfl,h1,h2,h3,h4⟩
  · obtain⟨g',c',e,h1,h2,h3⟩:=h'.ztm hj
    rw[hcs] at e;cases e;exact⟨g',rfl,h1,h2,h3⟩
  · obtain⟨g',c',e,h1,h2,h3⟩:=h'.ztn hj
    rw[hcs] at e;cases e;exact⟨g',rfl,h1,h2,h3⟩
end Go.Proofs.YtgklikkddckgbaaGreatDoor.Mo

import Derived.Test.YtgklikkddckgbaaGreatDoorLDJ
/- Lemmas. -/
set_option linter.all false
set_option maxRecDepth 100000
set_option maxHeartbeats 2000000
namespace Go.Proofs.YtgklikkddckgbaaGreatDoor.Mo
open Go.RowKit
theorem zjT:Tryz.prog.info? 108=some Tryz.t108:=by kernel_rfl
theorem zjU:Tryz.t108.zero=some (.agg zC):=by kernel_rfl
theorem zjV:Tryz.t108.size=13:=by kernel_rfl
theorem zhr:Tryz.t108.bytes=112:=by kernel_rfl
def zfY (B rb fb:Nat) (s:ByteArray) (vl vm:Value) (w:World) (r:Except (Int×Nat) (Fm×Nat)) (e:Ending) (w':World):Prop:=Below B w w'/\
 match r with
 |.error (c,p)=>e=vU c p
 |.ok (f',j)=>e=.returned (.tuple #[])/\Rd w' rb fb s j/\pq f' j/\∃vs',pL w' B fb f' vl vm vs'
structure Yb (w W:World) (rb fb sb:Nat) (s:ByteArray) (f:Fm) (round:Bool) (i:Nat) (l:List It) (j:Nat) (vi:Value) (pD:List Value):Prop where
 rd:Rd W rb fb s j
 off:Off [rb] w W
 sbl:w.heap.size<=sb
 st:W.heap[sb]?=some (.cells #[.bool round,vi] 106 (0,0))
 its:QB W w.heap.size f.gN vi l pD
 ok:∀x∈l,uy x
 len:l.length+i<=j
theorem Yb.below {w W W':World} {rb fb sb:Nat} {s:ByteArray} {f:Fm} {round:Bool} {i:Nat} {l:List It} {j:Nat} {vi:Value} {pD:List Value} (h:Yb w W rb fb sb s f round i l j vi pD) (hb:Below W.heap.size W W'):Yb w W' rb fb sb s f round i l j vi pD:=
 ⟨h.rd.below hb,h.off.trans (Off.of_below hb (ql _) _),h.sbl,(hb.block _ (qg h.st).1).trans h.st,h.its.off (Off.of_below hb (ql _) []) pc.nil (T:=[]) (by simp) (by simp),h.ok,h.len⟩
theorem zhs (gN:List UInt8) (cls ref:Int) (ms:List Mk) (a:Nat) (A:Option Addr) (n c:Nat):∀u∈(Qs gN cls ref ms a (.slice A n c)).toList,u.oneCell'=true:=by
 intro u hu;unfold Qs at hu;simp at hu;rcases hu with rfl|rfl|rfl|rfl|rfl|rfl|rfl|rfl|rfl|rfl|rfl|rfl|rfl<;>rfl
theorem Yb.to {w W:World} {rb fb sb:Nat} {s:ByteArray} {f:Fm} {round:Bool} {i:Nat} {l:List It} {j:Nat} {vi:Value} {pD:List Value} (h:Yb w W rb fb sb s f round i l j vi pD) (hj:j+1<=s.size) (hne:sb≠rb):Yb w (W.setCell ⟨rb,1,none⟩ (.int .i64 ((j+1:Nat):Int))) rb fb sb s f round i l (j+1) vi pD:=by
 have hos:Off [rb] W (W.setCell ⟨rb,1,none⟩ (.int .i64 ((j+1:Nat):Int))):=Off.setCell W rb 1 _;exact⟨h.rd.to hj,h.off.trans hos,h.sbl,(hos.block sb (qg h.st).1 (by simp;exact hne)).trans h.st,h.its.off hos (pc.one h.rd.r) (by decide) (by decide),h.ok,by have:=h.len;omega⟩
theorem Yb.drew {w W:World} {rb fb sb:Nat} {s:ByteArray} {f:Fm} {round:Bool} {i:Nat} {l:List It} {j:Nat} {vi:Value} {pD:List Value} (h:Yb w W rb fb sb s f round i l j vi pD):Yb w W.drew rb fb sb s f round i l j vi pD:=
 h.below (ZG (qb _ _) 1)
theorem zdE {w w':World} {r:Option Nat} (h:w.grownBy w' r):Off r.toList w w':=Off.grown h (λk hk=>by rw[hk];simp)
theorem Yb.next {w W w7 w8:World} {rb fb sb B7:Nat} {s:ByteArray} {f:Fm} {round:Bool} {i:Nat} {l:List It} {j k:Nat} {vi vh v':Value} {pD:List Value} {x:It} (h:Yb w W rb fb sb s f round i l j vi pD) (hne:sb≠rb) (hof:Off [rb] W w7) (hrd:Rd w7 rb fb s k)
  (hown:w7.ownsRow B7 3 1 vh (pA x.gP).length (vY (pA x.gP))) (hB7:w.heap.size<=B7) (hx:uy x) (hlen:l.length+1+i<=k)
  (hg:w7.grownBy w8 vi.ownBlock) (VS:w8.ownsRow w.heap.size 108 13 v' (l.length+1) (uX f.gN l pD++(Qs f.gN x.cls x.ref x.gP x.at_ vh).toList)):
  Yb w (w8.setCell ⟨sb,1,none⟩ v') rb fb sb s f round i (l++[x]) k v' (pD++[vh])/\w8.cell? ⟨sb,1,none⟩=some vi/\w8.frozen? ⟨sb,1,none⟩=false:=by
 have zqE:QB w7 w.heap.size f.gN vi l pD:=h.its.off hof (pc.one h.rd.r) (by decide) (by decide);have zsn:w7.heap[sb]?=_:=(hof.block sb (qg h.st).1 (by simp;exact hne)).trans h.st;have Je:=zdE hg;have ht8:pc w7 vi.ownBlock.toList [108]:=zea zqE.o;have nin:∀{b e:Nat} {cs:Array Value} {fz:Nat×Nat},w7.heap[b]?=some (.cells cs e fz)->e≠108->b∉vi.ownBlock.toList:=λ{b e cs fz} hb he hm=>by
  obtain⟨cs',e',fz',h1,h2⟩:=ht8 b hm;rw[hb] at h1;simp at h1 h2;exact he (h1.2.1.trans h2)
 have VT:w8.heap[sb]?=_:=(Je.block sb (qg zsn).1 (nin zsn (by decide))).trans zsn;have hos:Off [sb] w8 (w8.setCell ⟨sb,1,none⟩ v'):=Off.setCell w8 sb 1 _;have hts:pc w8 [sb] [106]:=pc.one VT;have hvB:∀q,vi.ownBlock=some q->w.heap.size<=q:=λq hq=>(zqE.o.lt q hq).1;refine⟨⟨?_,?_,h.sbl,?_,⟨by simp[h.its.n],?_,?_⟩,?_,by simp;omega⟩,qc _ _ 1 _ _ (0,0) VT,qf _ _ 1 _ _ VT⟩
 ·exact(hrd.off Je (nin hrd.r (by decide))).off hos (by simp;omega)
 ·refine Off.new (L:=[sb]) (Off.new (L:=vi.ownBlock.toList) (h.off.trans hof) Je (λq hq=>.inr (hvB q (by simpa using hq)))) hos (λq hq=>.inr ?_);have:=h.sbl;simp at hq;omega
 ·exact qs w8 sb 1 _ _ v' VT
 ·rw[zgM f.gN l pD x vh h.its.n,qv,zv];exact hos.pp VS hts (by decide)
 ·intro q hq;rw[qv,zv] at hq;by_cases hql:q<l.length
  ·have e1:(pD++[vh]).getD q .nilFunc=pD.getD q .nilFunc:=by
    have:=h.its.n;simp[qj,qQ (show q<pD.length by omega)]
   have e2:(l++[x]).getD q px=l.getD q px:=by
    simp[qj,qQ hql]
   rw[e1,e2];exact hos.pp (Je.pp (zqE.h q hql) ht8 (by decide)) hts (by decide)
  ·obtain rfl:q=l.length:=by omega
   have e1:(pD++[vh]).getD l.length .nilFunc=vh:=by
    rw[<-h.its.n];simp[qj]
   have e2:(l++[x]).getD l.length px=x:=(by simp[qj]);rw[e1,e2];exact hos.pp (Je.pp (Jc hown hB7) ht8 (by decide)) hts (by decide)
 ·intro q hq;rcases qJ.1 hq with hq|hq
  ·exact h.ok q hq
  ·obtain rfl:q=x:=by simpa using hq
   exact hx
theorem Yb.fin {w W w8:World} {B rb fb sb:Nat} {s:ByteArray} {f:Fm} {round:Bool} {i i1:Nat} {l:List It} {j:Nat} {vi vl vm vs v8:Value} {pD vis:List Value} (h:Yb w W rb fb sb s f round i l j vi pD) (hm:pL w B fb f vl vm vs) (hr0:Rd w rb fb s i1) (hB:B<=w.heap.size) (hBr:B<=rb)
  (hrw:RwM W B vs f.rows vis) (hit:∀k,k<f.rows.length->∃pD,QB W B f.gN (vis.getD k .nilFunc) (f.rows.getD k (⟨false,[]⟩:Rw)).items pD) (hg:W.grownBy w8 vs.ownBlock) (VS:w8.ownsRow B 106 2 v8 (f.rows.length+1) (JD f.rows vis++[.bool round,vi])):
  pL (w8.setCell ⟨fb,3,none⟩ v8) B fb {f with rows:=f.rows++[(⟨round,l⟩:Rw)]} vl vm v8/\Rd (w8.setCell ⟨fb,3,none⟩ v8) rb fb s j/\Below B w (w8.setCell ⟨fb,3,none⟩ v8)/\(w8.setCell ⟨fb,3,none⟩ v8).heap[sb]?=some (.cells #[.bool round,vi] 106 (0,0))/\w8.cell? ⟨fb,3,none⟩=some vs/\w8.frozen? ⟨fb,3,none⟩=false/\QB (w8.setCell ⟨fb,3,none⟩ v8) w.heap.size f.gN vi l pD:=by
 have Vs:=hm.pz hr0 h.off;have Je:=zdE hg;have ht8:pc W vs.ownBlock.toList [106]:=zea hrw.o;have nin:∀{b e:Nat} {cs:Array Value} {fz:Nat×Nat},W.heap[b]?=some (.cells cs e fz)->e≠106->b∉vs.ownBlock.toList:=λ{b e cs fz} hb he hm=>by
  obtain⟨cs',e',fz',h1,h2⟩:=ht8 b hm;rw[hb] at h1;simp at h1 h2;exact he (h1.2.1.trans h2)
 have hvsb:sb∉vs.ownBlock.toList:=λhq=>by
  rw[zE] at hq;obtain⟨vis0,hr00,_⟩:=hm.r;have:=(hr00.o.lt sb hq).2;have:=h.sbl;omega
 have hf8:w8.heap[fb]?=_:=(Je.block fb Vs.lt (nin Vs.x (by decide))).trans Vs.x;have hos:Off [fb] w8 (w8.setCell ⟨fb,3,none⟩ v8):=Off.setCell w8 fb 3 _;have hts:pc w8 [fb] [92]:=pc.one hf8;have hne:=hm.ne hr0;have hfl:=hm.lt;have hsf:sb≠fb:=by have:=h.sbl;omega
 have VT:=(Je.block sb (qg h.st).1 hvsb).trans h.st;obtain⟨cs,hcs⟩:=Vs.m;obtain⟨Av,cv,Xv⟩:=pJ h.its.o;have hits:QB (w8.setCell ⟨fb,3,none⟩ v8) w.heap.size f.gN vi l pD:=(h.its.off Je ht8 (by decide) (by decide)).off hos hts (by decide) (by decide);have hbel:Below B w (w8.setCell ⟨fb,3,none⟩ v8):=by
  refine(h.off.below hB (λk hk=>by simp at hk;omega)).trans ?_;refine(Je.below (qm hB h.off.size) (λk hk=>?_)).trans (hos.below (qm (qm hB h.off.size) Je.size) (λk hk=>by simp at hk;have:=hm.hB;omega));rw[zE] at hk;exact(hrw.o.lt k hk).1
 refine⟨⟨?_,hm.hB,?_,⟨cs,?_⟩,⟨vis++[vi],⟨?_,?_,?_⟩,?_⟩⟩,?_,hbel,?_,qc _ _ 3 _ _ (0,0) hf8,qf _ _ 3 _ _ hf8,hits⟩
 ·exact qs w8 fb 3 _ _ v8 hf8
 ·exact hos.pp (Je.pp Vs.l ht8 (by decide)) hts (by decide)
 ·exact(hcs.off Je ht8 (by decide) (by decide) (by decide) (by decide)).off hos hts (by decide) (by decide) (by decide) (by decide)
 ·simp[hrw.n]
 ·have e:=zfT f.rows vis ⟨round,l⟩ vi hrw.n;show(w8.setCell ⟨fb,3,none⟩ v8).ownsRow B 106 2 v8 (f.rows++[(⟨round,l⟩:Rw)]).length (JD (f.rows++[(⟨round,l⟩:Rw)]) (vis++[vi]));rw[e,qv,zv];exact hos.pp VS hts (by decide)
 ·intro k hk;rw[qv,zv] at hk;by_cases hkl:k<f.rows.length
  ·have e1:(vis++[vi]).getD k .nilFunc=vis.getD k .nilFunc:=by
    have:=hrw.n;simp[qj,qQ (show k<vis.length by omega)]
   have e2:(f.rows++[(⟨round,l⟩:Rw)]).getD k (⟨false,[]⟩:Rw)=f.rows.getD k (⟨false,[]⟩:Rw):=by
    simp[qj,qQ hkl]
   rw[e1,e2];exact hrw.it k hkl
  ·obtain rfl:k=f.rows.length:=by omega
   have e1:(vis++[vi]).getD f.rows.length .nilFunc=vi:=by
    rw[<-hrw.n];simp[qj]
   have e2:(f.rows++[(⟨round,l⟩:Rw)]).getD f.rows.length (⟨false,[]⟩:Rw)=(⟨round,l⟩:Rw):=(by simp[qj]);rw[e1,e2];exact⟨Av,cv,Xv⟩
 ·intro k hk;have hk2:k<f.rows.length+1:=by simpa using hk
  by_cases hkl:k<f.rows.length
  ·have e1:(vis++[vi]).getD k .nilFunc=vis.getD k .nilFunc:=by
    have:=hrw.n;simp[qj,qQ (show k<vis.length by omega)]
   have e2:(f.rows++[(⟨round,l⟩:Rw)]).getD k (⟨false,[]⟩:Rw)=f.rows.getD k (⟨false,[]⟩:Rw):=by
    simp[qj,qQ hkl]
   obtain⟨vq,hq⟩:=hit k hkl;refine⟨vq,?_⟩;show QB _ B f.gN ((vis++[vi]).getD k .nilFunc) ((f.rows++[(⟨round,l⟩:Rw)]).getD k (⟨false,[]⟩:Rw)).items vq;rw[e1,e2];exact(hq.off Je ht8 (by decide) (by decide)).off hos hts (by decide) (by decide)
  ·obtain rfl:k=f.rows.length:=by omega
   have e1:(vis++[vi]).getD f.rows.length .nilFunc=vi:=by
    rw[<-hrw.n];simp[qj]
   have e2:(f.rows++[(⟨round,l⟩:Rw)]).getD f.rows.length (⟨false,[]⟩:Rw)=(⟨round,l⟩:Rw):=(by simp[qj]);refine⟨pD,?_⟩;show QB _ B f.gN ((vis++[vi]).getD f.rows.length .nilFunc) ((f.rows++[(⟨round,l⟩:Rw)]).getD f.rows.length (⟨false,[]⟩:Rw)).items pD;rw[e1,e2];exact hits.mono hB
 ·exact(h.rd.off Je (nin h.rd.r (by decide))).off hos (by simp;omega)
 ·exact(hos.block sb (qg VT).1 (by simp;omega)).trans VT
theorem pq.more {f:Fm} {i j:Nat} {round:Bool} {l:List It} (h:pq f i) (hj:i+1+l.length<=j) (hl:∀x∈l,uy x):pq {f with rows:=f.rows++[(⟨round,l⟩:Rw)]} j:=by
 refine⟨?_,h.l0,h.m0,h.s0,h.lm,⟨h.ll.1,by have:=h.ll.2;show f.gN.length<=j;omega⟩,?_,h.nd,h.lt⟩
 ·have:=h.le;have e:vQ (f.rows++[(⟨round,l⟩:Rw)])=vQ f.rows+l.length:=by unfold vQ;simp
  show vQ (f.rows++[(⟨round,l⟩:Rw)])+(f.rows++[(⟨round,l⟩:Rw)]).length<=j;rw[e];simp;omega
 ·intro r hr x hx;rcases qJ.1 hr with hr|hr
  ·exact h.it r hr x hx
  ·obtain rfl:r=(⟨round,l⟩:Rw):=by simpa using hr
   exact hl x hx
structure RF where
 nm:Value
 vl:Value
 vm:Value
 vr:Value
 rd:Bool
 a:Int
 b:Int
 c:Int
def rC (s:ByteArray) (i:Nat) (no wh:Int) (F:RF):Array Value:=#[.string s,.int .i64 i,.int .i64 no,.int .i64 wh,F.nm,F.vl,F.vm,F.vr,.bool F.rd,.int .i64 F.a,.int .i64 F.b,.int .i64 F.c]
structure RR (w:World) (rb:Nat) (s:ByteArray) (i:Nat) (no wh:Int) (F:RF):Prop where
 r:w.heap[rb]?=some (.cells (rC s i no wh F) 115 (0,0))
 le:i<=s.size+2
 sz:s.size<=65536
 ok:no=0->i<=s.size+1/\wh=0
theorem RR.lt {w:World} {rb:Nat} {s:ByteArray} {i:Nat} {no wh:Int} {F:RF} (h:RR w rb s i no wh F):rb<w.heap.size:=(qg h.r).1
theorem RR.c0 {w:World} {rb:Nat} {s:ByteArray} {i:Nat} {no wh:Int} {F:RF} (h:RR w rb s i no wh F):w.cell? ⟨rb,0,none⟩=some (.string s):=qc _ _ 0 _ _ (0,0) h.r
theorem RR.c1 {w:World} {rb:Nat} {s:ByteArray} {i:Nat} {no wh:Int} {F:RF} (h:RR w rb s i no wh F):w.cell? ⟨rb,1,none⟩=some (.int .i64 i):=qc _ _ 1 _ _ (0,0) h.r
theorem RR.c2 {w:World} {rb:Nat} {s:ByteArray} {i:Nat} {no wh:Int} {F:RF} (h:RR w rb s i no wh F):w.cell? ⟨rb,2,none⟩=some (.int .i64 no):=qc _ _ 2 _ _ (0,0) h.r
theorem RR.c3 {w:World} {rb:Nat} {s:ByteArray} {i:Nat} {no wh:Int} {F:RF} (h:RR w rb s i no wh F):w.cell? ⟨rb,3,none⟩=some (.int .i64 wh):=qc _ _ 3 _ _ (0,0) h.r
theorem RR.z {w:World} {rb:Nat} {s:ByteArray} {i:Nat} {no wh:Int} {F:RF} (h:RR w rb s i no wh F) (o:Nat):w.frozen? ⟨rb,o,none⟩=false:=qf _ _ o _ _ h.r
theorem RR.off {L:List Nat} {w w':World} {rb:Nat} {s:ByteArray} {i:Nat} {no wh:Int} {F:RF} (h:RR w rb s i no wh F) (ho:Off L w w') (hn:rb∉L):RR w' rb s i no wh F:=⟨(ho.block _ h.lt hn).trans h.r,h.le,h.sz,h.ok⟩
theorem RR.below {w w':World} {rb:Nat} {s:ByteArray} {i:Nat} {no wh:Int} {F:RF} (h:RR w rb s i no wh F) (hb:Below w.heap.size w w'):RR w' rb s i no wh F:=⟨(hb.block _ h.lt).trans h.r,h.le,h.sz,h.ok⟩
theorem RR.to {w:World} {rb:Nat} {s:ByteArray} {i:Nat} {no wh:Int} {F:RF} (h:RR w rb s i no wh F) {j:Nat} (hj:j<=s.size+1):RR (w.setCell ⟨rb,1,none⟩ (.int .i64 j)) rb s j no wh F:=
 ⟨qs w rb 1 (rC s i no wh F) _ _ h.r,by omega,h.sz,λe=>⟨hj,(h.ok e).2⟩⟩
theorem RR.drewN {w:World} {rb:Nat} {s:ByteArray} {i:Nat} {no wh:Int} {F:RF} (h:RR w rb s i no wh F) (n:Nat):RR (w.drewN n) rb s i no wh F:=⟨h.r,h.le,h.sz,h.ok⟩
def QQ (no e:Int):Int:=if no=0 then e else no
def ZV (no wh p:Int):Int:=if no=0 then p else wh
theorem zaO (rb:Nat) (s:ByteArray) (i:Nat) (no wh:Int) (F:RF) (e p:Int) (w:World) (h:RR w rb s i no wh F) (he:e≠0):
  Calls Tryz.prog 47 #[.pointer (some ⟨rb,0,none⟩),.int .i64 e,.int .i64 p] w λx w'=>x=.returned (.tuple #[])/\RR w' rb s i (QQ no e) (ZV no wh p) F/\Off [rb] w w':=by
 have r2:=h.c2;have r3:=h.c3;have z2:=h.z 2;have z3:=h.z 3;have H:=qh h;unfold QQ ZV;by_cases h0:no=0
 ·have hd:(no==0)=true:=by simpa using h0
  rw[qy h0,qy h0];clear h;go_enter Tryz.func47,Tryz.ntmps47;go_wp2_with fail;refine q9 (qI rfl _ _ _) rfl ?_;exact⟨rfl,⟨qs _ rb 3 _ _ (.int .i64 p) (qs w rb 2 _ _ (.int .i64 e) H.out.r),H.out.le,H.out.sz,λe0=>absurd e0 he⟩,(Off.setCell w rb 2 _).trans (Off.setCell _ rb 3 _)⟩
 ·have hd:(no==0)=false:=by simpa using h0
  rw[qx h0,qx h0];clear h;go_enter Tryz.func47,Tryz.ntmps47;go_wp2_with fail;refine q9 (qI rfl _ _ _) rfl ?_;exact⟨rfl,H.out,Off.refl _ _⟩
theorem zbu (rb:Nat) (s:ByteArray) (i:Nat) (no wh:Int) (F:RF) (w:World) (h:RR w rb s i no wh F):
  Calls Tryz.prog 66 #[.pointer (some ⟨rb,0,none⟩)] w λx w'=>x=.returned (.tuple #[])/\RR w' rb s i (QQ no 180) (ZV no wh i) F/\Off [rb] w w':=by
 have r1:=h.c1;have Hw:=qh (zaO rb s i no wh F 180 i w h (by decide));clear h;go_enter Tryz.func66,Tryz.ntmps66;go_wp2_with fail;refine Hw.out.mono ?_;rintro e w' ⟨rfl,hr,ho⟩;have Hr:=qh hr;have Ho:=qh ho;clear hr ho;go_wp2_with fail;refine q9 (qI rfl _ _ _) rfl ?_;exact⟨rfl,Hr.out,Ho.out⟩
def yQ (no:Int) (s:ByteArray) (i:Nat):UInt8:=if no=0 then gZ s i else 0
theorem zbe {s:ByteArray} {i:Nat} (h:¬i<s.size):gZ s i=0:=by unfold gZ;rw[xt h]
theorem vZ (rb:Nat) (s:ByteArray) (i:Nat) (no wh:Int) (F:RF) (w:World) (h:RR w rb s i no wh F):
  Calls Tryz.prog 67 #[.pointer (some ⟨rb,0,none⟩)] w λx w'=>x=.returned (.int .u8 (yQ no s i).toNat)/\∃n,w'=w.drewN n:=by
 have r0:=h.c0;have r1:=h.c1;have r2:=h.c2;have hsz:=h.sz;have hle:=h.le;clear h;unfold yQ;by_cases h0:no=0
 ·have hd:(no==0)=true:=by simpa using h0
  rw[qy h0];by_cases hi:i<s.size
  ·rw[Z3 hi];have hd2:decide ((i:Int)<(s.size:Int))=true:=qt (by omega);go_enter Tryz.func67,Tryz.ntmps67;go_wp2_with fail;go_quiet (fail)
   go_wp2_with fail;go_quiet (fail)
   go_wp2_with fail;go_ret;exact⟨rfl,_,World.drewN_drewN _ _ _⟩
  ·rw[zbe hi];have hd2:decide ((i:Int)<(s.size:Int))=false:=qd (by omega);go_enter Tryz.func67,Tryz.ntmps67;go_wp2_with fail;go_quiet (fail)
   go_wp2_with fail;go_ret;exact⟨rfl,_,rfl⟩
 ·have hd:(no==0)=false:=by simpa using h0
  rw[qx h0];go_enter Tryz.func67,Tryz.ntmps67;go_wp2_with fail;go_quiet (fail)
  go_wp2_with fail;go_ret;exact⟨rfl,_,rfl⟩
def zmV (no:Int) (s:ByteArray) (i:Nat):Bool:=if no=0 then vG s i else true
theorem zht (rb:Nat) (s:ByteArray) (i:Nat) (no wh:Int) (F:RF) (w:World) (h:RR w rb s i no wh F):
  Calls Tryz.prog 64 #[.pointer (some ⟨rb,0,none⟩)] w λx w'=>x=.returned (.bool (zmV no s i))/\∃n,w'=w.drewN n:=by
 have r0:=h.c0;have r1:=h.c1;have r2:=h.c2;have hsz:=h.sz;have hle:=h.le;clear h;unfold zmV;by_cases h0:no=0
 ·have hd:(no !=0)=false:=by simpa using h0
  rw[qy h0];by_cases hi:i<s.size
  ·rw[zeu hi];have hd2:decide ((s.size:Int)<=(i:Int))=false:=qd (by omega);have hd3:decide (s.size<=i)=false:=qd (by omega);go_enter Tryz.func64,Tryz.ntmps64;go_wp2_with fail;go_quiet (fail)
   go_wp2_with fail;go_ret;exact⟨rfl,_,rfl⟩
  ·rw[zco hi];have hd2:decide ((s.size:Int)<=(i:Int))=true:=qt (by omega);have hd3:decide (s.size<=i)=true:=qt (by omega);go_enter Tryz.func64,Tryz.ntmps64;go_wp2_with fail;go_quiet (fail)
   go_wp2_with fail;go_ret;exact⟨rfl,_,rfl⟩
 ·have hd:(no !=0)=true:=by simpa using h0
  rw[qx h0];go_enter Tryz.func64,Tryz.ntmps64;go_wp2_with fail;go_quiet (fail)
  go_wp2_with fail;go_ret;exact⟨rfl,_,rfl⟩
theorem zjW (rb:Nat) (s:ByteArray) (i:Nat) (no wh:Int) (F:RF) (w:World) (h:RR w rb s i no wh F):
  Calls Tryz.prog 64 #[.pointer (some ⟨rb,0,none⟩)] w λx w'=>x=.returned (.bool (zmV no s i))/\Below w.heap.size w w':=by
 refine(zht rb s i no wh F w h).mono ?_;rintro e w' ⟨rfl,n,rfl⟩;exact⟨rfl,ZG (qb _ _) n⟩
theorem zjX {s:ByteArray} {i:Nat} {c:UInt8} (hc:c≠0):(((gZ s i).toNat:Int) !=(c.toNat:Int))=!pg s i c.toNat:=by
 by_cases hi:i<s.size
 ·rw[Z3 hi,QX hi];rfl
 ·rw[zbe hi,zcE hi];have:(0:UInt8).toNat=0:=rfl;have h2:c.toNat≠0:=λe=>hc (by apply jw.1;rw[e];rfl);have h3:¬(((0:UInt8).toNat:Int)=(c.toNat:Int)):=by rw[this];omega
  simpa [bne] using h3
theorem zlT {c:UInt8} (hc:c≠0):(((0:UInt8).toNat:Int) !=(c.toNat:Int))=true:=by
 have:(0:UInt8).toNat=0:=rfl;have h2:c.toNat≠0:=λe=>hc (by apply jw.1;rw[e];rfl);have h3:¬(((0:UInt8).toNat:Int)=(c.toNat:Int)):=by rw[this];omega
 simpa [bne] using h3
theorem zmf {l:List UInt8} {c:UInt8} {k:Nat} (hk:l[k]?=some c) (hm:∀j,j<k->l[j]?≠some c):Lib.indexByte l c=k:=by
 have hge:=yv l c;by_cases h:Lib.indexByte l c= -1
 ·exact absurd hk (Lib.indexByte_none h k)
 ·obtain⟨o,ho⟩:∃o:Nat,Lib.indexByte l c=o:=⟨(Lib.indexByte l c).toNat,by omega⟩;obtain⟨h1,h2⟩:=xK ho;rcases Nat.lt_trichotomy o k with h3|h3|h3
  ·exact absurd h1 (hm o h3)
  ·rw[ho,h3]
  ·exact absurd hk (h2 k h3)
theorem zmg {l:List UInt8} {c:UInt8} (h:∀j,j<l.length->l[j]?≠some c):Lib.indexByte l c= -1:=by
 have hge:=yv l c;by_cases h0:Lib.indexByte l c= -1
 ·exact h0
 ·obtain⟨o,ho⟩:∃o:Nat,Lib.indexByte l c=o:=⟨(Lib.indexByte l c).toNat,by omega⟩;obtain⟨h1,h2⟩:=xK ho;exact absurd h1 (h o (zx.1 h1).1)
theorem zkS (a b:UInt8):(((a.toNat:Int)==(b.toNat:Int))=true)<->a=b:=by
 rw[yC];constructor
 ·intro h;apply jw.1;omega
 ·rintro rfl;rfl
theorem zcL (rb:Nat) (s:ByteArray) (i:Nat) (no wh:Int) (F:RF) (w:World) (h:RR w rb s i no wh F) (hi:i<=s.size):
  Calls Tryz.prog 45 #[.pointer (some ⟨rb,0,none⟩)] w λe w'=>Off [rb] w w'/\e=.returned (.string (s.extract i (if no=0 then zap s i else i)))/\RR w' rb s (if no=0 then zap s i else i) no wh F:=by
 have hsz:=h.sz;have r1:=h.c1;have H:=qh h;generalize hE:(if no=0 then zap s i else i)=E;have HE0:Hid ((if no=0 then zap s i else i)=E):=qh hE;clear h hE;go_enter Tryz.func45,Tryz.ntmps45;go_wp2_with fail;go_loopw [] (λwr=>∃j:Nat,i<=j/\j<=s.size/\Hid ((if no=0 then zap s j else j)=E)/\Hid (RR wr rb s j no wh F)/\Hid (Off [rb] w wr)) (λwr=>s.size-(match wr.cell? ⟨rb,1,none⟩ with|some v=>(intOf v).toNat|none=>0))
 case atStart=>exact⟨i,ql _,hi,HE0,H,qh (Off.refl _ _)⟩
 case round=>
  obtain⟨j,hij,hj,hE,hrd,hof⟩:=hrel;have Hq:=qh (zjW rb s j no wh F wr hrd.out);have p8:Hid (wr.cell? ⟨rb,1,none⟩=some (.int .i64 j)):=qh hrd.out.c1;clear HE0;go_wp2_with fail;refine Hq.out.mono ?_;rintro e w2 ⟨rfl,hb2⟩;have Qv:=hrd.out.below hb2;have Q9:=qh Qv;have JO:=qh (hof.out.trans (Off.of_below hb2 (ql _) [rb]));have q0:=Qv.c0;have q1:=Qv.c1;have z1:=Qv.z 1;clear hb2 Qv Hq;cases hen:zmV no s j with
  |true=>
   have hEj:j=E:=by
    rw[<-hE.out];by_cases h0:no=0
    ·rw[qy h0];unfold zmV at hen;rw[qy h0] at hen;exact(zb8 hen).symm
    ·rw[qx h0]
   subst hEj;have hle1:i<=j:=hij;have d1:(0:Int)<=(i:Int):=(by omega);have d2:(i:Int)<=(j:Int):=(by omega);have d3:(j:Int)<=(s.size:Int):=(by omega);clear hen;go_wp2_with fail;go_quiet (fail)
   go_wp2_with fail;go_ret;exact⟨JO.out.trans (Off.drewN _ _ _),rfl,Q9.out.drewN _⟩
  |false=>
   have h0:no=0:=by
    by_cases h0:no=0
    ·exact h0
    ·unfold zmV at hen;rw[qx h0] at hen;cases hen
   have zrm:vG s j=false:=(by unfold zmV at hen;rw[qy h0] at hen;exact hen);have hlt:j<s.size:=by
    by_cases hlt:j<s.size
    ·exact hlt
    ·rw[zco hlt] at zrm;cases zrm
   have hE2:Hid ((if no=0 then zap s (j+1) else j+1)=E):=qh (by rw[<-hE.out,qy h0,qy h0,zfE zrm]);have hw:IntKind.i64.wrap ((j:Int)+1)=(j:Int)+1:=qi _ (by omega);have hc:((j+1:Nat):Int)=(j:Int)+1:=(by omega);have hfin:RR (w2.setCell ⟨rb,1,none⟩ (.int .i64 ((j:Int)+1))) rb s (j+1) no wh F:=(by rw[<-hc];exact Q9.out.to (by omega));have gT:=qh hfin;have VH:=qh (JO.out.trans (Off.setCell w2 rb 1 (.int .i64 ((j:Int)+1))));clear hen zrm hfin;go_wp2_with fail;go_roundw
   case rel=>exact⟨j+1,by omega,by omega,hE2,gT,VH⟩
   case measure=>
    rw[gT.out.c1,p8.out];simp only[intOf];omega
theorem zfn (c:UInt8) (w:World):
  Calls Tryz.prog 129 #[.int .u8 c.toNat] w λe w'=>e=.returned (.int .i64 (yP c))/\w'=w:=by
 go_enter Tryz.func129,Tryz.ntmps129;generalize hT:(ByteArray.mk (List.toArray [97,98,99,100,101,102,103,104,105,106,107,108,109,110,111,112,113,114,115,116,117,118,119,121,122]))=T0;have hT2:T0.data.toList=JM:=by rw[<-hT];rfl
 have hTs:T0.size=25:=by rw[<-hT];rfl
 clear hT;go_wp2_with fail;go_loopw [3] (λj wr=>∃k:Nat,k<=25/\j=.int .i64 k/\Hid (∀q,q<k->JM[q]?≠some c)/\Hid (wr=w)) (λj _=>25-(intOf j).toNat)
 case atStart=>exact⟨0,qF _,rfl,qh (λq hq=>by omega),qh rfl⟩
 case round=>
  obtain⟨k,hk,rfl,hno,hw⟩:=hrel;by_cases hlt:k<25
  ·have hkT:k<T0.size:=(by omega);have i1:(0:Int)<=(k:Int):=(by omega);have i2:(k:Int)<(T0.size:Int):=(by omega);have hget:JM[k]?=some T0[k]:=by
    rw[<-hT2];rw[qz (by rw[qS];exact hkT)];rfl
   have hd:decide ((k:Int)<25)=true:=qt (by omega);by_cases hq:T0[k]=c
   ·have hqe:((T0[k].toNat:Int)==(c.toNat:Int))=true:=(zkS _ _).2 hq;have hres:yP c=k:=zmf (by rw[hget,hq]) hno.out;have JP:=qh hres;clear hq hget hres;go_wp2_with fail;go_ret;exact⟨by rw[JP.out];rfl,hw.out⟩
   ·have hqe:((T0[k].toNat:Int)==(c.toNat:Int))=false:=by
     cases hx:((T0[k].toNat:Int)==(c.toNat:Int)) with
     |false=>rfl
     |true=>exact absurd ((zkS _ _).1 hx) hq
    have zso:Hid (∀q,q<k+1->JM[q]?≠some c):=qh (λq hq2=>by
     by_cases e:q=k
     ·subst e;rw[hget];simpa using hq
     ·exact hno.out q (by omega))
    clear hq hget;go_wp2_with fail;go_roundw
    case rel=>exact⟨k+1,by omega,by go_num,zso,hw⟩
    case measure=>simp[intOf];omega
  ·obtain rfl:k=25:=by omega
   have hres:yP c= -1:=zmg (λj hj=>hno.out j hj);have JP:=qh hres;clear hres;go_wp2_with fail;go_ret;exact⟨by rw[JP.out];rfl,hw.out⟩
theorem zd6 (rb B:Nat) (s:ByteArray) (i:Nat) (no wh:Int) (F:RF) (gN:List UInt8) (c:UInt8) (w:World) (h:RR w rb s i no wh F) (hl:w.ownsRow B 5 1 F.vl gN.length (Z6 gN)) (hll:gN.length<=70000):
  Calls Tryz.prog 68 #[.pointer (some ⟨rb,0,none⟩),.int .u8 c.toNat] w λe w'=>e=.returned (.int .i64 (Lib.indexByte gN c))/\w'=w:=by
 have r5:w.cell? ⟨rb,5,none⟩=some F.vl:=qc _ _ 5 _ _ (0,0) h.r;obtain⟨A,cap,hvl⟩:=pJ hl;rw[hvl] at r5;have hrow:0<gN.length->∃g,A=some ⟨g,0,none⟩/\∀k,k<gN.length->w.cell? ⟨g,k,none⟩=some (.int .u8 (gN.getD k 0).toNat):=λhpos=>by
  rcases hl.2 with⟨e,e0⟩|⟨g,cp,cur,e,_,hg,_⟩
  ·omega
  ·rw[hvl] at e;simp only[jl] at e;obtain⟨rfl,_,rfl⟩:=e;rw[hvl] at hl;refine⟨g,rfl,λk hk=>?_⟩;rw[hl.cellAt k (by omega)];unfold Z6;simp[qj,hk]
 clear h hl hvl;go_enter Tryz.func68,Tryz.ntmps68;go_wp2_with fail;go_loopw [5] (λj wr=>∃k:Nat,k<=gN.length/\j=.int .i64 k/\Hid (∀q,q<k->gN[q]?≠some c)/\Hid (wr=w)) (λj _=>gN.length-(intOf j).toNat)
 case atStart=>exact⟨0,qF _,rfl,qh (λq hq=>by omega),qh rfl⟩
 case round=>
  obtain⟨k,hk,rfl,hno,hw⟩:=hrel;have hw2:=hw.out;subst hw2;clear hw;by_cases hlt:k<gN.length
  ·obtain⟨g,rfl,hcell⟩:=hrow (by omega);have k0:=hcell k hlt;have hget:gN[k]?=some (gN.getD k 0):=(by simp[qj,hlt]);have i1:(0:Int)<=(k:Int):=(by omega);have i2:(k:Int)<(gN.length:Int):=(by omega);generalize gN.getD k 0=x at*;by_cases hq:x=c
   ·have hqe:((x.toNat:Int)==(c.toNat:Int))=true:=(zkS _ _).2 hq;have hres:Lib.indexByte gN c=k:=zmf (by rw[hget,hq]) hno.out;have JP:=qh hres;clear hq hget hres hcell;go_wp2_with fail;go_ret;exact⟨by rw[JP.out];rfl,rfl⟩
   ·have hqe:((x.toNat:Int)==(c.toNat:Int))=false:=by
     cases hx:((x.toNat:Int)==(c.toNat:Int)) with
     |false=>rfl
     |true=>exact absurd ((zkS _ _).1 hx) hq
    have zso:Hid (∀q,q<k+1->gN[q]?≠some c):=qh (λq hq2=>by
     by_cases e:q=k
     ·subst e;rw[hget];simpa using hq
     ·exact hno.out q (by omega))
    clear hq hget hcell;go_wp2_with fail;go_roundw
    case rel=>exact⟨k+1,by omega,by go_num,zso,qh trivial⟩
    case measure=>simp[intOf];omega
  ·obtain rfl:k=gN.length:=by omega
   have hres:Lib.indexByte gN c= -1:=zmg (λj hj=>hno.out j hj);have JP:=qh hres;clear hres;go_wp2_with fail;go_ret;exact⟨by rw[JP.out];rfl,rfl⟩
def uM (l:List UInt8):Nat:=l.foldl (λn c=>if n<100000 then 10*n+(c.toNat-48) else n) 0
theorem zjY:∀(l:List UInt8) (a b:Nat),zcG l=true->(a=b∨(100000<=a/\100000<=b))->a<=1000009->
  (l.foldl (λn c=>if n<100000 then 10*n+(c.toNat-48) else n) a=uL b l∨(100000<=l.foldl (λn c=>if n<100000 then 10*n+(c.toNat-48) else n) a/\100000<=uL b l))/\l.foldl (λn c=>if n<100000 then 10*n+(c.toNat-48) else n) a<=1000009
 |[],a,b,_,h,ha=>⟨h,ha⟩
 |c::l,a,b,hd,h,ha=>by
  unfold zcG at hd;rw[List.all_cons,qA,qA,qC,qC] at hd;have hv:uL b (c::l)=uL (10*b+(c.toNat-48)) l:=rfl;rw[hv,List.foldl_cons];refine zjY l _ _ hd.2 ?_ ?_
  ·split
   ·rcases h with h|h
    ·left;rw[h]
    ·omega
   ·rcases h with h|h
    ·right;omega
    ·right;omega
  ·split<;>omega
theorem zfZ {l:List UInt8} (hd:zcG l=true):(uM l=vF l∨(100000<=uM l/\100000<=vF l))/\uM l<=1000009:=zjY l 0 0 hd (.inl rfl) (by omega)
theorem zkT (l:List UInt8) (c:UInt8):uM (l++[c])=if uM l<100000 then 10*uM l+(c.toNat-48) else uM l:=by
 unfold uM;rw[List.foldl_append];rfl
theorem zkU {s:ByteArray} {a j:Nat} (ha:a<=j) (hj:j<s.size):yM s a (j+1)=yM s a j++[s[j]]:=by
 unfold yM;have e:j+1-a=(j-a)+1:=by omega
 rw[e];have hl:j-a<(s.data.toList.drop a).length:=by
  rw[zK,qS];have:s.data.size=s.size:=rfl;omega
 rw[qE hl];congr 2
 rw[List.getElem_drop];have e2:a+(j-a)=j:=by omega
 simp only[e2];rfl
def zqF (rb:Nat) (s:ByteArray) (no wh:Int) (F:RF) (least:Int) (i:Nat) (w:World) (e:Ending) (w':World):Prop:=Off [rb] w w'/\∃n:Int,e=.returned (.int .i64 n)/\0<=n/\n<=1000009/\
 (no=0->match yL s least i with|.ok (v,j)=>n=v/\RR w' rb s j 0 0 F|.error (c,p)=>∃j,RR w' rb s j c p F)/\(no≠0->∃j,RR w' rb s j no wh F)
theorem zgP {no:Int} {s:ByteArray} {i:Nat} {a b:Int} (h0:no=0) (ha:0<a):pY s i a b=(decide (a<=((yQ no s i).toNat:Int))&&decide (((yQ no s i).toNat:Int)<=b)):=by
 unfold yQ;rw[qy h0];by_cases hi:i<s.size
 ·rw[Vp hi,Z3 hi]
 ·rw[zcF hi,zbe hi];have:(0:UInt8).toNat=0:=rfl;have h1:¬a<=((0:UInt8).toNat:Int):=by rw[this];omega
  rw[zh h1];rfl
theorem zhu (rb:Nat) (s:ByteArray) (i:Nat) (no wh:Int) (F:RF) (least:Int) (w:World) (h:RR w rb s i no wh F) (hb:¬(no=0/\pY s i 48 57=true)):
  Calls Tryz.prog 70 #[.pointer (some ⟨rb,0,none⟩),.int .i64 least] w (zqF rb s no wh F least i w):=by
 have r1:=h.c1;have hsz:=h.sz;have H:=qh h;have hbc:((yQ no s i).toNat:Int)<48∨57<((yQ no s i).toNat:Int):=by
  by_cases h0:no=0
  ·have h1:=zgP (s:=s) (i:=i) (a:=48) (b:=57) h0 (by omega);by_cases h2:((yQ no s i).toNat:Int)<48
   ·exact .inl h2
   ·right;by_cases h3:57<((yQ no s i).toNat:Int)
    ·exact h3
    ·refine absurd ⟨h0,?_⟩ hb;rw[h1,qK (by omega),qK (by omega)];rfl
  ·left;unfold yQ;rw[qx h0];decide
 have HP:Hid (no=0->yL s least i=.error (180,i)):=qh (λh0=>by
  have hin:pY s i 48 57=false:=by
   cases hx:pY s i 48 57 with
   |false=>rfl
   |true=>exact absurd ⟨h0,hx⟩ hb
  have:vc s i i=false:=by unfold vc;rw[hin];rfl
  unfold yL;rw[qy (zaZ this)])
 have Hc:=qh (λn=>vZ rb s i no wh F (w.drewN n) (h.drewN n));have Qx:=qh (λn=>zbu rb s i no wh F (w.drewN n) (h.drewN n));have hn0:QQ no 180≠0:=by unfold QQ;split<;>omega
 have hn1:(QQ no 180==0)=false:=by simpa using hn0
 have hfin:∀w',Off [rb] w w'->RR w' rb s i (QQ no 180) (ZV no wh i) F->zqF rb s no wh F least i w (.returned (.int .i64 0)) w':=λw' ho hr=>by
  refine⟨ho,0,rfl,by omega,by omega,λh0=>?_,λh0=>?_⟩
  ·rw[HP.out h0];unfold QQ ZV at hr;rw[qy h0,qy h0] at hr;exact⟨_,hr⟩
  ·unfold QQ ZV at hr;rw[qx h0,qx h0] at hr;exact⟨_,hr⟩
 have gT:=qh hfin;have Hn0:=qh hn0;generalize yQ no s i=bc at*;clear h hb hfin hn0;have J6:=qh (Hc.out 0);rcases hbc with hlt|hgt
 rotate_right;have hnl:¬(bc.toNat:Int)<48:=by omega
 have d1:decide ((bc.toNat:Int)<48)=false:=qd hnl;have d2:decide (57<(bc.toNat:Int))=true:=qt hgt;go_enter Tryz.func70,Tryz.ntmps70;go_wp2_with fail;refine J6.out.mono ?_;rintro e w2 ⟨rfl,n2,rfl⟩;go_wp2_with fail;refine(Hc.out _).mono ?_;rintro e w3 ⟨rfl,n3,rfl⟩
 rotate_right;have d1:decide ((bc.toNat:Int)<48)=true:=qt hlt;go_enter Tryz.func70,Tryz.ntmps70;go_wp2_with fail;refine J6.out.mono ?_;rintro e w2 ⟨rfl,n2,rfl⟩
 all_goals
  go_wp2_with fail;refine(Qx.out _).mono ?_;rintro e w4 ⟨rfl,hr4,QI⟩;have Yc:=qh hr4;have YX:=qh ((Off.drewN _ w _).trans QI);have q2:=hr4.c2;have Hc4:=qh (λn=>vZ rb s i (QQ no 180) (ZV no wh i) F (w4.drewN n) (hr4.drewN n));have h40:yQ (QQ no 180) s i=0:=by unfold yQ;rw[qx Hn0.out]
  rw[h40] at Hc4;have z0:((0:UInt8).toNat:Int)=0:=rfl;rw[z0] at Hc4;clear hr4 QI h40 z0;go_wp2_with fail;go_loopw [6] (λnn wr=>nn=.int .i64 0/\Hid (∃n,wr=w4.drewN n)) (λ_ _=>0)
  case atStart=>exact⟨rfl,qh ⟨0,rfl⟩⟩
  case round=>
   obtain⟨rfl,hw4⟩:=hrel;obtain⟨n4,hn4⟩:=hw4.out;subst hn4;clear hw4;go_wp2_with fail;refine(Hc4.out _).mono ?_;rintro e w5 ⟨rfl,n5,rfl⟩;go_wp2_with fail;go_ret;exact gT.out _ (YX.out.trans (Off.drewN _ _ _)) (Yc.out.drewN _)
theorem zct {s:ByteArray} {a j:Nat} (ha:a<=s.size) (haj:a<=j) (hj:j<=gV s a a):zcG (yM s a j)=true:=by
 have h:=zhY s a ha;unfold zcG at h|-;rw[zO] at h|-;intro c hc;refine h c ?_;unfold yM at hc|-;have e:(s.data.toList.drop a).take (j-a)=((s.data.toList.drop a).take (gV s a a-a)).take (j-a):=by rw[List.take_take,Nat.min_eq_left (by omega)]
 rw[e] at hc;exact jp hc
theorem ziN (rb:Nat) (s:ByteArray) (a:Nat) (no wh:Int) (F:RF) (least:Int) (w:World) (h:RR w rb s a no wh F) (h0:no=0) (hb:pY s a 48 57=true) (hl0:0<=least) (hl1:least<=512):
  Calls Tryz.prog 70 #[.pointer (some ⟨rb,0,none⟩),.int .i64 least] w (zqF rb s no wh F least a w):=by
 subst h0;have hwh:=(h.ok rfl).2;subst hwh;have r1:=h.c1;have hsz:=h.sz;have H:=qh h;have hal:=zb7 hb;have hbd:48<=((gZ s a).toNat:Int)/\((gZ s a).toNat:Int)<=57:=by
  rw[Vp hal] at hb;rw[Z3 hal];simpa using hb
 have HB:=qh hb;have hb0:yQ 0 s a=gZ s a:=by unfold yQ;rw[qy rfl]
 have Hc:=qh (λn=>vZ rb s a 0 0 F (w.drewN n) (h.drewN n));rw[hb0] at Hc;have J6:=qh (Hc.out 0);have hEb:=Vq (s:=s) a a (by omega);generalize gZ s a=bc at*;have hnl:¬(bc.toNat:Int)<48:=by omega
 have hng:¬57<(bc.toNat:Int):=by omega
 have d1:decide ((bc.toNat:Int)<48)=false:=qd hnl;have d2:decide (57<(bc.toNat:Int))=false:=qd hng;clear h hb hb0;go_enter Tryz.func70,Tryz.ntmps70;go_wp2_with fail;refine J6.out.mono ?_;rintro e w2 ⟨rfl,n2,rfl⟩;go_wp2_with fail;refine(Hc.out _).mono ?_;rintro e w3 ⟨rfl,n3,rfl⟩;go_wp2_with fail;go_loopw [6] (λnn wr=>∃j:Nat,a<=j/\j<=gV s a a/\nn=.int .i64 (uM (yM s a j))/\Hid (RR wr rb s j 0 0 F)/\Hid (Off [rb] w wr)/\Hid (j<=a+1∨pg s a 48=false)/\Hid (gV s a a=gV s a j)) (λ_ wr=>s.size-(match wr.cell? ⟨rb,1,none⟩ with|some v=>(intOf v).toNat|none=>0))
 case atStart=>exact⟨a,ql _,hEb.1,by unfold yM;rw[xH];rfl,qh (H.out.drewN _),qh (Off.drewN _ _ _),qh (.inl (by omega)),qh rfl⟩
 case round=>
  obtain⟨j,haj,Vr,rfl,hrd,hof,hbr,hnE⟩:=hrel;have Hcj:=qh (λn=>vZ rb s j 0 0 F (wr.drewN n) (hrd.out.drewN n));have hbj:yQ 0 s j=gZ s j:=by unfold yQ;rw[qy rfl]
  rw[hbj] at Hcj;have p8:Hid (wr.cell? ⟨rb,1,none⟩=some (.int .i64 j)):=qh hrd.out.c1;have q0:=λn=>(hrd.out.drewN n).c0;have q1:=λn=>(hrd.out.drewN n).c1;have z1:=λn=>(hrd.out.drewN n).z 1;have hin:=zgP (no:=0) (s:=s) (i:=j) (a:=48) (b:=57) rfl (by omega);rw[hbj] at hin;have Jf:=qh (Hcj.out 0);have hwa:IntKind.i64.wrap ((a:Int)+1)=(a:Int)+1:=qi _ (by omega);by_cases hdg:pY s j 48 57=true
  ·have hjl:=zb7 hdg;rw[hdg] at hin;have hin2:=hin.symm;rw[qA,qC,qC] at hin2;have c1:decide (48<=((gZ s j).toNat:Int))=true:=qt hin2.1;have c2:decide (((gZ s j).toNat:Int)<=57)=true:=qt hin2.2;have hcs:=zkU (s:=s) haj hjl;have hcp:=zkT (yM s a j) s[j];rw[<-hcs] at hcp;rw[Z3 hjl] at hin2 c1 c2 Hcj Jf;by_cases hz:j=a+1/\pg s a 48=true
   ·obtain⟨hja,hz2⟩:=hz;have e5:((j:Int)==(a:Int)+1)=true:=(by rw[hja];simp);have hsa:((s[a].toNat:Int)==48)=true:=(by rw[<-QX hal];exact hz2);have i1:(0:Int)<=(a:Int):=(by omega);have i2:(a:Int)<(s.size:Int):=(by omega);have XC:j=gV s a a:=by
     rw[hnE.out]
     have:vc s a j=false:=by unfold vc;rw[hdg,hz2];have:¬(j=a):=by omega
                             simp[this]
     exact(zaZ this).symm
    generalize s[j]=bj at*;clear hcs hcp hin hja hz2;have hcv:=zfZ (zct (s:=s) (a:=a) (j:=j) (by omega) haj Vr);have hnz:gV s a a≠a:=by
     have hd:vc s a a=true:=(by unfold vc;rw[HB.out];simp);rw[zbZ hd];have:=(Vq (s:=s) a (a+1) (by omega)).1;omega
    have hnp:yL s least a=if((vF (yM s a j):Int)<least∨512<(vF (yM s a j):Int)) then .error (2,a) else .ok ((vF (yM s a j):Int),j):=by
     unfold yL;rw[qx hnz,<-XC]
    have q2:=λn=>(hrd.out.drewN n).c2;have Hw:=qh (λn=>zaO rb s j 0 0 F 2 a (wr.drewN n) (hrd.out.drewN n) (by decide));have Hjk:=qh XC;clear XC hnE;generalize uM (yM s a j)=n at*;generalize vF (yM s a j)=v at*;have Hcv:=qh hcv;have Hhj:=qh hrd.out;by_cases hlo:(n:Int)<least
    ·have e1:decide ((n:Int)<least)=true:=qt hlo;have HP:Hid (yL s least a=.error (2,a)):=qh (by rw[hnp,qy (by omega)]);clear hcv hnp hnz;go_wp2_with fail;refine Jf.out.mono ?_;rintro e w4 ⟨rfl,n4,rfl⟩;go_wp2_with fail;refine(Hcj.out _).mono ?_;rintro e w4 ⟨rfl,n5,rfl⟩;go_wp2_with fail;refine(Hw.out _).mono ?_;rintro e w5 ⟨rfl,pi,pH⟩;have JF:=qh pi;have ZW:=qh ((hof.out.trans (Off.drewN _ _ _)).trans pH);clear pi pH;go_wp2_with fail;go_ret;have hcv:=Hcv.out;refine⟨ZW.out,(n:Int),rfl,by omega,by omega,λ_=>?_,λe0=>absurd rfl e0⟩;rw[HP.out];exact⟨_,JF.out⟩
    ·have e1:decide ((n:Int)<least)=false:=qd hlo;by_cases hhi:512<(n:Int)
     ·have e2:decide (512<(n:Int))=true:=qt hhi;have e3:decide (512<n)=true:=qt (by omega);have HP:Hid (yL s least a=.error (2,a)):=qh (by rw[hnp,qy (by omega)]);clear hcv hnp hnz;go_wp2_with fail;refine Jf.out.mono ?_;rintro e w4 ⟨rfl,n4,rfl⟩;go_wp2_with fail;refine(Hcj.out _).mono ?_;rintro e w4 ⟨rfl,n5,rfl⟩;go_wp2_with fail;refine(Hw.out _).mono ?_;rintro e w5 ⟨rfl,pi,pH⟩;have JF:=qh pi;have ZW:=qh ((hof.out.trans (Off.drewN _ _ _)).trans pH);clear pi pH;go_wp2_with fail;go_ret;have hcv:=Hcv.out;refine⟨ZW.out,(n:Int),rfl,by omega,by omega,λ_=>?_,λe0=>absurd rfl e0⟩;rw[HP.out];exact⟨_,JF.out⟩
     ·have e2:decide (512<(n:Int))=false:=qd hhi;have e3:decide (512<n)=false:=qd (by omega);have hnv:n=v:=(by omega);have HP:Hid (yL s least a=.ok ((n:Int),j)):=qh (by rw[hnp,qx (by omega),hnv]);clear hcv hnp hnz hnv;go_wp2_with fail;refine Jf.out.mono ?_;rintro e w4 ⟨rfl,n4,rfl⟩;go_wp2_with fail;refine(Hcj.out _).mono ?_;rintro e w4 ⟨rfl,n5,rfl⟩;go_wp2_with fail;go_ret;refine⟨hof.out.trans (Off.drewN _ _ _),(n:Int),rfl,by omega,by omega,λ_=>?_,λe0=>absurd rfl e0⟩;rw[HP.out];exact⟨rfl,Hhj.out.drewN _⟩
   ·have hdj:vc s a j=true:=by
     unfold vc;rw[hdg,zU,kG,qC];by_cases e:j=a
     ·exact .inl e
     ·right;cases hz2:pg s a 48 with
      |false=>rfl
      |true=>
       rcases hbr.out with h1|h1
       ·exact absurd ⟨by omega,hz2⟩ hz
       ·rw[hz2] at h1;cases h1
    have zsp:gV s a a=gV s a (j+1):=(by rw[hnE.out,zbZ hdj]);have hj1:j+1<=gV s a a:=(by rw[zsp];exact(Vq (s:=s) a (j+1) (by omega)).1);have zsq:j+1<=a+1∨pg s a 48=false:=by
     by_cases e:j=a
     ·left;omega
     ·right;cases hz2:pg s a 48 with
      |false=>rfl
      |true=>
       rcases hbr.out with h1|h1
       ·exact absurd ⟨by omega,hz2⟩ hz
       ·rw[hz2] at h1;cases h1
    have zrn:=qh zsp;have Hbr2:=qh zsq;have i1:(0:Int)<=(a:Int):=(by omega);have i2:(a:Int)<(s.size:Int):=(by omega);have hcv:=zfZ (zct (s:=s) (a:=a) (j:=j) (by omega) haj Vr);have hcap:=hcv.2;have hwj:IntKind.i64.wrap ((j:Int)+1)=(j:Int)+1:=qi _ (by omega);have hcc:((j+1:Nat):Int)=(j:Int)+1:=(by omega);have hfin:∀n,RR ((wr.drewN n).setCell ⟨rb,1,none⟩ (.int .i64 ((j:Int)+1))) rb s (j+1) 0 0 F/\Off [rb] w ((wr.drewN n).setCell ⟨rb,1,none⟩ (.int .i64 ((j:Int)+1))):=λn=>by
     rw[<-hcc];exact⟨(hrd.out.drewN n).to (by omega),(hof.out.trans (Off.drewN _ _ n)).trans (Off.setCell _ rb 1 _)⟩
    have gT:=qh hfin;have Hcp:=qh hcp;have hb1:((s[j].toNat:Int)-48)=((s[j].toNat-48:Nat):Int):=(by omega);have hu8:IntKind.u8.wrap ((s[j].toNat:Int)-48)=(s[j].toNat:Int)-48:=zfI (by omega) (by omega);have hu64:IntKind.i64.wrap ((s[j].toNat:Int)-48)=(s[j].toNat:Int)-48:=qi _ (by omega);have hsa:j=a+1->((s[a].toNat:Int)==48)=false:=λe=>by
     cases hz2:pg s a 48 with
     |true=>exact absurd ⟨e,hz2⟩ hz
     |false=>rw[<-QX hal];exact hz2
    have H1:=qh hin2.1;have H2:=qh hin2.2;generalize hcap0:uM (yM s a j)=n at*;have zsr:n<100000->IntKind.i64.wrap (10*(n:Int))=10*(n:Int):=λhn=>qi _ (by omega);generalize hbx:s[j]=bj at*;have hws:n<100000->IntKind.i64.wrap (10*(n:Int)+((bj.toNat:Int)-48))=10*(n:Int)+((bj.toNat:Int)-48):=λhn=>qi _ (by omega);clear hcs hcp hin zsp zsq hcv hdj hfin hnE hbr hin2 hcap0 hbx;by_cases hja:j=a+1
    rotate_right;have e5:((j:Int)==(a:Int)+1)=false:=by
     have:¬((j:Int)=(a:Int)+1):=(by omega);simpa using this
    rotate_right;have e5:((j:Int)==(a:Int)+1)=true:=(by rw[hja];simp);have hsa1:=hsa hja
    all_goals
     clear hsa hja;by_cases hn:n<100000
     ·have e6:decide ((n:Int)<100000)=true:=qt (by omega);have w1:=zsr hn;have w2:=hws hn;have hmod:Hid (10*(n:Int)+((bj.toNat-48:Nat):Int)%256=10*(n:Int)+((bj.toNat:Int)-48)):=qh (by have h1:=H1.out;have h2:=H2.out;omega);have hcast:Hid (((10*n+(bj.toNat-48):Nat):Int)=10*(n:Int)+((bj.toNat:Int)-48)):=qh (by have h1:=H1.out;omega);have hnew:Hid (uM (yM s a (j+1))=10*n+(bj.toNat-48)):=qh (by rw[Hcp.out,qy hn]);clear zsr hws hn;go_wp2_with fail;refine Jf.out.mono ?_;rintro e w4 ⟨rfl,n4,rfl⟩;go_wp2_with fail;refine(Hcj.out _).mono ?_;rintro e w4 ⟨rfl,n5,rfl⟩;go_wp2_with fail;refine(Hcj.out _).mono ?_;rintro e w4 ⟨rfl,n6,rfl⟩;go_wp2_with fail;go_roundw
      case rel=>exact⟨j+1,by omega,by rw[zrn.out];exact(Vq (s:=s) a (j+1) (by omega)).1,by rw[hnew.out,hcast.out];rw[hmod.out],qh (gT.out _).1,qh (gT.out _).2,Hbr2,zrn⟩
      case measure=>
       have e1:=(gT.out (n4+n5+n6)).1.c1;rw[e1,p8.out];simp only[intOf];omega
     ·have e6:decide ((n:Int)<100000)=false:=qd (by omega);have hnew:Hid (uM (yM s a (j+1))=n):=qh (by rw[Hcp.out,qx hn]);clear zsr hws hn;go_wp2_with fail;refine Jf.out.mono ?_;rintro e w4 ⟨rfl,n4,rfl⟩;go_wp2_with fail;refine(Hcj.out _).mono ?_;rintro e w4 ⟨rfl,n5,rfl⟩;go_wp2_with fail;go_roundw
      case rel=>exact⟨j+1,by omega,by rw[zrn.out];exact(Vq (s:=s) a (j+1) (by omega)).1,by rw[hnew.out],qh (gT.out _).1,qh (gT.out _).2,Hbr2,zrn⟩
      case measure=>
       have e1:=(gT.out (n4+n5)).1.c1;rw[e1,p8.out];simp only[intOf];omega
  ·have hdj:vc s a j=false:=by
    unfold vc;cases hx:pY s j 48 57 with
    |true=>exact absurd hx hdg
    |false=>rfl
   have XC:j=gV s a a:=(by rw[hnE.out];exact(zaZ hdj).symm);have hin3:((gZ s j).toNat:Int)<48∨57<((gZ s j).toNat:Int):=by
    by_cases h1:((gZ s j).toNat:Int)<48
    ·exact .inl h1
    ·right;by_cases h2:57<((gZ s j).toNat:Int)
     ·exact h2
     ·refine absurd ?_ hdg;rw[hin,qK (by omega),qK (by omega)];rfl
   generalize gZ s j=bj at*;clear hin hdg hdj;rcases hin3 with hlt|hgt
   ·have c1:decide (48<=(bj.toNat:Int))=false:=qd (by omega);have c1n:¬48<=(bj.toNat:Int):=(by omega);have hcv:=zfZ (zct (s:=s) (a:=a) (j:=j) (by omega) haj Vr);have hnz:gV s a a≠a:=by
     have hd:vc s a a=true:=(by unfold vc;rw[HB.out];simp);rw[zbZ hd];have:=(Vq (s:=s) a (a+1) (by omega)).1;omega
    have hnp:yL s least a=if((vF (yM s a j):Int)<least∨512<(vF (yM s a j):Int)) then .error (2,a) else .ok ((vF (yM s a j):Int),j):=by
     unfold yL;rw[qx hnz,<-XC]
    have q2:=λn=>(hrd.out.drewN n).c2;have Hw:=qh (λn=>zaO rb s j 0 0 F 2 a (wr.drewN n) (hrd.out.drewN n) (by decide));have Hjk:=qh XC;clear XC hnE;generalize uM (yM s a j)=n at*;generalize vF (yM s a j)=v at*;have Hcv:=qh hcv;have Hhj:=qh hrd.out;by_cases hlo:(n:Int)<least
    ·have e1:decide ((n:Int)<least)=true:=qt hlo;have HP:Hid (yL s least a=.error (2,a)):=qh (by rw[hnp,qy (by omega)]);clear hcv hnp hnz;go_wp2_with fail;refine Jf.out.mono ?_;rintro e w4 ⟨rfl,n4,rfl⟩;go_wp2_with fail;refine(Hw.out _).mono ?_;rintro e w5 ⟨rfl,pi,pH⟩;have JF:=qh pi;have ZW:=qh ((hof.out.trans (Off.drewN _ _ _)).trans pH);clear pi pH;go_wp2_with fail;go_ret;have hcv:=Hcv.out;refine⟨ZW.out,(n:Int),rfl,by omega,by omega,λ_=>?_,λe0=>absurd rfl e0⟩;rw[HP.out];exact⟨_,JF.out⟩
    ·have e1:decide ((n:Int)<least)=false:=qd hlo;by_cases hhi:512<(n:Int)
     ·have e2:decide (512<(n:Int))=true:=qt hhi;have e3:decide (512<n)=true:=qt (by omega);have HP:Hid (yL s least a=.error (2,a)):=qh (by rw[hnp,qy (by omega)]);clear hcv hnp hnz;go_wp2_with fail;refine Jf.out.mono ?_;rintro e w4 ⟨rfl,n4,rfl⟩;go_wp2_with fail;refine(Hw.out _).mono ?_;rintro e w5 ⟨rfl,pi,pH⟩;have JF:=qh pi;have ZW:=qh ((hof.out.trans (Off.drewN _ _ _)).trans pH);clear pi pH;go_wp2_with fail;go_ret;have hcv:=Hcv.out;refine⟨ZW.out,(n:Int),rfl,by omega,by omega,λ_=>?_,λe0=>absurd rfl e0⟩;rw[HP.out];exact⟨_,JF.out⟩
     ·have e2:decide (512<(n:Int))=false:=qd hhi;have e3:decide (512<n)=false:=qd (by omega);have hnv:n=v:=(by omega);have HP:Hid (yL s least a=.ok ((n:Int),j)):=qh (by rw[hnp,qx (by omega),hnv]);clear hcv hnp hnz hnv;go_wp2_with fail;refine Jf.out.mono ?_;rintro e w4 ⟨rfl,n4,rfl⟩;go_wp2_with fail;go_ret;refine⟨hof.out.trans (Off.drewN _ _ _),(n:Int),rfl,by omega,by omega,λ_=>?_,λe0=>absurd rfl e0⟩;rw[HP.out];exact⟨rfl,Hhj.out.drewN _⟩
   ·have c1:decide (48<=(bj.toNat:Int))=true:=qt (by omega);have c1n:48<=(bj.toNat:Int):=(by omega);have c2:decide ((bj.toNat:Int)<=57)=false:=qd (by omega);have c2n:¬(bj.toNat:Int)<=57:=(by omega);have hcv:=zfZ (zct (s:=s) (a:=a) (j:=j) (by omega) haj Vr);have hnz:gV s a a≠a:=by
     have hd:vc s a a=true:=(by unfold vc;rw[HB.out];simp);rw[zbZ hd];have:=(Vq (s:=s) a (a+1) (by omega)).1;omega
    have hnp:yL s least a=if((vF (yM s a j):Int)<least∨512<(vF (yM s a j):Int)) then .error (2,a) else .ok ((vF (yM s a j):Int),j):=by
     unfold yL;rw[qx hnz,<-XC]
    have q2:=λn=>(hrd.out.drewN n).c2;have Hw:=qh (λn=>zaO rb s j 0 0 F 2 a (wr.drewN n) (hrd.out.drewN n) (by decide));have Hjk:=qh XC;clear XC hnE;generalize uM (yM s a j)=n at*;generalize vF (yM s a j)=v at*;have Hcv:=qh hcv;have Hhj:=qh hrd.out;by_cases hlo:(n:Int)<least
    ·have e1:decide ((n:Int)<least)=true:=qt hlo;have HP:Hid (yL s least a=.error (2,a)):=qh (by rw[hnp,qy (by omega)]);clear hcv hnp hnz;go_wp2_with fail;refine Jf.out.mono ?_;rintro e w4 ⟨rfl,n4,rfl⟩;go_wp2_with fail;refine(Hcj.out _).mono ?_;rintro e w4 ⟨rfl,n5,rfl⟩;go_wp2_with fail;refine(Hw.out _).mono ?_;rintro e w5 ⟨rfl,pi,pH⟩;have JF:=qh pi;have ZW:=qh ((hof.out.trans (Off.drewN _ _ _)).trans pH);clear pi pH;go_wp2_with fail;go_ret;have hcv:=Hcv.out;refine⟨ZW.out,(n:Int),rfl,by omega,by omega,λ_=>?_,λe0=>absurd rfl e0⟩;rw[HP.out];exact⟨_,JF.out⟩
    ·have e1:decide ((n:Int)<least)=false:=qd hlo;by_cases hhi:512<(n:Int)
     ·have e2:decide (512<(n:Int))=true:=qt hhi;have e3:decide (512<n)=true:=qt (by omega);have HP:Hid (yL s least a=.error (2,a)):=qh (by rw[hnp,qy (by omega)]);clear hcv hnp hnz;go_wp2_with fail;refine Jf.out.mono ?_;rintro e w4 ⟨rfl,n4,rfl⟩;go_wp2_with fail;refine(Hcj.out _).mono ?_;rintro e w4 ⟨rfl,n5,rfl⟩;go_wp2_with fail;refine(Hw.out _).mono ?_;rintro e w5 ⟨rfl,pi,pH⟩;have JF:=qh pi;have ZW:=qh ((hof.out.trans (Off.drewN _ _ _)).trans pH);clear pi pH;go_wp2_with fail;go_ret;have hcv:=Hcv.out;refine⟨ZW.out,(n:Int),rfl,by omega,by omega,λ_=>?_,λe0=>absurd rfl e0⟩;rw[HP.out];exact⟨_,JF.out⟩
     ·have e2:decide (512<(n:Int))=false:=qd hhi;have e3:decide (512<n)=false:=qd (by omega);have hnv:n=v:=(by omega);have HP:Hid (yL s least a=.ok ((n:Int),j)):=qh (by rw[hnp,qx (by omega),hnv]);clear hcv hnp hnz hnv;go_wp2_with fail;refine Jf.out.mono ?_;rintro e w4 ⟨rfl,n4,rfl⟩;go_wp2_with fail;refine(Hcj.out _).mono ?_;rintro e w4 ⟨rfl,n5,rfl⟩;go_wp2_with fail;go_ret;refine⟨hof.out.trans (Off.drewN _ _ _),(n:Int),rfl,by omega,by omega,λ_=>?_,λe0=>absurd rfl e0⟩;rw[HP.out];exact⟨rfl,Hhj.out.drewN _⟩
theorem zcu (rb:Nat) (s:ByteArray) (a:Nat) (no wh:Int) (F:RF) (least:Int) (w:World) (h:RR w rb s a no wh F) (hl0:0<=least) (hl1:least<=512):
  Calls Tryz.prog 70 #[.pointer (some ⟨rb,0,none⟩),.int .i64 least] w (zqF rb s no wh F least a w):=by
 by_cases hb:no=0/\pY s a 48 57=true
 ·exact ziN rb s a no wh F least w h hb.1 hb.2 hl0 hl1
 ·exact zhu rb s a no wh F least w h hb
def uz:List Mk->List Value
 |[]=>[]
 |m::l=>.int .u8 m.sign::.int .i64 m.n::.int .i64 m.at_::uz l
theorem zik:∀(l:List Mk),(uz l).length=l.length*3
 |[]=>rfl
 |m::l=>by have:=zik l;simp only[uz,qB,this];omega
theorem zgQ:∀(l:List Mk) (m:Mk),uz (l++[m])=uz l++[.int .u8 m.sign,.int .i64 m.n,.int .i64 m.at_]
 |[],m=>rfl
 |x::l,m=>by simp[uz,zgQ l m]
def ZQ:Mk:=⟨0,0,0⟩
theorem zil:∀(l:List Mk) (k:Nat),k<l.length->(uz l)[k*3]?=some (.int .u8 (l.getD k ZQ).sign)/\(uz l)[k*3+1]?=some (.int .i64 (l.getD k ZQ).n)/\(uz l)[k*3+2]?=some (.int .i64 (l.getD k ZQ).at_)
 |[],k,hk=>by simp at hk
 |m::l,0,_=>by simp[uz]
 |m::l,k+1,hk=>by
  have ih:=zil l k (by simpa using hk);have e0:(k+1)*3=k*3+3:=by omega
  have e1:(k+1)*3+1=(k*3+1)+3:=by omega
  have e2:(k+1)*3+2=(k*3+2)+3:=by omega
  rw[e0,show k*3+3+1=(k*3+1)+3 by omega,show k*3+3+2=(k*3+2)+3 by omega];simpa [uz] using ih
def Qy (w:World) (B:Nat) (v:Value) (ms:List Mk):Prop:=w.ownsRow B 101 3 v ms.length (uz ms)
theorem Qy.row {w:World} {B:Nat} {A:Option Addr} {n c:Nat} {ms:List Mk} (h:Qy w B (.slice A n c) ms) {k:Nat} (hk:k<ms.length):
  ∃g,A=some ⟨g,0,none⟩/\g<w.heap.size/\w.cell? ⟨g,k*3,none⟩=some (.int .u8 (ms.getD k ZQ).sign)/\w.cell? ⟨g,k*3+1,none⟩=some (.int .i64 (ms.getD k ZQ).n)/\w.cell? ⟨g,k*3+2,none⟩=some (.int .i64 (ms.getD k ZQ).at_):=by
 have hlen:=zik ms;have hget:=zil ms k hk;have hown:=h;unfold Qy at hown;rcases hown.2 with⟨e,e0⟩|⟨g,cap,cur,e,_,hg,_⟩
 ·omega
 ·simp only[jl] at e;obtain⟨rfl,rfl,rfl⟩:=e;exact⟨g,rfl,(qg hg).1,(hown.cellAt (k*3) (by omega)).trans hget.1,(hown.cellAt (k*3+1) (by omega)).trans hget.2.1,(hown.cellAt (k*3+2) (by omega)).trans hget.2.2⟩
theorem ziO (ms:List Mk) (c:Int) (k:Nat) (h:k<ms.length):pO (ms.take (k+1)) c=pO (ms.take k) c+if(ms.getD k ZQ).sign=c then 1 else 0:=by
 rw[qE h,zdA];simp[qj,h]
theorem zkV (ms:List Mk) (c:Int) (k:Nat):pO (ms.take k) c<=k:=by
 unfold pO;refine qm List.countP_le_length ?_;rw[kQ];omega
theorem zjZ (A:Option Addr) (cap B:Nat) (ms:List Mk) (c:Int) (w:World) (h:Qy w B (.slice A ms.length cap) ms) (hl:ms.length<=70000):
  Calls Tryz.prog 161 #[.slice A ms.length cap,.int .u8 c] w λe w'=>e=.returned (.int .i64 (pO ms c))/\w'=w:=by
 have H:=qh h;clear h;go_enter Tryz.func161,Tryz.ntmps161;go_wp2_with fail;go_loopw [5,6] (λn j wr=>∃k:Nat,k<=ms.length/\j=.int .i64 k/\n=.int .i64 (pO (ms.take k) c)/\Hid (wr=w)) (λ_ j _=>ms.length-(intOf j).toNat)
 case atStart=>exact⟨0,qF _,rfl,rfl,qh rfl⟩
 case round=>
  obtain⟨k,hk,rfl,rfl,hw⟩:=hrel;have hw2:=hw.out;subst hw2;clear hw;by_cases hlt:k<ms.length
  ·obtain⟨g,rfl,_,k0,_,_⟩:=H.out.row hlt;have i1:(0:Int)<=(k:Int):=(by omega);have i2:(k:Int)<(ms.length:Int):=(by omega);have htk:=ziO ms c k hlt;have hml:=zkV ms c k;generalize (ms.getD k ZQ).sign=sg at*;generalize pO (ms.take k) c=n at*;have hw1:IntKind.i64.wrap ((n:Int)+1)=(n:Int)+1:=qi _ (by omega);by_cases hs:sg=c
   ·have e1:(sg==c)=true:=(by simpa using hs);have Zk:Hid (pO (ms.take (k+1)) c=n+1):=qh (by rw[htk,qy hs]);clear htk hs;go_wp2_with fail;go_roundw
    case rel=>exact⟨k+1,by omega,by go_num,by rw[Zk.out];go_num,qh trivial⟩
    case measure=>simp[intOf];omega
   ·have e1:(sg==c)=false:=(by simpa using hs);have Zk:Hid (pO (ms.take (k+1)) c=n):=qh (by rw[htk,qx hs];rfl);clear htk hs;go_wp2_with fail;go_roundw
    case rel=>exact⟨k+1,by omega,by go_num,by rw[Zk.out],qh trivial⟩
    case measure=>simp[intOf];omega
  ·obtain rfl:k=ms.length:=by omega
   go_wp2_with fail;go_ret;exact⟨by rw[qU];rfl,rfl⟩
end Go.Proofs.YtgklikkddckgbaaGreatDoor.Mo


import Derived.Test.YtgklikkddckgbaaGreatDoorJDJ
/- Lemmas. -/
set_option linter.all false
set_option maxRecDepth 100000
set_option maxHeartbeats 2000000
namespace Go.Proofs.YtgklikkddckgbaaGreatDoor.Mo
open Go.RowKit
theorem zjT:Tryz.prog.info? 108=some Tryz.t108:=by kernel_rfl
theorem zjU:Tryz.t108.zero=some (.agg zC):=by kernel_rfl
theorem zjV:Tryz.t108.size=13:=by kernel_rfl
theorem zhr:Tryz.t108.bytes=112:=by kernel_rfl
def zfY (B rb fb:Nat) (s:ByteArray) (vl vm:Value) (w:World) (r:Except (Int×Nat) (Fm×Nat)) (e:Ending) (w':World):Prop:=Below B w w'/\
 match r with
 |.error (c,p)=>e=uP c p
 |.ok (f',j)=>e=.returned (.tuple #[])/\Rd w' rb fb s j/\QQ f' j/\∃vs',Ze w' B fb f' vl vm vs'
structure Vz (w W:World) (rb fb sb:Nat) (s:ByteArray) (f:Fm) (round:Bool) (i:Nat) (l:List It) (j:Nat) (vi:Value) (Q1:List Value):Prop where
 rd:Rd W rb fb s j
 off:Off [rb] w W
 sbl:w.heap.size<=sb
 st:W.heap[sb]?=some (.cells #[.bool round,vi] 106 (0,0))
 its:ZA W w.heap.size f.Qo vi l Q1
 ok:∀x∈l,gj x
 len:l.length+i<=j
theorem Vz.below {w W W':World} {rb fb sb:Nat} {s:ByteArray} {f:Fm} {round:Bool} {i:Nat} {l:List It} {j:Nat} {vi:Value} {Q1:List Value} (h:Vz w W rb fb sb s f round i l j vi Q1) (hb:Below W.heap.size W W'):Vz w W' rb fb sb s f round i l j vi Q1:=
 ⟨h.rd.below hb,h.off.trans (Off.of_below hb (ql _) _),h.sbl,(hb.block _ (qg h.st).1).trans h.st,h.its.off (Off.of_below hb (ql _) []) QB.nil (T:=[]) (by simp) (by simp),h.ok,h.len⟩
theorem zhs (Qo:List UInt8) (cls ref:Int) (ms:List Mk) (a:Nat) (A:Option Addr) (n c:Nat):∀u∈(ZE Qo cls ref ms a (.slice A n c)).toList,u.oneCell'=true:=by
 intro u hu;unfold ZE at hu;simp at hu;rcases hu with rfl|rfl|rfl|rfl|rfl|rfl|rfl|rfl|rfl|rfl|rfl|rfl|rfl<;>rfl
theorem Vz.to {w W:World} {rb fb sb:Nat} {s:ByteArray} {f:Fm} {round:Bool} {i:Nat} {l:List It} {j:Nat} {vi:Value} {Q1:List Value} (h:Vz w W rb fb sb s f round i l j vi Q1) (hj:j+1<=s.size) (hne:sb≠rb):Vz w (W.setCell ⟨rb,1,none⟩ (.int .i64 ((j+1:Nat):Int))) rb fb sb s f round i l (j+1) vi Q1:=by
 have hos:Off [rb] W (W.setCell ⟨rb,1,none⟩ (.int .i64 ((j+1:Nat):Int))):=Off.setCell W rb 1 _;exact⟨h.rd.to hj,h.off.trans hos,h.sbl,(hos.block sb (qg h.st).1 (by simp;exact hne)).trans h.st,h.its.off hos (QB.one h.rd.r) (by decide) (by decide),h.ok,by have:=h.len;omega⟩
theorem Vz.drew {w W:World} {rb fb sb:Nat} {s:ByteArray} {f:Fm} {round:Bool} {i:Nat} {l:List It} {j:Nat} {vi:Value} {Q1:List Value} (h:Vz w W rb fb sb s f round i l j vi Q1):Vz w W.drew rb fb sb s f round i l j vi Q1:=
 h.below (K9 (qb _ _) 1)
theorem zdE {w w':World} {r:Option Nat} (h:w.grownBy w' r):Off r.toList w w':=Off.grown h (λk hk=>by rw[hk];simp)
theorem Vz.next {w W w7 w8:World} {rb fb sb B7:Nat} {s:ByteArray} {f:Fm} {round:Bool} {i:Nat} {l:List It} {j k:Nat} {vi vh v':Value} {Q1:List Value} {x:It} (h:Vz w W rb fb sb s f round i l j vi Q1) (hne:sb≠rb) (hof:Off [rb] W w7) (hrd:Rd w7 rb fb s k)
  (hown:w7.ownsRow B7 3 1 vh (QH x.Qq).length (ua (QH x.Qq))) (hB7:w.heap.size<=B7) (hx:gj x) (hlen:l.length+1+i<=k)
  (hg:w7.grownBy w8 vi.ownBlock) (Gr:w8.ownsRow w.heap.size 108 13 v' (l.length+1) (pz f.Qo l Q1++(ZE f.Qo x.cls x.ref x.Qq x.at_ vh).toList)):
  Vz w (w8.setCell ⟨sb,1,none⟩ v') rb fb sb s f round i (l++[x]) k v' (Q1++[vh])/\w8.cell? ⟨sb,1,none⟩=some vi/\w8.frozen? ⟨sb,1,none⟩=false:=by
 have zr3:ZA w7 w.heap.size f.Qo vi l Q1:=h.its.off hof (QB.one h.rd.r) (by decide) (by decide);have zt5:w7.heap[sb]?=_:=(hof.block sb (qg h.st).1 (by simp;exact hne)).trans h.st;have XP:=zdE hg;have ht8:QB w7 vi.ownBlock.toList [108]:=zea zr3.o;have nin:∀{b e:Nat} {cs:Array Value} {fz:Nat×Nat},w7.heap[b]?=some (.cells cs e fz)->e≠108->b∉vi.ownBlock.toList:=λ{b e cs fz} hb he hm=>by
  obtain⟨cs',e',fz',h1,h2⟩:=ht8 b hm;rw[hb] at h1;simp at h1 h2;exact he (h1.2.1.trans h2)
 have Gs:w8.heap[sb]?=_:=(XP.block sb (qg zt5).1 (nin zt5 (by decide))).trans zt5;have hos:Off [sb] w8 (w8.setCell ⟨sb,1,none⟩ v'):=Off.setCell w8 sb 1 _;have hts:QB w8 [sb] [106]:=QB.one Gs;have hvB:∀q,vi.ownBlock=some q->w.heap.size<=q:=λq hq=>(zr3.o.lt q hq).1;refine⟨⟨?_,?_,h.sbl,?_,⟨by simp[h.its.n],?_,?_⟩,?_,by simp;omega⟩,qc _ _ 1 _ _ (0,0) Gs,qf _ _ 1 _ _ Gs⟩
 ·exact(hrd.off XP (nin hrd.r (by decide))).off hos (by simp;omega)
 ·refine Off.new (L:=[sb]) (Off.new (L:=vi.ownBlock.toList) (h.off.trans hof) XP (λq hq=>.inr (hvB q (by simpa using hq)))) hos (λq hq=>.inr ?_);have:=h.sbl;simp at hq;omega
 ·exact qs w8 sb 1 _ _ v' Gs
 ·rw[zgM f.Qo l Q1 x vh h.its.n,qk,zI];exact hos.QS Gr hts (by decide)
 ·intro q hq;rw[qk,zI] at hq;by_cases hql:q<l.length
  ·have e1:(Q1++[vh]).getD q .nilFunc=Q1.getD q .nilFunc:=by
    have:=h.its.n;simp[qe,qY (show q<Q1.length by omega)]
   have e2:(l++[x]).getD q Q7=l.getD q Q7:=by
    simp[qe,qY hql]
   rw[e1,e2];exact hos.QS (XP.QS (zr3.h q hql) ht8 (by decide)) hts (by decide)
  ·obtain rfl:q=l.length:=by omega
   have e1:(Q1++[vh]).getD l.length .nilFunc=vh:=by
    rw[<-h.its.n];simp[qe]
   have e2:(l++[x]).getD l.length Q7=x:=(by simp[qe]);rw[e1,e2];exact hos.QS (XP.QS (VK hown hB7) ht8 (by decide)) hts (by decide)
 ·intro q hq;rcases qU.1 hq with hq|hq
  ·exact h.ok q hq
  ·obtain rfl:q=x:=by simpa using hq
   exact hx
theorem Vz.fin {w W w8:World} {B rb fb sb:Nat} {s:ByteArray} {f:Fm} {round:Bool} {i i1:Nat} {l:List It} {j:Nat} {vi vl vm vs v8:Value} {Q1 vis:List Value} (h:Vz w W rb fb sb s f round i l j vi Q1) (hm:Ze w B fb f vl vm vs) (hr0:Rd w rb fb s i1) (hB:B<=w.heap.size) (hBr:B<=rb)
  (hrw:RwM W B vs f.rows vis) (hit:∀k,k<f.rows.length->∃Q1,ZA W B f.Qo (vis.getD k .nilFunc) (f.rows.getD k (⟨false,[]⟩:Rw)).items Q1) (hg:W.grownBy w8 vs.ownBlock) (Gr:w8.ownsRow B 106 2 v8 (f.rows.length+1) (Yc f.rows vis++[.bool round,vi])):
  Ze (w8.setCell ⟨fb,3,none⟩ v8) B fb {f with rows:=f.rows++[(⟨round,l⟩:Rw)]} vl vm v8/\Rd (w8.setCell ⟨fb,3,none⟩ v8) rb fb s j/\Below B w (w8.setCell ⟨fb,3,none⟩ v8)/\(w8.setCell ⟨fb,3,none⟩ v8).heap[sb]?=some (.cells #[.bool round,vi] 106 (0,0))/\w8.cell? ⟨fb,3,none⟩=some vs/\w8.frozen? ⟨fb,3,none⟩=false/\ZA (w8.setCell ⟨fb,3,none⟩ v8) w.heap.size f.Qo vi l Q1:=by
 have UX:=hm.QZ hr0 h.off;have XP:=zdE hg;have ht8:QB W vs.ownBlock.toList [106]:=zea hrw.o;have nin:∀{b e:Nat} {cs:Array Value} {fz:Nat×Nat},W.heap[b]?=some (.cells cs e fz)->e≠106->b∉vs.ownBlock.toList:=λ{b e cs fz} hb he hm=>by
  obtain⟨cs',e',fz',h1,h2⟩:=ht8 b hm;rw[hb] at h1;simp at h1 h2;exact he (h1.2.1.trans h2)
 have hvsb:sb∉vs.ownBlock.toList:=λhq=>by
  rw[zU] at hq;obtain⟨vis0,hr00,_⟩:=hm.r;have:=(hr00.o.lt sb hq).2;have:=h.sbl;omega
 have hf8:w8.heap[fb]?=_:=(XP.block fb UX.lt (nin UX.x (by decide))).trans UX.x;have hos:Off [fb] w8 (w8.setCell ⟨fb,3,none⟩ v8):=Off.setCell w8 fb 3 _;have hts:QB w8 [fb] [92]:=QB.one hf8;have hne:=hm.ne hr0;have hfl:=hm.lt;have hsf:sb≠fb:=by have:=h.sbl;omega
 have Gs:=(XP.block sb (qg h.st).1 hvsb).trans h.st;obtain⟨cs,hcs⟩:=UX.m;obtain⟨Av,cv,Yf⟩:=Zn h.its.o;have hits:ZA (w8.setCell ⟨fb,3,none⟩ v8) w.heap.size f.Qo vi l Q1:=(h.its.off XP ht8 (by decide) (by decide)).off hos hts (by decide) (by decide);have hbel:Below B w (w8.setCell ⟨fb,3,none⟩ v8):=by
  refine(h.off.below hB (λk hk=>by simp at hk;omega)).trans ?_;refine(XP.below (qm hB h.off.size) (λk hk=>?_)).trans (hos.below (qm (qm hB h.off.size) XP.size) (λk hk=>by simp at hk;have:=hm.hB;omega));rw[zU] at hk;exact(hrw.o.lt k hk).1
 refine⟨⟨?_,hm.hB,?_,⟨cs,?_⟩,⟨vis++[vi],⟨?_,?_,?_⟩,?_⟩⟩,?_,hbel,?_,qc _ _ 3 _ _ (0,0) hf8,qf _ _ 3 _ _ hf8,hits⟩
 ·exact qs w8 fb 3 _ _ v8 hf8
 ·exact hos.QS (XP.QS UX.l ht8 (by decide)) hts (by decide)
 ·exact(hcs.off XP ht8 (by decide) (by decide) (by decide) (by decide)).off hos hts (by decide) (by decide) (by decide) (by decide)
 ·simp[hrw.n]
 ·have e:=zfT f.rows vis ⟨round,l⟩ vi hrw.n;show(w8.setCell ⟨fb,3,none⟩ v8).ownsRow B 106 2 v8 (f.rows++[(⟨round,l⟩:Rw)]).length (Yc (f.rows++[(⟨round,l⟩:Rw)]) (vis++[vi]));rw[e,qk,zI];exact hos.QS Gr hts (by decide)
 ·intro k hk;rw[qk,zI] at hk;by_cases hkl:k<f.rows.length
  ·have e1:(vis++[vi]).getD k .nilFunc=vis.getD k .nilFunc:=by
    have:=hrw.n;simp[qe,qY (show k<vis.length by omega)]
   have e2:(f.rows++[(⟨round,l⟩:Rw)]).getD k (⟨false,[]⟩:Rw)=f.rows.getD k (⟨false,[]⟩:Rw):=by
    simp[qe,qY hkl]
   rw[e1,e2];exact hrw.it k hkl
  ·obtain rfl:k=f.rows.length:=by omega
   have e1:(vis++[vi]).getD f.rows.length .nilFunc=vi:=by
    rw[<-hrw.n];simp[qe]
   have e2:(f.rows++[(⟨round,l⟩:Rw)]).getD f.rows.length (⟨false,[]⟩:Rw)=(⟨round,l⟩:Rw):=(by simp[qe]);rw[e1,e2];exact⟨Av,cv,Yf⟩
 ·intro k hk;have hk2:k<f.rows.length+1:=by simpa using hk
  by_cases hkl:k<f.rows.length
  ·have e1:(vis++[vi]).getD k .nilFunc=vis.getD k .nilFunc:=by
    have:=hrw.n;simp[qe,qY (show k<vis.length by omega)]
   have e2:(f.rows++[(⟨round,l⟩:Rw)]).getD k (⟨false,[]⟩:Rw)=f.rows.getD k (⟨false,[]⟩:Rw):=by
    simp[qe,qY hkl]
   obtain⟨vq,hq⟩:=hit k hkl;refine⟨vq,?_⟩;show ZA _ B f.Qo ((vis++[vi]).getD k .nilFunc) ((f.rows++[(⟨round,l⟩:Rw)]).getD k (⟨false,[]⟩:Rw)).items vq;rw[e1,e2];exact(hq.off XP ht8 (by decide) (by decide)).off hos hts (by decide) (by decide)
  ·obtain rfl:k=f.rows.length:=by omega
   have e1:(vis++[vi]).getD f.rows.length .nilFunc=vi:=by
    rw[<-hrw.n];simp[qe]
   have e2:(f.rows++[(⟨round,l⟩:Rw)]).getD f.rows.length (⟨false,[]⟩:Rw)=(⟨round,l⟩:Rw):=(by simp[qe]);refine⟨Q1,?_⟩;show ZA _ B f.Qo ((vis++[vi]).getD f.rows.length .nilFunc) ((f.rows++[(⟨round,l⟩:Rw)]).getD f.rows.length (⟨false,[]⟩:Rw)).items Q1;rw[e1,e2];exact hits.mono hB
 ·exact(h.rd.off XP (nin h.rd.r (by decide))).off hos (by simp;omega)
 ·exact(hos.block sb (qg Gs).1 (by simp;omega)).trans Gs
theorem QQ.more {f:Fm} {i j:Nat} {round:Bool} {l:List It} (h:QQ f i) (hj:i+1+l.length<=j) (hl:∀x∈l,gj x):QQ {f with rows:=f.rows++[(⟨round,l⟩:Rw)]} j:=by
 refine⟨?_,h.l0,h.m0,h.s0,h.lm,⟨h.ll.1,by have:=h.ll.2;show f.Qo.length<=j;omega⟩,?_,h.nd,h.lt⟩
 ·have:=h.le;have e:uJ (f.rows++[(⟨round,l⟩:Rw)])=uJ f.rows+l.length:=by unfold uJ;simp
  show uJ (f.rows++[(⟨round,l⟩:Rw)])+(f.rows++[(⟨round,l⟩:Rw)]).length<=j;rw[e];simp;omega
 ·intro r hr x hx;rcases qU.1 hr with hr|hr
  ·exact h.it r hr x hx
  ·obtain rfl:r=(⟨round,l⟩:Rw):=by simpa using hr
   exact hl x hx
structure RF where
 nm:Value
 vl:Value
 vm:Value
 vr:Value
 rd:Bool
 a:Int
 b:Int
 c:Int
def rC (s:ByteArray) (i:Nat) (no wh:Int) (F:RF):Array Value:=#[.string s,.int .i64 i,.int .i64 no,.int .i64 wh,F.nm,F.vl,F.vm,F.vr,.bool F.rd,.int .i64 F.a,.int .i64 F.b,.int .i64 F.c]
structure RR (w:World) (rb:Nat) (s:ByteArray) (i:Nat) (no wh:Int) (F:RF):Prop where
 r:w.heap[rb]?=some (.cells (rC s i no wh F) 115 (0,0))
 le:i<=s.size+2
 sz:s.size<=65536
 ok:no=0->i<=s.size+1/\wh=0
theorem RR.lt {w:World} {rb:Nat} {s:ByteArray} {i:Nat} {no wh:Int} {F:RF} (h:RR w rb s i no wh F):rb<w.heap.size:=(qg h.r).1
theorem RR.c0 {w:World} {rb:Nat} {s:ByteArray} {i:Nat} {no wh:Int} {F:RF} (h:RR w rb s i no wh F):w.cell? ⟨rb,0,none⟩=some (.string s):=qc _ _ 0 _ _ (0,0) h.r
theorem RR.c1 {w:World} {rb:Nat} {s:ByteArray} {i:Nat} {no wh:Int} {F:RF} (h:RR w rb s i no wh F):w.cell? ⟨rb,1,none⟩=some (.int .i64 i):=qc _ _ 1 _ _ (0,0) h.r
theorem RR.c2 {w:World} {rb:Nat} {s:ByteArray} {i:Nat} {no wh:Int} {F:RF} (h:RR w rb s i no wh F):w.cell? ⟨rb,2,none⟩=some (.int .i64 no):=qc _ _ 2 _ _ (0,0) h.r
theorem RR.c3 {w:World} {rb:Nat} {s:ByteArray} {i:Nat} {no wh:Int} {F:RF} (h:RR w rb s i no wh F):w.cell? ⟨rb,3,none⟩=some (.int .i64 wh):=qc _ _ 3 _ _ (0,0) h.r
theorem RR.z {w:World} {rb:Nat} {s:ByteArray} {i:Nat} {no wh:Int} {F:RF} (h:RR w rb s i no wh F) (o:Nat):w.frozen? ⟨rb,o,none⟩=false:=qf _ _ o _ _ h.r
theorem RR.off {L:List Nat} {w w':World} {rb:Nat} {s:ByteArray} {i:Nat} {no wh:Int} {F:RF} (h:RR w rb s i no wh F) (ho:Off L w w') (hn:rb∉L):RR w' rb s i no wh F:=⟨(ho.block _ h.lt hn).trans h.r,h.le,h.sz,h.ok⟩
theorem RR.below {w w':World} {rb:Nat} {s:ByteArray} {i:Nat} {no wh:Int} {F:RF} (h:RR w rb s i no wh F) (hb:Below w.heap.size w w'):RR w' rb s i no wh F:=⟨(hb.block _ h.lt).trans h.r,h.le,h.sz,h.ok⟩
theorem RR.to {w:World} {rb:Nat} {s:ByteArray} {i:Nat} {no wh:Int} {F:RF} (h:RR w rb s i no wh F) {j:Nat} (hj:j<=s.size+1):RR (w.setCell ⟨rb,1,none⟩ (.int .i64 j)) rb s j no wh F:=
 ⟨qs w rb 1 (rC s i no wh F) _ _ h.r,by omega,h.sz,λe=>⟨hj,(h.ok e).2⟩⟩
theorem RR.drewN {w:World} {rb:Nat} {s:ByteArray} {i:Nat} {no wh:Int} {F:RF} (h:RR w rb s i no wh F) (n:Nat):RR (w.drewN n) rb s i no wh F:=⟨h.r,h.le,h.sz,h.ok⟩
def Kp (no e:Int):Int:=if no=0 then e else no
def Jp (no wh p:Int):Int:=if no=0 then p else wh
theorem zaO (rb:Nat) (s:ByteArray) (i:Nat) (no wh:Int) (F:RF) (e p:Int) (w:World) (h:RR w rb s i no wh F) (he:e≠0):
  Calls Tryz.prog 47 #[.pointer (some ⟨rb,0,none⟩),.int .i64 e,.int .i64 p] w λx w'=>x=.returned (.tuple #[])/\RR w' rb s i (Kp no e) (Jp no wh p) F/\Off [rb] w w':=by
 have r2:=h.c2;have r3:=h.c3;have z2:=h.z 2;have z3:=h.z 3;have H:=qh h;unfold Kp Jp;by_cases h0:no=0
 ·have hd:(no==0)=true:=by simpa using h0
  rw[qq h0,qq h0];clear h;go_enter Tryz.func47,Tryz.ntmps47;go_wp2_with fail;refine zk (qW rfl _ _ _) rfl ?_;exact⟨rfl,⟨qs _ rb 3 _ _ (.int .i64 p) (qs w rb 2 _ _ (.int .i64 e) H.out.r),H.out.le,H.out.sz,λe0=>absurd e0 he⟩,(Off.setCell w rb 2 _).trans (Off.setCell _ rb 3 _)⟩
 ·have hd:(no==0)=false:=by simpa using h0
  rw[qp h0,qp h0];clear h;go_enter Tryz.func47,Tryz.ntmps47;go_wp2_with fail;refine zk (qW rfl _ _ _) rfl ?_;exact⟨rfl,H.out,Off.refl _ _⟩
theorem zbu (rb:Nat) (s:ByteArray) (i:Nat) (no wh:Int) (F:RF) (w:World) (h:RR w rb s i no wh F):
  Calls Tryz.prog 66 #[.pointer (some ⟨rb,0,none⟩)] w λx w'=>x=.returned (.tuple #[])/\RR w' rb s i (Kp no 180) (Jp no wh i) F/\Off [rb] w w':=by
 have r1:=h.c1;have Hw:=qh (zaO rb s i no wh F 180 i w h (by decide));clear h;go_enter Tryz.func66,Tryz.ntmps66;go_wp2_with fail;refine Hw.out.mono ?_;rintro e w' ⟨rfl,hr,ho⟩;have Hr:=qh hr;have Ho:=qh ho;clear hr ho;go_wp2_with fail;refine zk (qW rfl _ _ _) rfl ?_;exact⟨rfl,Hr.out,Ho.out⟩
def vJ (no:Int) (s:ByteArray) (i:Nat):UInt8:=if no=0 then QA s i else 0
theorem zbe {s:ByteArray} {i:Nat} (h:¬i<s.size):QA s i=0:=by unfold QA;rw[xT h]
theorem uU (rb:Nat) (s:ByteArray) (i:Nat) (no wh:Int) (F:RF) (w:World) (h:RR w rb s i no wh F):
  Calls Tryz.prog 67 #[.pointer (some ⟨rb,0,none⟩)] w λx w'=>x=.returned (.int .u8 (vJ no s i).toNat)/\∃n,w'=w.drewN n:=by
 have r0:=h.c0;have r1:=h.c1;have r2:=h.c2;have hsz:=h.sz;have hle:=h.le;clear h;unfold vJ;by_cases h0:no=0
 ·have hd:(no==0)=true:=by simpa using h0
  rw[qq h0];by_cases hi:i<s.size
  ·rw[JA hi];have hd2:decide ((i:Int)<(s.size:Int))=true:=qt (by omega);go_enter Tryz.func67,Tryz.ntmps67;go_wp2_with fail;go_quiet (fail)
   go_wp2_with fail;go_quiet (fail)
   go_wp2_with fail;go_ret;exact⟨rfl,_,World.drewN_drewN _ _ _⟩
  ·rw[zbe hi];have hd2:decide ((i:Int)<(s.size:Int))=false:=qd (by omega);go_enter Tryz.func67,Tryz.ntmps67;go_wp2_with fail;go_quiet (fail)
   go_wp2_with fail;go_ret;exact⟨rfl,_,rfl⟩
 ·have hd:(no==0)=false:=by simpa using h0
  rw[qp h0];go_enter Tryz.func67,Tryz.ntmps67;go_wp2_with fail;go_quiet (fail)
  go_wp2_with fail;go_ret;exact⟨rfl,_,rfl⟩
def zm0 (no:Int) (s:ByteArray) (i:Nat):Bool:=if no=0 then uj s i else true
theorem zht (rb:Nat) (s:ByteArray) (i:Nat) (no wh:Int) (F:RF) (w:World) (h:RR w rb s i no wh F):
  Calls Tryz.prog 64 #[.pointer (some ⟨rb,0,none⟩)] w λx w'=>x=.returned (.bool (zm0 no s i))/\∃n,w'=w.drewN n:=by
 have r0:=h.c0;have r1:=h.c1;have r2:=h.c2;have hsz:=h.sz;have hle:=h.le;clear h;unfold zm0;by_cases h0:no=0
 ·have hd:(no !=0)=false:=by simpa using h0
  rw[qq h0];by_cases hi:i<s.size
  ·rw[zeu hi];have hd2:decide ((s.size:Int)<=(i:Int))=false:=qd (by omega);have hd3:decide (s.size<=i)=false:=qd (by omega);go_enter Tryz.func64,Tryz.ntmps64;go_wp2_with fail;go_quiet (fail)
   go_wp2_with fail;go_ret;exact⟨rfl,_,rfl⟩
  ·rw[zco hi];have hd2:decide ((s.size:Int)<=(i:Int))=true:=qt (by omega);have hd3:decide (s.size<=i)=true:=qt (by omega);go_enter Tryz.func64,Tryz.ntmps64;go_wp2_with fail;go_quiet (fail)
   go_wp2_with fail;go_ret;exact⟨rfl,_,rfl⟩
 ·have hd:(no !=0)=true:=by simpa using h0
  rw[qp h0];go_enter Tryz.func64,Tryz.ntmps64;go_wp2_with fail;go_quiet (fail)
  go_wp2_with fail;go_ret;exact⟨rfl,_,rfl⟩
theorem zjW (rb:Nat) (s:ByteArray) (i:Nat) (no wh:Int) (F:RF) (w:World) (h:RR w rb s i no wh F):
  Calls Tryz.prog 64 #[.pointer (some ⟨rb,0,none⟩)] w λx w'=>x=.returned (.bool (zm0 no s i))/\Below w.heap.size w w':=by
 refine(zht rb s i no wh F w h).mono ?_;rintro e w' ⟨rfl,n,rfl⟩;exact⟨rfl,K9 (qb _ _) n⟩
theorem zjX {s:ByteArray} {i:Nat} {c:UInt8} (hc:c≠0):(((QA s i).toNat:Int) !=(c.toNat:Int))=!QC s i c.toNat:=by
 by_cases hi:i<s.size
 ·rw[JA hi,Kf hi];rfl
 ·rw[zbe hi,zcE hi];have:(0:UInt8).toNat=0:=rfl;have h2:c.toNat≠0:=λe=>hc (by apply kS.1;rw[e];rfl);have h3:¬(((0:UInt8).toNat:Int)=(c.toNat:Int)):=by rw[this];omega
  simpa [bne] using h3
theorem zlT {c:UInt8} (hc:c≠0):(((0:UInt8).toNat:Int) !=(c.toNat:Int))=true:=by
 have:(0:UInt8).toNat=0:=rfl;have h2:c.toNat≠0:=λe=>hc (by apply kS.1;rw[e];rfl);have h3:¬(((0:UInt8).toNat:Int)=(c.toNat:Int)):=by rw[this];omega
 simpa [bne] using h3
theorem zmf {l:List UInt8} {c:UInt8} {k:Nat} (hk:l[k]?=some c) (hm:∀j,j<k->l[j]?≠some c):Lib.indexByte l c=k:=by
 have hge:=yU l c;by_cases h:Lib.indexByte l c= -1
 ·exact absurd hk (Lib.indexByte_none h k)
 ·obtain⟨o,ho⟩:∃o:Nat,Lib.indexByte l c=o:=⟨(Lib.indexByte l c).toNat,by omega⟩;obtain⟨h1,h2⟩:=yj ho;rcases Nat.lt_trichotomy o k with h3|h3|h3
  ·exact absurd h1 (hm o h3)
  ·rw[ho,h3]
  ·exact absurd hk (h2 k h3)
theorem zmg {l:List UInt8} {c:UInt8} (h:∀j,j<l.length->l[j]?≠some c):Lib.indexByte l c= -1:=by
 have hge:=yU l c;by_cases h0:Lib.indexByte l c= -1
 ·exact h0
 ·obtain⟨o,ho⟩:∃o:Nat,Lib.indexByte l c=o:=⟨(Lib.indexByte l c).toNat,by omega⟩;obtain⟨h1,h2⟩:=yj ho;exact absurd h1 (h o (ky.1 h1).1)
theorem zkS (a b:UInt8):(((a.toNat:Int)==(b.toNat:Int))=true)<->a=b:=by
 rw[ja];constructor
 ·intro h;apply kS.1;omega
 ·rintro rfl;rfl
theorem zcL (rb:Nat) (s:ByteArray) (i:Nat) (no wh:Int) (F:RF) (w:World) (h:RR w rb s i no wh F) (hi:i<=s.size):
  Calls Tryz.prog 45 #[.pointer (some ⟨rb,0,none⟩)] w λe w'=>Off [rb] w w'/\e=.returned (.string (s.extract i (if no=0 then zap s i else i)))/\RR w' rb s (if no=0 then zap s i else i) no wh F:=by
 have hsz:=h.sz;have r1:=h.c1;have H:=qh h;generalize hE:(if no=0 then zap s i else i)=E;have HE0:Hid ((if no=0 then zap s i else i)=E):=qh hE;clear h hE;go_enter Tryz.func45,Tryz.ntmps45;go_wp2_with fail;go_loopw [] (λwr=>∃j:Nat,i<=j/\j<=s.size/\Hid ((if no=0 then zap s j else j)=E)/\Hid (RR wr rb s j no wh F)/\Hid (Off [rb] w wr)) (λwr=>s.size-(match wr.cell? ⟨rb,1,none⟩ with|some v=>(intOf v).toNat|none=>0))
 case atStart=>exact⟨i,ql _,hi,HE0,H,qh (Off.refl _ _)⟩
 case round=>
  obtain⟨j,hij,hj,hE,hrd,hof⟩:=hrel;have Hq:=qh (zjW rb s j no wh F wr hrd.out);have ZG:Hid (wr.cell? ⟨rb,1,none⟩=some (.int .i64 j)):=qh hrd.out.c1;clear HE0;go_wp2_with fail;refine Hq.out.mono ?_;rintro e w2 ⟨rfl,hb2⟩;have Z0:=hrd.out.below hb2;have KI:=qh Z0;have Yo:=qh (hof.out.trans (Off.of_below hb2 (ql _) [rb]));have q0:=Z0.c0;have q1:=Z0.c1;have z1:=Z0.z 1;clear hb2 Z0 Hq;cases hen:zm0 no s j with
  |true=>
   have hEj:j=E:=by
    rw[<-hE.out];by_cases h0:no=0
    ·rw[qq h0];unfold zm0 at hen;rw[qq h0] at hen;exact(zb8 hen).symm
    ·rw[qp h0]
   subst hEj;have hle1:i<=j:=hij;have d1:(0:Int)<=(i:Int):=(by omega);have d2:(i:Int)<=(j:Int):=(by omega);have d3:(j:Int)<=(s.size:Int):=(by omega);clear hen;go_wp2_with fail;go_quiet (fail)
   go_wp2_with fail;go_ret;exact⟨Yo.out.trans (Off.drewN _ _ _),rfl,KI.out.drewN _⟩
  |false=>
   have h0:no=0:=by
    by_cases h0:no=0
    ·exact h0
    ·unfold zm0 at hen;rw[qp h0] at hen;cases hen
   have Uv:uj s j=false:=(by unfold zm0 at hen;rw[qq h0] at hen;exact hen);have hlt:j<s.size:=by
    by_cases hlt:j<s.size
    ·exact hlt
    ·rw[zco hlt] at Uv;cases Uv
   have hE2:Hid ((if no=0 then zap s (j+1) else j+1)=E):=qh (by rw[<-hE.out,qq h0,qq h0,zfE Uv]);have hw:IntKind.i64.wrap ((j:Int)+1)=(j:Int)+1:=qi _ (by omega);have hc:((j+1:Nat):Int)=(j:Int)+1:=(by omega);have hfin:RR (w2.setCell ⟨rb,1,none⟩ (.int .i64 ((j:Int)+1))) rb s (j+1) no wh F:=(by rw[<-hc];exact KI.out.to (by omega));have Qu:=qh hfin;have Gf:=qh (Yo.out.trans (Off.setCell w2 rb 1 (.int .i64 ((j:Int)+1))));clear hen Uv hfin;go_wp2_with fail;go_roundw
   case rel=>exact⟨j+1,by omega,by omega,hE2,Qu,Gf⟩
   case measure=>
    rw[Qu.out.c1,ZG.out];simp only[intOf];omega
theorem zfn (c:UInt8) (w:World):
  Calls Tryz.prog 129 #[.int .u8 c.toNat] w λe w'=>e=.returned (.int .i64 (vI c))/\w'=w:=by
 go_enter Tryz.func129,Tryz.ntmps129;generalize hT:(ByteArray.mk (List.toArray [97,98,99,100,101,102,103,104,105,106,107,108,109,110,111,112,113,114,115,116,117,118,119,121,122]))=T0;have hT2:T0.data.toList=Ym:=by rw[<-hT];rfl
 have hTs:T0.size=25:=by rw[<-hT];rfl
 clear hT;go_wp2_with fail;go_loopw [3] (λj wr=>∃k:Nat,k<=25/\j=.int .i64 k/\Hid (∀q,q<k->Ym[q]?≠some c)/\Hid (wr=w)) (λj _=>25-(intOf j).toNat)
 case atStart=>exact⟨0,qQ _,rfl,qh (λq hq=>by omega),qh rfl⟩
 case round=>
  obtain⟨k,hk,rfl,hno,hw⟩:=hrel;by_cases hlt:k<25
  ·have hkT:k<T0.size:=(by omega);have i1:(0:Int)<=(k:Int):=(by omega);have i2:(k:Int)<(T0.size:Int):=(by omega);have hget:Ym[k]?=some T0[k]:=by
    rw[<-hT2];rw[qC (by rw[qP];exact hkT)];rfl
   have hd:decide ((k:Int)<25)=true:=qt (by omega);by_cases hq:T0[k]=c
   ·have hqe:((T0[k].toNat:Int)==(c.toNat:Int))=true:=(zkS _ _).2 hq;have hres:vI c=k:=zmf (by rw[hget,hq]) hno.out;have Yp:=qh hres;clear hq hget hres;go_wp2_with fail;go_ret;exact⟨by rw[Yp.out];rfl,hw.out⟩
   ·have hqe:((T0[k].toNat:Int)==(c.toNat:Int))=false:=by
     cases hx:((T0[k].toNat:Int)==(c.toNat:Int)) with
     |false=>rfl
     |true=>exact absurd ((zkS _ _).1 hx) hq
    have zt6:Hid (∀q,q<k+1->Ym[q]?≠some c):=qh (λq hq2=>by
     by_cases e:q=k
     ·subst e;rw[hget];simpa using hq
     ·exact hno.out q (by omega))
    clear hq hget;go_wp2_with fail;go_roundw
    case rel=>exact⟨k+1,by omega,by go_num,zt6,hw⟩
    case measure=>simp[intOf];omega
  ·obtain rfl:k=25:=by omega
   have hres:vI c= -1:=zmg (λj hj=>hno.out j hj);have Yp:=qh hres;clear hres;go_wp2_with fail;go_ret;exact⟨by rw[Yp.out];rfl,hw.out⟩
theorem zd6 (rb B:Nat) (s:ByteArray) (i:Nat) (no wh:Int) (F:RF) (Qo:List UInt8) (c:UInt8) (w:World) (h:RR w rb s i no wh F) (hl:w.ownsRow B 5 1 F.vl Qo.length (JD Qo)) (hll:Qo.length<=70000):
  Calls Tryz.prog 68 #[.pointer (some ⟨rb,0,none⟩),.int .u8 c.toNat] w λe w'=>e=.returned (.int .i64 (Lib.indexByte Qo c))/\w'=w:=by
 have r5:w.cell? ⟨rb,5,none⟩=some F.vl:=qc _ _ 5 _ _ (0,0) h.r;obtain⟨A,cap,hvl⟩:=Zn hl;rw[hvl] at r5;have hrow:0<Qo.length->∃g,A=some ⟨g,0,none⟩/\∀k,k<Qo.length->w.cell? ⟨g,k,none⟩=some (.int .u8 (Qo.getD k 0).toNat):=λhpos=>by
  rcases hl.2 with⟨e,e0⟩|⟨g,cp,cur,e,_,hg,_⟩
  ·omega
  ·rw[hvl] at e;simp only[xM] at e;obtain⟨rfl,_,rfl⟩:=e;rw[hvl] at hl;refine⟨g,rfl,λk hk=>?_⟩;rw[hl.cellAt k (by omega)];unfold JD;simp[qe,hk]
 clear h hl hvl;go_enter Tryz.func68,Tryz.ntmps68;go_wp2_with fail;go_loopw [5] (λj wr=>∃k:Nat,k<=Qo.length/\j=.int .i64 k/\Hid (∀q,q<k->Qo[q]?≠some c)/\Hid (wr=w)) (λj _=>Qo.length-(intOf j).toNat)
 case atStart=>exact⟨0,qQ _,rfl,qh (λq hq=>by omega),qh rfl⟩
 case round=>
  obtain⟨k,hk,rfl,hno,hw⟩:=hrel;have hw2:=hw.out;subst hw2;clear hw;by_cases hlt:k<Qo.length
  ·obtain⟨g,rfl,hcell⟩:=hrow (by omega);have k0:=hcell k hlt;have hget:Qo[k]?=some (Qo.getD k 0):=(by simp[qe,hlt]);have i1:(0:Int)<=(k:Int):=(by omega);have i2:(k:Int)<(Qo.length:Int):=(by omega);generalize Qo.getD k 0=x at*;by_cases hq:x=c
   ·have hqe:((x.toNat:Int)==(c.toNat:Int))=true:=(zkS _ _).2 hq;have hres:Lib.indexByte Qo c=k:=zmf (by rw[hget,hq]) hno.out;have Yp:=qh hres;clear hq hget hres hcell;go_wp2_with fail;go_ret;exact⟨by rw[Yp.out];rfl,rfl⟩
   ·have hqe:((x.toNat:Int)==(c.toNat:Int))=false:=by
     cases hx:((x.toNat:Int)==(c.toNat:Int)) with
     |false=>rfl
     |true=>exact absurd ((zkS _ _).1 hx) hq
    have zt6:Hid (∀q,q<k+1->Qo[q]?≠some c):=qh (λq hq2=>by
     by_cases e:q=k
     ·subst e;rw[hget];simpa using hq
     ·exact hno.out q (by omega))
    clear hq hget hcell;go_wp2_with fail;go_roundw
    case rel=>exact⟨k+1,by omega,by go_num,zt6,qh trivial⟩
    case measure=>simp[intOf];omega
  ·obtain rfl:k=Qo.length:=by omega
   have hres:Lib.indexByte Qo c= -1:=zmg (λj hj=>hno.out j hj);have Yp:=qh hres;clear hres;go_wp2_with fail;go_ret;exact⟨by rw[Yp.out];rfl,rfl⟩
def pl (l:List UInt8):Nat:=l.foldl (λn c=>if n<100000 then 10*n+(c.toNat-48) else n) 0
theorem zjY:∀(l:List UInt8) (a b:Nat),zcG l=true->(a=b∨(100000<=a/\100000<=b))->a<=1000009->
  (l.foldl (λn c=>if n<100000 then 10*n+(c.toNat-48) else n) a=pk b l∨(100000<=l.foldl (λn c=>if n<100000 then 10*n+(c.toNat-48) else n) a/\100000<=pk b l))/\l.foldl (λn c=>if n<100000 then 10*n+(c.toNat-48) else n) a<=1000009
 |[],a,b,_,h,ha=>⟨h,ha⟩
 |c::l,a,b,hd,h,ha=>by
  unfold zcG at hd;rw[List.all_cons,qA,qA,qG,qG] at hd;have hv:pk b (c::l)=pk (10*b+(c.toNat-48)) l:=rfl;rw[hv,jA];refine zjY l _ _ hd.2 ?_ ?_
  ·split
   ·rcases h with h|h
    ·left;rw[h]
    ·omega
   ·rcases h with h|h
    ·right;omega
    ·right;omega
  ·split<;>omega
theorem zfZ {l:List UInt8} (hd:zcG l=true):(pl l=uf l∨(100000<=pl l/\100000<=uf l))/\pl l<=1000009:=zjY l 0 0 hd (.inl rfl) (by omega)
theorem zkT (l:List UInt8) (c:UInt8):pl (l++[c])=if pl l<100000 then 10*pl l+(c.toNat-48) else pl l:=by
 unfold pl;rw[xt];rfl
theorem zkU {s:ByteArray} {a j:Nat} (ha:a<=j) (hj:j<s.size):vA s a (j+1)=vA s a j++[s[j]]:=by
 unfold vA;have e:j+1-a=(j-a)+1:=by omega
 rw[e];have hl:j-a<(s.data.toList.drop a).length:=by
  rw[zu,qP];have:s.data.size=s.size:=rfl;omega
 rw[qJ hl];congr 2
 rw[List.getElem_drop];have e2:a+(j-a)=j:=by omega
 simp only[e2];rfl
def zr4 (rb:Nat) (s:ByteArray) (no wh:Int) (F:RF) (least:Int) (i:Nat) (w:World) (e:Ending) (w':World):Prop:=Off [rb] w w'/\∃n:Int,e=.returned (.int .i64 n)/\0<=n/\n<=1000009/\
 (no=0->match vz s least i with|.ok (v,j)=>n=v/\RR w' rb s j 0 0 F|.error (c,p)=>∃j,RR w' rb s j c p F)/\(no≠0->∃j,RR w' rb s j no wh F)
theorem zgP {no:Int} {s:ByteArray} {i:Nat} {a b:Int} (h0:no=0) (ha:0<a):Zq s i a b=(decide (a<=((vJ no s i).toNat:Int))&&decide (((vJ no s i).toNat:Int)<=b)):=by
 unfold vJ;rw[qq h0];by_cases hi:i<s.size
 ·rw[VM hi,JA hi]
 ·rw[zcF hi,zbe hi];have:(0:UInt8).toNat=0:=rfl;have h1:¬a<=((0:UInt8).toNat:Int):=by rw[this];omega
  rw[zw h1];rfl
theorem zhu (rb:Nat) (s:ByteArray) (i:Nat) (no wh:Int) (F:RF) (least:Int) (w:World) (h:RR w rb s i no wh F) (hb:¬(no=0/\Zq s i 48 57=true)):
  Calls Tryz.prog 70 #[.pointer (some ⟨rb,0,none⟩),.int .i64 least] w (zr4 rb s no wh F least i w):=by
 have r1:=h.c1;have hsz:=h.sz;have H:=qh h;have hbc:((vJ no s i).toNat:Int)<48∨57<((vJ no s i).toNat:Int):=by
  by_cases h0:no=0
  ·have h1:=zgP (s:=s) (i:=i) (a:=48) (b:=57) h0 (by omega);by_cases h2:((vJ no s i).toNat:Int)<48
   ·exact .inl h2
   ·right;by_cases h3:57<((vJ no s i).toNat:Int)
    ·exact h3
    ·refine absurd ⟨h0,?_⟩ hb;rw[h1,qL (by omega),qL (by omega)];rfl
  ·left;unfold vJ;rw[qp h0];decide
 have HP:Hid (no=0->vz s least i=.error (180,i)):=qh (λh0=>by
  have hin:Zq s i 48 57=false:=by
   cases hx:Zq s i 48 57 with
   |false=>rfl
   |true=>exact absurd ⟨h0,hx⟩ hb
  have:vO s i i=false:=by unfold vO;rw[hin];rfl
  unfold vz;rw[qq (zaZ this)])
 have Hc:=qh (λn=>uU rb s i no wh F (w.drewN n) (h.drewN n));have Z2:=qh (λn=>zbu rb s i no wh F (w.drewN n) (h.drewN n));have hn0:Kp no 180≠0:=by unfold Kp;split<;>omega
 have hn1:(Kp no 180==0)=false:=by simpa using hn0
 have hfin:∀w',Off [rb] w w'->RR w' rb s i (Kp no 180) (Jp no wh i) F->zr4 rb s no wh F least i w (.returned (.int .i64 0)) w':=λw' ho hr=>by
  refine⟨ho,0,rfl,by omega,by omega,λh0=>?_,λh0=>?_⟩
  ·rw[HP.out h0];unfold Kp Jp at hr;rw[qq h0,qq h0] at hr;exact⟨_,hr⟩
  ·unfold Kp Jp at hr;rw[qp h0,qp h0] at hr;exact⟨_,hr⟩
 have Qu:=qh hfin;have Hn0:=qh hn0;generalize vJ no s i=bc at*;clear h hb hfin hn0;have YC:=qh (Hc.out 0);rcases hbc with hlt|hgt
 have d1:decide ((bc.toNat:Int)<48)=true:=qt hlt;go_enter Tryz.func70,Tryz.ntmps70;go_wp2_with fail;refine YC.out.mono ?_;rintro e w2 ⟨rfl,n2,rfl⟩;rotate_left
 have hnl:¬(bc.toNat:Int)<48:=by omega
 have d1:decide ((bc.toNat:Int)<48)=false:=qd hnl;have d2:decide (57<(bc.toNat:Int))=true:=qt hgt;go_enter Tryz.func70,Tryz.ntmps70;go_wp2_with fail;refine YC.out.mono ?_;rintro e w2 ⟨rfl,n2,rfl⟩;go_wp2_with fail;refine(Hc.out _).mono ?_;rintro e w3 ⟨rfl,n3,rfl⟩
 all_goals
  go_wp2_with fail;refine(Z2.out _).mono ?_;rintro e w4 ⟨rfl,hr4,Kh⟩;have VA:=qh hr4;have Uw:=qh ((Off.drewN _ w _).trans Kh);have q2:=hr4.c2;have Hc4:=qh (λn=>uU rb s i (Kp no 180) (Jp no wh i) F (w4.drewN n) (hr4.drewN n));have h40:vJ (Kp no 180) s i=0:=by unfold vJ;rw[qp Hn0.out]
  rw[h40] at Hc4;have z0:((0:UInt8).toNat:Int)=0:=rfl;rw[z0] at Hc4;clear hr4 Kh h40 z0;go_wp2_with fail;go_loopw [6] (λnn wr=>nn=.int .i64 0/\Hid (∃n,wr=w4.drewN n)) (λ_ _=>0)
  case atStart=>exact⟨rfl,qh ⟨0,rfl⟩⟩
  case round=>
   obtain⟨rfl,hw4⟩:=hrel;obtain⟨n4,hn4⟩:=hw4.out;subst hn4;clear hw4;go_wp2_with fail;refine(Hc4.out _).mono ?_;rintro e w5 ⟨rfl,n5,rfl⟩;go_wp2_with fail;go_ret;exact Qu.out _ (Uw.out.trans (Off.drewN _ _ _)) (VA.out.drewN _)
theorem zct {s:ByteArray} {a j:Nat} (ha:a<=s.size) (haj:a<=j) (hj:j<=Qx s a a):zcG (vA s a j)=true:=by
 have h:=zhY s a ha;unfold zcG at h|-;rw[zF] at h|-;intro c hc;refine h c ?_;unfold vA at hc|-;have e:(s.data.toList.drop a).take (j-a)=((s.data.toList.drop a).take (Qx s a a-a)).take (j-a):=by rw[List.take_take,yY (by omega)]
 rw[e] at hc;exact jN hc
theorem ziN (rb:Nat) (s:ByteArray) (a:Nat) (no wh:Int) (F:RF) (least:Int) (w:World) (h:RR w rb s a no wh F) (h0:no=0) (hb:Zq s a 48 57=true) (hl0:0<=least) (hl1:least<=512):
  Calls Tryz.prog 70 #[.pointer (some ⟨rb,0,none⟩),.int .i64 least] w (zr4 rb s no wh F least a w):=by
 subst h0;have hwh:=(h.ok rfl).2;subst hwh;have r1:=h.c1;have hsz:=h.sz;have H:=qh h;have hal:=zb7 hb;have hbd:48<=((QA s a).toNat:Int)/\((QA s a).toNat:Int)<=57:=by
  rw[VM hal] at hb;rw[JA hal];simpa using hb
 have HB:=qh hb;have hb0:vJ 0 s a=QA s a:=by unfold vJ;rw[qq rfl]
 have Hc:=qh (λn=>uU rb s a 0 0 F (w.drewN n) (h.drewN n));rw[hb0] at Hc;have YC:=qh (Hc.out 0);have hEb:=UV (s:=s) a a (by omega);generalize QA s a=bc at*;have hnl:¬(bc.toNat:Int)<48:=by omega
 have hng:¬57<(bc.toNat:Int):=by omega
 have d1:decide ((bc.toNat:Int)<48)=false:=qd hnl;have d2:decide (57<(bc.toNat:Int))=false:=qd hng;clear h hb hb0;go_enter Tryz.func70,Tryz.ntmps70;go_wp2_with fail;refine YC.out.mono ?_;rintro e w2 ⟨rfl,n2,rfl⟩;go_wp2_with fail;refine(Hc.out _).mono ?_;rintro e w3 ⟨rfl,n3,rfl⟩;go_wp2_with fail;go_loopw [6] (λnn wr=>∃j:Nat,a<=j/\j<=Qx s a a/\nn=.int .i64 (pl (vA s a j))/\Hid (RR wr rb s j 0 0 F)/\Hid (Off [rb] w wr)/\Hid (j<=a+1∨QC s a 48=false)/\Hid (Qx s a a=Qx s a j)) (λ_ wr=>s.size-(match wr.cell? ⟨rb,1,none⟩ with|some v=>(intOf v).toNat|none=>0))
 case atStart=>exact⟨a,ql _,hEb.1,by unfold vA;rw[Nat.sub_self];rfl,qh (H.out.drewN _),qh (Off.drewN _ _ _),qh (.inl (by omega)),qh rfl⟩
 case round=>
  obtain⟨j,haj,UW,rfl,hrd,hof,hbr,hnE⟩:=hrel;have Hcj:=qh (λn=>uU rb s j 0 0 F (wr.drewN n) (hrd.out.drewN n));have hbj:vJ 0 s j=QA s j:=by unfold vJ;rw[qq rfl]
  rw[hbj] at Hcj;have ZG:Hid (wr.cell? ⟨rb,1,none⟩=some (.int .i64 j)):=qh hrd.out.c1;have q0:=λn=>(hrd.out.drewN n).c0;have q1:=λn=>(hrd.out.drewN n).c1;have z1:=λn=>(hrd.out.drewN n).z 1;have hin:=zgP (no:=0) (s:=s) (i:=j) (a:=48) (b:=57) rfl (by omega);rw[hbj] at hin;have XQ:=qh (Hcj.out 0);have hwa:IntKind.i64.wrap ((a:Int)+1)=(a:Int)+1:=qi _ (by omega);by_cases hdg:Zq s j 48 57=true
  ·have hjl:=zb7 hdg;rw[hdg] at hin;have hin2:=hin.symm;rw[qA,qG,qG] at hin2;have c1:decide (48<=((QA s j).toNat:Int))=true:=qt hin2.1;have c2:decide (((QA s j).toNat:Int)<=57)=true:=qt hin2.2;have hcs:=zkU (s:=s) haj hjl;have hcp:=zkT (vA s a j) s[j];rw[<-hcs] at hcp;rw[JA hjl] at hin2 c1 c2 Hcj XQ;by_cases hz:j=a+1/\QC s a 48=true
   ·obtain⟨hja,hz2⟩:=hz;have e5:((j:Int)==(a:Int)+1)=true:=(by rw[hja];simp);have hsa:((s[a].toNat:Int)==48)=true:=(by rw[<-Kf hal];exact hz2);have i1:(0:Int)<=(a:Int):=(by omega);have i2:(a:Int)<(s.size:Int):=(by omega);have Y3:j=Qx s a a:=by
     rw[hnE.out]
     have:vO s a j=false:=by unfold vO;rw[hdg,hz2];have:¬(j=a):=by omega
                             simp[this]
     exact(zaZ this).symm
    generalize s[j]=bj at*;clear hcs hcp hin hja hz2;have hcv:=zfZ (zct (s:=s) (a:=a) (j:=j) (by omega) haj UW);have hnz:Qx s a a≠a:=by
     have hd:vO s a a=true:=(by unfold vO;rw[HB.out];simp);rw[zbZ hd];have:=(UV (s:=s) a (a+1) (by omega)).1;omega
    have hnp:vz s least a=if((uf (vA s a j):Int)<least∨512<(uf (vA s a j):Int)) then .error (2,a) else .ok ((uf (vA s a j):Int),j):=by
     unfold vz;rw[qp hnz,<-Y3]
    have q2:=λn=>(hrd.out.drewN n).c2;have Hw:=qh (λn=>zaO rb s j 0 0 F 2 a (wr.drewN n) (hrd.out.drewN n) (by decide));have Hjk:=qh Y3;clear Y3 hnE;generalize pl (vA s a j)=n at*;generalize uf (vA s a j)=v at*;have Hcv:=qh hcv;have Hhj:=qh hrd.out;by_cases hlo:(n:Int)<least
    ·have e1:decide ((n:Int)<least)=true:=qt hlo;have HP:Hid (vz s least a=.error (2,a)):=qh (by rw[hnp,qq (by omega)]);clear hcv hnp hnz;go_wp2_with fail;refine XQ.out.mono ?_;rintro e w4 ⟨rfl,n4,rfl⟩;go_wp2_with fail;refine(Hcj.out _).mono ?_;rintro e w4 ⟨rfl,n5,rfl⟩;go_wp2_with fail;refine(Hw.out _).mono ?_;rintro e w5 ⟨rfl,QK,Zf⟩;have Ye:=qh QK;have Jq:=qh ((hof.out.trans (Off.drewN _ _ _)).trans Zf);clear QK Zf;go_wp2_with fail;go_ret;have hcv:=Hcv.out;refine⟨Jq.out,(n:Int),rfl,by omega,by omega,λ_=>?_,λe0=>absurd rfl e0⟩;rw[HP.out];exact⟨_,Ye.out⟩
    ·have e1:decide ((n:Int)<least)=false:=qd hlo;by_cases hhi:512<(n:Int)
     ·have e2:decide (512<(n:Int))=true:=qt hhi;have e3:decide (512<n)=true:=qt (by omega);have HP:Hid (vz s least a=.error (2,a)):=qh (by rw[hnp,qq (by omega)]);clear hcv hnp hnz;go_wp2_with fail;refine XQ.out.mono ?_;rintro e w4 ⟨rfl,n4,rfl⟩;go_wp2_with fail;refine(Hcj.out _).mono ?_;rintro e w4 ⟨rfl,n5,rfl⟩;go_wp2_with fail;refine(Hw.out _).mono ?_;rintro e w5 ⟨rfl,QK,Zf⟩;have Ye:=qh QK;have Jq:=qh ((hof.out.trans (Off.drewN _ _ _)).trans Zf);clear QK Zf;go_wp2_with fail;go_ret;have hcv:=Hcv.out;refine⟨Jq.out,(n:Int),rfl,by omega,by omega,λ_=>?_,λe0=>absurd rfl e0⟩;rw[HP.out];exact⟨_,Ye.out⟩
     ·have e2:decide (512<(n:Int))=false:=qd hhi;have e3:decide (512<n)=false:=qd (by omega);have hnv:n=v:=(by omega);have HP:Hid (vz s least a=.ok ((n:Int),j)):=qh (by rw[hnp,qp (by omega),hnv]);clear hcv hnp hnz hnv;go_wp2_with fail;refine XQ.out.mono ?_;rintro e w4 ⟨rfl,n4,rfl⟩;go_wp2_with fail;refine(Hcj.out _).mono ?_;rintro e w4 ⟨rfl,n5,rfl⟩;go_wp2_with fail;go_ret;refine⟨hof.out.trans (Off.drewN _ _ _),(n:Int),rfl,by omega,by omega,λ_=>?_,λe0=>absurd rfl e0⟩;rw[HP.out];exact⟨rfl,Hhj.out.drewN _⟩
   ·have hdj:vO s a j=true:=by
     unfold vO;rw[hdg,kh,kM,qG];by_cases e:j=a
     ·exact .inl e
     ·right;cases hz2:QC s a 48 with
      |false=>rfl
      |true=>
       rcases hbr.out with h1|h1
       ·exact absurd ⟨by omega,hz2⟩ hz
       ·rw[hz2] at h1;cases h1
    have zt7:Qx s a a=Qx s a (j+1):=(by rw[hnE.out,zbZ hdj]);have hj1:j+1<=Qx s a a:=(by rw[zt7];exact(UV (s:=s) a (j+1) (by omega)).1);have hbr2:j+1<=a+1∨QC s a 48=false:=by
     by_cases e:j=a
     ·left;omega
     ·right;cases hz2:QC s a 48 with
      |false=>rfl
      |true=>
       rcases hbr.out with h1|h1
       ·exact absurd ⟨by omega,hz2⟩ hz
       ·rw[hz2] at h1;cases h1
    have zsO:=qh zt7;have Hbr2:=qh hbr2;have i1:(0:Int)<=(a:Int):=(by omega);have i2:(a:Int)<(s.size:Int):=(by omega);have hcv:=zfZ (zct (s:=s) (a:=a) (j:=j) (by omega) haj UW);have hcap:=hcv.2;have hwj:IntKind.i64.wrap ((j:Int)+1)=(j:Int)+1:=qi _ (by omega);have hcc:((j+1:Nat):Int)=(j:Int)+1:=(by omega);have hfin:∀n,RR ((wr.drewN n).setCell ⟨rb,1,none⟩ (.int .i64 ((j:Int)+1))) rb s (j+1) 0 0 F/\Off [rb] w ((wr.drewN n).setCell ⟨rb,1,none⟩ (.int .i64 ((j:Int)+1))):=λn=>by
     rw[<-hcc];exact⟨(hrd.out.drewN n).to (by omega),(hof.out.trans (Off.drewN _ _ n)).trans (Off.setCell _ rb 1 _)⟩
    have Qu:=qh hfin;have Hcp:=qh hcp;have hb1:((s[j].toNat:Int)-48)=((s[j].toNat-48:Nat):Int):=(by omega);have hu8:IntKind.u8.wrap ((s[j].toNat:Int)-48)=(s[j].toNat:Int)-48:=zfI (by omega) (by omega);have hu64:IntKind.i64.wrap ((s[j].toNat:Int)-48)=(s[j].toNat:Int)-48:=qi _ (by omega);have hsa:j=a+1->((s[a].toNat:Int)==48)=false:=λe=>by
     cases hz2:QC s a 48 with
     |true=>exact absurd ⟨e,hz2⟩ hz
     |false=>rw[<-Kf hal];exact hz2
    have H1:=qh hin2.1;have H2:=qh hin2.2;generalize hcap0:pl (vA s a j)=n at*;have zt8:n<100000->IntKind.i64.wrap (10*(n:Int))=10*(n:Int):=λhn=>qi _ (by omega);generalize hbx:s[j]=bj at*;have hws:n<100000->IntKind.i64.wrap (10*(n:Int)+((bj.toNat:Int)-48))=10*(n:Int)+((bj.toNat:Int)-48):=λhn=>qi _ (by omega);clear hcs hcp hin zt7 hbr2 hcv hdj hfin hnE hbr hin2 hcap0 hbx;by_cases hja:j=a+1
    have e5:((j:Int)==(a:Int)+1)=true:=(by rw[hja];simp);have hsa1:=hsa hja;rotate_left
    have e5:((j:Int)==(a:Int)+1)=false:=by
     have:¬((j:Int)=(a:Int)+1):=(by omega);simpa using this
    all_goals
     clear hsa hja;by_cases hn:n<100000
     ·have e6:decide ((n:Int)<100000)=true:=qt (by omega);have w1:=zt8 hn;have w2:=hws hn;have hmod:Hid (10*(n:Int)+((bj.toNat-48:Nat):Int)%256=10*(n:Int)+((bj.toNat:Int)-48)):=qh (by have h1:=H1.out;have h2:=H2.out;omega);have hcast:Hid (((10*n+(bj.toNat-48):Nat):Int)=10*(n:Int)+((bj.toNat:Int)-48)):=qh (by have h1:=H1.out;omega);have hnew:Hid (pl (vA s a (j+1))=10*n+(bj.toNat-48)):=qh (by rw[Hcp.out,qq hn]);clear zt8 hws hn;go_wp2_with fail;refine XQ.out.mono ?_;rintro e w4 ⟨rfl,n4,rfl⟩;go_wp2_with fail;refine(Hcj.out _).mono ?_;rintro e w4 ⟨rfl,n5,rfl⟩;go_wp2_with fail;refine(Hcj.out _).mono ?_;rintro e w4 ⟨rfl,n6,rfl⟩;go_wp2_with fail;go_roundw
      case rel=>exact⟨j+1,by omega,by rw[zsO.out];exact(UV (s:=s) a (j+1) (by omega)).1,by rw[hnew.out,hcast.out];rw[hmod.out],qh (Qu.out _).1,qh (Qu.out _).2,Hbr2,zsO⟩
      case measure=>
       have e1:=(Qu.out (n4+n5+n6)).1.c1;rw[e1,ZG.out];simp only[intOf];omega
     ·have e6:decide ((n:Int)<100000)=false:=qd (by omega);have hnew:Hid (pl (vA s a (j+1))=n):=qh (by rw[Hcp.out,qp hn]);clear zt8 hws hn;go_wp2_with fail;refine XQ.out.mono ?_;rintro e w4 ⟨rfl,n4,rfl⟩;go_wp2_with fail;refine(Hcj.out _).mono ?_;rintro e w4 ⟨rfl,n5,rfl⟩;go_wp2_with fail;go_roundw
      case rel=>exact⟨j+1,by omega,by rw[zsO.out];exact(UV (s:=s) a (j+1) (by omega)).1,by rw[hnew.out],qh (Qu.out _).1,qh (Qu.out _).2,Hbr2,zsO⟩
      case measure=>
       have e1:=(Qu.out (n4+n5)).1.c1;rw[e1,ZG.out];simp only[intOf];omega
  ·have hdj:vO s a j=false:=by
    unfold vO;cases hx:Zq s j 48 57 with
    |true=>exact absurd hx hdg
    |false=>rfl
   have Y3:j=Qx s a a:=(by rw[hnE.out];exact(zaZ hdj).symm);have hin3:((QA s j).toNat:Int)<48∨57<((QA s j).toNat:Int):=by
    by_cases h1:((QA s j).toNat:Int)<48
    ·exact .inl h1
    ·right;by_cases h2:57<((QA s j).toNat:Int)
     ·exact h2
     ·refine absurd ?_ hdg;rw[hin,qL (by omega),qL (by omega)];rfl
   generalize QA s j=bj at*;clear hin hdg hdj;rcases hin3 with hlt|hgt
   ·have c1:decide (48<=(bj.toNat:Int))=false:=qd (by omega);have c1n:¬48<=(bj.toNat:Int):=(by omega);have hcv:=zfZ (zct (s:=s) (a:=a) (j:=j) (by omega) haj UW);have hnz:Qx s a a≠a:=by
     have hd:vO s a a=true:=(by unfold vO;rw[HB.out];simp);rw[zbZ hd];have:=(UV (s:=s) a (a+1) (by omega)).1;omega
    have hnp:vz s least a=if((uf (vA s a j):Int)<least∨512<(uf (vA s a j):Int)) then .error (2,a) else .ok ((uf (vA s a j):Int),j):=by
     unfold vz;rw[qp hnz,<-Y3]
    have q2:=λn=>(hrd.out.drewN n).c2;have Hw:=qh (λn=>zaO rb s j 0 0 F 2 a (wr.drewN n) (hrd.out.drewN n) (by decide));have Hjk:=qh Y3;clear Y3 hnE;generalize pl (vA s a j)=n at*;generalize uf (vA s a j)=v at*;have Hcv:=qh hcv;have Hhj:=qh hrd.out;by_cases hlo:(n:Int)<least
    ·have e1:decide ((n:Int)<least)=true:=qt hlo;have HP:Hid (vz s least a=.error (2,a)):=qh (by rw[hnp,qq (by omega)]);clear hcv hnp hnz;go_wp2_with fail;refine XQ.out.mono ?_;rintro e w4 ⟨rfl,n4,rfl⟩;go_wp2_with fail;refine(Hw.out _).mono ?_;rintro e w5 ⟨rfl,QK,Zf⟩;have Ye:=qh QK;have Jq:=qh ((hof.out.trans (Off.drewN _ _ _)).trans Zf);clear QK Zf;go_wp2_with fail;go_ret;have hcv:=Hcv.out;refine⟨Jq.out,(n:Int),rfl,by omega,by omega,λ_=>?_,λe0=>absurd rfl e0⟩;rw[HP.out];exact⟨_,Ye.out⟩
    ·have e1:decide ((n:Int)<least)=false:=qd hlo;by_cases hhi:512<(n:Int)
     ·have e2:decide (512<(n:Int))=true:=qt hhi;have e3:decide (512<n)=true:=qt (by omega);have HP:Hid (vz s least a=.error (2,a)):=qh (by rw[hnp,qq (by omega)]);clear hcv hnp hnz;go_wp2_with fail;refine XQ.out.mono ?_;rintro e w4 ⟨rfl,n4,rfl⟩;go_wp2_with fail;refine(Hw.out _).mono ?_;rintro e w5 ⟨rfl,QK,Zf⟩;have Ye:=qh QK;have Jq:=qh ((hof.out.trans (Off.drewN _ _ _)).trans Zf);clear QK Zf;go_wp2_with fail;go_ret;have hcv:=Hcv.out;refine⟨Jq.out,(n:Int),rfl,by omega,by omega,λ_=>?_,λe0=>absurd rfl e0⟩;rw[HP.out];exact⟨_,Ye.out⟩
     ·have e2:decide (512<(n:Int))=false:=qd hhi;have e3:decide (512<n)=false:=qd (by omega);have hnv:n=v:=(by omega);have HP:Hid (vz s least a=.ok ((n:Int),j)):=qh (by rw[hnp,qp (by omega),hnv]);clear hcv hnp hnz hnv;go_wp2_with fail;refine XQ.out.mono ?_;rintro e w4 ⟨rfl,n4,rfl⟩;go_wp2_with fail;go_ret;refine⟨hof.out.trans (Off.drewN _ _ _),(n:Int),rfl,by omega,by omega,λ_=>?_,λe0=>absurd rfl e0⟩;rw[HP.out];exact⟨rfl,Hhj.out.drewN _⟩
   ·have c1:decide (48<=(bj.toNat:Int))=true:=qt (by omega);have c1n:48<=(bj.toNat:Int):=(by omega);have c2:decide ((bj.toNat:Int)<=57)=false:=qd (by omega);have c2n:¬(bj.toNat:Int)<=57:=(by omega);have hcv:=zfZ (zct (s:=s) (a:=a) (j:=j) (by omega) haj UW);have hnz:Qx s a a≠a:=by
     have hd:vO s a a=true:=(by unfold vO;rw[HB.out];simp);rw[zbZ hd];have:=(UV (s:=s) a (a+1) (by omega)).1;omega
    have hnp:vz s least a=if((uf (vA s a j):Int)<least∨512<(uf (vA s a j):Int)) then .error (2,a) else .ok ((uf (vA s a j):Int),j):=by
     unfold vz;rw[qp hnz,<-Y3]
    have q2:=λn=>(hrd.out.drewN n).c2;have Hw:=qh (λn=>zaO rb s j 0 0 F 2 a (wr.drewN n) (hrd.out.drewN n) (by decide));have Hjk:=qh Y3;clear Y3 hnE;generalize pl (vA s a j)=n at*;generalize uf (vA s a j)=v at*;have Hcv:=qh hcv;have Hhj:=qh hrd.out;by_cases hlo:(n:Int)<least
    ·have e1:decide ((n:Int)<least)=true:=qt hlo;have HP:Hid (vz s least a=.error (2,a)):=qh (by rw[hnp,qq (by omega)]);clear hcv hnp hnz;go_wp2_with fail;refine XQ.out.mono ?_;rintro e w4 ⟨rfl,n4,rfl⟩;go_wp2_with fail;refine(Hcj.out _).mono ?_;rintro e w4 ⟨rfl,n5,rfl⟩;go_wp2_with fail;refine(Hw.out _).mono ?_;rintro e w5 ⟨rfl,QK,Zf⟩;have Ye:=qh QK;have Jq:=qh ((hof.out.trans (Off.drewN _ _ _)).trans Zf);clear QK Zf;go_wp2_with fail;go_ret;have hcv:=Hcv.out;refine⟨Jq.out,(n:Int),rfl,by omega,by omega,λ_=>?_,λe0=>absurd rfl e0⟩;rw[HP.out];exact⟨_,Ye.out⟩
    ·have e1:decide ((n:Int)<least)=false:=qd hlo;by_cases hhi:512<(n:Int)
     ·have e2:decide (512<(n:Int))=true:=qt hhi;have e3:decide (512<n)=true:=qt (by omega);have HP:Hid (vz s least a=.error (2,a)):=qh (by rw[hnp,qq (by omega)]);clear hcv hnp hnz;go_wp2_with fail;refine XQ.out.mono ?_;rintro e w4 ⟨rfl,n4,rfl⟩;go_wp2_with fail;refine(Hcj.out _).mono ?_;rintro e w4 ⟨rfl,n5,rfl⟩;go_wp2_with fail;refine(Hw.out _).mono ?_;rintro e w5 ⟨rfl,QK,Zf⟩;have Ye:=qh QK;have Jq:=qh ((hof.out.trans (Off.drewN _ _ _)).trans Zf);clear QK Zf;go_wp2_with fail;go_ret;have hcv:=Hcv.out;refine⟨Jq.out,(n:Int),rfl,by omega,by omega,λ_=>?_,λe0=>absurd rfl e0⟩;rw[HP.out];exact⟨_,Ye.out⟩
     ·have e2:decide (512<(n:Int))=false:=qd hhi;have e3:decide (512<n)=false:=qd (by omega);have hnv:n=v:=(by omega);have HP:Hid (vz s least a=.ok ((n:Int),j)):=qh (by rw[hnp,qp (by omega),hnv]);clear hcv hnp hnz hnv;go_wp2_with fail;refine XQ.out.mono ?_;rintro e w4 ⟨rfl,n4,rfl⟩;go_wp2_with fail;refine(Hcj.out _).mono ?_;rintro e w4 ⟨rfl,n5,rfl⟩;go_wp2_with fail;go_ret;refine⟨hof.out.trans (Off.drewN _ _ _),(n:Int),rfl,by omega,by omega,λ_=>?_,λe0=>absurd rfl e0⟩;rw[HP.out];exact⟨rfl,Hhj.out.drewN _⟩
theorem zcu (rb:Nat) (s:ByteArray) (a:Nat) (no wh:Int) (F:RF) (least:Int) (w:World) (h:RR w rb s a no wh F) (hl0:0<=least) (hl1:least<=512):
  Calls Tryz.prog 70 #[.pointer (some ⟨rb,0,none⟩),.int .i64 least] w (zr4 rb s no wh F least a w):=by
 by_cases hb:no=0/\Zq s a 48 57=true
 ·exact ziN rb s a no wh F least w h hb.1 hb.2 hl0 hl1
 ·exact zhu rb s a no wh F least w h hb
def pm:List Mk->List Value
 |[]=>[]
 |m::l=>.int .u8 m.sign::.int .i64 m.n::.int .i64 m.at_::pm l
theorem zik:∀(l:List Mk),(pm l).length=l.length*3
 |[]=>rfl
 |m::l=>by have:=zik l;simp only[pm,qv,this];omega
theorem zgQ:∀(l:List Mk) (m:Mk),pm (l++[m])=pm l++[.int .u8 m.sign,.int .i64 m.n,.int .i64 m.at_]
 |[],m=>rfl
 |x::l,m=>by simp[pm,zgQ l m]
def Xs:Mk:=⟨0,0,0⟩
theorem zil:∀(l:List Mk) (k:Nat),k<l.length->(pm l)[k*3]?=some (.int .u8 (l.getD k Xs).sign)/\(pm l)[k*3+1]?=some (.int .i64 (l.getD k Xs).n)/\(pm l)[k*3+2]?=some (.int .i64 (l.getD k Xs).at_)
 |[],k,hk=>by simp at hk
 |m::l,0,_=>by simp[pm]
 |m::l,k+1,hk=>by
  have ih:=zil l k (by simpa using hk);have e0:(k+1)*3=k*3+3:=by omega
  have e1:(k+1)*3+1=(k*3+1)+3:=by omega
  have e2:(k+1)*3+2=(k*3+2)+3:=by omega
  rw[e0,show k*3+3+1=(k*3+1)+3 by omega,show k*3+3+2=(k*3+2)+3 by omega];simpa [pm] using ih
def Kq (w:World) (B:Nat) (v:Value) (ms:List Mk):Prop:=w.ownsRow B 101 3 v ms.length (pm ms)
theorem Kq.row {w:World} {B:Nat} {A:Option Addr} {n c:Nat} {ms:List Mk} (h:Kq w B (.slice A n c) ms) {k:Nat} (hk:k<ms.length):
  ∃g,A=some ⟨g,0,none⟩/\g<w.heap.size/\w.cell? ⟨g,k*3,none⟩=some (.int .u8 (ms.getD k Xs).sign)/\w.cell? ⟨g,k*3+1,none⟩=some (.int .i64 (ms.getD k Xs).n)/\w.cell? ⟨g,k*3+2,none⟩=some (.int .i64 (ms.getD k Xs).at_):=by
 have hlen:=zik ms;have hget:=zil ms k hk;have hown:=h;unfold Kq at hown;rcases hown.2 with⟨e,e0⟩|⟨g,cap,cur,e,_,hg,_⟩
 ·omega
 ·simp only[xM] at e;obtain⟨rfl,rfl,rfl⟩:=e;exact⟨g,rfl,(qg hg).1,(hown.cellAt (k*3) (by omega)).trans hget.1,(hown.cellAt (k*3+1) (by omega)).trans hget.2.1,(hown.cellAt (k*3+2) (by omega)).trans hget.2.2⟩
theorem ziO (ms:List Mk) (c:Int) (k:Nat) (h:k<ms.length):Zh (ms.take (k+1)) c=Zh (ms.take k) c+if(ms.getD k Xs).sign=c then 1 else 0:=by
 rw[qJ h,zdA];simp[qe,h]
theorem zkV (ms:List Mk) (c:Int) (k:Nat):Zh (ms.take k) c<=k:=by
 unfold Zh;refine qm List.countP_le_length ?_;rw[kk];omega
theorem zjZ (A:Option Addr) (cap B:Nat) (ms:List Mk) (c:Int) (w:World) (h:Kq w B (.slice A ms.length cap) ms) (hl:ms.length<=70000):
  Calls Tryz.prog 161 #[.slice A ms.length cap,.int .u8 c] w λe w'=>e=.returned (.int .i64 (Zh ms c))/\w'=w:=by
 have H:=qh h;clear h;go_enter Tryz.func161,Tryz.ntmps161;go_wp2_with fail;go_loopw [5,6] (λn j wr=>∃k:Nat,k<=ms.length/\j=.int .i64 k/\n=.int .i64 (Zh (ms.take k) c)/\Hid (wr=w)) (λ_ j _=>ms.length-(intOf j).toNat)
 case atStart=>exact⟨0,qQ _,rfl,rfl,qh rfl⟩
 case round=>
  obtain⟨k,hk,rfl,rfl,hw⟩:=hrel;have hw2:=hw.out;subst hw2;clear hw;by_cases hlt:k<ms.length
  ·obtain⟨g,rfl,_,k0,_,_⟩:=H.out.row hlt;have i1:(0:Int)<=(k:Int):=(by omega);have i2:(k:Int)<(ms.length:Int):=(by omega);have htk:=ziO ms c k hlt;have hml:=zkV ms c k;generalize (ms.getD k Xs).sign=sg at*;generalize Zh (ms.take k) c=n at*;have hw1:IntKind.i64.wrap ((n:Int)+1)=(n:Int)+1:=qi _ (by omega);by_cases hs:sg=c
   ·have e1:(sg==c)=true:=(by simpa using hs);have KT:Hid (Zh (ms.take (k+1)) c=n+1):=qh (by rw[htk,qq hs]);clear htk hs;go_wp2_with fail;go_roundw
    case rel=>exact⟨k+1,by omega,by go_num,by rw[KT.out];go_num,qh trivial⟩
    case measure=>simp[intOf];omega
   ·have e1:(sg==c)=false:=(by simpa using hs);have KT:Hid (Zh (ms.take (k+1)) c=n):=qh (by rw[htk,qp hs];rfl);clear htk hs;go_wp2_with fail;go_roundw
    case rel=>exact⟨k+1,by omega,by go_num,by rw[KT.out],qh trivial⟩
    case measure=>simp[intOf];omega
  ·obtain rfl:k=ms.length:=by omega
   go_wp2_with fail;go_ret;exact⟨by rw[qR];rfl,rfl⟩
end Go.Proofs.YtgklikkddckgbaaGreatDoor.Mo


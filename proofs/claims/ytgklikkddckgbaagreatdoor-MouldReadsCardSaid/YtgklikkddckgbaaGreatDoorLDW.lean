import Derived.Test.YtgklikkddckgbaaGreatDoorLDU
/- Lemmas. -/
set_option linter.all false
set_option maxRecDepth 100000
set_option maxHeartbeats 4000000
namespace Go.Proofs.YtgklikkddckgbaaGreatDoor.Mo
open Go.RowKit
def mK4 (s:ByteArray) (f:Fm) (c:UInt8) (b:Nat):Except (Int×Nat) (Fm×Nat):=match Zs ⟨(yM s b (zap s b)).toArray⟩ with
 |.error (e,p)=>.error (e,b+p)
 |.ok m=>.ok ({f with gN:=f.gN++[c],gQ:=f.gQ++[m]},zap s b)
def mK3 (s:ByteArray) (f:Fm) (c:UInt8) (i:Nat):Except (Int×Nat) (Fm×Nat):=match pF (py s [32] i) with
 |.error e=>.error e
 |.ok b=>mK4 s f c b
def mK2 (s:ByteArray) (f:Fm) (a:Nat):Except (Int×Nat) (Fm×Nat):=if 0<=Lib.indexByte f.gN (gZ s a) then .error (181,a) else mK3 s f (gZ s a) (a+1)
def mK1 (s:ByteArray) (f:Fm) (a:Nat):Except (Int×Nat) (Fm×Nat):=if¬pY s a 97 122 then .error (180,a) else mK2 s f a
theorem zf6 {s:ByteArray} {f:Fm} {i:Nat}:YF s f i=match pF (py s Zt i) with|.error e=>.error e|.ok a=>mK1 s f a:=by
 unfold YF;rfl
theorem J9.le {w w':World} {rb:Nat} {s:ByteArray} {F F':RF} {wh no' wh':Int} {i j:Nat} {r:Except (Int×Nat) Nat} (h:J9 rb s 0 wh F w i r w') (hr:RR w' rb s j no' wh' F'):j<=s.size:=by
 have h1:=h.2.1 rfl;have h2:=hr.c1;cases r with
 |error e=>
  obtain⟨c,p⟩:=e;obtain⟨j',hj,hr'⟩:=h1;rw[hr'.c1] at h2;simp at h2;omega
 |ok a=>
  obtain⟨ha,hr'⟩:=h1;rw[hr'.c1] at h2;simp at h2;omega
theorem RR.zsv {w:World} {rb:Nat} {s:ByteArray} {i:Nat} {no wh:Int} {F:RF} (h:RR w rb s i no wh F) (v:Value):RR (w.setCell ⟨rb,5,none⟩ v) rb s i no wh {F with vl:=v}:=⟨qs w rb 5 _ _ v h.r,h.le,h.sz,h.ok⟩
theorem RR.zsw {w:World} {rb:Nat} {s:ByteArray} {i:Nat} {no wh:Int} {F:RF} (h:RR w rb s i no wh F) (v:Value):RR (w.setCell ⟨rb,6,none⟩ v) rb s i no wh {F with vm:=v}:=⟨qs w rb 6 _ _ v h.r,h.le,h.sz,h.ok⟩
theorem Qc.letter {W w8:World} {B rb:Nat} {s:ByteArray} {f:Fm} {F:RF} {j cl:Nat} {no wh:Int} {Al:Option Addr} {v8:Value} {c:UInt8} (hf:Qc W B f F) (hr:RR W rb s j no wh F) (hBr:B<=rb) (hv:F.vl=.slice Al f.gN.length cl)
  (hown:w8.ownsRow B 5 1 v8 (f.gN.length+1) (Z6 f.gN++[.int .u8 c.toNat])) (hg:W.grownBy w8 (Value.slice Al f.gN.length cl).ownBlock):
  (RR (w8.setCell ⟨rb,5,none⟩ v8) rb s j no wh {F with vl:=v8}/\Qc (w8.setCell ⟨rb,5,none⟩ v8) B {f with gN:=f.gN++[c]} {F with vl:=v8}/\Below B W (w8.setCell ⟨rb,5,none⟩ v8)/\Off F.vl.ownBlock.toList W w8/\Off [rb] w8 (w8.setCell ⟨rb,5,none⟩ v8)/\pc W F.vl.ownBlock.toList [5]/\pc w8 [rb] [115])/\w8.cell? ⟨rb,5,none⟩=some (.slice Al f.gN.length cl)/\w8.frozen? ⟨rb,5,none⟩=false:=by
 rw[<-hv] at hg;have hog:Off F.vl.ownBlock.toList W w8:=Off.grown hg (λk hk=>by rw[hk];simp);have ht:pc W F.vl.ownBlock.toList [5]:=zea hf.l;have ZX:=hr.off hog (zcO hf.l hr.r (by decide));have hos:=Off.setCell w8 rb 5 v8;have hts:pc w8 [rb] [115]:=pc.one ZX.r;obtain⟨cs,hm⟩:=hf.m;obtain⟨vis,hrm⟩:=hf.r;have h1:=hr.lt;have h2:=ZX.lt;refine⟨⟨ZX.zsv v8,⟨hf.nm,?_,⟨cs,(hm.off hog ht (by decide) (by decide) (by decide) (by decide)).off hos hts (by decide) (by decide) (by decide) (by decide)⟩,⟨vis,(hrm.off hog ht (by decide) (by decide) (by decide)).off hos hts (by decide) (by decide) (by decide)⟩,hf.rd,hf.a,hf.b,hf.c⟩,
  (hog.below (by omega) (λk hk=>(zfs hf.l k hk).1)).trans (hos.below (by omega) (λk hk=>by simp at hk;omega)),hog,hos,ht,hts⟩,?_,qf _ _ 5 _ _ ZX.r⟩
 ·have e:Z6 (f.gN++[c])=Z6 f.gN++[.int .u8 c.toNat]:=by simp[Z6]
  show World.ownsRow _ B 5 1 v8 (f.gN++[c]).length (Z6 (f.gN++[c]));rw[e,qv,zv];exact hos.pp hown hts (by decide)
 ·rw[<-hv];exact qc _ _ 5 _ _ (0,0) ZX.r
theorem Qc.metre {W w8:World} {B rb:Nat} {s:ByteArray} {f:Fm} {F:RF} {j cm:Nat} {no wh:Int} {Am:Option Addr} {v8 vf ve vb:Value} {m:Met} {vs2:List Value} {cs:List (Value×Value×Value)} (hf:Qc W B f F) (hr:RR W rb s j no wh F) (hBr:B<=rb) (hv:F.vm=.slice Am f.gQ.length cm) (hcs:Zy W B F.vm f.gQ cs)
  (hown:w8.ownsRow B 79 3 v8 (f.gQ.length+1) (vS cs++[vf,ve,vb])) (hg:W.grownBy w8 (Value.slice Am f.gQ.length cm).ownBlock):
  (RR (w8.setCell ⟨rb,6,none⟩ v8) rb s j no wh {F with vm:=v8}/\(pl m/\OM W B m vf ve vb vs2->Qc (w8.setCell ⟨rb,6,none⟩ v8) B {f with gQ:=f.gQ++[m]} {F with vm:=v8})/\Below B W (w8.setCell ⟨rb,6,none⟩ v8))/\w8.cell? ⟨rb,6,none⟩=some (.slice Am f.gQ.length cm)/\w8.frozen? ⟨rb,6,none⟩=false:=by
 rw[<-hv] at hg;have hog:Off F.vm.ownBlock.toList W w8:=Off.grown hg (λk hk=>by rw[hk];simp);have ht:pc W F.vm.ownBlock.toList [79]:=zea hcs.o;have ZX:=hr.off hog (zcO hcs.o hr.r (by decide));have hos:=Off.setCell w8 rb 6 v8;have hts:pc w8 [rb] [115]:=pc.one ZX.r;obtain⟨vis,hrm⟩:=hf.r;have h1:=hr.lt;have h2:=ZX.lt;refine⟨⟨ZX.zsw v8,λ⟨hz,JE⟩=>⟨hf.nm,hos.pp (hog.pp hf.l ht (by decide)) hts (by decide),⟨cs++[(vf,ve,vb)],by simp[hcs.n],?_,λk hk=>?_⟩,⟨vis,(hrm.off hog ht (by decide) (by decide) (by decide)).off hos hts (by decide) (by decide) (by decide)⟩,hf.rd,hf.a,hf.b,hf.c⟩,
  (hog.below (by omega) (λk hk=>(zfs hcs.o k hk).1)).trans (hos.below (by omega) (λk hk=>by simp at hk;omega))⟩,?_,qf _ _ 6 _ _ ZX.r⟩
 ·show World.ownsRow _ B 79 3 v8 (f.gQ++[m]).length _;rw[zeH,qv,zv];exact hos.pp hown hts (by decide)
 ·have keep:∀{m:Met} {a b c:Value} {vs:List Value},OM W B m a b c vs->OM (w8.setCell ⟨rb,6,none⟩ v8) B m a b c vs:=λhq=>
   OM.J4 (OM.J4 hq hog ht (by decide) (by decide) (by decide)) hos hts (by decide) (by decide) (by decide)
  have hn:=hcs.n;by_cases hkl:k<f.gQ.length
  ·have e1:(f.gQ++[m]).getD k yO=f.gQ.getD k yO:=zaR _ _ _ _ hkl;have e2:(cs++[(vf,ve,vb)]).getD k default=cs.getD k default:=zaR _ _ _ _ (by omega);simp only;rw[e1,e2];obtain⟨hz',vs,ho'⟩:=hcs.m k hkl;exact⟨hz',vs,keep ho'⟩
  ·obtain rfl:k=f.gQ.length:=by simp at hk;omega
   have e1:(f.gQ++[m]).getD f.gQ.length yO=m:=zaM _ _ _;have e2:(cs++[(vf,ve,vb)]).getD f.gQ.length default=(vf,ve,vb):=(by rw[<-hn];exact zaM _ _ _);simp only;rw[e1,e2];exact⟨hz,vs2,keep JE⟩
 ·rw[<-hv];exact qc _ _ 6 _ _ (0,0) ZX.r
theorem Zb.any {T:ByteArray} {w w':World} {e:Ending} (h:Zb T w e w') (hT:T.size<=65536):Below w.heap.size w w'/\∃(A1 A2 A3:Option Addr) (n1 c1 n2 c2 n3 c3:Nat) (ec:Int) (ep:Nat),e=.returned (.tuple #[.agg #[.slice A1 n1 c1,.slice A2 n2 c2,.slice A3 n3 c3],.agg #[.int .i64 ec,.int .i64 ep]])/\ep<=T.size/\
  ((ec≠0/\Zs T=.error (ec,ep))∨(ec=0/\ep=0/\∃m vs,Zs T=.ok m/\pl m/\OM w' w.heap.size m (.slice A1 n1 c1) (.slice A2 n2 c2) (.slice A3 n3 c3) vs)):=by
 obtain⟨hb,h⟩:=h;refine⟨hb,?_⟩;cases hr:Zs T with
 |error cp=>
  obtain⟨c,p⟩:=cp;rw[hr] at h;obtain⟨h1,h2⟩:=zf2 hT hr;exact⟨none,none,none,0,0,0,0,0,0,c,p,h,h2,.inl ⟨h1,rfl⟩⟩
 |ok m=>
  rw[hr] at h;obtain⟨hz,vf,ve,vb,vs,he,JE⟩:=h;obtain⟨A1,c1,e1⟩:=pJ JE.gO;obtain⟨A2,c2,e2⟩:=pJ JE.ends;obtain⟨A3,c3,e3⟩:=pJ JE.gS;subst e1;subst e2;subst e3;exact⟨A1,A2,A3,_,c1,_,c2,_,c3,0,0,he,qF _,.inr ⟨rfl,rfl,m,vs,rfl,hz,JE⟩⟩
def MtJ (w wx:World) (B rb:Nat) (s:ByteArray) (f:Fm) (F:RF) (R:Except (Int×Nat) (Fm×Nat)) (c:UInt8) (mb:Nat) (vf ve vb:Value):Prop:=
 ∃(j:Nat) (no wh:Int),RR wx rb s j no wh F/\Qc wx B f F/\Below B w wx/\wx.heap[mb]?=some (.cells #[vf,ve,vb] 79 (0,0))/\
  (no=0->∃m vs,R=.ok ({f with gN:=f.gN++[c],gQ:=f.gQ++[m]},j)/\j<=s.size/\pl m/\OM wx B m vf ve vb vs)/\(no≠0->∃p:Nat,wh=p/\R=.error (no,p))
def MtK (W wx:World) (B rb:Nat) (s:ByteArray) (f:Fm) (c:UInt8) (j:Nat) (no wh:Int) (mb:Nat) (vf ve vb:Value):Prop:=
 ∃F1,RR wx rb s j no wh F1/\Qc wx B {f with gN:=f.gN++[c]} F1/\Below B W wx/\wx.heap[mb]?=some (.cells #[vf,ve,vb] 79 (0,0))/\(∀m vs,OM W B m vf ve vb vs->OM wx B m vf ve vb vs)
theorem zhO (B rb:Nat) (s:ByteArray) (f:Fm) (F:RF) (i i0:Nat) (w:World) (h:RR w rb s i 0 0 F) (hv:Vars w) (h9:9<=B) (hf:Qc w B f F) (hk:pq f i0) (hi0:i0<=i) (hi:i<s.size) (hB:B<=w.heap.size) (hBr:B<=rb)
  (h1:pg s i 109=true) (h2:f.rows=[]):
  Calls Tryz.prog 46 #[.pointer (some ⟨rb,0,none⟩),.bool true] w (ZA B rb s w (QZ s f true i)):=by
 have hsz:=h.sz;have r1:=h.c1;have hR0:QZ s f true i=match pF (py s Zt i) with|.error e=>.error e|.ok a=>mK1 s f a:=by
  have h3:QZ s f true i=YF s f i:=by
   unfold QZ;rw[qx (by simp),qy (by rw[h1,h2];rfl)]
  exact h3.trans zf6
 generalize QZ s f true i=R at*;have hb0:yQ 0 s i=gZ s i:=by unfold yQ;rw[qy rfl]
 have J6:=qh (vZ rb s i 0 0 F w h);rw[hb0] at J6;have p8:=qh (λn=>zbA rb s ⟨#[109,101,116,114,101,32]⟩ i 0 0 F (w.drewN n) (h.drewN n) (λ_=>by omega) (by decide) (by decide));rw[ziS] at p8;have hib:∀c:Int,pg s i c=(((gZ s i).toNat:Int)==c):=λc=>by rw[QX hi,Z3 hi]
 rw[hib] at h1;obtain⟨Ar,cr,Zg⟩:=hf.len;have f7:w.cell? ⟨rb,7,none⟩=some (.slice Ar 0 cr):=by rw[h.form.2.2.2.1,Zg,h2];rfl
 have Kk:=qh hR0;have H:=qh h;have Hv:=qh hv;have Hf:=qh hf;have Hk:=qh hk;have H2:=qh h2;have zqT:∀k (hk:k<(⟨#[32]⟩:ByteArray).size),(⟨#[32]⟩:ByteArray)[k]≠0:=by decide
 have zrx:=qh zqT;generalize gZ s i=bi at*;clear h hf hk hR0 hb0 hib h2 hv Zg zqT;go_enter Tryz.func46,Tryz.ntmps46;go_wp2_with fail;refine J6.out.mono ?_;rintro e w2 ⟨rfl,n2,rfl⟩;go_wp2_with fail;refine(p8.out _).mono ?_;rintro e w3 ⟨rfl,hst⟩;have hsg:Sg (w.drewN n2) rb s F R (λi'=>match pF (py s Zt i') with|.error e=>.error e|.ok a=>mK1 s f a) i 0 0:=⟨H.out.drewN _,λ_=>⟨Kk.out,by omega⟩,λe=>absurd rfl e⟩;have ho3:Off [rb] w w3:=(Off.drewN _ w _).trans hst.1;obtain⟨j3,no3,wh3,hs3⟩:=hsg.must hst;have hj3:j3<=s.size:=hst.le hs3.rr;have Hs3:=qh hs3;have Ho3:=qh ho3;have Hc3:=qh (vZ rb s j3 no3 wh3 F w3 hs3.rr);obtain⟨bc,hbc⟩:∃bc:UInt8,yQ no3 s j3=bc:=⟨_,rfl⟩;rw[hbc] at Hc3;have Hbc:=qh hbc;clear hst hsg ho3 hs3 r1 f7 hbc;go_wp2_with fail;refine Hc3.out.mono ?_;rintro e w4 ⟨rfl,n4,rfl⟩;have HS4:=qh (Hs3.out.rr' (Hs3.out.rr.drewN n4));have HO4:=qh (Ho3.out.trans (Off.drewN [rb] w3 n4));generalize w3.drewN n4=W4 at*;go_upto_region 9 with fail
 go_cut [60] from 55 to 60 (λv60 wx=>v60=.bool (decide ((bc.toNat:Int)<97)||decide (122<(bc.toNat:Int)))/\wx=W4)
 case first=>
  by_cases c1:(bc.toNat:Int)<97
  ·have d1:decide ((bc.toNat:Int)<97)=true:=qt c1;go_wp2_with fail;go_meet
   exact⟨by rw[d1];rfl,rfl⟩
  ·have d1:decide ((bc.toNat:Int)<97)=false:=qd c1;by_cases c2:122<(bc.toNat:Int)
   ·have d2:decide (122<(bc.toNat:Int))=true:=qt c2;go_wp2_with fail;go_meet
    exact⟨by rw[d1,d2];rfl,rfl⟩
   ·have d2:decide (122<(bc.toNat:Int))=false:=qd c2;go_wp2_with fail;go_meet
    exact⟨by rw[d1,d2];rfl,rfl⟩
 case rest=>
  obtain⟨rfl,hwn⟩:=hcut;subst hwn;obtain⟨W5,QJ⟩:∃W5:World,W5=wc:=⟨_,rfl⟩;subst QJ;obtain⟨bb,hbb⟩:∃bb:Bool,(decide ((bc.toNat:Int)<97)||decide (122<(bc.toNat:Int)))=bb:=⟨_,rfl⟩;have QA:=qh hbb;rw[hbb];clear hbb;go_upto_if 60 with fail
  go_cut [62] from 60 to 62 (λv62 wx=>Hid (∃no wh,Sg wx rb s F R (mK2 s f) j3 no wh/\Off [rb] w wx/\(no=0->no3=0/\bc=gZ s j3/\j3<s.size/\97<=bc.toNat/\bc.toNat<=122)))
  case first=>
   cases bb with
   |true=>
    have Qx:=qh (zbu rb s j3 no3 wh3 F W5 HS4.out.rr);go_wp2_with fail;refine Qx.out.mono ?_;rintro e w6 ⟨rfl,ZY,Ze⟩;have hfin:∃no wh,Sg w6 rb s F R (mK2 s f) j3 no wh/\Off [rb] w w6/\(no=0->no3=0/\bc=gZ s j3/\j3<s.size/\97<=bc.toNat/\bc.toNat<=122):=by
     refine⟨_,_,⟨ZY,λe=>?_,λ_=>?_⟩,HO4.out.trans Ze,λe=>?_⟩
     ·unfold QQ at e;split at e<;>omega
     ·by_cases h0:no3=0
      ·unfold QQ ZV;rw[qy h0,qy h0];refine⟨j3,rfl,?_⟩;have:=(HS4.out.ok h0).1;unfold mK1 at this;have hb:bc=gZ s j3:=(by rw[<-Hbc.out];unfold yQ;rw[qy h0]);rw[qy (by
        have h8:=QA.out;rw[hb] at h8;by_cases hlt:j3<s.size
        ·rw[Z3 hlt] at h8;rw[Vp hlt];simp only[kG,qC] at h8;simp only[qA,qC,not_and];omega
        ·rw[zcF hlt];simp)] at this
       exact this
      ·unfold QQ ZV;rw[qx h0,qx h0];exact HS4.out.er h0
     ·unfold QQ at e;split at e<;>omega
    have gT:=qh hfin;clear ZY Ze hfin;go_wp2_with fail;go_meet
    exact gT
   |false=>
    have hfin:∃no wh,Sg W5 rb s F R (mK2 s f) j3 no wh/\Off [rb] w W5/\(no=0->no3=0/\bc=gZ s j3/\j3<s.size/\97<=bc.toNat/\bc.toNat<=122):=by
     have h8:=QA.out;simp only[zM,decide_eq_false_iff_not] at h8;refine⟨no3,wh3,⟨HS4.out.rr,λh0=>?_,HS4.out.er⟩,HO4.out,λh0=>?_⟩
     ·have:=(HS4.out.ok h0);refine⟨?_,this.2⟩;rw[this.1];unfold mK1;have hb:bc=gZ s j3:=(by rw[<-Hbc.out];unfold yQ;rw[qy h0]);rw[qx (by
       rw[hb] at h8;by_cases hlt:j3<s.size
       ·rw[Z3 hlt] at h8;rw[Vp hlt];simp only[qA,qC,Classical.not_not];omega
       ·rw[zbe hlt] at h8;have:((0:UInt8).toNat:Int)=0:=rfl;omega)]
     ·have hb:bc=gZ s j3:=(by rw[<-Hbc.out];unfold yQ;rw[qy h0]);refine⟨h0,hb,?_,by omega,by omega⟩;by_cases hlt:j3<s.size
      ·exact hlt
      ·rw[hb,zbe hlt] at h8;have:((0:UInt8).toNat:Int)=0:=rfl;omega
    have gT:=qh hfin;clear hfin;go_wp2_with fail;go_meet
    exact gT
  case rest=>
   obtain⟨no6,wh6,hs6,Ze,he6⟩:=hcut.out;obtain⟨W6,X8⟩:∃W6:World,W6=wc:=⟨_,rfl⟩;subst X8;have Hs6:=qh hs6;have Vv:=qh Ze;have He6:=qh he6;have hf6:=Hf.out.pz H.out Ze;have Hme:=qh (zfS (zd6 rb B s j3 no6 wh6 F f.gN bc W6 hs6.rr hf6.l (by have:=Hk.out.ll.2;omega)));have Hw6:=qh (zaO rb s j3 no6 wh6 F 181 (j3:Int) W6 hs6.rr (by decide));have r1:=hs6.rr.c1;clear hcut hs6 Ze he6 hf6 HS4 HO4 QA Hbc Hs3 Ho3 Hc3;go_wp2_with fail;refine Hme.out.mono ?_;rintro e w7 ⟨rfl,rfl⟩;go_upto_if 66 with fail
   go_cut [72] from 66 to 72 (λv72 wx=>Hid (∃no wh,Sg wx rb s F R (λa=>mK3 s f bc (a+1)) j3 no wh/\Off [rb] w wx/\(no=0->j3<s.size/\97<=bc.toNat/\bc.toNat<=122/\Lib.indexByte f.gN bc<0)))
   case first=>
    by_cases hix:0<=Lib.indexByte f.gN bc
    ·have d1:decide (0<=Lib.indexByte f.gN bc)=true:=qt hix;go_wp2_with fail;refine Hw6.out.mono ?_;rintro e w7 ⟨rfl,KK,QS⟩;have hfin:∃no wh,Sg w7 rb s F R (λa=>mK3 s f bc (a+1)) j3 no wh/\Off [rb] w w7/\(no=0->j3<s.size/\97<=bc.toNat/\bc.toNat<=122/\Lib.indexByte f.gN bc<0):=by
      refine⟨_,_,⟨KK,λe=>?_,λ_=>?_⟩,Vv.out.trans QS,λe=>?_⟩
      ·unfold QQ at e;split at e<;>omega
      ·by_cases h0:no6=0
       ·unfold QQ ZV;rw[qy h0,qy h0];refine⟨j3,rfl,?_⟩;have:=(Hs6.out.ok h0).1;unfold mK2 at this;rw[<-(He6.out h0).2.1,qy hix] at this;exact this
       ·unfold QQ ZV;rw[qx h0,qx h0];exact Hs6.out.er h0
      ·unfold QQ at e;split at e<;>omega
     have gT:=qh hfin;clear KK QS hfin;go_wp2_with fail;go_meet
     exact gT
    ·have d1:decide (0<=Lib.indexByte f.gN bc)=false:=qd hix;have gT:Hid (∃no wh,Sg W6 rb s F R (λa=>mK3 s f bc (a+1)) j3 no wh/\Off [rb] w W6/\(no=0->j3<s.size/\97<=bc.toNat/\bc.toNat<=122/\Lib.indexByte f.gN bc<0)):=qh
      ⟨no6,wh6,⟨Hs6.out.rr,λh0=>⟨by rw[(Hs6.out.ok h0).1];unfold mK2;rw[<-(He6.out h0).2.1,qx hix],(Hs6.out.ok h0).2⟩,Hs6.out.er⟩,Vv.out,λh0=>by have:=He6.out h0;omega⟩
     go_wp2_with fail;go_meet
     exact gT
   case rest=>
    obtain⟨no8,wh8,hs8,Je,he8⟩:=hcut.out;obtain⟨W8,hW8⟩:∃W8:World,W8=wc:=⟨_,rfl⟩;subst hW8;have hc1:((j3+1:Nat):Int)=(j3:Int)+1:=(by omega);have hw1:IntKind.i64.wrap ((j3:Int)+1)=(j3:Int)+1:=qi _ (by omega);have r1:=hs8.rr.c1;have z1:=hs8.rr.z 1;have pB:RR (W8.setCell ⟨rb,1,none⟩ (.int .i64 ((j3:Int)+1))) rb s (j3+1) no8 wh8 F:=by
     rw[<-hc1];exact hs8.rr.to (by omega)
    have Va:Hid (Sg (W8.setCell ⟨rb,1,none⟩ (.int .i64 ((j3:Int)+1))) rb s F R (mK3 s f bc) (j3+1) no8 wh8):=qh ⟨pB,λh0=>⟨(hs8.ok h0).1,by have:=(he8 h0).1;omega⟩,hs8.er⟩;have HO9:Hid (Off [rb] w (W8.setCell ⟨rb,1,none⟩ (.int .i64 ((j3:Int)+1)))):=qh (Je.trans (Off.setCell W8 rb 1 _));have He8:=qh he8;have hm9:=zbA rb s ⟨#[32]⟩ (j3+1) no8 wh8 F _ pB (λh0=>by have:=(he8 h0).1;omega) (by decide) zrx.out;rw[zhC] at hm9;have Hm9:=qh hm9;clear hcut hs8 Je he8 pB hc1 hm9 Hs6 Vv He6 Hme Hw6;go_wp2_with fail;refine Hm9.out.mono ?_;rintro e ZN ⟨rfl,hst⟩;obtain⟨j10,ZR,V9,Yk⟩:=Sg.must (k:=mK4 s f bc) (t:=[32]) Va.out hst;have Vb:=qh Yk;have HO10:=qh (HO9.out.trans hst.1);have hE10:ZR=0->97<=bc.toNat/\bc.toNat<=122/\Lib.indexByte f.gN bc<0:=λh0=>by
     by_cases h4:no8=0
     ·have:=He8.out h4;exact this.2
     ·obtain⟨j',_,hr'⟩:=hst.2.2 h4;have h9:=Yk.rr.c2;rw[hr'.c2,h0] at h9;simp at h9;exact absurd h9 h4
    have r1:=Yk.rr.c1;have r2:=Yk.rr.c2;clear hst Yk hE10;go_upto_if 90 with fail
    go_cut [7] from 90 to 92 (λv7 wx=>∃T:ByteArray,v7=.string T/\Hid (T.size<=65536/\∃j,RR wx rb s j ZR V9 F/\Off [rb] w wx/\(ZR=0->j=zap s j10/\T=⟨(yM s j10 (zap s j10)).toArray⟩/\j<=s.size)))
    case first=>
     by_cases h0:ZR=0
     ·have q0:(ZR==0)=true:=(by simpa using h0);have hjs:=(Vb.out.ok h0).2;have hrest:=zcL rb s j10 ZR V9 F ZN Vb.out.rr hjs;rw[qy h0] at hrest;have Zi:=qh hrest;have Hj:=qh hjs;have H0:=qh h0;clear h0 hjs hrest;go_wp2_with fail;refine Zi.out.mono ?_;rintro e K9 ⟨zqb,rfl,Jo⟩;have gT:Hid ((s.extract j10 (zap s j10)).size<=65536/\∃j,RR K9 rb s j ZR V9 F/\Off [rb] w K9/\(ZR=0->j=zap s j10/\s.extract j10 (zap s j10)=⟨(yM s j10 (zap s j10)).toArray⟩/\j<=s.size)):=qh ⟨by rw[kV];omega,zap s j10,Jo,HO10.out.trans zqb,λ_=>⟨rfl,zhA _ _ _,(zbs j10 Hj.out).2⟩⟩;clear zqb Jo;go_wp2_with fail;go_meet
      exact⟨_,rfl,gT⟩
     ·have q0:(ZR==0)=false:=(by simpa using h0);have gT:Hid ((⟨#[]⟩:ByteArray).size<=65536/\∃j,RR ZN rb s j ZR V9 F/\Off [rb] w ZN/\(ZR=0->j=zap s j10/\(⟨#[]⟩:ByteArray)=⟨(yM s j10 (zap s j10)).toArray⟩/\j<=s.size)):=qh ⟨by decide,j10,Vb.out.rr,HO10.out,λe=>absurd e h0⟩;clear h0;go_wp2_with fail;go_meet
      exact⟨_,rfl,gT⟩
    case rest=>
     obtain⟨T,rfl,hT⟩:=hcut;obtain⟨W11,hW11⟩:∃W11:World,W11=wc:=⟨_,rfl⟩;subst hW11;obtain⟨hTs,j11,Jo,zqb,he11⟩:=hT.out;have HTs:=qh hTs;have zsP:=qh Jo;have zrC:=qh zqb;have zrD:=qh he11;have Hrd:=qh (zhN T W11 (Vars.off Hv.out zqb (λk hk=>by simp at hk;have:9<=B:=h9;omega)));clear hT hTs Jo zqb he11 r1 r2;go_wp2_with fail;refine Hrd.out.mono ?_;intro e Z7 h12;obtain⟨KJ,A1,A2,A3,n1,c1,n2',c2,n3,c3,ec,ep,rfl,hep,hrd⟩:=Zb.any h12 HTs.out;have XB:=qh KJ;have Q9:=qh hrd;clear h12 KJ hrd;go_upto_region 20 with fail
     have Qw:Hid ((Value.slice A1 n1 c1).oneCell'=true/\(Value.slice A2 n2' c2).oneCell'=true/\(Value.slice A3 n3 c3).oneCell'=true):=qh ⟨rfl,rfl,rfl⟩;generalize Value.slice A1 n1 c1=vf at*;generalize Value.slice A2 n2' c2=ve at*;generalize Value.slice A3 n3 c3=vb at*;obtain⟨mb,hmb⟩:∃mb:Nat,Z7.heap.size=mb:=⟨_,rfl⟩;have zqW:((Z7.alloc (.cells #[vf,ve,vb] 79)).alloc (.cells #[.int .i64 ec,.int .i64 ep] 87)).heap[mb]?=some (.cells #[vf,ve,vb] 79 (0,0)):=(by rw[<-hmb];exact(qa _ _ _ (by simp)).trans (qn Z7 _));have Qb:((Z7.alloc (.cells #[vf,ve,vb] 79)).alloc (.cells #[.int .i64 ec,.int .i64 ep] 87)).heap[mb+1]?=some (.cells #[.int .i64 ec,.int .i64 ep] 87 (0,0)):=by
      have:=qn (Z7.alloc (.cells #[vf,ve,vb] 79)) (.cells #[.int .i64 ec,.int .i64 ep] 87);rw[qO,hmb] at this;exact this
     have zrE:Below W11.heap.size W11 ((Z7.alloc (.cells #[vf,ve,vb] 79)).alloc (.cells #[.int .i64 ec,.int .i64 ep] 87)):=(XB.out.alloc XB.out.size _).alloc (by simp;have:=XB.out.size;omega) _;have ho13:Off [] Z7 ((Z7.alloc (.cells #[vf,ve,vb] 79)).alloc (.cells #[.int .i64 ec,.int .i64 ep] 87)):=(Off.alloc _ Z7 _).trans (Off.alloc _ _ _);rw[hmb];have hmbr:W11.heap.size<=mb:=(by have:=XB.out.size;omega);generalize (Z7.alloc (.cells #[vf,ve,vb] 79)).alloc (.cells #[.int .i64 ec,.int .i64 ep] 87)=W13 at*;clear hmb;have zsQ:=zsP.out.below zrE;have s0:W13.cell? ⟨mb+1,0,none⟩=some (.int .i64 ec):=qc _ _ 0 _ _ (0,0) Qb;have s1:W13.cell? ⟨mb+1,1,none⟩=some (.int .i64 ep):=qc _ _ 1 _ _ (0,0) Qb;have Hr13:=qh zsQ;have Hm13:=qh zqW;have Vc:Below B w W13:=(zrC.out.below hB (λk hk=>by simp at hk;omega)).trans ((Off.of_below zrE (ql _) []).below (qm hB zrC.out.size) (λ_ h=>by cases h));have Hbw13:=qh Vc;have hmr:mb≠rb:=(by have:=zsP.out.lt;omega);have Hf13:=qh ((Hf.out.pz H.out zrC.out).below zrE);have HM13:Hid (∀m vs,OM Z7 W11.heap.size m vf ve vb vs->OM W13 B m vf ve vb vs):=qh (λm vs JE=>OM.mono (OM.J4 (T:=[]) JE ho13 pc.nil (by simp) (by simp) (by simp)) (qm hB zrC.out.size));have hjj:=zsP.out.le;have hj10:=Vb.out.rr.le;have HE:Hid (∀wx,Off [rb] W13 wx->RR wx rb s j11 (QQ ZR ec) (ZV ZR V9 ((j10:Int)+ep)) F->ec≠0->MtJ w wx B rb s f F R bc mb vf ve vb):=qh (λwx ho hr Yq=>by
      refine⟨_,_,_,hr,Hf13.out.pz Hr13.out ho,Vc.trans (ho.below (qm hB Vc.size) (λk hk=>by simp at hk;omega)),(ho.block _ (qg zqW).1 (by simp;exact hmr)).trans zqW,λe=>?_,λ_=>?_⟩
      ·unfold QQ at e;split at e<;>omega
      ·by_cases h0:ZR=0
       ·unfold QQ ZV;rw[qy h0,qy h0];rcases Q9.out with⟨_,hrp⟩|⟨h3,_⟩
        ·refine⟨j10+ep,by omega,?_⟩;rw[(Vb.out.ok h0).1];unfold mK4;rw[<-(zrD.out h0).2.1,hrp]
        ·exact absurd h3 Yq
       ·unfold QQ ZV;rw[qx h0,qx h0];exact Vb.out.er h0)
     have HG:Hid (ec=0->MtJ w W13 B rb s f F R bc mb vf ve vb):=qh (λYq=>by
      refine⟨j11,ZR,V9,zsQ,Hf13.out,Vc,zqW,λh0=>?_,λh0=>Vb.out.er h0⟩;rcases Q9.out with⟨h3,_⟩|⟨_,_,m,vs,hrp,hz,JE⟩
      ·exact absurd Yq h3
      ·refine⟨m,vs,?_,(zrD.out h0).2.2,hz,HM13.out m vs JE⟩;rw[(Vb.out.ok h0).1];unfold mK4;rw[<-(zrD.out h0).2.1,hrp,(zrD.out h0).1])
     clear zrE Qb ho13 zsQ zqW Vc hmbr;go_upto_if 100 with fail
     go_cut [108] from 100 to 108 (λv108 wx=>Hid (MtJ w wx B rb s f F R bc mb vf ve vb))
     case first=>
      by_cases Yq:ec=0
      ·have q0:(ec !=0)=false:=(by simpa using Yq);have gT:=qh (HG.out Yq);clear Yq;go_wp2_with fail;go_meet
       exact gT
      ·have q0:(ec !=0)=true:=(by simpa using Yq);have Hw:=qh (zaO rb s j11 ZR V9 F ec ((j10:Int)+ep) W13 Hr13.out Yq);have hwa:IntKind.i64.wrap ((j10:Int)+(ep:Int))=(j10:Int)+ep:=qi _ (by have:=HTs.out;omega);have Hec:=qh Yq;clear Yq;go_wp2_with fail;refine Hw.out.mono ?_;rintro e w14 ⟨rfl,zqc,ho14⟩;have gT:=qh (HE.out w14 ho14 zqc Hec.out);clear zqc ho14;go_wp2_with fail;go_meet
       exact gT
     case rest=>
      clear s0 s1 HE HG;obtain⟨j14,zsR,wh14,zqc,zqX,V0,KC,zr1,zr2⟩:=hcut.out;obtain⟨W14,hW14⟩:∃W14:World,W14=wc:=⟨_,rfl⟩;subst hW14;obtain⟨Al,cl,hvl⟩:=pJ zqX.l;have f5:W14.cell? ⟨rb,5,none⟩=some (.slice Al f.gN.length cl):=(by rw[zqc.form.2.1,hvl]);have hll:f.gN.length<=i0:=Hk.out.ll.2;have hmlen:f.gQ.length<=i0:=(by rw[<-Hk.out.ll.1];exact Hk.out.ll.2);have YR:Hid (B<=W14.heap.size):=qh (qm hB V0.size);have pv:Hid (W14.ownsRow B 5 1 (.slice Al f.gN.length cl) f.gN.length (Z6 f.gN)):=qh (by rw[<-hvl];exact zqX.l)
      have HF:Hid (∀w8 v8,W14.grownBy w8 (Value.slice Al f.gN.length cl).ownBlock->w8.ownsRow B 5 1 v8 (f.gN.length+1) (Z6 f.gN++[.int .u8 bc.toNat])->
        (MtK W14 (w8.setCell ⟨rb,5,none⟩ v8) B rb s f bc j14 zsR wh14 mb vf ve vb/\w8.cell? ⟨rb,5,none⟩=some (.slice Al f.gN.length cl)/\w8.frozen? ⟨rb,5,none⟩=false)):=qh (λw8 v8 hg hown=>by
       obtain⟨⟨e1,e2,e3,e4,e5,e6,e7⟩,e8,e9⟩:=zqX.letter zqc hBr hvl hown hg;have hx8:=(e4.block mb (qg KC).1 (zcO zqX.l KC (by decide))).trans KC;have hx9:=(e5.block mb (qg hx8).1 (by simp;exact hmr)).trans hx8;exact⟨⟨_,e1,e2,e3,hx9,λm vs JE=>OM.J4 (OM.J4 JE e4 e6 (by decide) (by decide) (by decide)) e5 e7 (by decide) (by decide) (by decide)⟩,e8,e9⟩)
      have zsS:=qh V0;have ztx:=qh zr1;have zty:=qh zr2;clear hcut zqc zqX V0 KC zr1 zr2 hvl;go_upto_region 22 with fail
      go_cut [120] from 109 to 120 (λv120 wx=>Hid (MtK W14 wx B rb s f bc j14 zsR wh14 mb vf ve vb))
      case first=>
       go_wp2_with (at_builtin;go_loud (refine VL W14 rfl _ _ 25 rfl B 5 _ _ 1 1 qX zmk zml zmm zlt rfl (by decide) (.slice Al f.gN.length cl) f.gN.length (Z6 f.gN) _ _ rfl rfl ?c0 (by exact pv.out) rfl ?c1 ?c2 ?c3 ?c4 ?_;rotate_right;intro v8 w8 pj ZU Zz;obtain⟨g8,Qz,rfl⟩:=Zv pj (by omega);obtain⟨hJ8,c8,z8⟩:=HF.out _ _ ZU pj;have HJ8:=qh hJ8;clear hJ8 pj ZU Zz))
       case c0=>rfl
       case c1=>rfl
       case c2=>unfold maxLen;omega
       case c3=>omega
       case c4=>exact YR.out
       go_meet
       exact HJ8
      case rest=>
       clear f5 HF pv YR;obtain⟨F1,zrF,zsT,zrG,zrH,zr3⟩:=hcut.out;obtain⟨Yl,hW15⟩:∃Yl:World,Yl=wc:=⟨_,rfl⟩;subst hW15;obtain⟨cs,hcs⟩:=zsT.m;have hcsl:f.gQ.length=f.gQ.length:=rfl;obtain⟨Am,cm,XN⟩:=pJ hcs.o;have hd:Off [] Yl Yl.drew:=Off.drew [] Yl;have f6:Yl.cell? ⟨rb,6,none⟩=some (.slice Am f.gQ.length cm):=(by rw[zrF.form.2.2.1,XN]);have f6a:∀o,(Yl.alloc o).cell? ⟨rb,6,none⟩=some (.slice Am f.gQ.length cm):=λo=>(qw (qa Yl o rb zrF.lt)).trans f6;have m0:Yl.cell? ⟨mb,0,none⟩=some vf:=qc _ _ 0 _ _ (0,0) zrH;have m1:Yl.cell? ⟨mb,1,none⟩=some ve:=qc _ _ 1 _ _ (0,0) zrH;have m2:Yl.cell? ⟨mb,2,none⟩=some vb:=qc _ _ 2 _ _ (0,0) zrH;have X6:Hid (f.gQ.length+1<=maxLen):=qh (by unfold maxLen;omega);have Kl:Hid ((f.gQ.length+1)*72<=140737488355328):=qh (by omega);have Hpos:Hid (0<f.gQ.length+1):=qh (by omega);have YR:Hid (B<=Yl.drew.heap.size):=qh (qm hB (qm zsS.out.size zrG.size));have pv:Hid (Yl.drew.ownsRow B 79 3 (.slice Am f.gQ.length cm) f.gQ.length (vS cs)):=qh (by rw[<-XN];exact hd.own hcs.o (λk hk=>by simp));have ztz:Hid (∀u∈(#[vf,ve,vb]:Array Value).toList,u.oneCell'=true):=qh (by intro u hu;simp at hu;rcases hu with rfl|rfl|rfl;exact Qw.out.1;exact Qw.out.2.1;exact Qw.out.2.2)
       have HF:Hid (∀w8 v8,Yl.drew.grownBy w8 (Value.slice Am f.gQ.length cm).ownBlock->w8.ownsRow B 79 3 v8 (f.gQ.length+1) (vS cs++[vf,ve,vb])->
         (ZA B rb s w R (.returned (.tuple #[])) (w8.setCell ⟨rb,6,none⟩ v8)/\w8.cell? ⟨rb,6,none⟩=some (.slice Am f.gQ.length cm)/\w8.frozen? ⟨rb,6,none⟩=false)):=qh (λw8 v8 hg hown=>by
        have hf':=zsT.off (T:=[]) hd pc.nil (by simp);have hcs':=hcs.off (T:=[]) hd pc.nil (by simp) (by simp) (by simp) (by simp);have hr':=zrF.drewN 1;by_cases h0:zsR=0
        ·obtain⟨m,vs,hR,hj,hz,JE⟩:=ztx.out h0;obtain⟨⟨e1,e2,e3⟩,e4,e5⟩:=Qc.metre (W:=Yl.drew) (w8:=w8) (m:=m) (vs2:=vs) hf' hr' hBr XN hcs' hown hg;refine⟨⟨rfl,zsS.out.trans (zrG.trans ((ZG (qb B Yl) 1).trans e3)),?_⟩,e4,e5⟩;rw[hR];have hw:=(e1.ok h0).2;rw[h0,hw] at e1;exact⟨hj,_,e1,e2 ⟨hz,OM.J4 (T:=[]) (zr3 m vs JE) hd pc.nil (by simp) (by simp) (by simp)⟩⟩
        ·obtain⟨p,hp,hR⟩:=zty.out h0;obtain⟨⟨e1,e2,e3⟩,e4,e5⟩:=Qc.metre (W:=Yl.drew) (w8:=w8) (m:=yO) (vs2:=[]) hf' hr' hBr XN hcs' hown hg;refine⟨?_,e4,e5⟩;rw[hR];rw[hp] at e1;exact ZA.err (zsS.out.trans (zrG.trans ((ZG (qb B Yl) 1).trans e3))) h0 e1)
       clear hcut zrF zsT zrG zrH zr3 hcs XN hd hcsl;go_wp2_with fail;go_region_law (refine zah Yl.drew (by rfl) (.tmp 126) (.tmp 128) 26 (by rfl) B 79 _ _ 3 72 Tryz.underlying26 zlu zlv zlw zka rfl (by decide) (.slice Am f.gQ.length cm) f.gQ.length (vS cs) _ _ (by simp[Act.eval,Act.put]) (by simp[Act.eval,Act.put];rfl) (by simp) (by exact pv.out) rfl (by exact ztz.out) X6.out Kl.out (by exact YR.out) ?_;intro v8 w8 pj ZU Zz;obtain⟨g8,Qz,rfl⟩:=Zv pj Hpos.out;obtain⟨Qi,c8,z8⟩:=HF.out w8 _ ZU pj;have HFin:=qh Qi;clear Qi pj ZU Zz)
       all_goals
        go_wp2_with fail;refine zt (qI rfl _ _ _) rfl ?_;exact HFin.out
theorem zhP {s:ByteArray} {gN:List UInt8} {line:Int} {i k:Nat} {x:It} (h:Kj s gN line i=.ok (x,k)):Yd s gN i=.ok (x,k):=by
 rw[zdQ] at h;cases hr:Yd s gN i with
 |error e=>rw[hr] at h;cases h
 |ok xk=>
  obtain⟨x',k'⟩:=xk;rw[hr] at h;simp only at h;split at h
  ·cases h
  ·cases h;rfl
theorem zfx {s:ByteArray} {f:Fm} {round:Bool}:∀(q:Nat) (l:List It) (i:Nat) {l':List It} {j:Nat},Ka s f round q l i=.ok (l',j)->(∀x∈l,uy x)->(∀x∈l',uy x)/\l'.length+i<=l.length+j
 |0,l,i,l',j,h,hl=>by unfold Ka at h;cases h;exact⟨hl,ql _⟩
 |q+1,l,i,l',j,h,hl=>by
  unfold Ka at h;split at h
  ·cases hi:Kj s f.gN (ZT f round l.length) (i+1) with
   |error e=>rw[hi] at h;cases h
   |ok xk=>
    obtain⟨x,k⟩:=xk;rw[hi] at h;have hx:=zep (zhP hi);have ih:=zfx q (l++[x]) k h (λy hy=>by
     rcases qJ.1 hy with hy|hy
     ·exact hl y hy
     ·obtain rfl:=zj.1 hy;exact hx.1)
    refine⟨ih.1,?_⟩;have h2:=ih.2;have h3:=hx.2.1;simp only[qv,qB,qG] at h2;omega
  ·cases h;exact⟨hl,ql _⟩
theorem zeW {s:ByteArray} {f f':Fm} {round:Bool} {start i i0 j:Nat} (hk:pq f i0) (hi:i0+1<=i) (h:Kd s f round start i=.ok (f',j)):pq f' j:=by
 rw[zdF] at h;unfold zhz at h;by_cases h1:¬pg s i 32=true
 ·rw[qy h1] at h;cases h
 ·rw[qx h1] at h;cases hit:Ka s f round (s.size+1) [] i with
  |error e=>rw[hit] at h;cases h
  |ok lj=>
   obtain⟨l,j'⟩:=lj;rw[hit] at h;simp only at h;split at h
   ·cases h
   ·split at h
    ·cases h
    ·cases h;obtain⟨h3,h4⟩:=zfx _ _ _ hit (by simp);exact hk.more (by simp at h4;omega) h3
theorem zi0 {s:ByteArray} {f f':Fm} {i j:Nat} (hk:pq f i) (h:XW s f i=.ok (f',j)):pq f' j:=by
 by_cases hr:f.rounds=true
 ·unfold XW at h;rw[qy hr] at h;cases h
 ·have hr2:f.rounds=false:=by simpa using hr
  rw[zf3 hr2] at h;cases h1:pF (py s ROUND i) with
  |error e=>rw[h1] at h;cases h
  |ok a=>
   rw[h1] at h;simp only at h;unfold rK1 at h;cases h2:yL s 0 a with
   |error e=>rw[h2] at h;cases h
   |ok lb=>
    obtain⟨least,b⟩:=lb;rw[h2] at h;simp only at h;unfold rK2 at h;cases h3:pF (py s [32] b) with
    |error e=>rw[h3] at h;cases h
    |ok c=>
     rw[h3] at h;simp only at h;unfold rK3 at h;cases h4:yL s 0 c with
     |error e=>rw[h4] at h;cases h
     |ok md=>
      obtain⟨most,d⟩:=md;rw[h4] at h;simp only at h;unfold rK4 at h;split at h
      ·cases h
      ·rename_i hlm;cases h5:pF (py s [32] d) with
       |error e=>rw[h5] at h;cases h
       |ok g=>
        rw[h5] at h;simp only at h;unfold rK5 at h;cases h6:yL s 0 g with
        |error e=>rw[h6] at h;cases h
        |ok sh=>
         obtain⟨shift,hh⟩:=sh;rw[h6] at h;simp only at h;unfold rK6 at h;cases h7:Kd s {f with least:=least,most:=most,shift:=shift} true i hh with
         |error e=>rw[h7] at h;cases h
         |ok fj=>
          obtain⟨f2,j2⟩:=fj;rw[h7] at h;cases h;have e1:=Ji h1;have e2:=zcx h2;have e3:=Ji h3;have e4:=zcx h4;have e5:=Ji h5;have e6:=zcx h6;have e7:ROUND.length=6:=rfl;have b1:=zdG h2;have b2:=zdG h4;have b3:=zdG h6;have:=zeW (hk.set (ql i) b1 b2 b3 (by omega)) (by omega) h7;exact⟨this.le,this.l0,this.m0,this.s0,this.lm,this.ll,this.it,this.nd,this.lt⟩
theorem zi1 {s:ByteArray} {f f':Fm} {i j:Nat} (hk:pq f i) (hi:i<=s.size) (h:YF s f i=.ok (f',j)):pq f' j:=by
 rw[zf6] at h;cases h1:pF (py s Zt i) with
 |error e=>rw[h1] at h;cases h
 |ok a=>
  rw[h1] at h;simp only at h;unfold mK1 at h;split at h
  ·cases h
  ·rename_i hin;unfold mK2 at h;split at h
   ·cases h
   ·rename_i hix;unfold mK3 at h;cases h2:pF (py s [32] (a+1)) with
    |error e=>rw[h2] at h;cases h
    |ok b=>
     rw[h2] at h;simp only at h;unfold mK4 at h;cases h3:Zs ⟨(yM s b (zap s b)).toArray⟩ with
     |error e=>obtain⟨c,p⟩:=e;rw[h3] at h;cases h
     |ok m=>
      rw[h3] at h;cases h;have hin2:pY s a 97 122=true:=(by simpa using hin);have hlt:=zb7 hin2;rw[Vp hlt,qA,qC,qC] at hin2;have e1:=Ji h1;have e2:=Ji h2;have e7:Zt.length=7-1:=rfl;have hb:=zhB h2 (by omega);have e3:=zbs b hb;refine hk.letter (by simp at e2;omega) (by rw[Z3 hlt];omega) (by omega)
theorem zkn {s:ByteArray} {f f':Fm} {t:Bool} {i j:Nat} (hk:pq f i) (hi:i<=s.size) (h:QZ s f t i=.ok (f',j)):pq f' j:=by
 unfold QZ at h;split at h
 ·cases h1:pF (py s znf i) with
  |error e=>rw[h1] at h;cases h
  |ok a=>
   rw[h1] at h;simp only at h;split at h
   ·cases h
   ·cases h;have e1:=Ji h1;have e2:=(zbs a (zhB h1 hi)).1;have:=hk.mono (j:=zap s a) (by omega);exact⟨this.le,this.l0,this.m0,this.s0,this.lm,this.ll,this.it,this.nd,this.lt⟩
 ·split at h
  ·exact zi1 hk hi h
  ·split at h
   ·exact zi0 hk h
   ·cases h1:pF (py s pM i) with
    |error e=>rw[h1] at h;cases h
    |ok a=>
     rw[h1] at h;have e1:=Ji h1;have e7:pM.length=6:=rfl;exact zeW hk (by omega) h
theorem zld {s:ByteArray} {f f':Fm} {t:Bool} {i j:Nat} (hi:i<=s.size) (h:QZ s f t i=.ok (f',j)):i<=j:=by
 unfold QZ at h;split at h
 ·cases h1:pF (py s znf i) with
  |error e=>rw[h1] at h;cases h
  |ok a=>
   rw[h1] at h;simp only at h;split at h
   ·cases h
   ·cases h;have e1:=Ji h1;have e2:=(zbs a (zhB h1 hi)).1;omega
 ·split at h
  ·exact zg3 h
  ·split at h
   ·exact zeQ h
   ·cases h1:pF (py s pM i) with
    |error e=>rw[h1] at h;cases h
    |ok a=>
     rw[h1] at h;have e1:=Ji h1;have:=zcZ h;omega
def RF.agg (F:RF):Value:=.agg #[F.nm,F.vl,F.vm,F.vr,.bool F.rd,.int .i64 F.a,.int .i64 F.b,.int .i64 F.c]
def RF0:RF:=⟨.string ⟨#[]⟩,.slice none 0 0,.slice none 0 0,.slice none 0 0,false,0,0,0⟩
def zmN (s:ByteArray) (w:World) (e:Ending) (w':World):Prop:=Below w.heap.size w w'/\match Kz s with
 |.error (c,p)=>e=.returned (.tuple #[RF0.agg,.int .i64 c,.int .i64 p])
 |.ok f=>∃F:RF,e=.returned (.tuple #[F.agg,.int .i64 0,.int .i64 0])/\Qc w' w.heap.size f F
theorem zko (B rb:Nat) (s:ByteArray) (f:Fm) (F:RF) (t:Bool) (i i0:Nat) (w:World) (h:RR w rb s i 0 0 F) (hv:Vars w) (h9:9<=B) (hf:Qc w B f F) (hk:pq f i0) (hi0:i0<=i) (hi:i<s.size) (hB:B<=w.heap.size) (hBr:B<=rb):
  Calls Tryz.prog 46 #[.pointer (some ⟨rb,0,none⟩),.bool t] w (ZA B rb s w (QZ s f t i)):=by
 cases t with
 |false=>exact zhE B rb s f F i w h hf hi hB hBr
 |true=>
  by_cases h1:pg s i 109=true/\f.rows.isEmpty=true
  ·exact zhO B rb s f F i i0 w h hv h9 hf hk hi0 hi hB hBr h1.1 (yz.1 h1.2)
  ·by_cases h2:pg s i 114=true/\f.rounds=false
   ·exact zhF B rb s f F i i0 w h hf hk hi0 hi hB hBr h2.1 h2.2
   ·exact zg0 B rb s f F i i0 w h hf hk hi0 hi hB hBr h1 h2
def RtJ (w W:World) (s:ByteArray) (t:Bool) (RP:Except (Int×Nat) Fm):Prop:=Below (w.heap.size+1) (w.alloc (.cells #[.string ⟨#[]⟩,.slice none 0 0,.slice none 0 0,.slice none 0 0,.bool false,.int .i64 0,.int .i64 0,.int .i64 0] 29)) W/\
 ((∃f F j q,RR W (w.heap.size+1) s j 0 0 F/\Qc W (w.heap.size+1) f F/\pq f (min j s.size)/\Q8 s q f t (min j s.size)=RP/\s.size-j<q)∨
 (∃(c:Int) (p:Nat),c≠0/\(∃(i:Int) (F:RF),W.heap[w.heap.size+1]?=some (.cells #[.string s,.int .i64 i,.int .i64 c,.int .i64 p,RF.nm F,F.vl,F.vm,F.vr,.bool F.rd,.int .i64 F.a,.int .i64 F.b,.int .i64 F.c] 115 (0,0)))/\RP=.error (c,p)))
theorem ziz {W:World} {T:Array Value} {Q:Ending->World->Prop} {P:Nat} {v0 v1 v2 v3 v4 v5 v6 v7 x y:Value} (h2:T.getD 2 undef=.pointer (some ⟨P,0,none⟩)) (h3:T.getD 3 undef=x) (h4:T.getD 4 undef=y) (r:W.heap[P]?=some (.cells #[v0,v1,v2,v3,v4,v5,v6,v7] 29 (0,0))) (hQ:Q (.returned (.tuple #[.agg #[v0,v1,v2,v3,v4,v5,v6,v7],x,y])) W):
  bodyPost Tryz.prog Tryz.f28 Q Exit.ret {tmps:=T,defers:=[]} W:=by
 have d0:W.cell? ⟨P,0,none⟩=some v0:=qc _ _ _ _ _ (0,0) r;have d1:W.cell? ⟨P,1,none⟩=some v1:=qc _ _ _ _ _ (0,0) r;have d2:W.cell? ⟨P,2,none⟩=some v2:=qc _ _ _ _ _ (0,0) r;have d3:W.cell? ⟨P,3,none⟩=some v3:=qc _ _ _ _ _ (0,0) r;have d4:W.cell? ⟨P,4,none⟩=some v4:=qc _ _ _ _ _ (0,0) r;have d5:W.cell? ⟨P,5,none⟩=some v5:=qc _ _ _ _ _ (0,0) r;have d6:W.cell? ⟨P,6,none⟩=some v6:=qc _ _ _ _ _ (0,0) r;have d7:W.cell? ⟨P,7,none⟩=some v7:=qc _ _ _ _ _ (0,0) r;have h2':T[2]?.getD undef=.pointer (some ⟨P,0,none⟩):=by simpa using h2
 have h3':T[3]?.getD undef=x:=by simpa using h3
 have h4':T[4]?.getD undef=y:=by simpa using h4
 refine zt (v:=.tuple #[.agg #[v0,v1,v2,v3,v4,v5,v6,v7],x,y]) ?_ rfl hQ;simp[results,Tryz.f28,go_sem,h2',h3',h4',d0,d1,d2,d3,d4,d5,d6,d7,Tryz.isAgg29,Tryz.sizeOf29]
theorem zkp (W:World) (k:Nat):W.drew.heap[k]?=W.heap[k]?:=rfl
theorem zle {W:World} {P:Nat} {x0 x1 x2 x3 x4 x5 x6 x7:Value} (h:W.heap[P]?=some (.cells #[x0,x1,x2,x3,x4,x5,x6,x7] 29 (0,0))) (v0 v1 v2 v3 v4 v5 v6 v7:Value):
  ((((((((W.setCell ⟨P,0,none⟩ v0).setCell ⟨P,1,none⟩ v1).setCell ⟨P,2,none⟩ v2).setCell ⟨P,3,none⟩ v3).setCell ⟨P,4,none⟩ v4).setCell ⟨P,5,none⟩ v5).setCell ⟨P,6,none⟩ v6).setCell ⟨P,7,none⟩ v7).drew.heap[P]?=some (.cells #[v0,v1,v2,v3,v4,v5,v6,v7] 29 (0,0))/\Off [P] W ((((((((W.setCell ⟨P,0,none⟩ v0).setCell ⟨P,1,none⟩ v1).setCell ⟨P,2,none⟩ v2).setCell ⟨P,3,none⟩ v3).setCell ⟨P,4,none⟩ v4).setCell ⟨P,5,none⟩ v5).setCell ⟨P,6,none⟩ v6).setCell ⟨P,7,none⟩ v7).drew:=by
 have h0:(W.setCell ⟨P,0,none⟩ v0).heap[P]?=some (.cells #[v0,x1,x2,x3,x4,x5,x6,x7] 29 (0,0)):=qs W P 0 _ _ v0 h;have h1:((W.setCell ⟨P,0,none⟩ v0).setCell ⟨P,1,none⟩ v1).heap[P]?=some (.cells #[v0,v1,x2,x3,x4,x5,x6,x7] 29 (0,0)):=qs (W.setCell ⟨P,0,none⟩ v0) P 1 _ _ v1 h0;have h2:(((W.setCell ⟨P,0,none⟩ v0).setCell ⟨P,1,none⟩ v1).setCell ⟨P,2,none⟩ v2).heap[P]?=some (.cells #[v0,v1,v2,x3,x4,x5,x6,x7] 29 (0,0)):=qs ((W.setCell ⟨P,0,none⟩ v0).setCell ⟨P,1,none⟩ v1) P 2 _ _ v2 h1;have h3:((((W.setCell ⟨P,0,none⟩ v0).setCell ⟨P,1,none⟩ v1).setCell ⟨P,2,none⟩ v2).setCell ⟨P,3,none⟩ v3).heap[P]?=some (.cells #[v0,v1,v2,v3,x4,x5,x6,x7] 29 (0,0)):=qs (((W.setCell ⟨P,0,none⟩ v0).setCell ⟨P,1,none⟩ v1).setCell ⟨P,2,none⟩ v2) P 3 _ _ v3 h2;have h4:(((((W.setCell ⟨P,0,none⟩ v0).setCell ⟨P,1,none⟩ v1).setCell ⟨P,2,none⟩ v2).setCell ⟨P,3,none⟩ v3).setCell ⟨P,4,none⟩ v4).heap[P]?=some (.cells #[v0,v1,v2,v3,v4,x5,x6,x7] 29 (0,0)):=qs ((((W.setCell ⟨P,0,none⟩ v0).setCell ⟨P,1,none⟩ v1).setCell ⟨P,2,none⟩ v2).setCell ⟨P,3,none⟩ v3) P 4 _ _ v4 h3;have h5:((((((W.setCell ⟨P,0,none⟩ v0).setCell ⟨P,1,none⟩ v1).setCell ⟨P,2,none⟩ v2).setCell ⟨P,3,none⟩ v3).setCell ⟨P,4,none⟩ v4).setCell ⟨P,5,none⟩ v5).heap[P]?=some (.cells #[v0,v1,v2,v3,v4,v5,x6,x7] 29 (0,0)):=qs (((((W.setCell ⟨P,0,none⟩ v0).setCell ⟨P,1,none⟩ v1).setCell ⟨P,2,none⟩ v2).setCell ⟨P,3,none⟩ v3).setCell ⟨P,4,none⟩ v4) P 5 _ _ v5 h4;have h6:(((((((W.setCell ⟨P,0,none⟩ v0).setCell ⟨P,1,none⟩ v1).setCell ⟨P,2,none⟩ v2).setCell ⟨P,3,none⟩ v3).setCell ⟨P,4,none⟩ v4).setCell ⟨P,5,none⟩ v5).setCell ⟨P,6,none⟩ v6).heap[P]?=some (.cells #[v0,v1,v2,v3,v4,v5,v6,x7] 29 (0,0)):=qs ((((((W.setCell ⟨P,0,none⟩ v0).setCell ⟨P,1,none⟩ v1).setCell ⟨P,2,none⟩ v2).setCell ⟨P,3,none⟩ v3).setCell ⟨P,4,none⟩ v4).setCell ⟨P,5,none⟩ v5) P 6 _ _ v6 h5;have h7:((((((((W.setCell ⟨P,0,none⟩ v0).setCell ⟨P,1,none⟩ v1).setCell ⟨P,2,none⟩ v2).setCell ⟨P,3,none⟩ v3).setCell ⟨P,4,none⟩ v4).setCell ⟨P,5,none⟩ v5).setCell ⟨P,6,none⟩ v6).setCell ⟨P,7,none⟩ v7).heap[P]?=some (.cells #[v0,v1,v2,v3,v4,v5,v6,v7] 29 (0,0)):=qs (((((((W.setCell ⟨P,0,none⟩ v0).setCell ⟨P,1,none⟩ v1).setCell ⟨P,2,none⟩ v2).setCell ⟨P,3,none⟩ v3).setCell ⟨P,4,none⟩ v4).setCell ⟨P,5,none⟩ v5).setCell ⟨P,6,none⟩ v6) P 7 _ _ v7 h6;have o0:Off [P] W (W.setCell ⟨P,0,none⟩ v0):=(Off.refl [P] W).trans (Off.setCell W P 0 v0);have o1:Off [P] W ((W.setCell ⟨P,0,none⟩ v0).setCell ⟨P,1,none⟩ v1):=(o0).trans (Off.setCell (W.setCell ⟨P,0,none⟩ v0) P 1 v1);have o2:Off [P] W (((W.setCell ⟨P,0,none⟩ v0).setCell ⟨P,1,none⟩ v1).setCell ⟨P,2,none⟩ v2):=(o1).trans (Off.setCell ((W.setCell ⟨P,0,none⟩ v0).setCell ⟨P,1,none⟩ v1) P 2 v2);have o3:Off [P] W ((((W.setCell ⟨P,0,none⟩ v0).setCell ⟨P,1,none⟩ v1).setCell ⟨P,2,none⟩ v2).setCell ⟨P,3,none⟩ v3):=(o2).trans (Off.setCell (((W.setCell ⟨P,0,none⟩ v0).setCell ⟨P,1,none⟩ v1).setCell ⟨P,2,none⟩ v2) P 3 v3);have o4:Off [P] W (((((W.setCell ⟨P,0,none⟩ v0).setCell ⟨P,1,none⟩ v1).setCell ⟨P,2,none⟩ v2).setCell ⟨P,3,none⟩ v3).setCell ⟨P,4,none⟩ v4):=(o3).trans (Off.setCell ((((W.setCell ⟨P,0,none⟩ v0).setCell ⟨P,1,none⟩ v1).setCell ⟨P,2,none⟩ v2).setCell ⟨P,3,none⟩ v3) P 4 v4);have o5:Off [P] W ((((((W.setCell ⟨P,0,none⟩ v0).setCell ⟨P,1,none⟩ v1).setCell ⟨P,2,none⟩ v2).setCell ⟨P,3,none⟩ v3).setCell ⟨P,4,none⟩ v4).setCell ⟨P,5,none⟩ v5):=(o4).trans (Off.setCell (((((W.setCell ⟨P,0,none⟩ v0).setCell ⟨P,1,none⟩ v1).setCell ⟨P,2,none⟩ v2).setCell ⟨P,3,none⟩ v3).setCell ⟨P,4,none⟩ v4) P 5 v5);have o6:Off [P] W (((((((W.setCell ⟨P,0,none⟩ v0).setCell ⟨P,1,none⟩ v1).setCell ⟨P,2,none⟩ v2).setCell ⟨P,3,none⟩ v3).setCell ⟨P,4,none⟩ v4).setCell ⟨P,5,none⟩ v5).setCell ⟨P,6,none⟩ v6):=(o5).trans (Off.setCell ((((((W.setCell ⟨P,0,none⟩ v0).setCell ⟨P,1,none⟩ v1).setCell ⟨P,2,none⟩ v2).setCell ⟨P,3,none⟩ v3).setCell ⟨P,4,none⟩ v4).setCell ⟨P,5,none⟩ v5) P 6 v6);have o7:Off [P] W ((((((((W.setCell ⟨P,0,none⟩ v0).setCell ⟨P,1,none⟩ v1).setCell ⟨P,2,none⟩ v2).setCell ⟨P,3,none⟩ v3).setCell ⟨P,4,none⟩ v4).setCell ⟨P,5,none⟩ v5).setCell ⟨P,6,none⟩ v6).setCell ⟨P,7,none⟩ v7):=(o6).trans (Off.setCell (((((((W.setCell ⟨P,0,none⟩ v0).setCell ⟨P,1,none⟩ v1).setCell ⟨P,2,none⟩ v2).setCell ⟨P,3,none⟩ v3).setCell ⟨P,4,none⟩ v4).setCell ⟨P,5,none⟩ v5).setCell ⟨P,6,none⟩ v6) P 7 v7);exact⟨(zkp _ _).trans h7,o7.trans (Off.drew _ _)⟩
theorem zkq {W:World} {P:Nat} {x0 x1 x2 x3 x4 x5 x6 x7:Value} (h:W.heap[P]?=some (.cells #[x0,x1,x2,x3,x4,x5,x6,x7] 29 (0,0))) (v0 v1 v2 v3 v4 v5 v6 v7:Value):
  ((((((((W.setCell ⟨P,0,none⟩ v0).setCell ⟨P,1,none⟩ v1).setCell ⟨P,2,none⟩ v2).setCell ⟨P,3,none⟩ v3).setCell ⟨P,4,none⟩ v4).setCell ⟨P,5,none⟩ v5).setCell ⟨P,6,none⟩ v6).setCell ⟨P,7,none⟩ v7).heap[P]?=some (.cells #[v0,v1,v2,v3,v4,v5,v6,v7] 29 (0,0))/\Off [P] W ((((((((W.setCell ⟨P,0,none⟩ v0).setCell ⟨P,1,none⟩ v1).setCell ⟨P,2,none⟩ v2).setCell ⟨P,3,none⟩ v3).setCell ⟨P,4,none⟩ v4).setCell ⟨P,5,none⟩ v5).setCell ⟨P,6,none⟩ v6).setCell ⟨P,7,none⟩ v7):=by
 have h0:(W.setCell ⟨P,0,none⟩ v0).heap[P]?=some (.cells #[v0,x1,x2,x3,x4,x5,x6,x7] 29 (0,0)):=qs W P 0 _ _ v0 h;have h1:((W.setCell ⟨P,0,none⟩ v0).setCell ⟨P,1,none⟩ v1).heap[P]?=some (.cells #[v0,v1,x2,x3,x4,x5,x6,x7] 29 (0,0)):=qs (W.setCell ⟨P,0,none⟩ v0) P 1 _ _ v1 h0;have h2:(((W.setCell ⟨P,0,none⟩ v0).setCell ⟨P,1,none⟩ v1).setCell ⟨P,2,none⟩ v2).heap[P]?=some (.cells #[v0,v1,v2,x3,x4,x5,x6,x7] 29 (0,0)):=qs ((W.setCell ⟨P,0,none⟩ v0).setCell ⟨P,1,none⟩ v1) P 2 _ _ v2 h1;have h3:((((W.setCell ⟨P,0,none⟩ v0).setCell ⟨P,1,none⟩ v1).setCell ⟨P,2,none⟩ v2).setCell ⟨P,3,none⟩ v3).heap[P]?=some (.cells #[v0,v1,v2,v3,x4,x5,x6,x7] 29 (0,0)):=qs (((W.setCell ⟨P,0,none⟩ v0).setCell ⟨P,1,none⟩ v1).setCell ⟨P,2,none⟩ v2) P 3 _ _ v3 h2;have h4:(((((W.setCell ⟨P,0,none⟩ v0).setCell ⟨P,1,none⟩ v1).setCell ⟨P,2,none⟩ v2).setCell ⟨P,3,none⟩ v3).setCell ⟨P,4,none⟩ v4).heap[P]?=some (.cells #[v0,v1,v2,v3,v4,x5,x6,x7] 29 (0,0)):=qs ((((W.setCell ⟨P,0,none⟩ v0).setCell ⟨P,1,none⟩ v1).setCell ⟨P,2,none⟩ v2).setCell ⟨P,3,none⟩ v3) P 4 _ _ v4 h3;have h5:((((((W.setCell ⟨P,0,none⟩ v0).setCell ⟨P,1,none⟩ v1).setCell ⟨P,2,none⟩ v2).setCell ⟨P,3,none⟩ v3).setCell ⟨P,4,none⟩ v4).setCell ⟨P,5,none⟩ v5).heap[P]?=some (.cells #[v0,v1,v2,v3,v4,v5,x6,x7] 29 (0,0)):=qs (((((W.setCell ⟨P,0,none⟩ v0).setCell ⟨P,1,none⟩ v1).setCell ⟨P,2,none⟩ v2).setCell ⟨P,3,none⟩ v3).setCell ⟨P,4,none⟩ v4) P 5 _ _ v5 h4;have h6:(((((((W.setCell ⟨P,0,none⟩ v0).setCell ⟨P,1,none⟩ v1).setCell ⟨P,2,none⟩ v2).setCell ⟨P,3,none⟩ v3).setCell ⟨P,4,none⟩ v4).setCell ⟨P,5,none⟩ v5).setCell ⟨P,6,none⟩ v6).heap[P]?=some (.cells #[v0,v1,v2,v3,v4,v5,v6,x7] 29 (0,0)):=qs ((((((W.setCell ⟨P,0,none⟩ v0).setCell ⟨P,1,none⟩ v1).setCell ⟨P,2,none⟩ v2).setCell ⟨P,3,none⟩ v3).setCell ⟨P,4,none⟩ v4).setCell ⟨P,5,none⟩ v5) P 6 _ _ v6 h5;have h7:((((((((W.setCell ⟨P,0,none⟩ v0).setCell ⟨P,1,none⟩ v1).setCell ⟨P,2,none⟩ v2).setCell ⟨P,3,none⟩ v3).setCell ⟨P,4,none⟩ v4).setCell ⟨P,5,none⟩ v5).setCell ⟨P,6,none⟩ v6).setCell ⟨P,7,none⟩ v7).heap[P]?=some (.cells #[v0,v1,v2,v3,v4,v5,v6,v7] 29 (0,0)):=qs (((((((W.setCell ⟨P,0,none⟩ v0).setCell ⟨P,1,none⟩ v1).setCell ⟨P,2,none⟩ v2).setCell ⟨P,3,none⟩ v3).setCell ⟨P,4,none⟩ v4).setCell ⟨P,5,none⟩ v5).setCell ⟨P,6,none⟩ v6) P 7 _ _ v7 h6;have o0:Off [P] W (W.setCell ⟨P,0,none⟩ v0):=(Off.refl [P] W).trans (Off.setCell W P 0 v0);have o1:Off [P] W ((W.setCell ⟨P,0,none⟩ v0).setCell ⟨P,1,none⟩ v1):=(o0).trans (Off.setCell (W.setCell ⟨P,0,none⟩ v0) P 1 v1);have o2:Off [P] W (((W.setCell ⟨P,0,none⟩ v0).setCell ⟨P,1,none⟩ v1).setCell ⟨P,2,none⟩ v2):=(o1).trans (Off.setCell ((W.setCell ⟨P,0,none⟩ v0).setCell ⟨P,1,none⟩ v1) P 2 v2);have o3:Off [P] W ((((W.setCell ⟨P,0,none⟩ v0).setCell ⟨P,1,none⟩ v1).setCell ⟨P,2,none⟩ v2).setCell ⟨P,3,none⟩ v3):=(o2).trans (Off.setCell (((W.setCell ⟨P,0,none⟩ v0).setCell ⟨P,1,none⟩ v1).setCell ⟨P,2,none⟩ v2) P 3 v3);have o4:Off [P] W (((((W.setCell ⟨P,0,none⟩ v0).setCell ⟨P,1,none⟩ v1).setCell ⟨P,2,none⟩ v2).setCell ⟨P,3,none⟩ v3).setCell ⟨P,4,none⟩ v4):=(o3).trans (Off.setCell ((((W.setCell ⟨P,0,none⟩ v0).setCell ⟨P,1,none⟩ v1).setCell ⟨P,2,none⟩ v2).setCell ⟨P,3,none⟩ v3) P 4 v4);have o5:Off [P] W ((((((W.setCell ⟨P,0,none⟩ v0).setCell ⟨P,1,none⟩ v1).setCell ⟨P,2,none⟩ v2).setCell ⟨P,3,none⟩ v3).setCell ⟨P,4,none⟩ v4).setCell ⟨P,5,none⟩ v5):=(o4).trans (Off.setCell (((((W.setCell ⟨P,0,none⟩ v0).setCell ⟨P,1,none⟩ v1).setCell ⟨P,2,none⟩ v2).setCell ⟨P,3,none⟩ v3).setCell ⟨P,4,none⟩ v4) P 5 v5);have o6:Off [P] W (((((((W.setCell ⟨P,0,none⟩ v0).setCell ⟨P,1,none⟩ v1).setCell ⟨P,2,none⟩ v2).setCell ⟨P,3,none⟩ v3).setCell ⟨P,4,none⟩ v4).setCell ⟨P,5,none⟩ v5).setCell ⟨P,6,none⟩ v6):=(o5).trans (Off.setCell ((((((W.setCell ⟨P,0,none⟩ v0).setCell ⟨P,1,none⟩ v1).setCell ⟨P,2,none⟩ v2).setCell ⟨P,3,none⟩ v3).setCell ⟨P,4,none⟩ v4).setCell ⟨P,5,none⟩ v5) P 6 v6);have o7:Off [P] W ((((((((W.setCell ⟨P,0,none⟩ v0).setCell ⟨P,1,none⟩ v1).setCell ⟨P,2,none⟩ v2).setCell ⟨P,3,none⟩ v3).setCell ⟨P,4,none⟩ v4).setCell ⟨P,5,none⟩ v5).setCell ⟨P,6,none⟩ v6).setCell ⟨P,7,none⟩ v7):=(o6).trans (Off.setCell (((((((W.setCell ⟨P,0,none⟩ v0).setCell ⟨P,1,none⟩ v1).setCell ⟨P,2,none⟩ v2).setCell ⟨P,3,none⟩ v3).setCell ⟨P,4,none⟩ v4).setCell ⟨P,5,none⟩ v5).setCell ⟨P,6,none⟩ v6) P 7 v7);exact⟨h7,o7⟩
theorem okz:pq Fm.zero 0:=⟨by simp[Fm.zero,vQ],by simp[Fm.zero],by simp[Fm.zero],by simp[Fm.zero],by simp[Fm.zero],by simp[Fm.zero],by simp[Fm.zero],by simp[Fm.zero],by simp[Fm.zero]⟩
theorem zlf (s:ByteArray) (w:World) (hv:Vars w) (zrl:s.size<=4611686018427387904):
  Calls Tryz.prog 28 #[.string s] w (zmN s w):=by
 by_cases hs6:65536<s.size
 ·have d1:decide ((65536:Int)<(s.size:Int))=true:=qt (by omega);have HR:Hid (Kz s=.error (3,65536)):=qh (by unfold Kz;rw[qy hs6]);have hx:=qn w (.cells #[.string ⟨#[]⟩,.slice none 0 0,.slice none 0 0,.slice none 0 0,.bool false,.int .i64 0,.int .i64 0,.int .i64 0] 29);have Hb:Hid (Below w.heap.size w (w.alloc (.cells #[.string ⟨#[]⟩,.slice none 0 0,.slice none 0 0,.slice none 0 0,.bool false,.int .i64 0,.int .i64 0,.int .i64 0] 29))):=qh ((qb _ _).alloc (ql _) _);have Hx:=qh hx;clear hx;go_enter Tryz.func28,Tryz.ntmps28;go_wp2_with fail;refine ziz rfl rfl rfl Hx.out ⟨Hb.out,?_⟩;rw[HR.out];rfl
 ·have d1:decide ((65536:Int)<(s.size:Int))=false:=qd (by omega);obtain⟨RP,hRP⟩:∃RP,Q8 s (s.size+1) Fm.zero false 0=RP:=⟨_,rfl⟩;have HR:Hid (Kz s=RP):=qh (by unfold Kz;rw[qx hs6];exact hRP);have h9:=hv.six;have hx:=qn w (.cells #[.string ⟨#[]⟩,.slice none 0 0,.slice none 0 0,.slice none 0 0,.bool false,.int .i64 0,.int .i64 0,.int .i64 0] 29);have hrd:=qn (w.alloc (.cells #[.string ⟨#[]⟩,.slice none 0 0,.slice none 0 0,.slice none 0 0,.bool false,.int .i64 0,.int .i64 0,.int .i64 0] 29)) (.cells #[.string s,.int .i64 0,.int .i64 0,.int .i64 0,.string ⟨#[]⟩,.slice none 0 0,.slice none 0 0,.slice none 0 0,.bool false,.int .i64 0,.int .i64 0,.int .i64 0] 115);rw[qO] at hrd;have Za:Below (w.heap.size+1) (w.alloc (.cells #[.string ⟨#[]⟩,.slice none 0 0,.slice none 0 0,.slice none 0 0,.bool false,.int .i64 0,.int .i64 0,.int .i64 0] 29)) ((w.alloc (.cells #[.string ⟨#[]⟩,.slice none 0 0,.slice none 0 0,.slice none 0 0,.bool false,.int .i64 0,.int .i64 0,.int .i64 0] 29)).alloc (.cells #[.string s,.int .i64 0,.int .i64 0,.int .i64 0,.string ⟨#[]⟩,.slice none 0 0,.slice none 0 0,.slice none 0 0,.bool false,.int .i64 0,.int .i64 0,.int .i64 0] 115)):=(qb _ _).alloc (by simp) _;have hrr:RR ((w.alloc (.cells #[.string ⟨#[]⟩,.slice none 0 0,.slice none 0 0,.slice none 0 0,.bool false,.int .i64 0,.int .i64 0,.int .i64 0] 29)).alloc (.cells #[.string s,.int .i64 0,.int .i64 0,.int .i64 0,.string ⟨#[]⟩,.slice none 0 0,.slice none 0 0,.slice none 0 0,.bool false,.int .i64 0,.int .i64 0,.int .i64 0] 115)) (w.heap.size+1) s 0 0 0 RF0:=⟨hrd,by omega,by omega,λ_=>⟨by omega,rfl⟩⟩;have hfm:Qc ((w.alloc (.cells #[.string ⟨#[]⟩,.slice none 0 0,.slice none 0 0,.slice none 0 0,.bool false,.int .i64 0,.int .i64 0,.int .i64 0] 29)).alloc (.cells #[.string s,.int .i64 0,.int .i64 0,.int .i64 0,.string ⟨#[]⟩,.slice none 0 0,.slice none 0 0,.slice none 0 0,.bool false,.int .i64 0,.int .i64 0,.int .i64 0] 115)) (w.heap.size+1) Fm.zero RF0:=⟨rfl,⟨rfl,.inl ⟨rfl,rfl⟩⟩,⟨[],rfl,⟨rfl,.inl ⟨rfl,rfl⟩⟩,λk hk=>by simp[Fm.zero] at hk⟩,⟨[],rfl,⟨rfl,.inl ⟨rfl,rfl⟩⟩,λk hk=>by simp[Fm.zero] at hk⟩,rfl,rfl,rfl,rfl⟩;have HJ0:Hid (RtJ w ((w.alloc (.cells #[.string ⟨#[]⟩,.slice none 0 0,.slice none 0 0,.slice none 0 0,.bool false,.int .i64 0,.int .i64 0,.int .i64 0] 29)).alloc (.cells #[.string s,.int .i64 0,.int .i64 0,.int .i64 0,.string ⟨#[]⟩,.slice none 0 0,.slice none 0 0,.slice none 0 0,.bool false,.int .i64 0,.int .i64 0,.int .i64 0] 115)) s false RP):=qh ⟨Za,.inl ⟨Fm.zero,RF0,0,s.size+1,hrr,hfm,by rw[Nat.zero_min];exact okz,by rw[Nat.zero_min];exact hRP,by omega⟩⟩;have Hv:=qh hv;have Hx:=qh hx;clear hx hrd Za hrr hfm hRP hv;go_enter Tryz.func28,Tryz.ntmps28;go_wp2_with fail;go_loopw [6] (λv6 wr=>∃t:Bool,v6=.bool t/\Hid (RtJ w wr s t RP)) (λ_ wr=>match wr.cell? ⟨w.heap.size+1,2,none⟩ with|some v=>if intOf v=0 then s.size+2-(match wr.cell? ⟨w.heap.size+1,1,none⟩ with|some u=>(intOf u).toNat|none=>0) else 0|none=>0)
  case atStart=>exact⟨false,rfl,HJ0⟩
  case round=>
   clear HJ0;obtain⟨t,rfl,hJ⟩:=hrel;obtain⟨hbl,hJ2⟩:=hJ.out;have Hbl:=qh hbl;have QR:=(hbl.block w.heap.size (by omega)).trans Hx.out;have Hxr:=qh QR;have y0:=qc _ _ 0 _ _ (0,0) QR;have y1:=qc _ _ 1 _ _ (0,0) QR;have y2:=qc _ _ 2 _ _ (0,0) QR;have y3:=qc _ _ 3 _ _ (0,0) QR;have y4:=qc _ _ 4 _ _ (0,0) QR;have y5:=qc _ _ 5 _ _ (0,0) QR;have y6:=qc _ _ 6 _ _ (0,0) QR;have y7:=qc _ _ 7 _ _ (0,0) QR;have z0:=qf _ _ 0 _ _ QR;have z1:=qf _ _ 1 _ _ QR;have z2:=qf _ _ 2 _ _ QR;have z3:=qf _ _ 3 _ _ QR;have z4:=qf _ _ 4 _ _ QR;have z5:=qf _ _ 5 _ _ QR;have z6:=qf _ _ 6 _ _ QR;have z7:=qf _ _ 7 _ _ QR;clear hJ hbl QR;rcases hJ2 with⟨f,F,j,q,hr,hf,hk,hT,hq⟩|⟨c,p,hc,⟨i,F,hrow⟩,hRP⟩
   ·have hwh:=(hr.ok rfl).2;have hjs:=(hr.ok rfl).1;have hsz:=hr.sz;have r1:=hr.c1;have r2:=hr.c2;have r3:=hr.c3;have hrl:w.heap.size+1<=wr.heap.size:=zL hr.lt;have p8:Hid (wr.cell? ⟨w.heap.size+1,2,none⟩=some (.int .i64 0)/\wr.cell? ⟨w.heap.size+1,1,none⟩=some (.int .i64 j)):=qh ⟨r2,r1⟩;have Hbw:Hid (Below w.heap.size w wr):=qh (((qb w.heap.size w).alloc (ql _) _).trans (Hbl.out.mono (by omega)));have Hr:=qh hr;have Hf:=qh hf;have Hk:=qh hk;have HT:=qh hT;clear hr hf hk hT;by_cases hlt:j<s.size
    ·have dj:decide ((j:Int)<(s.size:Int))=true:=qt (by omega);have djn:decide (j<s.size)=true:=qt hlt;have i1:(0:Int)<=(j:Int):=(by omega);have i2:(j:Int)<(s.size:Int):=(by omega);have hmin:min j s.size=j:=Nat.min_eq_left (by omega);have hib:∀c:Int,pg s j c=((s[j].toNat:Int)==c):=λc=>QX hlt;have HT2:Hid (Q8 s q f t j=RP):=qh (by rw[<-hmin];exact HT.out);have Hk2:Hid (pq f j):=qh (by rw[<-hmin];exact Hk.out);have h9:=Hv.out.six
     --what stands behind the round
     have HN:Hid (∀(W8:World) (f':Fm) (F':RF) (t':Bool) (j':Nat),RR W8 (w.heap.size+1) s j' 0 0 F'->Qc W8 (w.heap.size+1) f' F'->Below (w.heap.size+1) wr W8->pq f' j'->j<=j'->j'<=s.size->(∀q',q=q'+1->Q8 s q' f' t' (ZK s j')=RP)->
       RtJ w (W8.setCell ⟨w.heap.size+1,1,none⟩ (.int .i64 ((j':Int)+1))) s t' RP/\(W8.setCell ⟨w.heap.size+1,1,none⟩ (.int .i64 ((j':Int)+1))).cell? ⟨w.heap.size+1,2,none⟩=some (.int .i64 0)/\(W8.setCell ⟨w.heap.size+1,1,none⟩ (.int .i64 ((j':Int)+1))).cell? ⟨w.heap.size+1,1,none⟩=some (.int .i64 ((j'+1:Nat):Int))):=qh (λW8 f' F' t' j' hr' hf' hb' hk' hjj hj' hw'=>by
      have hc1:(j':Int)+1=((j'+1:Nat):Int):=(by omega);rw[hc1];have pB:=hr'.to (j:=j'+1) (by omega);have Jg:=Off.setCell W8 (w.heap.size+1) 1 (.int .i64 ((j'+1:Nat):Int));have hnx:ZK s j'=min (j'+1) s.size:=by unfold ZK;split<;>omega
      refine⟨⟨Hbl.out.trans (hb'.trans (Jg.below (qm hrl (qm (ql _) hb'.size)) (λk hk=>by simp at hk;omega))),.inl ⟨f',F',j'+1,q-1,pB,hf'.pz hr' Jg,hk'.mono (by omega),?_,by omega⟩⟩,pB.c2,pB.c1⟩;rw[<-hnx];exact hw' (q-1) (by omega))
     by_cases h35:pg s j 35=true
     ·have g35:((s[j].toNat:Int)==35)=true:=(by rw[<-hib];exact h35);have h10:pg s j 10=false:=(by rw[hib] at h35|-;simp at h35|-;omega);have hre:=zbs j (by omega:j<=s.size);have hrest:=zcL (w.heap.size+1) s j 0 0 F wr Hr.out (by omega);rw[qy rfl] at hrest;have Zi:=qh hrest;have HW:Hid (∀q',q=q'+1->Q8 s q' f t (ZK s (zap s j))=RP):=qh (λq' e=>by subst e;rw[<-zfu h10 h35];exact HT2.out);clear hib h35 h10 hrest hmin;go_wp2_with fail;refine Zi.out.mono ?_;rintro e w5 ⟨pH,rfl,pi⟩;have hb5:Below (w.heap.size+1) wr w5:=pH.below hrl (λk hk=>by simp at hk;omega);have hN:=HN.out w5 f F t (zap s j) pi (Hf.out.pz Hr.out pH) hb5 (Hk2.out.mono hre.1) hre.1 hre.2 HW.out;have Ua:=qh hN;have hw1:IntKind.i64.wrap ((zap s j:Int)+1)=(zap s j:Int)+1:=qi _ (by omega);have t1:=pi.c1;have tz1:=pi.z 1;generalize zap s j=E at*;clear pH pi hb5 hN r1 r2 r3;go_wp2_with fail;go_roundw
      case rel=>exact⟨t,rfl,qh Ua.out.1⟩
      case measure=>
       rw[Ua.out.2.1,Ua.out.2.2,p8.out.1,p8.out.2];simp[intOf];omega
     ·have g35:((s[j].toNat:Int)==35)=false:=(by rw[<-hib];simpa using h35);by_cases h10:pg s j 10=true
      ·have g10:((s[j].toNat:Int) !=10)=false:=(by rw[hib] at h10;simpa [bne] using h10);have HW:Hid (∀q',q=q'+1->Q8 s q' f t (ZK s j)=RP):=qh (λq' e=>by subst e;rw[<-zix h10];exact HT2.out);have hN:=HN.out wr f F t j Hr.out Hf.out (qb _ _) Hk2.out (ql _) (by omega) HW.out;have Ua:=qh hN;have hw1:IntKind.i64.wrap ((j:Int)+1)=(j:Int)+1:=qi _ (by omega);have tz1:=Hr.out.z 1;clear hib h35 h10 hN hmin;go_wp2_with fail;go_roundw
       case rel=>exact⟨t,rfl,qh Ua.out.1⟩
       case measure=>
        rw[Ua.out.2.1,Ua.out.2.2,p8.out.1,p8.out.2];simp[intOf];omega
      ·have g10:((s[j].toNat:Int) !=10)=true:=(by rw[hib] at h10;simpa [bne] using h10);have h10':pg s j 10=false:=(by simpa using h10);have h35':pg s j 35=false:=(by simpa using h35);have Zg:Vars wr:=Vars.below (Vars.below Hv.out ((qb w.heap.size w).alloc (ql _) _) h9) Hbl.out (by omega);have Z0:=qh (zko (w.heap.size+1) (w.heap.size+1) s f F t j j wr Hr.out Zg (by omega) Hf.out Hk2.out (ql _) hlt hrl (ql _));have HW:Hid (∀q',q=q'+1->(match QZ s f t j with|.error e=>.error e|.ok (f',j)=>Q8 s q' f' true (ZK s j))=RP):=qh (λq' e=>by subst e;exact(zfv hlt h10' h35').symm.trans HT2.out);have Hq:=qh hq;clear hib h35 h10 h10' h35' Zg hmin hq;go_wp2_with fail;refine Z0.out.mono ?_;rintro e w5 ⟨rfl,hb5,hres⟩;cases hL:QZ s f t j with
       |error ep=>
        obtain⟨c,p⟩:=ep;rw[hL] at hres;obtain⟨hc,j5,F5,pi⟩:=hres;have hRP:RP=.error (c,p):=by
         have hq0:=Hq.out;cases q with
         |zero=>omega
         |succ q'=>have:=HW.out q' rfl;rw[hL] at this;exact this.symm
        have t1:=pi.c1;have tz1:=pi.z 1;have hle5:=pi.le;have hw1:IntKind.i64.wrap ((j5:Int)+1)=(j5:Int)+1:=qi _ (by omega);have Jg:=Off.setCell w5 (w.heap.size+1) 1 (.int .i64 ((j5:Int)+1));have zqY:=qs w5 (w.heap.size+1) 1 _ _ (.int .i64 ((j5:Int)+1)) pi.r;have Ua:Hid (RtJ w (w5.setCell ⟨w.heap.size+1,1,none⟩ (.int .i64 ((j5:Int)+1))) s true RP/\(w5.setCell ⟨w.heap.size+1,1,none⟩ (.int .i64 ((j5:Int)+1))).cell? ⟨w.heap.size+1,2,none⟩=some (.int .i64 c)/\c≠0):=qh
         ⟨⟨Hbl.out.trans (hb5.trans (Jg.below (qm hrl hb5.size) (λk hk=>by simp at hk;omega))),.inr ⟨c,p,hc,⟨(j5:Int)+1,F5,zqY⟩,hRP⟩⟩,qc _ _ 2 _ _ (0,0) zqY,hc⟩
        clear hL hb5 pi hc hRP Jg zqY r1 r2 r3;go_wp2_with fail;go_roundw
        case rel=>exact⟨true,rfl,qh Ua.out.1⟩
        case measure=>
         rw[Ua.out.2.1,p8.out.1,p8.out.2];have:=Ua.out.2.2;simp[intOf,this];omega
       |ok fj=>
        obtain⟨f5,j5⟩:=fj;rw[hL] at hres;obtain⟨hj5,F5,pi,Xy⟩:=hres;have hge:=zld (by omega) hL;have hk5:=zkn Hk2.out (by omega) hL;have hN:=HN.out w5 f5 F5 true j5 pi Xy hb5 hk5 hge hj5 (λq' e=>by have:=HW.out q' e;rw[hL] at this;exact this);have Ua:=qh hN;have hw1:IntKind.i64.wrap ((j5:Int)+1)=(j5:Int)+1:=qi _ (by omega);have t1:=pi.c1;have tz1:=pi.z 1;clear hL hb5 pi Xy hk5 hN r1 r2 r3;go_wp2_with fail;go_roundw
        case rel=>exact⟨true,rfl,qh Ua.out.1⟩
        case measure=>
         rw[Ua.out.2.1,Ua.out.2.2,p8.out.1,p8.out.2];simp[intOf];omega
    ·have dj:decide ((j:Int)<(s.size:Int))=false:=qd (by omega);have djn:decide (j<s.size)=false:=qd hlt;have hmin:min j s.size=s.size:=Nat.min_eq_right (by omega);have HRP:Hid (RP=if f.rows.isEmpty then .error (180,s.size) else .ok f):=qh (by
      have:=HT.out;rw[hmin] at this;cases q with
      |zero=>omega
      |succ q'=>rw[zg1 (by omega)] at this;exact this.symm)
     obtain⟨Ar,cr,Zg⟩:=Hf.out.len;have f7:wr.cell? ⟨w.heap.size+1,7,none⟩=some (.slice Ar f.rows.length cr):=(by rw[Hr.out.form.2.2.2.1,Zg]);clear hmin hq Zg;by_cases hrw:f.rows=[]
     ·have HE:Hid (Kz s=.error (180,s.size)):=qh (by rw[HR.out,HRP.out,hrw];rfl);rw[hrw] at f7;have f7':wr.cell? ⟨w.heap.size+1,7,none⟩=some (.slice Ar 0 cr):=f7;have Hw:=qh (zaO (w.heap.size+1) s j 0 0 F 180 (s.size:Int) wr Hr.out (by decide));clear f7 hrw r3;go_wp2_with fail;refine Hw.out.mono ?_;rintro e w5 ⟨rfl,pi,pH⟩;have zsU:RR w5 (w.heap.size+1) s j 180 s.size F:=pi;have q2:=zsU.c2;have q3:=zsU.c3;have QR:=(pH.block w.heap.size (qg Hxr.out).1 (by simp)).trans Hxr.out;have y0:=qc _ _ 0 _ _ (0,0) QR;have y1:=qc _ _ 1 _ _ (0,0) QR;have y2:=qc _ _ 2 _ _ (0,0) QR;have y3:=qc _ _ 3 _ _ (0,0) QR;have y4:=qc _ _ 4 _ _ (0,0) QR;have y5:=qc _ _ 5 _ _ (0,0) QR;have y6:=qc _ _ 6 _ _ (0,0) QR;have y7:=qc _ _ 7 _ _ (0,0) QR;have z0:=qf _ _ 0 _ _ QR;have z1:=qf _ _ 1 _ _ QR;have z2:=qf _ _ 2 _ _ QR;have z3:=qf _ _ 3 _ _ QR;have z4:=qf _ _ 4 _ _ QR;have z5:=qf _ _ 5 _ _ QR;have z6:=qf _ _ 6 _ _ QR;have z7:=qf _ _ 7 _ _ QR;have Hz:=qh (zle QR (.string ⟨#[]⟩) (.slice none 0 0) (.slice none 0 0) (.slice none 0 0) (.bool false) (.int .i64 0) (.int .i64 0) (.int .i64 0));have Vd:Below w.heap.size w w5:=Hbw.out.trans (pH.below Hbw.out.size (λk hk=>by simp at hk;omega));have Ve:=qh Vd;clear pi zsU pH QR Vd;go_wp2_with fail;go_region
      all_goals
       go_wp2_with fail;refine ziz rfl rfl rfl Hz.out.1 ⟨Ve.out.trans (Hz.out.2.below Ve.out.size (λk hk=>by simp at hk;omega)),?_⟩;rw[HE.out];rfl
     ·have HE:Hid (Kz s=.ok f):=qh (by
       rw[HR.out,HRP.out];have:f.rows.isEmpty=false:=by
        cases hh:f.rows.isEmpty with
        |false=>rfl
        |true=>exact absurd (yz.1 hh) hrw
       rw[this];rfl)
      have hne:f.rows.length≠0:=λe=>hrw (List.length_eq_zero_iff.1 e);have q0:((f.rows.length:Int)==0)=false:=(by simpa using hrw);obtain⟨g4,g5,g6,g7,g8,g9,g10,g11⟩:=Hr.out.form;rw[f7] at g7;have hv7:F.vr=.slice Ar f.rows.length cr:=(by simpa using g7.symm);have hnm:=Hf.out.nm;obtain⟨Al,cl,hvl⟩:=pJ Hf.out.l;obtain⟨cs,hcs⟩:=Hf.out.m;obtain⟨Am,cm,XN⟩:=pJ hcs.o;rw[hnm] at g4;rw[hvl] at g5;rw[XN] at g6;have Y9:=zkq Hxr.out (.string ⟨f.name.toArray⟩) (.slice Al f.gN.length cl) (.slice Am f.gQ.length cm) (.slice Ar f.rows.length cr) (.bool F.rd) (.int .i64 F.a) (.int .i64 F.b) (.int .i64 F.c);have Hz:=qh Y9;have hty:pc wr [w.heap.size] [29]:=pc.one Hxr.out;have Hfm:=qh ((Hf.out.off Y9.2 hty (by simp)).mono (C:=w.heap.size) (by omega));have Hv7:=qh (show F.nm=.string ⟨f.name.toArray⟩/\F.vl=.slice Al f.gN.length cl/\F.vm=.slice Am f.gQ.length cm/\F.vr=.slice Ar f.rows.length cr from⟨hnm,hvl,XN,hv7⟩);clear hrw hne hv7 g7 Y9 hty r3 hnm hvl XN hcs;go_wp2_with fail;refine ziz rfl rfl rfl Hz.out.1 ⟨Hbw.out.trans (Hz.out.2.below Hbw.out.size (λk hk=>by simp at hk;omega)),?_⟩;rw[HE.out];refine⟨F,?_,Hfm.out⟩;unfold RF.agg;rw[Hv7.out.1,Hv7.out.2.1,Hv7.out.2.2.1,Hv7.out.2.2.2];rfl
   ·have q0:(c==0)=false:=(by simpa using hc);have q1:(c !=0)=true:=(by simpa using hc);have r2:wr.cell? ⟨w.heap.size+1,2,none⟩=some (.int .i64 c):=qc _ _ 2 _ _ (0,0) hrow;have r3:wr.cell? ⟨w.heap.size+1,3,none⟩=some (.int .i64 p):=qc _ _ 3 _ _ (0,0) hrow;have HRP:=qh (HR.out.trans hRP);have Hz:=qh (zle Hxr.out (.string ⟨#[]⟩) (.slice none 0 0) (.slice none 0 0) (.slice none 0 0) (.bool false) (.int .i64 0) (.int .i64 0) (.int .i64 0));have Hbw:Hid (Below w.heap.size w wr):=qh (((qb w.heap.size w).alloc (ql _) _).trans (Hbl.out.mono (by omega)));clear hrow hRP hc;go_wp2_with fail;go_region
    all_goals
     go_wp2_with fail;refine ziz rfl rfl rfl Hz.out.1 ⟨Hbw.out.trans (Hz.out.2.below Hbw.out.size (λk hk=>by simp at hk;omega)),?_⟩;rw[HRP.out];rfl
theorem zhQ {s:ByteArray} {f:Fm} {i:Nat}:QZ s f false i=match pF (py s znf i) with|.error e=>.error e|.ok a=>if vG s a then .error (180,a) else .ok ({f with name:=yM s a (zap s a)},zap s a):=by
 unfold QZ;rw[qy (by simp)];rfl
theorem zhR {s:ByteArray} {f:Fm} {i:Nat} (h:pg s i 109=true) (h0:f.rows.isEmpty=true):QZ s f true i=YF s f i:=by
 unfold QZ;rw[qx (by simp),qy (by rw[h,h0];rfl)]
theorem zeX {s:ByteArray} {f:Fm} {i:Nat} (h:(pg s i 109&&f.rows.isEmpty)=false) (h0:pg s i 114=true):QZ s f true i=XW s f i:=by
 unfold QZ;rw[qx (by simp),qx (by rw[h];simp),qy h0]
theorem zd8 {s:ByteArray} {f:Fm} {i:Nat} (h:(pg s i 109&&f.rows.isEmpty)=false) (h0:pg s i 114=false):QZ s f true i=match pF (py s pM i) with|.error e=>.error e|.ok a=>Kd s f false i a:=by
 unfold QZ;rw[qx (by simp),qx (by rw[h];simp),qx (by rw[h0];simp)];rfl
theorem zeY {w W W':World} {B rb:Nat} (h:Below B w W) (ho:Off [rb] W W') (hB:B<=rb) (hBw:B<=w.heap.size):Below B w W':=h.trans (ho.keep (qm hBw h.size) hB)
theorem zeZ {w W W':World} {B:Nat} (h:Below B w W) (hb:Below W.heap.size W W') (hBw:B<=w.heap.size):Below B w W':=h.trans ((Off.of_below hb (ql _) []).below (qm hBw h.size) (λ_ hk=>by cases hk))
theorem zbf {B rb fb:Nat} {s:ByteArray} {w w':World} {R:Except (Int×Nat) Fm} {c:Int} {p:Nat} (hb:Below B w w') (hR:R=.error (c,p)):zkd B rb fb s w R (vU c p) w':=by
 rw[hR];exact⟨hb,rfl⟩
theorem zkr (B rb fb:Nat) (s:ByteArray) (vl vm vs:Value) (w:World) (h:V2 w w B rb fb s Fm.zero 0 vl vm vs) (h9:9<=B) (hB:B<=rb):
  Calls Tryz.prog 60 #[.pointer (some ⟨rb,0,none⟩)] w (zkd B rb fb s w (Q8 s (s.size+1) Fm.zero false 0)):=by
 have hsz:=h.rd.sz;have hrb:=h.rd.lt;have hBw:B<=w.heap.size:=by omega
 generalize hR:Q8 s (s.size+1) Fm.zero false 0=R;have Kk:=qh hR;have H0:=qh h;clear h hR;go_enter Tryz.func60,Tryz.ntmps60;go_wp2_with fail;go_step3
 go_wp2_with fail;go_step3
 go_wp2_with fail;go_loopw [2] (λt wr=>∃(f:Fm) (i:Nat) (ti:Bool) (q:Nat) (vl vm vs:Value),t=.bool ti/\s.size<q+i/\Hid (Q8 s q f ti i=R)/\Hid (V2 w wr B rb fb s f i vl vm vs)) (λ_ wr=>s.size-(match wr.cell? ⟨rb,1,none⟩ with|some v=>(intOf v).toNat|none=>0))
 case atStart=>exact⟨Fm.zero,0,false,s.size+1,vl,vm,vs,rfl,by omega,Kk,H0⟩
 case round=>
  obtain⟨f,i,ti,q,vl,vm,vs,rfl,hq,hT,hJ⟩:=hrel;clear H0 Kk;have hle:=hJ.out.rd.le;obtain⟨r0,r1,r2,r3⟩:=hJ.out.rd.cells;have p8:Hid (wr.cell? ⟨rb,1,none⟩=some (.int .i64 i)):=qh r1;obtain⟨q',rfl⟩:∃q',q=q'+1:=⟨q-1,by omega⟩;by_cases hi:i<s.size
  ·have hne:((i:Int)==(s.size:Int))=false:=by
    have:¬((i:Int)=(s.size:Int)):=(by omega);simpa using this
   go_wp2_with fail;go_quiet (fail)
   have Xk:=qh (hJ.out.below (W':=wr.drewN nq) (ZG (qb _ _) nq) h9 hB hBw);have Hen:=qh (zdn rb fb s i _ Xk.out.rd);go_wp2_with fail;refine Hen.out.mono ?_;rintro e w2 ⟨rfl,hb2⟩;have HJ2:=qh (Xk.out.below hb2 h9 hB hBw);clear hb2 Hen Xk hJ r0 r1 r2 r3;rw[zmt hi];cases hnl:pg s i 10 with
   |true=>
    have HT2:Hid (Q8 s q' f ti (ZK s i)=R):=qh (by rw[<-hT.out,zix hnl]);go_wp2_with fail;refine(zd0 rb fb s i w2 HJ2.out.rd).mono ?_;rintro e wn hst;obtain⟨rfl,hrd,ho⟩:e=.returned (.tuple #[])/\Rd wn rb fb s (ZK s i)/\Off [rb] w2 wn:=hst;have Xc:=qh (HJ2.out.off hrd ho (zcP s i) h9 hB hBw);have hgt:=zcQ (s:=s) (i:=i) (j:=i) hi (ql _);clear hrd ho;go_wp2_with fail;go_roundw
    case rel=>exact⟨f,ZK s i,ti,q',_,_,_,rfl,by omega,HT2,Xc⟩
    case measure=>
     have e1:=Xc.out.rd.cells.2.1;have e2:=Xc.out.rd.le;rw[e1,p8.out];simp only[intOf];omega
   |false=>
    go_wp2_with fail;refine(zdZ rb fb s i 35 w2 HJ2.out.rd).mono ?_;rintro e w3 ⟨rfl,hb3⟩;have KL:=qh (HJ2.out.below hb3 h9 hB hBw);clear hb3 HJ2;have e35:((35:UInt8).toNat:Int)=35:=rfl;rw[e35];cases hha:pg s i 35 with
    |true=>
     have HT2:Hid (Q8 s q' f ti (ZK s (zap s i))=R):=qh (by rw[<-hT.out,zfu hnl hha]);have hij:=(zbs (s:=s) i hle).1;go_wp2_with fail;refine(zfG rb fb s i w3 KL.out.rd).mono ?_;rintro e w4 ⟨rfl,JQ,QI⟩;have Zo:=qh (KL.out.off JQ QI hij h9 hB hBw);clear JQ QI;go_wp2_with fail;refine(zd0 rb fb s (zap s i) w4 Zo.out.rd).mono ?_;rintro e wn hst;obtain⟨rfl,hrd,ho⟩:e=.returned (.tuple #[])/\Rd wn rb fb s (ZK s (zap s i))/\Off [rb] w4 wn:=hst;have Xc:=qh (Zo.out.off hrd ho (zcP s (zap s i)) h9 hB hBw);have hgt:=zcQ (s:=s) (i:=i) (j:=(zap s i)) hi (hij);clear hrd ho;go_wp2_with fail;go_roundw
     case rel=>exact⟨f,ZK s (zap s i),ti,q',_,_,_,rfl,by omega,HT2,Xc⟩
     case measure=>
      have e1:=Xc.out.rd.cells.2.1;have e2:=Xc.out.rd.le;rw[e1,p8.out];simp only[intOf];omega
    |false=>
     have HT2:Hid ((match QZ s f ti i with|.error e=>.error e|.ok (f',j)=>Q8 s q' f' true (ZK s j))=R):=qh (by rw[<-hT.out,zfv hi hnl hha];rfl);clear hT hnl hha;cases ti with
     |false=>
      have XG:=HT2.out;rw[zhQ] at XG;have HT3:=qh XG;clear XG HT2;have zqZ:=qh (zbW rb fb s ⟨#[102,111,114,109,32]⟩ i w3 KL.out.rd (by decide));go_wp2_with fail;refine zqZ.out.mono ?_;rintro e w4 Q3;have hst:YG rb fb s w3 (.tuple #[]) (pF (py s znf i)) e w4:=Q3;clear Q3 zqZ;cases hX:pF (py s znf i) with
      |error ep=>obtain⟨c,p⟩:=ep;have hR2:=HT3.out;rw[hX] at hst hR2;obtain⟨rfl,ho⟩:=hst;exact⟨rfl,zbf (zeY KL.out.bl ho hB hBw) hR2.symm⟩
      |ok a=>
       have hR2:=HT3.out;rw[hX] at hst hR2;simp only[] at hR2;obtain⟨rfl,JQ,QI⟩:=hst;have hia:i<=a:=(by have:=Ji hX;omega);have Zo:=qh (KL.out.off JQ QI hia h9 hB hBw);have HT4:=qh hR2;clear hR2 HT3 hX JQ QI;go_wp2_with fail;refine(zdn rb fb s a w4 Zo.out.rd).mono ?_;rintro e w5 ⟨rfl,hb5⟩;have QT:=qh (Zo.out.below hb5 h9 hB hBw);clear hb5 Zo;cases hen:vG s a with
       |true=>have hR2:=HT4.out;rw[hen,qy rfl] at hR2;go_wp2_with fail;refine(YH rb fb s a w5 QT.out.rd).mono ?_;rintro e w6 ⟨rfl,hb6⟩;exact⟨rfl,zbf (zeZ QT.out.bl hb6 hBw) hR2.symm⟩
       |false=>
        have hR2:=HT4.out;rw[hen,qx (by simp)] at hR2;simp only[] at hR2;have HT5:=qh hR2;have hla:=QT.out.rd.le;have hae:=zbs (s:=s) a hla;obtain⟨s0,s1,s2,s3⟩:=QT.out.rd.cells;have hD5:=QT.out.below (W':=w5.drew) (ZG (qb _ _) 1) h9 hB hBw;have HD5:=qh hD5;have hT:s.extract a (zap s a)=⟨(yM s a (zap s a)).toArray⟩:=by
         apply kN;rw[<-zcp]
        have HN:=qh (λ(w6:World) (hr:Rd w6 rb fb s (zap s a)) (ho:Off [rb] w5.drew w6)=>(HD5.out.off hr ho hae.1 h9 hB hBw).name (yM s a (zap s a)) hB h9 hBw);have Hrs:Hid (Calls Tryz.prog 90 #[.pointer (some ⟨rb,0,none⟩)] w5.drew (λe w'=>e=.returned (.string ⟨(yM s a (zap s a)).toArray⟩)/\Rd w' rb fb s (zap s a)/\Off [rb] w5.drew w')):=qh ((zfG rb fb s a w5.drew HD5.out.rd).mono (by rintro e w' ⟨h1,h2,h3⟩;exact⟨by rw[h1,hT],h2,h3⟩));clear hR2 HT4 hen hD5 hT;go_wp2_with fail;go_region_law (go_simp;go_at_call 90;refine Hrs.out.mono ?_;rintro e w6 ⟨rfl,ZY,Ze⟩;obtain⟨hJ6,⟨v6,c6⟩,z6⟩:=HN.out w6 ZY Ze;have Vx:=qh hJ6;have t2:=ZY.cells.2.2.1;clear hJ6 ZY Ze)
        all_goals
         go_wp2_with fail;refine(zd0 rb fb s (zap s a) (w6.setCell ⟨fb,0,none⟩ (.string ⟨(yM s a (zap s a)).toArray⟩)) Vx.out.rd).mono ?_;rintro e wn hst;obtain⟨rfl,hrd,ho⟩:e=.returned (.tuple #[])/\Rd wn rb fb s (ZK s (zap s a))/\Off [rb] (w6.setCell ⟨fb,0,none⟩ (.string ⟨(yM s a (zap s a)).toArray⟩)) wn:=hst;have Xc:=qh (Vx.out.off hrd ho (zcP s (zap s a)) h9 hB hBw);have hgt:=zcQ (s:=s) (i:=i) (j:=(zap s a)) hi (by omega);clear hrd ho;go_wp2_with fail;go_roundw
         case rel=>exact⟨{f with name:=yM s a (zap s a)},ZK s (zap s a),true,q',_,_,_,rfl,by omega,HT5,Xc⟩
         case measure=>
          have e1:=Xc.out.rd.cells.2.1;have e2:=Xc.out.rd.le;rw[e1,p8.out];simp only[intOf];omega
     |true=>
      have hJ3:=KL;go_wp2_with fail;refine(zdZ rb fb s i 109 w3 KL.out.rd).mono ?_;rintro e w4 ⟨rfl,hb4⟩;have Zo:=qh (KL.out.below hb4 h9 hB hBw);clear hb4 KL hJ3;have e109:((109:UInt8).toNat:Int)=109:=rfl;rw[e109];obtain⟨s0,s1,s2,s3⟩:=Zo.out.rd.cells;obtain⟨g0,g1,g2,g3,g4,g5,g6,g7⟩:=Zo.out.fm.cells;obtain⟨vis,hrw,_⟩:=Zo.out.fm.r;obtain⟨As,cs,hvs⟩:=pJ hrw.o;subst hvs;clear hrw g0 g1 g2 g4 g5 g6 g7;by_cases hmm:pg s i 109=true/\f.rows=[]
      ·obtain⟨hm1,hm2⟩:=hmm;have hlz:((f.rows.length:Int)==0)=true:=(by rw[hm2];rfl);have XG:=HT2.out;rw[zhR hm1 (by rw[hm2];rfl)] at XG;have HT3:=qh XG;rw[hm1];have Z0:=qh (zkb B rb fb s f i i vl vm (.slice As f.rows.length cs) w4 Zo.out.rd Zo.out.vars h9 hB Zo.out.fm Zo.out.ok (ql _) hm2);clear XG HT2 hm1;go_wp2_with fail;refine Z0.out.mono ?_;rintro e w5 ⟨hb5,hst⟩;clear Z0;cases hX:YF s f i with
       |error ep=>obtain⟨c,p⟩:=ep;have hR2:=HT3.out;rw[hX] at hst hR2;subst hst;exact⟨rfl,zbf (Zo.out.bl.trans hb5) hR2.symm⟩
       |ok fj=>
        obtain⟨f',j⟩:=fj;have hR2:=HT3.out;rw[hX] at hst hR2;simp only[] at hR2;obtain⟨rfl,hrd,hk5,Y3,VY,vs',YY⟩:=hst;have hij:=zg3 hX;have QT:=qh (Zo.out.line hb5 hrd hk5 YY h9);have HT4:=qh hR2;clear hR2 HT3 hX hrd hk5 YY hb5;go_wp2_with fail;refine(zd0 rb fb s j w5 QT.out.rd).mono ?_;rintro e wn hst;obtain⟨rfl,hrd,ho⟩:e=.returned (.tuple #[])/\Rd wn rb fb s (ZK s j)/\Off [rb] w5 wn:=hst;have Xc:=qh (QT.out.off hrd ho (zcP s j) h9 hB hBw);have hgt:=zcQ (s:=s) (i:=i) (j:=j) hi (hij);clear hrd ho;go_wp2_with fail;go_roundw
        case rel=>exact⟨f',ZK s j,true,q',_,_,_,rfl,by omega,HT4,Xc⟩
        case measure=>
         have e1:=Xc.out.rd.cells.2.1;have e2:=Xc.out.rd.le;rw[e1,p8.out];simp only[intOf];omega
      ·have hmb:(pg s i 109&&f.rows.isEmpty)=false:=by
        cases hb:pg s i 109 with
        |false=>rfl
        |true=>
         cases hr:f.rows with
         |nil=>exact absurd ⟨hb,hr⟩ hmm
         |cons x l=>rfl
       have hlz:pg s i 109=true->((f.rows.length:Int)==0)=false:=λhb=>by
        cases hr:f.rows with
        |nil=>exact absurd ⟨hb,hr⟩ hmm
        |cons x l=>
         have:¬(((x::l).length:Int)=0):=(by simp;omega);simpa using this
       clear hmm;have Hrd4:=qh (zdZ rb fb s i 114 w4 Zo.out.rd);cases hb1:pg s i 109 with|false=>?_|true=>?_
       rotate_right;have hlz1:=hlz hb1
       rotate_right
       all_goals
        clear hlz;go_wp2_with fail;refine Hrd4.out.mono ?_;rintro e w5 ⟨rfl,hb5⟩;have QT:=qh (Zo.out.below hb5 h9 hB hBw);clear hb5;have e114:((114:UInt8).toNat:Int)=114:=rfl;rw[e114];obtain⟨t0,t1,t2,t3⟩:=QT.out.rd.cells;cases hb2:pg s i 114 with
        |true=>
         have XG:=HT2.out;rw[zeX hmb hb2] at XG;have HT3:=qh XG;have Z0:=qh (zgV B rb fb s f i i vl vm (.slice As f.rows.length cs) w5 QT.out.rd QT.out.vars h9 hB QT.out.fm QT.out.ok (ql _));clear XG HT2;go_wp2_with fail;refine Z0.out.mono ?_;rintro e w6 ⟨hb6,hst⟩;clear Z0;cases hX:XW s f i with
         |error ep=>obtain⟨c,p⟩:=ep;have hR2:=HT3.out;rw[hX] at hst hR2;subst hst;exact⟨rfl,zbf (QT.out.bl.trans hb6) hR2.symm⟩
         |ok fj=>
          obtain⟨f',j⟩:=fj;have hR2:=HT3.out;rw[hX] at hst hR2;simp only[] at hR2;obtain⟨rfl,hrd,hk6,vs',XD⟩:=hst;have hij:=zeQ hX;have Vx:=qh (QT.out.line hb6 hrd hk6 XD h9);have HT4:=qh hR2;clear hR2 HT3 hX hrd hk6 XD hb6;go_wp2_with fail;refine(zd0 rb fb s j w6 Vx.out.rd).mono ?_;rintro e wn hst;obtain⟨rfl,hrd,ho⟩:e=.returned (.tuple #[])/\Rd wn rb fb s (ZK s j)/\Off [rb] w6 wn:=hst;have Xc:=qh (Vx.out.off hrd ho (zcP s j) h9 hB hBw);have hgt:=zcQ (s:=s) (i:=i) (j:=j) hi (hij);clear hrd ho;go_wp2_with fail;go_roundw
          case rel=>exact⟨f',ZK s j,true,q',_,_,_,rfl,by omega,HT4,Xc⟩
          case measure=>
           have e1:=Xc.out.rd.cells.2.1;have e2:=Xc.out.rd.le;rw[e1,p8.out];simp only[intOf];omega
        |false=>
         have XG:=HT2.out;rw[zd8 hmb hb2] at XG;have HT3:=qh XG;have zqZ:=qh (zbW rb fb s ⟨#[115,116,97,110,122,97]⟩ i w5 QT.out.rd (by decide));clear XG HT2;go_wp2_with fail;refine zqZ.out.mono ?_;rintro e w6 Q3;have hst:YG rb fb s w5 (.tuple #[]) (pF (py s pM i)) e w6:=Q3;clear Q3 zqZ;cases hX:pF (py s pM i) with
         |error ep=>obtain⟨c,p⟩:=ep;have hR2:=HT3.out;rw[hX] at hst hR2;obtain⟨rfl,ho⟩:=hst;exact⟨rfl,zbf (zeY QT.out.bl ho hB hBw) hR2.symm⟩
         |ok a=>
          have hR2:=HT3.out;rw[hX] at hst hR2;simp only[] at hR2;obtain⟨rfl,Z4,Ze⟩:=hst;have hia:i+6=a:=(by have:=Ji hX;have e:pM.length=6:=rfl;omega);have Vx:=qh (QT.out.off Z4 Ze (show i<=a by omega) h9 hB hBw);have HT4:=qh hR2;have Z0:=qh (zdR B rb fb s f false i a i vl vm (.slice As f.rows.length cs) w6 Vx.out.rd Vx.out.vars h9 hB Vx.out.fm QT.out.ok (by omega));clear hR2 HT3 hX Z4 Ze;go_wp2_with fail;refine Z0.out.mono ?_;rintro e w7 ⟨QW,hst⟩;clear Z0;cases hX:Kd s f false i a with
          |error ep=>obtain⟨c,p⟩:=ep;have hR2:=HT4.out;rw[hX] at hst hR2;subst hst;exact⟨rfl,zbf (Vx.out.bl.trans QW) hR2.symm⟩
          |ok fj=>
           obtain⟨f',j⟩:=fj;have hR2:=HT4.out;rw[hX] at hst hR2;simp only[] at hR2;obtain⟨rfl,hrd,hk7,vs',hm7⟩:=hst;have hij:i<=j:=(by have:=zcZ hX;omega);have HJ7:=qh (Vx.out.line QW hrd hk7 hm7 h9);have HT5:=qh hR2;clear hR2 HT4 hX hrd hk7 hm7 QW;go_wp2_with fail;refine(zd0 rb fb s j w7 HJ7.out.rd).mono ?_;rintro e wn hst;obtain⟨rfl,hrd,ho⟩:e=.returned (.tuple #[])/\Rd wn rb fb s (ZK s j)/\Off [rb] w7 wn:=hst;have Xc:=qh (HJ7.out.off hrd ho (zcP s j) h9 hB hBw);have hgt:=zcQ (s:=s) (i:=i) (j:=j) hi (hij);clear hrd ho;go_wp2_with fail;go_roundw
           case rel=>exact⟨f',ZK s j,true,q',_,_,_,rfl,by omega,HT5,Xc⟩
           case measure=>
            have e1:=Xc.out.rd.cells.2.1;have e2:=Xc.out.rd.le;rw[e1,p8.out];simp only[intOf];omega
  ·have hne:((i:Int)==(s.size:Int))=true:=by
    have:(i:Int)=(s.size:Int):=(by omega);simpa using this
   have Xk:=qh (λnq=>hJ.out.below (W':=wr.drewN nq) (ZG (qb _ _) nq) h9 hB hBw);obtain⟨g0,g1,g2,g3,g4,g5,g6,g7⟩:=hJ.out.fm.cells;obtain⟨vis,hrw,_⟩:=hJ.out.fm.r;obtain⟨As,cs,hvs⟩:=pJ hrw.o;subst hvs;clear hrw g0 g1 g2 g4 g5 g6 g7;have XG:=hT.out;rw[zg1 hi] at XG;have hi2:i=s.size:=(by omega);cases hrr:f.rows with
   |nil=>
    have hlz:((f.rows.length:Int)==0)=true:=(by rw[hrr];rfl);have hR2:R=.error (180,i):=(by rw[<-XG,hrr,hi2];rfl);have HR2:=qh hR2;clear hR2 XG hrr;go_wp2_with fail;go_quiet (fail)
    have Hwr:=qh (YH rb fb s i _ (Xk.out nq).rd);go_wp2_with fail;refine Hwr.out.mono ?_;rintro e w5 ⟨rfl,hb5⟩;exact⟨rfl,zbf (zeZ (Xk.out nq).bl hb5 hBw) HR2.out⟩
   |cons x l=>
    have hlz:((f.rows.length:Int)==0)=false:=by
     have:¬((f.rows.length:Int)=0):=(by rw[hrr];simp;omega);simpa using this
    have hR2:R=.ok f:=(by rw[<-XG,hrr];rfl);have HR2:=qh hR2;clear hR2 XG hrr;go_wp2_with fail;go_quiet (fail)
    go_wp2_with fail;refine q9 (qI rfl _ _ _) rfl ?_;rw[HR2.out];exact⟨(Xk.out nq).bl,rfl,_,_,_,_,(Xk.out nq).rd,(Xk.out nq).ok,(Xk.out nq).fm⟩
theorem neI (c:Int) (p:Nat) (w:World):(binOp .neq 20 (.iface 133 (.agg #[.int .i64 c,.int .i64 p])) .nilIface).run Tryz.prog w=.ok (.bool true) w:=by kernel_rfl
theorem zi2 (pf ps:Nat) (c:Int) (p:Nat) (x y0 y1:Value) (tf ts:TypeId) (older:List PanicEntry) (w:World) (hf:w.heap[pf]?=some (.cells #[x] tf (0,0))) (hs:w.heap[ps]?=some (.cells #[y0,y1] ts (0,0))) (hne:pf≠ps):
  CallsD Tryz.prog 59 #[.pointer (some ⟨pf,0,none⟩),.pointer (some ⟨ps,0,none⟩)] (.panicking ({v:=zkD c p,recovered:=false}::older)) w λe u' w'=>
   e=.returned (.tuple #[])/\u'=.panicking ({v:=zkD c p,recovered:=true}::older)/\Off [pf,ps] w w'/\w'.heap[pf]?=some (.cells #[.pointer none] tf (0,0))/\w'.heap[ps]?=some (.cells #[.int .i64 c,.int .i64 p] ts (0,0)):=by
 have f0:w.cell? ⟨pf,0,none⟩=some x:=qc _ _ 0 _ _ (0,0) hf;have s0:w.cell? ⟨ps,0,none⟩=some y0:=qc _ _ 0 _ _ (0,0) hs;have s1:w.cell? ⟨ps,1,none⟩=some y1:=qc _ _ 1 _ _ (0,0) hs;have hN:=neI c p;have hA:∀w:World,(Instr.typeAssert (.iface 133 (.agg #[.int .i64 c,.int .i64 p])) 20 133 true).run Tryz.prog w=.ok (.tuple #[.agg #[.int .i64 c,.int .i64 p],.bool true]) w:=λw=>by kernel_rfl
 refine callsD_of_wpS Tryz.func59 rfl λc₀ cs hu=>?_;apply wpS_seq;apply wpS_region;simp[wpOpsS,go_sem,recoverD,hu,Tryz.ntmps59,Exit.thenS,zkD];refine wpS_of_wp ?_;change Code.wp _ _ _ {tmps:=#[.pointer (some ⟨pf,0,none⟩),.pointer (some ⟨ps,0,none⟩),.iface 133 (.agg #[.int .i64 c,.int .i64 p]),undef,undef,.iface 133 (.agg #[.int .i64 c,.int .i64 p]),undef,undef,undef,undef,undef,undef,undef,undef,undef,undef,undef,undef],defers:=[]} _
 go_wp2_with fail;have hpl:pf<w.heap.size:=(qg hf).1;have hsl:ps<w.heap.size:=(qg hs).1;have hbW:Below w.heap.size w (w.alloc (.cells #[.int .i64 c,.int .i64 p] 133)):=(qb _ _).alloc (ql _) _;have hnb:(w.alloc (.cells #[.int .i64 c,.int .i64 p] 133)).heap[w.heap.size]?=some (.cells #[.int .i64 c,.int .i64 p] 133 (0,0)):=qn w _;have zq0:=(hbW.block pf hpl).trans hf;have Ub:=(hbW.block ps hsl).trans hs;generalize w.alloc (.cells #[.int .i64 c,.int .i64 p] 133)=W1 at*;generalize hn:w.heap.size=nb at*;have n1:pf≠nb:=by omega
 have n2:ps≠nb:=by omega
 have n3:nb≠pf:=by omega
 have n4:nb≠ps:=by omega
 have n5:ps≠pf:=by omega
 have g0:W1.cell? ⟨pf,0,none⟩=some x:=qc _ _ 0 _ _ (0,0) zq0;have g1:W1.cell? ⟨ps,0,none⟩=some y0:=qc _ _ 0 _ _ (0,0) Ub;have g2:W1.cell? ⟨ps,1,none⟩=some y1:=qc _ _ 1 _ _ (0,0) Ub;have g3:W1.cell? ⟨nb,0,none⟩=some (.int .i64 c):=qc _ _ 0 _ _ (0,0) hnb;have g4:W1.cell? ⟨nb,1,none⟩=some (.int .i64 p):=qc _ _ 1 _ _ (0,0) hnb;have z0:W1.frozen? ⟨pf,0,none⟩=false:=qf _ _ 0 _ _ zq0;have z1:W1.frozen? ⟨ps,0,none⟩=false:=qf _ _ 0 _ _ Ub;have z2:W1.frozen? ⟨ps,1,none⟩=false:=qf _ _ 1 _ _ Ub;have hfin:Off [pf,ps] w (((W1.setCell ⟨pf,0,none⟩ (.pointer none)).setCell ⟨ps,0,none⟩ (.int .i64 c)).setCell ⟨ps,1,none⟩ (.int .i64 p))/\(((W1.setCell ⟨pf,0,none⟩ (.pointer none)).setCell ⟨ps,0,none⟩ (.int .i64 c)).setCell ⟨ps,1,none⟩ (.int .i64 p)).heap[pf]?=some (.cells #[.pointer none] tf (0,0))/\(((W1.setCell ⟨pf,0,none⟩ (.pointer none)).setCell ⟨ps,0,none⟩ (.int .i64 c)).setCell ⟨ps,1,none⟩ (.int .i64 p)).heap[ps]?=some (.cells #[.int .i64 c,.int .i64 p] ts (0,0)):=by
  have o1:=Off.setCell W1 pf 0 (.pointer none);have o2:=Off.setCell (W1.setCell ⟨pf,0,none⟩ (.pointer none)) ps 0 (.int .i64 c);have o3:=Off.setCell ((W1.setCell ⟨pf,0,none⟩ (.pointer none)).setCell ⟨ps,0,none⟩ (.int .i64 c)) ps 1 (.int .i64 p);have h1:=qs W1 pf 0 _ _ (.pointer none) zq0;have hl1:pf<W1.heap.size:=(qg zq0).1;have hl2:ps<W1.heap.size:=(qg Ub).1;have s1:=(o1.block ps hl2 (by simp;omega)).trans Ub;have s2:=qs _ ps 0 _ _ (.int .i64 c) s1;have s3:=qs _ ps 1 _ _ (.int .i64 p) s2;have p2:=(o2.block pf (qD hl1 o1.size) (by simp;omega)).trans h1;have p3:=(o3.block pf (qD (qD hl1 o1.size) o2.size) (by simp;omega)).trans p2;refine⟨?_,p3,s3⟩;have ob:=Off.of_below hbW (by omega) [pf,ps];exact((ob.trans (o1.mono (λk hk=>.inl (by simp at hk|-;exact .inl hk)))).trans (o2.mono (λk hk=>.inl (by simp at hk|-;exact .inr hk)))).trans (o3.mono (λk hk=>.inl (by simp at hk|-;exact .inr hk)))
 have gT:=qh hfin;clear hfin hbW hnb zq0 Ub hf hs hN hA;go_region;exact⟨rfl,_,rfl,_,qI rfl _ _ _,rfl,rfl,gT.out.1.trans (Off.drew _ _),gT.out.2.1,gT.out.2.2⟩
theorem zlg (pf ps:Nat) (w:World):
  CallsD Tryz.prog 59 #[.pointer (some ⟨pf,0,none⟩),.pointer (some ⟨ps,0,none⟩)] .returning w λe u' w'=>e=.returned (.tuple #[])/\u'=.returning/\w'=w:=by
 have hN:∀w:World,(binOp .neq 20 .nilIface .nilIface).run Tryz.prog w=.ok (.bool false) w:=λw=>by kernel_rfl
 refine callsD_of_wpS Tryz.func59 rfl λc₀ cs hu=>?_;apply wpS_seq;apply wpS_region;simp[wpOpsS,go_sem,recoverD,hu,Tryz.ntmps59,Exit.thenS];refine wpS_of_wp ?_;change Code.wp _ _ _ {tmps:=#[.pointer (some ⟨pf,0,none⟩),.pointer (some ⟨ps,0,none⟩),.nilIface,undef,undef,.nilIface,undef,undef,undef,undef,undef,undef,undef,undef,undef,undef,undef,undef],defers:=[]} _
 go_wp2_with fail;refine⟨rfl,.returning,?_,_,qI rfl _ _ _,rfl,rfl,rfl⟩;cases c₀;simp_all
theorem pL.zq1 {w w':World} {B fb:Nat} {f:Fm} {vl vm vs:Value} {L:List Nat} (h:pL w B fb f vl vm vs) (ho:Off L w w') (hl:∀k∈L,k<B):pL w' B fb f vl vm vs:=by
 have own:∀{e z n:Nat} {v:Value} {xs:List Value},w.ownsRow B e z v n xs->w'.ownsRow B e z v n xs:=λ{e z n v xs} hq=>ho.own hq (λk hk hm=>by have:=(hq.lt k hk).1;have:=hl k hm;omega);obtain⟨cs,hm⟩:=h.m;obtain⟨vis,hr,hi⟩:=h.r;have hfB:=h.hB;refine⟨(ho.block fb h.lt (λhm=>by have:=hl _ hm;omega)).trans h.x,h.hB,own h.l,⟨cs,hm.n,own hm.o,λk hk=>?_⟩,⟨vis,⟨hr.n,own hr.o,hr.it⟩,λk hk=>?_⟩⟩
 ·obtain⟨a,vs,b⟩:=hm.m k hk;exact⟨a,vs,b.vl,own b.gO,λj hj=>own (b.gR j hj),own b.ends,own b.gS,b.apart⟩
 ·obtain⟨pD,h2⟩:=hi k hk;exact⟨pD,h2.n,own h2.o,λj hj=>own (h2.h j hj)⟩
theorem pL.mono {w:World} {B C fb:Nat} {f:Fm} {vl vm vs:Value} (h:pL w B fb f vl vm vs) (hC:C<=B):pL w C fb f vl vm vs:=by
 obtain⟨cs,hm⟩:=h.m;obtain⟨vis,hr,hi⟩:=h.r;refine⟨h.x,qm hC h.hB,Jc h.l hC,⟨cs,hm.n,Jc hm.o hC,λk hk=>?_⟩,⟨vis,⟨hr.n,Jc hr.o hC,hr.it⟩,λk hk=>?_⟩⟩
 ·obtain⟨a,vs,b⟩:=hm.m k hk;exact⟨a,vs,OM.mono b hC⟩
 ·obtain⟨pD,h2⟩:=hi k hk;exact⟨pD,h2.mono hC⟩
def zmz (s:ByteArray) (w:World) (e:Ending) (w':World):Prop:=Below w.heap.size w w'/\
 match Kz s with
 |.error (c,p)=>e=.returned (.tuple #[.pointer none,.agg #[.int .i64 c,.int .i64 p]])
 |.ok f=>∃fb vl vm vs,e=.returned (.tuple #[.pointer (some ⟨fb,0,none⟩),.agg #[.int .i64 0,.int .i64 0]])/\pL w' w.heap.size fb f vl vm vs/\pq f s.size
end Go.Proofs.YtgklikkddckgbaaGreatDoor.Mo


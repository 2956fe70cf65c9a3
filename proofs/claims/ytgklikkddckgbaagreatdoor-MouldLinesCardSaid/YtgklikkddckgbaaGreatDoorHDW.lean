import Derived.Test.YtgklikkddckgbaaGreatDoorHDV
/- Lemmas of the claim. -/
set_option linter.all false
namespace Go.Proofs.YtgklikkddckgbaaGreatDoor.Mo
open Go.RowKit
def mK4 (s:ByteArray) (f:Fm) (c:UInt8) (b:Nat):Except (Int×Nat) (Fm×Nat):=match zbd ⟨(cutB s b (zap s b)).toArray⟩ with
 |.error (e,p)=>.error (e,b+p)
 |.ok m=>.ok ({f with letters:=f.letters++[c],metres:=f.metres++[m]},zap s b)
def mK3 (s:ByteArray) (f:Fm) (c:UInt8) (i:Nat):Except (Int×Nat) (Fm×Nat):=match zao (zal s [32] i) with
 |.error e=>.error e
 |.ok b=>mK4 s f c b
def mK2 (s:ByteArray) (f:Fm) (a:Nat):Except (Int×Nat) (Fm×Nat):=if 0≤Lib.indexByte f.letters (zaa s a) then .error (181,a) else mK3 s f (zaa s a) (a+1)
def mK1 (s:ByteArray) (f:Fm) (a:Nat):Except (Int×Nat) (Fm×Nat):=if¬inB s a 97 122 then .error (180,a) else mK2 s f a
theorem zf6 {s:ByteArray} {f:Fm} {i:Nat}:zb9 s f i=match zao (zal s METRE i) with|.error e=>.error e|.ok a=>mK1 s f a:=by
 unfold zb9;rfl
theorem RStep2.le {w w':World} {rb:Nat} {s:ByteArray} {F F':RF} {wh no' wh':Int} {i j:Nat} {r:Except (Int×Nat) Nat} (h:RStep2 rb s 0 wh F w i r w') (hr:RR w' rb s j no' wh' F'):j≤s.size:=by
 have h1:=h.2.1 rfl;have h2:=hr.c1;cases r with
 |error e=>
  obtain⟨c,p⟩:=e;obtain⟨j',hj,hr'⟩:=h1;rw[hr'.c1] at h2;simp at h2;omega
 |ok a=>
  obtain⟨ha,hr'⟩:=h1;rw[hr'.c1] at h2;simp at h2;omega
theorem RR.set5 {w:World} {rb:Nat} {s:ByteArray} {i:Nat} {no wh:Int} {F:RF} (h:RR w rb s i no wh F) (v:Value):RR (w.setCell ⟨rb,5,none⟩ v) rb s i no wh {F with vl:=v}:=⟨qs w rb 5 _ _ v h.r,h.le,h.sz,h.ok⟩
theorem RR.set6 {w:World} {rb:Nat} {s:ByteArray} {i:Nat} {no wh:Int} {F:RF} (h:RR w rb s i no wh F) (v:Value):RR (w.setCell ⟨rb,6,none⟩ v) rb s i no wh {F with vm:=v}:=⟨qs w rb 6 _ _ v h.r,h.le,h.sz,h.ok⟩
theorem RFM.letter {W w8:World} {B rb:Nat} {s:ByteArray} {f:Fm} {F:RF} {j cl:Nat} {no wh:Int} {Al:Option Addr} {v8:Value} {c:UInt8} (hf:RFM W B f F) (hr:RR W rb s j no wh F) (hBr:B≤rb) (hv:F.vl=.slice Al f.letters.length cl)
  (hown:w8.ownsRow B 5 1 v8 (f.letters.length+1) (byC f.letters++[.int .u8 c.toNat])) (hg:W.grownBy w8 (Value.slice Al f.letters.length cl).ownBlock):
  (RR (w8.setCell ⟨rb,5,none⟩ v8) rb s j no wh {F with vl:=v8}∧RFM (w8.setCell ⟨rb,5,none⟩ v8) B {f with letters:=f.letters++[c]} {F with vl:=v8}∧Below B W (w8.setCell ⟨rb,5,none⟩ v8)∧Off F.vl.ownBlock.toList W w8∧Off [rb] w8 (w8.setCell ⟨rb,5,none⟩ v8)∧TyAt W F.vl.ownBlock.toList [5]∧TyAt w8 [rb] [115])∧w8.cell? ⟨rb,5,none⟩=some (.slice Al f.letters.length cl)∧w8.frozen? ⟨rb,5,none⟩=false:=by
 rw[←hv] at hg;have hog:Off F.vl.ownBlock.toList W w8:=Off.grown hg (fun k hk=>by rw[hk];simp);have ht:TyAt W F.vl.ownBlock.toList [5]:=zea hf.l;have hr8:=hr.off hog (zcO hf.l hr.r (by decide));have hos:=Off.setCell w8 rb 5 v8;have hts:TyAt w8 [rb] [115]:=TyAt.one hr8.r;obtain⟨cs,hm⟩:=hf.m;obtain⟨vis,hrm⟩:=hf.r;have h1:=hr.lt;have h2:=hr8.lt;refine⟨⟨hr8.set5 v8,⟨hf.nm,?_,⟨cs,(hm.off hog ht (by decide) (by decide) (by decide) (by decide)).off hos hts (by decide) (by decide) (by decide) (by decide)⟩,⟨vis,(hrm.off hog ht (by decide) (by decide) (by decide)).off hos hts (by decide) (by decide) (by decide)⟩,hf.rd,hf.a,hf.b,hf.c⟩,
  (hog.below (by omega) (fun k hk=>(zfs hf.l k hk).1)).trans (hos.below (by omega) (fun k hk=>by simp at hk;omega)),hog,hos,ht,hts⟩,?_,qf _ _ 5 _ _ hr8.r⟩
 ·have e:byC (f.letters++[c])=byC f.letters++[.int .u8 c.toNat]:=by simp[byC]
  show World.ownsRow _ B 5 1 v8 (f.letters++[c]).length (byC (f.letters++[c]));rw[e,List.length_append,List.length_singleton];exact hos.ownT hown hts (by decide)
 ·rw[←hv];exact qc _ _ 5 _ _ (0,0) hr8.r
theorem RFM.metre {W w8:World} {B rb:Nat} {s:ByteArray} {f:Fm} {F:RF} {j cm:Nat} {no wh:Int} {Am:Option Addr} {v8 vf ve vb:Value} {m:Met} {vs2:List Value} {cs:List (Value×Value×Value)} (hf:RFM W B f F) (hr:RR W rb s j no wh F) (hBr:B≤rb) (hv:F.vm=.slice Am f.metres.length cm) (hcs:MetsM W B F.vm f.metres cs)
  (hown:w8.ownsRow B 79 3 v8 (f.metres.length+1) (metC cs++[vf,ve,vb])) (hg:W.grownBy w8 (Value.slice Am f.metres.length cm).ownBlock):
  (RR (w8.setCell ⟨rb,6,none⟩ v8) rb s j no wh {F with vm:=v8}∧(Sized m∧OM W B m vf ve vb vs2→RFM (w8.setCell ⟨rb,6,none⟩ v8) B {f with metres:=f.metres++[m]} {F with vm:=v8})∧Below B W (w8.setCell ⟨rb,6,none⟩ v8))∧w8.cell? ⟨rb,6,none⟩=some (.slice Am f.metres.length cm)∧w8.frozen? ⟨rb,6,none⟩=false:=by
 rw[←hv] at hg;have hog:Off F.vm.ownBlock.toList W w8:=Off.grown hg (fun k hk=>by rw[hk];simp);have ht:TyAt W F.vm.ownBlock.toList [79]:=zea hcs.o;have hr8:=hr.off hog (zcO hcs.o hr.r (by decide));have hos:=Off.setCell w8 rb 6 v8;have hts:TyAt w8 [rb] [115]:=TyAt.one hr8.r;obtain⟨vis,hrm⟩:=hf.r;have h1:=hr.lt;have h2:=hr8.lt;refine⟨⟨hr8.set6 v8,fun⟨hz,hom⟩=>⟨hf.nm,hos.ownT (hog.ownT hf.l ht (by decide)) hts (by decide),⟨cs++[(vf,ve,vb)],by simp[hcs.n],?_,fun k hk=>?_⟩,⟨vis,(hrm.off hog ht (by decide) (by decide) (by decide)).off hos hts (by decide) (by decide) (by decide)⟩,hf.rd,hf.a,hf.b,hf.c⟩,
  (hog.below (by omega) (fun k hk=>(zfs hcs.o k hk).1)).trans (hos.below (by omega) (fun k hk=>by simp at hk;omega))⟩,?_,qf _ _ 6 _ _ hr8.r⟩
 ·show World.ownsRow _ B 79 3 v8 (f.metres++[m]).length _;rw[zeH,List.length_append,List.length_singleton];exact hos.ownT hown hts (by decide)
 ·have keep:∀{m:Met} {a b c:Value} {vs:List Value},OM W B m a b c vs→OM (w8.setCell ⟨rb,6,none⟩ v8) B m a b c vs:=fun hq=>
   OM.offT (OM.offT hq hog ht (by decide) (by decide) (by decide)) hos hts (by decide) (by decide) (by decide)
  have hn:=hcs.n;by_cases hkl:k<f.metres.length
  ·have e1:(f.metres++[m]).getD k Met0=f.metres.getD k Met0:=zaR _ _ _ _ hkl;have e2:(cs++[(vf,ve,vb)]).getD k default=cs.getD k default:=zaR _ _ _ _ (by omega);simp only;rw[e1,e2];obtain⟨hz',vs,ho'⟩:=hcs.m k hkl;exact⟨hz',vs,keep ho'⟩
  ·obtain rfl:k=f.metres.length:=by simp at hk;omega
   have e1:(f.metres++[m]).getD f.metres.length Met0=m:=zaM _ _ _;have e2:(cs++[(vf,ve,vb)]).getD f.metres.length default=(vf,ve,vb):=(by rw[←hn];exact zaM _ _ _);simp only;rw[e1,e2];exact⟨hz,vs2,keep hom⟩
 ·rw[←hv];exact qc _ _ 6 _ _ (0,0) hr8.r
theorem ReadOk.any {T:ByteArray} {w w':World} {e:Ending} (h:ReadOk T w e w') (hT:T.size≤65536):Below w.heap.size w w'∧∃(A1 A2 A3:Option Addr) (n1 c1 n2 c2 n3 c3:Nat) (ec:Int) (ep:Nat),e=.returned (.tuple #[.agg #[.slice A1 n1 c1,.slice A2 n2 c2,.slice A3 n3 c3],.agg #[.int .i64 ec,.int .i64 ep]])∧ep≤T.size∧
  ((ec≠0∧zbd T=.error (ec,ep))∨(ec=0∧ep=0∧∃m vs,zbd T=.ok m∧Sized m∧OM w' w.heap.size m (.slice A1 n1 c1) (.slice A2 n2 c2) (.slice A3 n3 c3) vs)):=by
 obtain⟨hb,h⟩:=h;refine⟨hb,?_⟩;cases hr:zbd T with
 |error cp=>
  obtain⟨c,p⟩:=cp;rw[hr] at h;obtain⟨h1,h2⟩:=zf2 hT hr;exact⟨none,none,none,0,0,0,0,0,0,c,p,h,h2,.inl ⟨h1,rfl⟩⟩
 |ok m=>
  rw[hr] at h;obtain⟨hz,vf,ve,vb,vs,he,hom⟩:=h;obtain⟨A1,c1,e1⟩:=zab hom.feet;obtain⟨A2,c2,e2⟩:=zab hom.ends;obtain⟨A3,c3,e3⟩:=zab hom.brks;subst e1;subst e2;subst e3;exact⟨A1,A2,A3,_,c1,_,c2,_,c3,0,0,he,Nat.zero_le _,.inr ⟨rfl,rfl,m,vs,rfl,hz,hom⟩⟩
def MtJ (w wx:World) (B rb:Nat) (s:ByteArray) (f:Fm) (F:RF) (R:Except (Int×Nat) (Fm×Nat)) (c:UInt8) (mb:Nat) (vf ve vb:Value):Prop:=
 ∃(j:Nat) (no wh:Int),RR wx rb s j no wh F∧RFM wx B f F∧Below B w wx∧wx.heap[mb]?=some (.cells #[vf,ve,vb] 79 (0,0))∧
  (no=0→∃m vs,R=.ok ({f with letters:=f.letters++[c],metres:=f.metres++[m]},j)∧j≤s.size∧Sized m∧OM wx B m vf ve vb vs)∧(no≠0→∃p:Nat,wh=p∧R=.error (no,p))
def MtK (W wx:World) (B rb:Nat) (s:ByteArray) (f:Fm) (c:UInt8) (j:Nat) (no wh:Int) (mb:Nat) (vf ve vb:Value):Prop:=
 ∃F1,RR wx rb s j no wh F1∧RFM wx B {f with letters:=f.letters++[c]} F1∧Below B W wx∧wx.heap[mb]?=some (.cells #[vf,ve,vb] 79 (0,0))∧(∀m vs,OM W B m vf ve vb vs→OM wx B m vf ve vb vs)
set_option maxRecDepth 100000 in
set_option maxHeartbeats 4000000 in
theorem zhO (B rb:Nat) (s:ByteArray) (f:Fm) (F:RF) (i i0:Nat) (w:World) (h:RR w rb s i 0 0 F) (hv:Vars w) (h9:9≤B) (hf:RFM w B f F) (hk:FmOk f i0) (hi0:i0≤i) (hi:i<s.size) (hB:B≤w.heap.size) (hBr:B≤rb)
  (h1:isB s i 109=true) (h2:f.rows=[]):
  Calls Tryz.prog 46 #[.pointer (some ⟨rb,0,none⟩),.bool true] w (RRow B rb s w (za3 s f true i)):=by
 have hsz:=h.sz;have r1:=h.c1;have hR0:za3 s f true i=match zao (zal s METRE i) with|.error e=>.error e|.ok a=>mK1 s f a:=by
  have h3:za3 s f true i=zb9 s f i:=by
   unfold za3;rw[if_neg (by simp),if_pos (by rw[h1,h2];rfl)]
  exact h3.trans zf6
 generalize za3 s f true i=R at*;have hb0:byC0 0 s i=zaa s i:=by unfold byC0;rw[if_pos rfl]
 have Hc0:=qh (rc_q rb s i 0 0 F w h);rw[hb0] at Hc0;have Hms:=qh (fun n=>zbA rb s ⟨#[109,101,116,114,101,32]⟩ i 0 0 F (w.drewN n) (h.drewN n) (fun _=>by omega) (by decide) (by decide));rw[ziS] at Hms;have hib:∀c:Int,isB s i c=(((zaa s i).toNat:Int)==c):=fun c=>by rw[zaA hi,zar hi]
 rw[hib] at h1;obtain⟨Ar,cr,hvr⟩:=hf.len;have f7:w.cell? ⟨rb,7,none⟩=some (.slice Ar 0 cr):=by rw[h.form.2.2.2.1,hvr,h2];rfl
 have HR0:=qh hR0;have H:=qh h;have Hv:=qh hv;have Hf:=qh hf;have Hk:=qh hk;have H2:=qh h2;have hsp0:∀k (hk:k<(⟨#[32]⟩:ByteArray).size),(⟨#[32]⟩:ByteArray)[k]≠0:=by decide
 have Hsp0:=qh hsp0;generalize zaa s i=bi at*;clear h hf hk hR0 hb0 hib h2 hv hvr hsp0;go_enter Tryz.func46,Tryz.ntmps46;go_wp2_with fail;refine Hc0.out.mono ?_;rintro e w2 ⟨rfl,n2,rfl⟩;go_wp2_with fail;refine(Hms.out _).mono ?_;rintro e w3 ⟨rfl,hst⟩;have hsg:Sg (w.drewN n2) rb s F R (fun i'=>match zao (zal s METRE i') with|.error e=>.error e|.ok a=>mK1 s f a) i 0 0:=⟨H.out.drewN _,fun _=>⟨HR0.out,by omega⟩,fun e=>absurd rfl e⟩;have ho3:Off [rb] w w3:=(Off.drewN _ w _).trans hst.1;obtain⟨j3,no3,wh3,hs3⟩:=hsg.must hst;have hj3:j3≤s.size:=hst.le hs3.rr;have Hs3:=qh hs3;have Ho3:=qh ho3;have Hc3:=qh (rc_q rb s j3 no3 wh3 F w3 hs3.rr);obtain⟨bc,hbc⟩:∃bc:UInt8,byC0 no3 s j3=bc:=⟨_,rfl⟩;rw[hbc] at Hc3;have Hbc:=qh hbc;clear hst hsg ho3 hs3 r1 f7 hbc;go_wp2_with fail;refine Hc3.out.mono ?_;rintro e w4 ⟨rfl,n4,rfl⟩;have HS4:=qh (Hs3.out.rr' (Hs3.out.rr.drewN n4));have HO4:=qh (Ho3.out.trans (Off.drewN [rb] w3 n4));generalize w3.drewN n4=W4 at*;go_upto_region 9 with fail
 go_cut [60] from 55 to 60 (fun v60 wx=>v60=.bool (decide ((bc.toNat:Int)<97)||decide (122<(bc.toNat:Int)))∧wx=W4)
 case first=>
  by_cases c1:(bc.toNat:Int)<97
  ·have d1:decide ((bc.toNat:Int)<97)=true:=qt c1;go_wp2_with fail;go_meet
   exact⟨by rw[d1];rfl,rfl⟩
  ·have d1:decide ((bc.toNat:Int)<97)=false:=qd c1;by_cases c2:122<(bc.toNat:Int)
   ·have d2:decide (122<(bc.toNat:Int))=true:=qt c2;go_wp2_with fail;go_meet
    exact⟨by rw[d1,d2];rfl,rfl⟩
   ·have d2:decide (122<(bc.toNat:Int))=false:=qd c2;go_wp2_with fail;go_meet
    exact⟨by rw[d1,d2];rfl,rfl⟩
 case rest=>
  obtain⟨rfl,hwn⟩:=hcut;subst hwn;obtain⟨W5,hW5⟩:∃W5:World,W5=wc:=⟨_,rfl⟩;subst hW5;obtain⟨bb,hbb⟩:∃bb:Bool,(decide ((bc.toNat:Int)<97)||decide (122<(bc.toNat:Int)))=bb:=⟨_,rfl⟩;have Hbb:=qh hbb;rw[hbb];clear hbb;go_upto_if 60 with fail
  go_cut [62] from 60 to 62 (fun v62 wx=>Hid (∃no wh,Sg wx rb s F R (mK2 s f) j3 no wh∧Off [rb] w wx∧(no=0→no3=0∧bc=zaa s j3∧j3<s.size∧97≤bc.toNat∧bc.toNat≤122)))
  case first=>
   cases bb with
   |true=>
    have Hbad:=qh (zbu rb s j3 no3 wh3 F W5 HS4.out.rr);go_wp2_with fail;refine Hbad.out.mono ?_;rintro e w6 ⟨rfl,hr6,ho6⟩;have hfin:∃no wh,Sg w6 rb s F R (mK2 s f) j3 no wh∧Off [rb] w w6∧(no=0→no3=0∧bc=zaa s j3∧j3<s.size∧97≤bc.toNat∧bc.toNat≤122):=by
     refine⟨_,_,⟨hr6,fun e=>?_,fun _=>?_⟩,HO4.out.trans ho6,fun e=>?_⟩
     ·unfold wrN at e;split at e<;>omega
     ·by_cases h0:no3=0
      ·unfold wrN wrP;rw[if_pos h0,if_pos h0];refine⟨j3,rfl,?_⟩;have:=(HS4.out.ok h0).1;unfold mK1 at this;have hb:bc=zaa s j3:=(by rw[←Hbc.out];unfold byC0;rw[if_pos h0]);rw[if_pos (by
        have h8:=Hbb.out;rw[hb] at h8;by_cases hlt:j3<s.size
        ·rw[zar hlt] at h8;rw[zbw hlt];simp only[Bool.or_eq_true,decide_eq_true_eq] at h8;simp only[Bool.and_eq_true,decide_eq_true_eq,not_and];omega
        ·rw[zcF hlt];simp)] at this
       exact this
      ·unfold wrN wrP;rw[if_neg h0,if_neg h0];exact HS4.out.er h0
     ·unfold wrN at e;split at e<;>omega
    have Hfin:=qh hfin;clear hr6 ho6 hfin;go_wp2_with fail;go_meet
    exact Hfin
   |false=>
    have hfin:∃no wh,Sg W5 rb s F R (mK2 s f) j3 no wh∧Off [rb] w W5∧(no=0→no3=0∧bc=zaa s j3∧j3<s.size∧97≤bc.toNat∧bc.toNat≤122):=by
     have h8:=Hbb.out;simp only[Bool.or_eq_false_iff,decide_eq_false_iff_not] at h8;refine⟨no3,wh3,⟨HS4.out.rr,fun h0=>?_,HS4.out.er⟩,HO4.out,fun h0=>?_⟩
     ·have:=(HS4.out.ok h0);refine⟨?_,this.2⟩;rw[this.1];unfold mK1;have hb:bc=zaa s j3:=(by rw[←Hbc.out];unfold byC0;rw[if_pos h0]);rw[if_neg (by
       rw[hb] at h8;by_cases hlt:j3<s.size
       ·rw[zar hlt] at h8;rw[zbw hlt];simp only[Bool.and_eq_true,decide_eq_true_eq,Classical.not_not];omega
       ·rw[zbe hlt] at h8;have:((0:UInt8).toNat:Int)=0:=rfl;omega)]
     ·have hb:bc=zaa s j3:=(by rw[←Hbc.out];unfold byC0;rw[if_pos h0]);refine⟨h0,hb,?_,by omega,by omega⟩;by_cases hlt:j3<s.size
      ·exact hlt
      ·rw[hb,zbe hlt] at h8;have:((0:UInt8).toNat:Int)=0:=rfl;omega
    have Hfin:=qh hfin;clear hfin;go_wp2_with fail;go_meet
    exact Hfin
  case rest=>
   obtain⟨no6,wh6,hs6,ho6,he6⟩:=hcut.out;obtain⟨W6,hW6⟩:∃W6:World,W6=wc:=⟨_,rfl⟩;subst hW6;have Hs6:=qh hs6;have Ho6:=qh ho6;have He6:=qh he6;have hf6:=Hf.out.offR H.out ho6;have Hme:=qh (zfS (zd6 rb B s j3 no6 wh6 F f.letters bc W6 hs6.rr hf6.l (by have:=Hk.out.ll.2;omega)));have Hw6:=qh (zaO rb s j3 no6 wh6 F 181 (j3:Int) W6 hs6.rr (by decide));have r1:=hs6.rr.c1;clear hcut hs6 ho6 he6 hf6 HS4 HO4 Hbb Hbc Hs3 Ho3 Hc3;go_wp2_with fail;refine Hme.out.mono ?_;rintro e w7 ⟨rfl,rfl⟩;go_upto_if 66 with fail
   go_cut [72] from 66 to 72 (fun v72 wx=>Hid (∃no wh,Sg wx rb s F R (fun a=>mK3 s f bc (a+1)) j3 no wh∧Off [rb] w wx∧(no=0→j3<s.size∧97≤bc.toNat∧bc.toNat≤122∧Lib.indexByte f.letters bc<0)))
   case first=>
    by_cases hix:0≤Lib.indexByte f.letters bc
    ·have d1:decide (0≤Lib.indexByte f.letters bc)=true:=qt hix;go_wp2_with fail;refine Hw6.out.mono ?_;rintro e w7 ⟨rfl,hr7,ho7⟩;have hfin:∃no wh,Sg w7 rb s F R (fun a=>mK3 s f bc (a+1)) j3 no wh∧Off [rb] w w7∧(no=0→j3<s.size∧97≤bc.toNat∧bc.toNat≤122∧Lib.indexByte f.letters bc<0):=by
      refine⟨_,_,⟨hr7,fun e=>?_,fun _=>?_⟩,Ho6.out.trans ho7,fun e=>?_⟩
      ·unfold wrN at e;split at e<;>omega
      ·by_cases h0:no6=0
       ·unfold wrN wrP;rw[if_pos h0,if_pos h0];refine⟨j3,rfl,?_⟩;have:=(Hs6.out.ok h0).1;unfold mK2 at this;rw[←(He6.out h0).2.1,if_pos hix] at this;exact this
       ·unfold wrN wrP;rw[if_neg h0,if_neg h0];exact Hs6.out.er h0
      ·unfold wrN at e;split at e<;>omega
     have Hfin:=qh hfin;clear hr7 ho7 hfin;go_wp2_with fail;go_meet
     exact Hfin
    ·have d1:decide (0≤Lib.indexByte f.letters bc)=false:=qd hix;have Hfin:Hid (∃no wh,Sg W6 rb s F R (fun a=>mK3 s f bc (a+1)) j3 no wh∧Off [rb] w W6∧(no=0→j3<s.size∧97≤bc.toNat∧bc.toNat≤122∧Lib.indexByte f.letters bc<0)):=qh
      ⟨no6,wh6,⟨Hs6.out.rr,fun h0=>⟨by rw[(Hs6.out.ok h0).1];unfold mK2;rw[←(He6.out h0).2.1,if_neg hix],(Hs6.out.ok h0).2⟩,Hs6.out.er⟩,Ho6.out,fun h0=>by have:=He6.out h0;omega⟩
     go_wp2_with fail;go_meet
     exact Hfin
   case rest=>
    obtain⟨no8,wh8,hs8,ho8,he8⟩:=hcut.out;obtain⟨W8,hW8⟩:∃W8:World,W8=wc:=⟨_,rfl⟩;subst hW8;have hc1:((j3+1:Nat):Int)=(j3:Int)+1:=(by omega);have hw1:IntKind.i64.wrap ((j3:Int)+1)=(j3:Int)+1:=qi _ (by omega);have r1:=hs8.rr.c1;have z1:=hs8.rr.z 1;have hr9:RR (W8.setCell ⟨rb,1,none⟩ (.int .i64 ((j3:Int)+1))) rb s (j3+1) no8 wh8 F:=by
     rw[←hc1];exact hs8.rr.to (by omega)
    have HS9:Hid (Sg (W8.setCell ⟨rb,1,none⟩ (.int .i64 ((j3:Int)+1))) rb s F R (mK3 s f bc) (j3+1) no8 wh8):=qh ⟨hr9,fun h0=>⟨(hs8.ok h0).1,by have:=(he8 h0).1;omega⟩,hs8.er⟩;have HO9:Hid (Off [rb] w (W8.setCell ⟨rb,1,none⟩ (.int .i64 ((j3:Int)+1)))):=qh (ho8.trans (Off.setCell W8 rb 1 _));have He8:=qh he8;have hm9:=zbA rb s ⟨#[32]⟩ (j3+1) no8 wh8 F _ hr9 (fun h0=>by have:=(he8 h0).1;omega) (by decide) Hsp0.out;rw[zhC] at hm9;have Hm9:=qh hm9;clear hcut hs8 ho8 he8 hr9 hc1 hm9 Hs6 Ho6 He6 Hme Hw6;go_wp2_with fail;refine Hm9.out.mono ?_;rintro e w10 ⟨rfl,hst⟩;obtain⟨j10,no10,wh10,hs10⟩:=Sg.must (k:=mK4 s f bc) (t:=[32]) HS9.out hst;have HS10:=qh hs10;have HO10:=qh (HO9.out.trans hst.1);have hE10:no10=0→97≤bc.toNat∧bc.toNat≤122∧Lib.indexByte f.letters bc<0:=fun h0=>by
     by_cases h4:no8=0
     ·have:=He8.out h4;exact this.2
     ·obtain⟨j',_,hr'⟩:=hst.2.2 h4;have h9:=hs10.rr.c2;rw[hr'.c2,h0] at h9;simp at h9;exact absurd h9 h4
    have r1:=hs10.rr.c1;have r2:=hs10.rr.c2;clear hst hs10 hE10;go_upto_if 90 with fail
    go_cut [7] from 90 to 92 (fun v7 wx=>∃T:ByteArray,v7=.string T∧Hid (T.size≤65536∧∃j,RR wx rb s j no10 wh10 F∧Off [rb] w wx∧(no10=0→j=zap s j10∧T=⟨(cutB s j10 (zap s j10)).toArray⟩∧j≤s.size)))
    case first=>
     by_cases h0:no10=0
     ·have q0:(no10==0)=true:=(by simpa using h0);have hjs:=(HS10.out.ok h0).2;have hrest:=zcL rb s j10 no10 wh10 F w10 HS10.out.rr hjs;rw[if_pos h0] at hrest;have Hrest:=qh hrest;have Hj:=qh hjs;have H0:=qh h0;clear h0 hjs hrest;go_wp2_with fail;refine Hrest.out.mono ?_;rintro e w11 ⟨ho11,rfl,hr11⟩;have Hfin:Hid ((s.extract j10 (zap s j10)).size≤65536∧∃j,RR w11 rb s j no10 wh10 F∧Off [rb] w w11∧(no10=0→j=zap s j10∧s.extract j10 (zap s j10)=⟨(cutB s j10 (zap s j10)).toArray⟩∧j≤s.size)):=qh ⟨by rw[ByteArray.size_extract];omega,zap s j10,hr11,HO10.out.trans ho11,fun _=>⟨rfl,zhA _ _ _,(zbs j10 Hj.out).2⟩⟩;clear ho11 hr11;go_wp2_with fail;go_meet
      exact⟨_,rfl,Hfin⟩
     ·have q0:(no10==0)=false:=(by simpa using h0);have Hfin:Hid ((⟨#[]⟩:ByteArray).size≤65536∧∃j,RR w10 rb s j no10 wh10 F∧Off [rb] w w10∧(no10=0→j=zap s j10∧(⟨#[]⟩:ByteArray)=⟨(cutB s j10 (zap s j10)).toArray⟩∧j≤s.size)):=qh ⟨by decide,j10,HS10.out.rr,HO10.out,fun e=>absurd e h0⟩;clear h0;go_wp2_with fail;go_meet
      exact⟨_,rfl,Hfin⟩
    case rest=>
     obtain⟨T,rfl,hT⟩:=hcut;obtain⟨W11,hW11⟩:∃W11:World,W11=wc:=⟨_,rfl⟩;subst hW11;obtain⟨hTs,j11,hr11,ho11,he11⟩:=hT.out;have HTs:=qh hTs;have Hr11:=qh hr11;have Ho11:=qh ho11;have He11:=qh he11;have Hrd:=qh (zhN T W11 (Vars.off Hv.out ho11 (fun k hk=>by simp at hk;have:9≤B:=h9;omega)));clear hT hTs hr11 ho11 he11 r1 r2;go_wp2_with fail;refine Hrd.out.mono ?_;intro e w12 h12;obtain⟨hb12,A1,A2,A3,n1,c1,n2',c2,n3,c3,ec,ep,rfl,hep,hrd⟩:=ReadOk.any h12 HTs.out;have Hb12:=qh hb12;have Hrd2:=qh hrd;clear h12 hb12 hrd;go_upto_region 20 with fail
     have Hone:Hid ((Value.slice A1 n1 c1).oneCell'=true∧(Value.slice A2 n2' c2).oneCell'=true∧(Value.slice A3 n3 c3).oneCell'=true):=qh ⟨rfl,rfl,rfl⟩;generalize Value.slice A1 n1 c1=vf at*;generalize Value.slice A2 n2' c2=ve at*;generalize Value.slice A3 n3 c3=vb at*;obtain⟨mb,hmb⟩:∃mb:Nat,w12.heap.size=mb:=⟨_,rfl⟩;have hm13:((w12.alloc (.cells #[vf,ve,vb] 79)).alloc (.cells #[.int .i64 ec,.int .i64 ep] 87)).heap[mb]?=some (.cells #[vf,ve,vb] 79 (0,0)):=(by rw[←hmb];exact(qa _ _ _ (by simp)).trans (qn w12 _));have hs13:((w12.alloc (.cells #[vf,ve,vb] 79)).alloc (.cells #[.int .i64 ec,.int .i64 ep] 87)).heap[mb+1]?=some (.cells #[.int .i64 ec,.int .i64 ep] 87 (0,0)):=by
      have:=qn (w12.alloc (.cells #[vf,ve,vb] 79)) (.cells #[.int .i64 ec,.int .i64 ep] 87);rw[World.size_alloc,hmb] at this;exact this
     have hb13:Below W11.heap.size W11 ((w12.alloc (.cells #[vf,ve,vb] 79)).alloc (.cells #[.int .i64 ec,.int .i64 ep] 87)):=(Hb12.out.alloc Hb12.out.size _).alloc (by simp;have:=Hb12.out.size;omega) _;have ho13:Off [] w12 ((w12.alloc (.cells #[vf,ve,vb] 79)).alloc (.cells #[.int .i64 ec,.int .i64 ep] 87)):=(Off.alloc _ w12 _).trans (Off.alloc _ _ _);rw[hmb];have hmbr:W11.heap.size≤mb:=(by have:=Hb12.out.size;omega);generalize (w12.alloc (.cells #[vf,ve,vb] 79)).alloc (.cells #[.int .i64 ec,.int .i64 ep] 87)=W13 at*;clear hmb;have hr13:=Hr11.out.below hb13;have s0:W13.cell? ⟨mb+1,0,none⟩=some (.int .i64 ec):=qc _ _ 0 _ _ (0,0) hs13;have s1:W13.cell? ⟨mb+1,1,none⟩=some (.int .i64 ep):=qc _ _ 1 _ _ (0,0) hs13;have Hr13:=qh hr13;have Hm13:=qh hm13;have hbw13:Below B w W13:=(Ho11.out.below hB (fun k hk=>by simp at hk;omega)).trans ((Off.of_below hb13 (ql _) []).below (qm hB Ho11.out.size) (fun _ h=>by cases h));have Hbw13:=qh hbw13;have hmr:mb≠rb:=(by have:=Hr11.out.lt;omega);have Hf13:=qh ((Hf.out.offR H.out Ho11.out).below hb13);have HM13:Hid (∀m vs,OM w12 W11.heap.size m vf ve vb vs→OM W13 B m vf ve vb vs):=qh (fun m vs hom=>OM.mono (OM.offT (T:=[]) hom ho13 TyAt.nil (by simp) (by simp) (by simp)) (qm hB Ho11.out.size));have hjj:=Hr11.out.le;have hj10:=HS10.out.rr.le;have HE:Hid (∀wx,Off [rb] W13 wx→RR wx rb s j11 (wrN no10 ec) (wrP no10 wh10 ((j10:Int)+ep)) F→ec≠0→MtJ w wx B rb s f F R bc mb vf ve vb):=qh (fun wx ho hr hec=>by
      refine⟨_,_,_,hr,Hf13.out.offR Hr13.out ho,hbw13.trans (ho.below (qm hB hbw13.size) (fun k hk=>by simp at hk;omega)),(ho.block _ (qg hm13).1 (by simp;exact hmr)).trans hm13,fun e=>?_,fun _=>?_⟩
      ·unfold wrN at e;split at e<;>omega
      ·by_cases h0:no10=0
       ·unfold wrN wrP;rw[if_pos h0,if_pos h0];rcases Hrd2.out with⟨_,hrp⟩|⟨h3,_⟩
        ·refine⟨j10+ep,by omega,?_⟩;rw[(HS10.out.ok h0).1];unfold mK4;rw[←(He11.out h0).2.1,hrp]
        ·exact absurd h3 hec
       ·unfold wrN wrP;rw[if_neg h0,if_neg h0];exact HS10.out.er h0)
     have HG:Hid (ec=0→MtJ w W13 B rb s f F R bc mb vf ve vb):=qh (fun hec=>by
      refine⟨j11,no10,wh10,hr13,Hf13.out,hbw13,hm13,fun h0=>?_,fun h0=>HS10.out.er h0⟩;rcases Hrd2.out with⟨h3,_⟩|⟨_,_,m,vs,hrp,hz,hom⟩
      ·exact absurd hec h3
      ·refine⟨m,vs,?_,(He11.out h0).2.2,hz,HM13.out m vs hom⟩;rw[(HS10.out.ok h0).1];unfold mK4;rw[←(He11.out h0).2.1,hrp,(He11.out h0).1])
     clear hb13 hs13 ho13 hr13 hm13 hbw13 hmbr;go_upto_if 100 with fail
     go_cut [108] from 100 to 108 (fun v108 wx=>Hid (MtJ w wx B rb s f F R bc mb vf ve vb))
     case first=>
      by_cases hec:ec=0
      ·have q0:(ec !=0)=false:=(by simpa using hec);have Hfin:=qh (HG.out hec);clear hec;go_wp2_with fail;go_meet
       exact Hfin
      ·have q0:(ec !=0)=true:=(by simpa using hec);have Hw:=qh (zaO rb s j11 no10 wh10 F ec ((j10:Int)+ep) W13 Hr13.out hec);have hwa:IntKind.i64.wrap ((j10:Int)+(ep:Int))=(j10:Int)+ep:=qi _ (by have:=HTs.out;omega);have Hec:=qh hec;clear hec;go_wp2_with fail;refine Hw.out.mono ?_;rintro e w14 ⟨rfl,hr14,ho14⟩;have Hfin:=qh (HE.out w14 ho14 hr14 Hec.out);clear hr14 ho14;go_wp2_with fail;go_meet
       exact Hfin
     case rest=>
      clear s0 s1 HE HG;obtain⟨j14,no14,wh14,hr14,hf14,hb14,hm14,hok14,her14⟩:=hcut.out;obtain⟨W14,hW14⟩:∃W14:World,W14=wc:=⟨_,rfl⟩;subst hW14;obtain⟨Al,cl,hvl⟩:=zab hf14.l;have f5:W14.cell? ⟨rb,5,none⟩=some (.slice Al f.letters.length cl):=(by rw[hr14.form.2.1,hvl]);have hll:f.letters.length≤i0:=Hk.out.ll.2;have hmlen:f.metres.length≤i0:=(by rw[←Hk.out.ll.1];exact Hk.out.ll.2);have Hbs:Hid (B≤W14.heap.size):=qh (qm hB hb14.size);have Hown:Hid (W14.ownsRow B 5 1 (.slice Al f.letters.length cl) f.letters.length (byC f.letters)):=qh (by rw[←hvl];exact hf14.l)
      have HF:Hid (∀w8 v8,W14.grownBy w8 (Value.slice Al f.letters.length cl).ownBlock→w8.ownsRow B 5 1 v8 (f.letters.length+1) (byC f.letters++[.int .u8 bc.toNat])→
        (MtK W14 (w8.setCell ⟨rb,5,none⟩ v8) B rb s f bc j14 no14 wh14 mb vf ve vb∧w8.cell? ⟨rb,5,none⟩=some (.slice Al f.letters.length cl)∧w8.frozen? ⟨rb,5,none⟩=false)):=qh (fun w8 v8 hg hown=>by
       obtain⟨⟨e1,e2,e3,e4,e5,e6,e7⟩,e8,e9⟩:=hf14.letter hr14 hBr hvl hown hg;have hx8:=(e4.block mb (qg hm14).1 (zcO hf14.l hm14 (by decide))).trans hm14;have hx9:=(e5.block mb (qg hx8).1 (by simp;exact hmr)).trans hx8;exact⟨⟨_,e1,e2,e3,hx9,fun m vs hom=>OM.offT (OM.offT hom e4 e6 (by decide) (by decide) (by decide)) e5 e7 (by decide) (by decide) (by decide)⟩,e8,e9⟩)
      have Hb14:=qh hb14;have Hok14:=qh hok14;have Her14:=qh her14;clear hcut hr14 hf14 hb14 hm14 hok14 her14 hvl;go_upto_region 22 with fail
      go_cut [120] from 109 to 120 (fun v120 wx=>Hid (MtK W14 wx B rb s f bc j14 no14 wh14 mb vf ve vb))
      case first=>
       go_wp2_with (at_builtin;go_loud (refine zae W14 rfl _ _ 25 rfl B 5 _ _ 1 1 Tryz.underlying25 zmk zml zmm zlt rfl (by decide) (.slice Al f.letters.length cl) f.letters.length (byC f.letters) _ _ rfl rfl ?c0 (by exact Hown.out) rfl ?c1 ?c2 ?c3 ?c4 ?_;rotate_right;intro v8 w8 hown8 hg8 hat8;obtain⟨g8,cap8,rfl⟩:=zak hown8 (by omega);obtain⟨hJ8,c8,z8⟩:=HF.out _ _ hg8 hown8;have HJ8:=qh hJ8;clear hJ8 hown8 hg8 hat8))
       case c0=>rfl
       case c1=>rfl
       case c2=>unfold maxLen;omega
       case c3=>omega
       case c4=>exact Hbs.out
       go_meet
       exact HJ8
      case rest=>
       clear f5 HF Hown Hbs;obtain⟨F1,hr15,hf15,hb15,hm15,hom15⟩:=hcut.out;obtain⟨W15,hW15⟩:∃W15:World,W15=wc:=⟨_,rfl⟩;subst hW15;obtain⟨cs,hcs⟩:=hf15.m;have hcsl:f.metres.length=f.metres.length:=rfl;obtain⟨Am,cm,hvm⟩:=zab hcs.o;have hd:Off [] W15 W15.drew:=Off.drew [] W15;have f6:W15.cell? ⟨rb,6,none⟩=some (.slice Am f.metres.length cm):=(by rw[hr15.form.2.2.1,hvm]);have f6a:∀o,(W15.alloc o).cell? ⟨rb,6,none⟩=some (.slice Am f.metres.length cm):=fun o=>(qw (qa W15 o rb hr15.lt)).trans f6;have m0:W15.cell? ⟨mb,0,none⟩=some vf:=qc _ _ 0 _ _ (0,0) hm15;have m1:W15.cell? ⟨mb,1,none⟩=some ve:=qc _ _ 1 _ _ (0,0) hm15;have m2:W15.cell? ⟨mb,2,none⟩=some vb:=qc _ _ 2 _ _ (0,0) hm15;have Hmx:Hid (f.metres.length+1≤maxLen):=qh (by unfold maxLen;omega);have Hby:Hid ((f.metres.length+1)*72≤140737488355328):=qh (by omega);have Hpos:Hid (0<f.metres.length+1):=qh (by omega);have Hbs:Hid (B≤W15.drew.heap.size):=qh (qm hB (qm Hb14.out.size hb15.size));have Hown:Hid (W15.drew.ownsRow B 79 3 (.slice Am f.metres.length cm) f.metres.length (metC cs)):=qh (by rw[←hvm];exact hd.own hcs.o (fun k hk=>by simp));have HoneA:Hid (∀u∈(#[vf,ve,vb]:Array Value).toList,u.oneCell'=true):=qh (by intro u hu;simp at hu;rcases hu with rfl|rfl|rfl;exact Hone.out.1;exact Hone.out.2.1;exact Hone.out.2.2)
       have HF:Hid (∀w8 v8,W15.drew.grownBy w8 (Value.slice Am f.metres.length cm).ownBlock→w8.ownsRow B 79 3 v8 (f.metres.length+1) (metC cs++[vf,ve,vb])→
         (RRow B rb s w R (.returned (.tuple #[])) (w8.setCell ⟨rb,6,none⟩ v8)∧w8.cell? ⟨rb,6,none⟩=some (.slice Am f.metres.length cm)∧w8.frozen? ⟨rb,6,none⟩=false)):=qh (fun w8 v8 hg hown=>by
        have hf':=hf15.off (T:=[]) hd TyAt.nil (by simp);have hcs':=hcs.off (T:=[]) hd TyAt.nil (by simp) (by simp) (by simp) (by simp);have hr':=hr15.drewN 1;by_cases h0:no14=0
        ·obtain⟨m,vs,hR,hj,hz,hom⟩:=Hok14.out h0;obtain⟨⟨e1,e2,e3⟩,e4,e5⟩:=RFM.metre (W:=W15.drew) (w8:=w8) (m:=m) (vs2:=vs) hf' hr' hBr hvm hcs' hown hg;refine⟨⟨rfl,Hb14.out.trans (hb15.trans ((zad (qb B W15) 1).trans e3)),?_⟩,e4,e5⟩;rw[hR];have hw:=(e1.ok h0).2;rw[h0,hw] at e1;exact⟨hj,_,e1,e2 ⟨hz,OM.offT (T:=[]) (hom15 m vs hom) hd TyAt.nil (by simp) (by simp) (by simp)⟩⟩
        ·obtain⟨p,hp,hR⟩:=Her14.out h0;obtain⟨⟨e1,e2,e3⟩,e4,e5⟩:=RFM.metre (W:=W15.drew) (w8:=w8) (m:=Met0) (vs2:=[]) hf' hr' hBr hvm hcs' hown hg;refine⟨?_,e4,e5⟩;rw[hR];rw[hp] at e1;exact RRow.err (Hb14.out.trans (hb15.trans ((zad (qb B W15) 1).trans e3))) h0 e1)
       clear hcut hr15 hf15 hb15 hm15 hom15 hcs hvm hd hcsl;go_wp2_with fail;go_region_law (refine zah W15.drew (by rfl) (.tmp 126) (.tmp 128) 26 (by rfl) B 79 _ _ 3 72 Tryz.underlying26 zlu zlv zlw zka rfl (by decide) (.slice Am f.metres.length cm) f.metres.length (metC cs) _ _ (by simp[Act.eval,Act.put]) (by simp[Act.eval,Act.put];rfl) (by simp) (by exact Hown.out) rfl (by exact HoneA.out) Hmx.out Hby.out (by exact Hbs.out) ?_;intro v8 w8 hown8 hg8 hat8;obtain⟨g8,cap8,rfl⟩:=zak hown8 Hpos.out;obtain⟨hfin8,c8,z8⟩:=HF.out w8 _ hg8 hown8;have HFin:=qh hfin8;clear hfin8 hown8 hg8 hat8)
       all_goals
        go_wp2_with fail;refine bodyPost_ret (results_none rfl _ _ _) rfl ?_;exact HFin.out
theorem zhP {s:ByteArray} {letters:List UInt8} {line:Int} {i k:Nat} {x:It} (h:zbC s letters line i=.ok (x,k)):zcv s letters i=.ok (x,k):=by
 rw[zdQ] at h;cases hr:zcv s letters i with
 |error e=>rw[hr] at h;cases h
 |ok xk=>
  obtain⟨x',k'⟩:=xk;rw[hr] at h;simp only at h;split at h
  ·cases h
  ·cases h;rfl
theorem zfx {s:ByteArray} {f:Fm} {round:Bool}:∀(q:Nat) (l:List It) (i:Nat) {l':List It} {j:Nat},za1 s f round q l i=.ok (l',j)→(∀x∈l,ItOk x)→(∀x∈l',ItOk x)∧l'.length+i≤l.length+j
 |0,l,i,l',j,h,hl=>by unfold za1 at h;cases h;exact⟨hl,ql _⟩
 |q+1,l,i,l',j,h,hl=>by
  unfold za1 at h;split at h
  ·cases hi:zbC s f.letters (zbi f round l.length) (i+1) with
   |error e=>rw[hi] at h;cases h
   |ok xk=>
    obtain⟨x,k⟩:=xk;rw[hi] at h;have hx:=zep (zhP hi);have ih:=zfx q (l++[x]) k h (fun y hy=>by
     rcases List.mem_append.1 hy with hy|hy
     ·exact hl y hy
     ·obtain rfl:=List.mem_singleton.1 hy;exact hx.1)
    refine⟨ih.1,?_⟩;have h2:=ih.2;have h3:=hx.2.1;simp only[List.length_append,List.length_cons,List.length_nil] at h2;omega
  ·cases h;exact⟨hl,ql _⟩
theorem zeW {s:ByteArray} {f f':Fm} {round:Bool} {start i i0 j:Nat} (hk:FmOk f i0) (hi:i0+1≤i) (h:zaF s f round start i=.ok (f',j)):FmOk f' j:=by
 rw[zdF] at h;unfold zhz at h;by_cases h1:¬isB s i 32=true
 ·rw[if_pos h1] at h;cases h
 ·rw[if_neg h1] at h;cases hit:za1 s f round (s.size+1) [] i with
  |error e=>rw[hit] at h;cases h
  |ok lj=>
   obtain⟨l,j'⟩:=lj;rw[hit] at h;simp only at h;split at h
   ·cases h
   ·split at h
    ·cases h
    ·cases h;obtain⟨h3,h4⟩:=zfx _ _ _ hit (by simp);exact hk.more (by simp at h4;omega) h3
theorem zi0 {s:ByteArray} {f f':Fm} {i j:Nat} (hk:FmOk f i) (h:zbF s f i=.ok (f',j)):FmOk f' j:=by
 by_cases hr:f.rounds=true
 ·unfold zbF at h;rw[if_pos hr] at h;cases h
 ·have hr2:f.rounds=false:=by simpa using hr
  rw[zf3 hr2] at h;cases h1:zao (zal s ROUND i) with
  |error e=>rw[h1] at h;cases h
  |ok a=>
   rw[h1] at h;simp only at h;unfold rK1 at h;cases h2:numP s 0 a with
   |error e=>rw[h2] at h;cases h
   |ok lb=>
    obtain⟨least,b⟩:=lb;rw[h2] at h;simp only at h;unfold rK2 at h;cases h3:zao (zal s [32] b) with
    |error e=>rw[h3] at h;cases h
    |ok c=>
     rw[h3] at h;simp only at h;unfold rK3 at h;cases h4:numP s 0 c with
     |error e=>rw[h4] at h;cases h
     |ok md=>
      obtain⟨most,d⟩:=md;rw[h4] at h;simp only at h;unfold rK4 at h;split at h
      ·cases h
      ·rename_i hlm;cases h5:zao (zal s [32] d) with
       |error e=>rw[h5] at h;cases h
       |ok g=>
        rw[h5] at h;simp only at h;unfold rK5 at h;cases h6:numP s 0 g with
        |error e=>rw[h6] at h;cases h
        |ok sh=>
         obtain⟨shift,hh⟩:=sh;rw[h6] at h;simp only at h;unfold rK6 at h;cases h7:zaF s {f with least:=least,most:=most,shift:=shift} true i hh with
         |error e=>rw[h7] at h;cases h
         |ok fj=>
          obtain⟨f2,j2⟩:=fj;rw[h7] at h;cases h;have e1:=zaw h1;have e2:=zcx h2;have e3:=zaw h3;have e4:=zcx h4;have e5:=zaw h5;have e6:=zcx h6;have e7:ROUND.length=6:=rfl;have b1:=zdG h2;have b2:=zdG h4;have b3:=zdG h6;have:=zeW (hk.set (ql i) b1 b2 b3 (by omega)) (by omega) h7;exact⟨this.le,this.l0,this.m0,this.s0,this.lm,this.ll,this.it,this.nd,this.lt⟩
theorem zi1 {s:ByteArray} {f f':Fm} {i j:Nat} (hk:FmOk f i) (hi:i≤s.size) (h:zb9 s f i=.ok (f',j)):FmOk f' j:=by
 rw[zf6] at h;cases h1:zao (zal s METRE i) with
 |error e=>rw[h1] at h;cases h
 |ok a=>
  rw[h1] at h;simp only at h;unfold mK1 at h;split at h
  ·cases h
  ·rename_i hin;unfold mK2 at h;split at h
   ·cases h
   ·rename_i hix;unfold mK3 at h;cases h2:zao (zal s [32] (a+1)) with
    |error e=>rw[h2] at h;cases h
    |ok b=>
     rw[h2] at h;simp only at h;unfold mK4 at h;cases h3:zbd ⟨(cutB s b (zap s b)).toArray⟩ with
     |error e=>obtain⟨c,p⟩:=e;rw[h3] at h;cases h
     |ok m=>
      rw[h3] at h;cases h;have hin2:inB s a 97 122=true:=(by simpa using hin);have hlt:=zb7 hin2;rw[zbw hlt,Bool.and_eq_true,decide_eq_true_eq,decide_eq_true_eq] at hin2;have e1:=zaw h1;have e2:=zaw h2;have e7:METRE.length=7-1:=rfl;have hb:=zhB h2 (by omega);have e3:=zbs b hb;refine hk.letter (by simp at e2;omega) (by rw[zar hlt];omega) (by omega)
theorem zkn {s:ByteArray} {f f':Fm} {t:Bool} {i j:Nat} (hk:FmOk f i) (hi:i≤s.size) (h:za3 s f t i=.ok (f',j)):FmOk f' j:=by
 unfold za3 at h;split at h
 ·cases h1:zao (zal s FORM i) with
  |error e=>rw[h1] at h;cases h
  |ok a=>
   rw[h1] at h;simp only at h;split at h
   ·cases h
   ·cases h;have e1:=zaw h1;have e2:=(zbs a (zhB h1 hi)).1;have:=hk.mono (j:=zap s a) (by omega);exact⟨this.le,this.l0,this.m0,this.s0,this.lm,this.ll,this.it,this.nd,this.lt⟩
 ·split at h
  ·exact zi1 hk hi h
  ·split at h
   ·exact zi0 hk h
   ·cases h1:zao (zal s STANZA i) with
    |error e=>rw[h1] at h;cases h
    |ok a=>
     rw[h1] at h;have e1:=zaw h1;have e7:STANZA.length=6:=rfl;exact zeW hk (by omega) h
theorem zld {s:ByteArray} {f f':Fm} {t:Bool} {i j:Nat} (hi:i≤s.size) (h:za3 s f t i=.ok (f',j)):i≤j:=by
 unfold za3 at h;split at h
 ·cases h1:zao (zal s FORM i) with
  |error e=>rw[h1] at h;cases h
  |ok a=>
   rw[h1] at h;simp only at h;split at h
   ·cases h
   ·cases h;have e1:=zaw h1;have e2:=(zbs a (zhB h1 hi)).1;omega
 ·split at h
  ·exact zg3 h
  ·split at h
   ·exact zeQ h
   ·cases h1:zao (zal s STANZA i) with
    |error e=>rw[h1] at h;cases h
    |ok a=>
     rw[h1] at h;have e1:=zaw h1;have:=zcZ h;omega
end Go.Proofs.YtgklikkddckgbaaGreatDoor.Mo

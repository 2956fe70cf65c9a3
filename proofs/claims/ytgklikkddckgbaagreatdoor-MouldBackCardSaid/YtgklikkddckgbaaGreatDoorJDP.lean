import Derived.Test.YtgklikkddckgbaaGreatDoorJDL
import Derived.Test.YtgklikkddckgbaaGreatDoorJDN
/- Lemmas. -/
set_option linter.all false
set_option maxRecDepth 100000
set_option maxHeartbeats 2000000
namespace Go.Proofs.YtgklikkddckgbaaGreatDoor.Mo
open Go.RowKit
theorem zmk:Tryz.prog.info? 5=some Tryz.t5:=by kernel_rfl
theorem zml:Tryz.t5.zero=some (.int .u8 0):=by kernel_rfl
theorem zmm:Tryz.t5.size=1:=by kernel_rfl
theorem zlt:Tryz.t5.bytes=1:=by kernel_rfl
theorem zlu:Tryz.prog.info? 79=some Tryz.t79:=by kernel_rfl
theorem zlv:Tryz.t79.zero=some (.agg #[.slice none 0 0,.slice none 0 0,.slice none 0 0]):=by kernel_rfl
theorem zlw:Tryz.t79.size=3:=by kernel_rfl
theorem zka:Tryz.t79.bytes=72:=by kernel_rfl
section
variable {P:Program} {ops:Array Oper} {Q:Exit->Act->World->Prop}
theorem zda {o:Oper} {a:Act} {w w':World} {v:Value} {K:Act->World->Prop} (h:(execOp a.eval o).run P w=.ok (.value v) w') (hk:K (a.put o.dst v) w'):o.wp P a w K Q:=by
 unfold Oper.wp;rw[h];exact hk
theorem zlx {o:Oper} {a:Act} {w w':World} {K:Act->World->Prop} (h:(execOp a.eval o).run P w=.ok .skip w') (hk:K (a.put o.dst undef) w'):o.wp P a w K Q:=by
 unfold Oper.wp;rw[h];exact hk
end
theorem zaM {α:Type} (l:List α) (x d:α):(l++[x]).getD l.length d=x:=by simp[qe]
theorem zaR {α:Type} (l:List α) (x d:α) (k:Nat) (h:k<l.length):(l++[x]).getD k d=l.getD k d:=by simp[qe,qY h]
theorem Ze.more {W W2:World} {B fb:Nat} {f:Fm} {vl vm vs UC Gv vf ve vb:Value} {c:UInt8} {m:Met} {cs:List (Value×Value×Value)} {vs2:List Value} {L:List Nat} (h:Ze W B fb f vl vm vs) (hr0:f.rows=[])
  (hcs:JV W B vm f.Qr cs) (ho:Off L W W2) (ht:QB W L [5,79]) (hl:W2.ownsRow B 5 1 UC (f.Qo.length+1) (JD f.Qo++[.int .u8 c.toNat])) (hm:W2.ownsRow B 79 3 Gv (f.Qr.length+1) (gv cs++[vf,ve,vb]))
  (hz:QM m) (Yd:OM W B m vf ve vb vs2):
  Ze ((W2.setCell ⟨fb,1,none⟩ UC).setCell ⟨fb,2,none⟩ Gv) B fb {f with Qo:=f.Qo++[c],Qr:=f.Qr++[m]} UC Gv vs:=by
 have ZK:fb∉L:=λhq=>by
  obtain⟨cs',e,fz,hb,hT⟩:=ht fb hq;rw[h.x] at hb;simp at hb hT;have h1:=hb.2.1;rcases hT with hT|hT<;>(rw[hT] at h1;exact absurd h1 (by decide))
 have hx2:=(ho.block fb h.lt ZK).trans h.x;have ho1:=Off.setCell W2 fb 1 UC;have hx3:=qs W2 fb 1 _ _ UC hx2;have ho2:=Off.setCell (W2.setCell ⟨fb,1,none⟩ UC) fb 2 Gv;have hx4:=qs _ fb 2 _ _ Gv hx3;have t1:QB W2 [fb] [92]:=QB.one hx2;have t2:QB (W2.setCell ⟨fb,1,none⟩ UC) [fb] [92]:=QB.one hx3;refine⟨hx4,h.hB,?_,⟨cs++[(vf,ve,vb)],by simp[hcs.n],?_,?_⟩,?_⟩
 ·have e:JD (f.Qo++[c])=JD f.Qo++[.int .u8 c.toNat]:=by simp[JD]
  show World.ownsRow _ B 5 1 UC (f.Qo++[c]).length (JD (f.Qo++[c]));rw[e,qk,zI];exact ho2.QS (ho1.QS hl t1 (by decide)) t2 (by decide)
 ·show World.ownsRow _ B 79 3 Gv (f.Qr++[m]).length _;rw[zeH,qk,zI];exact ho2.QS (ho1.QS hm t1 (by decide)) t2 (by decide)
 ·intro k hk;have keep:∀{m:Met} {a b c:Value} {vs:List Value},OM W B m a b c vs->OM ((W2.setCell ⟨fb,1,none⟩ UC).setCell ⟨fb,2,none⟩ Gv) B m a b c vs:=λhq=>
   OM.YA (OM.YA (OM.YA hq ho ht (by decide) (by decide) (by decide)) ho1 t1 (by decide) (by decide) (by decide)) ho2 t2 (by decide) (by decide) (by decide)
  have hk2:k<f.Qr.length+1:=by simpa using hk
  show QM ((f.Qr++[m]).getD k u9)/\∃vs,OM _ B ((f.Qr++[m]).getD k u9) ((cs++[(vf,ve,vb)]).getD k default).1 ((cs++[(vf,ve,vb)]).getD k default).2.1 ((cs++[(vf,ve,vb)]).getD k default).2.2 vs;by_cases hkl:k<f.Qr.length
  ·rw[zaR _ _ _ _ hkl,zaR _ _ _ _ (by rw[hcs.n];exact hkl)];obtain⟨a,vs,b⟩:=hcs.m k hkl;exact⟨a,vs,keep b⟩
  ·obtain rfl:k=f.Qr.length:=by omega
   rw[zaM];have e:(cs++[(vf,ve,vb)]).getD f.Qr.length default=(vf,ve,vb):=(by rw[<-hcs.n];exact zaM _ _ _);rw[e];exact⟨hz,vs2,keep Yd⟩
 ·obtain⟨vis,hr,_⟩:=h.r;refine⟨vis,⟨hr.n,ho2.QS (ho1.QS (ho.QS hr.o ht (by decide)) t1 (by decide)) t2 (by decide),hr.it⟩,λk hk=>?_⟩;have hk2:k<f.rows.length:=hk;rw[hr0] at hk2;simp at hk2
theorem QQ.letter {f:Fm} {i j:Nat} {c:UInt8} {m:Met} (h:QQ f i) (hij:i+1<=j) (hc:97<=c.toNat/\c.toNat<=122) (hn:Lib.indexByte f.Qo c<0):QQ {f with Qo:=f.Qo++[c],Qr:=f.Qr++[m]} j:=by
 refine⟨by have:=h.le;show uJ f.rows+f.rows.length<=j;omega,h.l0,h.m0,h.s0,h.lm,?_,h.it,?_,?_⟩
 ·have:=h.ll;simp;omega
 ·show(f.Qo++[c]).Nodup;rw[yz];refine⟨h.nd,by simp,λa ha b hb=>?_⟩;obtain rfl:b=c:=by simpa using hb
  rintro rfl;obtain⟨k,hk,he⟩:=jM.1 ha;have h1:=yU f.Qo a;have h2:Lib.indexByte f.Qo a= -1:=by omega
  exact Lib.indexByte_none h2 k (by rw[qC hk,he])
 ·intro x hx;rcases qU.1 hx with hx|hx
  ·exact h.lt x hx
  ·obtain rfl:x=c:=by simpa using hx
   exact hc
structure U3 (W:World) (B:Nat) (Qo:List UInt8) (c:UInt8) (vl vf ve vb:Value) (b14 b16 VE b17:Bool) (VT VU VF x66:Value) (wr:World):Prop where
 d17:b17=true->b14=true/\b16=true
 off:Off (if b17 then vl.ownBlock.toList else []) W wr
 l14:b14=true->VT=vl
 u16:b16=true->∃g,VU=.slice (some ⟨g,0,none⟩) 1 1/\W.heap.size<=g/\wr.heap[g]?=some (.cells #[.int .u8 c.toNat] 5 (0,0))
 u26:VE=true->∃g,VF=.slice (some ⟨g,0,none⟩) 1 1/\W.heap.size<=g/\wr.heap[g]?=some (.cells #[vf,ve,vb] 79 (0,0))
 r17:b17=true->wr.ownsRow B 5 1 x66 (Qo.length+1) (JD Qo++[.int .u8 c.toNat])
section
variable {W wr w':World} {B:Nat} {Qo:List UInt8} {c:UInt8} {vl vf ve vb:Value} {b14 b16 VE b17:Bool} {VT VU VF x66:Value}
theorem U3.start (W:World) (B:Nat) (Qo:List UInt8) (c:UInt8) (vl vf ve vb VT VU VF x66:Value):U3 W B Qo c vl vf ve vb false false false false VT VU VF x66 W.drew:=
 ⟨(λh=>by cases h),Off.drew _ _,(λh=>by cases h),(λh=>by cases h),(λh=>by cases h),(λh=>by cases h)⟩
theorem U3.load (h:U3 W B Qo c vl vf ve vb false b16 VE b17 VT VU VF x66 wr):U3 W B Qo c vl vf ve vb true b16 VE b17 vl VU VF x66 wr:=
 ⟨λe=>⟨rfl,(h.d17 e).2⟩,h.off,λ_=>rfl,h.u16,h.u26,h.r17⟩
theorem U3.zuU (h:U3 W B Qo c vl vf ve vb b14 false VE b17 VT VU VF x66 wr):U3 W B Qo c vl vf ve vb b14 true VE b17 VT (.slice (some ⟨wr.heap.size,0,none⟩) 1 1) VF x66 (wr.alloc (.cells #[.int .u8 c.toNat] 5)):=by
 refine⟨λe=>⟨(h.d17 e).1,rfl⟩,h.off.trans (Off.alloc _ _ _),h.l14,λ_=>⟨_,rfl,h.off.size,qn wr _⟩,λe=>?_,λe=>(h.r17 e).alloc _⟩;obtain⟨g,e1,e2,e3⟩:=h.u26 e;exact⟨g,e1,e2,(qa wr _ g (qg e3).1).trans e3⟩
theorem U3.zuV (h:U3 W B Qo c vl vf ve vb b14 b16 false b17 VT VU VF x66 wr):U3 W B Qo c vl vf ve vb b14 b16 true b17 VT VU (.slice (some ⟨wr.heap.size,0,none⟩) 1 1) x66 (wr.alloc (.cells #[vf,ve,vb] 79)):=by
 refine⟨h.d17,h.off.trans (Off.alloc _ _ _),h.l14,λe=>?_,λ_=>⟨_,rfl,h.off.size,qn wr _⟩,λe=>(h.r17 e).alloc _⟩;obtain⟨g,e1,e2,e3⟩:=h.u16 e;exact⟨g,e1,e2,(qa wr _ g (qg e3).1).trans e3⟩
theorem U3.zuW (h:U3 W B Qo c vl vf ve vb true true VE false VT VU VF x66 wr) (hg:wr.grownBy w' vl.ownBlock) (hlt:∀k,vl.ownBlock=some k->k<W.heap.size) {x:Value} (ho:w'.ownsRow B 5 1 x (Qo.length+1) (JD Qo++[.int .u8 c.toNat])):
  U3 W B Qo c vl vf ve vb true true VE true VT VU VF x w':=by
 have hof:Off vl.ownBlock.toList wr w':=zdE hg;have keep:∀{g:Nat} {o:Obj},W.heap.size<=g->wr.heap[g]?=some o->w'.heap[g]?=some o:=λ{g o} hge hgo=>by
  refine(hof.block g (qg hgo).1 (λhm=>?_)).trans hgo;have:=hlt g (by simpa using hm);omega
 refine⟨λ_=>⟨rfl,rfl⟩,?_,h.l14,λe=>?_,λe=>?_,λ_=>ho⟩
 ·have h1:Off vl.ownBlock.toList W wr:=h.off.mono (λk hk=>by simp at hk);exact h1.trans hof
 ·obtain⟨g,e1,e2,e3⟩:=h.u16 e;exact⟨g,e1,e2,keep e2 e3⟩
 ·obtain⟨g,e1,e2,e3⟩:=h.u26 e;exact⟨g,e1,e2,keep e2 e3⟩
end
section
variable {P:Program} {ops:Array Oper} {Q:Exit->Act->World->Prop} {md:Region.Mode} {S:World->Prop} {X:Nat->Bool}
theorem zhx {fuel:Nat} {listed:Array Bool} {a:Act} {w:World} (h:∀a0,a0=a->VJ P md ops Q S X fuel listed a0 w):VJ P md ops Q S X fuel listed a w:=h a rfl
end
theorem zlX (i:Nat) (h:i<34):i=0∨i=1∨i=2∨i=3∨i=4∨i=5∨i=6∨i=7∨i=8∨i=9∨i=10∨i=11∨i=12∨i=13∨i=14∨i=15∨i=16∨i=17∨i=18∨i=19∨i=20∨i=21∨i=22∨i=23∨i=24∨i=25∨i=26∨i=27∨i=28∨i=29∨i=30∨i=31∨i=32∨i=33:=by omega
theorem add0 (g j:Nat):(⟨g,0,none⟩:Addr).add j=⟨g,j,none⟩:=by unfold Addr.add;split<;>simp_all
theorem zgY {w:World} {g t:Nat} {cs:Array Value} (h:w.heap[g]?=some (.cells cs t (0,0))):∀ad:Addr,some (⟨g,0,none⟩:Addr)=some ad->∀j u,cs.toList[j]?=some u->w.cell? (ad.add j)=some u:=by
 intro ad e j u hu;cases e;rw[add0,jP w g j cs t (0,0) h];simpa using hu
theorem zkb (B rb fb:Nat) (s:ByteArray) (f:Fm) (i i0:Nat) (vl vm vs:Value) (w:World) (h:Rd w rb fb s i) (hv:Vars w) (h9:9<=B) (hB:B<=rb) (hm:Ze w B fb f vl vm vs) (hk:QQ f i0) (hi0:i0<=i) (hr0:f.rows=[]):
  Calls Tryz.prog 93 #[.pointer (some ⟨rb,0,none⟩)] w (zmj B rb fb s w (Ua s f i)):=by
 have hsz:=h.sz;have hle:=h.le;have hrb:=h.lt;have ZK:=hm.lt;have hBw:B<=w.heap.size:=by omega
 generalize hR:Ua s f i=R;have H:=qh h;have Hv:=qh hv;have Hm:=qh hm;have Hk:=qh hk;unfold Ua at hR;have HR:=qh hR;have Hr0:=qh h;have Ho0:Hid (Off [rb] w w):=qh (Off.refl _ _);have ZG:=qh (zbW rb fb s ⟨#[109,101,116,114,101,32]⟩ i w h (by decide));clear h hv hm hk hR;go_enter Tryz.func93,Tryz.ntmps93;go_wp2_with fail;refine ZG.out.mono ?_;rintro e w1 Kz;have hst:Ub rb fb s w (.tuple #[]) (QY (QT s Kw i)) e w1:=Kz;clear Kz ZG;cases hX:QY (QT s Kw i) with
 |error ep=>
  obtain⟨c,p⟩:=ep;have hR2:=HR.out;rw[hX] at hst hR2;obtain⟨rfl,ho⟩:=hst;exact⟨rfl,(Ho0.out.trans ho).keep hBw hB,by rw[<-hR2];rfl⟩
 |ok j1=>
  have hR2:=HR.out;rw[hX] at hst hR2;simp only[] at hR2;obtain⟨rfl,hrd,ho⟩:=hst;have hlen:=XS hX;have Hj1:Hid (i<=j1):=qh (by omega);clear HR hlen hX;have HR:=qh hR2;have Hr1:=qh hrd;have Ho1:=qh (Ho0.out.trans ho);clear hR2 hrd ho;have zrz:=qh (zdN rb fb s j1 w1 Hr1.out);go_wp2_with fail;refine zrz.out.mono ?_;rintro e w2 ⟨ho2,hres⟩;clear zrz;have Ho2:=qh (Ho1.out.trans ho2);cases hN:Zq s j1 97 122 with
  |false=>
   rw[hN,qp (by simp)] at hres;have hR2:R=.error (180,j1):=(by rw[<-HR.out,hN,qq (by simp)]);subst hres;exact⟨rfl,Ho2.out.keep hBw hB,by rw[hR2];rfl⟩
  |true=>
   rw[hN,qq rfl] at hres;have Uy:=HR.out;rw[hN,qp (by simp)] at Uy;clear HR;have HR:=qh Uy;obtain⟨rfl,Z0⟩:=hres;have Vs:=qh (zh1 hN);have hbd2:=zb7 hN;generalize QA s j1=c at*;obtain⟨r0,r1,r2,r3⟩:=Z0.cells;have hm2:=Hm.out.QZ H.out Ho2.out;have hl2:=hm2.letM;obtain⟨⟨la,ll,lc,zrQ⟩,hcv⟩:=hl2.conv;have hlc:=hl2.c;rw[zrQ] at hcv hlc;have hix:=qh (Tryz.strings_IndexByte ⟨f.Qo.toArray⟩ c.toNat w2);have e1:((c.toNat:Int)).toNat.toUInt8=c:=(by simp);rw[e1] at hix;have Hr2:=qh Z0;have Hvl:=qh zrQ;clear Uy Z0 hN ho2 hm2 hl2 zrQ;go_wp2_with fail;refine hix.out.mono ?_;rintro e w2' ⟨rfl,rfl⟩;generalize hn':Lib.indexByte f.Qo c=n at*;have Hn':=qh hn';clear hn' hix;by_cases hn:0<=n
   ·have hdn:decide (0<=n)=true:=qt hn;have HR2:Hid (R=.error (181,j1)):=qh (by rw[<-HR.out,qq hn]);have hf:=qh (Qz 181 j1 w2');clear hn;go_wp2_with fail;refine hf.out.mono ?_;rintro e w5 ⟨rfl,hb5⟩;exact⟨rfl,(Ho2.out.trans (Off.of_below hb5 (ql _) [rb])).keep hBw hB,by rw[HR2.out];rfl⟩
   ·have hdn:decide (0<=n)=false:=qd hn;have hR4:=HR.out;rw[qp hn] at hR4;clear HR;have HR:=qh hR4;have ZG:=qh (zbW rb fb s ⟨#[32]⟩ (j1+1) w2' Hr2.out (by decide));have Hneg:Hid (n<0):=qh (by omega);clear hR4 hn r0 r1 r2 r3 hlc hcv;go_wp2_with fail;refine ZG.out.mono ?_;rintro e w3 Kz;have hst:Ub rb fb s w2' (.tuple #[]) (QY (QT s [32] (j1+1))) e w3:=Kz;clear Kz ZG;cases hX:QY (QT s [32] (j1+1)) with
    |error ep=>
     obtain⟨c,p⟩:=ep;have hR2:=HR.out;rw[hX] at hst hR2;obtain⟨rfl,ho⟩:=hst;exact⟨rfl,(Ho2.out.trans ho).keep hBw hB,by rw[<-hR2];rfl⟩
    |ok j3=>
     have hR2:=HR.out;rw[hX] at hst hR2;simp only[] at hR2;obtain⟨rfl,hrd,ho⟩:=hst;have hlen:=XS hX;have Hj3:Hid (j1+1<=j3):=qh (by omega);have hj3:j3<=s.size:=hrd.le;clear HR hlen hX;have HR:=qh hR2;have Ho3:=qh (Ho2.out.trans ho);obtain⟨r0,r1,r2,r3⟩:=hrd.cells;have ZI:=qh (zfG rb fb s j3 w3 hrd);clear hR2 hrd ho;go_wp2_with fail;refine ZI.out.mono ?_;rintro e w5 ⟨rfl,hrd,ho⟩;have Jq:=qh (Ho3.out.trans ho);have hEb:=Ge (s:=s) j3 hj3;have hT:s.extract j3 (zap s j3)=⟨(vA s j3 (zap s j3)).toArray⟩:=by
      apply jC;rw[<-zcp]
     have hTs:(s.extract j3 (zap s j3)).size=zap s j3-j3:=zcD hEb.2;rw[hT] at hTs;have Uy:=HR.out;rw[hT];generalize (⟨(vA s j3 (zap s j3)).toArray⟩:ByteArray)=t at hTs Uy;have ztn:=qh (zkR t w5 (Vars.off Hv.out Jq.out (by simp;omega)) (by omega));have Ye:=qh hrd;generalize zap s j3=E at*;clear HR ZI hT ho hrd;go_wp2_with fail;refine ztn.out.mono ?_;rintro e w6 ⟨hb6,hres⟩;clear ztn;have hb5B:=Jq.out.keep hBw hB;have zsR:=qh (hb5B.trans ((Off.of_below hb6 (ql _) []).below (qm hBw hb5B.size) (λ_ h=>by cases h)));cases hX:KH t with
     |error ep=>
      obtain⟨cc,p⟩:=ep;rw[hX] at hres Uy;have hres2:e=.returned (.tuple #[.agg #[.slice none 0 0,.slice none 0 0,.slice none 0 0],.agg #[.int .i64 cc,.int .i64 p]]):=hres;have hpos:=zf2 (by omega) hX;have hc0:(cc !=0)=true:=(by simpa using hpos.1);have hw1:IntKind.i64.wrap ((j3:Int)+(p:Int))=(j3:Int)+(p:Int):=qi _ (by omega);have HR2:Hid (R=.error (cc,j3+p)):=qh Uy.symm;subst hres2;clear hres hX hb6 hpos;go_wp2_with fail;have hcast:((j3:Int)+(p:Int))=((j3+p:Nat):Int):=(by omega);rw[hcast];refine(Qz cc (j3+p) _).mono ?_;rintro e w7 ⟨rfl,KD⟩;refine⟨rfl,?_,by rw[HR2.out];rfl⟩;refine zsR.out.trans (Below.trans ?_ ((Off.of_below KD (ql _) []).below ?_ (λ_ h=>by cases h)))
      ·exact((qb _ _).alloc (qm hBw zsR.out.size) _).alloc (by simp;have:=qm hBw zsR.out.size;omega) _
      ·simp;have:=qm hBw zsR.out.size;omega
     |ok m=>
      rw[hX] at hres Uy;obtain⟨zsd,vf,ve,vb,vs2,rfl,Yd⟩:=hres;obtain⟨A1,c1,hq1⟩:=Zn Yd.Qp;obtain⟨A2,c2,hq2⟩:=Zn Yd.ends;obtain⟨A3,c3,hq3⟩:=Zn Yd.Qt;subst hq1;subst hq2;subst hq3;have HR2:Hid (R=.ok ({f with Qo:=f.Qo++[c],Qr:=f.Qr++[m]},E)):=qh Uy.symm;have Gp:=qh hb6;have Hsz:=qh zsd;have Hom:=qh Yd;obtain⟨W,hW⟩:∃W:World,W=(w6.alloc (.cells #[.slice A1 m.Qp.length c1,.slice A2 m.ends.length c2,.slice A3 m.Qt.length c3] 79)).alloc (.cells #[.int .i64 0,.int .i64 0] 87):=⟨_,rfl⟩;have HW:=qh hW;clear hX Uy Yd zsd hb6 hW;have hbW:Below w6.heap.size w6 W:=(by rw[HW.out];exact((qb _ _).alloc (ql _) _).alloc (by simp) _);have hsW:W.heap.size=w6.heap.size+2:=(by rw[HW.out];simp);have hmet:W.heap[w6.heap.size]?=some (.cells #[.slice A1 m.Qp.length c1,.slice A2 m.ends.length c2,.slice A3 m.Qt.length c3] 79 (0,0)):=by
       rw[HW.out];exact(qa _ _ _ (by simp)).trans (qn w6 _)
      have hoW:Off [rb] w W:=(Jq.out.trans (Off.of_below Gp.out (ql _) _)).trans (Off.of_below hbW (ql _) _);have UX:=Hm.out.QZ H.out hoW;have hrW:Rd W rb fb s E:=(Ye.out.below Gp.out).below hbW;have homW:OM W B m (.slice A1 m.Qp.length c1) (.slice A2 m.ends.length c2) (.slice A3 m.Qt.length c3) vs2:=
       OM.YA (OM.mono Hom.out (qm hBw Jq.out.size)) (Off.of_below hbW (ql _) []) QB.nil (T:=[]) (by simp) (by simp) (by simp)
      obtain⟨cs,hcs⟩:=UX.m;obtain⟨lA,lc,hvl⟩:=Zn UX.l;obtain⟨mA,mc,UD⟩:=Zn hcs.o;subst hvl;subst UD;have hllt:∀k,(Value.slice lA f.Qo.length lc).ownBlock=some k->k<W.heap.size:=λk hk=>(UX.l.lt k hk).2;have hmlt:∀k,(Value.slice mA f.Qr.length mc).ownBlock=some k->k<W.heap.size/\k≠w6.heap.size:=λk hk=>by
       refine⟨(hcs.o.lt k hk).2,λe=>?_⟩;have Y4:=(Hm.out.QZ H.out (Jq.out.trans (Off.of_below Gp.out (ql _) _)));obtain⟨cs6,hcs6⟩:=Y4.m;have:=(hcs6.o.lt k hk).2;omega
      have d2:W.cell? ⟨rb,2,none⟩=some (.pointer (some ⟨fb,0,none⟩)):=hrW.cells.2.2.1;have d3:W.cell? ⟨w6.heap.size,0,none⟩=some (.slice A1 m.Qp.length c1):=qc _ _ 0 _ _ (0,0) hmet;have d4:W.cell? ⟨w6.heap.size,1,none⟩=some (.slice A2 m.ends.length c2):=qc _ _ 1 _ _ (0,0) hmet;have d5:W.cell? ⟨w6.heap.size,2,none⟩=some (.slice A3 m.Qt.length c3):=qc _ _ 2 _ _ (0,0) hmet;have d6:W.cell? ⟨fb,1,none⟩=some (.slice lA f.Qo.length lc):=UX.cells.2.1;have d7:W.cell? ⟨fb,2,none⟩=some (.slice mA f.Qr.length mc):=UX.cells.2.2.1;have hne:=UX.ne hrW;have zsS:=UX.lt;have hrlW:=hrW.lt
      --what is held at every step but the last
      have hST:∀(L:List Nat) (wy:World),Off L W wy->rb∉L->fb∉L->w6.heap.size∉L->wy.cell? ⟨rb,2,none⟩=some (.pointer (some ⟨fb,0,none⟩))/\wy.cell? ⟨w6.heap.size,0,none⟩=some (.slice A1 m.Qp.length c1)/\wy.cell? ⟨w6.heap.size,1,none⟩=some (.slice A2 m.ends.length c2)/\wy.cell? ⟨w6.heap.size,2,none⟩=some (.slice A3 m.Qt.length c3)/\wy.cell? ⟨fb,2,none⟩=some (.slice mA f.Qr.length mc):=λL wy ho h1 h2 h3=>
       ⟨(ho.cell hrlW h1).trans d2,(ho.cell (by omega) h3).trans d3,(ho.cell (by omega) h3).trans d4,(ho.cell (by omega) h3).trans d5,(ho.cell zsS h2).trans d7⟩
      have hlL:∀{b:Nat} {csx:Array Value} {e:Nat} {fz:Nat×Nat},W.heap[b]?=some (.cells csx e fz)->e≠5->b∉(Value.slice lA f.Qo.length lc).ownBlock.toList:=λ{b csx e fz} hb he hq=>by
       obtain⟨c0,e0,fz0,hb0,hT0⟩:=zea UX.l b hq;rw[hb] at hb0;simp at hb0 hT0;exact he (hb0.2.1.trans hT0)
      have hmL:∀{b:Nat} {csx:Array Value} {e:Nat} {fz:Nat×Nat},W.heap[b]?=some (.cells csx e fz)->e≠79->b∉(Value.slice mA f.Qr.length mc).ownBlock.toList:=λ{b csx e fz} hb he hq=>by
       obtain⟨c0,e0,fz0,hb0,hT0⟩:=zea hcs.o b hq;rw[hb] at hb0;simp at hb0 hT0;exact he (hb0.2.1.trans hT0)
      have HMW:=qh UX;have HCS:=qh hcs;have HRW:=qh hrW;have HOM:=qh homW;have HOW:=qh hoW;have hlx:=Hk.out.ll;have hki:=Hk.out.le;clear hbW UX hcs hrW homW hoW;go_wp2_with fail;rw[<-HW.out];refine zhw (S:=λw'=>w'.cell? ⟨rb,2,none⟩=some (.pointer (some ⟨fb,0,none⟩))/\w'.cell? ⟨w6.heap.size,0,none⟩=some (.slice A1 m.Qp.length c1)/\w'.cell? ⟨w6.heap.size,1,none⟩=some (.slice A2 m.ends.length c2)/\w'.cell? ⟨w6.heap.size,2,none⟩=some (.slice A3 m.Qt.length c3)/\w'.cell? ⟨fb,2,none⟩=some (.slice mA f.Qr.length mc)) (X:=λx=>[33].contains x) (by kernel_rfl) ?_;have hHeld:=hST [] W.drew (Off.drew _ _) (by simp) (by simp) (by simp);refine KM (i:=0) (v:=?_) rfl (by kernel_rfl) (by kernel_rfl) (by kernel_rfl) (by kernel_rfl) (λ_ _ _ h=>h) (zx ⟨by rfl,?_⟩) (by assumption) ?_;rotate_left
      ·intro w hSw;obtain⟨hS1,hS2,Z8,KR,hS5⟩:=hSw;go_simp;try with_reducible rfl
      simp only[Act.put,qz,qy,qx,qj,qu,qr];refine KM (i:=1) (v:=?_) rfl (by kernel_rfl) (by kernel_rfl) (by kernel_rfl) (by kernel_rfl) (λ_ _ _ h=>h) (zx ⟨by rfl,?_⟩) (by assumption) ?_;rotate_left
      ·intro w hSw;obtain⟨hS1,hS2,Z8,KR,hS5⟩:=hSw;go_simp;try with_reducible rfl
      simp only[Act.put,qz,qy,qx,qj,qu,qr];refine KM (i:=2) (v:=?_) rfl (by kernel_rfl) (by kernel_rfl) (by kernel_rfl) (by kernel_rfl) (λ_ _ _ h=>h) (zx ⟨by rfl,?_⟩) (by assumption) ?_;rotate_left
      ·intro w hSw;obtain⟨hS1,hS2,Z8,KR,hS5⟩:=hSw;go_simp;try with_reducible rfl
      simp only[Act.put,qz,qy,qx,qj,qu,qr];refine KM (i:=3) (v:=?_) rfl (by kernel_rfl) (by kernel_rfl) (by kernel_rfl) (by kernel_rfl) (λ_ _ _ h=>h) (zx ⟨by rfl,?_⟩) (by assumption) ?_;rotate_left
      ·intro w hSw;obtain⟨hS1,hS2,Z8,KR,hS5⟩:=hSw;go_simp;try with_reducible rfl
      simp only[Act.put,qz,qy,qx,qj,qu,qr];refine KM (i:=4) (v:=?_) rfl (by kernel_rfl) (by kernel_rfl) (by kernel_rfl) (by kernel_rfl) (λ_ _ _ h=>h) (zx ⟨by rfl,?_⟩) (by assumption) ?_;rotate_left
      ·intro w hSw;obtain⟨hS1,hS2,Z8,KR,hS5⟩:=hSw;go_simp;try with_reducible rfl
      simp only[Act.put,qz,qy,qx,qj,qu,qr];refine KM (i:=5) (v:=?_) rfl (by kernel_rfl) (by kernel_rfl) (by kernel_rfl) (by kernel_rfl) (λ_ _ _ h=>h) (zx ⟨by rfl,?_⟩) (by assumption) ?_;rotate_left
      ·intro w hSw;obtain⟨hS1,hS2,Z8,KR,hS5⟩:=hSw;go_simp;try with_reducible rfl
      simp only[Act.put,qz,qy,qx,qj,qu,qr];refine KM (i:=6) (v:=?_) rfl (by kernel_rfl) (by kernel_rfl) (by kernel_rfl) (by kernel_rfl) (λ_ _ _ h=>h) (zx ⟨by rfl,?_⟩) (by assumption) ?_;rotate_left
      ·intro w hSw;obtain⟨hS1,hS2,Z8,KR,hS5⟩:=hSw;go_simp;try with_reducible rfl
      simp only[Act.put,qz,qy,qx,qj,qu,qr];refine KM (i:=7) (v:=?_) rfl (by kernel_rfl) (by kernel_rfl) (by kernel_rfl) (by kernel_rfl) (λ_ _ _ h=>h) (zx ⟨by rfl,?_⟩) (by assumption) ?_;rotate_left
      ·intro w hSw;obtain⟨hS1,hS2,Z8,KR,hS5⟩:=hSw;go_simp;try with_reducible rfl
      simp only[Act.put,qz,qy,qx,qj,qu,qr];refine KM (i:=8) (v:=?_) rfl (by kernel_rfl) (by kernel_rfl) (by kernel_rfl) (by kernel_rfl) (λ_ _ _ h=>h) (zx ⟨by rfl,?_⟩) (by assumption) ?_;rotate_left
      ·intro w hSw;obtain⟨hS1,hS2,Z8,KR,hS5⟩:=hSw;go_simp;try with_reducible rfl
      simp only[Act.put,qz,qy,qx,qj,qu,qr];refine KM (i:=9) (v:=?_) rfl (by kernel_rfl) (by kernel_rfl) (by kernel_rfl) (by kernel_rfl) (λ_ _ _ h=>h) (zx ⟨by rfl,?_⟩) (by assumption) ?_;rotate_left
      ·intro w hSw;obtain⟨hS1,hS2,Z8,KR,hS5⟩:=hSw;go_simp;try with_reducible rfl
      simp only[Act.put,qz,qy,qx,qj,qu,qr];refine KM (i:=10) (v:=?_) rfl (by kernel_rfl) (by kernel_rfl) (by kernel_rfl) (by kernel_rfl) (λ_ _ _ h=>h) (zx ⟨by rfl,?_⟩) (by assumption) ?_;rotate_left
      ·intro w hSw;obtain⟨hS1,hS2,Z8,KR,hS5⟩:=hSw;go_simp;try with_reducible rfl
      simp only[Act.put,qz,qy,qx,qj,qu,qr];refine KM (i:=11) (v:=?_) rfl (by kernel_rfl) (by kernel_rfl) (by kernel_rfl) (by kernel_rfl) (λ_ _ _ h=>h) (zx ⟨by rfl,?_⟩) (by assumption) ?_;rotate_left
      ·intro w hSw;obtain⟨hS1,hS2,Z8,KR,hS5⟩:=hSw;go_simp;try with_reducible rfl
      simp only[Act.put,qz,qy,qx,qj,qu,qr];refine KM (i:=12) (v:=?_) rfl (by kernel_rfl) (by kernel_rfl) (by kernel_rfl) (by kernel_rfl) (λ_ _ _ h=>h) (zx ⟨by rfl,?_⟩) (by assumption) ?_;rotate_left
      ·intro w hSw;obtain⟨hS1,hS2,Z8,KR,hS5⟩:=hSw;go_simp;try with_reducible rfl
      simp only[Act.put,qz,qy,qx,qj,qu,qr];refine KM (i:=13) (v:=?_) rfl (by kernel_rfl) (by kernel_rfl) (by kernel_rfl) (by kernel_rfl) (λ_ _ _ h=>h) (zx ⟨by rfl,?_⟩) (by assumption) ?_;rotate_left
      ·intro w hSw;obtain⟨hS1,hS2,Z8,KR,hS5⟩:=hSw;go_simp;try with_reducible rfl
      simp only[Act.put,qz,qy,qx,qj,qu,qr];refine KM (i:=15) (v:=?_) rfl (by kernel_rfl) (by kernel_rfl) (by kernel_rfl) (by kernel_rfl) (λ_ _ _ h=>h) (zx ⟨by rfl,?_⟩) (by assumption) ?_;rotate_left
      ·intro w hSw;obtain⟨hS1,hS2,Z8,KR,hS5⟩:=hSw;go_simp;try with_reducible rfl
      simp only[Act.put,qz,qy,qx,qj,qu,qr];refine KM (i:=18) (v:=?_) rfl (by kernel_rfl) (by kernel_rfl) (by kernel_rfl) (by kernel_rfl) (λ_ _ _ h=>h) (zx ⟨by rfl,?_⟩) (by assumption) ?_;rotate_left
      ·intro w hSw;obtain⟨hS1,hS2,Z8,KR,hS5⟩:=hSw;go_simp;try with_reducible rfl
      simp only[Act.put,qz,qy,qx,qj,qu,qr];refine KM (i:=19) (v:=?_) rfl (by kernel_rfl) (by kernel_rfl) (by kernel_rfl) (by kernel_rfl) (λ_ _ _ h=>h) (zx ⟨by rfl,?_⟩) (by assumption) ?_;rotate_left
      ·intro w hSw;obtain⟨hS1,hS2,Z8,KR,hS5⟩:=hSw;go_simp;try with_reducible rfl
      simp only[Act.put,qz,qy,qx,qj,qu,qr];refine KM (i:=20) (v:=?_) rfl (by kernel_rfl) (by kernel_rfl) (by kernel_rfl) (by kernel_rfl) (λ_ _ _ h=>h) (zx ⟨by rfl,?_⟩) (by assumption) ?_;rotate_left
      ·intro w hSw;obtain⟨hS1,hS2,Z8,KR,hS5⟩:=hSw;go_simp;try with_reducible rfl
      simp only[Act.put,qz,qy,qx,qj,qu,qr];refine KM (i:=21) (v:=?_) rfl (by kernel_rfl) (by kernel_rfl) (by kernel_rfl) (by kernel_rfl) (λ_ _ _ h=>h) (zx ⟨by rfl,?_⟩) (by assumption) ?_;rotate_left
      ·intro w hSw;obtain⟨hS1,hS2,Z8,KR,hS5⟩:=hSw;go_simp;try with_reducible rfl
      simp only[Act.put,qz,qy,qx,qj,qu,qr];refine KM (i:=22) (v:=?_) rfl (by kernel_rfl) (by kernel_rfl) (by kernel_rfl) (by kernel_rfl) (λ_ _ _ h=>h) (zx ⟨by rfl,?_⟩) (by assumption) ?_;rotate_left
      ·intro w hSw;obtain⟨hS1,hS2,Z8,KR,hS5⟩:=hSw;go_simp;try with_reducible rfl
      simp only[Act.put,qz,qy,qx,qj,qu,qr];refine KM (i:=23) (v:=?_) rfl (by kernel_rfl) (by kernel_rfl) (by kernel_rfl) (by kernel_rfl) (λ_ _ _ h=>h) (zx ⟨by rfl,?_⟩) (by assumption) ?_;rotate_left
      ·intro w hSw;obtain⟨hS1,hS2,Z8,KR,hS5⟩:=hSw;go_simp;try with_reducible rfl
      simp only[Act.put,qz,qy,qx,qj,qu,qr];refine KM (i:=24) (v:=?_) rfl (by kernel_rfl) (by kernel_rfl) (by kernel_rfl) (by kernel_rfl) (λ_ _ _ h=>h) (zx ⟨by rfl,?_⟩) (by assumption) ?_;rotate_left
      ·intro w hSw;obtain⟨hS1,hS2,Z8,KR,hS5⟩:=hSw;go_simp;try with_reducible rfl
      simp only[Act.put,qz,qy,qx,qj,qu,qr];refine KM (i:=25) (v:=?_) rfl (by kernel_rfl) (by kernel_rfl) (by kernel_rfl) (by kernel_rfl) (λ_ _ _ h=>h) (zx ⟨by rfl,?_⟩) (by assumption) ?_;rotate_left
      ·intro w hSw;obtain⟨hS1,hS2,Z8,KR,hS5⟩:=hSw;go_simp;try with_reducible rfl
      simp only[Act.put,qz,qy,qx,qj,qu,qr];refine zhx λa0 ha0=>?_;refine zeO (λlisted a wx=>∃(b14 b16 VE b17:Bool) (VT VU VF x66:Value),listed=#[true,true,true,true,true,true,true,true,true,true,true,true,true,true,b14,true,b16,b17,true,true,true,true,true,true,true,true,VE,false,false,false,false,false,false,false]/\a={tmps:=(((a0.tmps.setIfInBounds 63 VT).setIfInBounds 65 VU).setIfInBounds 66 x66).setIfInBounds 75 VF,defers:=[]}/\U3 W B f.Qo c (.slice lA f.Qo.length lc) (.slice A1 m.Qp.length c1) (.slice A2 m.ends.length c2) (.slice A3 m.Qt.length c3) b14 b16 VE b17 VT VU VF x66 wx) ?hend ?hstep _ _ _ _ (by decide) ⟨false,false,false,false,a0.tmps.getD 63 undef,a0.tmps.getD 65 undef,a0.tmps.getD 75 undef,a0.tmps.getD 66 undef,rfl,(by rw[ha0];rfl),U3.start _ _ _ _ _ _ _ _ _ _ _ _⟩
      case hend=>
       intro listed a wx hI hre;obtain⟨b14,b16,VE,b17,VT,VU,VF,x66,rfl,rfl,hC⟩:=hI;have h14:b14=true:=zcM (i:=14) hre rfl (by kernel_rfl);subst h14;have h16:b16=true:=zcM (i:=16) hre rfl (by kernel_rfl);subst h16;have UE:VE=true:=zcM (i:=26) hre rfl (by kernel_rfl);subst UE;have h17:b17=true:=zcM (i:=17) hre rfl (by kernel_rfl);subst h17;have h27:false=true:=zcM (i:=27) hre rfl (by kernel_rfl);cases h27
      case hstep=>
       subst ha0;intro fuel listed a wx i hfu hI hi;obtain⟨b14,b16,VE,b17,VT,VU,VF,x66,rfl,rfl,hC⟩:=hI;have hop:=zcg hi;have hi34:i<34:=by
        have:=(ky.1 hop).1;simpa using this
       simp only[qj,qu,qr];have rbm:=hlL HRW.out.r (by decide);have fbm:=hlL HMW.out.x (by decide);have mbm:=hlL hmet (by decide);have hS:∀{b:Bool} {wy:World},Off (if b then(Value.slice lA f.Qo.length lc).ownBlock.toList else []) W wy->wy.cell? ⟨rb,2,none⟩=some (.pointer (some ⟨fb,0,none⟩))/\wy.cell? ⟨w6.heap.size,0,none⟩=some (.slice A1 m.Qp.length c1)/\wy.cell? ⟨w6.heap.size,1,none⟩=some (.slice A2 m.ends.length c2)/\wy.cell? ⟨w6.heap.size,2,none⟩=some (.slice A3 m.Qt.length c3)/\wy.cell? ⟨fb,2,none⟩=some (.slice mA f.Qr.length mc):=λ{b wy} ho=>by
        cases b with
        |true=>exact hST _ wy ho rbm fbm mbm
        |false=>exact hST [] wy ho (by simp) (by simp) (by simp)
       rcases zlX i hi34 with rfl|rfl|rfl|rfl|rfl|rfl|rfl|rfl|rfl|rfl|rfl|rfl|rfl|rfl|rfl|rfl|rfl|rfl|rfl|rfl|rfl|rfl|rfl|rfl|rfl|rfl|rfl|rfl|rfl|rfl|rfl|rfl|rfl|rfl
       case inl=>cases hop
       all_goals first|(exfalso;revert hop;clear hi;simp;done)|skip
       ·have hb:b14=false:=(by simpa using hop);subst hb;have e1:wx.cell? ⟨fb,1,none⟩=some (.slice lA f.Qo.length lc):=(hC.off.cell zsS (by
         cases b17 with
         |true=>exact fbm
         |false=>simp)).trans d6
        refine J6 rfl rfl (zda (v:=.slice lA f.Qo.length lc) (w':=wx) (by go_simp;try rfl) ?_);have hC':=hC.load;exact⟨.inr (hS hC'.off),.inl ⟨true,b16,VE,b17,_,VU,VF,x66,rfl,rfl,hC'⟩⟩
       ·have hb:b16=false:=(by simpa using hop);subst hb;refine J6 rfl rfl (zda (v:=.slice (some ⟨wx.heap.size,0,none⟩) 1 1) (w':=wx.alloc (.cells #[.int .u8 c.toNat] 5)) (by go_simp;try rfl) ?_);have hC':=hC.zuU;exact⟨.inr (hS hC'.off),.inl ⟨b14,true,VE,b17,VT,_,VF,x66,rfl,rfl,hC'⟩⟩
       ·have hb:b17=false:=(by simpa using hop);have Gw:b14=true:=zcN hi rfl 14 (by kernel_rfl);have zsT:b16=true:=zcN hi rfl 16 (by kernel_rfl);subst hb;subst Gw;subst zsT;obtain⟨g,hx65,hgW,hgx⟩:=hC.u16 rfl;obtain rfl:=hC.l14 rfl;subst hx65;have hrow:wx.ownsRow B 5 1 (.slice lA f.Qo.length lc) f.Qo.length (JD f.Qo):=(show Off [] W wx from hC.off).own HMW.out.l (λk hk=>by simp);refine J6 rfl rfl (zel (.tmp 63) (.tmp 65) 25 rfl B 5 _ _ 1 1 zG zmk zml zmm zlt rfl (by decide) (.slice lA f.Qo.length lc) f.Qo.length (JD f.Qo) rfl hrow (some ⟨g,0,none⟩) 1 1 [.int .u8 c.toNat] rfl (λh=>by cases h) rfl (zgY (cs:=#[.int .u8 c.toNat]) hgx) (by intro u hu;simp at hu;subst hu;rfl) (by unfold maxLen;omega) (by omega) (qm (qm hBw HOW.out.size) hC.off.size) λv1 w1 ho hg _=>?_);have hC':=hC.zuW hg hllt ho;exact⟨.inr (hS hC'.off),.inl ⟨true,true,VE,true,_,_,VF,_,rfl,rfl,hC'⟩⟩
       ·have hb:VE=false:=(by simpa using hop);subst hb;refine J6 rfl rfl (zda (v:=.slice (some ⟨wx.heap.size,0,none⟩) 1 1) (w':=wx.alloc (.cells #[.slice A1 m.Qp.length c1,.slice A2 m.ends.length c2,.slice A3 m.Qt.length c3] 79)) (by go_simp;try rfl) ?_);have hC':=hC.zuV;exact⟨.inr (hS hC'.off),.inl ⟨b14,b16,true,b17,VT,VU,_,x66,rfl,rfl,hC'⟩⟩
       ·have hb17:b17=true:=zcN hi rfl 17 (by kernel_rfl);have hb26:VE=true:=zcN hi rfl 26 (by kernel_rfl);subst hb17;subst hb26;obtain⟨Gw,zsT⟩:=hC.d17 rfl;subst Gw;subst zsT;obtain⟨g,hx75,hgW,hgx⟩:=hC.u26 rfl;obtain rfl:=hC.l14 rfl;subst hx75;have hof:Off (Value.slice lA f.Qo.length lc).ownBlock.toList W wx:=hC.off;have hrow:wx.ownsRow B 79 3 (.slice mA f.Qr.length mc) f.Qr.length (gv cs):=hof.QS HCS.out.o (zea HMW.out.l) (by decide);refine J6 rfl rfl (zel (.tmp 73) (.tmp 75) 26 rfl B 79 _ _ 3 72 Tryz.underlying26 zlu zlv zlw zka rfl (by decide) (.slice mA f.Qr.length mc) f.Qr.length (gv cs) rfl hrow (some ⟨g,0,none⟩) 1 1 [.slice A1 m.Qp.length c1,.slice A2 m.ends.length c2,.slice A3 m.Qt.length c3] rfl (λh=>by cases h) rfl (zgY (cs:=#[.slice A1 m.Qp.length c1,.slice A2 m.ends.length c2,.slice A3 m.Qt.length c3]) hgx) (by intro u hu;simp at hu;rcases hu with rfl|rfl|rfl<;>rfl) (by unfold maxLen;omega) (by omega) (qm (qm hBw HOW.out.size) hC.off.size) λv1 w1 ho hg _=>?_);have hg1:=zdE hg;have VG:Off ((Value.slice lA f.Qo.length lc).ownBlock.toList++(Value.slice mA f.Qr.length mc).ownBlock.toList) W w1:=
         (hof.mono (λk hk=>.inl (jL _ hk))).trans (hg1.mono (λk hk=>.inl (List.mem_append_right _ hk)))
        have zuh:rb∉(Value.slice lA f.Qo.length lc).ownBlock.toList++(Value.slice mA f.Qr.length mc).ownBlock.toList:=λhq=>(qU.1 hq).elim rbm (hmL HRW.out.r (by decide));have zsU:fb∉(Value.slice lA f.Qo.length lc).ownBlock.toList++(Value.slice mA f.Qr.length mc).ownBlock.toList:=λhq=>(qU.1 hq).elim fbm (hmL HMW.out.x (by decide));have mbm1:w6.heap.size∉(Value.slice lA f.Qo.length lc).ownBlock.toList++(Value.slice mA f.Qr.length mc).ownBlock.toList:=λhq=>(qU.1 hq).elim mbm (λhq=>(hmlt _ (by simpa using hq)).2 rfl);have hS1:=hST _ w1 VG zuh zsU mbm1;have c1x:w1.cell? ⟨fb,1,none⟩=some (.slice lA f.Qo.length lc):=(VG.cell zsS zsU).trans d6;have c2x:=hS1.2.2.2.2;have hxf:=(VG.block fb zsS zsU).trans HMW.out.x;have z1:w1.frozen? ⟨fb,1,none⟩=false:=qf _ _ 1 _ _ hxf;have z2x:w1.frozen? ⟨fb,2,none⟩=false:=qf _ _ 2 _ _ hxf;have hl1:w1.ownsRow B 5 1 x66 (f.Qo.length+1) (JD f.Qo++[.int .u8 c.toNat]):=hg1.QS (hC.r17 rfl) (zea hrow) (by decide);obtain⟨g8,Z3,hx66⟩:=Jm hl1 (by omega);obtain⟨g9,zui,hv1⟩:=Jm ho (by omega);subst hx66;subst hv1;have UF:=Off.setCell w1 fb 1 (.slice (some ⟨g8,0,none⟩) (f.Qo.length+1) Z3);have zuj:=qs w1 fb 1 _ _ (.slice (some ⟨g8,0,none⟩) (f.Qo.length+1) Z3) hxf;have z2:(w1.setCell ⟨fb,1,none⟩ (.slice (some ⟨g8,0,none⟩) (f.Qo.length+1) Z3)).frozen? ⟨fb,2,none⟩=false:=qf _ _ 2 _ _ zuj;have c2y:(w1.setCell ⟨fb,1,none⟩ (.slice (some ⟨g8,0,none⟩) (f.Qo.length+1) Z3)).cell? ⟨fb,2,none⟩=some (.slice mA f.Qr.length mc):=qc _ _ 2 _ _ (0,0) zuj;have hS2:(w1.setCell ⟨fb,1,none⟩ (.slice (some ⟨g8,0,none⟩) (f.Qo.length+1) Z3)).cell? ⟨rb,2,none⟩=some (.pointer (some ⟨fb,0,none⟩))/\(w1.setCell ⟨fb,1,none⟩ (.slice (some ⟨g8,0,none⟩) (f.Qo.length+1) Z3)).cell? ⟨w6.heap.size,0,none⟩=some (.slice A1 m.Qp.length c1)/\(w1.setCell ⟨fb,1,none⟩ (.slice (some ⟨g8,0,none⟩) (f.Qo.length+1) Z3)).cell? ⟨w6.heap.size,1,none⟩=some (.slice A2 m.ends.length c2)/\(w1.setCell ⟨fb,1,none⟩ (.slice (some ⟨g8,0,none⟩) (f.Qo.length+1) Z3)).cell? ⟨w6.heap.size,2,none⟩=some (.slice A3 m.Qt.length c3)/\(w1.setCell ⟨fb,1,none⟩ (.slice (some ⟨g8,0,none⟩) (f.Qo.length+1) Z3)).cell? ⟨fb,2,none⟩=some (.slice mA f.Qr.length mc):=by
         have hz1:=VG.size;have hz5:=Jq.out.size;have hz6:=Gp.out.size;exact⟨(UF.cell (by omega) (by simp;omega)).trans hS1.1,(UF.cell (by omega) (by simp;omega)).trans hS1.2.1,(UF.cell (by omega) (by simp;omega)).trans hS1.2.2.1,(UF.cell (by omega) (by simp;omega)).trans hS1.2.2.2.1,c2y⟩
        have hFin:=HMW.out.more hr0 HCS.out VG (λk hk=>by
         rcases qU.1 hk with hk|hk
         ·obtain⟨a1,a2,a3,a4,a5⟩:=zea HMW.out.l k hk;exact⟨a1,a2,a3,a4,by simp at a5;simp[a5]⟩
         ·obtain⟨a1,a2,a3,a4,a5⟩:=zea HCS.out.o k hk;exact⟨a1,a2,a3,a4,by simp at a5;simp[a5]⟩) hl1 ho Hsz.out HOM.out
        have Gi:=Off.setCell (w1.setCell ⟨fb,1,none⟩ (.slice (some ⟨g8,0,none⟩) (f.Qo.length+1) Z3)) fb 2 (.slice (some ⟨g9,0,none⟩) (f.Qr.length+1) zui);have HF:=qh hFin;have HRd:=qh (((HRW.out.off VG zuh).off UF (by simp;omega)).off Gi (by simp;omega));have HBl:Hid (Below B w ((w1.setCell ⟨fb,1,none⟩ (.slice (some ⟨g8,0,none⟩) (f.Qo.length+1) Z3)).setCell ⟨fb,2,none⟩ (.slice (some ⟨g9,0,none⟩) (f.Qr.length+1) zui))):=qh (by
         have b1:=HOW.out.keep hBw hB;have hz1:=VG.size;have hz2:=UF.size;have hfB:=HMW.out.hB;refine(b1.trans (VG.below (qm hBw b1.size) (λk hk=>?_))).trans ((UF.below (by omega) (λk hk=>by simp at hk;omega)).trans (Gi.below (by omega) (λk hk=>by simp at hk;omega)));rcases qU.1 hk with hk|hk
         ·exact(HMW.out.l.lt k (by simpa using hk)).1
         ·exact(HCS.out.o.lt k (by simpa using hk)).1)
        have HOk:=qh (Hk.out.letter (m:=m) (c:=c) (j:=E) (by have:=Hj1.out;have:=Hj3.out;omega) (by have:=Vs.out;omega) (by rw[Hn'.out];exact Hneg.out));obtain⟨fu,rfl⟩:∃fu,fuel=fu+6:=⟨fuel-6,by simp[zeb] at hfu;omega⟩;refine⟨.inr hS1,.inr ?_⟩;simp only[Act.put,qS,qO,qN,qz,qy,qx,qj,qu,qr];clear hfu hop hi hC hg ho hrow hof hg1 VG UF Gi hxf zuj hFin hS hl1 zuh zsU mbm1 hST hlL hmL hllt hmlt rbm fbm mbm;refine VY (i:=28) (by kernel_rfl) (J6 rfl rfl (zda (v:=.pointer (some ⟨fb,0,none⟩)) (w':=w1) (by go_simp;try rfl) ⟨.inr hS1,?_⟩));simp only[Act.put,qS,qO,qN,qz,qy,qx,qj,qu,qr];refine VY (i:=29) (by kernel_rfl) (J6 rfl rfl (zda (v:=.pointer (some ⟨fb,1,none⟩)) (w':=w1) (by go_simp;try rfl) ⟨.inr hS1,?_⟩));simp only[Act.put,qS,qO,qN,qz,qy,qx,qj,qu,qr];refine VY (i:=30) (by kernel_rfl) (J6 rfl rfl (zlx (w':=w1.setCell ⟨fb,1,none⟩ (.slice (some ⟨g8,0,none⟩) (f.Qo.length+1) Z3)) (by go_simp;try rfl) ⟨.inr hS2,?_⟩));simp only[Act.put,qS,qO,qN,qz,qy,qx,qj,qu,qr];refine VY (i:=31) (by kernel_rfl) (J6 rfl rfl (zda (v:=.pointer (some ⟨fb,0,none⟩)) (w':=w1.setCell ⟨fb,1,none⟩ (.slice (some ⟨g8,0,none⟩) (f.Qo.length+1) Z3)) (by go_simp;try rfl) ⟨.inr hS2,?_⟩));simp only[Act.put,qS,qO,qN,qz,qy,qx,qj,qu,qr];refine VY (i:=32) (by kernel_rfl) (J6 rfl rfl (zda (v:=.pointer (some ⟨fb,2,none⟩)) (w':=w1.setCell ⟨fb,1,none⟩ (.slice (some ⟨g8,0,none⟩) (f.Qo.length+1) Z3)) (by go_simp;try rfl) ⟨.inr hS2,?_⟩));simp only[Act.put,qS,qO,qN,qz,qy,qx,qj,qu,qr];refine VY (i:=33) (by kernel_rfl) (J6 rfl rfl ?_);refine zlx (w':=(w1.setCell ⟨fb,1,none⟩ (.slice (some ⟨g8,0,none⟩) (f.Qo.length+1) Z3)).setCell ⟨fb,2,none⟩ (.slice (some ⟨g9,0,none⟩) (f.Qr.length+1) zui)) ?_ ?_
        ·go_simp;try with_reducible rfl
        refine⟨.inl (by decide),?_⟩;refine zhv (by kernel_rfl) ?_ _;clear hS1 hS2 c1x c2x c2y z1 z2 z2x;go_wp2_with fail;refine zk (qW rfl _ _ _) rfl ?_;rw[HR2.out];exact⟨HBl.out,rfl,HRd.out,HOk.out,_,_,_,HF.out⟩
       all_goals (have:=zcN hi rfl 27 (by kernel_rfl);simp at this)
theorem zfs {w:World} {B e z n:Nat} {v:Value} {xs:List Value} (h:w.ownsRow B e z v n xs):∀k∈v.ownBlock.toList,B<=k/\k<w.heap.size:=λk hk=>by
 rw[zU] at hk;exact h.lt k hk
theorem zcO {w:World} {B e z n b:Nat} {v:Value} {xs:List Value} {cs:Array Value} {e':Nat} {fz:Nat×Nat} (h:w.ownsRow B e z v n xs) (hb:w.heap[b]?=some (.cells cs e' fz)) (hne:e≠e'):b∉v.ownBlock.toList:=λhk=>by
 rw[zU] at hk;rcases Za h hb hne with h1|h1
 ·rw[h1] at hk;cases hk
 ·exact h1 hk
structure RoJ (w W:World) (rb wb:Nat) (s:ByteArray) (F:RF) (round:Bool) (i1:Nat) (l:List It) (j:Nat) (vi:Value) (ZP:List Value):Prop where
 rr:RR W rb s j 0 0 F
 bx:W.heap[wb]?=some (.cells #[.bool round,vi] 96 (0,0))
 its:ZZ W w.heap.size vi l ZP
 off:Off [rb] w W
 len:l.length+i1<=j
 jle:j<=s.size
 ok:∀x∈l,gj x
theorem RoJ.QZ {w W W':World} {rb wb:Nat} {s:ByteArray} {F:RF} {round:Bool} {i1:Nat} {l:List It} {j:Nat} {vi:Value} {ZP:List Value} (h:RoJ w W rb wb s F round i1 l j vi ZP) (hw:wb≠rb) (ho:Off [rb] W W'):
  W'.heap[wb]?=some (.cells #[.bool round,vi] 96 (0,0))/\ZZ W' w.heap.size vi l ZP/\Off [rb] w W':=
 ⟨(ho.block _ (qg h.bx).1 (by simp;exact hw)).trans h.bx,h.its.off ho (QB.one h.rr.r) (by decide) (by decide),h.off.trans ho⟩
theorem RoJ.next {w W W7 w8:World} {rb wb:Nat} {s:ByteArray} {F:RF} {round:Bool} {i1:Nat} {l:List It} {j k:Nat} {vi vx v':Value} {ZP:List Value} {x:It} (h:RoJ w W rb wb s F round i1 l j vi ZP) (hw:wb≠rb) (hwb:w.heap.size<=wb) (ho:Off [rb] W W7)
  (JJ:RR W7 rb s k 0 0 F) (hm7:Kq W7 w.heap.size vx x.Qq) (hjk:j+1<=k) (hk:k<=s.size) (hx:gj x)
  (hown:w8.ownsRow w.heap.size 99 4 v' (l.length+1) (gF l ZP++[.int .i64 x.cls,.int .i64 x.ref,vx,.int .i64 x.at_])) (hg:W7.grownBy w8 vi.ownBlock):
  RoJ w (w8.setCell ⟨wb,1,none⟩ v') rb wb s F round i1 (l++[x]) k v' (ZP++[vx])/\w8.cell? ⟨wb,1,none⟩=some vi/\w8.frozen? ⟨wb,1,none⟩=false:=by
 obtain⟨KD,hi7,Ks⟩:=h.QZ hw ho;have hog:Off vi.ownBlock.toList W7 w8:=Off.grown hg (λk hk=>by rw[hk];simp);have ht:QB W7 vi.ownBlock.toList [99]:=zea hi7.o;have KJ:=(hog.block wb (qg KD).1 (zcO hi7.o KD (by decide))).trans KD;have Jr:=JJ.off hog (zcO hi7.o JJ.r (by decide));have hos:=Off.setCell w8 wb 1 v';have hts:QB w8 [wb] [96]:=QB.one KJ;have hn:=h.its.n;have e1:∀q,q<l.length->(ZP++[vx]).getD q .nilFunc=ZP.getD q .nilFunc/\(l++[x]).getD q Q7=l.getD q Q7:=λq hq=>⟨zaR _ _ _ _ (by omega),zaR _ _ _ _ hq⟩;refine⟨⟨Jr.off hos (by simp;exact λe=>hw e.symm),qs w8 wb 1 _ _ v' KJ,⟨by simp[hn],?_,λq hq=>?_⟩,(Ks.into hog (λk hk=>.inr (zfs hi7.o k hk).1)).into hos (λk hk=>by simp at hk;omega),by simp;have:=h.len;omega,hk,λy hy=>?_⟩,qc _ _ 1 _ _ (0,0) KJ,qf _ _ 1 _ _ KJ⟩
 ·rw[zgT l ZP x vx hn,qk];exact hos.QS hown hts (by decide)
 ·by_cases hql:q<l.length
  ·rw[(e1 q hql).1,(e1 q hql).2];exact hos.QS (hog.QS (hi7.m q hql) ht (by decide)) hts (by decide)
  ·obtain rfl:q=l.length:=by simp at hq;omega
   have e2:(l++[x]).getD l.length Q7=x:=zaM _ _ _;have e3:(ZP++[vx]).getD l.length .nilFunc=vx:=(by rw[<-hn];exact zaM _ _ _);rw[e2,e3];exact hos.QS (hog.QS hm7 ht (by decide)) hts (by decide)
 ·rcases qU.1 hy with hy|hy
  ·exact h.ok y hy
  ·obtain rfl:=kf.1 hy;exact hx
theorem zft {s:ByteArray} {Qo:List UInt8}:∀(f:Nat) (ms:List Mk) (i:Nat) {ms':List Mk} {k:Nat},Z5 s Qo f ms i=.ok (ms',k)->ms'.length+i<=ms.length+k
 |0,ms,i,ms',k,h=>by unfold Z5 at h;cases h;exact ql _
 |f+1,ms,i,ms',k,h=>by
  unfold Z5 at h;split at h
  ·rename_i hc;cases hm:Kg s Qo ms i with
   |error e=>rw[hm] at h;cases h
   |ok mj=>
    obtain⟨m,j⟩:=mj;rw[hm] at h;have:=zft f _ j h;obtain⟨h1,h2,h3⟩:=zcW hc.1 hc.2 hm;have:=(zdz h2).1;have e:(ms++[m]).length=ms.length+1:=(by simp);omega
  ·cases h;exact ql _
end Go.Proofs.YtgklikkddckgbaaGreatDoor.Mo

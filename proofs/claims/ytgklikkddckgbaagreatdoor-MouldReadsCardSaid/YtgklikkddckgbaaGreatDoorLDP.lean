import Derived.Test.YtgklikkddckgbaaGreatDoorLDL
import Derived.Test.YtgklikkddckgbaaGreatDoorLDN
/- Lemmas. -/
set_option linter.all false
set_option maxRecDepth 100000
set_option maxHeartbeats 2000000
namespace Go.Proofs.YtgklikkddckgbaaGreatDoor.Mo
open Go.RowKit
theorem zmk:Tryz.prog.info? 5=some Tryz.t5:=by kernel_rfl
theorem zml:Tryz.t5.zero=some (.int .u8 0):=by kernel_rfl
theorem zmm:Tryz.t5.size=1:=by kernel_rfl
theorem zlt:Tryz.t5.bytes=1:=by kernel_rfl
theorem zlu:Tryz.prog.info? 79=some Tryz.t79:=by kernel_rfl
theorem zlv:Tryz.t79.zero=some (.agg #[.slice none 0 0,.slice none 0 0,.slice none 0 0]):=by kernel_rfl
theorem zlw:Tryz.t79.size=3:=by kernel_rfl
theorem zka:Tryz.t79.bytes=72:=by kernel_rfl
section
variable {P:Program} {ops:Array Oper} {Q:Exit->Act->World->Prop}
theorem VZ {o:Oper} {a:Act} {w w':World} {v:Value} {K:Act->World->Prop} (h:(execOp a.eval o).run P w=.ok (.value v) w') (hk:K (a.put o.dst v) w'):o.wp P a w K Q:=by
 unfold Oper.wp;rw[h];exact hk
theorem zlx {o:Oper} {a:Act} {w w':World} {K:Act->World->Prop} (h:(execOp a.eval o).run P w=.ok .skip w') (hk:K (a.put o.dst undef) w'):o.wp P a w K Q:=by
 unfold Oper.wp;rw[h];exact hk
end
theorem zaM {α:Type} (l:List α) (x d:α):(l++[x]).getD l.length d=x:=by simp[qj]
theorem zaR {α:Type} (l:List α) (x d:α) (k:Nat) (h:k<l.length):(l++[x]).getD k d=l.getD k d:=by simp[qj,qQ h]
theorem pL.more {W W2:World} {B fb:Nat} {f:Fm} {vl vm vs Y3 VY vf ve vb:Value} {c:UInt8} {m:Met} {cs:List (Value×Value×Value)} {vs2:List Value} {L:List Nat} (h:pL W B fb f vl vm vs) (hr0:f.rows=[])
  (hcs:Zy W B vm f.gQ cs) (ho:Off L W W2) (ht:pc W L [5,79]) (hl:W2.ownsRow B 5 1 Y3 (f.gN.length+1) (Z6 f.gN++[.int .u8 c.toNat])) (hm:W2.ownsRow B 79 3 VY (f.gQ.length+1) (vS cs++[vf,ve,vb]))
  (hz:pl m) (JE:OM W B m vf ve vb vs2):
  pL ((W2.setCell ⟨fb,1,none⟩ Y3).setCell ⟨fb,2,none⟩ VY) B fb {f with gN:=f.gN++[c],gQ:=f.gQ++[m]} Y3 VY vs:=by
 have Qg:fb∉L:=λhq=>by
  obtain⟨cs',e,fz,hb,hT⟩:=ht fb hq;rw[h.x] at hb;simp at hb hT;have h1:=hb.2.1;rcases hT with hT|hT<;>(rw[hT] at h1;exact absurd h1 (by decide))
 have hx2:=(ho.block fb h.lt Qg).trans h.x;have ho1:=Off.setCell W2 fb 1 Y3;have hx3:=qs W2 fb 1 _ _ Y3 hx2;have ho2:=Off.setCell (W2.setCell ⟨fb,1,none⟩ Y3) fb 2 VY;have hx4:=qs _ fb 2 _ _ VY hx3;have t1:pc W2 [fb] [92]:=pc.one hx2;have t2:pc (W2.setCell ⟨fb,1,none⟩ Y3) [fb] [92]:=pc.one hx3;refine⟨hx4,h.hB,?_,⟨cs++[(vf,ve,vb)],by simp[hcs.n],?_,?_⟩,?_⟩
 ·have e:Z6 (f.gN++[c])=Z6 f.gN++[.int .u8 c.toNat]:=by simp[Z6]
  show World.ownsRow _ B 5 1 Y3 (f.gN++[c]).length (Z6 (f.gN++[c]));rw[e,qv,zv];exact ho2.pp (ho1.pp hl t1 (by decide)) t2 (by decide)
 ·show World.ownsRow _ B 79 3 VY (f.gQ++[m]).length _;rw[zeH,qv,zv];exact ho2.pp (ho1.pp hm t1 (by decide)) t2 (by decide)
 ·intro k hk;have keep:∀{m:Met} {a b c:Value} {vs:List Value},OM W B m a b c vs->OM ((W2.setCell ⟨fb,1,none⟩ Y3).setCell ⟨fb,2,none⟩ VY) B m a b c vs:=λhq=>
   OM.J4 (OM.J4 (OM.J4 hq ho ht (by decide) (by decide) (by decide)) ho1 t1 (by decide) (by decide) (by decide)) ho2 t2 (by decide) (by decide) (by decide)
  have hk2:k<f.gQ.length+1:=by simpa using hk
  show pl ((f.gQ++[m]).getD k yO)/\∃vs,OM _ B ((f.gQ++[m]).getD k yO) ((cs++[(vf,ve,vb)]).getD k default).1 ((cs++[(vf,ve,vb)]).getD k default).2.1 ((cs++[(vf,ve,vb)]).getD k default).2.2 vs;by_cases hkl:k<f.gQ.length
  ·rw[zaR _ _ _ _ hkl,zaR _ _ _ _ (by rw[hcs.n];exact hkl)];obtain⟨a,vs,b⟩:=hcs.m k hkl;exact⟨a,vs,keep b⟩
  ·obtain rfl:k=f.gQ.length:=by omega
   rw[zaM];have e:(cs++[(vf,ve,vb)]).getD f.gQ.length default=(vf,ve,vb):=(by rw[<-hcs.n];exact zaM _ _ _);rw[e];exact⟨hz,vs2,keep JE⟩
 ·obtain⟨vis,hr,_⟩:=h.r;refine⟨vis,⟨hr.n,ho2.pp (ho1.pp (ho.pp hr.o ht (by decide)) t1 (by decide)) t2 (by decide),hr.it⟩,λk hk=>?_⟩;have hk2:k<f.rows.length:=hk;rw[hr0] at hk2;simp at hk2
theorem pq.letter {f:Fm} {i j:Nat} {c:UInt8} {m:Met} (h:pq f i) (hij:i+1<=j) (hc:97<=c.toNat/\c.toNat<=122) (hn:Lib.indexByte f.gN c<0):pq {f with gN:=f.gN++[c],gQ:=f.gQ++[m]} j:=by
 refine⟨by have:=h.le;show vQ f.rows+f.rows.length<=j;omega,h.l0,h.m0,h.s0,h.lm,?_,h.it,?_,?_⟩
 ·have:=h.ll;simp;omega
 ·show(f.gN++[c]).Nodup;rw[List.nodup_append];refine⟨h.nd,by simp,λa ha b hb=>?_⟩;obtain rfl:b=c:=by simpa using hb
  rintro rfl;obtain⟨k,hk,he⟩:=jo.1 ha;have h1:=yv f.gN a;have h2:Lib.indexByte f.gN a= -1:=by omega
  exact Lib.indexByte_none h2 k (by rw[qz hk,he])
 ·intro x hx;rcases qJ.1 hx with hx|hx
  ·exact h.lt x hx
  ·obtain rfl:x=c:=by simpa using hx
   exact hc
structure Vw (W:World) (B:Nat) (gN:List UInt8) (c:UInt8) (vl vf ve vb:Value) (b14 b16 Yh b17:Bool) (Ys Yt Yi x66:Value) (wr:World):Prop where
 d17:b17=true->b14=true/\b16=true
 off:Off (if b17 then vl.ownBlock.toList else []) W wr
 l14:b14=true->Ys=vl
 u16:b16=true->∃g,Yt=.slice (some ⟨g,0,none⟩) 1 1/\W.heap.size<=g/\wr.heap[g]?=some (.cells #[.int .u8 c.toNat] 5 (0,0))
 u26:Yh=true->∃g,Yi=.slice (some ⟨g,0,none⟩) 1 1/\W.heap.size<=g/\wr.heap[g]?=some (.cells #[vf,ve,vb] 79 (0,0))
 r17:b17=true->wr.ownsRow B 5 1 x66 (gN.length+1) (Z6 gN++[.int .u8 c.toNat])
section
variable {W wr w':World} {B:Nat} {gN:List UInt8} {c:UInt8} {vl vf ve vb:Value} {b14 b16 Yh b17:Bool} {Ys Yt Yi x66:Value}
theorem Vw.start (W:World) (B:Nat) (gN:List UInt8) (c:UInt8) (vl vf ve vb Ys Yt Yi x66:Value):Vw W B gN c vl vf ve vb false false false false Ys Yt Yi x66 W.drew:=
 ⟨(λh=>by cases h),Off.drew _ _,(λh=>by cases h),(λh=>by cases h),(λh=>by cases h),(λh=>by cases h)⟩
theorem Vw.load (h:Vw W B gN c vl vf ve vb false b16 Yh b17 Ys Yt Yi x66 wr):Vw W B gN c vl vf ve vb true b16 Yh b17 vl Yt Yi x66 wr:=
 ⟨λe=>⟨rfl,(h.d17 e).2⟩,h.off,λ_=>rfl,h.u16,h.u26,h.r17⟩
theorem Vw.ztr (h:Vw W B gN c vl vf ve vb b14 false Yh b17 Ys Yt Yi x66 wr):Vw W B gN c vl vf ve vb b14 true Yh b17 Ys (.slice (some ⟨wr.heap.size,0,none⟩) 1 1) Yi x66 (wr.alloc (.cells #[.int .u8 c.toNat] 5)):=by
 refine⟨λe=>⟨(h.d17 e).1,rfl⟩,h.off.trans (Off.alloc _ _ _),h.l14,λ_=>⟨_,rfl,h.off.size,qn wr _⟩,λe=>?_,λe=>(h.r17 e).alloc _⟩;obtain⟨g,e1,e2,e3⟩:=h.u26 e;exact⟨g,e1,e2,(qa wr _ g (qg e3).1).trans e3⟩
theorem Vw.zts (h:Vw W B gN c vl vf ve vb b14 b16 false b17 Ys Yt Yi x66 wr):Vw W B gN c vl vf ve vb b14 b16 true b17 Ys Yt (.slice (some ⟨wr.heap.size,0,none⟩) 1 1) x66 (wr.alloc (.cells #[vf,ve,vb] 79)):=by
 refine⟨h.d17,h.off.trans (Off.alloc _ _ _),h.l14,λe=>?_,λ_=>⟨_,rfl,h.off.size,qn wr _⟩,λe=>(h.r17 e).alloc _⟩;obtain⟨g,e1,e2,e3⟩:=h.u16 e;exact⟨g,e1,e2,(qa wr _ g (qg e3).1).trans e3⟩
theorem Vw.ztt (h:Vw W B gN c vl vf ve vb true true Yh false Ys Yt Yi x66 wr) (hg:wr.grownBy w' vl.ownBlock) (hlt:∀k,vl.ownBlock=some k->k<W.heap.size) {x:Value} (ho:w'.ownsRow B 5 1 x (gN.length+1) (Z6 gN++[.int .u8 c.toNat])):
  Vw W B gN c vl vf ve vb true true Yh true Ys Yt Yi x w':=by
 have hof:Off vl.ownBlock.toList wr w':=zdE hg;have keep:∀{g:Nat} {o:Obj},W.heap.size<=g->wr.heap[g]?=some o->w'.heap[g]?=some o:=λ{g o} hge hgo=>by
  refine(hof.block g (qg hgo).1 (λhm=>?_)).trans hgo;have:=hlt g (by simpa using hm);omega
 refine⟨λ_=>⟨rfl,rfl⟩,?_,h.l14,λe=>?_,λe=>?_,λ_=>ho⟩
 ·have h1:Off vl.ownBlock.toList W wr:=h.off.mono (λk hk=>by simp at hk);exact h1.trans hof
 ·obtain⟨g,e1,e2,e3⟩:=h.u16 e;exact⟨g,e1,e2,keep e2 e3⟩
 ·obtain⟨g,e1,e2,e3⟩:=h.u26 e;exact⟨g,e1,e2,keep e2 e3⟩
end
section
variable {P:Program} {ops:Array Oper} {Q:Exit->Act->World->Prop} {md:Region.Mode} {S:World->Prop} {X:Nat->Bool}
theorem zhx {fuel:Nat} {listed:Array Bool} {a:Act} {w:World} (h:∀a0,a0=a->VX P md ops Q S X fuel listed a0 w):VX P md ops Q S X fuel listed a w:=h a rfl
end
theorem zlX (i:Nat) (h:i<34):i=0∨i=1∨i=2∨i=3∨i=4∨i=5∨i=6∨i=7∨i=8∨i=9∨i=10∨i=11∨i=12∨i=13∨i=14∨i=15∨i=16∨i=17∨i=18∨i=19∨i=20∨i=21∨i=22∨i=23∨i=24∨i=25∨i=26∨i=27∨i=28∨i=29∨i=30∨i=31∨i=32∨i=33:=by omega
theorem add0 (g j:Nat):(⟨g,0,none⟩:Addr).add j=⟨g,j,none⟩:=by unfold Addr.add;split<;>simp_all
theorem zgY {w:World} {g t:Nat} {cs:Array Value} (h:w.heap[g]?=some (.cells cs t (0,0))):∀ad:Addr,some (⟨g,0,none⟩:Addr)=some ad->∀j u,cs.toList[j]?=some u->w.cell? (ad.add j)=some u:=by
 intro ad e j u hu;cases e;rw[add0,jM w g j cs t (0,0) h];simpa using hu
theorem zkb (B rb fb:Nat) (s:ByteArray) (f:Fm) (i i0:Nat) (vl vm vs:Value) (w:World) (h:Rd w rb fb s i) (hv:Vars w) (h9:9<=B) (hB:B<=rb) (hm:pL w B fb f vl vm vs) (hk:pq f i0) (hi0:i0<=i) (hr0:f.rows=[]):
  Calls Tryz.prog 93 #[.pointer (some ⟨rb,0,none⟩)] w (zmj B rb fb s w (YF s f i)):=by
 have hsz:=h.sz;have hle:=h.le;have hrb:=h.lt;have Qg:=hm.lt;have hBw:B<=w.heap.size:=by omega
 generalize hR:YF s f i=R;have H:=qh h;have Hv:=qh hv;have Hm:=qh hm;have Hk:=qh hk;unfold YF at hR;have HR:=qh hR;have Hr0:=qh h;have Ho0:Hid (Off [rb] w w):=qh (Off.refl _ _);have p8:=qh (zbW rb fb s ⟨#[109,101,116,114,101,32]⟩ i w h (by decide));clear h hv hm hk hR;go_enter Tryz.func93,Tryz.ntmps93;go_wp2_with fail;refine p8.out.mono ?_;rintro e w1 Q3;have hst:YG rb fb s w (.tuple #[]) (pF (py s Zt i)) e w1:=Q3;clear Q3 p8;cases hX:pF (py s Zt i) with
 |error ep=>
  obtain⟨c,p⟩:=ep;have hR2:=HR.out;rw[hX] at hst hR2;obtain⟨rfl,ho⟩:=hst;exact⟨rfl,(Ho0.out.trans ho).keep hBw hB,by rw[<-hR2];rfl⟩
 |ok j1=>
  have hR2:=HR.out;rw[hX] at hst hR2;simp only[] at hR2;obtain⟨rfl,hrd,ho⟩:=hst;have hlen:=Ji hX;have Hj1:Hid (i<=j1):=qh (by omega);clear HR hlen hX;have HR:=qh hR2;have Vt:=qh hrd;have Ho1:=qh (Ho0.out.trans ho);clear hR2 hrd ho;have zp8:=qh (zdN rb fb s j1 w1 Vt.out);go_wp2_with fail;refine zp8.out.mono ?_;rintro e w2 ⟨ho2,hres⟩;clear zp8;have Ho2:=qh (Ho1.out.trans ho2);cases hN:pY s j1 97 122 with
  |false=>
   rw[hN,qx (by simp)] at hres;have hR2:R=.error (180,j1):=(by rw[<-HR.out,hN,qy (by simp)]);subst hres;exact⟨rfl,Ho2.out.keep hBw hB,by rw[hR2];rfl⟩
  |true=>
   rw[hN,qy rfl] at hres;have YZ:=HR.out;rw[hN,qx (by simp)] at YZ;clear HR;have HR:=qh YZ;obtain⟨rfl,Qv⟩:=hres;have X1:=qh (zh1 hN);have hbd2:=zb7 hN;generalize gZ s j1=c at*;obtain⟨r0,r1,r2,r3⟩:=Qv.cells;have hm2:=Hm.out.pz H.out Ho2.out;have hl2:=hm2.letM;obtain⟨⟨la,ll,lc,zqq⟩,hcv⟩:=hl2.conv;have hlc:=hl2.c;rw[zqq] at hcv hlc;have hix:=qh (Tryz.strings_IndexByte ⟨f.gN.toArray⟩ c.toNat w2);have e1:((c.toNat:Int)).toNat.toUInt8=c:=(by simp);rw[e1] at hix;have Hr2:=qh Qv;have Hvl:=qh zqq;clear YZ Qv hN ho2 hm2 hl2 zqq;go_wp2_with fail;refine hix.out.mono ?_;rintro e w2' ⟨rfl,rfl⟩;generalize hn':Lib.indexByte f.gN c=n at*;have Hn':=qh hn';clear hn' hix;by_cases hn:0<=n
   ·have hdn:decide (0<=n)=true:=qt hn;have HR2:Hid (R=.error (181,j1)):=qh (by rw[<-HR.out,qy hn]);have hf:=qh (gX 181 j1 w2');clear hn;go_wp2_with fail;refine hf.out.mono ?_;rintro e w5 ⟨rfl,hb5⟩;exact⟨rfl,(Ho2.out.trans (Off.of_below hb5 (ql _) [rb])).keep hBw hB,by rw[HR2.out];rfl⟩
   ·have hdn:decide (0<=n)=false:=qd hn;have hR4:=HR.out;rw[qx hn] at hR4;clear HR;have HR:=qh hR4;have p8:=qh (zbW rb fb s ⟨#[32]⟩ (j1+1) w2' Hr2.out (by decide));have Hneg:Hid (n<0):=qh (by omega);clear hR4 hn r0 r1 r2 r3 hlc hcv;go_wp2_with fail;refine p8.out.mono ?_;rintro e w3 Q3;have hst:YG rb fb s w2' (.tuple #[]) (pF (py s [32] (j1+1))) e w3:=Q3;clear Q3 p8;cases hX:pF (py s [32] (j1+1)) with
    |error ep=>
     obtain⟨c,p⟩:=ep;have hR2:=HR.out;rw[hX] at hst hR2;obtain⟨rfl,ho⟩:=hst;exact⟨rfl,(Ho2.out.trans ho).keep hBw hB,by rw[<-hR2];rfl⟩
    |ok j3=>
     have hR2:=HR.out;rw[hX] at hst hR2;simp only[] at hR2;obtain⟨rfl,hrd,ho⟩:=hst;have hlen:=Ji hX;have Hj3:Hid (j1+1<=j3):=qh (by omega);have hj3:j3<=s.size:=hrd.le;clear HR hlen hX;have HR:=qh hR2;have Ho3:=qh (Ho2.out.trans ho);obtain⟨r0,r1,r2,r3⟩:=hrd.cells;have Zi:=qh (zfG rb fb s j3 w3 hrd);clear hR2 hrd ho;go_wp2_with fail;refine Zi.out.mono ?_;rintro e w5 ⟨rfl,hrd,ho⟩;have ZW:=qh (Ho3.out.trans ho);have hEb:=zbs (s:=s) j3 hj3;have hT:s.extract j3 (zap s j3)=⟨(yM s j3 (zap s j3)).toArray⟩:=by
      apply kN;rw[<-zcp]
     have hTs:(s.extract j3 (zap s j3)).size=zap s j3-j3:=zcD hEb.2;rw[hT] at hTs;have YZ:=HR.out;rw[hT];generalize (⟨(yM s j3 (zap s j3)).toArray⟩:ByteArray)=t at hTs YZ;have zrW:=qh (zkR t w5 (Vars.off Hv.out ZW.out (by simp;omega)) (by omega));have JF:=qh hrd;generalize zap s j3=E at*;clear HR Zi hT ho hrd;go_wp2_with fail;refine zrW.out.mono ?_;rintro e w6 ⟨hb6,hres⟩;clear zrW;have hb5B:=ZW.out.keep hBw hB;have zrq:=qh (hb5B.trans ((Off.of_below hb6 (ql _) []).below (qm hBw hb5B.size) (λ_ h=>by cases h)));cases hX:Zs t with
     |error ep=>
      obtain⟨cc,p⟩:=ep;rw[hX] at hres YZ;have hres2:e=.returned (.tuple #[.agg #[.slice none 0 0,.slice none 0 0,.slice none 0 0],.agg #[.int .i64 cc,.int .i64 p]]):=hres;have hpos:=zf2 (by omega) hX;have hc0:(cc !=0)=true:=(by simpa using hpos.1);have hw1:IntKind.i64.wrap ((j3:Int)+(p:Int))=(j3:Int)+(p:Int):=qi _ (by omega);have HR2:Hid (R=.error (cc,j3+p)):=qh YZ.symm;subst hres2;clear hres hX hb6 hpos;go_wp2_with fail;have hcast:((j3:Int)+(p:Int))=((j3+p:Nat):Int):=(by omega);rw[hcast];refine(gX cc (j3+p) _).mono ?_;rintro e w7 ⟨rfl,QW⟩;refine⟨rfl,?_,by rw[HR2.out];rfl⟩;refine zrq.out.trans (Below.trans ?_ ((Off.of_below QW (ql _) []).below ?_ (λ_ h=>by cases h)))
      ·exact((qb _ _).alloc (qm hBw zrq.out.size) _).alloc (by simp;have:=qm hBw zrq.out.size;omega) _
      ·simp;have:=qm hBw zrq.out.size;omega
     |ok m=>
      rw[hX] at hres YZ;obtain⟨zqO,vf,ve,vb,vs2,rfl,JE⟩:=hres;obtain⟨A1,c1,hq1⟩:=pJ JE.gO;obtain⟨A2,c2,hq2⟩:=pJ JE.ends;obtain⟨A3,c3,hq3⟩:=pJ JE.gS;subst hq1;subst hq2;subst hq3;have HR2:Hid (R=.ok ({f with gN:=f.gN++[c],gQ:=f.gQ++[m]},E)):=qh YZ.symm;have XM:=qh hb6;have Hsz:=qh zqO;have Hom:=qh JE;obtain⟨W,hW⟩:∃W:World,W=(w6.alloc (.cells #[.slice A1 m.gO.length c1,.slice A2 m.ends.length c2,.slice A3 m.gS.length c3] 79)).alloc (.cells #[.int .i64 0,.int .i64 0] 87):=⟨_,rfl⟩;have HW:=qh hW;clear hX YZ JE zqO hb6 hW;have hbW:Below w6.heap.size w6 W:=(by rw[HW.out];exact((qb _ _).alloc (ql _) _).alloc (by simp) _);have hsW:W.heap.size=w6.heap.size+2:=(by rw[HW.out];simp);have hmet:W.heap[w6.heap.size]?=some (.cells #[.slice A1 m.gO.length c1,.slice A2 m.ends.length c2,.slice A3 m.gS.length c3] 79 (0,0)):=by
       rw[HW.out];exact(qa _ _ _ (by simp)).trans (qn w6 _)
      have hoW:Off [rb] w W:=(ZW.out.trans (Off.of_below XM.out (ql _) _)).trans (Off.of_below hbW (ql _) _);have Vs:=Hm.out.pz H.out hoW;have hrW:Rd W rb fb s E:=(JF.out.below XM.out).below hbW;have homW:OM W B m (.slice A1 m.gO.length c1) (.slice A2 m.ends.length c2) (.slice A3 m.gS.length c3) vs2:=
       OM.J4 (OM.mono Hom.out (qm hBw ZW.out.size)) (Off.of_below hbW (ql _) []) pc.nil (T:=[]) (by simp) (by simp) (by simp)
      obtain⟨cs,hcs⟩:=Vs.m;obtain⟨lA,lc,hvl⟩:=pJ Vs.l;obtain⟨mA,mc,XN⟩:=pJ hcs.o;subst hvl;subst XN;have hllt:∀k,(Value.slice lA f.gN.length lc).ownBlock=some k->k<W.heap.size:=λk hk=>(Vs.l.lt k hk).2;have hmlt:∀k,(Value.slice mA f.gQ.length mc).ownBlock=some k->k<W.heap.size/\k≠w6.heap.size:=λk hk=>by
       refine⟨(hcs.o.lt k hk).2,λe=>?_⟩;have XD:=(Hm.out.pz H.out (ZW.out.trans (Off.of_below XM.out (ql _) _)));obtain⟨cs6,hcs6⟩:=XD.m;have:=(hcs6.o.lt k hk).2;omega
      have d2:W.cell? ⟨rb,2,none⟩=some (.pointer (some ⟨fb,0,none⟩)):=hrW.cells.2.2.1;have d3:W.cell? ⟨w6.heap.size,0,none⟩=some (.slice A1 m.gO.length c1):=qc _ _ 0 _ _ (0,0) hmet;have d4:W.cell? ⟨w6.heap.size,1,none⟩=some (.slice A2 m.ends.length c2):=qc _ _ 1 _ _ (0,0) hmet;have d5:W.cell? ⟨w6.heap.size,2,none⟩=some (.slice A3 m.gS.length c3):=qc _ _ 2 _ _ (0,0) hmet;have d6:W.cell? ⟨fb,1,none⟩=some (.slice lA f.gN.length lc):=Vs.cells.2.1;have d7:W.cell? ⟨fb,2,none⟩=some (.slice mA f.gQ.length mc):=Vs.cells.2.2.1;have hne:=Vs.ne hrW;have zrr:=Vs.lt;have hrlW:=hrW.lt
      --what is held at every step but the last
      have hST:∀(L:List Nat) (wy:World),Off L W wy->rb∉L->fb∉L->w6.heap.size∉L->wy.cell? ⟨rb,2,none⟩=some (.pointer (some ⟨fb,0,none⟩))/\wy.cell? ⟨w6.heap.size,0,none⟩=some (.slice A1 m.gO.length c1)/\wy.cell? ⟨w6.heap.size,1,none⟩=some (.slice A2 m.ends.length c2)/\wy.cell? ⟨w6.heap.size,2,none⟩=some (.slice A3 m.gS.length c3)/\wy.cell? ⟨fb,2,none⟩=some (.slice mA f.gQ.length mc):=λL wy ho h1 h2 h3=>
       ⟨(ho.cell hrlW h1).trans d2,(ho.cell (by omega) h3).trans d3,(ho.cell (by omega) h3).trans d4,(ho.cell (by omega) h3).trans d5,(ho.cell zrr h2).trans d7⟩
      have hlL:∀{b:Nat} {csx:Array Value} {e:Nat} {fz:Nat×Nat},W.heap[b]?=some (.cells csx e fz)->e≠5->b∉(Value.slice lA f.gN.length lc).ownBlock.toList:=λ{b csx e fz} hb he hq=>by
       obtain⟨c0,e0,fz0,hb0,hT0⟩:=zea Vs.l b hq;rw[hb] at hb0;simp at hb0 hT0;exact he (hb0.2.1.trans hT0)
      have hmL:∀{b:Nat} {csx:Array Value} {e:Nat} {fz:Nat×Nat},W.heap[b]?=some (.cells csx e fz)->e≠79->b∉(Value.slice mA f.gQ.length mc).ownBlock.toList:=λ{b csx e fz} hb he hq=>by
       obtain⟨c0,e0,fz0,hb0,hT0⟩:=zea hcs.o b hq;rw[hb] at hb0;simp at hb0 hT0;exact he (hb0.2.1.trans hT0)
      have HMW:=qh Vs;have HCS:=qh hcs;have HRW:=qh hrW;have HOM:=qh homW;have HOW:=qh hoW;have hlx:=Hk.out.ll;have hki:=Hk.out.le;clear hbW Vs hcs hrW homW hoW;go_wp2_with fail;rw[<-HW.out];refine zhw (S:=λw'=>w'.cell? ⟨rb,2,none⟩=some (.pointer (some ⟨fb,0,none⟩))/\w'.cell? ⟨w6.heap.size,0,none⟩=some (.slice A1 m.gO.length c1)/\w'.cell? ⟨w6.heap.size,1,none⟩=some (.slice A2 m.ends.length c2)/\w'.cell? ⟨w6.heap.size,2,none⟩=some (.slice A3 m.gS.length c3)/\w'.cell? ⟨fb,2,none⟩=some (.slice mA f.gQ.length mc)) (X:=λx=>[33].contains x) (by kernel_rfl) ?_;have hHeld:=hST [] W.drew (Off.drew _ _) (by simp) (by simp) (by simp);refine Zh (i:=0) (v:=?_) rfl (by kernel_rfl) (by kernel_rfl) (by kernel_rfl) (by kernel_rfl) (λ_ _ _ h=>h) (zl ⟨by rfl,?_⟩) (by assumption) ?_;rotate_left
      ·intro w hSw;obtain⟨hS1,hS2,p9,Jl,hS5⟩:=hSw;go_simp;try with_reducible rfl
      simp only[Act.put,qu,qr,qq,qe,qp,qk];refine Zh (i:=1) (v:=?_) rfl (by kernel_rfl) (by kernel_rfl) (by kernel_rfl) (by kernel_rfl) (λ_ _ _ h=>h) (zl ⟨by rfl,?_⟩) (by assumption) ?_;rotate_left
      ·intro w hSw;obtain⟨hS1,hS2,p9,Jl,hS5⟩:=hSw;go_simp;try with_reducible rfl
      simp only[Act.put,qu,qr,qq,qe,qp,qk];refine Zh (i:=2) (v:=?_) rfl (by kernel_rfl) (by kernel_rfl) (by kernel_rfl) (by kernel_rfl) (λ_ _ _ h=>h) (zl ⟨by rfl,?_⟩) (by assumption) ?_;rotate_left
      ·intro w hSw;obtain⟨hS1,hS2,p9,Jl,hS5⟩:=hSw;go_simp;try with_reducible rfl
      simp only[Act.put,qu,qr,qq,qe,qp,qk];refine Zh (i:=3) (v:=?_) rfl (by kernel_rfl) (by kernel_rfl) (by kernel_rfl) (by kernel_rfl) (λ_ _ _ h=>h) (zl ⟨by rfl,?_⟩) (by assumption) ?_;rotate_left
      ·intro w hSw;obtain⟨hS1,hS2,p9,Jl,hS5⟩:=hSw;go_simp;try with_reducible rfl
      simp only[Act.put,qu,qr,qq,qe,qp,qk];refine Zh (i:=4) (v:=?_) rfl (by kernel_rfl) (by kernel_rfl) (by kernel_rfl) (by kernel_rfl) (λ_ _ _ h=>h) (zl ⟨by rfl,?_⟩) (by assumption) ?_;rotate_left
      ·intro w hSw;obtain⟨hS1,hS2,p9,Jl,hS5⟩:=hSw;go_simp;try with_reducible rfl
      simp only[Act.put,qu,qr,qq,qe,qp,qk];refine Zh (i:=5) (v:=?_) rfl (by kernel_rfl) (by kernel_rfl) (by kernel_rfl) (by kernel_rfl) (λ_ _ _ h=>h) (zl ⟨by rfl,?_⟩) (by assumption) ?_;rotate_left
      ·intro w hSw;obtain⟨hS1,hS2,p9,Jl,hS5⟩:=hSw;go_simp;try with_reducible rfl
      simp only[Act.put,qu,qr,qq,qe,qp,qk];refine Zh (i:=6) (v:=?_) rfl (by kernel_rfl) (by kernel_rfl) (by kernel_rfl) (by kernel_rfl) (λ_ _ _ h=>h) (zl ⟨by rfl,?_⟩) (by assumption) ?_;rotate_left
      ·intro w hSw;obtain⟨hS1,hS2,p9,Jl,hS5⟩:=hSw;go_simp;try with_reducible rfl
      simp only[Act.put,qu,qr,qq,qe,qp,qk];refine Zh (i:=7) (v:=?_) rfl (by kernel_rfl) (by kernel_rfl) (by kernel_rfl) (by kernel_rfl) (λ_ _ _ h=>h) (zl ⟨by rfl,?_⟩) (by assumption) ?_;rotate_left
      ·intro w hSw;obtain⟨hS1,hS2,p9,Jl,hS5⟩:=hSw;go_simp;try with_reducible rfl
      simp only[Act.put,qu,qr,qq,qe,qp,qk];refine Zh (i:=8) (v:=?_) rfl (by kernel_rfl) (by kernel_rfl) (by kernel_rfl) (by kernel_rfl) (λ_ _ _ h=>h) (zl ⟨by rfl,?_⟩) (by assumption) ?_;rotate_left
      ·intro w hSw;obtain⟨hS1,hS2,p9,Jl,hS5⟩:=hSw;go_simp;try with_reducible rfl
      simp only[Act.put,qu,qr,qq,qe,qp,qk];refine Zh (i:=9) (v:=?_) rfl (by kernel_rfl) (by kernel_rfl) (by kernel_rfl) (by kernel_rfl) (λ_ _ _ h=>h) (zl ⟨by rfl,?_⟩) (by assumption) ?_;rotate_left
      ·intro w hSw;obtain⟨hS1,hS2,p9,Jl,hS5⟩:=hSw;go_simp;try with_reducible rfl
      simp only[Act.put,qu,qr,qq,qe,qp,qk];refine Zh (i:=10) (v:=?_) rfl (by kernel_rfl) (by kernel_rfl) (by kernel_rfl) (by kernel_rfl) (λ_ _ _ h=>h) (zl ⟨by rfl,?_⟩) (by assumption) ?_;rotate_left
      ·intro w hSw;obtain⟨hS1,hS2,p9,Jl,hS5⟩:=hSw;go_simp;try with_reducible rfl
      simp only[Act.put,qu,qr,qq,qe,qp,qk];refine Zh (i:=11) (v:=?_) rfl (by kernel_rfl) (by kernel_rfl) (by kernel_rfl) (by kernel_rfl) (λ_ _ _ h=>h) (zl ⟨by rfl,?_⟩) (by assumption) ?_;rotate_left
      ·intro w hSw;obtain⟨hS1,hS2,p9,Jl,hS5⟩:=hSw;go_simp;try with_reducible rfl
      simp only[Act.put,qu,qr,qq,qe,qp,qk];refine Zh (i:=12) (v:=?_) rfl (by kernel_rfl) (by kernel_rfl) (by kernel_rfl) (by kernel_rfl) (λ_ _ _ h=>h) (zl ⟨by rfl,?_⟩) (by assumption) ?_;rotate_left
      ·intro w hSw;obtain⟨hS1,hS2,p9,Jl,hS5⟩:=hSw;go_simp;try with_reducible rfl
      simp only[Act.put,qu,qr,qq,qe,qp,qk];refine Zh (i:=13) (v:=?_) rfl (by kernel_rfl) (by kernel_rfl) (by kernel_rfl) (by kernel_rfl) (λ_ _ _ h=>h) (zl ⟨by rfl,?_⟩) (by assumption) ?_;rotate_left
      ·intro w hSw;obtain⟨hS1,hS2,p9,Jl,hS5⟩:=hSw;go_simp;try with_reducible rfl
      simp only[Act.put,qu,qr,qq,qe,qp,qk];refine Zh (i:=15) (v:=?_) rfl (by kernel_rfl) (by kernel_rfl) (by kernel_rfl) (by kernel_rfl) (λ_ _ _ h=>h) (zl ⟨by rfl,?_⟩) (by assumption) ?_;rotate_left
      ·intro w hSw;obtain⟨hS1,hS2,p9,Jl,hS5⟩:=hSw;go_simp;try with_reducible rfl
      simp only[Act.put,qu,qr,qq,qe,qp,qk];refine Zh (i:=18) (v:=?_) rfl (by kernel_rfl) (by kernel_rfl) (by kernel_rfl) (by kernel_rfl) (λ_ _ _ h=>h) (zl ⟨by rfl,?_⟩) (by assumption) ?_;rotate_left
      ·intro w hSw;obtain⟨hS1,hS2,p9,Jl,hS5⟩:=hSw;go_simp;try with_reducible rfl
      simp only[Act.put,qu,qr,qq,qe,qp,qk];refine Zh (i:=19) (v:=?_) rfl (by kernel_rfl) (by kernel_rfl) (by kernel_rfl) (by kernel_rfl) (λ_ _ _ h=>h) (zl ⟨by rfl,?_⟩) (by assumption) ?_;rotate_left
      ·intro w hSw;obtain⟨hS1,hS2,p9,Jl,hS5⟩:=hSw;go_simp;try with_reducible rfl
      simp only[Act.put,qu,qr,qq,qe,qp,qk];refine Zh (i:=20) (v:=?_) rfl (by kernel_rfl) (by kernel_rfl) (by kernel_rfl) (by kernel_rfl) (λ_ _ _ h=>h) (zl ⟨by rfl,?_⟩) (by assumption) ?_;rotate_left
      ·intro w hSw;obtain⟨hS1,hS2,p9,Jl,hS5⟩:=hSw;go_simp;try with_reducible rfl
      simp only[Act.put,qu,qr,qq,qe,qp,qk];refine Zh (i:=21) (v:=?_) rfl (by kernel_rfl) (by kernel_rfl) (by kernel_rfl) (by kernel_rfl) (λ_ _ _ h=>h) (zl ⟨by rfl,?_⟩) (by assumption) ?_;rotate_left
      ·intro w hSw;obtain⟨hS1,hS2,p9,Jl,hS5⟩:=hSw;go_simp;try with_reducible rfl
      simp only[Act.put,qu,qr,qq,qe,qp,qk];refine Zh (i:=22) (v:=?_) rfl (by kernel_rfl) (by kernel_rfl) (by kernel_rfl) (by kernel_rfl) (λ_ _ _ h=>h) (zl ⟨by rfl,?_⟩) (by assumption) ?_;rotate_left
      ·intro w hSw;obtain⟨hS1,hS2,p9,Jl,hS5⟩:=hSw;go_simp;try with_reducible rfl
      simp only[Act.put,qu,qr,qq,qe,qp,qk];refine Zh (i:=23) (v:=?_) rfl (by kernel_rfl) (by kernel_rfl) (by kernel_rfl) (by kernel_rfl) (λ_ _ _ h=>h) (zl ⟨by rfl,?_⟩) (by assumption) ?_;rotate_left
      ·intro w hSw;obtain⟨hS1,hS2,p9,Jl,hS5⟩:=hSw;go_simp;try with_reducible rfl
      simp only[Act.put,qu,qr,qq,qe,qp,qk];refine Zh (i:=24) (v:=?_) rfl (by kernel_rfl) (by kernel_rfl) (by kernel_rfl) (by kernel_rfl) (λ_ _ _ h=>h) (zl ⟨by rfl,?_⟩) (by assumption) ?_;rotate_left
      ·intro w hSw;obtain⟨hS1,hS2,p9,Jl,hS5⟩:=hSw;go_simp;try with_reducible rfl
      simp only[Act.put,qu,qr,qq,qe,qp,qk];refine Zh (i:=25) (v:=?_) rfl (by kernel_rfl) (by kernel_rfl) (by kernel_rfl) (by kernel_rfl) (λ_ _ _ h=>h) (zl ⟨by rfl,?_⟩) (by assumption) ?_;rotate_left
      ·intro w hSw;obtain⟨hS1,hS2,p9,Jl,hS5⟩:=hSw;go_simp;try with_reducible rfl
      simp only[Act.put,qu,qr,qq,qe,qp,qk];refine zhx λa0 ha0=>?_;refine zeO (λlisted a wx=>∃(b14 b16 Yh b17:Bool) (Ys Yt Yi x66:Value),listed=#[true,true,true,true,true,true,true,true,true,true,true,true,true,true,b14,true,b16,b17,true,true,true,true,true,true,true,true,Yh,false,false,false,false,false,false,false]/\a={tmps:=(((a0.tmps.setIfInBounds 63 Ys).setIfInBounds 65 Yt).setIfInBounds 66 x66).setIfInBounds 75 Yi,defers:=[]}/\Vw W B f.gN c (.slice lA f.gN.length lc) (.slice A1 m.gO.length c1) (.slice A2 m.ends.length c2) (.slice A3 m.gS.length c3) b14 b16 Yh b17 Ys Yt Yi x66 wx) ?hend ?hstep _ _ _ _ (by decide) ⟨false,false,false,false,a0.tmps.getD 63 undef,a0.tmps.getD 65 undef,a0.tmps.getD 75 undef,a0.tmps.getD 66 undef,rfl,(by rw[ha0];rfl),Vw.start _ _ _ _ _ _ _ _ _ _ _ _⟩
      case hend=>
       intro listed a wx hI hre;obtain⟨b14,b16,Yh,b17,Ys,Yt,Yi,x66,rfl,rfl,hC⟩:=hI;have h14:b14=true:=zcM (i:=14) hre rfl (by kernel_rfl);subst h14;have h16:b16=true:=zcM (i:=16) hre rfl (by kernel_rfl);subst h16;have h26:Yh=true:=zcM (i:=26) hre rfl (by kernel_rfl);subst h26;have h17:b17=true:=zcM (i:=17) hre rfl (by kernel_rfl);subst h17;have h27:false=true:=zcM (i:=27) hre rfl (by kernel_rfl);cases h27
      case hstep=>
       subst ha0;intro fuel listed a wx i hfu hI hi;obtain⟨b14,b16,Yh,b17,Ys,Yt,Yi,x66,rfl,rfl,hC⟩:=hI;have hop:=zcg hi;have hi34:i<34:=by
        have:=(zx.1 hop).1;simpa using this
       simp only[qe,qp,qk];have rbm:=hlL HRW.out.r (by decide);have fbm:=hlL HMW.out.x (by decide);have mbm:=hlL hmet (by decide);have hS:∀{b:Bool} {wy:World},Off (if b then(Value.slice lA f.gN.length lc).ownBlock.toList else []) W wy->wy.cell? ⟨rb,2,none⟩=some (.pointer (some ⟨fb,0,none⟩))/\wy.cell? ⟨w6.heap.size,0,none⟩=some (.slice A1 m.gO.length c1)/\wy.cell? ⟨w6.heap.size,1,none⟩=some (.slice A2 m.ends.length c2)/\wy.cell? ⟨w6.heap.size,2,none⟩=some (.slice A3 m.gS.length c3)/\wy.cell? ⟨fb,2,none⟩=some (.slice mA f.gQ.length mc):=λ{b wy} ho=>by
        cases b with
        |true=>exact hST _ wy ho rbm fbm mbm
        |false=>exact hST [] wy ho (by simp) (by simp) (by simp)
       rcases zlX i hi34 with rfl|rfl|rfl|rfl|rfl|rfl|rfl|rfl|rfl|rfl|rfl|rfl|rfl|rfl|rfl|rfl|rfl|rfl|rfl|rfl|rfl|rfl|rfl|rfl|rfl|rfl|rfl|rfl|rfl|rfl|rfl|rfl|rfl|rfl
       case inl=>cases hop
       all_goals first|(exfalso;revert hop;clear hi;simp;done)|skip
       ·have hb:b14=false:=(by simpa using hop);subst hb;have e1:wx.cell? ⟨fb,1,none⟩=some (.slice lA f.gN.length lc):=(hC.off.cell zrr (by
         cases b17 with
         |true=>exact fbm
         |false=>simp)).trans d6
        refine Kf rfl rfl (VZ (v:=.slice lA f.gN.length lc) (w':=wx) (by go_simp;try rfl) ?_);have hC':=hC.load;exact⟨.inr (hS hC'.off),.inl ⟨true,b16,Yh,b17,_,Yt,Yi,x66,rfl,rfl,hC'⟩⟩
       ·have hb:b16=false:=(by simpa using hop);subst hb;refine Kf rfl rfl (VZ (v:=.slice (some ⟨wx.heap.size,0,none⟩) 1 1) (w':=wx.alloc (.cells #[.int .u8 c.toNat] 5)) (by go_simp;try rfl) ?_);have hC':=hC.ztr;exact⟨.inr (hS hC'.off),.inl ⟨b14,true,Yh,b17,Ys,_,Yi,x66,rfl,rfl,hC'⟩⟩
       ·have hb:b17=false:=(by simpa using hop);have V0:b14=true:=zcN hi rfl 14 (by kernel_rfl);have zqP:b16=true:=zcN hi rfl 16 (by kernel_rfl);subst hb;subst V0;subst zqP;obtain⟨g,hx65,hgW,hgx⟩:=hC.u16 rfl;obtain rfl:=hC.l14 rfl;subst hx65;have hrow:wx.ownsRow B 5 1 (.slice lA f.gN.length lc) f.gN.length (Z6 f.gN):=(show Off [] W wx from hC.off).own HMW.out.l (λk hk=>by simp);refine Kf rfl rfl (zel (.tmp 63) (.tmp 65) 25 rfl B 5 _ _ 1 1 qX zmk zml zmm zlt rfl (by decide) (.slice lA f.gN.length lc) f.gN.length (Z6 f.gN) rfl hrow (some ⟨g,0,none⟩) 1 1 [.int .u8 c.toNat] rfl (λh=>by cases h) rfl (zgY (cs:=#[.int .u8 c.toNat]) hgx) (by intro u hu;simp at hu;subst hu;rfl) (by unfold maxLen;omega) (by omega) (qm (qm hBw HOW.out.size) hC.off.size) λv1 w1 ho hg _=>?_);have hC':=hC.ztt hg hllt ho;exact⟨.inr (hS hC'.off),.inl ⟨true,true,Yh,true,_,_,Yi,_,rfl,rfl,hC'⟩⟩
       ·have hb:Yh=false:=(by simpa using hop);subst hb;refine Kf rfl rfl (VZ (v:=.slice (some ⟨wx.heap.size,0,none⟩) 1 1) (w':=wx.alloc (.cells #[.slice A1 m.gO.length c1,.slice A2 m.ends.length c2,.slice A3 m.gS.length c3] 79)) (by go_simp;try rfl) ?_);have hC':=hC.zts;exact⟨.inr (hS hC'.off),.inl ⟨b14,b16,true,b17,Ys,Yt,_,x66,rfl,rfl,hC'⟩⟩
       ·have hb17:b17=true:=zcN hi rfl 17 (by kernel_rfl);have hb26:Yh=true:=zcN hi rfl 26 (by kernel_rfl);subst hb17;subst hb26;obtain⟨V0,zqP⟩:=hC.d17 rfl;subst V0;subst zqP;obtain⟨g,hx75,hgW,hgx⟩:=hC.u26 rfl;obtain rfl:=hC.l14 rfl;subst hx75;have hof:Off (Value.slice lA f.gN.length lc).ownBlock.toList W wx:=hC.off;have hrow:wx.ownsRow B 79 3 (.slice mA f.gQ.length mc) f.gQ.length (vS cs):=hof.pp HCS.out.o (zea HMW.out.l) (by decide);refine Kf rfl rfl (zel (.tmp 73) (.tmp 75) 26 rfl B 79 _ _ 3 72 Tryz.underlying26 zlu zlv zlw zka rfl (by decide) (.slice mA f.gQ.length mc) f.gQ.length (vS cs) rfl hrow (some ⟨g,0,none⟩) 1 1 [.slice A1 m.gO.length c1,.slice A2 m.ends.length c2,.slice A3 m.gS.length c3] rfl (λh=>by cases h) rfl (zgY (cs:=#[.slice A1 m.gO.length c1,.slice A2 m.ends.length c2,.slice A3 m.gS.length c3]) hgx) (by intro u hu;simp at hu;rcases hu with rfl|rfl|rfl<;>rfl) (by unfold maxLen;omega) (by omega) (qm (qm hBw HOW.out.size) hC.off.size) λv1 w1 ho hg _=>?_);have hg1:=zdE hg;have Yj:Off ((Value.slice lA f.gN.length lc).ownBlock.toList++(Value.slice mA f.gQ.length mc).ownBlock.toList) W w1:=
         (hof.mono (λk hk=>.inl (jn _ hk))).trans (hg1.mono (λk hk=>.inl (List.mem_append_right _ hk)))
        have zsA:rb∉(Value.slice lA f.gN.length lc).ownBlock.toList++(Value.slice mA f.gQ.length mc).ownBlock.toList:=λhq=>(qJ.1 hq).elim rbm (hmL HRW.out.r (by decide));have zrs:fb∉(Value.slice lA f.gN.length lc).ownBlock.toList++(Value.slice mA f.gQ.length mc).ownBlock.toList:=λhq=>(qJ.1 hq).elim fbm (hmL HMW.out.x (by decide));have mbm1:w6.heap.size∉(Value.slice lA f.gN.length lc).ownBlock.toList++(Value.slice mA f.gQ.length mc).ownBlock.toList:=λhq=>(qJ.1 hq).elim mbm (λhq=>(hmlt _ (by simpa using hq)).2 rfl);have hS1:=hST _ w1 Yj zsA zrs mbm1;have c1x:w1.cell? ⟨fb,1,none⟩=some (.slice lA f.gN.length lc):=(Yj.cell zrr zrs).trans d6;have c2x:=hS1.2.2.2.2;have hxf:=(Yj.block fb zrr zrs).trans HMW.out.x;have z1:w1.frozen? ⟨fb,1,none⟩=false:=qf _ _ 1 _ _ hxf;have z2x:w1.frozen? ⟨fb,2,none⟩=false:=qf _ _ 2 _ _ hxf;have hl1:w1.ownsRow B 5 1 x66 (f.gN.length+1) (Z6 f.gN++[.int .u8 c.toNat]):=hg1.pp (hC.r17 rfl) (zea hrow) (by decide);obtain⟨g8,Qz,hx66⟩:=Zv hl1 (by omega);obtain⟨g9,zqa,hv1⟩:=Zv ho (by omega);subst hx66;subst hv1;have Y4:=Off.setCell w1 fb 1 (.slice (some ⟨g8,0,none⟩) (f.gN.length+1) Qz);have zsB:=qs w1 fb 1 _ _ (.slice (some ⟨g8,0,none⟩) (f.gN.length+1) Qz) hxf;have z2:(w1.setCell ⟨fb,1,none⟩ (.slice (some ⟨g8,0,none⟩) (f.gN.length+1) Qz)).frozen? ⟨fb,2,none⟩=false:=qf _ _ 2 _ _ zsB;have c2y:(w1.setCell ⟨fb,1,none⟩ (.slice (some ⟨g8,0,none⟩) (f.gN.length+1) Qz)).cell? ⟨fb,2,none⟩=some (.slice mA f.gQ.length mc):=qc _ _ 2 _ _ (0,0) zsB;have hS2:(w1.setCell ⟨fb,1,none⟩ (.slice (some ⟨g8,0,none⟩) (f.gN.length+1) Qz)).cell? ⟨rb,2,none⟩=some (.pointer (some ⟨fb,0,none⟩))/\(w1.setCell ⟨fb,1,none⟩ (.slice (some ⟨g8,0,none⟩) (f.gN.length+1) Qz)).cell? ⟨w6.heap.size,0,none⟩=some (.slice A1 m.gO.length c1)/\(w1.setCell ⟨fb,1,none⟩ (.slice (some ⟨g8,0,none⟩) (f.gN.length+1) Qz)).cell? ⟨w6.heap.size,1,none⟩=some (.slice A2 m.ends.length c2)/\(w1.setCell ⟨fb,1,none⟩ (.slice (some ⟨g8,0,none⟩) (f.gN.length+1) Qz)).cell? ⟨w6.heap.size,2,none⟩=some (.slice A3 m.gS.length c3)/\(w1.setCell ⟨fb,1,none⟩ (.slice (some ⟨g8,0,none⟩) (f.gN.length+1) Qz)).cell? ⟨fb,2,none⟩=some (.slice mA f.gQ.length mc):=by
         have hz1:=Yj.size;have hz5:=ZW.out.size;have hz6:=XM.out.size;exact⟨(Y4.cell (by omega) (by simp;omega)).trans hS1.1,(Y4.cell (by omega) (by simp;omega)).trans hS1.2.1,(Y4.cell (by omega) (by simp;omega)).trans hS1.2.2.1,(Y4.cell (by omega) (by simp;omega)).trans hS1.2.2.2.1,c2y⟩
        have hFin:=HMW.out.more hr0 HCS.out Yj (λk hk=>by
         rcases qJ.1 hk with hk|hk
         ·obtain⟨a1,a2,a3,a4,a5⟩:=zea HMW.out.l k hk;exact⟨a1,a2,a3,a4,by simp at a5;simp[a5]⟩
         ·obtain⟨a1,a2,a3,a4,a5⟩:=zea HCS.out.o k hk;exact⟨a1,a2,a3,a4,by simp at a5;simp[a5]⟩) hl1 ho Hsz.out HOM.out
        have VK:=Off.setCell (w1.setCell ⟨fb,1,none⟩ (.slice (some ⟨g8,0,none⟩) (f.gN.length+1) Qz)) fb 2 (.slice (some ⟨g9,0,none⟩) (f.gQ.length+1) zqa);have HF:=qh hFin;have HRd:=qh (((HRW.out.off Yj zsA).off Y4 (by simp;omega)).off VK (by simp;omega));have HBl:Hid (Below B w ((w1.setCell ⟨fb,1,none⟩ (.slice (some ⟨g8,0,none⟩) (f.gN.length+1) Qz)).setCell ⟨fb,2,none⟩ (.slice (some ⟨g9,0,none⟩) (f.gQ.length+1) zqa))):=qh (by
         have b1:=HOW.out.keep hBw hB;have hz1:=Yj.size;have hz2:=Y4.size;have hfB:=HMW.out.hB;refine(b1.trans (Yj.below (qm hBw b1.size) (λk hk=>?_))).trans ((Y4.below (by omega) (λk hk=>by simp at hk;omega)).trans (VK.below (by omega) (λk hk=>by simp at hk;omega)));rcases qJ.1 hk with hk|hk
         ·exact(HMW.out.l.lt k (by simpa using hk)).1
         ·exact(HCS.out.o.lt k (by simpa using hk)).1)
        have HOk:=qh (Hk.out.letter (m:=m) (c:=c) (j:=E) (by have:=Hj1.out;have:=Hj3.out;omega) (by have:=X1.out;omega) (by rw[Hn'.out];exact Hneg.out));obtain⟨fu,rfl⟩:∃fu,fuel=fu+6:=⟨fuel-6,by simp[zeb] at hfu;omega⟩;refine⟨.inr hS1,.inr ?_⟩;simp only[Act.put,kd,zS,zR,qu,qr,qq,qe,qp,qk];clear hfu hop hi hC hg ho hrow hof hg1 Yj Y4 VK hxf zsB hFin hS hl1 zsA zrs mbm1 hST hlL hmL hllt hmlt rbm fbm mbm;refine zbL (i:=28) (by kernel_rfl) (Kf rfl rfl (VZ (v:=.pointer (some ⟨fb,0,none⟩)) (w':=w1) (by go_simp;try rfl) ⟨.inr hS1,?_⟩));simp only[Act.put,kd,zS,zR,qu,qr,qq,qe,qp,qk];refine zbL (i:=29) (by kernel_rfl) (Kf rfl rfl (VZ (v:=.pointer (some ⟨fb,1,none⟩)) (w':=w1) (by go_simp;try rfl) ⟨.inr hS1,?_⟩));simp only[Act.put,kd,zS,zR,qu,qr,qq,qe,qp,qk];refine zbL (i:=30) (by kernel_rfl) (Kf rfl rfl (zlx (w':=w1.setCell ⟨fb,1,none⟩ (.slice (some ⟨g8,0,none⟩) (f.gN.length+1) Qz)) (by go_simp;try rfl) ⟨.inr hS2,?_⟩));simp only[Act.put,kd,zS,zR,qu,qr,qq,qe,qp,qk];refine zbL (i:=31) (by kernel_rfl) (Kf rfl rfl (VZ (v:=.pointer (some ⟨fb,0,none⟩)) (w':=w1.setCell ⟨fb,1,none⟩ (.slice (some ⟨g8,0,none⟩) (f.gN.length+1) Qz)) (by go_simp;try rfl) ⟨.inr hS2,?_⟩));simp only[Act.put,kd,zS,zR,qu,qr,qq,qe,qp,qk];refine zbL (i:=32) (by kernel_rfl) (Kf rfl rfl (VZ (v:=.pointer (some ⟨fb,2,none⟩)) (w':=w1.setCell ⟨fb,1,none⟩ (.slice (some ⟨g8,0,none⟩) (f.gN.length+1) Qz)) (by go_simp;try rfl) ⟨.inr hS2,?_⟩));simp only[Act.put,kd,zS,zR,qu,qr,qq,qe,qp,qk];refine zbL (i:=33) (by kernel_rfl) (Kf rfl rfl ?_);refine zlx (w':=(w1.setCell ⟨fb,1,none⟩ (.slice (some ⟨g8,0,none⟩) (f.gN.length+1) Qz)).setCell ⟨fb,2,none⟩ (.slice (some ⟨g9,0,none⟩) (f.gQ.length+1) zqa)) ?_ ?_
        ·go_simp;try with_reducible rfl
        refine⟨.inl (by decide),?_⟩;refine zhv (by kernel_rfl) ?_ _;clear hS1 hS2 c1x c2x c2y z1 z2 z2x;go_wp2_with fail;refine q9 (qI rfl _ _ _) rfl ?_;rw[HR2.out];exact⟨HBl.out,rfl,HRd.out,HOk.out,_,_,_,HF.out⟩
       all_goals (have:=zcN hi rfl 27 (by kernel_rfl);simp at this)
theorem zfs {w:World} {B e z n:Nat} {v:Value} {xs:List Value} (h:w.ownsRow B e z v n xs):∀k∈v.ownBlock.toList,B<=k/\k<w.heap.size:=λk hk=>by
 rw[zE] at hk;exact h.lt k hk
theorem zcO {w:World} {B e z n b:Nat} {v:Value} {xs:List Value} {cs:Array Value} {e':Nat} {fz:Nat×Nat} (h:w.ownsRow B e z v n xs) (hb:w.heap[b]?=some (.cells cs e' fz)) (hne:e≠e'):b∉v.ownBlock.toList:=λhk=>by
 rw[zE] at hk;rcases pI h hb hne with h1|h1
 ·rw[h1] at hk;cases hk
 ·exact h1 hk
structure RoJ (w W:World) (rb wb:Nat) (s:ByteArray) (F:RF) (round:Bool) (i1:Nat) (l:List It) (j:Nat) (vi:Value) (p5:List Value):Prop where
 rr:RR W rb s j 0 0 F
 bx:W.heap[wb]?=some (.cells #[.bool round,vi] 96 (0,0))
 its:p4 W w.heap.size vi l p5
 off:Off [rb] w W
 len:l.length+i1<=j
 jle:j<=s.size
 ok:∀x∈l,uy x
theorem RoJ.pz {w W W':World} {rb wb:Nat} {s:ByteArray} {F:RF} {round:Bool} {i1:Nat} {l:List It} {j:Nat} {vi:Value} {p5:List Value} (h:RoJ w W rb wb s F round i1 l j vi p5) (hw:wb≠rb) (ho:Off [rb] W W'):
  W'.heap[wb]?=some (.cells #[.bool round,vi] 96 (0,0))/\p4 W' w.heap.size vi l p5/\Off [rb] w W':=
 ⟨(ho.block _ (qg h.bx).1 (by simp;exact hw)).trans h.bx,h.its.off ho (pc.one h.rr.r) (by decide) (by decide),h.off.trans ho⟩
theorem RoJ.next {w W W7 w8:World} {rb wb:Nat} {s:ByteArray} {F:RF} {round:Bool} {i1:Nat} {l:List It} {j k:Nat} {vi vx v':Value} {p5:List Value} {x:It} (h:RoJ w W rb wb s F round i1 l j vi p5) (hw:wb≠rb) (hwb:w.heap.size<=wb) (ho:Off [rb] W W7)
  (KK:RR W7 rb s k 0 0 F) (hm7:Qy W7 w.heap.size vx x.gP) (hjk:j+1<=k) (hk:k<=s.size) (hx:uy x)
  (hown:w8.ownsRow w.heap.size 99 4 v' (l.length+1) (ux l p5++[.int .i64 x.cls,.int .i64 x.ref,vx,.int .i64 x.at_])) (hg:W7.grownBy w8 vi.ownBlock):
  RoJ w (w8.setCell ⟨wb,1,none⟩ v') rb wb s F round i1 (l++[x]) k v' (p5++[vx])/\w8.cell? ⟨wb,1,none⟩=some vi/\w8.frozen? ⟨wb,1,none⟩=false:=by
 obtain⟨QW,hi7,QS⟩:=h.pz hw ho;have hog:Off vi.ownBlock.toList W7 w8:=Off.grown hg (λk hk=>by rw[hk];simp);have ht:pc W7 vi.ownBlock.toList [99]:=zea hi7.o;have Qo:=(hog.block wb (qg QW).1 (zcO hi7.o QW (by decide))).trans QW;have ZX:=KK.off hog (zcO hi7.o KK.r (by decide));have hos:=Off.setCell w8 wb 1 v';have hts:pc w8 [wb] [96]:=pc.one Qo;have hn:=h.its.n;have e1:∀q,q<l.length->(p5++[vx]).getD q .nilFunc=p5.getD q .nilFunc/\(l++[x]).getD q px=l.getD q px:=λq hq=>⟨zaR _ _ _ _ (by omega),zaR _ _ _ _ hq⟩;refine⟨⟨ZX.off hos (by simp;exact λe=>hw e.symm),qs w8 wb 1 _ _ v' Qo,⟨by simp[hn],?_,λq hq=>?_⟩,(QS.into hog (λk hk=>.inr (zfs hi7.o k hk).1)).into hos (λk hk=>by simp at hk;omega),by simp;have:=h.len;omega,hk,λy hy=>?_⟩,qc _ _ 1 _ _ (0,0) Qo,qf _ _ 1 _ _ Qo⟩
 ·rw[zgT l p5 x vx hn,qv];exact hos.pp hown hts (by decide)
 ·by_cases hql:q<l.length
  ·rw[(e1 q hql).1,(e1 q hql).2];exact hos.pp (hog.pp (hi7.m q hql) ht (by decide)) hts (by decide)
  ·obtain rfl:q=l.length:=by simp at hq;omega
   have e2:(l++[x]).getD l.length px=x:=zaM _ _ _;have e3:(p5++[vx]).getD l.length .nilFunc=vx:=(by rw[<-hn];exact zaM _ _ _);rw[e2,e3];exact hos.pp (hog.pp hm7 ht (by decide)) hts (by decide)
 ·rcases qJ.1 hy with hy|hy
  ·exact h.ok y hy
  ·obtain rfl:=zj.1 hy;exact hx
theorem zft {s:ByteArray} {gN:List UInt8}:∀(f:Nat) (ms:List Mk) (i:Nat) {ms':List Mk} {k:Nat},QV s gN f ms i=.ok (ms',k)->ms'.length+i<=ms.length+k
 |0,ms,i,ms',k,h=>by unfold QV at h;cases h;exact ql _
 |f+1,ms,i,ms',k,h=>by
  unfold QV at h;split at h
  ·rename_i hc;cases hm:QY s gN ms i with
   |error e=>rw[hm] at h;cases h
   |ok mj=>
    obtain⟨m,j⟩:=mj;rw[hm] at h;have:=zft f _ j h;obtain⟨h1,h2,h3⟩:=zcW hc.1 hc.2 hm;have:=(zdz h2).1;have e:(ms++[m]).length=ms.length+1:=(by simp);omega
  ·cases h;exact ql _
end Go.Proofs.YtgklikkddckgbaaGreatDoor.Mo

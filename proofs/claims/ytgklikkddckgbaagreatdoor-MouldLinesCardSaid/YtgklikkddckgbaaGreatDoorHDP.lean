import Derived.Test.YtgklikkddckgbaaGreatDoorHDM
import Derived.Test.YtgklikkddckgbaaGreatDoorHDO
/- Lemmas of the claim. -/
set_option linter.all false
namespace Go.Proofs.YtgklikkddckgbaaGreatDoor.Mo
open Go.RowKit
theorem zmk:Tryz.prog.info? 5=some Tryz.t5:=by kernel_rfl
theorem zml:Tryz.t5.zero=some (.int .u8 0):=by kernel_rfl
theorem zmm:Tryz.t5.size=1:=by kernel_rfl
theorem zlt:Tryz.t5.bytes=1:=by kernel_rfl
theorem zlu:Tryz.prog.info? 79=some Tryz.t79:=by kernel_rfl
theorem zlv:Tryz.t79.zero=some (.agg #[.slice none 0 0,.slice none 0 0,.slice none 0 0]):=by kernel_rfl
theorem zlw:Tryz.t79.size=3:=by kernel_rfl
theorem zka:Tryz.t79.bytes=72:=by kernel_rfl
section
variable {P:Program} {ops:Array Oper} {Q:Exit→Act→World→Prop}
theorem zda {o:Oper} {a:Act} {w w':World} {v:Value} {K:Act→World→Prop} (h:(execOp a.eval o).run P w=.ok (.value v) w') (hk:K (a.put o.dst v) w'):o.wp P a w K Q:=by
 unfold Oper.wp;rw[h];exact hk
theorem zlx {o:Oper} {a:Act} {w w':World} {K:Act→World→Prop} (h:(execOp a.eval o).run P w=.ok .skip w') (hk:K (a.put o.dst undef) w'):o.wp P a w K Q:=by
 unfold Oper.wp;rw[h];exact hk
end
theorem zaM {α:Type} (l:List α) (x d:α):(l++[x]).getD l.length d=x:=by simp[List.getD_eq_getElem?_getD]
theorem zaR {α:Type} (l:List α) (x d:α) (k:Nat) (h:k<l.length):(l++[x]).getD k d=l.getD k d:=by simp[List.getD_eq_getElem?_getD,List.getElem?_append_left h]
theorem FmM.more {W W2:World} {B fb:Nat} {f:Fm} {vl vm vs vl' vm' vf ve vb:Value} {c:UInt8} {m:Met} {cs:List (Value×Value×Value)} {vs2:List Value} {L:List Nat} (h:FmM W B fb f vl vm vs) (hr0:f.rows=[])
  (hcs:MetsM W B vm f.metres cs) (ho:Off L W W2) (ht:TyAt W L [5,79]) (hl:W2.ownsRow B 5 1 vl' (f.letters.length+1) (byC f.letters++[.int .u8 c.toNat])) (hm:W2.ownsRow B 79 3 vm' (f.metres.length+1) (metC cs++[vf,ve,vb]))
  (hz:Sized m) (hom:OM W B m vf ve vb vs2):
  FmM ((W2.setCell ⟨fb,1,none⟩ vl').setCell ⟨fb,2,none⟩ vm') B fb {f with letters:=f.letters++[c],metres:=f.metres++[m]} vl' vm' vs:=by
 have hfb:fb∉L:=fun hq=>by
  obtain⟨cs',e,fz,hb,hT⟩:=ht fb hq;rw[h.x] at hb;simp at hb hT;have h1:=hb.2.1;rcases hT with hT|hT<;>(rw[hT] at h1;exact absurd h1 (by decide))
 have hx2:=(ho.block fb h.lt hfb).trans h.x;have ho1:=Off.setCell W2 fb 1 vl';have hx3:=qs W2 fb 1 _ _ vl' hx2;have ho2:=Off.setCell (W2.setCell ⟨fb,1,none⟩ vl') fb 2 vm';have hx4:=qs _ fb 2 _ _ vm' hx3;have t1:TyAt W2 [fb] [92]:=TyAt.one hx2;have t2:TyAt (W2.setCell ⟨fb,1,none⟩ vl') [fb] [92]:=TyAt.one hx3;refine⟨hx4,h.hB,?_,⟨cs++[(vf,ve,vb)],by simp[hcs.n],?_,?_⟩,?_⟩
 ·have e:byC (f.letters++[c])=byC f.letters++[.int .u8 c.toNat]:=by simp[byC]
  show World.ownsRow _ B 5 1 vl' (f.letters++[c]).length (byC (f.letters++[c]));rw[e,List.length_append,List.length_singleton];exact ho2.ownT (ho1.ownT hl t1 (by decide)) t2 (by decide)
 ·show World.ownsRow _ B 79 3 vm' (f.metres++[m]).length _;rw[zeH,List.length_append,List.length_singleton];exact ho2.ownT (ho1.ownT hm t1 (by decide)) t2 (by decide)
 ·intro k hk;have keep:∀{m:Met} {a b c:Value} {vs:List Value},OM W B m a b c vs→OM ((W2.setCell ⟨fb,1,none⟩ vl').setCell ⟨fb,2,none⟩ vm') B m a b c vs:=fun hq=>
   OM.offT (OM.offT (OM.offT hq ho ht (by decide) (by decide) (by decide)) ho1 t1 (by decide) (by decide) (by decide)) ho2 t2 (by decide) (by decide) (by decide)
  have hk2:k<f.metres.length+1:=by simpa using hk
  show Sized ((f.metres++[m]).getD k Met0)∧∃vs,OM _ B ((f.metres++[m]).getD k Met0) ((cs++[(vf,ve,vb)]).getD k default).1 ((cs++[(vf,ve,vb)]).getD k default).2.1 ((cs++[(vf,ve,vb)]).getD k default).2.2 vs;by_cases hkl:k<f.metres.length
  ·rw[zaR _ _ _ _ hkl,zaR _ _ _ _ (by rw[hcs.n];exact hkl)];obtain⟨a,vs,b⟩:=hcs.m k hkl;exact⟨a,vs,keep b⟩
  ·obtain rfl:k=f.metres.length:=by omega
   rw[zaM];have e:(cs++[(vf,ve,vb)]).getD f.metres.length default=(vf,ve,vb):=(by rw[←hcs.n];exact zaM _ _ _);rw[e];exact⟨hz,vs2,keep hom⟩
 ·obtain⟨vis,hr,_⟩:=h.r;refine⟨vis,⟨hr.n,ho2.ownT (ho1.ownT (ho.ownT hr.o ht (by decide)) t1 (by decide)) t2 (by decide),hr.it⟩,fun k hk=>?_⟩;have hk2:k<f.rows.length:=hk;rw[hr0] at hk2;simp at hk2
theorem FmOk.letter {f:Fm} {i j:Nat} {c:UInt8} {m:Met} (h:FmOk f i) (hij:i+1≤j) (hc:97≤c.toNat∧c.toNat≤122) (hn:Lib.indexByte f.letters c<0):FmOk {f with letters:=f.letters++[c],metres:=f.metres++[m]} j:=by
 refine⟨by have:=h.le;show totN f.rows+f.rows.length≤j;omega,h.l0,h.m0,h.s0,h.lm,?_,h.it,?_,?_⟩
 ·have:=h.ll;simp;omega
 ·show(f.letters++[c]).Nodup;rw[List.nodup_append];refine⟨h.nd,by simp,fun a ha b hb=>?_⟩;obtain rfl:b=c:=by simpa using hb
  rintro rfl;obtain⟨k,hk,he⟩:=List.mem_iff_getElem.1 ha;have h1:=Lib.indexByte_ge f.letters a;have h2:Lib.indexByte f.letters a= -1:=by omega
  exact Lib.indexByte_none h2 k (by rw[List.getElem?_eq_getElem hk,he])
 ·intro x hx;rcases List.mem_append.1 hx with hx|hx
  ·exact h.lt x hx
  ·obtain rfl:x=c:=by simpa using hx
   exact hc
structure MtS (W:World) (B:Nat) (letters:List UInt8) (c:UInt8) (vl vf ve vb:Value) (b14 b16 b26 b17:Bool) (x63 x65 x75 x66:Value) (wr:World):Prop where
 d17:b17=true→b14=true∧b16=true
 off:Off (if b17 then vl.ownBlock.toList else []) W wr
 l14:b14=true→x63=vl
 u16:b16=true→∃g,x65=.slice (some ⟨g,0,none⟩) 1 1∧W.heap.size≤g∧wr.heap[g]?=some (.cells #[.int .u8 c.toNat] 5 (0,0))
 u26:b26=true→∃g,x75=.slice (some ⟨g,0,none⟩) 1 1∧W.heap.size≤g∧wr.heap[g]?=some (.cells #[vf,ve,vb] 79 (0,0))
 r17:b17=true→wr.ownsRow B 5 1 x66 (letters.length+1) (byC letters++[.int .u8 c.toNat])
section
variable {W wr w':World} {B:Nat} {letters:List UInt8} {c:UInt8} {vl vf ve vb:Value} {b14 b16 b26 b17:Bool} {x63 x65 x75 x66:Value}
theorem MtS.start (W:World) (B:Nat) (letters:List UInt8) (c:UInt8) (vl vf ve vb x63 x65 x75 x66:Value):MtS W B letters c vl vf ve vb false false false false x63 x65 x75 x66 W.drew:=
 ⟨(fun h=>by cases h),Off.drew _ _,(fun h=>by cases h),(fun h=>by cases h),(fun h=>by cases h),(fun h=>by cases h)⟩
theorem MtS.load (h:MtS W B letters c vl vf ve vb false b16 b26 b17 x63 x65 x75 x66 wr):MtS W B letters c vl vf ve vb true b16 b26 b17 vl x65 x75 x66 wr:=
 ⟨fun e=>⟨rfl,(h.d17 e).2⟩,h.off,fun _=>rfl,h.u16,h.u26,h.r17⟩
theorem MtS.box16 (h:MtS W B letters c vl vf ve vb b14 false b26 b17 x63 x65 x75 x66 wr):MtS W B letters c vl vf ve vb b14 true b26 b17 x63 (.slice (some ⟨wr.heap.size,0,none⟩) 1 1) x75 x66 (wr.alloc (.cells #[.int .u8 c.toNat] 5)):=by
 refine⟨fun e=>⟨(h.d17 e).1,rfl⟩,h.off.trans (Off.alloc _ _ _),h.l14,fun _=>⟨_,rfl,h.off.size,qn wr _⟩,fun e=>?_,fun e=>(h.r17 e).alloc _⟩;obtain⟨g,e1,e2,e3⟩:=h.u26 e;exact⟨g,e1,e2,(qa wr _ g (qg e3).1).trans e3⟩
theorem MtS.box26 (h:MtS W B letters c vl vf ve vb b14 b16 false b17 x63 x65 x75 x66 wr):MtS W B letters c vl vf ve vb b14 b16 true b17 x63 x65 (.slice (some ⟨wr.heap.size,0,none⟩) 1 1) x66 (wr.alloc (.cells #[vf,ve,vb] 79)):=by
 refine⟨h.d17,h.off.trans (Off.alloc _ _ _),h.l14,fun e=>?_,fun _=>⟨_,rfl,h.off.size,qn wr _⟩,fun e=>(h.r17 e).alloc _⟩;obtain⟨g,e1,e2,e3⟩:=h.u16 e;exact⟨g,e1,e2,(qa wr _ g (qg e3).1).trans e3⟩
theorem MtS.app17 (h:MtS W B letters c vl vf ve vb true true b26 false x63 x65 x75 x66 wr) (hg:wr.grownBy w' vl.ownBlock) (hlt:∀k,vl.ownBlock=some k→k<W.heap.size) {x:Value} (ho:w'.ownsRow B 5 1 x (letters.length+1) (byC letters++[.int .u8 c.toNat])):
  MtS W B letters c vl vf ve vb true true b26 true x63 x65 x75 x w':=by
 have hof:Off vl.ownBlock.toList wr w':=zdE hg;have keep:∀{g:Nat} {o:Obj},W.heap.size≤g→wr.heap[g]?=some o→w'.heap[g]?=some o:=fun{g o} hge hgo=>by
  refine(hof.block g (qg hgo).1 (fun hm=>?_)).trans hgo;have:=hlt g (by simpa using hm);omega
 refine⟨fun _=>⟨rfl,rfl⟩,?_,h.l14,fun e=>?_,fun e=>?_,fun _=>ho⟩
 ·have h1:Off vl.ownBlock.toList W wr:=h.off.mono (fun k hk=>by simp at hk);exact h1.trans hof
 ·obtain⟨g,e1,e2,e3⟩:=h.u16 e;exact⟨g,e1,e2,keep e2 e3⟩
 ·obtain⟨g,e1,e2,e3⟩:=h.u26 e;exact⟨g,e1,e2,keep e2 e3⟩
end
section
variable {P:Program} {ops:Array Oper} {Q:Exit→Act→World→Prop} {md:Region.Mode} {S:World→Prop} {X:Nat→Bool}
theorem zhx {fuel:Nat} {listed:Array Bool} {a:Act} {w:World} (h:∀a0,a0=a→zbS P md ops Q S X fuel listed a0 w):zbS P md ops Q S X fuel listed a w:=h a rfl
end
theorem zlX (i:Nat) (h:i<34):i=0∨i=1∨i=2∨i=3∨i=4∨i=5∨i=6∨i=7∨i=8∨i=9∨i=10∨i=11∨i=12∨i=13∨i=14∨i=15∨i=16∨i=17∨i=18∨i=19∨i=20∨i=21∨i=22∨i=23∨i=24∨i=25∨i=26∨i=27∨i=28∨i=29∨i=30∨i=31∨i=32∨i=33:=by omega
theorem add0 (g j:Nat):(⟨g,0,none⟩:Addr).add j=⟨g,j,none⟩:=by unfold Addr.add;split<;>simp_all
theorem zgY {w:World} {g t:Nat} {cs:Array Value} (h:w.heap[g]?=some (.cells cs t (0,0))):∀ad:Addr,some (⟨g,0,none⟩:Addr)=some ad→∀j u,cs.toList[j]?=some u→w.cell? (ad.add j)=some u:=by
 intro ad e j u hu;cases e;rw[add0,cell_of_row w g j cs t (0,0) h];simpa using hu
set_option maxRecDepth 100000 in
set_option maxHeartbeats 2000000 in
theorem zkb (B rb fb:Nat) (s:ByteArray) (f:Fm) (i i0:Nat) (vl vm vs:Value) (w:World) (h:Rd w rb fb s i) (hv:Vars w) (h9:9≤B) (hB:B≤rb) (hm:FmM w B fb f vl vm vs) (hk:FmOk f i0) (hi0:i0≤i) (hr0:f.rows=[]):
  Calls Tryz.prog 93 #[.pointer (some ⟨rb,0,none⟩)] w (zmj B rb fb s w (zb9 s f i)):=by
 have hsz:=h.sz;have hle:=h.le;have hrb:=h.lt;have hfb:=hm.lt;have hBw:B≤w.heap.size:=by omega
 generalize hR:zb9 s f i=R;have H:=qh h;have Hv:=qh hv;have Hm:=qh hm;have Hk:=qh hk;unfold zb9 at hR;have HR:=qh hR;have Hr0:=qh h;have Ho0:Hid (Off [rb] w w):=qh (Off.refl _ _);have Hms:=qh (zbW rb fb s ⟨#[109,101,116,114,101,32]⟩ i w h (by decide));clear h hv hm hk hR;go_enter Tryz.func93,Tryz.ntmps93;go_wp2_with fail;refine Hms.out.mono ?_;rintro e w1 hst0;have hst:zbx rb fb s w (.tuple #[]) (zao (zal s METRE i)) e w1:=hst0;clear hst0 Hms;cases hX:zao (zal s METRE i) with
 |error ep=>
  obtain⟨c,p⟩:=ep;have hR2:=HR.out;rw[hX] at hst hR2;obtain⟨rfl,ho⟩:=hst;exact⟨rfl,(Ho0.out.trans ho).keep hBw hB,by rw[←hR2];rfl⟩
 |ok j1=>
  have hR2:=HR.out;rw[hX] at hst hR2;simp only[] at hR2;obtain⟨rfl,hrd,ho⟩:=hst;have hlen:=zaw hX;have Hj1:Hid (i≤j1):=qh (by omega);clear HR hlen hX;have HR:=qh hR2;have Hr1:=qh hrd;have Ho1:=qh (Ho0.out.trans ho);clear hR2 hrd ho;have Hlet:=qh (zdN rb fb s j1 w1 Hr1.out);go_wp2_with fail;refine Hlet.out.mono ?_;rintro e w2 ⟨ho2,hres⟩;clear Hlet;have Ho2:=qh (Ho1.out.trans ho2);cases hN:inB s j1 97 122 with
  |false=>
   rw[hN,if_neg (by simp)] at hres;have hR2:R=.error (180,j1):=(by rw[←HR.out,hN,if_pos (by simp)]);subst hres;exact⟨rfl,Ho2.out.keep hBw hB,by rw[hR2];rfl⟩
  |true=>
   rw[hN,if_pos rfl] at hres;have hR3:=HR.out;rw[hN,if_neg (by simp)] at hR3;clear HR;have HR:=qh hR3;obtain⟨rfl,hrd2⟩:=hres;have Hbd:=qh (zh1 hN);have hbd2:=zb7 hN;generalize zaa s j1=c at*;obtain⟨r0,r1,r2,r3⟩:=hrd2.cells;have hm2:=Hm.out.offR H.out Ho2.out;have hl2:=hm2.letM;obtain⟨⟨la,ll,lc,hvl'⟩,hcv⟩:=hl2.conv;have hlc:=hl2.c;rw[hvl'] at hcv hlc;have hix:=qh (Tryz.strings_IndexByte ⟨f.letters.toArray⟩ c.toNat w2);have e1:((c.toNat:Int)).toNat.toUInt8=c:=(by simp);rw[e1] at hix;have Hr2:=qh hrd2;have Hvl:=qh hvl';clear hR3 hrd2 hN ho2 hm2 hl2 hvl';go_wp2_with fail;refine hix.out.mono ?_;rintro e w2' ⟨rfl,rfl⟩;generalize hn':Lib.indexByte f.letters c=n at*;have Hn':=qh hn';clear hn' hix;by_cases hn:0≤n
   ·have hdn:decide (0≤n)=true:=qt hn;have HR2:Hid (R=.error (181,j1)):=qh (by rw[←HR.out,if_pos hn]);have hf:=qh (fail_any 181 j1 w2');clear hn;go_wp2_with fail;refine hf.out.mono ?_;rintro e w5 ⟨rfl,hb5⟩;exact⟨rfl,(Ho2.out.trans (Off.of_below hb5 (ql _) [rb])).keep hBw hB,by rw[HR2.out];rfl⟩
   ·have hdn:decide (0≤n)=false:=qd hn;have hR4:=HR.out;rw[if_neg hn] at hR4;clear HR;have HR:=qh hR4;have Hms:=qh (zbW rb fb s ⟨#[32]⟩ (j1+1) w2' Hr2.out (by decide));have Hneg:Hid (n<0):=qh (by omega);clear hR4 hn r0 r1 r2 r3 hlc hcv;go_wp2_with fail;refine Hms.out.mono ?_;rintro e w3 hst0;have hst:zbx rb fb s w2' (.tuple #[]) (zao (zal s [32] (j1+1))) e w3:=hst0;clear hst0 Hms;cases hX:zao (zal s [32] (j1+1)) with
    |error ep=>
     obtain⟨c,p⟩:=ep;have hR2:=HR.out;rw[hX] at hst hR2;obtain⟨rfl,ho⟩:=hst;exact⟨rfl,(Ho2.out.trans ho).keep hBw hB,by rw[←hR2];rfl⟩
    |ok j3=>
     have hR2:=HR.out;rw[hX] at hst hR2;simp only[] at hR2;obtain⟨rfl,hrd,ho⟩:=hst;have hlen:=zaw hX;have Hj3:Hid (j1+1≤j3):=qh (by omega);have hj3:j3≤s.size:=hrd.le;clear HR hlen hX;have HR:=qh hR2;have Ho3:=qh (Ho2.out.trans ho);obtain⟨r0,r1,r2,r3⟩:=hrd.cells;have Hrest:=qh (zfG rb fb s j3 w3 hrd);clear hR2 hrd ho;go_wp2_with fail;refine Hrest.out.mono ?_;rintro e w5 ⟨rfl,hrd,ho⟩;have Ho5:=qh (Ho3.out.trans ho);have hEb:=zbs (s:=s) j3 hj3;have hT:s.extract j3 (zap s j3)=⟨(cutB s j3 (zap s j3)).toArray⟩:=by
      apply ByteArray.ext;rw[←zcp]
     have hTs:(s.extract j3 (zap s j3)).size=zap s j3-j3:=zcD hEb.2;rw[hT] at hTs;have hR3:=HR.out;rw[hT];generalize (⟨(cutB s j3 (zap s j3)).toArray⟩:ByteArray)=t at hTs hR3;have Hread:=qh (zkR t w5 (Vars.off Hv.out Ho5.out (by simp;omega)) (by omega));have Hr5:=qh hrd;generalize zap s j3=E at*;clear HR Hrest hT ho hrd;go_wp2_with fail;refine Hread.out.mono ?_;rintro e w6 ⟨hb6,hres⟩;clear Hread;have hb5B:=Ho5.out.keep hBw hB;have Hb6B:=qh (hb5B.trans ((Off.of_below hb6 (ql _) []).below (qm hBw hb5B.size) (fun _ h=>by cases h)));cases hX:zbd t with
     |error ep=>
      obtain⟨cc,p⟩:=ep;rw[hX] at hres hR3;have hres2:e=.returned (.tuple #[.agg #[.slice none 0 0,.slice none 0 0,.slice none 0 0],.agg #[.int .i64 cc,.int .i64 p]]):=hres;have hpos:=zf2 (by omega) hX;have hc0:(cc !=0)=true:=(by simpa using hpos.1);have hw1:IntKind.i64.wrap ((j3:Int)+(p:Int))=(j3:Int)+(p:Int):=qi _ (by omega);have HR2:Hid (R=.error (cc,j3+p)):=qh hR3.symm;subst hres2;clear hres hX hb6 hpos;go_wp2_with fail;have hcast:((j3:Int)+(p:Int))=((j3+p:Nat):Int):=(by omega);rw[hcast];refine(fail_any cc (j3+p) _).mono ?_;rintro e w7 ⟨rfl,hb7⟩;refine⟨rfl,?_,by rw[HR2.out];rfl⟩;refine Hb6B.out.trans (Below.trans ?_ ((Off.of_below hb7 (ql _) []).below ?_ (fun _ h=>by cases h)))
      ·exact((qb _ _).alloc (qm hBw Hb6B.out.size) _).alloc (by simp;have:=qm hBw Hb6B.out.size;omega) _
      ·simp;have:=qm hBw Hb6B.out.size;omega
     |ok m=>
      rw[hX] at hres hR3;obtain⟨hsized,vf,ve,vb,vs2,rfl,hom⟩:=hres;obtain⟨A1,c1,hq1⟩:=zab hom.feet;obtain⟨A2,c2,hq2⟩:=zab hom.ends;obtain⟨A3,c3,hq3⟩:=zab hom.brks;subst hq1;subst hq2;subst hq3;have HR2:Hid (R=.ok ({f with letters:=f.letters++[c],metres:=f.metres++[m]},E)):=qh hR3.symm;have Hb6:=qh hb6;have Hsz:=qh hsized;have Hom:=qh hom;obtain⟨W,hW⟩:∃W:World,W=(w6.alloc (.cells #[.slice A1 m.feet.length c1,.slice A2 m.ends.length c2,.slice A3 m.brks.length c3] 79)).alloc (.cells #[.int .i64 0,.int .i64 0] 87):=⟨_,rfl⟩;have HW:=qh hW;clear hX hR3 hom hsized hb6 hW;have hbW:Below w6.heap.size w6 W:=(by rw[HW.out];exact((qb _ _).alloc (ql _) _).alloc (by simp) _);have hsW:W.heap.size=w6.heap.size+2:=(by rw[HW.out];simp);have hmet:W.heap[w6.heap.size]?=some (.cells #[.slice A1 m.feet.length c1,.slice A2 m.ends.length c2,.slice A3 m.brks.length c3] 79 (0,0)):=by
       rw[HW.out];exact(qa _ _ _ (by simp)).trans (qn w6 _)
      have hoW:Off [rb] w W:=(Ho5.out.trans (Off.of_below Hb6.out (ql _) _)).trans (Off.of_below hbW (ql _) _);have hmW:=Hm.out.offR H.out hoW;have hrW:Rd W rb fb s E:=(Hr5.out.below Hb6.out).below hbW;have homW:OM W B m (.slice A1 m.feet.length c1) (.slice A2 m.ends.length c2) (.slice A3 m.brks.length c3) vs2:=
       OM.offT (OM.mono Hom.out (qm hBw Ho5.out.size)) (Off.of_below hbW (ql _) []) TyAt.nil (T:=[]) (by simp) (by simp) (by simp)
      obtain⟨cs,hcs⟩:=hmW.m;obtain⟨lA,lc,hvl⟩:=zab hmW.l;obtain⟨mA,mc,hvm⟩:=zab hcs.o;subst hvl;subst hvm;have hllt:∀k,(Value.slice lA f.letters.length lc).ownBlock=some k→k<W.heap.size:=fun k hk=>(hmW.l.lt k hk).2;have hmlt:∀k,(Value.slice mA f.metres.length mc).ownBlock=some k→k<W.heap.size∧k≠w6.heap.size:=fun k hk=>by
       refine⟨(hcs.o.lt k hk).2,fun e=>?_⟩;have hm6:=(Hm.out.offR H.out (Ho5.out.trans (Off.of_below Hb6.out (ql _) _)));obtain⟨cs6,hcs6⟩:=hm6.m;have:=(hcs6.o.lt k hk).2;omega
      have d2:W.cell? ⟨rb,2,none⟩=some (.pointer (some ⟨fb,0,none⟩)):=hrW.cells.2.2.1;have d3:W.cell? ⟨w6.heap.size,0,none⟩=some (.slice A1 m.feet.length c1):=qc _ _ 0 _ _ (0,0) hmet;have d4:W.cell? ⟨w6.heap.size,1,none⟩=some (.slice A2 m.ends.length c2):=qc _ _ 1 _ _ (0,0) hmet;have d5:W.cell? ⟨w6.heap.size,2,none⟩=some (.slice A3 m.brks.length c3):=qc _ _ 2 _ _ (0,0) hmet;have d6:W.cell? ⟨fb,1,none⟩=some (.slice lA f.letters.length lc):=hmW.cells.2.1;have d7:W.cell? ⟨fb,2,none⟩=some (.slice mA f.metres.length mc):=hmW.cells.2.2.1;have hne:=hmW.ne hrW;have hflW:=hmW.lt;have hrlW:=hrW.lt
      --what is held at every step but the last
      have hST:∀(L:List Nat) (wy:World),Off L W wy→rb∉L→fb∉L→w6.heap.size∉L→wy.cell? ⟨rb,2,none⟩=some (.pointer (some ⟨fb,0,none⟩))∧wy.cell? ⟨w6.heap.size,0,none⟩=some (.slice A1 m.feet.length c1)∧wy.cell? ⟨w6.heap.size,1,none⟩=some (.slice A2 m.ends.length c2)∧wy.cell? ⟨w6.heap.size,2,none⟩=some (.slice A3 m.brks.length c3)∧wy.cell? ⟨fb,2,none⟩=some (.slice mA f.metres.length mc):=fun L wy ho h1 h2 h3=>
       ⟨(ho.cell hrlW h1).trans d2,(ho.cell (by omega) h3).trans d3,(ho.cell (by omega) h3).trans d4,(ho.cell (by omega) h3).trans d5,(ho.cell hflW h2).trans d7⟩
      have hlL:∀{b:Nat} {csx:Array Value} {e:Nat} {fz:Nat×Nat},W.heap[b]?=some (.cells csx e fz)→e≠5→b∉(Value.slice lA f.letters.length lc).ownBlock.toList:=fun{b csx e fz} hb he hq=>by
       obtain⟨c0,e0,fz0,hb0,hT0⟩:=zea hmW.l b hq;rw[hb] at hb0;simp at hb0 hT0;exact he (hb0.2.1.trans hT0)
      have hmL:∀{b:Nat} {csx:Array Value} {e:Nat} {fz:Nat×Nat},W.heap[b]?=some (.cells csx e fz)→e≠79→b∉(Value.slice mA f.metres.length mc).ownBlock.toList:=fun{b csx e fz} hb he hq=>by
       obtain⟨c0,e0,fz0,hb0,hT0⟩:=zea hcs.o b hq;rw[hb] at hb0;simp at hb0 hT0;exact he (hb0.2.1.trans hT0)
      have HMW:=qh hmW;have HCS:=qh hcs;have HRW:=qh hrW;have HOM:=qh homW;have HOW:=qh hoW;have hlx:=Hk.out.ll;have hki:=Hk.out.le;clear hbW hmW hcs hrW homW hoW;go_wp2_with fail;rw[←HW.out];refine zhw (S:=fun w'=>w'.cell? ⟨rb,2,none⟩=some (.pointer (some ⟨fb,0,none⟩))∧w'.cell? ⟨w6.heap.size,0,none⟩=some (.slice A1 m.feet.length c1)∧w'.cell? ⟨w6.heap.size,1,none⟩=some (.slice A2 m.ends.length c2)∧w'.cell? ⟨w6.heap.size,2,none⟩=some (.slice A3 m.brks.length c3)∧w'.cell? ⟨fb,2,none⟩=some (.slice mA f.metres.length mc)) (X:=fun x=>[33].contains x) (by kernel_rfl) ?_;have hHeld:=hST [] W.drew (Off.drew _ _) (by simp) (by simp) (by simp);refine zaj (i:=0) (v:=?_) rfl (by kernel_rfl) (by kernel_rfl) (by kernel_rfl) (by kernel_rfl) (fun _ _ _ h=>h) (Or.inl ⟨by rfl,?_⟩) (by assumption) ?_;rotate_left
      ·intro w hSw;obtain⟨hS1,hS2,hS3,hS4,hS5⟩:=hSw;go_simp;try with_reducible rfl
      simp only[Act.put,List.getElem_toArray,List.getElem_cons_zero,List.getElem_cons_succ,List.setIfInBounds_toArray,List.set_cons_zero,List.set_cons_succ];refine zaj (i:=1) (v:=?_) rfl (by kernel_rfl) (by kernel_rfl) (by kernel_rfl) (by kernel_rfl) (fun _ _ _ h=>h) (Or.inl ⟨by rfl,?_⟩) (by assumption) ?_;rotate_left
      ·intro w hSw;obtain⟨hS1,hS2,hS3,hS4,hS5⟩:=hSw;go_simp;try with_reducible rfl
      simp only[Act.put,List.getElem_toArray,List.getElem_cons_zero,List.getElem_cons_succ,List.setIfInBounds_toArray,List.set_cons_zero,List.set_cons_succ];refine zaj (i:=2) (v:=?_) rfl (by kernel_rfl) (by kernel_rfl) (by kernel_rfl) (by kernel_rfl) (fun _ _ _ h=>h) (Or.inl ⟨by rfl,?_⟩) (by assumption) ?_;rotate_left
      ·intro w hSw;obtain⟨hS1,hS2,hS3,hS4,hS5⟩:=hSw;go_simp;try with_reducible rfl
      simp only[Act.put,List.getElem_toArray,List.getElem_cons_zero,List.getElem_cons_succ,List.setIfInBounds_toArray,List.set_cons_zero,List.set_cons_succ];refine zaj (i:=3) (v:=?_) rfl (by kernel_rfl) (by kernel_rfl) (by kernel_rfl) (by kernel_rfl) (fun _ _ _ h=>h) (Or.inl ⟨by rfl,?_⟩) (by assumption) ?_;rotate_left
      ·intro w hSw;obtain⟨hS1,hS2,hS3,hS4,hS5⟩:=hSw;go_simp;try with_reducible rfl
      simp only[Act.put,List.getElem_toArray,List.getElem_cons_zero,List.getElem_cons_succ,List.setIfInBounds_toArray,List.set_cons_zero,List.set_cons_succ];refine zaj (i:=4) (v:=?_) rfl (by kernel_rfl) (by kernel_rfl) (by kernel_rfl) (by kernel_rfl) (fun _ _ _ h=>h) (Or.inl ⟨by rfl,?_⟩) (by assumption) ?_;rotate_left
      ·intro w hSw;obtain⟨hS1,hS2,hS3,hS4,hS5⟩:=hSw;go_simp;try with_reducible rfl
      simp only[Act.put,List.getElem_toArray,List.getElem_cons_zero,List.getElem_cons_succ,List.setIfInBounds_toArray,List.set_cons_zero,List.set_cons_succ];refine zaj (i:=5) (v:=?_) rfl (by kernel_rfl) (by kernel_rfl) (by kernel_rfl) (by kernel_rfl) (fun _ _ _ h=>h) (Or.inl ⟨by rfl,?_⟩) (by assumption) ?_;rotate_left
      ·intro w hSw;obtain⟨hS1,hS2,hS3,hS4,hS5⟩:=hSw;go_simp;try with_reducible rfl
      simp only[Act.put,List.getElem_toArray,List.getElem_cons_zero,List.getElem_cons_succ,List.setIfInBounds_toArray,List.set_cons_zero,List.set_cons_succ];refine zaj (i:=6) (v:=?_) rfl (by kernel_rfl) (by kernel_rfl) (by kernel_rfl) (by kernel_rfl) (fun _ _ _ h=>h) (Or.inl ⟨by rfl,?_⟩) (by assumption) ?_;rotate_left
      ·intro w hSw;obtain⟨hS1,hS2,hS3,hS4,hS5⟩:=hSw;go_simp;try with_reducible rfl
      simp only[Act.put,List.getElem_toArray,List.getElem_cons_zero,List.getElem_cons_succ,List.setIfInBounds_toArray,List.set_cons_zero,List.set_cons_succ];refine zaj (i:=7) (v:=?_) rfl (by kernel_rfl) (by kernel_rfl) (by kernel_rfl) (by kernel_rfl) (fun _ _ _ h=>h) (Or.inl ⟨by rfl,?_⟩) (by assumption) ?_;rotate_left
      ·intro w hSw;obtain⟨hS1,hS2,hS3,hS4,hS5⟩:=hSw;go_simp;try with_reducible rfl
      simp only[Act.put,List.getElem_toArray,List.getElem_cons_zero,List.getElem_cons_succ,List.setIfInBounds_toArray,List.set_cons_zero,List.set_cons_succ];refine zaj (i:=8) (v:=?_) rfl (by kernel_rfl) (by kernel_rfl) (by kernel_rfl) (by kernel_rfl) (fun _ _ _ h=>h) (Or.inl ⟨by rfl,?_⟩) (by assumption) ?_;rotate_left
      ·intro w hSw;obtain⟨hS1,hS2,hS3,hS4,hS5⟩:=hSw;go_simp;try with_reducible rfl
      simp only[Act.put,List.getElem_toArray,List.getElem_cons_zero,List.getElem_cons_succ,List.setIfInBounds_toArray,List.set_cons_zero,List.set_cons_succ];refine zaj (i:=9) (v:=?_) rfl (by kernel_rfl) (by kernel_rfl) (by kernel_rfl) (by kernel_rfl) (fun _ _ _ h=>h) (Or.inl ⟨by rfl,?_⟩) (by assumption) ?_;rotate_left
      ·intro w hSw;obtain⟨hS1,hS2,hS3,hS4,hS5⟩:=hSw;go_simp;try with_reducible rfl
      simp only[Act.put,List.getElem_toArray,List.getElem_cons_zero,List.getElem_cons_succ,List.setIfInBounds_toArray,List.set_cons_zero,List.set_cons_succ];refine zaj (i:=10) (v:=?_) rfl (by kernel_rfl) (by kernel_rfl) (by kernel_rfl) (by kernel_rfl) (fun _ _ _ h=>h) (Or.inl ⟨by rfl,?_⟩) (by assumption) ?_;rotate_left
      ·intro w hSw;obtain⟨hS1,hS2,hS3,hS4,hS5⟩:=hSw;go_simp;try with_reducible rfl
      simp only[Act.put,List.getElem_toArray,List.getElem_cons_zero,List.getElem_cons_succ,List.setIfInBounds_toArray,List.set_cons_zero,List.set_cons_succ];refine zaj (i:=11) (v:=?_) rfl (by kernel_rfl) (by kernel_rfl) (by kernel_rfl) (by kernel_rfl) (fun _ _ _ h=>h) (Or.inl ⟨by rfl,?_⟩) (by assumption) ?_;rotate_left
      ·intro w hSw;obtain⟨hS1,hS2,hS3,hS4,hS5⟩:=hSw;go_simp;try with_reducible rfl
      simp only[Act.put,List.getElem_toArray,List.getElem_cons_zero,List.getElem_cons_succ,List.setIfInBounds_toArray,List.set_cons_zero,List.set_cons_succ];refine zaj (i:=12) (v:=?_) rfl (by kernel_rfl) (by kernel_rfl) (by kernel_rfl) (by kernel_rfl) (fun _ _ _ h=>h) (Or.inl ⟨by rfl,?_⟩) (by assumption) ?_;rotate_left
      ·intro w hSw;obtain⟨hS1,hS2,hS3,hS4,hS5⟩:=hSw;go_simp;try with_reducible rfl
      simp only[Act.put,List.getElem_toArray,List.getElem_cons_zero,List.getElem_cons_succ,List.setIfInBounds_toArray,List.set_cons_zero,List.set_cons_succ];refine zaj (i:=13) (v:=?_) rfl (by kernel_rfl) (by kernel_rfl) (by kernel_rfl) (by kernel_rfl) (fun _ _ _ h=>h) (Or.inl ⟨by rfl,?_⟩) (by assumption) ?_;rotate_left
      ·intro w hSw;obtain⟨hS1,hS2,hS3,hS4,hS5⟩:=hSw;go_simp;try with_reducible rfl
      simp only[Act.put,List.getElem_toArray,List.getElem_cons_zero,List.getElem_cons_succ,List.setIfInBounds_toArray,List.set_cons_zero,List.set_cons_succ];refine zaj (i:=15) (v:=?_) rfl (by kernel_rfl) (by kernel_rfl) (by kernel_rfl) (by kernel_rfl) (fun _ _ _ h=>h) (Or.inl ⟨by rfl,?_⟩) (by assumption) ?_;rotate_left
      ·intro w hSw;obtain⟨hS1,hS2,hS3,hS4,hS5⟩:=hSw;go_simp;try with_reducible rfl
      simp only[Act.put,List.getElem_toArray,List.getElem_cons_zero,List.getElem_cons_succ,List.setIfInBounds_toArray,List.set_cons_zero,List.set_cons_succ];refine zaj (i:=18) (v:=?_) rfl (by kernel_rfl) (by kernel_rfl) (by kernel_rfl) (by kernel_rfl) (fun _ _ _ h=>h) (Or.inl ⟨by rfl,?_⟩) (by assumption) ?_;rotate_left
      ·intro w hSw;obtain⟨hS1,hS2,hS3,hS4,hS5⟩:=hSw;go_simp;try with_reducible rfl
      simp only[Act.put,List.getElem_toArray,List.getElem_cons_zero,List.getElem_cons_succ,List.setIfInBounds_toArray,List.set_cons_zero,List.set_cons_succ];refine zaj (i:=19) (v:=?_) rfl (by kernel_rfl) (by kernel_rfl) (by kernel_rfl) (by kernel_rfl) (fun _ _ _ h=>h) (Or.inl ⟨by rfl,?_⟩) (by assumption) ?_;rotate_left
      ·intro w hSw;obtain⟨hS1,hS2,hS3,hS4,hS5⟩:=hSw;go_simp;try with_reducible rfl
      simp only[Act.put,List.getElem_toArray,List.getElem_cons_zero,List.getElem_cons_succ,List.setIfInBounds_toArray,List.set_cons_zero,List.set_cons_succ];refine zaj (i:=20) (v:=?_) rfl (by kernel_rfl) (by kernel_rfl) (by kernel_rfl) (by kernel_rfl) (fun _ _ _ h=>h) (Or.inl ⟨by rfl,?_⟩) (by assumption) ?_;rotate_left
      ·intro w hSw;obtain⟨hS1,hS2,hS3,hS4,hS5⟩:=hSw;go_simp;try with_reducible rfl
      simp only[Act.put,List.getElem_toArray,List.getElem_cons_zero,List.getElem_cons_succ,List.setIfInBounds_toArray,List.set_cons_zero,List.set_cons_succ];refine zaj (i:=21) (v:=?_) rfl (by kernel_rfl) (by kernel_rfl) (by kernel_rfl) (by kernel_rfl) (fun _ _ _ h=>h) (Or.inl ⟨by rfl,?_⟩) (by assumption) ?_;rotate_left
      ·intro w hSw;obtain⟨hS1,hS2,hS3,hS4,hS5⟩:=hSw;go_simp;try with_reducible rfl
      simp only[Act.put,List.getElem_toArray,List.getElem_cons_zero,List.getElem_cons_succ,List.setIfInBounds_toArray,List.set_cons_zero,List.set_cons_succ];refine zaj (i:=22) (v:=?_) rfl (by kernel_rfl) (by kernel_rfl) (by kernel_rfl) (by kernel_rfl) (fun _ _ _ h=>h) (Or.inl ⟨by rfl,?_⟩) (by assumption) ?_;rotate_left
      ·intro w hSw;obtain⟨hS1,hS2,hS3,hS4,hS5⟩:=hSw;go_simp;try with_reducible rfl
      simp only[Act.put,List.getElem_toArray,List.getElem_cons_zero,List.getElem_cons_succ,List.setIfInBounds_toArray,List.set_cons_zero,List.set_cons_succ];refine zaj (i:=23) (v:=?_) rfl (by kernel_rfl) (by kernel_rfl) (by kernel_rfl) (by kernel_rfl) (fun _ _ _ h=>h) (Or.inl ⟨by rfl,?_⟩) (by assumption) ?_;rotate_left
      ·intro w hSw;obtain⟨hS1,hS2,hS3,hS4,hS5⟩:=hSw;go_simp;try with_reducible rfl
      simp only[Act.put,List.getElem_toArray,List.getElem_cons_zero,List.getElem_cons_succ,List.setIfInBounds_toArray,List.set_cons_zero,List.set_cons_succ];refine zaj (i:=24) (v:=?_) rfl (by kernel_rfl) (by kernel_rfl) (by kernel_rfl) (by kernel_rfl) (fun _ _ _ h=>h) (Or.inl ⟨by rfl,?_⟩) (by assumption) ?_;rotate_left
      ·intro w hSw;obtain⟨hS1,hS2,hS3,hS4,hS5⟩:=hSw;go_simp;try with_reducible rfl
      simp only[Act.put,List.getElem_toArray,List.getElem_cons_zero,List.getElem_cons_succ,List.setIfInBounds_toArray,List.set_cons_zero,List.set_cons_succ];refine zaj (i:=25) (v:=?_) rfl (by kernel_rfl) (by kernel_rfl) (by kernel_rfl) (by kernel_rfl) (fun _ _ _ h=>h) (Or.inl ⟨by rfl,?_⟩) (by assumption) ?_;rotate_left
      ·intro w hSw;obtain⟨hS1,hS2,hS3,hS4,hS5⟩:=hSw;go_simp;try with_reducible rfl
      simp only[Act.put,List.getElem_toArray,List.getElem_cons_zero,List.getElem_cons_succ,List.setIfInBounds_toArray,List.set_cons_zero,List.set_cons_succ];refine zhx fun a0 ha0=>?_;refine zeO (fun listed a wx=>∃(b14 b16 b26 b17:Bool) (x63 x65 x75 x66:Value),listed=#[true,true,true,true,true,true,true,true,true,true,true,true,true,true,b14,true,b16,b17,true,true,true,true,true,true,true,true,b26,false,false,false,false,false,false,false]∧a={tmps:=(((a0.tmps.setIfInBounds 63 x63).setIfInBounds 65 x65).setIfInBounds 66 x66).setIfInBounds 75 x75,defers:=[]}∧MtS W B f.letters c (.slice lA f.letters.length lc) (.slice A1 m.feet.length c1) (.slice A2 m.ends.length c2) (.slice A3 m.brks.length c3) b14 b16 b26 b17 x63 x65 x75 x66 wx) ?hend ?hstep _ _ _ _ (by decide) ⟨false,false,false,false,a0.tmps.getD 63 undef,a0.tmps.getD 65 undef,a0.tmps.getD 75 undef,a0.tmps.getD 66 undef,rfl,(by rw[ha0];rfl),MtS.start _ _ _ _ _ _ _ _ _ _ _ _⟩
      case hend=>
       intro listed a wx hI hre;obtain⟨b14,b16,b26,b17,x63,x65,x75,x66,rfl,rfl,hC⟩:=hI;have h14:b14=true:=zcM (i:=14) hre rfl (by kernel_rfl);subst h14;have h16:b16=true:=zcM (i:=16) hre rfl (by kernel_rfl);subst h16;have h26:b26=true:=zcM (i:=26) hre rfl (by kernel_rfl);subst h26;have h17:b17=true:=zcM (i:=17) hre rfl (by kernel_rfl);subst h17;have h27:false=true:=zcM (i:=27) hre rfl (by kernel_rfl);cases h27
      case hstep=>
       subst ha0;intro fuel listed a wx i hfu hI hi;obtain⟨b14,b16,b26,b17,x63,x65,x75,x66,rfl,rfl,hC⟩:=hI;have hop:=zcg hi;have hi34:i<34:=by
        have:=(List.getElem?_eq_some_iff.1 hop).1;simpa using this
       simp only[List.setIfInBounds_toArray,List.set_cons_zero,List.set_cons_succ];have rbm:=hlL HRW.out.r (by decide);have fbm:=hlL HMW.out.x (by decide);have mbm:=hlL hmet (by decide);have hS:∀{b:Bool} {wy:World},Off (if b then(Value.slice lA f.letters.length lc).ownBlock.toList else []) W wy→wy.cell? ⟨rb,2,none⟩=some (.pointer (some ⟨fb,0,none⟩))∧wy.cell? ⟨w6.heap.size,0,none⟩=some (.slice A1 m.feet.length c1)∧wy.cell? ⟨w6.heap.size,1,none⟩=some (.slice A2 m.ends.length c2)∧wy.cell? ⟨w6.heap.size,2,none⟩=some (.slice A3 m.brks.length c3)∧wy.cell? ⟨fb,2,none⟩=some (.slice mA f.metres.length mc):=fun{b wy} ho=>by
        cases b with
        |true=>exact hST _ wy ho rbm fbm mbm
        |false=>exact hST [] wy ho (by simp) (by simp) (by simp)
       rcases zlX i hi34 with rfl|rfl|rfl|rfl|rfl|rfl|rfl|rfl|rfl|rfl|rfl|rfl|rfl|rfl|rfl|rfl|rfl|rfl|rfl|rfl|rfl|rfl|rfl|rfl|rfl|rfl|rfl|rfl|rfl|rfl|rfl|rfl|rfl|rfl
       case inl=>cases hop
       all_goals first|(exfalso;revert hop;clear hi;simp;done)|skip
       ·have hb:b14=false:=(by simpa using hop);subst hb;have e1:wx.cell? ⟨fb,1,none⟩=some (.slice lA f.letters.length lc):=(hC.off.cell hflW (by
         cases b17 with
         |true=>exact fbm
         |false=>simp)).trans d6
        refine zbT rfl rfl (zda (v:=.slice lA f.letters.length lc) (w':=wx) (by go_simp;try rfl) ?_);have hC':=hC.load;exact⟨.inr (hS hC'.off),.inl ⟨true,b16,b26,b17,_,x65,x75,x66,rfl,rfl,hC'⟩⟩
       ·have hb:b16=false:=(by simpa using hop);subst hb;refine zbT rfl rfl (zda (v:=.slice (some ⟨wx.heap.size,0,none⟩) 1 1) (w':=wx.alloc (.cells #[.int .u8 c.toNat] 5)) (by go_simp;try rfl) ?_);have hC':=hC.box16;exact⟨.inr (hS hC'.off),.inl ⟨b14,true,b26,b17,x63,_,x75,x66,rfl,rfl,hC'⟩⟩
       ·have hb:b17=false:=(by simpa using hop);have hb14:b14=true:=zcN hi rfl 14 (by kernel_rfl);have hb16:b16=true:=zcN hi rfl 16 (by kernel_rfl);subst hb;subst hb14;subst hb16;obtain⟨g,hx65,hgW,hgx⟩:=hC.u16 rfl;obtain rfl:=hC.l14 rfl;subst hx65;have hrow:wx.ownsRow B 5 1 (.slice lA f.letters.length lc) f.letters.length (byC f.letters):=(show Off [] W wx from hC.off).own HMW.out.l (fun k hk=>by simp);refine zbT rfl rfl (zel (.tmp 63) (.tmp 65) 25 rfl B 5 _ _ 1 1 Tryz.underlying25 zmk zml zmm zlt rfl (by decide) (.slice lA f.letters.length lc) f.letters.length (byC f.letters) rfl hrow (some ⟨g,0,none⟩) 1 1 [.int .u8 c.toNat] rfl (fun h=>by cases h) rfl (zgY (cs:=#[.int .u8 c.toNat]) hgx) (by intro u hu;simp at hu;subst hu;rfl) (by unfold maxLen;omega) (by omega) (qm (qm hBw HOW.out.size) hC.off.size) fun v1 w1 ho hg _=>?_);have hC':=hC.app17 hg hllt ho;exact⟨.inr (hS hC'.off),.inl ⟨true,true,b26,true,_,_,x75,_,rfl,rfl,hC'⟩⟩
       ·have hb:b26=false:=(by simpa using hop);subst hb;refine zbT rfl rfl (zda (v:=.slice (some ⟨wx.heap.size,0,none⟩) 1 1) (w':=wx.alloc (.cells #[.slice A1 m.feet.length c1,.slice A2 m.ends.length c2,.slice A3 m.brks.length c3] 79)) (by go_simp;try rfl) ?_);have hC':=hC.box26;exact⟨.inr (hS hC'.off),.inl ⟨b14,b16,true,b17,x63,x65,_,x66,rfl,rfl,hC'⟩⟩
       ·have hb17:b17=true:=zcN hi rfl 17 (by kernel_rfl);have hb26:b26=true:=zcN hi rfl 26 (by kernel_rfl);subst hb17;subst hb26;obtain⟨hb14,hb16⟩:=hC.d17 rfl;subst hb14;subst hb16;obtain⟨g,hx75,hgW,hgx⟩:=hC.u26 rfl;obtain rfl:=hC.l14 rfl;subst hx75;have hof:Off (Value.slice lA f.letters.length lc).ownBlock.toList W wx:=hC.off;have hrow:wx.ownsRow B 79 3 (.slice mA f.metres.length mc) f.metres.length (metC cs):=hof.ownT HCS.out.o (zea HMW.out.l) (by decide);refine zbT rfl rfl (zel (.tmp 73) (.tmp 75) 26 rfl B 79 _ _ 3 72 Tryz.underlying26 zlu zlv zlw zka rfl (by decide) (.slice mA f.metres.length mc) f.metres.length (metC cs) rfl hrow (some ⟨g,0,none⟩) 1 1 [.slice A1 m.feet.length c1,.slice A2 m.ends.length c2,.slice A3 m.brks.length c3] rfl (fun h=>by cases h) rfl (zgY (cs:=#[.slice A1 m.feet.length c1,.slice A2 m.ends.length c2,.slice A3 m.brks.length c3]) hgx) (by intro u hu;simp at hu;rcases hu with rfl|rfl|rfl<;>rfl) (by unfold maxLen;omega) (by omega) (qm (qm hBw HOW.out.size) hC.off.size) fun v1 w1 ho hg _=>?_);have hg1:=zdE hg;have hof1:Off ((Value.slice lA f.letters.length lc).ownBlock.toList++(Value.slice mA f.metres.length mc).ownBlock.toList) W w1:=
         (hof.mono (fun k hk=>.inl (List.mem_append_left _ hk))).trans (hg1.mono (fun k hk=>.inl (List.mem_append_right _ hk)))
        have rbm1:rb∉(Value.slice lA f.letters.length lc).ownBlock.toList++(Value.slice mA f.metres.length mc).ownBlock.toList:=fun hq=>(List.mem_append.1 hq).elim rbm (hmL HRW.out.r (by decide));have fbm1:fb∉(Value.slice lA f.letters.length lc).ownBlock.toList++(Value.slice mA f.metres.length mc).ownBlock.toList:=fun hq=>(List.mem_append.1 hq).elim fbm (hmL HMW.out.x (by decide));have mbm1:w6.heap.size∉(Value.slice lA f.letters.length lc).ownBlock.toList++(Value.slice mA f.metres.length mc).ownBlock.toList:=fun hq=>(List.mem_append.1 hq).elim mbm (fun hq=>(hmlt _ (by simpa using hq)).2 rfl);have hS1:=hST _ w1 hof1 rbm1 fbm1 mbm1;have c1x:w1.cell? ⟨fb,1,none⟩=some (.slice lA f.letters.length lc):=(hof1.cell hflW fbm1).trans d6;have c2x:=hS1.2.2.2.2;have hxf:=(hof1.block fb hflW fbm1).trans HMW.out.x;have z1:w1.frozen? ⟨fb,1,none⟩=false:=qf _ _ 1 _ _ hxf;have z2x:w1.frozen? ⟨fb,2,none⟩=false:=qf _ _ 2 _ _ hxf;have hl1:w1.ownsRow B 5 1 x66 (f.letters.length+1) (byC f.letters++[.int .u8 c.toNat]):=hg1.ownT (hC.r17 rfl) (zea hrow) (by decide);obtain⟨g8,cap8,hx66⟩:=zak hl1 (by omega);obtain⟨g9,cap9,hv1⟩:=zak ho (by omega);subst hx66;subst hv1;have hos1:=Off.setCell w1 fb 1 (.slice (some ⟨g8,0,none⟩) (f.letters.length+1) cap8);have hxf2:=qs w1 fb 1 _ _ (.slice (some ⟨g8,0,none⟩) (f.letters.length+1) cap8) hxf;have z2:(w1.setCell ⟨fb,1,none⟩ (.slice (some ⟨g8,0,none⟩) (f.letters.length+1) cap8)).frozen? ⟨fb,2,none⟩=false:=qf _ _ 2 _ _ hxf2;have c2y:(w1.setCell ⟨fb,1,none⟩ (.slice (some ⟨g8,0,none⟩) (f.letters.length+1) cap8)).cell? ⟨fb,2,none⟩=some (.slice mA f.metres.length mc):=qc _ _ 2 _ _ (0,0) hxf2;have hS2:(w1.setCell ⟨fb,1,none⟩ (.slice (some ⟨g8,0,none⟩) (f.letters.length+1) cap8)).cell? ⟨rb,2,none⟩=some (.pointer (some ⟨fb,0,none⟩))∧(w1.setCell ⟨fb,1,none⟩ (.slice (some ⟨g8,0,none⟩) (f.letters.length+1) cap8)).cell? ⟨w6.heap.size,0,none⟩=some (.slice A1 m.feet.length c1)∧(w1.setCell ⟨fb,1,none⟩ (.slice (some ⟨g8,0,none⟩) (f.letters.length+1) cap8)).cell? ⟨w6.heap.size,1,none⟩=some (.slice A2 m.ends.length c2)∧(w1.setCell ⟨fb,1,none⟩ (.slice (some ⟨g8,0,none⟩) (f.letters.length+1) cap8)).cell? ⟨w6.heap.size,2,none⟩=some (.slice A3 m.brks.length c3)∧(w1.setCell ⟨fb,1,none⟩ (.slice (some ⟨g8,0,none⟩) (f.letters.length+1) cap8)).cell? ⟨fb,2,none⟩=some (.slice mA f.metres.length mc):=by
         have hz1:=hof1.size;have hz5:=Ho5.out.size;have hz6:=Hb6.out.size;exact⟨(hos1.cell (by omega) (by simp;omega)).trans hS1.1,(hos1.cell (by omega) (by simp;omega)).trans hS1.2.1,(hos1.cell (by omega) (by simp;omega)).trans hS1.2.2.1,(hos1.cell (by omega) (by simp;omega)).trans hS1.2.2.2.1,c2y⟩
        have hFin:=HMW.out.more hr0 HCS.out hof1 (fun k hk=>by
         rcases List.mem_append.1 hk with hk|hk
         ·obtain⟨a1,a2,a3,a4,a5⟩:=zea HMW.out.l k hk;exact⟨a1,a2,a3,a4,by simp at a5;simp[a5]⟩
         ·obtain⟨a1,a2,a3,a4,a5⟩:=zea HCS.out.o k hk;exact⟨a1,a2,a3,a4,by simp at a5;simp[a5]⟩) hl1 ho Hsz.out HOM.out
        have hos2:=Off.setCell (w1.setCell ⟨fb,1,none⟩ (.slice (some ⟨g8,0,none⟩) (f.letters.length+1) cap8)) fb 2 (.slice (some ⟨g9,0,none⟩) (f.metres.length+1) cap9);have HF:=qh hFin;have HRd:=qh (((HRW.out.off hof1 rbm1).off hos1 (by simp;omega)).off hos2 (by simp;omega));have HBl:Hid (Below B w ((w1.setCell ⟨fb,1,none⟩ (.slice (some ⟨g8,0,none⟩) (f.letters.length+1) cap8)).setCell ⟨fb,2,none⟩ (.slice (some ⟨g9,0,none⟩) (f.metres.length+1) cap9))):=qh (by
         have b1:=HOW.out.keep hBw hB;have hz1:=hof1.size;have hz2:=hos1.size;have hfB:=HMW.out.hB;refine(b1.trans (hof1.below (qm hBw b1.size) (fun k hk=>?_))).trans ((hos1.below (by omega) (fun k hk=>by simp at hk;omega)).trans (hos2.below (by omega) (fun k hk=>by simp at hk;omega)));rcases List.mem_append.1 hk with hk|hk
         ·exact(HMW.out.l.lt k (by simpa using hk)).1
         ·exact(HCS.out.o.lt k (by simpa using hk)).1)
        have HOk:=qh (Hk.out.letter (m:=m) (c:=c) (j:=E) (by have:=Hj1.out;have:=Hj3.out;omega) (by have:=Hbd.out;omega) (by rw[Hn'.out];exact Hneg.out));obtain⟨fu,rfl⟩:∃fu,fuel=fu+6:=⟨fuel-6,by simp[zeb] at hfu;omega⟩;refine⟨.inr hS1,.inr ?_⟩;simp only[Act.put,List.getElem?_toArray,List.getElem?_cons_zero,List.getElem?_cons_succ,List.getElem_toArray,List.getElem_cons_zero,List.getElem_cons_succ,List.setIfInBounds_toArray,List.set_cons_zero,List.set_cons_succ];clear hfu hop hi hC hg ho hrow hof hg1 hof1 hos1 hos2 hxf hxf2 hFin hS hl1 rbm1 fbm1 mbm1 hST hlL hmL hllt hmlt rbm fbm mbm;refine zbL (i:=28) (by kernel_rfl) (zbT rfl rfl (zda (v:=.pointer (some ⟨fb,0,none⟩)) (w':=w1) (by go_simp;try rfl) ⟨.inr hS1,?_⟩));simp only[Act.put,List.getElem?_toArray,List.getElem?_cons_zero,List.getElem?_cons_succ,List.getElem_toArray,List.getElem_cons_zero,List.getElem_cons_succ,List.setIfInBounds_toArray,List.set_cons_zero,List.set_cons_succ];refine zbL (i:=29) (by kernel_rfl) (zbT rfl rfl (zda (v:=.pointer (some ⟨fb,1,none⟩)) (w':=w1) (by go_simp;try rfl) ⟨.inr hS1,?_⟩));simp only[Act.put,List.getElem?_toArray,List.getElem?_cons_zero,List.getElem?_cons_succ,List.getElem_toArray,List.getElem_cons_zero,List.getElem_cons_succ,List.setIfInBounds_toArray,List.set_cons_zero,List.set_cons_succ];refine zbL (i:=30) (by kernel_rfl) (zbT rfl rfl (zlx (w':=w1.setCell ⟨fb,1,none⟩ (.slice (some ⟨g8,0,none⟩) (f.letters.length+1) cap8)) (by go_simp;try rfl) ⟨.inr hS2,?_⟩));simp only[Act.put,List.getElem?_toArray,List.getElem?_cons_zero,List.getElem?_cons_succ,List.getElem_toArray,List.getElem_cons_zero,List.getElem_cons_succ,List.setIfInBounds_toArray,List.set_cons_zero,List.set_cons_succ];refine zbL (i:=31) (by kernel_rfl) (zbT rfl rfl (zda (v:=.pointer (some ⟨fb,0,none⟩)) (w':=w1.setCell ⟨fb,1,none⟩ (.slice (some ⟨g8,0,none⟩) (f.letters.length+1) cap8)) (by go_simp;try rfl) ⟨.inr hS2,?_⟩));simp only[Act.put,List.getElem?_toArray,List.getElem?_cons_zero,List.getElem?_cons_succ,List.getElem_toArray,List.getElem_cons_zero,List.getElem_cons_succ,List.setIfInBounds_toArray,List.set_cons_zero,List.set_cons_succ];refine zbL (i:=32) (by kernel_rfl) (zbT rfl rfl (zda (v:=.pointer (some ⟨fb,2,none⟩)) (w':=w1.setCell ⟨fb,1,none⟩ (.slice (some ⟨g8,0,none⟩) (f.letters.length+1) cap8)) (by go_simp;try rfl) ⟨.inr hS2,?_⟩));simp only[Act.put,List.getElem?_toArray,List.getElem?_cons_zero,List.getElem?_cons_succ,List.getElem_toArray,List.getElem_cons_zero,List.getElem_cons_succ,List.setIfInBounds_toArray,List.set_cons_zero,List.set_cons_succ];refine zbL (i:=33) (by kernel_rfl) (zbT rfl rfl ?_);refine zlx (w':=(w1.setCell ⟨fb,1,none⟩ (.slice (some ⟨g8,0,none⟩) (f.letters.length+1) cap8)).setCell ⟨fb,2,none⟩ (.slice (some ⟨g9,0,none⟩) (f.metres.length+1) cap9)) ?_ ?_
        ·go_simp;try with_reducible rfl
        refine⟨.inl (by decide),?_⟩;refine zhv (by kernel_rfl) ?_ _;clear hS1 hS2 c1x c2x c2y z1 z2 z2x;go_wp2_with fail;refine bodyPost_end (results_none rfl _ _ _) rfl ?_;rw[HR2.out];exact⟨HBl.out,rfl,HRd.out,HOk.out,_,_,_,HF.out⟩
       all_goals (have:=zcN hi rfl 27 (by kernel_rfl);simp at this)
theorem zfs {w:World} {B e z n:Nat} {v:Value} {xs:List Value} (h:w.ownsRow B e z v n xs):∀k∈v.ownBlock.toList,B≤k∧k<w.heap.size:=fun k hk=>by
 rw[Option.mem_toList] at hk;exact h.lt k hk
theorem zcO {w:World} {B e z n b:Nat} {v:Value} {xs:List Value} {cs:Array Value} {e':Nat} {fz:Nat×Nat} (h:w.ownsRow B e z v n xs) (hb:w.heap[b]?=some (.cells cs e' fz)) (hne:e≠e'):b∉v.ownBlock.toList:=fun hk=>by
 rw[Option.mem_toList] at hk;rcases zac h hb hne with h1|h1
 ·rw[h1] at hk;cases hk
 ·exact h1 hk
structure RoJ (w W:World) (rb wb:Nat) (s:ByteArray) (F:RF) (round:Bool) (i1:Nat) (l:List It) (j:Nat) (vi:Value) (vms:List Value):Prop where
 rr:RR W rb s j 0 0 F
 bx:W.heap[wb]?=some (.cells #[.bool round,vi] 96 (0,0))
 its:RItsM W w.heap.size vi l vms
 off:Off [rb] w W
 len:l.length+i1≤j
 jle:j≤s.size
 ok:∀x∈l,ItOk x
theorem RoJ.offR {w W W':World} {rb wb:Nat} {s:ByteArray} {F:RF} {round:Bool} {i1:Nat} {l:List It} {j:Nat} {vi:Value} {vms:List Value} (h:RoJ w W rb wb s F round i1 l j vi vms) (hw:wb≠rb) (ho:Off [rb] W W'):
  W'.heap[wb]?=some (.cells #[.bool round,vi] 96 (0,0))∧RItsM W' w.heap.size vi l vms∧Off [rb] w W':=
 ⟨(ho.block _ (qg h.bx).1 (by simp;exact hw)).trans h.bx,h.its.off ho (TyAt.one h.rr.r) (by decide) (by decide),h.off.trans ho⟩
theorem RoJ.next {w W W7 w8:World} {rb wb:Nat} {s:ByteArray} {F:RF} {round:Bool} {i1:Nat} {l:List It} {j k:Nat} {vi vx v':Value} {vms:List Value} {x:It} (h:RoJ w W rb wb s F round i1 l j vi vms) (hw:wb≠rb) (hwb:w.heap.size≤wb) (ho:Off [rb] W W7)
  (hr7:RR W7 rb s k 0 0 F) (hm7:MksM W7 w.heap.size vx x.marks) (hjk:j+1≤k) (hk:k≤s.size) (hx:ItOk x)
  (hown:w8.ownsRow w.heap.size 99 4 v' (l.length+1) (ritC l vms++[.int .i64 x.cls,.int .i64 x.ref,vx,.int .i64 x.at_])) (hg:W7.grownBy w8 vi.ownBlock):
  RoJ w (w8.setCell ⟨wb,1,none⟩ v') rb wb s F round i1 (l++[x]) k v' (vms++[vx])∧w8.cell? ⟨wb,1,none⟩=some vi∧w8.frozen? ⟨wb,1,none⟩=false:=by
 obtain⟨hb7,hi7,ho7⟩:=h.offR hw ho;have hog:Off vi.ownBlock.toList W7 w8:=Off.grown hg (fun k hk=>by rw[hk];simp);have ht:TyAt W7 vi.ownBlock.toList [99]:=zea hi7.o;have hb8:=(hog.block wb (qg hb7).1 (zcO hi7.o hb7 (by decide))).trans hb7;have hr8:=hr7.off hog (zcO hi7.o hr7.r (by decide));have hos:=Off.setCell w8 wb 1 v';have hts:TyAt w8 [wb] [96]:=TyAt.one hb8;have hn:=h.its.n;have e1:∀q,q<l.length→(vms++[vx]).getD q .nilFunc=vms.getD q .nilFunc∧(l++[x]).getD q It0=l.getD q It0:=fun q hq=>⟨zaR _ _ _ _ (by omega),zaR _ _ _ _ hq⟩;refine⟨⟨hr8.off hos (by simp;exact fun e=>hw e.symm),qs w8 wb 1 _ _ v' hb8,⟨by simp[hn],?_,fun q hq=>?_⟩,(ho7.into hog (fun k hk=>.inr (zfs hi7.o k hk).1)).into hos (fun k hk=>by simp at hk;omega),by simp;have:=h.len;omega,hk,fun y hy=>?_⟩,qc _ _ 1 _ _ (0,0) hb8,qf _ _ 1 _ _ hb8⟩
 ·rw[zgT l vms x vx hn,List.length_append];exact hos.ownT hown hts (by decide)
 ·by_cases hql:q<l.length
  ·rw[(e1 q hql).1,(e1 q hql).2];exact hos.ownT (hog.ownT (hi7.m q hql) ht (by decide)) hts (by decide)
  ·obtain rfl:q=l.length:=by simp at hq;omega
   have e2:(l++[x]).getD l.length It0=x:=zaM _ _ _;have e3:(vms++[vx]).getD l.length .nilFunc=vx:=(by rw[←hn];exact zaM _ _ _);rw[e2,e3];exact hos.ownT (hog.ownT hm7 ht (by decide)) hts (by decide)
 ·rcases List.mem_append.1 hy with hy|hy
  ·exact h.ok y hy
  ·obtain rfl:=List.mem_singleton.1 hy;exact hx
theorem zft {s:ByteArray} {letters:List UInt8}:∀(f:Nat) (ms:List Mk) (i:Nat) {ms':List Mk} {k:Nat},zaB s letters f ms i=.ok (ms',k)→ms'.length+i≤ms.length+k
 |0,ms,i,ms',k,h=>by unfold zaB at h;cases h;exact ql _
 |f+1,ms,i,ms',k,h=>by
  unfold zaB at h;split at h
  ·rename_i hc;cases hm:za0 s letters ms i with
   |error e=>rw[hm] at h;cases h
   |ok mj=>
    obtain⟨m,j⟩:=mj;rw[hm] at h;have:=zft f _ j h;obtain⟨h1,h2,h3⟩:=zcW hc.1 hc.2 hm;have:=(zdz h2).1;have e:(ms++[m]).length=ms.length+1:=(by simp);omega
  ·cases h;exact ql _
end Go.Proofs.YtgklikkddckgbaaGreatDoor.Mo

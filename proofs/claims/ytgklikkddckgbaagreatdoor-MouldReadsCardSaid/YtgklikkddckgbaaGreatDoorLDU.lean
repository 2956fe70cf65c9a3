import Derived.Test.YtgklikkddckgbaaGreatDoorLDT
/- Lemmas. -/
set_option linter.all false
set_option maxRecDepth 100000
set_option maxHeartbeats 16000000
namespace Go.Proofs.YtgklikkddckgbaaGreatDoor
open Go.RowKit
variable {w w1 w':World} {base b:Nat} {s:ByteArray} {T cap i:Nat} {m:Met} {ec ep:Int} {vf ve vb:Value} {vs:List Value}
def Kg (base b:Nat) (s:ByteArray) (T cap:Nat) (w:World) (r:Z9) (e:Ending) (w':World):Prop:=
 RG base b s T cap w r e w'/\match r with|.error _=>True|.ok (_,m')=>pl m'
theorem Kg.err {r:Z9} {c:Int} {p:Nat} (h:r=.error (c,p)) (hb:Below base w w') (hr:RQ w' base b s T cap i m c p vf ve vb vs):Kg base b s T cap w r (.returned (.bool false)) w':=
 ⟨RG.err h hb hr,by subst h;trivial⟩
theorem Kg.good {r:Z9} {L:List Tok} (h:r=.ok (L,m)) (hL:(toks s 0).drop i=L) (hb:Below base w w') (hr:RQ w' base b s T cap i m ec ep vf ve vb vs) (hz:pl m):Kg base b s T cap w r (.returned (.bool true)) w':=
 ⟨RG.good h hL hb hr,by subst h;exact hz⟩
theorem RR.zp1 {lv:Value} {g cp:Nat} (h:RR w base b lv m ec ep (.slice (some ⟨g,0,none⟩) m.gO.length cp) ve vb vs) {k:Nat} (hk:k<m.gO.length):
  w.cell? ⟨g,k*2,none⟩=some (.string (m.gO.getD k default).own)/\∃A c,vs.getD k yK=.slice A (m.gO.getD k default).gR.length c/\w.cell? ⟨g,k*2+1,none⟩=some (.slice A (m.gO.getD k default).gR.length c)/\pn w w.heap.size A (m.gO.getD k default).gR:=by
 have hg:=zcr m.gO vs k h.vl hk;obtain⟨A,c,hv,hc,hw⟩:=zds (h.gR k hk);rw[h.gO.cellAt (k*2) (by omega),h.gO.cellAt (k*2+1) (by omega),hg.1,hg.2,hv];exact⟨rfl,A,c,rfl,rfl,hw⟩
def zhH (sg:ByteArray) (all:Bool) (f:Ft):Bool:=!(all&&ph f.own sg)&&decide (15<=f.gR.length)
theorem zlb {sg:ByteArray} {all:Bool} {l:List Ft} (h:∀f∈l,f.gR.length<=15):l.any (zhH sg all)=l.any (Vo sg all):=by
 rw[kF,kA,kA];have e:∀f∈l,zhH sg all f=Vo sg all f:=λf hf=>by
  have:=h f hf;unfold zhH Vo;have:decide (15<=f.gR.length)=decide (f.gR.length=15):=by rw[decide_eq_decide];omega
  rw[this]
 constructor
 ·rintro⟨f,hf,h1⟩;exact⟨f,hf,by rw[<-e f hf];exact h1⟩
 ·rintro⟨f,hf,h1⟩;exact⟨f,hf,by rw[e f hf];exact h1⟩
def zeU (fs:List Ft) (i k:Nat):List Ft:=(fs.drop i).take k
theorem zg9 (fs:List Ft) (i k:Nat) (p:Ft->Bool) (h:i+k<fs.length):(zeU fs i (k+1)).any p=((zeU fs i k).any p||p (fs.getD (i+k) default)):=by
 unfold zeU;have h1:k<(fs.drop i).length:=by rw[zK];omega
 rw[zbp _ _ _ h1];congr 2
 simp[qj,kD]
theorem zkl {fs:List Ft} {i k:Nat} {sg:ByteArray} {c:Int} {all:Bool} (hik:i+k<fs.length) (hf:uk sg c all (fs.getD (i+k) default)=fs.getD (i+k) default):yY fs i (k+1) sg c all=yY fs i k sg c all:=by
 rw[zdt _ _ _ _ _ _ hik,hf];refine zfO default (by simp) λq hq=>?_;rw[ju] at hq;rw[zbX _ _ _ _ _ hq];by_cases e:i+k=q
 ·subst e;rw[qy rfl,zcb _ _ _ _ _ _ hik]
 ·rw[qx e]
theorem RQ.zrz {i0 k g cp:Nat} {sg:ByteArray} {c:Int} {all:Bool} (h:RQ w base b s T cap i {m with gO:=yY m.gO i0 k sg c all} ec ep (.slice (some ⟨g,0,none⟩) m.gO.length cp) ve vb vs) (hik:i0+k<m.gO.length)
  (hf:uk sg c all (m.gO.getD (i0+k) default)=⟨(m.gO.getD (i0+k) default).own,(m.gO.getD (i0+k) default).gR++[(sg,c)]⟩) {v':Value}
  (ho:w1.ownsRow base 83 2 v' ((m.gO.getD (i0+k) default).gR.length+1) (Qu (m.gO.getD (i0+k) default).gR++[.string sg,.int .i64 c])) (hg:w.grownBy w1 (vs.getD (i0+k) yK).ownBlock)
  (hat:v'.ownBlock=(vs.getD (i0+k) yK).ownBlock∨∃N,v'.ownBlock=some N/\w.heap.size<=N):
  RQ (w1.setCell ⟨g,(i0+k)*2+1,none⟩ v') base b s T cap i {m with gO:=yY m.gO i0 (k+1) sg c all} ec ep (.slice (some ⟨g,0,none⟩) m.gO.length cp) ve vb (vs.set (i0+k) v'):=by
 have hlen:(yY m.gO i0 k sg c all).length=m.gO.length:=za5 _ _ _ _ _ _ (by omega);have hh:=zcb m.gO i0 k sg c all hik;have hr:=h.way (j:=i0+k) (g:=g) (cp:=cp) (by simpa [hlen] using hik) (by simp[hlen]) (sg,c) (v':=v') (w1:=w1) (by simp only[hh];exact ho) hg hat;simp only[hh] at hr;unfold Met.QE at hr;simp only[] at hr;rw[zdt _ _ _ _ _ _ hik,hf];exact hr
theorem zeV {g cp:Nat} (h:RQ w base b s T cap i m ec ep (.slice (some ⟨g,0,none⟩) m.gO.length cp) ve vb vs) (hs:s.size<=65536) (hv:Vars w) (h6:9<=base) (hz:pl m) (i0 n e0:Nat) (he0:e0=i0+n) (hin:e0<=m.gO.length) (all:Bool):
  Calls Tryz.prog 159 #[.pointer (some ⟨b,0,none⟩),.int .i64 i0,.int .i64 e0,.bool all] w (Kg base b s T cap w (ZS ((toks s 0).drop i).length ((toks s 0).drop i) m i0 n all)):=by
 have H:=qh h;have Hz:=qh hz;have Hv:=qh hv;have zrT:m.gO.length<=16:=hz.gO;generalize hN:m.gO.length=N at*;generalize hR:ZS ((toks s 0).drop i).length ((toks s 0).drop i) m i0 n all=R;have HR:=qh hR;have HN:=qh hN;have He0:=qh he0;have hie:i0<=e0:=by omega
 clear h hz hv hR hN he0;go_enter Tryz.func159,Tryz.ntmps159;go_wp2_with fail;go_loopg [] ((toks s 0).drop i).length (λgg wr=>∃(j:Nat) (m':Met) (vs':List Value) (KM KN:Int),Hid (((toks s 0).drop j).length<=gg)/\Hid (ZS gg ((toks s 0).drop j) m' i0 n all=R)/\Hid (pl m')/\Hid (m'.gO.length=N)/\
  Hid (RQ wr base b s T cap j m' KM KN (.slice (some ⟨g,0,none⟩) N cp) ve vb vs')/\Hid (Below base w wr))
 case atStart=>exact⟨i,m,vs,ec,ep,qh (ql _),HR,Hz,HN,H,qh (qb _ _)⟩
 case round=>
  obtain⟨j,m',vs',KM,KN,Xu,hP,hzz,hN',hr,hbr⟩:=hrel;clear H Hz HR HN;have hpos:0<((toks s 0).drop j).length:=by have:=hr.out.hi;rw[zK];omega
  obtain⟨q,rfl⟩:∃q,gk=q+1:=⟨gk-1,by have:=Xu.out;omega⟩;have c0:=hr.out.rr.rb.c0;have t0:=hr.out.t0;have t1:=hr.out.t1;have hNN:0<(toks s 0).length-j:=by have:=hr.out.hi;omega
  have hcp:(toks s 0).length-j<=cap-j:=by have:=hr.out.caps;omega
  have hbl:=hr.out.bl;unfold uH at c0;have H1:=qh (hr.out.below ((qb wr.heap.size wr).alloc (ql _) (.cells #[.int .i64 (hd ((toks s 0).drop j)).1,.string (hd ((toks s 0).drop j)).2] 187)));have Hb1:Hid (Below base w (wr.alloc (.cells #[.int .i64 (hd ((toks s 0).drop j)).1,.string (hd ((toks s 0).drop j)).2] 187))):=qh (hbr.out.alloc hr.out.bs _);have HX:Hid ((wr.alloc (.cells #[.int .i64 (hd ((toks s 0).drop j)).1,.string (hd ((toks s 0).drop j)).2] 187)).heap[wr.heap.size]?=_):=qh (qn wr _);have XF:=qh (λh0=>V4 (s:=s) (i:=j) hr.out.hi h0);have Hfp:=qh (λh=>zeT (t:=(hd ((toks s 0).drop j)).2) h);generalize hW1:wr.alloc (.cells #[.int .i64 (hd ((toks s 0).drop j)).1,.string (hd ((toks s 0).drop j)).2] 187)=W1 at H1 Hb1 HX;have hxs:wr.heap.size<W1.heap.size:=by rw[<-hW1];simp
  have HW1:=qh hW1;clear hW1;have hft:=zde H1.out hs;generalize XL:(toks s 0).drop j=L at*;have VP:=qh XL;clear XL;have Hhd:Hid (∃tk,hd L=tk):=qh ⟨_,rfl⟩;generalize htk:hd L=tk at*;have Zk:=qh htk;clear htk Hhd;generalize (toks s 0).length-j=NN at*;generalize cap-j=C at*;obtain⟨p,t⟩:=tk;simp only[] at t0 t1 HW1 HX Hfp hft;unfold pt at hft;simp only[] at hft;have hFe:pT t=((pT t).1,(pT t).2):=rfl;generalize (pT t).1=sg at hft hFe;generalize hfer:(pT t).2=er at hft hFe Hfp;clear hfer;have HFe:Hid (pT (hd L).2=(sg,er)):=qh (by rw[Zk.out];exact hFe);have Hft:=qh hft;clear hFe hft;go_upto_region 2 with(fail)
  rw[HW1.out];clear t0 t1 c0 HW1;go_wp2_with fail;refine Hft.out.mono ?_;rintro e w2 ⟨hb2,hr2⟩;have Hb2:=qh (Hb1.out.grown hb2 H1.out.bs (λk e=>by cases e;exact H1.out.rr.hb));have Zj:Hid (w2.heap[wr.heap.size]?=some (.cells #[.int .i64 p,.string t] 187 (0,0))):=qh ((hb2.block wr.heap.size hxs (by simp;omega)).trans HX.out);clear hb2 Hft;by_cases h0:er=0
  ·subst h0;simp only[ye,kt] at hr2;obtain⟨rfl,hr2⟩:=hr2;have H2:=qh hr2;have HJ:=qh (XF.out (Hfp.out rfl)).2;clear hr2 XF Hfp hxs;obtain⟨wo,hwo⟩:∃wo:World,wo=wr:=⟨_,rfl⟩;subst hwo;go_upto_region 7 with(fail)
   have HSz:=qh hzz.out.gR;go_loopw [12,13,14] (λv12 v13 q wr=>∃x:Nat,i0<=x/\x<=e0/\q=.int .i64 x/\v12=.bool ((zeU m'.gO i0 (x-i0)).any (VF sg all))/\v13=.bool ((zeU m'.gO i0 (x-i0)).any (zhH sg all))/\Hid (Below w2.heap.size w2 wr)) (λ_ _ q _=>e0-(intOf q).toNat)
   case atStart=>exact⟨i0,by omega,by omega,rfl,by simp[zeU],by simp[zeU],qh (qb _ _)⟩
   case round=>
    obtain⟨x,hix,hxe,rfl,rfl,rfl,hb⟩:=hrel;by_cases hlt:x<e0
    ·have hxN:x<m'.gO.length:=(by have:=hN'.out;omega);have HX2:=qh (H2.out.below hb.out);have hft2:RQ wr base b s T cap (j+1) m' KM KN (.slice (some ⟨g,0,none⟩) m'.gO.length cp) ve vb vs':=(by rw[hN'.out];exact HX2.out);obtain⟨f1,A,c,hve,f2,hiw⟩:=hft2.rr.zp1 hxN;have c1:=HX2.out.rr.rb.c1;have hxN2:x<N:=(by have:=hN'.out;omega);have hxe2:i0+(x-i0)=x:=(by omega);have hn1:=zg9 m'.gO i0 (x-i0) (VF sg all) (by rw[hxe2];exact hxN);have hn2:=zg9 m'.gO i0 (x-i0) (zhH sg all) (by rw[hxe2];exact hxN);rw[hxe2] at hn1 hn2;have zqr:=HSz.out x hxN;have HK:Hid (x+1-i0=x-i0+1):=qh (by omega);have hsz:=hb.out.size;have hba:Below w2.heap.size w2 (wr.alloc (.cells #[.string (m'.gO.getD x default).own,.slice A (m'.gO.getD x default).gR.length c] 81)):=hb.out.alloc hsz _;have Xx:=qh hba;have KO:Hid ((wr.alloc (.cells #[.string (m'.gO.getD x default).own,.slice A (m'.gO.getD x default).gR.length c] 81)).heap[wr.heap.size]?=_):=qh (qn wr _);have zsK:=qh ((hiw.below ((qb wr.heap.size wr).alloc (ql _) (.cells #[.string (m'.gO.getD x default).own,.slice A (m'.gO.getD x default).gR.length c] 81))).more (B':=(wr.alloc (.cells #[.string (m'.gO.getD x default).own,.slice A (m'.gO.getD x default).gR.length c] 81)).heap.size) (by simp));have hgx:g<wr.heap.size:=(HX2.out.rr.gO.lt g rfl).2;have hbx:b<wr.heap.size:=HX2.out.bl;clear hba hiw hve hft2 hxN hxe2;generalize m'.gO.getD x default=f at*;obtain⟨own,gR⟩:=f;simp only[VF,zhH] at hn1 hn2;simp only[] at f1 f2 zqr Xx KO zsK;generalize (zeU m'.gO i0 (x-i0)).any (VF sg all)=A0 at*;generalize (zeU m'.gO i0 (x-i0)).any (zhH sg all)=B0 at*;cases hq:ph own sg with|true=>?_|false=>?_
     rotate_right
     focus
      have hq2:(own.toList==sg.toList)=false:=(by unfold ph at hq;exact hq);have hha:=λW hw=>zfw A c gR sg W hw (by omega);have Hha:=qh hha;simp only[hq,xJ,jN,zU,zg] at hn1 hn2;clear hha;cases all with|true=>?_|false=>?_
      rotate_right
      focus
       cases A0 with|true=>?_|false=>?_
       rotate_right
       focus
        try simp only[zr,zg] at hn1
        have Hn1:=qh hn1;clear hn1;cases B0 with|true=>?_|false=>?_
        rotate_right
        focus
         try simp only[zr,zg] at hn2
         cases QK:decide (15<=gR.length) with|true=>?_|false=>?_
         rotate_right;rw[QK] at hn2;have KR:=qh hn2;have Q7:¬(15:Int)<=(gR.length:Int):=(by have:=zA QK;omega)
         rotate_right;rw[QK] at hn2;have KR:=qh hn2;have Q7:(15:Int)<=(gR.length:Int):=(by have:=zk QK;omega)
         all_goals(have H15:=qh Q7;clear hn2 hq QK)
        rotate_right;try simp only[zr,zg] at hn2
        have KR:=qh hn2;clear hn2 hq
        all_goals(go_wp2_with fail;refine(Hha.out _ zsK.out).mono ?_;rintro e w5 ⟨rfl,hb5⟩;have hw1:w5.cell? ⟨wr.heap.size,1,none⟩=some (.slice A gR.length c):=qc _ _ _ _ 81 (0,0) ((hb5.block _ (by simp)).trans KO.out);have Hbe:Hid (Below w2.heap.size w2 w5):=qh (Xx.out.trans (hb5.mono Xx.out.size));clear hb5;go_wp2_with fail)
       rotate_right
       focus
        try simp only[zr,zg] at hn1
        have Hn1:=qh hn1;clear hn1;cases B0 with|true=>?_|false=>?_
        rotate_right
        focus
         try simp only[zr,zg] at hn2
         cases QK:decide (15<=gR.length) with|true=>?_|false=>?_
         rotate_right;rw[QK] at hn2;have KR:=qh hn2;have Q7:¬(15:Int)<=(gR.length:Int):=(by have:=zA QK;omega)
         rotate_right;rw[QK] at hn2;have KR:=qh hn2;have Q7:(15:Int)<=(gR.length:Int):=(by have:=zk QK;omega)
         all_goals(have H15:=qh Q7;clear hn2 hq QK)
        rotate_right;try simp only[zr,zg] at hn2
        have KR:=qh hn2;clear hn2 hq
        all_goals(go_wp2_with fail;have Hbe:=Xx)
      rotate_right
      focus
       cases A0 with|true=>?_|false=>?_
       rotate_right
       focus
        try simp only[zr,zg] at hn1
        have Hn1:=qh hn1;clear hn1;cases B0 with|true=>?_|false=>?_
        rotate_right
        focus
         try simp only[zr,zg] at hn2
         cases QK:decide (15<=gR.length) with|true=>?_|false=>?_
         rotate_right;rw[QK] at hn2;have KR:=qh hn2;have Q7:¬(15:Int)<=(gR.length:Int):=(by have:=zA QK;omega)
         rotate_right;rw[QK] at hn2;have KR:=qh hn2;have Q7:(15:Int)<=(gR.length:Int):=(by have:=zk QK;omega)
         all_goals(have H15:=qh Q7;clear hn2 hq QK)
        rotate_right;try simp only[zr,zg] at hn2
        have KR:=qh hn2;clear hn2 hq
        all_goals(go_wp2_with fail;refine(Hha.out _ zsK.out).mono ?_;rintro e w5 ⟨rfl,hb5⟩;have hw1:w5.cell? ⟨wr.heap.size,1,none⟩=some (.slice A gR.length c):=qc _ _ _ _ 81 (0,0) ((hb5.block _ (by simp)).trans KO.out);have Hbe:Hid (Below w2.heap.size w2 w5):=qh (Xx.out.trans (hb5.mono Xx.out.size));clear hb5;go_wp2_with fail)
       rotate_right
       focus
        try simp only[zr,zg] at hn1
        have Hn1:=qh hn1;clear hn1;cases B0 with|true=>?_|false=>?_
        rotate_right
        focus
         try simp only[zr,zg] at hn2
         cases QK:decide (15<=gR.length) with|true=>?_|false=>?_
         rotate_right;rw[QK] at hn2;have KR:=qh hn2;have Q7:¬(15:Int)<=(gR.length:Int):=(by have:=zA QK;omega)
         rotate_right;rw[QK] at hn2;have KR:=qh hn2;have Q7:(15:Int)<=(gR.length:Int):=(by have:=zk QK;omega)
         all_goals(have H15:=qh Q7;clear hn2 hq QK)
        rotate_right;try simp only[zr,zg] at hn2
        have KR:=qh hn2;clear hn2 hq
        all_goals(go_wp2_with fail;have Hbe:=Xx)
     rotate_right
     focus
      have hq2:(own.toList==sg.toList)=true:=(by unfold ph at hq;exact hq);cases all with|true=>?_|false=>?_
      rotate_right
      focus
       simp only[hq,yF,jN,zU,zr,Bool.or_true] at hn1 hn2;cases A0 with|true=>?_|false=>?_
       rotate_right
       focus
        try simp only[zr,zg] at hn1
        have Hn1:=qh hn1;clear hn1;cases B0 with|true=>?_|false=>?_
        rotate_right
        focus
         try simp only[zr,zg] at hn2
         cases QK:decide (15<=gR.length) with|true=>?_|false=>?_
         rotate_right;rw[QK] at hn2;have KR:=qh hn2;have Q7:¬(15:Int)<=(gR.length:Int):=(by have:=zA QK;omega)
         rotate_right;rw[QK] at hn2;have KR:=qh hn2;have Q7:(15:Int)<=(gR.length:Int):=(by have:=zk QK;omega)
         all_goals(have H15:=qh Q7;clear hn2 hq QK)
        rotate_right;try simp only[zr,zg] at hn2
        have KR:=qh hn2;clear hn2 hq
       rotate_right
       focus
        try simp only[zr,zg] at hn1
        have Hn1:=qh hn1;clear hn1;cases B0 with|true=>?_|false=>?_
        rotate_right
        focus
         try simp only[zr,zg] at hn2
         cases QK:decide (15<=gR.length) with|true=>?_|false=>?_
         rotate_right;rw[QK] at hn2;have KR:=qh hn2;have Q7:¬(15:Int)<=(gR.length:Int):=(by have:=zA QK;omega)
         rotate_right;rw[QK] at hn2;have KR:=qh hn2;have Q7:(15:Int)<=(gR.length:Int):=(by have:=zk QK;omega)
         all_goals(have H15:=qh Q7;clear hn2 hq QK)
        rotate_right;try simp only[zr,zg] at hn2
        have KR:=qh hn2;clear hn2 hq
       all_goals(go_wp2_with fail;have Hbe:=Xx)
      rotate_right;simp only[hq,Bool.and_self,Bool.not_true,yF,yf] at hn1 hn2;have Hn1:=qh hn1;have KR:=qh hn2;clear hn1 hn2 hq;have Hbe:=Xx;go_wp2_with fail
     all_goals
      go_roundw
      case rel=>exact⟨x+1,by omega,by omega,by go_num,by rw[HK.out,Hn1.out],by first|(rw[HK.out,KR.out];done)|(rw[HK.out,KR.out];exact congrArg Value.bool (qd (by have:=H15.out;omega))),Hbe⟩
      case measure=>simp[intOf];omega
    ·obtain rfl:e0=x:=by omega
     have hse:zeU m'.gO i0 (e0-i0)=(m'.gO.drop i0).take n:=(by unfold zeU;rw[He0.out,Nat.add_sub_cancel_left]);have hlg:=zlb (sg:=sg) (all:=all) (l:=(m'.gO.drop i0).take n) (zjI HSz.out i0 n);rw[hse,hlg];have VA:Hid (Xp ((m'.gO.drop i0).take n) sg all=if((m'.gO.drop i0).take n).any (VF sg all) then 132 else if((m'.gO.drop i0).take n).any (Vo sg all) then 3 else 0):=qh rfl;have H3:=qh (H2.out.below hb.out);have HB3:=qh (Hb2.out.trans (hb.out.mono H2.out.bs));have JY:Hid (wr.heap[wo.heap.size]?=some (.cells #[.int .i64 p,.string t] 187 (0,0))):=qh ((hb.out.block _ (qg Zj.out).1).trans Zj.out);have x0:wr.cell? ⟨wo.heap.size,0,none⟩=some (.int .i64 p):=qc _ _ _ _ 187 (0,0) JY.out;have x1:wr.cell? ⟨wo.heap.size,1,none⟩=some (.string t):=qc _ _ _ _ 187 (0,0) JY.out;have hxs:wo.heap.size<wr.heap.size:=(qg JY.out).1;clear hse hlg hb;generalize ((m'.gO.drop i0).take n).any (VF sg all)=A0 at*;generalize ((m'.gO.drop i0).take n).any (Vo sg all)=B0 at*;cases A0 with
     |true=>have HL3:Hid (Xp ((m'.gO.drop i0).take n) sg all=132):=qh (by rw[VA.out];rfl);have Hw:=qh (zeF (f:=q) (m:=m') (i:=i0) (n:=n) (all:=all) HFe.out HL3.out (by decide));clear VA HL3;have hfl:=gX 132 (p,t) H3.out;unfold ue at hfl;simp only[] at hfl;have Jj:=qh hfl;clear hfl;go_wp2_with fail;refine Jj.out.mono ?_;rintro e w' ⟨rfl,pB,pb⟩;have Qd:=qh pB;have pP:=qh (HB3.out.grown pb H3.out.bs (λk e=>by cases e;exact H3.out.rr.hb));clear pB pb;go_wp2_with fail;go_ret;exact Kg.err (hP.out.symm.trans (Hw.out.trans (by rw[Zk.out]))) pP.out Qd.out
     |false=>
      cases B0 with
      |true=>have HL3:Hid (Xp ((m'.gO.drop i0).take n) sg all=3):=qh (by rw[VA.out];rfl);have Hw:=qh (zeF (f:=q) (m:=m') (i:=i0) (n:=n) (all:=all) HFe.out HL3.out (by decide));clear VA HL3;have hfl:=gX 3 (p,t) H3.out;unfold ue at hfl;simp only[] at hfl;have Jj:=qh hfl;clear hfl;go_wp2_with fail;refine Jj.out.mono ?_;rintro e w' ⟨rfl,pB,pb⟩;have Qd:=qh pB;have pP:=qh (HB3.out.grown pb H3.out.bs (λk e=>by cases e;exact H3.out.rr.hb));clear pB pb;go_wp2_with fail;go_ret;exact Kg.err (hP.out.symm.trans (Hw.out.trans (by rw[Zk.out]))) pP.out Qd.out
      |false=>
       have HL3:Hid (Xp ((m'.gO.drop i0).take n) sg all=0):=qh (by rw[VA.out];rfl);clear VA x0 x1;have pk:=zbc 0 1048576 H3.out (Hv.out.below HB3.out h6) h6 hs;have Y5:=qh (λh0=>V4 (s:=s) (i:=j+1) H3.out.hi h0);rw[HJ.out] at pk Y5;have KA:=qh (λh=>zc1 (t:=(hd (gW L)).2) (lo:=0) (hi:=1048576) h);have hNe:gV (hd (gW L)).2 0 1048576=((gV (hd (gW L)).2 0 1048576).1,(gV (hd (gW L)).2 0 1048576).2):=rfl;unfold pC at pk;generalize (gV (hd (gW L)).2 0 1048576).1=nn at pk hNe;generalize hen:(gV (hd (gW L)).2 0 1048576).2=en at pk hNe KA;clear hen;have KH:=qh hNe;have pE:=qh pk;clear hNe pk hxs;go_wp2_with fail;refine pE.out.mono ?_;rintro e w5 ⟨hb5,pi⟩;have Y8:=qh (HB3.out.grown hb5 H3.out.bs (λk e=>by cases e;exact H3.out.rr.hb));clear hb5 pE;by_cases hn0:en=0
       ·subst hn0;simp only[ye,kt] at pi;obtain⟨rfl,pi⟩:=pi;have H5:=qh pi;have HJ2:=qh (Y5.out (KA.out rfl)).2;have Hm7:=qh (zfj hzz.out (i:=i0) (n:=n) (by have:=He0.out;have:=hN'.out;omega) (sg:=sg) (c:=nn) (all:=all) HL3.out);have Hm8:=qh ((za5 m'.gO i0 n sg nn all (by have:=He0.out;have:=hN'.out;omega)).trans hN'.out);clear pi Y5 KA;generalize hj2:j+1+1=j2 at*;go_upto_region 21 with(fail)
        go_loopw [17] (λq wr=>∃(x:Nat) (V5:List Value),i0<=x/\x<=e0/\q=.int .i64 x/\Hid (RQ wr base b s T cap j2 {m' with gO:=yY m'.gO i0 (x-i0) sg nn all} KM KN (.slice (some ⟨g,0,none⟩) N cp) ve vb V5)/\Hid (Below base w wr)) (λq _=>e0-(intOf q).toNat)
        case atStart=>exact⟨i0,vs',by omega,by omega,rfl,qh (by rw[xH,zgt];exact H5.out),Y8⟩
        case round=>
         obtain⟨x,V5,hix5,hxe5,rfl,h7,QW⟩:=hrel;by_cases hlt5:x<e0
         ·have hxN:x<m'.gO.length:=(by have:=hN'.out;omega);have hk:i0+(x-i0)=x:=(by omega);have hlen:(yY m'.gO i0 (x-i0) sg nn all).length=m'.gO.length:=za5 _ _ _ _ _ _ (by omega);have hh:=zcb m'.gO i0 (x-i0) sg nn all (by omega);rw[hk] at hh;have h72:RQ wr base b s T cap j2 {m' with gO:=yY m'.gO i0 (x-i0) sg nn all} KM KN (.slice (some ⟨g,0,none⟩) ({m' with gO:=yY m'.gO i0 (x-i0) sg nn all}:Met).gO.length cp) ve vb V5:=by
           show RQ wr base b s T cap j2 _ KM KN (.slice (some ⟨g,0,none⟩) (yY m'.gO i0 (x-i0) sg nn all).length cp) ve vb V5;rw[hlen,hN'.out];exact h7.out
          obtain⟨f1,A,c,hve,f2,hiw⟩:=h72.rr.zp1 (k:=x) (by show x<(yY m'.gO i0 (x-i0) sg nn all).length;omega);have hwv:=h72.rr.gR x (by show x<(yY m'.gO i0 (x-i0) sg nn all).length;omega);have hfe:=h72.rr.gO;simp only[hh,hlen] at f1 hve f2 hwv hfe;have z2:=hfe.frozenAt (x*2+1);have c1:=h7.out.rr.rb.c1;have zqr:=HSz.out x hxN;have HK:Hid (x+1-i0=x-i0+1):=qh (by omega);have hgx:g<wr.heap.size:=(hfe.lt g rfl).2;have hbx:b<wr.heap.size:=h7.out.bl;have Hbs7:Hid (base<=wr.drew.heap.size):=qh h7.out.bs
          have HSt:Hid (uk sg nn all (m'.gO.getD x default)=⟨(m'.gO.getD x default).own,(m'.gO.getD x default).gR++[(sg,nn)]⟩->∀(v':Value) (w1:World),w1.ownsRow base 83 2 v' ((m'.gO.getD x default).gR.length+1) (Qu (m'.gO.getD x default).gR++[.string sg,.int .i64 nn])->wr.drew.grownBy w1 (V5.getD x yK).ownBlock->(v'.ownBlock=(V5.getD x yK).ownBlock∨∃N,v'.ownBlock=some N/\wr.drew.heap.size<=N)->
            RQ (w1.setCell ⟨g,x*2+1,none⟩ v') base b s T cap j2 {m' with gO:=yY m'.gO i0 (x-i0+1) sg nn all} KM KN (.slice (some ⟨g,0,none⟩) N cp) ve vb (V5.set x v')):=qh λhf v' w1 ho hg hat=>by
           have h7d:RQ wr.drew base b s T cap j2 {m' with gO:=yY m'.gO i0 (x-i0) sg nn all} KM KN (.slice (some ⟨g,0,none⟩) m'.gO.length cp) ve vb V5:=(by rw[hN'.out];exact h7.out.below (qb _ _).drew);have:=h7d.zrz (i0:=i0) (k:=x-i0) (sg:=sg) (c:=nn) (all:=all) (v':=v') (w1:=w1) (by omega) (by rw[hk];exact hf) (by rw[hk];exact ho) (by rw[hk];exact hg) (by rw[hk];exact hat);rw[hk,hN'.out] at this;exact this
          have HSk:Hid (uk sg nn all (m'.gO.getD x default)=m'.gO.getD x default->RQ wr base b s T cap j2 {m' with gO:=yY m'.gO i0 (x-i0+1) sg nn all} KM KN (.slice (some ⟨g,0,none⟩) N cp) ve vb V5):=qh λhf=>by
           rw[zkl (by omega) (by rw[hk];exact hf)];exact h7.out
          have hne1:=Zu hwv hfe (by decide);have hne2:=pI hwv h72.rr.rb (by decide);have Qg:∀q,(V5.getD x yK).ownBlock=some q->base<=q:=λq hq=>(hwv.lt q hq).1;have hgb:base<=g:=(hfe.lt g rfl).1;have hown:wr.drew.ownsRow base 83 2 (V5.getD x yK) (m'.gO.getD x default).gR.length (Qu (m'.gO.getD x default).gR):=hwv;have Q0:=qh λ(w4:World) (hg:wr.drew.grownBy w4 (V5.getD x yK).ownBlock) (v4:Value)=>((QW.out.drew).grown hg Hbs7.out Qg).setCell hgb v4 (p:=⟨g,x*2+1,none⟩);have hLF:uk sg nn all (m'.gO.getD x default)=if(!all||!(ph (m'.gO.getD x default).own sg)) then⟨(m'.gO.getD x default).own,(m'.gO.getD x default).gR++[(sg,nn)]⟩ else m'.gO.getD x default:=rfl
          have HLF:=qh hLF;clear hLF hiw h72 hwv hfe hh hlen Qg h7 hxN;generalize V5.getD x yK=V at*;subst hve;have Xi:Hid (∀(w4:World),wr.drew.grownBy w4 (Value.slice A (m'.gO.getD x default).gR.length c).ownBlock->w4.frozen? ⟨g,x*2+1,none⟩=false/\w4.cell? ⟨g,x*2+1,none⟩=some (.slice A (m'.gO.getD x default).gR.length c)/\w4.cell? ⟨b,1,none⟩=some (.slice (some ⟨g,0,none⟩) N cp)):=qh λw4 hg=>by
           have e1:w4.heap[g]?=wr.heap[g]?:=hg.block g hgx (λe=>hne1.elim (λe1=>by rw[<-e] at e1;cases e1) (λe1=>e1 e.symm));have e2:w4.heap[b]?=wr.heap[b]?:=hg.block b hbx (λe=>hne2.elim (λe1=>by rw[<-e] at e1;cases e1) (λe1=>e1 e.symm));exact⟨(zp (w:=wr) (w':=w4) (a:=⟨g,x*2+1,none⟩) e1).trans z2,(qw (w:=wr) (w':=w4) (a:=⟨g,x*2+1,none⟩) e1).trans f2,(qw (w:=wr) (w':=w4) (a:=⟨b,1,none⟩) e2).trans c1⟩
          have pv:=qh hown;clear hne1 hne2 hown;have hxN2:x<N:=(by omega);generalize m'.gO.getD x default=f at*;obtain⟨own,gR⟩:=f;simp only[] at f1 f2 zqr pv Xi Q0 HSt HSk HLF;have hone:∀u∈(#[.string sg,.int .i64 nn]:Array Value).toList,u.oneCell'=true:=by
           intro u hu;simp at hu;rcases hu with rfl|rfl<;>rfl
          have Qw:=qh hone;have X6:Hid (gR.length+1<=maxLen):=qh (by unfold maxLen;omega);have Kl:Hid ((gR.length+1)*24<=140737488355328):=qh (by omega);have Hpos:Hid (0<gR.length+1):=qh (by omega);clear hone;go_upto_region 23 with(fail)
          go_cut [107] from 93 to 107 (λv107 wz=>v107=.bool (!all||!(ph own sg))/\wz=wr)
          case first=>
           cases all with
           |false=>
            go_wp2_with fail;go_meet
            exact⟨rfl,rfl⟩
           |true=>
            cases hq:ph own sg with
            |true=>
             have hq2:(own.toList==sg.toList)=true:=(by unfold ph at hq;exact hq);have hq3:(own.toList !=sg.toList)=false:=(by simp only[bne,hq2];rfl);have Hq:=qh hq;clear hq;go_wp2_with fail;go_meet
             exact⟨by first|rfl|(rw[Hq.out];rfl),rfl⟩
            |false=>
             have hq2:(own.toList==sg.toList)=false:=(by unfold ph at hq;exact hq);have hq3:(own.toList !=sg.toList)=true:=(by simp only[bne,hq2];rfl);have Hq:=qh hq;clear hq;go_wp2_with fail;go_meet
             exact⟨by first|rfl|(rw[Hq.out];rfl),rfl⟩
          case rest=>
          obtain⟨rfl,hwz⟩:=hcut;have zsL:=hwz.symm;clear hwz;subst zsL;cases hy:(!all||!(ph own sg)) with
          |false=>
           have HR6:=qh (HSk.out (by rw[HLF.out,hy];rfl));clear hy;go_wp2_with fail;go_roundw
           case rel=>exact⟨x+1,V5,by omega,by omega,by go_num,qh (by rw[HK.out];exact HR6.out),QW⟩
           case measure=>simp[intOf];omega
          |true=>
           have pU:=qh (HSt.out (by rw[HLF.out,hy];rfl));clear hy;go_wp2_with fail;go_region_law (refine zah wr.drew (by rfl) (.tmp 122) (.tmp 126) 76 (by rfl) base 83 _ _ 2 24 jj zeA zeB zeC zdu rfl (by decide) (.slice A gR.length c) gR.length (Qu gR) _ _ (by simp[Act.eval,Act.put]) (by simp[Act.eval,Act.put];rfl) (by simp) (by exact pv.out) rfl (by exact Qw.out) X6.out Kl.out (by exact Hbs7.out) ?_;intro v1 w4 hown1 hg1 pR;obtain⟨g1,Qn,rfl⟩:=Zv hown1 Hpos.out;obtain⟨hz1,hc3,hc4⟩:=Xi.out _ hg1;have gT:=qh (pU.out _ _ hown1 hg1 pR);have pV:=qh (Q0.out _ hg1 (.slice (some ⟨g1,0,none⟩) (gR.length+1) Qn));clear hown1 hg1 pR)
           all_goals
            go_wp2_with fail;go_roundw
            case rel=>exact⟨x+1,_,by omega,by omega,by go_num,qh (by rw[HK.out];exact gT.out),pV⟩
            case measure=>simp[intOf];omega
         ·obtain rfl:e0=x:=by omega
          have hkk:e0-i0=n:=(by rw[He0.out,Nat.add_sub_cancel_left]);rw[hkk] at h7;have c0:=h7.out.rr.rb.c0;have z0:=h7.out.rr.rb.z 0;have t1:=h7.out.t1;unfold uH at c0;have hN7:0<(toks s 0).length-j2:=(by have:=h7.out.hi;omega);have zsM:(toks s 0).length-j2<=cap-j2:=(by have:=h7.out.caps;omega);have V6:Hid (KG s ((toks s 0).drop j2)):=qh (V3 h7.out.hi);have HA7:=qh (λh0=>V4 (s:=s) (i:=j2) h7.out.hi h0);have HN7:Hid ((hd ((toks s 0).drop j2)).2.size≠0->2<=(toks s 0).length-j2):=qh λh0=>by have:=zcz V6.out h0;simpa using this
          have HRx:=qh λh0=>h7.out.next h0;rw[HJ2.out] at t1 V6 HA7 HN7 HRx;have Vz:=qh (QW.out.setCell (p:=⟨b,0,none⟩) h7.out.rr.hb (.slice (some ⟨T,j2*2+2,none⟩) ((toks s 0).length-j2-1) (cap-j2-1)));have Zx:ph (hd (gW (gW L))).2 COMMA=((hd (gW (gW L))).2.toList==[44]):=zce _;generalize (toks s 0).length-j2=N7 at*;generalize cap-j2=C7 at*;clear hkk;cases hc:ph (hd (gW (gW L))).2 COMMA with
          |true=>
           have hne:((hd (gW (gW L))).2.toList==[44])=true:=(by rw[<-Zx,hc]);have hne2:((hd (gW (gW L))).2.toList !=[44])=false:=(by simp only[bne,hne];rfl);have hz7:(hd (gW (gW L))).2.size≠0:=λe=>by rw[zba e] at hne;cases hne
           have Hw:=qh (zgC (f:=q) (m:=m') (i:=i0) (n:=n) (all:=all) HFe.out HL3.out KH.out hc);have XK:=qh (zcX V6.out hc);have hN2:=HN7.out hz7;have HR8:=qh (HRx.out hz7);have KL:=qh (HA7.out hz7).2;have hC1:¬C7=1:=(by omega);clear hc Zx hz7 HRx HA7 HN7;go_wp2_with fail;go_roundg q
           case measure=>omega
           case rel=>exact⟨j2+1,_,V5,KM,KN,qh (by rw[KL.out];have:=Xu.out;have:=XK.out;have:=XU L;have:=XU (gW L);omega),qh (by rw[KL.out];exact Hw.out.symm.trans hP.out),Hm7,Hm8,HR8,Vz⟩
          |false=>have hne:((hd (gW (gW L))).2.toList==[44])=false:=(by rw[<-Zx,hc]);have hne2:((hd (gW (gW L))).2.toList !=[44])=true:=(by simp only[bne,hne];rfl);have Hw:=qh (zgD (f:=q) (m:=m') (i:=i0) (n:=n) (all:=all) HFe.out HL3.out KH.out hc);clear hc Zx;go_wp2_with fail;go_ret;exact Kg.good (hP.out.symm.trans Hw.out) HJ2.out QW.out h7.out Hm7.out
       ·have Hw:=qh (zh9 (f:=q) (m:=m') (i:=i0) (n:=n) (all:=all) HFe.out HL3.out (by rw[KH.out]) hn0);rw[qx hn0] at pi;obtain⟨rfl,pi⟩:=pi;have Qd:=qh pi;have pP:=Y8;clear pi;go_wp2_with fail;go_ret;exact Kg.err (hP.out.symm.trans Hw.out) pP.out Qd.out
  ·have Hw:=qh (zgB (f:=q) (m:=m') (i:=i0) (n:=n) (all:=all) (by rw[HFe.out]) h0);rw[qx h0] at hr2;obtain⟨rfl,hr2⟩:=hr2;have H2:=qh hr2;clear hr2;go_wp2_with fail;go_ret;exact Kg.err (hP.out.symm.trans (Hw.out.trans (by rw[Zk.out]))) Hb2.out H2.out
end Go.Proofs.YtgklikkddckgbaaGreatDoor
namespace Go.Proofs.YtgklikkddckgbaaGreatDoor
open Go.RowKit
variable {w w1 w':World} {base b:Nat} {s:ByteArray} {T cap i:Nat} {m:Met} {ec ep:Int} {vf ve vb:Value} {vs:List Value}
theorem zhI (h:RQ w base b s T cap i m ec ep vf ve vb vs) (hs:s.size<=65536) (hv:Vars w) (h6:9<=base) (hz:pl m):
  Calls Tryz.prog 160 #[.pointer (some ⟨b,0,none⟩)] w (Kg base b s T cap w (Z2 ((toks s 0).drop i).length ((toks s 0).drop i) m)):=by
 have H:=qh h;have Hz:=qh hz;have Hv:=qh hv;generalize hR:Z2 ((toks s 0).drop i).length ((toks s 0).drop i) m=R;have HR:=qh hR;clear h hz hv hR;go_enter Tryz.func160,Tryz.ntmps160;go_wp2_with fail;go_loopg [] ((toks s 0).drop i).length (λgg wr=>∃(j:Nat) (m':Met) (YS:Value) (KM KN:Int),Hid (((toks s 0).drop j).length<=gg)/\Hid (Z2 gg ((toks s 0).drop j) m'=R)/\Hid (pl m')/\
  Hid (RQ wr base b s T cap j m' KM KN vf YS vb vs)/\Hid (Below base w wr))
 case atStart=>exact⟨i,m,ve,ec,ep,qh (ql _),HR,Hz,H,qh (qb _ _)⟩
 case round=>
  obtain⟨j,m',YS,KM,KN,Xu,hP,hzz,hr,hbr⟩:=hrel;clear H Hz HR;have hpos:0<((toks s 0).drop j).length:=by have:=hr.out.hi;rw[zK];omega
  obtain⟨q,rfl⟩:∃q,gk=q+1:=⟨gk-1,by have:=Xu.out;omega⟩;have c0:=hr.out.rr.rb.c0;have t0:=hr.out.t0;have t1:=hr.out.t1;have hNN:0<(toks s 0).length-j:=by have:=hr.out.hi;omega
  have hcp:(toks s 0).length-j<=cap-j:=by have:=hr.out.caps;omega
  have hbl:=hr.out.bl;have htz:=(V3 hr.out.hi).size;unfold uH at c0;have H1:=qh (hr.out.below ((qb wr.heap.size wr).alloc (ql _) (.cells #[.int .i64 (hd ((toks s 0).drop j)).1,.string (hd ((toks s 0).drop j)).2] 187)));have Hb1:Hid (Below base w (wr.alloc (.cells #[.int .i64 (hd ((toks s 0).drop j)).1,.string (hd ((toks s 0).drop j)).2] 187))):=qh (hbr.out.alloc hr.out.bs _);have HX:Hid ((wr.alloc (.cells #[.int .i64 (hd ((toks s 0).drop j)).1,.string (hd ((toks s 0).drop j)).2] 187)).heap[wr.heap.size]?=_):=qh (qn wr _);have XF:=qh (λh0=>V4 (s:=s) (i:=j) hr.out.hi h0);have Yv:Hid ((hd ((toks s 0).drop j)).2.size≠0->2<=(toks s 0).length-j):=qh λh0=>by have:=zcz (V3 hr.out.hi) h0;simpa using this
  have HZ0:Hid (∀(W:World) (e p:Int) (v:Value),RQ W base b s T cap j m' e p vf v vb vs->W.cell? ⟨b,0,none⟩=some (.slice (some ⟨T,j*2,none⟩) ((toks s 0).length-j) (cap-j))):=qh (λW _ _ _ h=>h.rr.rb.c0);have ZO:=qh λ(W:World) (hq:RQ W base b s T cap j m' KM KN vf YS vb vs) h0=>hq.next h0;generalize hW1:wr.alloc (.cells #[.int .i64 (hd ((toks s 0).drop j)).1,.string (hd ((toks s 0).drop j)).2] 187)=W1 at H1 Hb1 HX;have hxs:wr.heap.size<W1.heap.size:=by rw[<-hW1];simp
  have hbx:b<W1.heap.size:=by rw[<-hW1];simp;omega
  have HW1:=qh hW1;clear hW1;generalize XL:(toks s 0).drop j=L at*;have VP:=qh XL;clear XL;generalize htk:hd L=tk at*;have Zk:=qh htk;clear htk;generalize (toks s 0).length-j=NN at*;generalize cap-j=C at*;obtain⟨p,t⟩:=tk;simp only[] at t0 t1 HW1 HX XF Yv ZO htz;have V7:Hid ((hd L).2=t):=qh (by rw[Zk.out]);go_upto_region 2 with(fail)
  rw[HW1.out];have x0:W1.cell? ⟨wr.heap.size,0,none⟩=some (.int .i64 p):=qc _ _ _ _ 187 (0,0) HX.out;have x1:W1.cell? ⟨wr.heap.size,1,none⟩=some (.string t):=qc _ _ _ _ 187 (0,0) HX.out;clear t0 t1 c0 HW1;go_wp2_with fail;refine(zdY t 1 2 W1 (by omega)).mono ?_;rintro e w' ⟨rfl,rfl⟩;cases hsg:QC t 1 2 with
  |false=>
   have Hw:=qh (zib (f:=q) (m:=m') (L:=L) (by rw[V7.out];exact hsg));clear hsg;have hfl:=gX 130 (p,t) H1.out;unfold ue at hfl;simp only[] at hfl;have Jj:=qh hfl;clear hfl;go_wp2_with fail;refine Jj.out.mono ?_;rintro e w' ⟨rfl,pB,pb⟩;have Qd:=qh pB;have pP:=qh (Hb1.out.grown pb H1.out.bs (λk e=>by cases e;exact H1.out.rr.hb));clear pB pb;go_wp2_with fail;go_ret;exact Kg.err (hP.out.symm.trans (Hw.out.trans (by rw[Zk.out]))) pP.out Qd.out
  |true=>
   have XA:Hid (QC (hd L).2 1 2=true):=qh (by rw[V7.out];exact hsg);have hpt:t.size≠0:=by
    intro e;unfold QC at hsg;rw[e] at hsg;simp at hsg
   clear hsg;obtain⟨A4,Xz,hve,hcc,hiw⟩:=zds H1.out.rr.ends;subst hve;have e2:=H1.out.rr.rb.c2;have hel:=hzz.out.ends;have Hha:Hid (∀W,Below W1.heap.size W1 W->Calls Tryz.prog 189 #[.slice A4 m'.ends.length Xz,.string t] W λe w'=>e=.returned (.bool (vI m'.ends t))/\Below W.heap.size W w'):=qh (λW hb=>zfw A4 Xz m'.ends t W ((hiw.below hb).more hb.size) (by omega));clear hiw;go_wp2_with fail;go_region_held3 (λw'=>Below W1.heap.size W1 w'/\∀b o,b<W1.heap.size->w'.cell? ⟨b,o,none⟩=W1.cell? ⟨b,o,none⟩) (((repeat (apply JK;assumption));exact pa)) (first|(go_at_call 189;refine(Hha.out _ (by first|exact pa.1|exact qZ (by assumption))).mono ?_;rintro e w9 ⟨rfl,pb⟩))
   rename_i hHeld;have hS:=hHeld.1;clear hHeld;have H2:=qh (H1.out.below hS);have HB2:=qh (Hb1.out.trans (hS.mono H1.out.bs));have Zj:Hid (w9.heap[wr.heap.size]?=some (.cells #[.int .i64 p,.string t] 187 (0,0))):=qh ((hS.block _ hxs).trans HX.out);have y0:w9.cell? ⟨wr.heap.size,0,none⟩=some (.int .i64 p):=qc _ _ _ _ 187 (0,0) Zj.out;have y1:w9.cell? ⟨wr.heap.size,1,none⟩=some (.string t):=qc _ _ _ _ 187 (0,0) Zj.out;have hxs9:wr.heap.size<w9.heap.size:=(qg Zj.out).1;have hbx9:b<w9.heap.size:=H2.out.bl;have e9:=H2.out.rr.rb.c2;have Hhe:Hid (∀v,vI m'.ends t=v->vI m'.ends (hd L).2=v):=qh (λv h=>by rw[V7.out];exact h);clear hS x0 x1 e2 hxs hbx;generalize hhw:vI m'.ends t=hw;have Hhw:=qh (Hhe.out _ hhw);clear hhw Hhe Hha;cases hw with
   |true=>
    have Hw:=qh (zfk (f:=q) (m:=m') (L:=L) XA.out Hhw.out);have hfl:=gX 132 (p,t) H2.out;unfold ue at hfl;simp only[] at hfl;have Jj:=qh hfl;clear hfl;go_wp2_with fail;refine Jj.out.mono ?_;rintro e w' ⟨rfl,pB,pb⟩;have Qd:=qh pB;have pP:=qh (HB2.out.grown pb H2.out.bs (λk e=>by cases e;exact H2.out.rr.hb));clear pB pb;go_wp2_with fail;go_ret;exact Kg.err (hP.out.symm.trans (Hw.out.trans (by rw[Zk.out]))) pP.out Qd.out
   |false=>
    by_cases h4:m'.ends.length=4
    ·have Hw:=qh (zgG (f:=q) (m:=m') (L:=L) XA.out Hhw.out h4);have h4':(4:Int)<=(m'.ends.length:Int):=(by omega);clear h4;have hfl:=gX 3 (p,t) H2.out;unfold ue at hfl;simp only[] at hfl;have Jj:=qh hfl;clear hfl;go_wp2_with fail;refine Jj.out.mono ?_;rintro e w' ⟨rfl,pB,pb⟩;have Qd:=qh pB;have pP:=qh (HB2.out.grown pb H2.out.bs (λk e=>by cases e;exact H2.out.rr.hb));clear pB pb;go_wp2_with fail;go_ret;exact Kg.err (hP.out.symm.trans (Hw.out.trans (by rw[Zk.out]))) pP.out Qd.out
    ·have Hn4:=qh h4;have h4':¬(4:Int)<=(m'.ends.length:Int):=(by omega);have c0:=HZ0.out _ _ _ _ H2.out;have z0:=H2.out.rr.rb.z 0;have hN2:=Yv.out hpt;have hC1:¬C=1:=(by omega);have V8:=ZO.out _ H2.out hpt;have HJ:=qh (XF.out hpt).2;generalize hw3:w9.setCell ⟨b,0,none⟩ (.slice (some ⟨T,j*2+2,none⟩) (NN-1) (C-1))=w3 at V8;have H3:=qh V8;have HB3:Hid (Below base w w3):=qh (by rw[<-hw3];exact HB2.out.setCell (p:=⟨b,0,none⟩) H2.out.rr.hb _);have JY:Hid (w3.heap[wr.heap.size]?=some (.cells #[.int .i64 p,.string t] 187 (0,0))):=qh (by rw[<-hw3];exact(qT _ _ _ _ (by show wr.heap.size≠b;omega)).trans Zj.out);have Hw3:=qh hw3;clear h4 hw3 V8 XF Yv;have pk:=zbc 0 1048576 H3.out (Hv.out.below HB3.out h6) h6 hs;have Y5:=qh (λh0=>V4 (s:=s) (i:=j+1) H3.out.hi h0);rw[HJ.out] at pk Y5;have KA:=qh (λh=>zc1 (t:=(hd (gW L)).2) (lo:=0) (hi:=1048576) h);have hNe:gV (hd (gW L)).2 0 1048576=((gV (hd (gW L)).2 0 1048576).1,(gV (hd (gW L)).2 0 1048576).2):=rfl;unfold pC at pk;generalize (gV (hd (gW L)).2 0 1048576).1=nn at pk hNe;generalize hen:(gV (hd (gW L)).2 0 1048576).2=en at pk hNe KA;clear hen;have KH:=qh hNe;have pE:=qh pk;clear hNe pk;go_upto_region 9 with(fail)
     rw[Hw3.out];clear y0 y1 c0 z0 e9 hxs9 hbx9 Hw3;go_wp2_with fail;refine pE.out.mono ?_;rintro e w5 ⟨hb5,pi⟩;have Y8:=qh (HB3.out.grown hb5 H3.out.bs (λk e=>by cases e;exact H3.out.rr.hb));have Hx5:Hid (w5.heap[wr.heap.size]?=some (.cells #[.int .i64 p,.string t] 187 (0,0))):=qh ((hb5.block wr.heap.size (qg JY.out).1 (by simp;omega)).trans JY.out);clear hb5 pE;by_cases hn0:en=0
     ·subst hn0;simp only[ye,kt] at pi;obtain⟨rfl,pi⟩:=pi;have H5:=qh pi;have HJ2:=qh (Y5.out (KA.out rfl)).2;have Hm9:=qh (hzz.out.end_ (t,nn) Hn4.out);clear pi Y5 KA;generalize hj2:j+1+1=j2 at*;clear hj2;have x1:w5.cell? ⟨wr.heap.size,1,none⟩=some (.string t):=qc _ _ _ _ 187 (0,0) Hx5.out;have hxs5:wr.heap.size<w5.heap.size:=(qg Hx5.out).1;have e4:=H5.out.rr.rb.c2;have hbl5:=H5.out.bl;have hbs5:=H5.out.bs;have hne5:=pI H5.out.rr.ends H5.out.rr.rb (by decide);have z4:=H5.out.rr.rb.z 2;have Xi:Hid (∀(w4:World),w5.drew.grownBy w4 (Value.slice A4 m'.ends.length Xz).ownBlock->w4.frozen? ⟨b,2,none⟩=false/\w4.cell? ⟨b,2,none⟩=some (.slice A4 m'.ends.length Xz)):=qh λw4 hg=>by
       have e2:w4.heap[b]?=w5.heap[b]?:=hg.block b hbl5 (λe=>hne5.elim (λe1=>by rw[<-e] at e1;cases e1) (λe1=>e1 e.symm));exact⟨(zp (w:=w5) (w':=w4) (a:=⟨b,2,none⟩) e2).trans z4,(qw (w:=w5) (w':=w4) (a:=⟨b,2,none⟩) e2).trans e4⟩
      have pv:Hid (w5.drew.ownsRow base 83 2 (.slice A4 m'.ends.length Xz) m'.ends.length (Qu m'.ends)):=qh H5.out.rr.ends;have H13:Hid (RQ w5.drew base b s T cap j2 m' KM KN vf (.slice A4 m'.ends.length Xz) vb vs):=qh (H5.out.below (qb _ _).drew);have KI:=qh λ(w4:World) (v4:Value) ho hg hat=>H13.out.end_ (w1:=w4) (x:=(t,nn)) (v':=v4) ho hg hat;have Qg:∀k,(Value.slice A4 m'.ends.length Xz).ownBlock=some k->base<=k:=λk hk=>(H5.out.rr.ends.lt k hk).1;have Q0:=qh λ(w4:World) (hg:w5.drew.grownBy w4 (Value.slice A4 m'.ends.length Xz).ownBlock) (v4:Value)=>((Y8.out.drew).grown hg hbs5 Qg).setCell (show base<=b from H5.out.rr.hb) v4 (p:=⟨b,2,none⟩);have Hbs5:Hid (base<=w5.drew.heap.size):=qh hbs5;have hone:∀u∈(#[.string t,.int .i64 nn]:Array Value).toList,u.oneCell'=true:=by
       intro u hu;simp at hu;rcases hu with rfl|rfl<;>rfl
      have Qw:=qh hone;have X6:Hid (m'.ends.length+1<=maxLen):=qh (by unfold maxLen;omega);have Kl:Hid ((m'.ends.length+1)*24<=140737488355328):=qh (by omega);have Hpos:Hid (0<m'.ends.length+1):=qh (by omega);clear Qg hne5 hone;go_wp2_with fail;go_region_law (refine zah w5.drew (by rfl) (.tmp 63) (.tmp 68) 76 (by rfl) base 83 _ _ 2 24 jj zeA zeB zeC zdu rfl (by decide) (.slice A4 m'.ends.length Xz) m'.ends.length (Qu m'.ends) _ _ (by simp[Act.eval,Act.put]) (by simp[Act.eval,Act.put];rfl) (by simp) (by exact pv.out) rfl (by exact Qw.out) X6.out Kl.out (by exact Hbs5.out) ?_;intro v1 w4 hown1 hg1 pR;obtain⟨g1,Qn,rfl⟩:=Zv hown1 Hpos.out;obtain⟨hz1,hc3⟩:=Xi.out _ hg1;have gT:=qh (KI.out _ _ hown1 hg1 pR);have pV:=qh (Q0.out _ hg1 (.slice (some ⟨g1,0,none⟩) (m'.ends.length+1) Qn));clear hown1 hg1 pR)
      all_goals
       have c0:=gT.out.rr.rb.c0;have z0:=gT.out.rr.rb.z 0;have t1:=gT.out.t1;unfold uH at c0;have hN7:0<(toks s 0).length-j2:=(by have:=gT.out.hi;omega);have zsM:(toks s 0).length-j2<=cap-j2:=(by have:=gT.out.caps;omega);have V6:Hid (KG s ((toks s 0).drop j2)):=qh (V3 gT.out.hi);have HA7:=qh (λh0=>V4 (s:=s) (i:=j2) gT.out.hi h0);have HN7:Hid ((hd ((toks s 0).drop j2)).2.size≠0->2<=(toks s 0).length-j2):=qh λh0=>by have:=zcz V6.out h0;simpa using this
       have HRx:=qh λh0=>gT.out.next h0;rw[HJ2.out] at t1 V6 HA7 HN7 HRx;have Vz:=qh (pV.out.setCell (p:=⟨b,0,none⟩) gT.out.rr.hb (.slice (some ⟨T,j2*2+2,none⟩) ((toks s 0).length-j2-1) (cap-j2-1)));have Zx:ph (hd (gW (gW L))).2 COMMA=((hd (gW (gW L))).2.toList==[44]):=zce _;generalize (toks s 0).length-j2=N7 at*;generalize cap-j2=C7 at*;generalize hw7:World.setCell w4 ⟨b,2,none⟩ _=w7 at*;clear hw7 hz1 hc3;cases hc:ph (hd (gW (gW L))).2 COMMA with
       |true=>
        have hne:((hd (gW (gW L))).2.toList==[44])=true:=(by rw[<-Zx,hc]);have hne2:((hd (gW (gW L))).2.toList !=[44])=false:=(by simp only[bne,hne];rfl);have hz7:(hd (gW (gW L))).2.size≠0:=λe=>by rw[zba e] at hne;cases hne
        have Hw:=qh (zgH (f:=q) (m:=m') (L:=L) XA.out Hhw.out Hn4.out KH.out hc);have XK:=qh (zcX V6.out hc);have hN2:=HN7.out hz7;have HR8:=qh (HRx.out hz7);have KL:=qh (HA7.out hz7).2;have hC1:¬C7=1:=(by omega);clear hc Zx hz7 HRx HA7 HN7;go_wp2_with fail;go_roundg q
        case measure=>omega
        case rel=>exact⟨j2+1,_,_,KM,KN,qh (by rw[KL.out];have:=Xu.out;have:=XK.out;have:=XU L;have:=XU (gW L);omega),qh (by rw[KL.out];have:=Hw.out.symm.trans hP.out;rw[V7.out] at this;exact this),Hm9,HR8,Vz⟩
       |false=>
        have hne:((hd (gW (gW L))).2.toList==[44])=false:=(by rw[<-Zx,hc]);have hne2:((hd (gW (gW L))).2.toList !=[44])=true:=(by simp only[bne,hne];rfl);have Hw:=qh (zgI (f:=q) (m:=m') (L:=L) XA.out Hhw.out Hn4.out KH.out hc);clear hc Zx;go_wp2_with fail;go_ret;exact Kg.good (by have:=hP.out.symm.trans Hw.out;rw[V7.out] at this;exact this) HJ2.out pV.out gT.out Hm9.out
     ·have Hw:=qh (zic (f:=q) (m:=m') (L:=L) XA.out Hhw.out Hn4.out (by rw[KH.out]) hn0);rw[qx hn0] at pi;obtain⟨rfl,pi⟩:=pi;have Qd:=qh pi;have pP:=Y8;clear pi;go_wp2_with fail;go_ret;exact Kg.err (hP.out.symm.trans Hw.out) pP.out Qd.out
variable {w w1 w':World} {base b:Nat} {s:ByteArray} {T cap i:Nat} {m:Met} {ec ep:Int} {vf ve vb:Value} {vs:List Value}
theorem Kg.val {r:Z9} {e:Ending} (h:Kg base b s T cap w r e w'):∃v:Bool,e=.returned (.bool v):=by
 obtain⟨⟨_,h⟩,_⟩:=h;cases r with
 |error x=>exact⟨_,h.1⟩
 |ok x=>exact⟨_,h.1⟩
theorem Kg.later {w0:World} {r:Z9} {e:Ending} (hb:Below base w0 w) (h:Kg base b s T cap w r e w'):Kg base b s T cap w0 r e w':=⟨⟨hb.trans h.1.1,h.1.2⟩,h.2⟩
theorem zmv {L:List Tok} (h:ph (hd L).2 ANY=true):Q4 L m=ZS (gW L).length (gW L) m 0 m.gO.length true:=by unfold Q4;rw[h,qy rfl]
theorem zmw {L:List Tok} (h0:ph (hd L).2 ANY=false) (h:ph (hd L).2 END=true):Q4 L m=Z2 (gW L).length (gW L) m:=by unfold Q4;rw[h0,h];rfl
theorem zlc {L:List Tok} (h0:ph (hd L).2 ANY=false) (h1:ph (hd L).2 END=false) (h:ph (hd L).2 Zr=true):Q4 L m=YE (gW L) m:=by unfold Q4;rw[h0,h1,h];rfl
theorem zmx {L:List Tok} {n:Int} (h0:ph (hd L).2 ANY=false) (h1:ph (hd L).2 END=false) (h2:ph (hd L).2 Zr=false) (h:pm (hd L).2=true) (hn:gV (hd L).2 1 m.gO.length=(n,0)):Q4 L m=ZS (gW L).length (gW L) m (n.toNat-1) 1 false:=by
 unfold Q4;rw[h0,h1,h2,h,hn];rfl
theorem zmy {L:List Tok} {n er:Int} (h0:ph (hd L).2 ANY=false) (h1:ph (hd L).2 END=false) (h2:ph (hd L).2 Zr=false) (h:pm (hd L).2=true) (hn:gV (hd L).2 1 m.gO.length=(n,er)) (he:er≠0):Q4 L m=.error (er,(hd L).1):=by
 unfold Q4;rw[h0,h1,h2,h,hn];simp[he]
theorem zmM {L:List Tok} (h0:ph (hd L).2 ANY=false) (h1:ph (hd L).2 END=false) (h2:ph (hd L).2 Zr=false) (h:pm (hd L).2=false):Q4 L m=.error (130,(hd L).1):=by
 unfold Q4;rw[h0,h1,h2,h];rfl
theorem ziX {m:Met} (h:0<m.gS.length):zag m=(m.gS.getD (m.gS.length-1) default).1:=by
 unfold zag;rw[List.getLast?_eq_getElem?,qz (by omega)];simp[qj,qz (show m.gS.length-1<m.gS.length by omega)]
theorem zkm {m:Met} (h:m.gS.length=0):zag m=0:=by
 unfold zag;rw[zF h];rfl
theorem zf5 (h:RQ w base b s T cap i m ec ep vf ve vb vs) (hs:s.size<=65536) (hv:Vars w) (h6:9<=base) (hz:pl m) (hf0:0<m.gO.length):
  Calls Tryz.prog 127 #[.pointer (some ⟨b,0,none⟩)] w (Kg base b s T cap w (Q4 ((toks s 0).drop i) m)):=by
 have Hz:=qh hz;have zrT:m.gO.length<=16:=hz.gO;have c0:=h.rr.rb.c0;have t0:=h.t0;have t1:=h.t1;have hNN:0<(toks s 0).length-i:=by have:=h.hi;omega
 have hcp:(toks s 0).length-i<=cap-i:=by have:=h.caps;omega
 have hbl:=h.bl;have htz:=(V3 h.hi).size;unfold uH at c0;have H1:=qh (h.below ((qb w.heap.size w).alloc (ql _) (.cells #[.int .i64 (hd ((toks s 0).drop i)).1,.string (hd ((toks s 0).drop i)).2] 187)));have Hb1:Hid (Below base w (w.alloc (.cells #[.int .i64 (hd ((toks s 0).drop i)).1,.string (hd ((toks s 0).drop i)).2] 187))):=qh ((qb base w).alloc h.bs _);have HX:Hid ((w.alloc (.cells #[.int .i64 (hd ((toks s 0).drop i)).1,.string (hd ((toks s 0).drop i)).2] 187)).heap[w.heap.size]?=_):=qh (qn w _);have Hv:=qh hv;have XF:=qh (λh0=>V4 (s:=s) (i:=i) h.hi h0);have Yv:Hid ((hd ((toks s 0).drop i)).2.size≠0->2<=(toks s 0).length-i):=qh λh0=>by have:=zcz (V3 h.hi) h0;simpa using this
 have HZ0:Hid (∀(W:World),RQ W base b s T cap i m ec ep vf ve vb vs->W.cell? ⟨b,0,none⟩=some (.slice (some ⟨T,i*2,none⟩) ((toks s 0).length-i) (cap-i))):=qh (λW h=>h.rr.rb.c0);have ZO:=qh λ(W:World) (hq:RQ W base b s T cap i m ec ep vf ve vb vs) h0=>hq.next h0;obtain⟨g,cp,KE⟩:=Zv h.rr.gO hf0;subst KE;clear h hz hv;generalize hW1:w.alloc (.cells #[.int .i64 (hd ((toks s 0).drop i)).1,.string (hd ((toks s 0).drop i)).2] 187)=W1 at H1 Hb1 HX;have hxs:w.heap.size<W1.heap.size:=by rw[<-hW1];simp
 have hbx:b<W1.heap.size:=by rw[<-hW1];simp;omega
 have HW1:=qh hW1;clear hW1;have zrZ:=zbc 1 m.gO.length H1.out (Hv.out.below Hb1.out h6) h6 hs;generalize XL:(toks s 0).drop i=L at*;have VP:=qh XL;clear XL;generalize htk:hd L=tk at*;have Zk:=qh htk;clear htk;generalize (toks s 0).length-i=NN at*;generalize cap-i=C at*;obtain⟨p,t⟩:=tk;simp only[] at t0 t1 HW1 HX XF Yv ZO htz;have V7:Hid ((hd L).2=t):=qh (by rw[Zk.out]);have ZZ:=qh zrZ;clear zrZ;go_enter Tryz.func127,Tryz.ntmps127;go_upto_region 2 with(fail)
 rw[HW1.out];have x0:W1.cell? ⟨w.heap.size,0,none⟩=some (.int .i64 p):=qc _ _ _ _ 187 (0,0) HX.out;have x1:W1.cell? ⟨w.heap.size,1,none⟩=some (.string t):=qc _ _ _ _ 187 (0,0) HX.out;clear t0 t1 c0 HW1;have c0:=HZ0.out _ H1.out;have z0:=H1.out.rr.rb.z 0;have hqa:ph t ANY=(t.toList==[97,110,121]):=zjJ t;have hqe:ph t END=(t.toList==[101,110,100]):=zjK t;have hqb:ph t Zr=(t.toList==[98,114,101,97,107]):=zgE t;cases ha:ph t ANY with
 |true=>
  have hne1:(t.toList==[97,110,121])=true:=by rw[<-hqa,ha]
  have hne2:True:=trivial;have hpt:t.size≠0:=λe=>by rw[zba e] at hne1;cases hne1
  have Qe:=qh (zmv (m:=m) (L:=L) (by rw[V7.out];exact ha));clear ha hqa hqe hqb ZZ;have hN2:=Yv.out hpt;have hC1:¬C=1:=by omega
  have V8:=ZO.out _ H1.out hpt;have HJ:=qh (XF.out hpt).2;generalize hw3:W1.setCell ⟨b,0,none⟩ (.slice (some ⟨T,i*2+2,none⟩) (NN-1) (C-1))=w3 at V8;have H3:=qh V8;have HB3:Hid (Below base w w3):=qh (by rw[<-hw3];exact Hb1.out.setCell (p:=⟨b,0,none⟩) H1.out.rr.hb _);have Hw3:=qh hw3;clear hw3 V8 XF Yv;go_upto_region 4 with(fail)
  rw[Hw3.out];clear x0 x1 c0 z0 Hw3 hne1 hne2;have hw:=zeV H3.out hs (Hv.out.below HB3.out h6) h6 Hz.out 0 m.gO.length m.gO.length (by omega) (ql _) true;rw[HJ.out,<-Qe.out] at hw;have c1:=H3.out.rr.rb.c1;clear hpt;have Hw:=qh hw;clear hw;go_wp2_with fail;refine Hw.out.mono ?_;rintro e w4 hr;obtain⟨v4,rfl⟩:=hr.val;have HR:=qh (Kg.later HB3.out hr);clear hr;go_wp2_with fail;go_ret;exact HR.out
 |false=>
  have hne1:(t.toList==[97,110,121])=false:=by rw[<-hqa,ha]
  have Ha:Hid (ph (hd L).2 ANY=false):=qh (by rw[V7.out];exact ha);clear ha hqa;cases he:ph t END with
  |true=>
   have hne2:(t.toList==[101,110,100])=true:=(by rw[<-hqe,he]);have hpt:t.size≠0:=λe=>by rw[zba e] at hne2;cases hne2
   have Qe:=qh (zmw (m:=m) (L:=L) Ha.out (by rw[V7.out];exact he));clear he hqe hqb ZZ;have hN2:=Yv.out hpt;have hC1:¬C=1:=(by omega);have V8:=ZO.out _ H1.out hpt;have HJ:=qh (XF.out hpt).2;generalize hw3:W1.setCell ⟨b,0,none⟩ (.slice (some ⟨T,i*2+2,none⟩) (NN-1) (C-1))=w3 at V8;have H3:=qh V8;have HB3:Hid (Below base w w3):=qh (by rw[<-hw3];exact Hb1.out.setCell (p:=⟨b,0,none⟩) H1.out.rr.hb _);have Hw3:=qh hw3;clear hw3 V8 XF Yv;go_upto_region 7 with(fail)
   rw[Hw3.out];clear x0 x1 c0 z0 Hw3;have hw:=zhI H3.out hs (Hv.out.below HB3.out h6) h6 Hz.out;rw[HJ.out,<-Qe.out] at hw;clear hpt;have Hw:=qh hw;clear hw;go_wp2_with fail;refine Hw.out.mono ?_;rintro e w4 hr;obtain⟨v4,rfl⟩:=hr.val;have HR:=qh (Kg.later HB3.out hr);clear hr;go_wp2_with fail;go_ret;exact HR.out
  |false=>
   have hne2:(t.toList==[101,110,100])=false:=(by rw[<-hqe,he]);have He:Hid (ph (hd L).2 END=false):=qh (by rw[V7.out];exact he);clear he hqe;cases hbk:ph t Zr with
   |true=>
    have Xb:(t.toList==[98,114,101,97,107])=true:=(by rw[<-hqb,hbk]);have hpt:t.size≠0:=λe=>by rw[zba e] at Xb;cases Xb
    have Qe:=qh (zlc (m:=m) (L:=L) Ha.out He.out (by rw[V7.out];exact hbk));clear hbk hqb ZZ;have hN2:=Yv.out hpt;have hC1:¬C=1:=(by omega);have V8:=ZO.out _ H1.out hpt;have HJ:=qh (XF.out hpt).2;generalize hw3:W1.setCell ⟨b,0,none⟩ (.slice (some ⟨T,i*2+2,none⟩) (NN-1) (C-1))=w3 at V8;have H3:=qh V8;have HB3:Hid (Below base w w3):=qh (by rw[<-hw3];exact Hb1.out.setCell (p:=⟨b,0,none⟩) H1.out.rr.hb _);have Hw3:=qh hw3;clear hw3 V8 XF Yv;go_upto_region 10 with(fail)
    rw[Hw3.out];clear x0 x1 c0 z0 Hw3;clear hpt hne1 hne2 Xb;have c1:=H3.out.rr.rb.c1;have c3:=H3.out.rr.rb.c3;obtain⟨A5,Yp,hvb⟩:=pJ H3.out.rr.gS;subst hvb;have hbrk:=Hz.out.brk;have hlenb:m.gS.length<=16:=(by omega);have ha0:(0:Int)<=zag m:=(by omega);have HbrL:=qh (λh=>ziX (m:=m) h);have HbrN:=qh (λh=>zkm (m:=m) h);have HbrC:=qh (λ(g5 cc:Nat) (hv:Value.slice A5 m.gS.length Yp=.slice (some ⟨g5,0,none⟩) m.gS.length cc) (hp:0<m.gS.length)=>(show w3.cell? ⟨g5,(m.gS.length-1)*2,none⟩=some (.int .i64 (m.gS.getD (m.gS.length-1) default).1) by
     have hb:=H3.out.rr.gS;rw[hv] at hb;rw[hb.cellAt ((m.gS.length-1)*2) (by omega)];exact(zd3 m.gS (m.gS.length-1) (by omega)).1))
    have Xl:=qh (λh=>Zv H3.out.rr.gS h);go_upto_if 70 with(fail)
    go_cut [4] from 69 to 81 (λv4 wz=>v4=.int .i64 (zag m+1)/\wz=w3)
    case first=>
     by_cases hp:0<m.gS.length
     ·obtain⟨g5,cc,hv⟩:=Xl.out hp;have hcell:=HbrC.out g5 cc hv hp;rw[<-HbrL.out hp] at hcell;have hA:A5=some ⟨g5,0,none⟩:=(by injection hv);subst hA;have hp2:(0:Int)<(m.gS.length:Int):=(by omega);have q1:(0:Int)<=(m.gS.length:Int)-1:=(by omega);have q2:(m.gS.length:Int)-1<(m.gS.length:Int):=(by omega);have q3:((m.gS.length:Int)-1).toNat=m.gS.length-1:=(by omega);generalize zag m=ah at*;clear hv;go_wp2_with fail;go_meet
      exact⟨rfl,rfl⟩
     ·have hz0:m.gS.length=0:=(by omega);have hah:=HbrN.out hz0;have hp2:¬(0:Int)<(m.gS.length:Int):=(by omega);have HA0:=qh hah;clear hah hz0;go_wp2_with fail;go_meet
      exact⟨by rw[HA0.out];rfl,rfl⟩
    case rest=>
    obtain⟨rfl,hwz⟩:=hcut;have zsL:=hwz.symm;clear hwz;subst zsL;have pk:=zbc (zag m+1) (m.gO.length-1) H3.out (Hv.out.below HB3.out h6) h6 hs;have Y5:=qh (λh0=>V4 (s:=s) (i:=i+1) H3.out.hi h0);rw[HJ.out] at pk Y5;have KA:=qh (λh=>zc1 (t:=(hd (gW L)).2) (lo:=zag m+1) (hi:=m.gO.length-1) h);have QN:=qh (λh=>zcK (t:=(hd (gW L)).2) (lo:=zag m+1) (hi:=m.gO.length-1) h);have hNe:gV (hd (gW L)).2 (zag m+1) (m.gO.length-1)=((gV (hd (gW L)).2 (zag m+1) (m.gO.length-1)).1,(gV (hd (gW L)).2 (zag m+1) (m.gO.length-1)).2):=rfl;unfold pC at pk;generalize (gV (hd (gW L)).2 (zag m+1) (m.gO.length-1)).1=nn at pk hNe QN;generalize hen:(gV (hd (gW L)).2 (zag m+1) (m.gO.length-1)).2=en at pk hNe KA QN;clear hen;have KH:=qh hNe;have pE:=qh pk;have Ha1:Hid (zag m<=16):=qh hbrk.2;clear hNe pk HbrL HbrN HbrC Xl hbrk;go_wp2_with fail;refine pE.out.mono ?_;rintro e w5 ⟨hb5,pi⟩;have Y8:=qh (HB3.out.grown hb5 H3.out.bs (λk e=>by cases e;exact H3.out.rr.hb));clear hb5 pE;by_cases hn0:en=0
    ·subst hn0;simp only[ye,kt] at pi;obtain⟨rfl,pi⟩:=pi;have H5:=qh pi;have HJ2:=qh (Y5.out (KA.out rfl)).2;have Hi2:=qh (QN.out rfl);clear pi Y5 KA QN c1 c3;have pk:=zbc 1 1048576 H5.out (Hv.out.below Y8.out h6) h6 hs;have HA5:=qh (λh0=>V4 (s:=s) (i:=i+1+1) H5.out.hi h0);rw[HJ2.out] at pk HA5;have KA:=qh (λh=>zc1 (t:=(hd (gW (gW L))).2) (lo:=1) (hi:=1048576) h);have X7:gV (hd (gW (gW L))).2 1 1048576=((gV (hd (gW (gW L))).2 1 1048576).1,(gV (hd (gW (gW L))).2 1 1048576).2):=rfl;unfold pC at pk;generalize (gV (hd (gW (gW L))).2 1 1048576).1=n2 at pk X7;generalize hen:(gV (hd (gW (gW L))).2 1 1048576).2=en at pk X7 KA;clear hen;have zqD:=qh X7;have pE:=qh pk;clear X7 pk;go_wp2_with fail;refine pE.out.mono ?_;rintro e w6 ⟨hb6,ZY⟩;have HB6:=qh (Y8.out.grown hb6 H5.out.bs (λk e=>by cases e;exact H5.out.rr.hb));clear hb6 pE;by_cases hn2:en=0
     ·subst hn2;simp only[ye,kt] at ZY;obtain⟨rfl,ZY⟩:=ZY;have H6:=qh ZY;have KL:=qh (HA5.out (KA.out rfl)).2;have Hm9:=qh (Hz.out.brk_ (nn,n2) Hi2.out.1 (by have:=Hi2.out.2;omega));have Hpk:=qh (Qe.out.trans (zid KH.out zqD.out));clear ZY HA5 KA;have e5:=H6.out.rr.rb.c3;have z5:=H6.out.rr.rb.z 3;have zsN:=H6.out.bl;have zqU:=H6.out.bs;have zqV:=pI H6.out.rr.gS H6.out.rr.rb (by decide);have Xi:Hid (∀(w4:World),w6.grownBy w4 (Value.slice A5 m.gS.length Yp).ownBlock->w4.frozen? ⟨b,3,none⟩=false/\w4.cell? ⟨b,3,none⟩=some (.slice A5 m.gS.length Yp)):=qh λw4 hg=>by
       have e2:w4.heap[b]?=w6.heap[b]?:=hg.block b zsN (λe=>zqV.elim (λe1=>by rw[<-e] at e1;cases e1) (λe1=>e1 e.symm));exact⟨(zp (w:=w6) (w':=w4) (a:=⟨b,3,none⟩) e2).trans z5,(qw (w:=w6) (w':=w4) (a:=⟨b,3,none⟩) e2).trans e5⟩
      have pv:Hid (w6.ownsRow base 85 2 (.slice A5 m.gS.length Yp) m.gS.length (JC m.gS)):=qh H6.out.rr.gS;have KI:=qh λ(w4:World) (v4:Value) ho hg=>H6.out.brk (w1:=w4) (x:=(nn,n2)) (v':=v4) ho hg;have Qg:∀k,(Value.slice A5 m.gS.length Yp).ownBlock=some k->base<=k:=λk hk=>(H6.out.rr.gS.lt k hk).1;have Q0:=qh λ(w4:World) (hg:w6.grownBy w4 (Value.slice A5 m.gS.length Yp).ownBlock) (v4:Value)=>(HB6.out.grown hg zqU Qg).setCell (show base<=b from H6.out.rr.hb) v4 (p:=⟨b,3,none⟩);clear Qg zqV;go_wp2_with (at_builtin;go_loud (refine VL _ rfl _ _ 77 rfl base 85 _ _ 2 16 jR zju zjv zjw zhl rfl (by decide) (.slice A5 m.gS.length Yp) m.gS.length (JC m.gS) _ _ rfl rfl ?c0 (by exact pv.out) rfl ?c1 ?c2 ?c3 ?c4 ?_;rotate_right;intro v1 w4 hown1 hg1 pR;obtain⟨g1,Qn,rfl⟩:=Zv hown1 (by omega);obtain⟨hz1,hc3⟩:=Xi.out _ hg1;have gT:=qh (KI.out _ _ hown1 hg1);have pV:=qh (Q0.out _ hg1 (.slice (some ⟨g1,0,none⟩) (m.gS.length+1) Qn));clear hown1 hg1 pR))
      case c0=>simp
      case c1=>exact⟨rfl,rfl⟩
      case c2=>unfold maxLen;omega
      case c3=>omega
      case c4=>exact zqU
      go_ret;exact Kg.good Hpk.out KL.out pV.out gT.out Hm9.out
     ·rw[qx hn2] at ZY;obtain⟨rfl,ZY⟩:=ZY;have H6:=qh ZY;have Hpk:=qh (Qe.out.trans (zgK KH.out (by rw[zqD.out]) hn2));clear ZY HA5 KA hn2;have e5:=H6.out.rr.rb.c3;have z5:=H6.out.rr.rb.z 3;have zsN:=H6.out.bl;have zqU:=H6.out.bs;have zqV:=pI H6.out.rr.gS H6.out.rr.rb (by decide);have Xi:Hid (∀(w4:World),w6.grownBy w4 (Value.slice A5 m.gS.length Yp).ownBlock->w4.frozen? ⟨b,3,none⟩=false/\w4.cell? ⟨b,3,none⟩=some (.slice A5 m.gS.length Yp)):=qh λw4 hg=>by
       have e2:w4.heap[b]?=w6.heap[b]?:=hg.block b zsN (λe=>zqV.elim (λe1=>by rw[<-e] at e1;cases e1) (λe1=>e1 e.symm));exact⟨(zp (w:=w6) (w':=w4) (a:=⟨b,3,none⟩) e2).trans z5,(qw (w:=w6) (w':=w4) (a:=⟨b,3,none⟩) e2).trans e5⟩
      have pv:Hid (w6.ownsRow base 85 2 (.slice A5 m.gS.length Yp) m.gS.length (JC m.gS)):=qh H6.out.rr.gS;have KI:=qh λ(w4:World) (v4:Value) ho hg=>H6.out.brk (w1:=w4) (x:=(nn,(0:Int))) (v':=v4) ho hg;have Qg:∀k,(Value.slice A5 m.gS.length Yp).ownBlock=some k->base<=k:=λk hk=>(H6.out.rr.gS.lt k hk).1;have Q0:=qh λ(w4:World) (hg:w6.grownBy w4 (Value.slice A5 m.gS.length Yp).ownBlock) (v4:Value)=>(HB6.out.grown hg zqU Qg).setCell (show base<=b from H6.out.rr.hb) v4 (p:=⟨b,3,none⟩);clear Qg zqV;go_wp2_with (at_builtin;go_loud (refine VL _ rfl _ _ 77 rfl base 85 _ _ 2 16 jR zju zjv zjw zhl rfl (by decide) (.slice A5 m.gS.length Yp) m.gS.length (JC m.gS) _ _ rfl rfl ?c0 (by exact pv.out) rfl ?c1 ?c2 ?c3 ?c4 ?_;rotate_right;intro v1 w4 hown1 hg1 pR;obtain⟨g1,Qn,rfl⟩:=Zv hown1 (by omega);obtain⟨hz1,hc3⟩:=Xi.out _ hg1;have gT:=qh (KI.out _ _ hown1 hg1);have pV:=qh (Q0.out _ hg1 (.slice (some ⟨g1,0,none⟩) (m.gS.length+1) Qn));clear hown1 hg1 pR))
      case c0=>simp
      case c1=>exact⟨rfl,rfl⟩
      case c2=>unfold maxLen;omega
      case c3=>omega
      case c4=>exact zqU
      go_ret;exact Kg.err Hpk.out pV.out gT.out
    ·rw[qx hn0] at pi;obtain⟨rfl,pi⟩:=pi;have Qd:=qh pi;have Hpk:=qh (Qe.out.trans (zgJ (by rw[KH.out]) hn0));clear pi;go_wp2_with fail;go_ret;exact Kg.err Hpk.out Y8.out Qd.out
   |false=>
    have Xb:(t.toList==[98,114,101,97,107])=false:=(by rw[<-hqb,hbk]);have Hb:Hid (ph (hd L).2 Zr=false):=qh (by rw[V7.out];exact hbk);clear hbk hqb;have HF:=zbG t W1;cases hf:pm t with
    |true=>
     rw[hf] at HF;have Hf:Hid (pm (hd L).2=true):=qh (by rw[V7.out];exact hf);have hNe:gV t 1 m.gO.length=((gV t 1 m.gO.length).1,(gV t 1 m.gO.length).2):=rfl;have QN:=qh (λh=>zcK (t:=t) (lo:=1) (hi:=m.gO.length) h);have KA:=qh (λh=>zc1 (t:=t) (lo:=1) (hi:=m.gO.length) h);unfold pC at ZZ;simp only[] at ZZ;generalize (gV t 1 m.gO.length).1=nn at ZZ hNe QN;generalize hen:(gV t 1 m.gO.length).2=en at ZZ hNe QN KA;have KH:Hid (gV (hd L).2 1 m.gO.length=(nn,en)):=qh (by rw[V7.out];exact hNe);clear hen hNe hf;have c1:=H1.out.rr.rb.c1;go_wp2_with fail;refine HF.mono ?_;rintro e w' ⟨rfl,rfl⟩;clear HF;go_wp2_with fail;refine ZZ.out.mono ?_;rintro e w5 ⟨hb5,pi⟩;have Y8:=qh (Hb1.out.grown hb5 H1.out.bs (λk e=>by cases e;exact H1.out.rr.hb));clear hb5 ZZ;by_cases hn0:en=0
     ·subst hn0;simp only[ye,kt] at pi;obtain⟨rfl,pi⟩:=pi;have H5:=qh pi;have HJ:=qh (XF.out (KA.out rfl)).2;have hi2:=QN.out rfl;have hnn:nn=((nn.toNat:Nat):Int):=(by omega);generalize hk:nn.toNat=k at*;subst hnn;have hsub:IntKind.i64.wrap ((k:Int)-1)=((k-1:Nat):Int):=(by rw[IntWalk.i64_in _ (by omega)];omega);have hsub2:(k:Int)-1=((k-1:Nat):Int):=(by omega);have Qe:=qh (zmx (m:=m) (L:=L) Ha.out He.out Hb.out Hf.out KH.out);have hw:=zeV H5.out hs (Hv.out.below Y8.out h6) h6 Hz.out (k-1) 1 k (by omega) (by omega) false;simp only[Int.toNat_natCast] at Qe;rw[HJ.out,<-Qe.out] at hw;clear pi c1 c0 z0 x0 x1 hne1 hne2 Xb;have Hw:=qh hw;clear hw;go_wp2_with fail;refine Hw.out.mono ?_;rintro e w4 hr;obtain⟨v4,rfl⟩:=hr.val;have HR:=qh (Kg.later Y8.out hr);clear hr;go_wp2_with fail;go_ret;exact HR.out
     ·have Qe:=qh (zmy (m:=m) (L:=L) Ha.out He.out Hb.out Hf.out KH.out hn0);rw[qx hn0] at pi;obtain⟨rfl,pi⟩:=pi;have Qd:=qh pi;clear pi c1 c0 z0 x0 x1 hne1 hne2 Xb;go_wp2_with fail;go_ret;exact Kg.err (Qe.out.trans (by rw[Zk.out])) Y8.out Qd.out
    |false=>
     rw[hf] at HF;have Qe:=qh (zmM (m:=m) (L:=L) Ha.out He.out Hb.out (by rw[V7.out];exact hf));clear hf ZZ;go_wp2_with fail;refine HF.mono ?_;rintro e w' ⟨rfl,rfl⟩;clear HF;have hfl:=gX 130 (p,t) H1.out;unfold ue at hfl;simp only[] at hfl;have Jj:=qh hfl;clear hfl;go_wp2_with fail;refine Jj.out.mono ?_;rintro e w' ⟨rfl,pB,pb⟩;have Qd:=qh pB;have pP:=qh (Hb1.out.grown pb H1.out.bs (λk e=>by cases e;exact H1.out.rr.hb));clear pB pb;go_wp2_with fail;go_ret;exact Kg.err (Qe.out.trans (by rw[Zk.out])) pP.out Qd.out
variable {w w1 w':World} {base b:Nat} {s:ByteArray} {T cap i:Nat} {m:Met} {ec ep:Int} {vf ve vb:Value} {vs:List Value}
def RW (base b:Nat) (s:ByteArray) (T cap:Nat) (w:World) (r:Except (Int×Nat) Met) (e:Ending) (w':World):Prop:=
 Below base w w'/\match r with
 |.error (c,p)=>e=.returned (.bool false)/\w'.cell? ⟨b,4,none⟩=some (.int .i64 c)/\w'.cell? ⟨b,5,none⟩=some (.int .i64 p)/\b<w'.heap.size
 |.ok m'=>e=.returned (.bool true)/\pl m'/\∃i' ec ep vf ve vb vs,RQ w' base b s T cap i' m' ec ep vf ve vb vs
theorem RW.err {r:Except (Int×Nat) Met} {c:Int} {p:Nat} (h:r=.error (c,p)) (hb:Below base w w') (hr:RQ w' base b s T cap i m c p vf ve vb vs):RW base b s T cap w r (.returned (.bool false)) w':=by
 subst h;exact⟨hb,rfl,hr.rr.rb.c4,hr.rr.rb.c5,hr.bl⟩
theorem RW.good {r:Except (Int×Nat) Met} (h:r=.ok m) (hb:Below base w w') (hz:pl m) (hr:RQ w' base b s T cap i m ec ep vf ve vb vs):RW base b s T cap w r (.returned (.bool true)) w':=by
 subst h;exact⟨hb,rfl,hz,i,ec,ep,vf,ve,vb,vs,hr⟩
theorem RG.split {L:List Tok} {r:Z9} {e:Ending} (h:RG base b s T cap w r e w'):(∃c p,r=.error (c,p)/\e=.returned (.bool false)/\w'.cell? ⟨b,4,none⟩=some (.int .i64 c)/\w'.cell? ⟨b,5,none⟩=some (.int .i64 p)/\b<w'.heap.size)∨
  (∃L' m' i' ec ep vf ve vb vs,r=.ok (L',m')/\e=.returned (.bool true)/\(toks s 0).drop i'=L'/\RQ w' base b s T cap i' m' ec ep vf ve vb vs):=by
 obtain⟨_,h⟩:=h;cases r with
 |error x=>obtain⟨c,p⟩:=x;exact .inl ⟨c,p,rfl,h⟩
 |ok x=>obtain⟨L',m'⟩:=x;obtain⟨h1,i',ec,ep,vf,ve,vb,vs,h2,h3⟩:=h;exact .inr ⟨L',m',i',ec,ep,vf,ve,vb,vs,rfl,h1,h2,h3⟩
theorem ziY {f:Nat} {L:List Tok} {x:Int×Nat} (h:Xq L m=.error x):JL (f+1) L m=.error x:=by unfold JL;rw[h]
theorem zhJ {f:Nat} {L L':List Tok} {m':Met} (h:Xq L m=.ok (L',m')) (hc:ph (hd L').2 COMMA=true):JL (f+1) L m=JL f (gW L') m':=by
 conv=>lhs;unfold JL
 rw[h];simp only[hc,kt]
theorem zhK {f:Nat} {L L':List Tok} {m':Met} (h:Xq L m=.ok (L',m')) (hc:ph (hd L').2 COMMA=false):JL (f+1) L m=KD L'.length L' m':=by
 conv=>lhs;unfold JL
 rw[h];simp[hc]
theorem ziZ {f:Nat} {L:List Tok} (h:(hd L).2.size=0):KD (f+1) L m=.ok m:=by unfold KD;rw[qy h]
theorem zhL {f:Nat} {L:List Tok} (h:(hd L).2.size≠0) (hs:ph (hd L).2 Ki=false):KD (f+1) L m=.error (130,(hd L).1):=by unfold KD;rw[qx h,hs];rfl
theorem zhM {f:Nat} {L:List Tok} {x:Int×Nat} (h:(hd L).2.size≠0) (hs:ph (hd L).2 Ki=true) (hc:Q4 (gW L) m=.error x):KD (f+1) L m=.error x:=by unfold KD;rw[qx h,hs,hc];rfl
theorem zha {f:Nat} {L L':List Tok} {m':Met} (h:(hd L).2.size≠0) (hs:ph (hd L).2 Ki=true) (hc:Q4 (gW L) m=.ok (L',m')):KD (f+1) L m=KD f L' m':=by
 conv=>lhs;unfold KD
 rw[qx h,hs,hc];rfl
theorem zhb (h:RQ w base b s T cap i m ec ep vf ve vb vs) (hs:s.size<=65536) (hv:Vars w) (h6:9<=base) (hz:pl m):
  Calls Tryz.prog 101 #[.pointer (some ⟨b,0,none⟩)] w (RW base b s T cap w (JL ((toks s 0).drop i).length ((toks s 0).drop i) m)):=by
 have H:=qh h;have Hz:=qh hz;have Hv:=qh hv;generalize hR:JL ((toks s 0).drop i).length ((toks s 0).drop i) m=R;have HR:=qh hR;clear h hz hv hR;go_enter Tryz.func101,Tryz.ntmps101;go_wp2_with fail;go_loopg [] ((toks s 0).drop i).length (λgg wr=>∃(j:Nat) (m':Met) (Zf YS vb':Value) (vs':List Value) (KM KN:Int),Hid (((toks s 0).drop j).length<=gg)/\Hid (JL gg ((toks s 0).drop j) m'=R)/\Hid (pl m')/\
  Hid (RQ wr base b s T cap j m' KM KN Zf YS vb' vs')/\Hid (Below base w wr))
 case atStart=>exact⟨i,m,vf,ve,vb,vs,ec,ep,qh (ql _),HR,Hz,H,qh (qb _ _)⟩
 case round=>
  obtain⟨j,m',Zf,YS,vb',vs',KM,KN,Xu,hP,hzz,hr,hbr⟩:=hrel;clear H Hz HR;have hpos:0<((toks s 0).drop j).length:=by have:=hr.out.hi;rw[zK];omega
  obtain⟨q,rfl⟩:∃q,gk=q+1:=⟨gk-1,by have:=Xu.out;omega⟩;have hgr:=zg8 hr.out (Hv.out.below hbr.out h6) h6 hs hzz.out.gO;have Hgr:=qh hgr;clear hgr;go_wp2_with fail;refine Hgr.out.mono ?_;rintro e w2 hg2;have Hb2:=qh (hbr.out.trans hg2.1);rcases hg2.split (L:=[]) with⟨c,p,hge,rfl,k4,k5,kb⟩|⟨L2,m2,j2,e2,p2,vf2,ve2,vb2,vs2,hge,rfl,hj2,hr2⟩
  ·have gT:Hid (RW base b s T cap w R (.returned (.bool false)) w2):=qh (by rw[<-hP.out,ziY hge];exact⟨Hb2.out,rfl,k4,k5,kb⟩);clear hg2 hge k4 k5 kb;go_wp2_with fail;go_ret;exact gT.out
  ·have H2:=qh hr2;have HJ2:=qh hj2;have Hge:=qh hge;have Hgk:=qh (zie hge hzz.out);clear hg2 hge hr2 hj2 Hgr;have c0:=H2.out.rr.rb.c0;have z0:=H2.out.rr.rb.z 0;have t0:=H2.out.t0;have t1:=H2.out.t1;unfold uH at c0;have hN7:0<(toks s 0).length-j2:=(by have:=H2.out.hi;omega);have zsM:(toks s 0).length-j2<=cap-j2:=(by have:=H2.out.caps;omega);have zp2:Hid (KG s ((toks s 0).drop j2)):=qh (V3 H2.out.hi);have HA7:=qh (λh0=>V4 (s:=s) (i:=j2) H2.out.hi h0);have HN7:Hid ((hd ((toks s 0).drop j2)).2.size≠0->2<=(toks s 0).length-j2):=qh λh0=>by have:=zcz zp2.out h0;simpa using this
   have zrA:=qh λh0=>H2.out.next h0;have hbl7:=H2.out.bl;rw[HJ2.out] at t0 t1 zp2 HA7 HN7 zrA;have Vz:=qh (Hb2.out.setCell (p:=⟨b,0,none⟩) H2.out.rr.hb (.slice (some ⟨T,j2*2+2,none⟩) ((toks s 0).length-j2-1) (cap-j2-1)));have Zx:ph (hd L2).2 COMMA=((hd L2).2.toList==[44]):=zce _;generalize hNe7:(toks s 0).length-j2=N7 at*;generalize hCe7:cap-j2=C7 at*;have HNe7:=qh hNe7;have HCe7:=qh hCe7;clear hNe7 hCe7;cases hc:ph (hd L2).2 COMMA with
   |true=>
    have hne:((hd L2).2.toList==[44])=true:=(by rw[<-Zx,hc]);have hne2:((hd L2).2.toList !=[44])=false:=(by simp only[bne,hne];rfl);have hz7:(hd L2).2.size≠0:=λe=>by rw[zba e] at hne;cases hne
    have Hw:=qh (zhJ (f:=q) Hge.out hc);have XK:=qh (zcX zp2.out hc);have hN2:=HN7.out hz7;have HR8:=qh (zrA.out hz7);have KL:=qh (HA7.out hz7).2;have hC1:¬C7=1:=(by omega);clear hc Zx hz7 zrA HA7 HN7;go_wp2_with fail;go_roundg q
    case measure=>omega
    case rel=>exact⟨j2+1,_,_,_,_,_,e2,p2,qh (by rw[KL.out];have:=Xu.out;have:=XK.out;have:=Hgk.out.2.2.1;omega),qh (by rw[KL.out];exact Hw.out.symm.trans hP.out),qh Hgk.out.1,HR8,Vz⟩
   |false=>
    have hne:((hd L2).2.toList==[44])=false:=(by rw[<-Zx,hc]);have hne2:((hd L2).2.toList !=[44])=true:=(by simp only[bne,hne];rfl);have HW0:Hid (KD ((toks s 0).drop j2).length ((toks s 0).drop j2) m2=R):=qh (by rw[HJ2.out];exact(zhK (f:=q) Hge.out hc).symm.trans hP.out);have HzS:=qh Hgk.out.1;have HzF:=qh Hgk.out.2.2.2;clear hc Zx zrA HA7 HN7;go_upto_region 5 with(fail)
    clear c0 z0 t0 t1 hne hne2 hN7 zsM hbl7 Vz zp2 hpos;obtain⟨wo,hwo⟩:∃wo:World,wo=wr:=⟨_,rfl⟩;subst hwo;clear hr hbr Xu hP hzz Hge Hgk HNe7 HCe7;go_loopg [] ((toks s 0).drop j2).length (λgg wr=>∃(j:Nat) (m':Met) (Zf YS vb':Value) (vs':List Value) (KM KN:Int),Hid (((toks s 0).drop j).length<=gg)/\Hid (KD gg ((toks s 0).drop j) m'=R)/\Hid (pl m')/\Hid (0<m'.gO.length)/\
     Hid (RQ wr base b s T cap j m' KM KN Zf YS vb' vs')/\Hid (Below base w wr))
    case atStart=>exact⟨j2,m2,vf2,ve2,vb2,vs2,e2,p2,qh (ql _),HW0,HzS,HzF,H2,Hb2⟩
    case round=>
     obtain⟨j3,m3,vf3,ve3,vb3,vs3,e3,p3,Xu,hP,hzz,hzf,hr,hbr⟩:=hrel;clear H2 Hb2 HW0 HzS HzF HJ2;have hpos:0<((toks s 0).drop j3).length:=(by have:=hr.out.hi;rw[zK];omega);obtain⟨q2,rfl⟩:∃q2,gk=q2+1:=⟨gk-1,by have:=Xu.out;omega⟩;have c0:=hr.out.rr.rb.c0;have z0:=hr.out.rr.rb.z 0;have t0:=hr.out.t0;have t1:=hr.out.t1;unfold uH at c0;have hN8:0<(toks s 0).length-j3:=(by have:=hr.out.hi;omega);have hcp8:(toks s 0).length-j3<=cap-j3:=(by have:=hr.out.caps;omega);have zr0:Hid (KG s ((toks s 0).drop j3)):=qh (V3 hr.out.hi);have HA8:=qh (λh0=>V4 (s:=s) (i:=j3) hr.out.hi h0);have HN8:Hid ((hd ((toks s 0).drop j3)).2.size≠0->2<=(toks s 0).length-j3):=qh λh0=>by have:=zcz zr0.out h0;simpa using this
     have zrB:=qh λh0=>hr.out.next h0;have hbl8:=hr.out.bl;have Vz:=qh (hbr.out.setCell (p:=⟨b,0,none⟩) hr.out.rr.hb (.slice (some ⟨T,j3*2+2,none⟩) ((toks s 0).length-j3-1) (cap-j3-1)));have hfl:=gX 130 (hd ((toks s 0).drop j3)) hr.out;generalize XL:(toks s 0).drop j3=L3 at*;have VP:=qh XL;clear XL;have Zx:ph (hd L3).2 Ki=((hd L3).2.toList==[59]):=zia _;generalize htk:hd L3=tk at*;obtain⟨p,t⟩:=tk;have Zk:=qh htk;clear htk;unfold ue at hfl;simp only[] at t0 t1 HN8 HA8 zrB hfl Zx;have Jj:=qh hfl;clear hfl;generalize (toks s 0).length-j3=N8 at*;generalize cap-j3=C8 at*;cases hc:ph t Ki with
     |true=>
      have hne:(t.toList==[59])=true:=(by rw[<-Zx,hc]);have Y9:t.size≠0:=λe=>by rw[zba e] at hne;cases hne
      have Hsz:Hid ((hd L3).2.size≠0):=qh (by rw[Zk.out];exact Y9);have Hsm:Hid (ph (hd L3).2 Ki=true):=qh (by rw[Zk.out];exact hc);have XK:=qh (zjQ zr0.out Hsm.out);have hN2:=HN8.out Y9;have hR8:=zrB.out Y9;have KL:=qh (HA8.out Y9).2;have hC1:¬C8=1:=(by omega);generalize hw5:wr.setCell ⟨b,0,none⟩ (.slice (some ⟨T,j3*2+2,none⟩) (N8-1) (C8-1))=w5 at hR8 Vz;have H5:=qh hR8;have Hw5:=qh hw5;clear hc Zx Y9 zrB HA8 HN8 hw5 hR8 Jj;have hcl:=zf5 H5.out hs (Hv.out.below Vz.out h6) h6 hzz.out hzf.out;rw[KL.out] at hcl;have Qe:=qh hcl;clear hcl;go_upto_region 7 with(fail)
      rw[Hw5.out];clear c0 z0 t0 t1 hne Hw5;go_wp2_with fail;refine Qe.out.mono ?_;rintro e w6 hg6;have XM:=qh (Vz.out.trans hg6.1.1);have hz6:=hg6.2;rcases hg6.1.split (L:=[]) with⟨c,p,hge,rfl,k4,k5,kb⟩|⟨L6,m6,j6,e6,p6,vf6,ve6,vb6,vs6,hge,rfl,hj6,ZY⟩
      ·have gT:Hid (RW base b s T cap w R (.returned (.bool false)) w6):=qh (by rw[<-hP.out,zhM Hsz.out Hsm.out hge];exact⟨XM.out,rfl,k4,k5,kb⟩);clear hg6 hge k4 k5 kb hz6;go_wp2_with fail;go_ret;exact gT.out
      ·have H6:=qh ZY;have Vx:=qh hj6;have Hge:=qh hge;rw[hge] at hz6;have Hz6:Hid (pl m6):=qh hz6;have Hf6:Hid (0<m6.gO.length):=qh (by rw[zeG hge];exact hzf.out);have Hl6:=qh (zfm hge);clear hg6 hge ZY hj6 hz6;go_wp2_with fail;go_roundg q2
       case measure=>omega
       case rel=>exact⟨j6,m6,vf6,ve6,vb6,vs6,e6,p6,qh (by rw[Vx.out];have:=Xu.out;have:=XK.out;have:=Hl6.out;omega),qh (by rw[Vx.out];exact(zha (f:=q2) Hsz.out Hsm.out Hge.out).symm.trans hP.out),Hz6,Hf6,H6,XM⟩
     |false=>
      have hne:(t.toList==[59])=false:=(by rw[<-Zx,hc]);have Hsm:Hid (ph (hd L3).2 Ki=false):=qh (by rw[Zk.out];exact hc);clear hc Zx zrB HA8 HN8;by_cases Y9:t.size=0
      ·have hne2:(t.toList==[])=true:=(by rw[zba Y9];rfl);have Xb:t.toList=[]:=zba Y9;have HR:=qh (hP.out.symm.trans (ziZ (f:=q2) (m:=m3) (L:=L3) (by rw[Zk.out];exact Y9)));clear Y9;go_wp2_with fail;go_ret;exact RW.good HR.out hbr.out hzz.out hr.out
      ·have hne2:(t.toList==[])=false:=by
        rw[zw];intro e;rw[qW] at e;have h2:=congrArg List.length e;rw[qS] at h2;exact Y9 h2
       have Xb:¬t.toList=[]:=(by simpa using hne2);have hne4:(!t.toList.isEmpty)=true:=(by simpa using Xb);have hne5:t.toList.isEmpty=false:=(by simpa using Xb);have HR:=qh (hP.out.symm.trans (zhL (f:=q2) (m:=m3) (L:=L3) (by rw[Zk.out];exact Y9) Hsm.out));clear Y9;go_wp2_with fail;refine Jj.out.mono ?_;rintro e w' ⟨rfl,pB,pb⟩;have Qd:=qh pB;have pP:=qh (hbr.out.grown pb hr.out.bs (λk e=>by cases e;exact hr.out.rr.hb));clear pB pb;go_wp2_with fail;go_ret;exact RW.err (HR.out.trans (by rw[Zk.out])) pP.out Qd.out
theorem zdU {w W:World} {T:Array Value} {Q:Ending->World->Prop} {v0 v1 v2 v3 v4:Value} (h2:T.getD 2 undef=.pointer (some ⟨w.heap.size,0,none⟩)) (h3:T.getD 3 undef=.pointer (some ⟨w.heap.size+1,0,none⟩))
  (r0:W.heap[w.heap.size]?=some (.cells #[v0,v1,v2] 79 (0,0))) (r1:W.heap[w.heap.size+1]?=some (.cells #[v3,v4] 87 (0,0))) (hQ:Q (.returned (.tuple #[.agg #[v0,v1,v2],.agg #[v3,v4]])) W):
  bodyPost Tryz.prog Tryz.f69 Q Exit.ret {tmps:=T,defers:=[]} W:=by
 have d0:W.cell? ⟨w.heap.size,0,none⟩=some v0:=qc _ _ _ _ 79 (0,0) r0;have d1:W.cell? ⟨w.heap.size,1,none⟩=some v1:=qc _ _ _ _ 79 (0,0) r0;have d2:W.cell? ⟨w.heap.size,2,none⟩=some v2:=qc _ _ _ _ 79 (0,0) r0;have d3:W.cell? ⟨w.heap.size+1,0,none⟩=some v3:=qc _ _ _ _ 87 (0,0) r1;have d4:W.cell? ⟨w.heap.size+1,1,none⟩=some v4:=qc _ _ _ _ 87 (0,0) r1;have h2':T[2]?.getD undef=.pointer (some ⟨w.heap.size,0,none⟩):=by simpa using h2
 have h3':T[3]?.getD undef=.pointer (some ⟨w.heap.size+1,0,none⟩):=by simpa using h3
 refine zt (v:=.tuple #[.agg #[v0,v1,v2],.agg #[v3,v4]]) ?_ rfl hQ;simp[results,Tryz.f69,go_sem,h2',h3',d0,d1,d2,d3,d4,Tryz.isAgg79,Tryz.isAgg87,Tryz.sizeOf79,yu]
theorem RR.om {w:World} {base b:Nat} {lv:Value} {m:Met} {ec ep:Int} {vf ve vb:Value} {vs:List Value} (h:RR w base b lv m ec ep vf ve vb vs):OM w base m vf ve vb vs:=⟨h.vl,h.gO,h.gR,h.ends,h.gS,h.apart⟩
theorem RQ.start {w2:World} {base T cap:Nat} {s:ByteArray} (hb:base<=w2.heap.size) (ht:w2.ownsRow base 187 2 (.slice (some ⟨T,0,none⟩) (toks s 0).length cap) (toks s 0).length (Yu (toks s 0))):
  RQ (w2.alloc (.cells #[.slice (some ⟨T,0,none⟩) (toks s 0).length cap,.slice none 0 0,.slice none 0 0,.slice none 0 0,.int .i64 0,.int .i64 0] 167)) base w2.heap.size s T cap 0 Met.zero 0 0 yK yK yK []:=by
 have e:uH s T cap 0=.slice (some ⟨T,0,none⟩) (toks s 0).length cap:=by unfold uH;simp
 refine⟨⟨?_,hb,rfl,zP _ _ _ _,λk hk=>(by simp[Met.zero] at hk),zP _ _ _ _,zP _ _ _ _,?_⟩,ht.alloc _,zbV s 0⟩
 ·unfold Q5;rw[e];exact qn w2 _
 ·intro i j k hi hj hne h1 h2;simp at hi hj;omega
theorem zhN (s:ByteArray) (w:World) (hv:Vars w):
  Calls Tryz.prog 69 #[.string s] w (Zb s w):=by
 by_cases hs6:65536<s.size
 ·have HR2:Hid (Zs s=.error (3,65536)):=qh (by unfold Zs;rw[qy hs6]);go_enter Tryz.func69,Tryz.ntmps69;go_upto_region 2 with(fail)
  generalize hw1:(w.alloc (.cells #[.slice none 0 0,.slice none 0 0,.slice none 0 0] 79)).alloc (.cells #[.int .i64 0,.int .i64 0] 87)=w1;have x2:w1.heap[w.heap.size]?=some (.cells #[yK,yK,yK] 79 (0,0)):=by rw[<-hw1];exact(qa _ _ _ (by simp)).trans (qn w _)
  have x3:w1.heap[w.heap.size+1]?=some (.cells #[.int .i64 0,.int .i64 0] 87 (0,0)):=by
   rw[<-hw1];have:=qn (w.alloc (.cells #[.slice none 0 0,.slice none 0 0,.slice none 0 0] 79)) (.cells #[.int .i64 0,.int .i64 0] 87);rw[qO] at this;exact this
  have hb1:Below w.heap.size w w1:=by rw[<-hw1];exact((qb _ _).alloc (ql _) _).alloc (by simp) _
  have k0:w1.cell? ⟨w.heap.size,0,none⟩=some (.slice none 0 0):=qc _ _ _ _ 79 (0,0) x2;have k1:w1.cell? ⟨w.heap.size,1,none⟩=some (.slice none 0 0):=qc _ _ _ _ 79 (0,0) x2;have k2:w1.cell? ⟨w.heap.size,2,none⟩=some (.slice none 0 0):=qc _ _ _ _ 79 (0,0) x2;have l0:w1.cell? ⟨w.heap.size+1,0,none⟩=some (.int .i64 0):=qc _ _ _ _ 87 (0,0) x3;have l1:w1.cell? ⟨w.heap.size+1,1,none⟩=some (.int .i64 0):=qc _ _ _ _ 87 (0,0) x3;have z0:=qf w1 w.heap.size 0 _ 79 x2;have z1:=qf w1 w.heap.size 1 _ 79 x2;have z2:=qf w1 w.heap.size 2 _ 79 x2;have y0:=qf w1 (w.heap.size+1) 0 _ 87 x3;have y1:=qf w1 (w.heap.size+1) 1 _ 87 x3;have Hb1:=qh hb1;have X2:=qh x2;have X3:=qh x3;clear hb1 hw1 x2 x3;go_wp2_with fail;obtain⟨hbe,r0,r1⟩:=zbK (v0:=.slice none 0 0) (v1:=.slice none 0 0) (v2:=.slice none 0 0) (v3:=.int .i64 3) (v4:=.int .i64 65536) Hb1.out X2.out X3.out rfl;exact zdU rfl rfl r0 r1 ⟨hbe,by rw[HR2.out];rfl⟩
 ·have hs:s.size<=65536:=by omega
  have HR2:Hid (Zs s=JL (toks s 0).length (toks s 0) Met.zero):=qh (by unfold Zs;rw[qx hs6]);go_enter Tryz.func69,Tryz.ntmps69;go_upto_region 3 with(fail)
  generalize hw1:(w.alloc (.cells #[.slice none 0 0,.slice none 0 0,.slice none 0 0] 79)).alloc (.cells #[.int .i64 0,.int .i64 0] 87)=w1;have x2:w1.heap[w.heap.size]?=some (.cells #[yK,yK,yK] 79 (0,0)):=by rw[<-hw1];exact(qa _ _ _ (by simp)).trans (qn w _)
  have x3:w1.heap[w.heap.size+1]?=some (.cells #[.int .i64 0,.int .i64 0] 87 (0,0)):=by
   rw[<-hw1];have:=qn (w.alloc (.cells #[.slice none 0 0,.slice none 0 0,.slice none 0 0] 79)) (.cells #[.int .i64 0,.int .i64 0] 87);rw[qO] at this;exact this
  have XA:Hid (w1.heap.size=w.heap.size+2):=qh (by rw[<-hw1];simp);have Hb1:Hid (Below w.heap.size w w1):=qh (by rw[<-hw1];exact((qb _ _).alloc (ql _) _).alloc (by simp) _);have Hv1:=qh (hv.below Hb1.out hv.six);have X2:=qh x2;have X3:=qh x3;have H6:=qh hv.six;clear hw1 x2 x3 hs6 hv;go_wp2_with fail;refine(ziU s w1 hs).mono ?_;rintro e w2 ⟨T,cap,rfl,ht,hb2⟩;have hrq:=RQ.start hb2.size ht;have Hb2:=qh hb2;have Hsz2:Hid (w1.heap.size<=w2.heap.size):=qh hb2.size;generalize hw3:w2.alloc (.cells #[.slice (some ⟨T,0,none⟩) (toks s 0).length cap,.slice none 0 0,.slice none 0 0,.slice none 0 0,.int .i64 0,.int .i64 0] 167)=w3 at hrq;have Hb3:Hid (Below w1.heap.size w1 w3):=qh (by rw[<-hw3];exact hb2.alloc hb2.size _);have HW3:=qh hw3;have hwh:=zhb hrq hs (Hv1.out.below Hb3.out (by have:=XA.out;have:=H6.out;omega)) (by have:=XA.out;have:=H6.out;omega) ⟨by simp[Met.zero],λk hk=>by simp[Met.zero] at hk,by simp[Met.zero],by simp[Met.zero,zag]⟩;rw[xL,<-HR2.out] at hwh;have Hwh:=qh hwh;clear ht hb2 hw3 hrq hwh;go_upto_region 4 with(fail)
  rw[HW3.out];clear HW3;go_wp2_with fail;refine Hwh.out.mono ?_;rintro e w4 ⟨hb4,hr4⟩;have Hb4:Hid (Below w.heap.size w w4):=qh (Hb1.out.trans ((Hb3.out.trans hb4).mono (by have:=XA.out;omega)));have X2':Hid (w4.heap[w.heap.size]?=some (.cells #[yK,yK,yK] 79 (0,0))):=qh (((Hb3.out.trans hb4).block _ (by have:=XA.out;omega)).trans X2.out);have X3':Hid (w4.heap[w.heap.size+1]?=some (.cells #[.int .i64 0,.int .i64 0] 87 (0,0))):=qh (((Hb3.out.trans hb4).block _ (by have:=XA.out;omega)).trans X3.out);have k0:w4.cell? ⟨w.heap.size,0,none⟩=some (.slice none 0 0):=qc _ _ _ _ 79 (0,0) X2'.out;have k1:w4.cell? ⟨w.heap.size,1,none⟩=some (.slice none 0 0):=qc _ _ _ _ 79 (0,0) X2'.out;have k2:w4.cell? ⟨w.heap.size,2,none⟩=some (.slice none 0 0):=qc _ _ _ _ 79 (0,0) X2'.out;have l0:w4.cell? ⟨w.heap.size+1,0,none⟩=some (.int .i64 0):=qc _ _ _ _ 87 (0,0) X3'.out;have l1:w4.cell? ⟨w.heap.size+1,1,none⟩=some (.int .i64 0):=qc _ _ _ _ 87 (0,0) X3'.out;have z0:=qf w4 w.heap.size 0 _ 79 X2'.out;have z1:=qf w4 w.heap.size 1 _ 79 X2'.out;have z2:=qf w4 w.heap.size 2 _ 79 X2'.out;have y0:=qf w4 (w.heap.size+1) 0 _ 87 X3'.out;have y1:=qf w4 (w.heap.size+1) 1 _ 87 X3'.out;have hb2ne:w2.heap.size≠w.heap.size:=by have:=Hsz2.out;have:=XA.out;omega
  have hb2ne1:w2.heap.size≠w.heap.size+1:=by have:=Hsz2.out;have:=XA.out;omega
  cases hrp:Zs s with
  |error x=>
   obtain⟨c,p⟩:=x;rw[hrp] at hr4;obtain⟨rfl,k4,k5,kb⟩:=hr4;have HRp:=qh hrp;clear hrp hb4 Hwh HR2;go_wp2_with fail;go_region_with (fail)
   all_goals
    go_wp2_with fail;obtain⟨hbe,r0,r1⟩:=zbK (v0:=.slice none 0 0) (v1:=.slice none 0 0) (v2:=.slice none 0 0) (v3:=.int .i64 c) (v4:=.int .i64 p) Hb4.out X2'.out X3'.out rfl;exact zdU (W:=World.drew _) rfl rfl r0 r1 ⟨hbe.drew,by rw[HRp.out];rfl⟩
  |ok m'=>
   rw[hrp] at hr4;obtain⟨rfl,hz,i',ec,ep,vf,ve,vb,vs,hr⟩:=hr4;have HRp:=qh hrp;obtain⟨Af,cf,rfl⟩:=pJ hr.rr.gO;obtain⟨Ae,ce,rfl⟩:=pJ hr.rr.ends;obtain⟨Ab,cb,rfl⟩:=pJ hr.rr.gS;have c1:=hr.rr.rb.c1;have c2:=hr.rr.rb.c2;have c3:=hr.rr.rb.c3;have HOM:=qh hr.rr.om;have Hz:=qh hz;clear hrp hb4 Hwh HR2 hr hz;go_wp2_with fail;obtain⟨hbe,r0,r1⟩:=zbK (v0:=.slice Af m'.gO.length cf) (v1:=.slice Ae m'.ends.length ce) (v2:=.slice Ab m'.gS.length cb) (v3:=.int .i64 0) (v4:=.int .i64 0) Hb4.out X2'.out X3'.out rfl;refine zdU rfl rfl r0 r1 ⟨hbe,?_⟩;rw[HRp.out];have zsO:w.heap.size<w1.heap.size:=(by have:=XA.out;omega);have hlt1:w.heap.size+1<w1.heap.size:=(by have:=XA.out;omega);exact⟨Hz.out,_,_,_,vs,rfl,(((((HOM.out.put zsO _ _).put zsO _ _).put zsO _ _).put hlt1 _ _).put hlt1 _ _).zpZ (by omega)⟩
end Go.Proofs.YtgklikkddckgbaaGreatDoor


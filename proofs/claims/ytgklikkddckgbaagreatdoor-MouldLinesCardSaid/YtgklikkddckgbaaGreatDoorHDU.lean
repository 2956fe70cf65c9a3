import Derived.Test.YtgklikkddckgbaaGreatDoorHDT
/- Lemmas of the claim. -/
set_option linter.all false
namespace Go.Proofs.YtgklikkddckgbaaGreatDoor
open Go.RowKit
variable {w w1 w':World} {base b:Nat} {s:ByteArray} {T cap i:Nat} {m:Met} {ec ep:Int} {vf ve vb:Value} {vs:List Value}
def RGz (base b:Nat) (s:ByteArray) (T cap:Nat) (w:World) (r:Res) (e:Ending) (w':World):Prop:=
 RG base b s T cap w r e w'∧match r with|.error _=>True|.ok (_,m')=>Sized m'
theorem RGz.err {r:Res} {c:Int} {p:Nat} (h:r=.error (c,p)) (hb:Below base w w') (hr:RQ w' base b s T cap i m c p vf ve vb vs):RGz base b s T cap w r (.returned (.bool false)) w':=
 ⟨RG.err h hb hr,by subst h;trivial⟩
theorem RGz.good {r:Res} {L:List Tok} (h:r=.ok (L,m)) (hL:(toks s 0).drop i=L) (hb:Below base w w') (hr:RQ w' base b s T cap i m ec ep vf ve vb vs) (hz:Sized m):RGz base b s T cap w r (.returned (.bool true)) w':=
 ⟨RG.good h hL hb hr,by subst h;exact hz⟩
theorem RR.isFeet' {lv:Value} {g cp:Nat} (h:RR w base b lv m ec ep (.slice (some ⟨g,0,none⟩) m.feet.length cp) ve vb vs) {k:Nat} (hk:k<m.feet.length):
  w.cell? ⟨g,k*2,none⟩=some (.string (m.feet.getD k default).own)∧∃A c,vs.getD k nilV=.slice A (m.feet.getD k default).ways.length c∧w.cell? ⟨g,k*2+1,none⟩=some (.slice A (m.feet.getD k default).ways.length c)∧IsWays w w.heap.size A (m.feet.getD k default).ways:=by
 have hg:=zcr m.feet vs k h.vl hk;obtain⟨A,c,hv,hc,hw⟩:=zds (h.ways k hk);rw[h.feet.cellAt (k*2) (by omega),h.feet.cellAt (k*2+1) (by omega),hg.1,hg.2,hv];exact⟨rfl,A,c,rfl,rfl,hw⟩
def zhH (sg:ByteArray) (all:Bool) (f:Ft):Bool:=!(all&&eqS f.own sg)&&decide (15≤f.ways.length)
theorem zlb {sg:ByteArray} {all:Bool} {l:List Ft} (h:∀f∈l,f.ways.length≤15):l.any (zhH sg all)=l.any (zdm sg all):=by
 rw[Bool.eq_iff_iff,List.any_eq_true,List.any_eq_true];have e:∀f∈l,zhH sg all f=zdm sg all f:=fun f hf=>by
  have:=h f hf;unfold zhH zdm;have:decide (15≤f.ways.length)=decide (f.ways.length=15):=by rw[decide_eq_decide];omega
  rw[this]
 constructor
 ·rintro⟨f,hf,h1⟩;exact⟨f,hf,by rw[←e f hf];exact h1⟩
 ·rintro⟨f,hf,h1⟩;exact⟨f,hf,by rw[e f hf];exact h1⟩
def zeU (fs:List Ft) (i k:Nat):List Ft:=(fs.drop i).take k
theorem zg9 (fs:List Ft) (i k:Nat) (p:Ft→Bool) (h:i+k<fs.length):(zeU fs i (k+1)).any p=((zeU fs i k).any p||p (fs.getD (i+k) default)):=by
 unfold zeU;have h1:k<(fs.drop i).length:=by rw[List.length_drop];omega
 rw[zbp _ _ _ h1];congr 2
 simp[List.getD_eq_getElem?_getD,List.getElem?_drop]
theorem zkl {fs:List Ft} {i k:Nat} {sg:ByteArray} {c:Int} {all:Bool} (hik:i+k<fs.length) (hf:layF sg c all (fs.getD (i+k) default)=fs.getD (i+k) default):layR fs i (k+1) sg c all=layR fs i k sg c all:=by
 rw[zdt _ _ _ _ _ _ hik,hf];refine zfO default (by simp) fun q hq=>?_;rw[List.length_set] at hq;rw[zbX _ _ _ _ _ hq];by_cases e:i+k=q
 ·subst e;rw[if_pos rfl,zcb _ _ _ _ _ _ hik]
 ·rw[if_neg e]
theorem RQ.layStep {i0 k g cp:Nat} {sg:ByteArray} {c:Int} {all:Bool} (h:RQ w base b s T cap i {m with feet:=layR m.feet i0 k sg c all} ec ep (.slice (some ⟨g,0,none⟩) m.feet.length cp) ve vb vs) (hik:i0+k<m.feet.length)
  (hf:layF sg c all (m.feet.getD (i0+k) default)=⟨(m.feet.getD (i0+k) default).own,(m.feet.getD (i0+k) default).ways++[(sg,c)]⟩) {v':Value}
  (ho:w1.ownsRow base 83 2 v' ((m.feet.getD (i0+k) default).ways.length+1) (zaf (m.feet.getD (i0+k) default).ways++[.string sg,.int .i64 c])) (hg:w.grownBy w1 (vs.getD (i0+k) nilV).ownBlock)
  (hat:v'.ownBlock=(vs.getD (i0+k) nilV).ownBlock∨∃N,v'.ownBlock=some N∧w.heap.size≤N):
  RQ (w1.setCell ⟨g,(i0+k)*2+1,none⟩ v') base b s T cap i {m with feet:=layR m.feet i0 (k+1) sg c all} ec ep (.slice (some ⟨g,0,none⟩) m.feet.length cp) ve vb (vs.set (i0+k) v'):=by
 have hlen:(layR m.feet i0 k sg c all).length=m.feet.length:=za5 _ _ _ _ _ _ (by omega);have hh:=zcb m.feet i0 k sg c all hik;have hr:=h.way (j:=i0+k) (g:=g) (cp:=cp) (by simpa [hlen] using hik) (by simp[hlen]) (sg,c) (v':=v') (w1:=w1) (by simp only[hh];exact ho) hg hat;simp only[hh] at hr;unfold Met.setFt at hr;simp only[] at hr;rw[zdt _ _ _ _ _ _ hik,hf];exact hr
set_option maxRecDepth 100000 in
set_option maxHeartbeats 16000000 in
theorem zeV {g cp:Nat} (h:RQ w base b s T cap i m ec ep (.slice (some ⟨g,0,none⟩) m.feet.length cp) ve vb vs) (hs:s.size≤65536) (hv:Vars w) (h6:9≤base) (hz:Sized m) (i0 n e0:Nat) (he0:e0=i0+n) (hin:e0≤m.feet.length) (all:Bool):
  Calls Tryz.prog 159 #[.pointer (some ⟨b,0,none⟩),.int .i64 i0,.int .i64 e0,.bool all] w (RGz base b s T cap w (zbm ((toks s 0).drop i).length ((toks s 0).drop i) m i0 n all)):=by
 have H:=qh h;have Hz:=qh hz;have Hv:=qh hv;have hlen0:m.feet.length≤16:=hz.feet;generalize hN:m.feet.length=N at*;generalize hR:zbm ((toks s 0).drop i).length ((toks s 0).drop i) m i0 n all=R;have HR:=qh hR;have HN:=qh hN;have He0:=qh he0;have hie:i0≤e0:=by omega
 clear h hz hv hR hN he0;go_enter Tryz.func159,Tryz.ntmps159;go_wp2_with fail;go_loopg [] ((toks s 0).drop i).length (fun gg wr=>∃(j:Nat) (m':Met) (vs':List Value) (ec' ep':Int),Hid (((toks s 0).drop j).length≤gg)∧Hid (zbm gg ((toks s 0).drop j) m' i0 n all=R)∧Hid (Sized m')∧Hid (m'.feet.length=N)∧
  Hid (RQ wr base b s T cap j m' ec' ep' (.slice (some ⟨g,0,none⟩) N cp) ve vb vs')∧Hid (Below base w wr))
 case atStart=>exact⟨i,m,vs,ec,ep,qh (ql _),HR,Hz,HN,H,qh (qb _ _)⟩
 case round=>
  obtain⟨j,m',vs',ec',ep',hgk,hP,hzz,hN',hr,hbr⟩:=hrel;clear H Hz HR HN;have hpos:0<((toks s 0).drop j).length:=by have:=hr.out.hi;rw[List.length_drop];omega
  obtain⟨q,rfl⟩:∃q,gk=q+1:=⟨gk-1,by have:=hgk.out;omega⟩;have c0:=hr.out.rr.rb.c0;have t0:=hr.out.t0;have t1:=hr.out.t1;have hNN:0<(toks s 0).length-j:=by have:=hr.out.hi;omega
  have hcp:(toks s 0).length-j≤cap-j:=by have:=hr.out.caps;omega
  have hbl:=hr.out.bl;unfold tokV at c0;have H1:=qh (hr.out.below ((qb wr.heap.size wr).alloc (ql _) (.cells #[.int .i64 (hd ((toks s 0).drop j)).1,.string (hd ((toks s 0).drop j)).2] 187)));have Hb1:Hid (Below base w (wr.alloc (.cells #[.int .i64 (hd ((toks s 0).drop j)).1,.string (hd ((toks s 0).drop j)).2] 187))):=qh (hbr.out.alloc hr.out.bs _);have HX:Hid ((wr.alloc (.cells #[.int .i64 (hd ((toks s 0).drop j)).1,.string (hd ((toks s 0).drop j)).2] 187)).heap[wr.heap.size]?=_):=qh (qn wr _);have HAd:=qh (fun h0=>zaY (s:=s) (i:=j) hr.out.hi h0);have Hfp:=qh (fun h=>zeT (t:=(hd ((toks s 0).drop j)).2) h);generalize hW1:wr.alloc (.cells #[.int .i64 (hd ((toks s 0).drop j)).1,.string (hd ((toks s 0).drop j)).2] 187)=W1 at H1 Hb1 HX;have hxs:wr.heap.size<W1.heap.size:=by rw[←hW1];simp
  have HW1:=qh hW1;clear hW1;have hft:=zde H1.out hs;generalize hLL:(toks s 0).drop j=L at*;have HLL:=qh hLL;clear hLL;have Hhd:Hid (∃tk,hd L=tk):=qh ⟨_,rfl⟩;generalize htk:hd L=tk at*;have Htk:=qh htk;clear htk Hhd;generalize (toks s 0).length-j=NN at*;generalize cap-j=C at*;obtain⟨p,t⟩:=tk;simp only[] at t0 t1 HW1 HX Hfp hft;unfold RFootOk at hft;simp only[] at hft;have hFe:zaH t=((zaH t).1,(zaH t).2):=rfl;generalize (zaH t).1=sg at hft hFe;generalize hfer:(zaH t).2=er at hft hFe Hfp;clear hfer;have HFe:Hid (zaH (hd L).2=(sg,er)):=qh (by rw[Htk.out];exact hFe);have Hft:=qh hft;clear hFe hft;go_upto_region 2 with(fail)
  rw[HW1.out];clear t0 t1 c0 HW1;go_wp2_with fail;refine Hft.out.mono ?_;rintro e w2 ⟨hb2,hr2⟩;have Hb2:=qh (Hb1.out.grown hb2 H1.out.bs (fun k e=>by cases e;exact H1.out.rr.hb));have Hx2:Hid (w2.heap[wr.heap.size]?=some (.cells #[.int .i64 p,.string t] 187 (0,0))):=qh ((hb2.block wr.heap.size hxs (by simp;omega)).trans HX.out);clear hb2 Hft;by_cases h0:er=0
  ·subst h0;simp only[eq_self,if_true] at hr2;obtain⟨rfl,hr2⟩:=hr2;have H2:=qh hr2;have HJ:=qh (HAd.out (Hfp.out rfl)).2;clear hr2 HAd Hfp hxs;obtain⟨wo,hwo⟩:∃wo:World,wo=wr:=⟨_,rfl⟩;subst hwo;go_upto_region 7 with(fail)
   have HSz:=qh hzz.out.ways;go_loopw [12,13,14] (fun v12 v13 q wr=>∃x:Nat,i0≤x∧x≤e0∧q=.int .i64 x∧v12=.bool ((zeU m'.feet i0 (x-i0)).any (zb6 sg all))∧v13=.bool ((zeU m'.feet i0 (x-i0)).any (zhH sg all))∧Hid (Below w2.heap.size w2 wr)) (fun _ _ q _=>e0-(intOf q).toNat)
   case atStart=>exact⟨i0,by omega,by omega,rfl,by simp[zeU],by simp[zeU],qh (qb _ _)⟩
   case round=>
    obtain⟨x,hix,hxe,rfl,rfl,rfl,hb⟩:=hrel;by_cases hlt:x<e0
    ·have hxN:x<m'.feet.length:=(by have:=hN'.out;omega);have HX2:=qh (H2.out.below hb.out);have hft2:RQ wr base b s T cap (j+1) m' ec' ep' (.slice (some ⟨g,0,none⟩) m'.feet.length cp) ve vb vs':=(by rw[hN'.out];exact HX2.out);obtain⟨f1,A,c,hve,f2,hiw⟩:=hft2.rr.isFeet' hxN;have c1:=HX2.out.rr.rb.c1;have hxN2:x<N:=(by have:=hN'.out;omega);have hxe2:i0+(x-i0)=x:=(by omega);have hn1:=zg9 m'.feet i0 (x-i0) (zb6 sg all) (by rw[hxe2];exact hxN);have hn2:=zg9 m'.feet i0 (x-i0) (zhH sg all) (by rw[hxe2];exact hxN);rw[hxe2] at hn1 hn2;have hl15:=HSz.out x hxN;have HK:Hid (x+1-i0=x-i0+1):=qh (by omega);have hsz:=hb.out.size;have hba:Below w2.heap.size w2 (wr.alloc (.cells #[.string (m'.feet.getD x default).own,.slice A (m'.feet.getD x default).ways.length c] 81)):=hb.out.alloc hsz _;have Hba:=qh hba;have Hbox:Hid ((wr.alloc (.cells #[.string (m'.feet.getD x default).own,.slice A (m'.feet.getD x default).ways.length c] 81)).heap[wr.heap.size]?=_):=qh (qn wr _);have Hiw2:=qh ((hiw.below ((qb wr.heap.size wr).alloc (ql _) (.cells #[.string (m'.feet.getD x default).own,.slice A (m'.feet.getD x default).ways.length c] 81))).more (B':=(wr.alloc (.cells #[.string (m'.feet.getD x default).own,.slice A (m'.feet.getD x default).ways.length c] 81)).heap.size) (by simp));have hgx:g<wr.heap.size:=(HX2.out.rr.feet.lt g rfl).2;have hbx:b<wr.heap.size:=HX2.out.bl;clear hba hiw hve hft2 hxN hxe2;generalize m'.feet.getD x default=f at*;obtain⟨own,ways⟩:=f;simp only[zb6,zhH] at hn1 hn2;simp only[] at f1 f2 hl15 Hba Hbox Hiw2;generalize (zeU m'.feet i0 (x-i0)).any (zb6 sg all)=A0 at*;generalize (zeU m'.feet i0 (x-i0)).any (zhH sg all)=B0 at*;cases hq:eqS own sg with
     |true=>
      have hq2:(own.toList==sg.toList)=true:=(by unfold eqS at hq;exact hq);cases all with
      |true=>
       simp only[hq,Bool.and_self,Bool.not_true,Bool.false_and,Bool.or_false] at hn1 hn2;have Hn1:=qh hn1;have Hn2:=qh hn2;clear hn1 hn2 hq;have Hbe:=Hba;go_wp2_with fail;go_roundw
       case rel=>exact⟨x+1,by omega,by omega,by go_num,by rw[HK.out,Hn1.out],by first|(rw[HK.out,Hn2.out];done)|(rw[HK.out,Hn2.out];exact congrArg Value.bool (qd (by have:=H15.out;omega))),Hbe⟩
       case measure=>simp[intOf];omega
      |false=>
       simp only[hq,Bool.false_and,Bool.not_false,Bool.true_and,Bool.true_or,Bool.or_true] at hn1 hn2;cases A0 with
       |true=>
        try simp only[Bool.true_or,Bool.false_or] at hn1
        have Hn1:=qh hn1;clear hn1;cases B0 with
        |true=>
         try simp only[Bool.true_or,Bool.false_or] at hn2
         have Hn2:=qh hn2;clear hn2 hq;go_wp2_with fail;have Hbe:=Hba;go_roundw
         case rel=>exact⟨x+1,by omega,by omega,by go_num,by rw[HK.out,Hn1.out],by first|(rw[HK.out,Hn2.out];done)|(rw[HK.out,Hn2.out];exact congrArg Value.bool (qd (by have:=H15.out;omega))),Hbe⟩
         case measure=>simp[intOf];omega
        |false=>
         try simp only[Bool.true_or,Bool.false_or] at hn2
         cases h15:decide (15≤ways.length) with
         |true=>
          rw[h15] at hn2;have Hn2:=qh hn2;have h15':(15:Int)≤(ways.length:Int):=(by have:=of_decide_eq_true h15;omega);have H15:=qh h15';clear hn2 hq h15;go_wp2_with fail;have Hbe:=Hba;go_roundw
          case rel=>exact⟨x+1,by omega,by omega,by go_num,by rw[HK.out,Hn1.out],by first|(rw[HK.out,Hn2.out];done)|(rw[HK.out,Hn2.out];exact congrArg Value.bool (qd (by have:=H15.out;omega))),Hbe⟩
          case measure=>simp[intOf];omega
         |false=>
          rw[h15] at hn2;have Hn2:=qh hn2;have h15':¬(15:Int)≤(ways.length:Int):=(by have:=of_decide_eq_false h15;omega);have H15:=qh h15';clear hn2 hq h15;go_wp2_with fail;have Hbe:=Hba;go_roundw
          case rel=>exact⟨x+1,by omega,by omega,by go_num,by rw[HK.out,Hn1.out],by first|(rw[HK.out,Hn2.out];done)|(rw[HK.out,Hn2.out];exact congrArg Value.bool (qd (by have:=H15.out;omega))),Hbe⟩
          case measure=>simp[intOf];omega
       |false=>
        try simp only[Bool.true_or,Bool.false_or] at hn1
        have Hn1:=qh hn1;clear hn1;cases B0 with
        |true=>
         try simp only[Bool.true_or,Bool.false_or] at hn2
         have Hn2:=qh hn2;clear hn2 hq;go_wp2_with fail;have Hbe:=Hba;go_roundw
         case rel=>exact⟨x+1,by omega,by omega,by go_num,by rw[HK.out,Hn1.out],by first|(rw[HK.out,Hn2.out];done)|(rw[HK.out,Hn2.out];exact congrArg Value.bool (qd (by have:=H15.out;omega))),Hbe⟩
         case measure=>simp[intOf];omega
        |false=>
         try simp only[Bool.true_or,Bool.false_or] at hn2
         cases h15:decide (15≤ways.length) with
         |true=>
          rw[h15] at hn2;have Hn2:=qh hn2;have h15':(15:Int)≤(ways.length:Int):=(by have:=of_decide_eq_true h15;omega);have H15:=qh h15';clear hn2 hq h15;go_wp2_with fail;have Hbe:=Hba;go_roundw
          case rel=>exact⟨x+1,by omega,by omega,by go_num,by rw[HK.out,Hn1.out],by first|(rw[HK.out,Hn2.out];done)|(rw[HK.out,Hn2.out];exact congrArg Value.bool (qd (by have:=H15.out;omega))),Hbe⟩
          case measure=>simp[intOf];omega
         |false=>
          rw[h15] at hn2;have Hn2:=qh hn2;have h15':¬(15:Int)≤(ways.length:Int):=(by have:=of_decide_eq_false h15;omega);have H15:=qh h15';clear hn2 hq h15;go_wp2_with fail;have Hbe:=Hba;go_roundw
          case rel=>exact⟨x+1,by omega,by omega,by go_num,by rw[HK.out,Hn1.out],by first|(rw[HK.out,Hn2.out];done)|(rw[HK.out,Hn2.out];exact congrArg Value.bool (qd (by have:=H15.out;omega))),Hbe⟩
          case measure=>simp[intOf];omega
     |false=>
      have hq2:(own.toList==sg.toList)=false:=(by unfold eqS at hq;exact hq);have hha:=fun W hw=>zfw A c ways sg W hw (by omega);have Hha:=qh hha;simp only[hq,Bool.and_false,Bool.not_false,Bool.true_and,Bool.false_or] at hn1 hn2;clear hha;cases all with
      |true=>
       cases A0 with
       |true=>
        try simp only[Bool.true_or,Bool.false_or] at hn1
        have Hn1:=qh hn1;clear hn1;cases B0 with
        |true=>
         try simp only[Bool.true_or,Bool.false_or] at hn2
         have Hn2:=qh hn2;clear hn2 hq;go_wp2_with fail;have Hbe:=Hba;go_roundw
         case rel=>exact⟨x+1,by omega,by omega,by go_num,by rw[HK.out,Hn1.out],by first|(rw[HK.out,Hn2.out];done)|(rw[HK.out,Hn2.out];exact congrArg Value.bool (qd (by have:=H15.out;omega))),Hbe⟩
         case measure=>simp[intOf];omega
        |false=>
         try simp only[Bool.true_or,Bool.false_or] at hn2
         cases h15:decide (15≤ways.length) with
         |true=>
          rw[h15] at hn2;have Hn2:=qh hn2;have h15':(15:Int)≤(ways.length:Int):=(by have:=of_decide_eq_true h15;omega);have H15:=qh h15';clear hn2 hq h15;go_wp2_with fail;have Hbe:=Hba;go_roundw
          case rel=>exact⟨x+1,by omega,by omega,by go_num,by rw[HK.out,Hn1.out],by first|(rw[HK.out,Hn2.out];done)|(rw[HK.out,Hn2.out];exact congrArg Value.bool (qd (by have:=H15.out;omega))),Hbe⟩
          case measure=>simp[intOf];omega
         |false=>
          rw[h15] at hn2;have Hn2:=qh hn2;have h15':¬(15:Int)≤(ways.length:Int):=(by have:=of_decide_eq_false h15;omega);have H15:=qh h15';clear hn2 hq h15;go_wp2_with fail;have Hbe:=Hba;go_roundw
          case rel=>exact⟨x+1,by omega,by omega,by go_num,by rw[HK.out,Hn1.out],by first|(rw[HK.out,Hn2.out];done)|(rw[HK.out,Hn2.out];exact congrArg Value.bool (qd (by have:=H15.out;omega))),Hbe⟩
          case measure=>simp[intOf];omega
       |false=>
        try simp only[Bool.true_or,Bool.false_or] at hn1
        have Hn1:=qh hn1;clear hn1;cases B0 with
        |true=>
         try simp only[Bool.true_or,Bool.false_or] at hn2
         have Hn2:=qh hn2;clear hn2 hq;go_wp2_with fail;refine(Hha.out _ Hiw2.out).mono ?_;rintro e w5 ⟨rfl,hb5⟩;have hw1:w5.cell? ⟨wr.heap.size,1,none⟩=some (.slice A ways.length c):=qc _ _ _ _ 81 (0,0) ((hb5.block _ (by simp)).trans Hbox.out);have Hbe:Hid (Below w2.heap.size w2 w5):=qh (Hba.out.trans (hb5.mono Hba.out.size));clear hb5;go_wp2_with fail;go_roundw
         case rel=>exact⟨x+1,by omega,by omega,by go_num,by rw[HK.out,Hn1.out],by first|(rw[HK.out,Hn2.out];done)|(rw[HK.out,Hn2.out];exact congrArg Value.bool (qd (by have:=H15.out;omega))),Hbe⟩
         case measure=>simp[intOf];omega
        |false=>
         try simp only[Bool.true_or,Bool.false_or] at hn2
         cases h15:decide (15≤ways.length) with
         |true=>
          rw[h15] at hn2;have Hn2:=qh hn2;have h15':(15:Int)≤(ways.length:Int):=(by have:=of_decide_eq_true h15;omega);have H15:=qh h15';clear hn2 hq h15;go_wp2_with fail;refine(Hha.out _ Hiw2.out).mono ?_;rintro e w5 ⟨rfl,hb5⟩;have hw1:w5.cell? ⟨wr.heap.size,1,none⟩=some (.slice A ways.length c):=qc _ _ _ _ 81 (0,0) ((hb5.block _ (by simp)).trans Hbox.out);have Hbe:Hid (Below w2.heap.size w2 w5):=qh (Hba.out.trans (hb5.mono Hba.out.size));clear hb5;go_wp2_with fail;go_roundw
          case rel=>exact⟨x+1,by omega,by omega,by go_num,by rw[HK.out,Hn1.out],by first|(rw[HK.out,Hn2.out];done)|(rw[HK.out,Hn2.out];exact congrArg Value.bool (qd (by have:=H15.out;omega))),Hbe⟩
          case measure=>simp[intOf];omega
         |false=>
          rw[h15] at hn2;have Hn2:=qh hn2;have h15':¬(15:Int)≤(ways.length:Int):=(by have:=of_decide_eq_false h15;omega);have H15:=qh h15';clear hn2 hq h15;go_wp2_with fail;refine(Hha.out _ Hiw2.out).mono ?_;rintro e w5 ⟨rfl,hb5⟩;have hw1:w5.cell? ⟨wr.heap.size,1,none⟩=some (.slice A ways.length c):=qc _ _ _ _ 81 (0,0) ((hb5.block _ (by simp)).trans Hbox.out);have Hbe:Hid (Below w2.heap.size w2 w5):=qh (Hba.out.trans (hb5.mono Hba.out.size));clear hb5;go_wp2_with fail;go_roundw
          case rel=>exact⟨x+1,by omega,by omega,by go_num,by rw[HK.out,Hn1.out],by first|(rw[HK.out,Hn2.out];done)|(rw[HK.out,Hn2.out];exact congrArg Value.bool (qd (by have:=H15.out;omega))),Hbe⟩
          case measure=>simp[intOf];omega
      |false=>
       cases A0 with
       |true=>
        try simp only[Bool.true_or,Bool.false_or] at hn1
        have Hn1:=qh hn1;clear hn1;cases B0 with
        |true=>
         try simp only[Bool.true_or,Bool.false_or] at hn2
         have Hn2:=qh hn2;clear hn2 hq;go_wp2_with fail;have Hbe:=Hba;go_roundw
         case rel=>exact⟨x+1,by omega,by omega,by go_num,by rw[HK.out,Hn1.out],by first|(rw[HK.out,Hn2.out];done)|(rw[HK.out,Hn2.out];exact congrArg Value.bool (qd (by have:=H15.out;omega))),Hbe⟩
         case measure=>simp[intOf];omega
        |false=>
         try simp only[Bool.true_or,Bool.false_or] at hn2
         cases h15:decide (15≤ways.length) with
         |true=>
          rw[h15] at hn2;have Hn2:=qh hn2;have h15':(15:Int)≤(ways.length:Int):=(by have:=of_decide_eq_true h15;omega);have H15:=qh h15';clear hn2 hq h15;go_wp2_with fail;have Hbe:=Hba;go_roundw
          case rel=>exact⟨x+1,by omega,by omega,by go_num,by rw[HK.out,Hn1.out],by first|(rw[HK.out,Hn2.out];done)|(rw[HK.out,Hn2.out];exact congrArg Value.bool (qd (by have:=H15.out;omega))),Hbe⟩
          case measure=>simp[intOf];omega
         |false=>
          rw[h15] at hn2;have Hn2:=qh hn2;have h15':¬(15:Int)≤(ways.length:Int):=(by have:=of_decide_eq_false h15;omega);have H15:=qh h15';clear hn2 hq h15;go_wp2_with fail;have Hbe:=Hba;go_roundw
          case rel=>exact⟨x+1,by omega,by omega,by go_num,by rw[HK.out,Hn1.out],by first|(rw[HK.out,Hn2.out];done)|(rw[HK.out,Hn2.out];exact congrArg Value.bool (qd (by have:=H15.out;omega))),Hbe⟩
          case measure=>simp[intOf];omega
       |false=>
        try simp only[Bool.true_or,Bool.false_or] at hn1
        have Hn1:=qh hn1;clear hn1;cases B0 with
        |true=>
         try simp only[Bool.true_or,Bool.false_or] at hn2
         have Hn2:=qh hn2;clear hn2 hq;go_wp2_with fail;refine(Hha.out _ Hiw2.out).mono ?_;rintro e w5 ⟨rfl,hb5⟩;have hw1:w5.cell? ⟨wr.heap.size,1,none⟩=some (.slice A ways.length c):=qc _ _ _ _ 81 (0,0) ((hb5.block _ (by simp)).trans Hbox.out);have Hbe:Hid (Below w2.heap.size w2 w5):=qh (Hba.out.trans (hb5.mono Hba.out.size));clear hb5;go_wp2_with fail;go_roundw
         case rel=>exact⟨x+1,by omega,by omega,by go_num,by rw[HK.out,Hn1.out],by first|(rw[HK.out,Hn2.out];done)|(rw[HK.out,Hn2.out];exact congrArg Value.bool (qd (by have:=H15.out;omega))),Hbe⟩
         case measure=>simp[intOf];omega
        |false=>
         try simp only[Bool.true_or,Bool.false_or] at hn2
         cases h15:decide (15≤ways.length) with
         |true=>
          rw[h15] at hn2;have Hn2:=qh hn2;have h15':(15:Int)≤(ways.length:Int):=(by have:=of_decide_eq_true h15;omega);have H15:=qh h15';clear hn2 hq h15;go_wp2_with fail;refine(Hha.out _ Hiw2.out).mono ?_;rintro e w5 ⟨rfl,hb5⟩;have hw1:w5.cell? ⟨wr.heap.size,1,none⟩=some (.slice A ways.length c):=qc _ _ _ _ 81 (0,0) ((hb5.block _ (by simp)).trans Hbox.out);have Hbe:Hid (Below w2.heap.size w2 w5):=qh (Hba.out.trans (hb5.mono Hba.out.size));clear hb5;go_wp2_with fail;go_roundw
          case rel=>exact⟨x+1,by omega,by omega,by go_num,by rw[HK.out,Hn1.out],by first|(rw[HK.out,Hn2.out];done)|(rw[HK.out,Hn2.out];exact congrArg Value.bool (qd (by have:=H15.out;omega))),Hbe⟩
          case measure=>simp[intOf];omega
         |false=>
          rw[h15] at hn2;have Hn2:=qh hn2;have h15':¬(15:Int)≤(ways.length:Int):=(by have:=of_decide_eq_false h15;omega);have H15:=qh h15';clear hn2 hq h15;go_wp2_with fail;refine(Hha.out _ Hiw2.out).mono ?_;rintro e w5 ⟨rfl,hb5⟩;have hw1:w5.cell? ⟨wr.heap.size,1,none⟩=some (.slice A ways.length c):=qc _ _ _ _ 81 (0,0) ((hb5.block _ (by simp)).trans Hbox.out);have Hbe:Hid (Below w2.heap.size w2 w5):=qh (Hba.out.trans (hb5.mono Hba.out.size));clear hb5;go_wp2_with fail;go_roundw
          case rel=>exact⟨x+1,by omega,by omega,by go_num,by rw[HK.out,Hn1.out],by first|(rw[HK.out,Hn2.out];done)|(rw[HK.out,Hn2.out];exact congrArg Value.bool (qd (by have:=H15.out;omega))),Hbe⟩
          case measure=>simp[intOf];omega
    ·obtain rfl:e0=x:=by omega
     have hse:zeU m'.feet i0 (e0-i0)=(m'.feet.drop i0).take n:=(by unfold zeU;rw[He0.out,Nat.add_sub_cancel_left]);have hlg:=zlb (sg:=sg) (all:=all) (l:=(m'.feet.drop i0).take n) (zjI HSz.out i0 n);rw[hse,hlg];have Hle:Hid (zcl ((m'.feet.drop i0).take n) sg all=if((m'.feet.drop i0).take n).any (zb6 sg all) then 132 else if((m'.feet.drop i0).take n).any (zdm sg all) then 3 else 0):=qh rfl;have H3:=qh (H2.out.below hb.out);have HB3:=qh (Hb2.out.trans (hb.out.mono H2.out.bs));have Hx3:Hid (wr.heap[wo.heap.size]?=some (.cells #[.int .i64 p,.string t] 187 (0,0))):=qh ((hb.out.block _ (qg Hx2.out).1).trans Hx2.out);have x0:wr.cell? ⟨wo.heap.size,0,none⟩=some (.int .i64 p):=qc _ _ _ _ 187 (0,0) Hx3.out;have x1:wr.cell? ⟨wo.heap.size,1,none⟩=some (.string t):=qc _ _ _ _ 187 (0,0) Hx3.out;have hxs:wo.heap.size<wr.heap.size:=(qg Hx3.out).1;clear hse hlg hb;generalize ((m'.feet.drop i0).take n).any (zb6 sg all)=A0 at*;generalize ((m'.feet.drop i0).take n).any (zdm sg all)=B0 at*;cases A0 with
     |true=>
      have HL3:Hid (zcl ((m'.feet.drop i0).take n) sg all=132):=qh (by rw[Hle.out];rfl);have Hw:=qh (zeF (f:=q) (m:=m') (i:=i0) (n:=n) (all:=all) HFe.out HL3.out (by decide));clear Hle HL3;have hfl:=fail_any 132 (p,t) H3.out;unfold tokA at hfl;simp only[] at hfl;have Hfl:=qh hfl;clear hfl;go_wp2_with fail;refine Hfl.out.mono ?_;rintro e w' ⟨rfl,hr9,hb9⟩;have HR9:=qh hr9;have HB9:=qh (HB3.out.grown hb9 H3.out.bs (fun k e=>by cases e;exact H3.out.rr.hb));clear hr9 hb9;go_wp2_with fail;go_ret;exact RGz.err (hP.out.symm.trans (Hw.out.trans (by rw[Htk.out]))) HB9.out HR9.out
     |false=>
      cases B0 with
      |true=>
       have HL3:Hid (zcl ((m'.feet.drop i0).take n) sg all=3):=qh (by rw[Hle.out];rfl);have Hw:=qh (zeF (f:=q) (m:=m') (i:=i0) (n:=n) (all:=all) HFe.out HL3.out (by decide));clear Hle HL3;have hfl:=fail_any 3 (p,t) H3.out;unfold tokA at hfl;simp only[] at hfl;have Hfl:=qh hfl;clear hfl;go_wp2_with fail;refine Hfl.out.mono ?_;rintro e w' ⟨rfl,hr9,hb9⟩;have HR9:=qh hr9;have HB9:=qh (HB3.out.grown hb9 H3.out.bs (fun k e=>by cases e;exact H3.out.rr.hb));clear hr9 hb9;go_wp2_with fail;go_ret;exact RGz.err (hP.out.symm.trans (Hw.out.trans (by rw[Htk.out]))) HB9.out HR9.out
      |false=>
       have HL3:Hid (zcl ((m'.feet.drop i0).take n) sg all=0):=qh (by rw[Hle.out];rfl);clear Hle x0 x1;have hnum:=zbc 0 1048576 H3.out (Hv.out.below HB3.out h6) h6 hs;have HA3:=qh (fun h0=>zaY (s:=s) (i:=j+1) H3.out.hi h0);rw[HJ.out] at hnum HA3;have Hps:=qh (fun h=>zc1 (t:=(hd (adv L)).2) (lo:=0) (hi:=1048576) h);have hNe:numE (hd (adv L)).2 0 1048576=((numE (hd (adv L)).2 0 1048576).1,(numE (hd (adv L)).2 0 1048576).2):=rfl;unfold RNumOk at hnum;generalize (numE (hd (adv L)).2 0 1048576).1=nn at hnum hNe;generalize hen:(numE (hd (adv L)).2 0 1048576).2=en at hnum hNe Hps;clear hen;have HNe:=qh hNe;have Hnum:=qh hnum;clear hNe hnum hxs;go_wp2_with fail;refine Hnum.out.mono ?_;rintro e w5 ⟨hb5,hr5⟩;have HB5:=qh (HB3.out.grown hb5 H3.out.bs (fun k e=>by cases e;exact H3.out.rr.hb));clear hb5 Hnum;by_cases hn0:en=0
       ·subst hn0;simp only[eq_self,if_true] at hr5;obtain⟨rfl,hr5⟩:=hr5;have H5:=qh hr5;have HJ2:=qh (HA3.out (Hps.out rfl)).2;have Hm7:=qh (zfj hzz.out (i:=i0) (n:=n) (by have:=He0.out;have:=hN'.out;omega) (sg:=sg) (c:=nn) (all:=all) HL3.out);have Hm8:=qh ((za5 m'.feet i0 n sg nn all (by have:=He0.out;have:=hN'.out;omega)).trans hN'.out);clear hr5 HA3 Hps;generalize hj2:j+1+1=j2 at*;go_upto_region 21 with(fail)
        go_loopw [17] (fun q wr=>∃(x:Nat) (vs5:List Value),i0≤x∧x≤e0∧q=.int .i64 x∧Hid (RQ wr base b s T cap j2 {m' with feet:=layR m'.feet i0 (x-i0) sg nn all} ec' ep' (.slice (some ⟨g,0,none⟩) N cp) ve vb vs5)∧Hid (Below base w wr)) (fun q _=>e0-(intOf q).toNat)
        case atStart=>exact⟨i0,vs',by omega,by omega,rfl,qh (by rw[Nat.sub_self,zgt];exact H5.out),HB5⟩
        case round=>
         obtain⟨x,vs5,hix5,hxe5,rfl,h7,hb7⟩:=hrel;by_cases hlt5:x<e0
         ·have hxN:x<m'.feet.length:=(by have:=hN'.out;omega);have hk:i0+(x-i0)=x:=(by omega);have hlen:(layR m'.feet i0 (x-i0) sg nn all).length=m'.feet.length:=za5 _ _ _ _ _ _ (by omega);have hh:=zcb m'.feet i0 (x-i0) sg nn all (by omega);rw[hk] at hh;have h72:RQ wr base b s T cap j2 {m' with feet:=layR m'.feet i0 (x-i0) sg nn all} ec' ep' (.slice (some ⟨g,0,none⟩) ({m' with feet:=layR m'.feet i0 (x-i0) sg nn all}:Met).feet.length cp) ve vb vs5:=by
           show RQ wr base b s T cap j2 _ ec' ep' (.slice (some ⟨g,0,none⟩) (layR m'.feet i0 (x-i0) sg nn all).length cp) ve vb vs5;rw[hlen,hN'.out];exact h7.out
          obtain⟨f1,A,c,hve,f2,hiw⟩:=h72.rr.isFeet' (k:=x) (by show x<(layR m'.feet i0 (x-i0) sg nn all).length;omega);have hwv:=h72.rr.ways x (by show x<(layR m'.feet i0 (x-i0) sg nn all).length;omega);have hfe:=h72.rr.feet;simp only[hh,hlen] at f1 hve f2 hwv hfe;have z2:=hfe.frozenAt (x*2+1);have c1:=h7.out.rr.rb.c1;have hl15:=HSz.out x hxN;have HK:Hid (x+1-i0=x-i0+1):=qh (by omega);have hgx:g<wr.heap.size:=(hfe.lt g rfl).2;have hbx:b<wr.heap.size:=h7.out.bl;have Hbs7:Hid (base≤wr.drew.heap.size):=qh h7.out.bs
          have HSt:Hid (layF sg nn all (m'.feet.getD x default)=⟨(m'.feet.getD x default).own,(m'.feet.getD x default).ways++[(sg,nn)]⟩→∀(v':Value) (w1:World),w1.ownsRow base 83 2 v' ((m'.feet.getD x default).ways.length+1) (zaf (m'.feet.getD x default).ways++[.string sg,.int .i64 nn])→wr.drew.grownBy w1 (vs5.getD x nilV).ownBlock→(v'.ownBlock=(vs5.getD x nilV).ownBlock∨∃N,v'.ownBlock=some N∧wr.drew.heap.size≤N)→
            RQ (w1.setCell ⟨g,x*2+1,none⟩ v') base b s T cap j2 {m' with feet:=layR m'.feet i0 (x-i0+1) sg nn all} ec' ep' (.slice (some ⟨g,0,none⟩) N cp) ve vb (vs5.set x v')):=qh fun hf v' w1 ho hg hat=>by
           have h7d:RQ wr.drew base b s T cap j2 {m' with feet:=layR m'.feet i0 (x-i0) sg nn all} ec' ep' (.slice (some ⟨g,0,none⟩) m'.feet.length cp) ve vb vs5:=(by rw[hN'.out];exact h7.out.below (qb _ _).drew);have:=h7d.layStep (i0:=i0) (k:=x-i0) (sg:=sg) (c:=nn) (all:=all) (v':=v') (w1:=w1) (by omega) (by rw[hk];exact hf) (by rw[hk];exact ho) (by rw[hk];exact hg) (by rw[hk];exact hat);rw[hk,hN'.out] at this;exact this
          have HSk:Hid (layF sg nn all (m'.feet.getD x default)=m'.feet.getD x default→RQ wr base b s T cap j2 {m' with feet:=layR m'.feet i0 (x-i0+1) sg nn all} ec' ep' (.slice (some ⟨g,0,none⟩) N cp) ve vb vs5):=qh fun hf=>by
           rw[zkl (by omega) (by rw[hk];exact hf)];exact h7.out
          have hne1:=zaP hwv hfe (by decide);have hne2:=zac hwv h72.rr.rb (by decide);have hfb:∀q,(vs5.getD x nilV).ownBlock=some q→base≤q:=fun q hq=>(hwv.lt q hq).1;have hgb:base≤g:=(hfe.lt g rfl).1;have hown:wr.drew.ownsRow base 83 2 (vs5.getD x nilV) (m'.feet.getD x default).ways.length (zaf (m'.feet.getD x default).ways):=hwv;have Hbel:=qh fun(w4:World) (hg:wr.drew.grownBy w4 (vs5.getD x nilV).ownBlock) (v4:Value)=>((hb7.out.drew).grown hg Hbs7.out hfb).setCell hgb v4 (p:=⟨g,x*2+1,none⟩);have hLF:layF sg nn all (m'.feet.getD x default)=if(!all||!(eqS (m'.feet.getD x default).own sg)) then⟨(m'.feet.getD x default).own,(m'.feet.getD x default).ways++[(sg,nn)]⟩ else m'.feet.getD x default:=rfl
          have HLF:=qh hLF;clear hLF hiw h72 hwv hfe hh hlen hfb h7 hxN;generalize vs5.getD x nilV=V at*;subst hve;have Hzc:Hid (∀(w4:World),wr.drew.grownBy w4 (Value.slice A (m'.feet.getD x default).ways.length c).ownBlock→w4.frozen? ⟨g,x*2+1,none⟩=false∧w4.cell? ⟨g,x*2+1,none⟩=some (.slice A (m'.feet.getD x default).ways.length c)∧w4.cell? ⟨b,1,none⟩=some (.slice (some ⟨g,0,none⟩) N cp)):=qh fun w4 hg=>by
           have e1:w4.heap[g]?=wr.heap[g]?:=hg.block g hgx (fun e=>hne1.elim (fun e1=>by rw[←e] at e1;cases e1) (fun e1=>e1 e.symm));have e2:w4.heap[b]?=wr.heap[b]?:=hg.block b hbx (fun e=>hne2.elim (fun e1=>by rw[←e] at e1;cases e1) (fun e1=>e1 e.symm));exact⟨(World.frozen?_of_block (w:=wr) (w':=w4) (a:=⟨g,x*2+1,none⟩) e1).trans z2,(qw (w:=wr) (w':=w4) (a:=⟨g,x*2+1,none⟩) e1).trans f2,(qw (w:=wr) (w':=w4) (a:=⟨b,1,none⟩) e2).trans c1⟩
          have Hown:=qh hown;clear hne1 hne2 hown;have hxN2:x<N:=(by omega);generalize m'.feet.getD x default=f at*;obtain⟨own,ways⟩:=f;simp only[] at f1 f2 hl15 Hown Hzc Hbel HSt HSk HLF;have hone:∀u∈(#[.string sg,.int .i64 nn]:Array Value).toList,u.oneCell'=true:=by
           intro u hu;simp at hu;rcases hu with rfl|rfl<;>rfl
          have Hone:=qh hone;have Hmx:Hid (ways.length+1≤maxLen):=qh (by unfold maxLen;omega);have Hby:Hid ((ways.length+1)*24≤140737488355328):=qh (by omega);have Hpos:Hid (0<ways.length+1):=qh (by omega);clear hone;go_upto_region 23 with(fail)
          go_cut [107] from 93 to 107 (fun v107 wz=>v107=.bool (!all||!(eqS own sg))∧wz=wr)
          case first=>
           cases all with
           |false=>
            go_wp2_with fail;go_meet
            exact⟨rfl,rfl⟩
           |true=>
            cases hq:eqS own sg with
            |true=>
             have hq2:(own.toList==sg.toList)=true:=(by unfold eqS at hq;exact hq);have hq3:(own.toList !=sg.toList)=false:=(by simp only[bne,hq2];rfl);have Hq:=qh hq;clear hq;go_wp2_with fail;go_meet
             exact⟨by first|rfl|(rw[Hq.out];rfl),rfl⟩
            |false=>
             have hq2:(own.toList==sg.toList)=false:=(by unfold eqS at hq;exact hq);have hq3:(own.toList !=sg.toList)=true:=(by simp only[bne,hq2];rfl);have Hq:=qh hq;clear hq;go_wp2_with fail;go_meet
             exact⟨by first|rfl|(rw[Hq.out];rfl),rfl⟩
          case rest=>
          obtain⟨rfl,hwz⟩:=hcut;have hwz2:=hwz.symm;clear hwz;subst hwz2;cases hy:(!all||!(eqS own sg)) with
          |false=>
           have HR6:=qh (HSk.out (by rw[HLF.out,hy];rfl));clear hy;go_wp2_with fail;go_roundw
           case rel=>exact⟨x+1,vs5,by omega,by omega,by go_num,qh (by rw[HK.out];exact HR6.out),hb7⟩
           case measure=>simp[intOf];omega
          |true=>
           have Hstep:=qh (HSt.out (by rw[HLF.out,hy];rfl));clear hy;go_wp2_with fail;go_region_law (refine zah wr.drew (by rfl) (.tmp 122) (.tmp 126) 76 (by rfl) base 83 _ _ 2 24 Tryz.underlying76 zeA zeB zeC zdu rfl (by decide) (.slice A ways.length c) ways.length (zaf ways) _ _ (by simp[Act.eval,Act.put]) (by simp[Act.eval,Act.put];rfl) (by simp) (by exact Hown.out) rfl (by exact Hone.out) Hmx.out Hby.out (by exact Hbs7.out) ?_;intro v1 w4 hown1 hg1 hat1;obtain⟨g1,cap1,rfl⟩:=zak hown1 Hpos.out;obtain⟨hz1,hc3,hc4⟩:=Hzc.out _ hg1;have Hfin:=qh (Hstep.out _ _ hown1 hg1 hat1);have Hfin2:=qh (Hbel.out _ hg1 (.slice (some ⟨g1,0,none⟩) (ways.length+1) cap1));clear hown1 hg1 hat1)
           all_goals
            go_wp2_with fail;go_roundw
            case rel=>exact⟨x+1,_,by omega,by omega,by go_num,qh (by rw[HK.out];exact Hfin.out),Hfin2⟩
            case measure=>simp[intOf];omega
         ·obtain rfl:e0=x:=by omega
          have hkk:e0-i0=n:=(by rw[He0.out,Nat.add_sub_cancel_left]);rw[hkk] at h7;have c0:=h7.out.rr.rb.c0;have z0:=h7.out.rr.rb.z 0;have t1:=h7.out.t1;unfold tokV at c0;have hN7:0<(toks s 0).length-j2:=(by have:=h7.out.hi;omega);have hcp7:(toks s 0).length-j2≤cap-j2:=(by have:=h7.out.caps;omega);have Hcur:Hid (Cur s ((toks s 0).drop j2)):=qh (zaX h7.out.hi);have HA7:=qh (fun h0=>zaY (s:=s) (i:=j2) h7.out.hi h0);have HN7:Hid ((hd ((toks s 0).drop j2)).2.size≠0→2≤(toks s 0).length-j2):=qh fun h0=>by have:=zcz Hcur.out h0;simpa using this
          have HRx:=qh fun h0=>h7.out.next h0;rw[HJ2.out] at t1 Hcur HA7 HN7 HRx;have HBx:=qh (hb7.out.setCell (p:=⟨b,0,none⟩) h7.out.rr.hb (.slice (some ⟨T,j2*2+2,none⟩) ((toks s 0).length-j2-1) (cap-j2-1)));have hq7:eqS (hd (adv (adv L))).2 COMMA=((hd (adv (adv L))).2.toList==[44]):=zce _;generalize (toks s 0).length-j2=N7 at*;generalize cap-j2=C7 at*;clear hkk;cases hc:eqS (hd (adv (adv L))).2 COMMA with
          |true=>
           have hne:((hd (adv (adv L))).2.toList==[44])=true:=(by rw[←hq7,hc]);have hne2:((hd (adv (adv L))).2.toList !=[44])=false:=(by simp only[bne,hne];rfl);have hz7:(hd (adv (adv L))).2.size≠0:=fun e=>by rw[zba e] at hne;cases hne
           have Hw:=qh (zgC (f:=q) (m:=m') (i:=i0) (n:=n) (all:=all) HFe.out HL3.out HNe.out hc);have Hlt:=qh (zcX Hcur.out hc);have hN2:=HN7.out hz7;have HR8:=qh (HRx.out hz7);have HJ3:=qh (HA7.out hz7).2;have hC1:¬C7=1:=(by omega);clear hc hq7 hz7 HRx HA7 HN7;go_wp2_with fail;go_roundg q
           case measure=>omega
           case rel=>exact⟨j2+1,_,vs5,ec',ep',qh (by rw[HJ3.out];have:=hgk.out;have:=Hlt.out;have:=zaW L;have:=zaW (adv L);omega),qh (by rw[HJ3.out];exact Hw.out.symm.trans hP.out),Hm7,Hm8,HR8,HBx⟩
          |false=>
           have hne:((hd (adv (adv L))).2.toList==[44])=false:=(by rw[←hq7,hc]);have hne2:((hd (adv (adv L))).2.toList !=[44])=true:=(by simp only[bne,hne];rfl);have Hw:=qh (zgD (f:=q) (m:=m') (i:=i0) (n:=n) (all:=all) HFe.out HL3.out HNe.out hc);clear hc hq7;go_wp2_with fail;go_ret;exact RGz.good (hP.out.symm.trans Hw.out) HJ2.out hb7.out h7.out Hm7.out
       ·have Hw:=qh (zh9 (f:=q) (m:=m') (i:=i0) (n:=n) (all:=all) HFe.out HL3.out (by rw[HNe.out]) hn0);rw[if_neg hn0] at hr5;obtain⟨rfl,hr5⟩:=hr5;have HR9:=qh hr5;have HB9:=HB5;clear hr5;go_wp2_with fail;go_ret;exact RGz.err (hP.out.symm.trans Hw.out) HB9.out HR9.out
  ·have Hw:=qh (zgB (f:=q) (m:=m') (i:=i0) (n:=n) (all:=all) (by rw[HFe.out]) h0);rw[if_neg h0] at hr2;obtain⟨rfl,hr2⟩:=hr2;have H2:=qh hr2;clear hr2;go_wp2_with fail;go_ret;exact RGz.err (hP.out.symm.trans (Hw.out.trans (by rw[Htk.out]))) Hb2.out H2.out
end Go.Proofs.YtgklikkddckgbaaGreatDoor

import Derived.Test.YtgklikkddckgbaaGreatDoorHWC
/- Lemmas of the claim. -/
set_option linter.all false
namespace Go.Proofs.YtgklikkddckgbaaGreatDoor.Mo
open Go.RowKit
theorem grows_sum {S0 q N L M n m C:Int} (hq:1≤q) (hL:L=S0+N*q) (hM:M=L+q) (hC:C=S0+m*q):C-L=(m-N)*(M-L)∧(S0+n*q=L→n=N):=by
  have e:M-L=q:=by omega
  refine⟨?_,fun h=>?_⟩
  · rw[e,Int.sub_mul];omega
  · have h2:n*q=N*q:=by omega
    exact Int.eq_of_mul_eq_mul_right (by omega) h2
theorem last_in:∀{l:List Dm} {i p:Int},LinesG i p l→∀j,p≤lastZ p (l.take j)∧lastZ p (l.take j)≤p+j
  |[],i,p,_,j=>by simp[lastZ];omega
  |d::ds,i,p,h,0=>by simp[lastZ]
  |d::ds,i,p,h,j+1=>by
   have ih:=last_in h.2.2 j;have h1:=h.1;show p≤lastZ d.stz (ds.take j)∧lastZ d.stz (ds.take j)≤p+((j+1:Nat):Int);omega
theorem two_new (w:World) (A B:Array Value) (t:Nat):(((w.alloc (.cells A t)).alloc (.cells B t)).drew).heap[w.heap.size]?=some (.cells A t (0,0))∧(((w.alloc (.cells A t)).alloc (.cells B t)).drew).heap[w.heap.size+1]?=some (.cells B t (0,0))∧Below w.heap.size w (((w.alloc (.cells A t)).alloc (.cells B t)).drew):=
  ⟨(qa _ _ _ (by simp)).trans (qn w _),by
    have:=qn (w.alloc (.cells A t)) (.cells B t);rw[World.size_alloc] at this;exact this,(((qb _ _).alloc (ql _) _).alloc (by simp) _).drew⟩
theorem cmp_of {a b:Int} (h:a=b):(a==b)=true∧(a !=b)=false:=by subst h;simp
theorem cmp_ne {a b:Int} (h:a≠b):(a==b)=false∧(a !=b)=true:=by simp[h]
set_option maxRecDepth 100000 in
set_option maxHeartbeats 8000000 in
theorem grows_any (s:ByteArray) (r:Int) (w:World) (hv:Vars w) (hm:MaxV w) (hs:s.size≤4611686018427387904):
    Calls Tryz.prog 6 #[.string s,.int .i64 r] w fun e w'=>e=.returned (.bool true)∧Below w.heap.size w w':=by
  have Hw:=qh (zmA w hv hm);have Hv:=qh hv;have h9:=hv.six;have Hl:=qh (fun W=>zmC s W hs);clear hv hm;by_cases hlong:8000<s.size
  · have d1:decide (8000<s.size)=true:=qt hlong
    rw[d1] at Hl;clear d1;go_enter Tryz.func6,Tryz.ntmps6;go_wp2_with fail;refine Hw.out.mono ?_;rintro e w2 ⟨rfl,hb2⟩;have Hb2:=qh hb2;clear hb2;go_wp2_with fail;refine(Hl.out _).mono ?_;rintro e w3 ⟨rfl,rfl⟩;go_wp2_with fail;go_ret;exact⟨rfl,Hb2.out⟩
  have d1:decide (8000<s.size)=false:=qd hlong;rw[d1] at Hl;clear d1;go_enter Tryz.func6,Tryz.ntmps6;go_wp2_with fail;refine Hw.out.mono ?_;rintro e w2 ⟨rfl,hb2⟩;have Hb2:=qh hb2;have Hrd:=qh (zmB s w2 (Vars.below Hv.out hb2 h9) hs);clear hb2;go_wp2_with fail;refine(Hl.out _).mono ?_;rintro e w3 ⟨rfl,rfl⟩;go_wp2_with fail;refine Hrd.out.mono ?_;rintro e w4 ⟨hb4,hr4⟩;have Hb4:Hid (Below w.heap.size w w4):=qh (Hb2.out.trans (hb4.mono Hb2.out.size));clear hb4;cases hf:zbO s with
  |error cp=>
   rw[hf] at hr4;subst hr4;have hagg:RF0.agg=.agg #[.string ⟨#[]⟩,.slice none 0 0,.slice none 0 0,.slice none 0 0,.bool false,.int .i64 0,.int .i64 0,.int .i64 0]:=rfl;rw[hagg];have Hfin:Hid (∀o,Below w.heap.size w (w4.alloc o)):=qh (fun o=>Hb4.out.alloc Hb4.out.size o);clear hf hagg;go_wp2_with fail;go_ret;exact⟨rfl,Hfin.out _⟩
  |ok f=>
   have Hgr:=qh (formP_gr hf);rw[hf] at hr4;obtain⟨fb,vl,vm,vs,F,rfl,hm4,hk4,hf4⟩:=hr4;obtain⟨Al,cl,hvl⟩:=zab hf4.l;obtain⟨cs,hcs⟩:=hf4.m;obtain⟨Am,cm,hvm⟩:=zab hcs.o;obtain⟨Ar,cr,hvr⟩:=hf4.len;have hagg:RF.agg F=.agg #[.string ⟨f.name.toArray⟩,.slice Al f.letters.length cl,.slice Am f.metres.length cm,.slice Ar f.rows.length cr,.bool F.rd,.int .i64 f.least,.int .i64 f.most,.int .i64 f.shift]:=(by unfold RF.agg;rw[hf4.nm,hvl,hvm,hvr,hf4.a,hf4.b,hf4.c]);rw[hagg];obtain⟨W5,hW5⟩:∃W5,w4.alloc (.cells #[.string ⟨f.name.toArray⟩,.slice Al f.letters.length cl,.slice Am f.metres.length cm,.slice Ar f.rows.length cr,.bool F.rd,.int .i64 f.least,.int .i64 f.most,.int .i64 f.shift] 29)=W5:=⟨_,rfl⟩;have hb5:Below w4.heap.size w4 W5:=(by rw[←hW5];exact(qb _ _).alloc (ql _) _);have hs16:s.size≤65536:=(by omega);have Hk:=qh hk4;have HW5:=qh hW5;have Hb5:=qh (bel_on Hb4.out hb5);have HF5:=qh (hm4.below hb5);have Hrn:=qh (rounds_form w2.heap.size fb f vl vm vs W5 (hm4.below hb5));have HbF:Hid (w2.heap.size≤W5.heap.size):=qh (qm (Nat.le_of_lt (Nat.lt_of_le_of_lt hm4.hB hm4.lt)) hb5.size);clear hf hagg hm4 hk4 hf4 hcs hvl hvm hvr hW5 hb5;go_wp2_with fail;rw[HW5.out];refine Hrn.out.mono ?_;rintro e w6 ⟨rfl,hb6⟩;have Hb6:=qh (bel_on Hb5.out hb6);have HF6:=qh (HF5.out.below hb6);have l0:=Hk.out.l0;have m0:=Hk.out.m0;have lm:=Hk.out.lm;clear hb6;by_cases hr1:r<f.least
   · have g1:decide (r<f.least)=true:=qt hr1
     go_wp2_with fail;go_ret;exact⟨rfl,Hb6.out⟩
   have g1:decide (r<f.least)=false:=qd hr1;by_cases hr2:f.most<r
   · have g2:decide (r>f.most)=true:=qt hr2
     go_wp2_with fail;go_ret;exact⟨rfl,Hb6.out⟩
   have g2:decide (r>f.most)=false:=qd hr2;obtain⟨N,rfl⟩:∃N:Nat,r=(N:Int):=⟨r.toNat,by omega⟩;have HL:=qh (lines_form w2.heap.size fb f vl vm vs N s.size w6 HF6.out Hk.out hs16 (by omega) (by omega));go_wp2_with fail;clear g1 g2;refine HL.out.mono ?_;rintro e w7 ⟨hb7,v,xs,rfl,hen,hdm⟩;obtain⟨A,c,rfl⟩:=zab hdm.o;have hlen:=hen.len;have HLG:=qh (lines_good Hgr.out Hk.out N (by omega) (by omega));have hsz:((demandsP f N).length:Int)=za6 f.rows N:=demands_len f N (by omega)
   have hbd:((demandsP f N).length:Int)≤33554432:=by
     rw[hsz];have h:=zhp f.rows N (by omega) (by omega) f.rows.length (ql _);rw[List.take_length] at h;have:=Hk.out.le;omega
   have HbS:Hid (∀n:Int,0≤n→n≤512→za6 f.rows n≤33554432):=qh (fun n h0 h1=>by
     have h:=zhp f.rows n h0 h1 f.rows.length (ql _);rw[List.take_length] at h;have:=Hk.out.le;omega)
   have Hmore:=qh (fun h=>lines_more Hgr.out Hk.out N (by omega) h);rw[hlen] at hdm⊢;have Hmap:=qh hen.1;have Hb7:=qh (bel_on Hb6.out hb7);have HF7:=qh (HF6.out.below hb7);have Hsz:=qh hsz;have Hdm:=qh hdm;have HbF7:Hid (w2.heap.size≤w7.heap.size):=qh (by have:=HF7.out.hB;have:=HF7.out.lt;omega);clear hb7 hdm hen hlen hsz;generalize hds:demandsP f N=ds at*;obtain⟨n,hn⟩:∃n,ds.length=n:=⟨_,rfl⟩;have Hn:=qh hn;rw[hn] at hbd Hsz Hdm⊢;rw[hn] at Hmore;clear hn hds HL Hgr;go_wp2_with fail;go_loopw [13,14,15,16] (fun t13 t14 t15 t16 wr=>∃j:Nat,j≤n∧t14=.int .i64 j∧t13=.int .i64 (lastZ (-1) (ds.take j))∧Hid (Below w7.heap.size w7 wr)) (fun _ t14 _ _ _=>n-(intOf t14).toNat)
   case atStart=>exact⟨0,Nat.zero_le _,rfl,by simp[lastZ],qh (qb _ _)⟩
   case round=>
     rename World=>wr
     obtain⟨j,hj,rfl,rfl,hbr⟩:=hrel;by_cases hlt:j<n
     · obtain⟨g,d,Ah,ch,rfl,hg,hd,hc,hown,hfour⟩:=dms_at Hdm.out Hmap.out Hn.out hlt
       obtain⟨hgd,hst⟩:=lines_at HLG.out j d hd;have Hnx:=qh (last_take (p:= -1) hd);simp only[Int.zero_add] at hgd;have hP:=last_in HLG.out j;generalize lastZ (-1) (ds.take j)=P at*;have q:=fun o ho=>(hbr.out.cell (p:=⟨g,j*9+o,none⟩) hg).trans (hc o ho);have q0:wr.cell? ⟨g,j*9,none⟩=some (.int .i64 d.stz):=q 0 (by decide);have q1:wr.cell? ⟨g,j*9+1,none⟩=some (.int .i64 d.cls):=q 1 (by decide);have q2:wr.cell? ⟨g,j*9+2,none⟩=some (.int .i64 d.ref):=q 2 (by decide);have q3:wr.cell? ⟨g,j*9+3,none⟩=some (.int .i64 d.met):=q 3 (by decide);have q4:wr.cell? ⟨g,j*9+4,none⟩=some (.int .i64 d.syl):=q 4 (by decide);have q5:wr.cell? ⟨g,j*9+5,none⟩=some (.int .i64 d.same):=q 5 (by decide);have q6:wr.cell? ⟨g,j*9+6,none⟩=some (.int .i64 d.ends):=q 6 (by decide);have q7:wr.cell? ⟨g,j*9+7,none⟩=some (.slice Ah d.has.length ch):=q 7 (by decide);have q8:wr.cell? ⟨g,j*9+8,none⟩=some (.int .i32 d.beg):=q 8 (by decide);clear q hc;obtain⟨W8,hW8⟩:∃W8,wr.alloc (.cells #[.int .i64 d.stz,.int .i64 d.cls,.int .i64 d.ref,.int .i64 d.met,.int .i64 d.syl,.int .i64 d.same,.int .i64 d.ends,.slice Ah d.has.length ch,.int .i32 d.beg] 45)=W8:=⟨_,rfl⟩;have hb8:Below wr.heap.size wr W8:=(by rw[←hW8];exact(qb _ _).alloc (ql _) _);have hx8:W8.heap[wr.heap.size]?=some (.cells #[.int .i64 d.stz,.int .i64 d.cls,.int .i64 d.ref,.int .i64 d.met,.int .i64 d.syl,.int .i64 d.same,.int .i64 d.ends,.slice Ah d.has.length ch,.int .i32 d.beg] 45 (0,0)):=(by rw[←hW8];exact qn wr _);have HW8:=qh hW8;have Hb8:=qh (bel_on hbr.out hb8);have Hr8:=qh (zdO hown);clear hb8 hW8 hown;go_upto_region 19 with(fail)
       rw[HW8.out];generalize wr.heap.size=xb at*;clear q0 q1 q2 q3 q4 q5 q6 q7 q8;have x0:=qc _ _ 0 _ _ (0,0) hx8;have x1:=qc _ _ 1 _ _ (0,0) hx8;have x4:=qc _ _ 4 _ _ (0,0) hx8;have x5:=qc _ _ 5 _ _ (0,0) hx8;have x6:=qc _ _ 6 _ _ (0,0) hx8;have x7:=qc _ _ 7 _ _ (0,0) hx8;have s1:decide (d.same≥(j:Int))=false:=qd (by have:=hgd.s;omega);have s2:decide (d.same< -1)=false:=qd (by have:=hgd.s;omega);have s3:decide (d.ends≥(j:Int))=false:=qd (by have:=hgd.e;omega);have s4:decide (d.ends< -1)=false:=qd (by have:=hgd.e;omega);have s5:decide (d.cls< -1)=false:=qd (by have:=hgd.c;omega);have s6:decide (d.cls>24)=false:=qd (by have:=hgd.c;omega);have Hh:=qh hgd.h;have Hx8:=qh hx8;clear hgd hx8;go_cut [122] from 79 to 122 (fun v wx=>v=.bool false∧wx=W8)
       case first=>
         rcases hst with hst|hst
         · obtain⟨e1,e2⟩:=cmp_of hst
           clear hst;go_wp2_with fail;go_meet
           exact⟨rfl,rfl⟩
         · obtain⟨e1,e2⟩:=cmp_ne (show d.stz≠P by omega)
           obtain⟨e3,e4⟩:=cmp_of hst;have wP:IntKind.i64.wrap (P+1)=P+1:=qi _ (by omega);clear hst;go_wp2_with fail;go_meet
           exact⟨rfl,rfl⟩
       case rest=>
       obtain⟨rfl,rfl⟩:=hcut;clear s1 s2 s3 s4 s5 s6 hst hP;have x0':wc.cell? ⟨xb,0,none⟩=some (.int .i64 d.stz):=qc _ _ 0 _ _ (0,0) Hx8.out;have x7':wc.cell? ⟨xb,7,none⟩=some (.slice Ah d.has.length ch):=qc _ _ 7 _ _ (0,0) Hx8.out;clear x0 x1 x4 x5 x6 x7;go_wp2_with fail;obtain⟨wf,hwf⟩:∃wf:World,wf=wc:=⟨_,rfl⟩;rw[←hwf] at Hb8 Hx8 x0' x7'⊢;clear hwf;go_loopw [16] (fun q wi=>∃k:Nat,k≤d.has.length∧q=.int .i64 k∧wi=wf) (fun q _=>d.has.length-(intOf q).toNat)
       case atStart=>exact⟨0,Nat.zero_le _,rfl,rfl⟩
       case round=>
         obtain⟨k,hk,rfl,hwi⟩:=hrel;rw[hwi];clear hwi;by_cases hlk:k<d.has.length
         · obtain⟨A2,c2,e2,_,hr8⟩:=Hr8.out
           cases e2;obtain⟨gh,rfl,hgh,hch⟩:=hr8 (by omega);have hh:=Hh.out (d.has.getD k 0) (by rw[List.getD_eq_getElem?_getD,List.getElem?_eq_getElem hlk];exact qM _);have q0:=(Hb8.out.cell (p:=⟨gh,k,none⟩) hgh).trans (hch k hlk);clear hch hr8;generalize d.has.getD k 0=y at*;have y1:decide (y<0)=false:=qd (by omega);have y2:decide (y≥(j:Int))=false:=qd (by omega);clear hh;go_wp2_with fail;go_roundw
           case rel=>exact⟨k+1,by omega,by go_num,by first|rfl|trivial⟩
           case measure=>simp[intOf];omega
         · obtain rfl:k=d.has.length:=by omega
           go_wp2_with fail;go_roundw
           case rel=>exact⟨j+1,by omega,by go_num,by rw[Hnx.out],Hb8⟩
           case measure=>simp[intOf];omega
     · obtain rfl:j=n:=by omega
       have Hb8:=qh (bel_on Hb7.out hbr.out);have HF8:=qh (HF7.out.below hbr.out);have Hdm8:=qh (hbr.out);have Hfit:=qh (fit_any w2.heap.size fb f vl vm vs s.size (j:Int) wr HF8.out Hk.out hs16);generalize lastZ (-1) (ds.take j)=P;clear HF7;go_wp2_with fail;refine Hfit.out.mono ?_;rintro e w9 ⟨n9,ok,rfl,hfr,hb9⟩;obtain⟨rfl,hn1,hn2,hn3⟩:=hfr.sure (k:=(N:Int)) (by omega) (by omega) Hsz.out.symm;have Hb9:=qh (bel_on Hb8.out hb9);have HF9:=qh (HF8.out.below hb9);have Hd9:=qh (bel_on Hdm8.out hb9);have Hsize:=qh (size_form w2.heap.size fb f vl vm vs n9 s.size w9 HF9.out Hk.out hs16);rw[if_neg (by omega),hn3] at Hsize;have Hn3:=qh hn3;clear hfr hb9 hn3 Hfit HF8 Hdm8 Hb8 hbr;go_wp2_with fail;refine Hsize.out.mono ?_;rintro e w10 ⟨rfl,hb10⟩;have Hb10:=qh (bel_on Hb9.out hb10);have HF10:=qh (HF9.out.below hb10);have Hd10:=qh (bel_on Hd9.out hb10);have s1:decide (n9>(N:Int))=false:=qd (by omega);clear hb10 Hsize HF9 Hd9 Hb9;by_cases hNm:(N:Int)=f.most
       · obtain⟨e1,e2⟩:=cmp_of hNm
         clear hNm;go_wp2_with fail;go_ret;exact⟨rfl,Hb10.out⟩
       obtain⟨e1,e2⟩:=cmp_ne hNm;obtain⟨p,q,hq1,hpn,hlen2,hsame,hrel,hlin⟩:=Hmore.out (by omega);have HL2:=qh (lines_form w2.heap.size fb f vl vm vs (N+1) s.size w10 HF10.out Hk.out hs16 (by push_cast;omega) (by push_cast;omega));rw[show((N+1:Nat):Int)=(N:Int)+1 by push_cast;rfl] at HL2;have wN:IntKind.i64.wrap ((N:Int)+1)=(N:Int)+1:=qi _ (by omega);have Hm2:Hid (za6 f.rows f.most=za6 f.rows 0+f.most*(q:Int)):=qh (hlin f.most);have HN2:=qh (hlin (N:Int));have Hn9:=qh (hlin n9);rw[←Hsz.out] at HN2;rw[Hn3.out] at Hn9;have HS2:=qh (size_form w2.heap.size fb f vl vm vs ((N:Int)+1) s.size);have HS3:=qh (size_form w2.heap.size fb f vl vm vs f.most s.size)
       have Hsz2:Hid (za6 f.rows ((N:Int)+1)=((demandsP f (N+1:Nat)).length:Int)):=qh (by
         rw[demands_len f _ (by omega)];push_cast;rfl)
       have Hlen2:=qh hlen2;rw[show((N+1:Nat):Int)=(N:Int)+1 by push_cast;rfl] at Hlen2 hsame hrel Hsz2;have Hrs:=qh (And.intro hsame hrel);have hNm2:(N:Int)+1≤f.most:=(by omega);have HbC:=qh (HbS.out f.most (by omega) (by omega));have Hbm:=qh (HbS.out ((N:Int)+1) (by omega) (by omega));rw[Hsz2.out] at Hbm;clear hNm hlin Hmore hsame hrel hlen2;go_wp2_with fail;refine HL2.out.mono ?_;rintro e w11 ⟨hb11,v2,xs2,rfl,hen2,hdm2⟩;obtain⟨A2,c2,rfl⟩:=zab hdm2.o;have hlen3:=hen2.len;rw[hlen3] at hdm2⊢;have Hmap2:=qh hen2.1;have Hb11:=qh (bel_on Hb10.out hb11);have HF11:=qh (HF10.out.below hb11);have Hd11:=qh (bel_on Hd10.out hb11);have Hdm2:=qh hdm2;clear hb11 hdm2 hen2 hlen3 HL2 Hd10 HF10 Hb10;generalize hds2:demandsP f ((N:Int)+1)=ds2 at*;obtain⟨m,hm⟩:∃m,ds2.length=m:=⟨_,rfl⟩;have Hm:=qh hm;rw[hm] at Hlen2 Hsz2 Hbm Hdm2⊢;clear hm hds2;have HX2:=qh (HS2.out w11 HF11.out Hk.out hs16);rw[if_neg (by omega),Hsz2.out] at HX2;clear HS2 Hsz2;go_wp2_with fail;refine HX2.out.mono ?_;rintro e w12 ⟨rfl,hb12⟩;have Hb12:=qh (bel_on Hb11.out hb12);have HF12:=qh (HF11.out.below hb12);have Hd12:=qh (bel_on Hd11.out hb12);have Hdm3:=qh hb12;have HX3:=qh (HS3.out w12 HF12.out Hk.out hs16);rw[if_neg (by omega)] at HX3;clear HX2 HS3 HF11 Hd11 Hb11 hb12;generalize za6 f.rows f.most=C at*;generalize za6 f.rows 0=S0 at*;go_wp2_with fail;refine HX3.out.mono ?_;rintro e w13 ⟨rfl,hb13⟩;have Hb13:=qh (bel_on Hb12.out hb13);have Hd13:=qh (bel_on Hd12.out hb13);have Hdm4:=qh (bel_on Hdm3.out hb13);clear HX3 HF12 Hd12 Hb12 Hdm3 hb13;obtain⟨k1,k2⟩:=grows_sum (S0:=S0) (q:=(q:Int)) (N:=(N:Int)) (L:=(j:Int)) (M:=(m:Int)) (n:=n9) (m:=f.most) (C:=C) (by omega) HN2.out (by have:=Hlen2.out;omega) Hm2.out;have k3:=k2 Hn9.out.symm;have hbm:=Hbm.out
       have hC:C-(j:Int)≤17179869184∧0≤C-(j:Int):=by
         have h1:=HbC.out;have h2:0≤(f.most-(N:Int))*((m:Int)-(j:Int)):=Int.mul_nonneg (by omega) (by have:=Hlen2.out;omega);omega
       have hmj:(m:Int)=(j:Int)+(q:Int):=(by have:=Hlen2.out;omega);clear k2 Hm2 HN2 Hn9;obtain⟨e3,e4⟩:=cmp_of k1;obtain⟨e5,e6⟩:=cmp_of k3;have g1:decide ((m:Int)<(j:Int))=false:=qd (by omega);have g2:j≤m:=(by omega);have g3:¬m<j:=(by omega);have u1:IntKind.i64.wrap (C-(j:Int))=C-(j:Int):=qi _ (by omega);have u2:IntKind.i64.wrap (f.most-(N:Int))=f.most-(N:Int):=qi _ (by omega);have u3:IntKind.i64.wrap ((m:Int)-(j:Int))=(m:Int)-(j:Int):=qi _ (by omega);have u4:IntKind.i64.wrap ((f.most-(N:Int))*((m:Int)-(j:Int)))=(f.most-(N:Int))*((m:Int)-(j:Int)):=qi _ (by rw[←k1];omega);clear k1 k3 hC hmj;go_wp2_with fail;clear e3 e4 e5 e6 u1 u2 u3 u4 g1 g3 s1 e1 e2;go_loopw [25] (fun q25 wr=>∃k:Nat,k≤j∧q25=.int .i64 k∧Hid (Below w13.heap.size w13 wr)) (fun q25 _=>j-(intOf q25).toNat)
       case atStart=>exact⟨0,Nat.zero_le _,rfl,qh (qb _ _)⟩
       case round=>
         rename World=>wr
         obtain⟨k,hk,rfl,hbr⟩:=hrel;go_upto_region 39 with(fail)
         go_cut [256] from 242 to 256 (fun v wx=>∃b:Bool,v=.bool b∧Hid (b=true→k<j)∧Hid (b=false→p≤k)∧Hid (Below wr.heap.size wr wx))
         case first=>
           by_cases hlt:k<j
           · have hkm:k<m:=by omega
             obtain⟨gA,d,Ah,ch,rfl,hg,hd,hc,hown,hfour⟩:=dms_at Hdm.out Hmap.out Hn.out hlt;obtain⟨gB,d',Ah',ch',rfl,hg',hd',hc',hown',hfour'⟩:=dms_at Hdm2.out Hmap2.out Hm.out hkm;have hb7:=bel_on Hd13.out hbr.out;have hb11:=bel_on Hdm4.out hbr.out;have q:=fun o ho=>(hb7.cell (p:=⟨gA,k*9+o,none⟩) hg).trans (hc o ho);have q':=fun o ho=>(hb11.cell (p:=⟨gB,k*9+o,none⟩) hg').trans (hc' o ho);have p0:wr.cell? ⟨gA,k*9,none⟩=some (.int .i64 d.stz):=q 0 (by decide);have p1:wr.cell? ⟨gA,k*9+1,none⟩=some (.int .i64 d.cls):=q 1 (by decide);have p2:wr.cell? ⟨gA,k*9+2,none⟩=some (.int .i64 d.ref):=q 2 (by decide);have p3:wr.cell? ⟨gA,k*9+3,none⟩=some (.int .i64 d.met):=q 3 (by decide);have p4:wr.cell? ⟨gA,k*9+4,none⟩=some (.int .i64 d.syl):=q 4 (by decide);have p5:wr.cell? ⟨gA,k*9+5,none⟩=some (.int .i64 d.same):=q 5 (by decide);have p6:wr.cell? ⟨gA,k*9+6,none⟩=some (.int .i64 d.ends):=q 6 (by decide);have p7:wr.cell? ⟨gA,k*9+7,none⟩=some (.slice Ah d.has.length ch):=q 7 (by decide);have p8:wr.cell? ⟨gA,k*9+8,none⟩=some (.int .i32 d.beg):=q 8 (by decide);have r0:wr.cell? ⟨gB,k*9,none⟩=some (.int .i64 d'.stz):=q' 0 (by decide);have r1:wr.cell? ⟨gB,k*9+1,none⟩=some (.int .i64 d'.cls):=q' 1 (by decide);have r2:wr.cell? ⟨gB,k*9+2,none⟩=some (.int .i64 d'.ref):=q' 2 (by decide);have r3:wr.cell? ⟨gB,k*9+3,none⟩=some (.int .i64 d'.met):=q' 3 (by decide);have r4:wr.cell? ⟨gB,k*9+4,none⟩=some (.int .i64 d'.syl):=q' 4 (by decide);have r5:wr.cell? ⟨gB,k*9+5,none⟩=some (.int .i64 d'.same):=q' 5 (by decide);have r6:wr.cell? ⟨gB,k*9+6,none⟩=some (.int .i64 d'.ends):=q' 6 (by decide);have r7:wr.cell? ⟨gB,k*9+7,none⟩=some (.slice Ah' d'.has.length ch'):=q' 7 (by decide);have r8:wr.cell? ⟨gB,k*9+8,none⟩=some (.int .i32 d'.beg):=q' 8 (by decide);have hgr:gA<wr.heap.size:=Nat.lt_of_lt_of_le hg hb7.size;have hgr':gB<wr.heap.size:=Nat.lt_of_lt_of_le hg' hb11.size
             have Hsm:Hid (∀W,Below wr.heap.size wr W→Calls Tryz.prog 19 #[.agg (dmC d (.slice Ah d.has.length ch)),.agg (dmC d' (.slice Ah' d'.has.length ch'))] W fun e w'=>(∃b,e=.returned (.bool b)∧(b=false→p≤k))∧Below W.heap.size W w'):=qh (fun W hW=>by
               have k1:=KeepT.of_below [] (bel_on hb7 hW);have k2:=KeepT.of_below [] (bel_on hb11 hW);by_cases hp:k<p
               · have hdd:=Hrs.out.1 k hp
                 rw[hd,hd'] at hdd;obtain rfl:=Option.some.inj hdd;refine(same_any _ _ d _ _ W (own_kT hown k1 (by simp)) (own_kT hown' k2 (by simp)) hfour).mono ?_;rintro e w' ⟨rfl,h⟩;exact⟨⟨true,rfl,fun e=>(by cases e)⟩,h⟩
               · refine(same_some _ _ d d' _ _ W (own_kT hown k1 (by simp)) (own_kT hown' k2 (by simp)) hfour).mono ?_
                 rintro e w' ⟨⟨b,rfl⟩,h⟩;exact⟨⟨b,rfl,fun _=>by omega⟩,h⟩)
             simp only[dmC] at Hsm;have i1:decide ((k:Int)<(j:Int))=true:=qt (by omega);clear q q' hc hc' hown hown' hd hd' hfour hfour' hb7 hb11;go_wp2_with fail;go_region_held3 (fun w'=>Below wr.heap.size wr w'∧∀b o,b<wr.heap.size→w'.cell? ⟨b,o,none⟩=wr.cell? ⟨b,o,none⟩) (((repeat (apply ze2;assumption));exact startS)) (first|(go_at_call 19;refine(Hsm.out _ (by first|exact startS.1|exact And.left (by assumption))).mono ?_;rintro e w9 ⟨⟨b9,rfl,hb9'⟩,hb9⟩))
             have hS9:Below wr.heap.size wr w9:=And.left (by assumption);have HS9:=qh hS9;clear Hsm hb9 hS9;go_wp2_with fail;go_meet
             exact⟨b9,rfl,qh (fun _=>hlt),qh hb9',HS9⟩
           · have i1:decide ((k:Int)<(j:Int))=false:=qd (by omega)
             have HP:=qh (show p≤k by omega);have HD:=qh (fun n=>zc3 (qb wr.heap.size wr) n);go_wp2_with fail;go_quiet (fail)
             go_wp2_with fail;go_meet
             exact⟨false,rfl,qh (fun e=>(by cases e)),qh (fun _=>HP.out),qh (HD.out _)⟩
         case rest=>
         obtain⟨b,rfl,hc1,hc2,hc3⟩:=hcut;have Hbc:=qh (bel_on hbr.out hc3.out);clear hc3 hbr;cases b with
         |true=>
          have hkj:=hc1.out rfl;clear hc1 hc2;go_wp2_with fail;go_roundw
          case rel=>exact⟨k+1,by omega,by go_num,Hbc⟩
          case measure=>simp[intOf];omega
         |false=>
          have hpk:=hc2.out rfl;clear hc1 hc2;go_wp2_with fail;obtain⟨wl,hwl⟩:∃wl:World,wl=wc:=⟨_,rfl⟩;rw[←hwl] at Hbc⊢;clear hwl;go_loopw [26,27,28] (fun q26 q27 q28 wi=>∃i:Nat,p≤i∧i≤j∧q26=.int .i64 i∧Hid (Below w13.heap.size w13 wi)) (fun q26 _ _ _=>j-(intOf q26).toNat)
          case atStart=>exact⟨k,hpk,hk,rfl,Hbc⟩
          case round=>
            rename World=>wi
            obtain⟨i,hpi,hij,rfl,hbi⟩:=hrel;by_cases hlt:i<j
            · have hm3:=Hlen2.out
              have him:i+q<m:=(by omega);obtain⟨gA,d,Ah,ch,rfl,hg,hd,hc,hown,hfour⟩:=dms_at Hdm.out Hmap.out Hn.out hlt;obtain⟨gB,d',Ah',ch',rfl,hg',hd',hc',hown',hfour'⟩:=dms_at Hdm2.out Hmap2.out Hm.out him;obtain⟨d2,hd2,hz,hs2,hm2,hb2⟩:=Hrs.out.2 i d hpi hd;obtain rfl:d'=d2:=Option.some.inj (hd'.symm.trans hd2);have hb7:=bel_on Hd13.out hbi.out;have hb11:=bel_on Hdm4.out hbi.out;have hP:=last_in HLG.out i;have hst:=(lines_at HLG.out i d hd).2;have q0:=fun o ho=>(hb7.cell (p:=⟨gA,i*9+o,none⟩) hg).trans (hc o ho);have q0':=fun o ho=>(hb11.cell (p:=⟨gB,(i+q)*9+o,none⟩) hg').trans (hc' o ho);have p0:wi.cell? ⟨gA,i*9,none⟩=some (.int .i64 d.stz):=q0 0 (by decide);have p1:wi.cell? ⟨gA,i*9+1,none⟩=some (.int .i64 d.cls):=q0 1 (by decide);have p2:wi.cell? ⟨gA,i*9+2,none⟩=some (.int .i64 d.ref):=q0 2 (by decide);have p3:wi.cell? ⟨gA,i*9+3,none⟩=some (.int .i64 d.met):=q0 3 (by decide);have p4:wi.cell? ⟨gA,i*9+4,none⟩=some (.int .i64 d.syl):=q0 4 (by decide);have p5:wi.cell? ⟨gA,i*9+5,none⟩=some (.int .i64 d.same):=q0 5 (by decide);have p6:wi.cell? ⟨gA,i*9+6,none⟩=some (.int .i64 d.ends):=q0 6 (by decide);have p7:wi.cell? ⟨gA,i*9+7,none⟩=some (.slice Ah d.has.length ch):=q0 7 (by decide);have p8:wi.cell? ⟨gA,i*9+8,none⟩=some (.int .i32 d.beg):=q0 8 (by decide);have r0:wi.cell? ⟨gB,(i+q)*9,none⟩=some (.int .i64 d'.stz):=q0' 0 (by decide);have r1:wi.cell? ⟨gB,(i+q)*9+1,none⟩=some (.int .i64 d'.cls):=q0' 1 (by decide);have r2:wi.cell? ⟨gB,(i+q)*9+2,none⟩=some (.int .i64 d'.ref):=q0' 2 (by decide);have r3:wi.cell? ⟨gB,(i+q)*9+3,none⟩=some (.int .i64 d'.met):=q0' 3 (by decide);have r4:wi.cell? ⟨gB,(i+q)*9+4,none⟩=some (.int .i64 d'.syl):=q0' 4 (by decide);have r5:wi.cell? ⟨gB,(i+q)*9+5,none⟩=some (.int .i64 d'.same):=q0' 5 (by decide);have r6:wi.cell? ⟨gB,(i+q)*9+6,none⟩=some (.int .i64 d'.ends):=q0' 6 (by decide);have r7:wi.cell? ⟨gB,(i+q)*9+7,none⟩=some (.slice Ah' d'.has.length ch'):=q0' 7 (by decide);have r8:wi.cell? ⟨gB,(i+q)*9+8,none⟩=some (.int .i32 d'.beg):=q0' 8 (by decide);have hgr:gA<wi.heap.size:=Nat.lt_of_lt_of_le hg hb7.size;have hgr':gB<wi.heap.size:=Nat.lt_of_lt_of_le hg' hb11.size;have Hzz:=qh hz;have Hss:=qh hs2;have Hmm:=qh hm2;have Hbb:=qh hb2;have hzb:-1≤d.stz∧d.stz≤33554432:=(by omega);have Hbw:=qh (bel_on Hb13.out hbi.out);clear q0 q0' hc hc' hown hown' hd hd' hd2 hfour hfour' hb7 hb11 hz hs2 hm2 hb2 hP hst;have i1:decide ((i:Int)<(j:Int))=true:=qt (by omega);have v1:IntKind.i64.wrap ((i:Int)+(m:Int))=(i:Int)+(m:Int):=qi _ (by omega)
              have v2:IntKind.i64.wrap ((i:Int)+(m:Int)-(j:Int))=((i+q:Nat):Int):=by
                rw[IntWalk.i64_in _ (by omega)];omega
              clear hm3;go_upto_region 44 with(fail)
              go_cut [27,28] from 266 to 278 (fun v27 v28 wx=>∃a b:Nat,v27=.pointer (some ⟨a,0,none⟩)∧v28=.pointer (some ⟨b,0,none⟩)∧Hid (wx.heap[a]?=some (.cells #[.int .i64 d.stz,.int .i64 d.cls,.int .i64 d.ref,.int .i64 d.met,.int .i64 d.syl,.int .i64 d.same,.int .i64 d.ends,.slice Ah d.has.length ch,.int .i32 d.beg] 45 (0,0)))∧Hid (wx.heap[b]?=some (.cells #[.int .i64 d'.stz,.int .i64 d'.cls,.int .i64 d'.ref,.int .i64 d'.met,.int .i64 d'.syl,.int .i64 d'.same,.int .i64 d'.ends,.slice Ah' d'.has.length ch',.int .i32 d'.beg] 45 (0,0)))∧Hid (Below wi.heap.size wi wx))
              case first=>
                go_region
                · go_wp2_with fail
                  go_meet
                  obtain⟨t1,t2,t3⟩:=two_new wi #[.int .i64 d.stz,.int .i64 d.cls,.int .i64 d.ref,.int .i64 d.met,.int .i64 d.syl,.int .i64 d.same,.int .i64 d.ends,.slice Ah d.has.length ch,.int .i32 d.beg] #[.int .i64 d'.stz,.int .i64 d'.cls,.int .i64 d'.ref,.int .i64 d'.met,.int .i64 d'.syl,.int .i64 d'.same,.int .i64 d'.ends,.slice Ah' d'.has.length ch',.int .i32 d'.beg] 45;exact⟨_,_,rfl,rfl,qh t1,qh t2,qh t3⟩
                · go_wp2_with fail
                  go_meet
                  obtain⟨t1,t2,t3⟩:=two_new wi #[.int .i64 d'.stz,.int .i64 d'.cls,.int .i64 d'.ref,.int .i64 d'.met,.int .i64 d'.syl,.int .i64 d'.same,.int .i64 d'.ends,.slice Ah' d'.has.length ch',.int .i32 d'.beg] #[.int .i64 d.stz,.int .i64 d.cls,.int .i64 d.ref,.int .i64 d.met,.int .i64 d.syl,.int .i64 d.same,.int .i64 d.ends,.slice Ah d.has.length ch,.int .i32 d.beg] 45;exact⟨_,_,rfl,rfl,qh t2,qh t1,qh t3⟩
              case rest=>
              obtain⟨a,b,rfl,rfl,ha,hb,hb3⟩:=hcut;have x0:=qc _ _ 0 _ _ (0,0) ha.out;have x3:=qc _ _ 3 _ _ (0,0) ha.out;have x4:=qc _ _ 4 _ _ (0,0) ha.out;have x8:=qc _ _ 8 _ _ (0,0) ha.out;have y0:=qc _ _ 0 _ _ (0,0) hb.out;have y3:=qc _ _ 3 _ _ (0,0) hb.out;have y4:=qc _ _ 4 _ _ (0,0) hb.out;have y8:=qc _ _ 8 _ _ (0,0) hb.out;obtain⟨f1,f2⟩:=cmp_of Hzz.out;obtain⟨f3,f4⟩:=cmp_of Hss.out;obtain⟨f5,f6⟩:=cmp_of Hmm.out;obtain⟨f7,f8⟩:=cmp_of Hbb.out;have v3:IntKind.i64.wrap (d.stz+1)=d.stz+1:=qi _ (by omega);have HB9:=qh (bel_on hbi.out hb3.out);clear ha hb hb3 hbi p0 p1 p2 p3 p4 p5 p6 p7 p8 r0 r1 r2 r3 r4 r5 r6 r7 r8 v1 v2;go_wp2_with fail;go_roundw
              case rel=>exact⟨i+1,by omega,by omega,by go_num,HB9⟩
              case measure=>simp[intOf];omega
            · obtain rfl:i=j:=by omega
              have Hf:=qh (bel_on Hb13.out hbi.out);go_wp2_with fail;go_ret;exact⟨rfl,Hf.out⟩
end Go.Proofs.YtgklikkddckgbaaGreatDoor.Mo

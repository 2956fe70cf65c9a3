import Derived.Test.YtgklikkddckgbaaGreatDoorLZP
import Derived.Test.YtgklikkddckgbaaGreatDoorLEA
import Derived.Test.YtgklikkddckgbaaGreatDoorLZM
import Derived.Deep.CutRange
import Derived.Deep.RegionHeld3
/- Lemmas. -/
set_option linter.all false
set_option maxRecDepth 100000
set_option maxHeartbeats 16000000
namespace Go.Proofs.YtgklikkddckgbaaGreatDoor.Mo
open Go.RowKit
attribute [local go_sem] jd
theorem bl4 {A W2 W3:World} (h:Below A.heap.size A W2) (h2:Below W2.heap.size W2 W3):Below A.heap.size A W3:=h.trans (h2.mono h.size)
theorem rw4 {w w':World} {b:Nat} {o:Obj} (h:w.heap[b]?=some o) (hb:Below w.heap.size w w'):w'.heap[b]?=some o:=(hb.block b (qg h).1).trans h
theorem zoc (m:Met):vC m m=true:=by
  unfold vC uR Yw;simp
theorem ztF (fb:Nat) (x:ByteArray) (w:World) (hc:w.cell? ⟨fb,0,none⟩=some (.string x)):
    Calls Tryz.prog 31 #[.pointer (some ⟨fb,0,none⟩)] w λe w'=>e=.returned (.string x)/\Below w.heap.size w w':=by
  go_enter Tryz.func31,Tryz.ntmps31;go_wp2_with fail;go_ret;exact⟨rfl,qb _ _⟩
theorem zpW (fb:Nat) (a b:Int) (w:World) (c5:w.cell? ⟨fb,5,none⟩=some (.int .i64 a)) (c6:w.cell? ⟨fb,6,none⟩=some (.int .i64 b)):
    Calls Tryz.prog 22 #[.pointer (some ⟨fb,0,none⟩)] w λe w'=>e=.returned (.tuple #[.int .i64 a,.int .i64 b])/\Below w.heap.size w w':=by
  go_enter Tryz.func22,Tryz.ntmps22;go_wp2_with fail;go_region;go_wp2_with fail;go_ret2;exact⟨rfl,(qb _ _).drew⟩
theorem Ue (s:ByteArray) (w:World) (hv:Vars w) (hm:zrI w) (hs:s.size<=4611686018427387904):
    Calls Tryz.prog 9 #[.string s] w λe w'=>e=.returned (.bool true)/\Below w.heap.size w w':=by
  have Hw:=qh (zmA w hv hm);have Hv:=qh hv;have h9:=hv.six;have Hl:=qh (λW=>zmC s W hs);clear hv hm;by_cases hlong:8000<s.size
  · have d1:decide (8000<s.size)=true:=qt hlong
    rw[d1] at Hl;clear d1;go_enter Tryz.func9,Tryz.ntmps9;go_wp2_with fail;refine Hw.out.mono ?_;rintro e w2 ⟨rfl,hb2⟩;have Hb2:=qh hb2;clear hb2;go_wp2_with fail;refine(Hl.out _).mono ?_;rintro e w3 ⟨rfl,rfl⟩;go_wp2_with fail;go_ret;exact⟨rfl,Hb2.out⟩
  have d1:decide (8000<s.size)=false:=qd hlong;rw[d1] at Hl;clear d1;go_enter Tryz.func9,Tryz.ntmps9;go_wp2_with fail;refine Hw.out.mono ?_;rintro e w2 ⟨rfl,hb2⟩;have Hb2:=qh hb2;have Hrd:=qh (zmB s w2 (Vars.below Hv.out hb2 h9) hs);clear hb2;go_wp2_with fail;refine(Hl.out _).mono ?_;rintro e w3 ⟨rfl,rfl⟩;go_wp2_with fail;refine Hrd.out.mono ?_;rintro e w4 ⟨hb4,hr4⟩;have Hb4:Hid (Below w.heap.size w w4):=qh (Hb2.out.trans (hb4.mono Hb2.out.size));clear hb4;cases hf:Kz s with
  |error cp=>
   rw[hf] at hr4;subst hr4;have hagg:RF0.agg=.agg #[.string ⟨#[]⟩,.slice none 0 0,.slice none 0 0,.slice none 0 0,.bool false,.int .i64 0,.int .i64 0,.int .i64 0]:=rfl;rw[hagg];have gT:Hid (∀o,Below w.heap.size w (w4.alloc o)):=qh (λo=>Hb4.out.alloc Hb4.out.size o);clear hf hagg;go_wp2_with fail;go_ret;exact⟨rfl,gT.out _⟩
  |ok f=>
   have XK:=qh (zo7 hf);have JG:=qh (zpx hf);rw[hf] at hr4;obtain⟨fb,vl,vm,vs,F,rfl,VV,hk4,hf4⟩:=hr4;obtain⟨Al,cl,hvl⟩:=pJ hf4.l;obtain⟨cs,hcs⟩:=hf4.m;obtain⟨Am,cm,XN,hat⟩:=hcs.at JG.out.1.met;obtain⟨Ar,cr,Zg⟩:=hf4.len;have hagg:RF.agg F=.agg #[.string ⟨f.name.toArray⟩,.slice Al f.gN.length cl,.slice Am f.gQ.length cm,.slice Ar f.rows.length cr,.bool F.rd,.int .i64 f.least,.int .i64 f.most,.int .i64 f.shift]:=(by unfold RF.agg;rw[hf4.nm,hvl,XN,Zg,hf4.a,hf4.b,hf4.c]);rw[hagg];obtain⟨W5,QJ⟩:∃W5,w4.alloc (.cells #[.string ⟨f.name.toArray⟩,.slice Al f.gN.length cl,.slice Am f.gQ.length cm,.slice Ar f.rows.length cr,.bool F.rd,.int .i64 f.least,.int .i64 f.most,.int .i64 f.shift] 29)=W5:=⟨_,rfl⟩;have hb5:Below w4.heap.size w4 W5:=(by rw[<-QJ];exact(qb _ _).alloc (ql _) _);have hx5:W5.heap[w4.heap.size]?=some (.cells #[.string ⟨f.name.toArray⟩,.slice Al f.gN.length cl,.slice Am f.gQ.length cm,.slice Ar f.rows.length cr,.bool F.rd,.int .i64 f.least,.int .i64 f.most,.int .i64 f.shift] 29 (0,0)):=(by rw[<-QJ];exact qn w4 _);have zrN:s.size<=65536:=(by omega);have hmn:f.gQ.length<=65536:=(by have:=hk4.ll;omega);have HF5:=VV.below hb5;have HR5:=hf4.below hb5
   have Hat5:=qh (λk hk=>(by
     obtain⟨g,e,hg,Af,Ae,Ab,cf,ce,cb,h0,h1,h2,h3,_⟩:=hat k hk;exact⟨g,e,qD hg hb5.size,Af,Ae,Ab,cf,ce,cb,(hb5.cell (p:=⟨g,_,none⟩) hg).trans h0,(hb5.cell (p:=⟨g,_,none⟩) hg).trans h1,(hb5.cell (p:=⟨g,_,none⟩) hg).trans h2,h3.on hb5⟩:∃g,Am=some ⟨g,0,none⟩/\g<W5.heap.size/\∃Af Ae Ab cf ce cb,W5.cell? ⟨g,k*3,none⟩=some (.slice Af (f.gQ.getD k yO).gO.length cf)/\W5.cell? ⟨g,k*3+1,none⟩=some (.slice Ae (f.gQ.getD k yO).ends.length ce)/\W5.cell? ⟨g,k*3+2,none⟩=some (.slice Ab (f.gQ.getD k yO).gS.length cb)/\pW W5 W5.heap.size Af Ae Ab cf ce cb (f.gQ.getD k yO)))
   have HW5:=qh QJ;have Hx5:=qh hx5;have Hb5:=qh (bl4 Hb4.out hb5);have HF:=qh HF5;have Hk:=qh hk4;have hc5:=HF5.cells.2.2.2.2.2.1;have hc6:=HF5.cells.2.2.2.2.2.2.1;have hc0:W5.cell? ⟨fb,0,none⟩=some (.string ⟨f.name.toArray⟩):=qc _ _ 0 _ _ (0,0) HF5.x;have Hro:=qh (zpW fb f.least f.most W5 hc5 hc6);have VD:=qh (λW (hW:Below W5.heap.size W5 W)=>Vars.below Hv.out (bl4 Hb5.out hW) h9)
   have Hp:=qh (λW (hW:Below W5.heap.size W5 W)=>(zoB w2.heap.size fb f vl vm vs s.size s W (VD.out W hW) (HF5.below hW) hk4 zrN JG.out.1 zrN).mono (R':=λe w'=>e=.returned (.string ⟨(gn f).toArray⟩)/\Below W.heap.size W w') (by
     rintro e w' ⟨T,rfl,hT,hb⟩;rw[show T=⟨(gn f).toArray⟩ from by apply kN;apply xh.1;rw[hT]];exact⟨rfl,hb⟩))
   have Hr:=qh (λW (hW:Below W5.heap.size W5 W)=>(zoE w2.heap.size f F s.size s W (VD.out W hW) (HR5.below hW) hk4 zrN XK.out JG.out.1 zrN).mono (R':=λe w'=>e=.returned (.string ⟨(gn f).toArray⟩)/\Below W.heap.size W w') (by
     rintro e w' ⟨T,rfl,hT,hb⟩;rw[show T=⟨(gn f).toArray⟩ from by apply kN;apply xh.1;rw[hT]];exact⟨rfl,hb⟩))
   have Hn:=qh (λW (hW:Below W5.heap.size W5 W)=>ztF fb ⟨f.name.toArray⟩ W ((hW.cell (p:=⟨fb,0,none⟩) HF5.lt).trans hc0));have p8:=qh (λW (hW:Below W5.heap.size W5 W)=>zoF w2.heap.size fb f vl vm vs W (HF5.below hW) JG.out.1.met hmn);rw[hagg] at Hr;have q0:=qc _ _ 0 _ _ (0,0) hx5;generalize (⟨f.name.toArray⟩:ByteArray)=NM at*;generalize (⟨(gn f).toArray⟩:ByteArray)=TX at*;clear hf hagg VV hk4 hf4 hcs hvl XN Zg QJ hb5 HF5 HR5 hc5 hc6 hc0 hat q0 hx5;go_wp2_with fail;rw[HW5.out];refine Hro.out.mono ?_;rintro e w6 ⟨rfl,hb6⟩;have XM:=qh hb6;clear hb6;go_wp2_with fail;refine(p8.out w6 XM.out).mono ?_;rintro e w7 ⟨v7,cs7,us7,lo7,rfl,hM7,QW⟩;obtain⟨A7,c7,rfl⟩:=pJ hM7.o;have Hb7:=qh (bl4 XM.out QW);have HM7:=qh hM7;have HB7:=qh QW;have hx7:=rw4 Hx5.out Hb7.out;have q0:=qc _ _ 0 _ _ (0,0) hx7;have q1:=qc _ _ 1 _ _ (0,0) hx7;have q2:=qc _ _ 2 _ _ (0,0) hx7;have q3:=qc _ _ 3 _ _ (0,0) hx7;have q4:=qc _ _ 4 _ _ (0,0) hx7;have q5:=qc _ _ 5 _ _ (0,0) hx7;have q6:=qc _ _ 6 _ _ (0,0) hx7;have q7:=qc _ _ 7 _ _ (0,0) hx7;have hl7:w4.heap.size<w7.heap.size:=(qg hx7).1;have Hp7:=qh (λW (h:Below w7.heap.size w7 W)=>Hp.out W (bl4 Hb7.out h));have Hr7:=qh (λW (h:Below w7.heap.size w7 W)=>Hr.out W (bl4 Hb7.out h));have Hn7:=qh (λW (h:Below w7.heap.size w7 W)=>Hn.out W (bl4 Hb7.out h));have hq1:(TX.toList !=TX.toList)=false:=(by simp);have hq2:(NM.toList !=NM.toList)=false:=(by simp);have hq3:(TX.toList==TX.toList)=true:=(by simp);have hq4:(NM.toList==NM.toList)=true:=(by simp);clear hx7 hM7 QW;go_upto_region 10 with(fail)
   go_region_held3 (λw'=>Below w7.heap.size w7 w'/\∀b o,b<w7.heap.size->w'.cell? ⟨b,o,none⟩=w7.cell? ⟨b,o,none⟩) (((repeat (apply JK;assumption));exact pa)) (first|(go_at_call 29;refine(Hp7.out _ (by first|exact pa.1|exact qZ (by assumption))).mono ?_;rintro e w9 ⟨rfl,pb⟩)|(go_at_call 30;refine(Hr7.out _ (by first|exact pa.1|exact qZ (by assumption))).mono ?_;rintro e w9 ⟨rfl,pb⟩)|(go_at_call 31;refine(Hn7.out _ (by first|exact pa.1|exact qZ (by assumption))).mono ?_;rintro e w9 ⟨rfl,pb⟩))
   all_goals
     rename_i hHeld;have hS:=hHeld.1;have HI0:Hid (Yx w6.heap.size 0 f.gQ (.slice A7 f.gQ.length c7) cs7 us7 lo7 w6 _):=qh ((Yx.start HM7.out HB7.out).below (by have:=HB7.out.size;omega) hS);clear hHeld hS q0 q1 q2 q3 q4 q5 q6 q7;go_wp2_with fail;go_loopw [10,11,12,13,14] (λt10 t11 t12 t13 t14 wr=>∃i:Nat,t10=.int .i64 i/\i<=f.gQ.length/\Hid (Yx w6.heap.size i f.gQ (.slice A7 f.gQ.length c7) cs7 us7 lo7 w6 wr)) (λt10 _ _ _ _ _=>f.gQ.length-(intOf t10).toNat)
     case atStart=>exact⟨0,rfl,qF _,HI0⟩
     case round=>
       obtain⟨wi,hwi⟩:∃W:World,W=wr:=⟨_,rfl⟩;subst hwi;obtain⟨i,rfl,hle,hI⟩:=hrel;have hBi:=hI.out.b;have hxi:wi.heap[w4.heap.size]?=_:=(hBi.block _ (qD (qg Hx5.out).1 XM.out.size)).trans (rw4 Hx5.out XM.out);have q2:=qc _ _ 2 _ _ (0,0) hxi;by_cases hlt:i<f.gQ.length
       · have hmi:vp (f.gQ.getD i yO)=true:=JG.out.1.met _ (by rw[qj,qz hlt];exact qM hlt)
         obtain⟨m,g,c,Af,Ae,Ab,cf,ce,cb,zs,Q,hmm,hv7,hgl,hMi,hQ,hQ0,hQn,k0,k1,k2⟩:=hI.out.q HM7.out.nn hlt hmi HM7.out.low HM7.out.up;obtain⟨g2,rfl,hg2,Cf,Ce,Cb,kf,ke,kb,r0,r1,r2,hR2⟩:=Hat5.out i hlt;have hBw:Below W5.heap.size W5 wi:=XM.out.trans (hBi.mono XM.out.size);have r0':=(hBw.cell (p:=⟨g2,i*3,none⟩) hg2).trans r0;have r1':=(hBw.cell (p:=⟨g2,i*3+1,none⟩) hg2).trans r1;have r2':=(hBw.cell (p:=⟨g2,i*3+2,none⟩) hg2).trans r2;have zqh:=hR2.on hBw;have hg2i:g2<wi.heap.size:=qD hg2 hBw.size;have hbx:w4.heap.size<wi.heap.size:=(qg hxi).1;rw[hmm] at r0' r1' r2' zqh;rw[hmm] at hmi;have hpr:=znr hmi;have hfe:m.gO.length<=65536:=(by have:=hpr.gO;omega);have hee:m.ends.length<=65536:=(by have:=hpr.zqd;omega);have hbe:m.gS.length<=65536:=(by have:=hpr.zqe;omega);have Hpw:=qh hpr.few;clear hpr
         have Heq:=qh (λW (hW:Below wi.heap.size wi W)=>(gd Af Ae Ab cf ce cb m Cf Ce Cb kf ke kb m W (hMi.on hW) (zqh.on hW)).mono (R':=λe w'=>e=.returned (.bool true)/\Below W.heap.size W w') (by
           rintro e w' ⟨rfl,hb⟩;rw[zoc];exact⟨rfl,hb⟩))
         have HQ:=qh hQ;have HQ0:=qh hQ0;have HQn:=qh hQn;cases hv7;have i1:(0:Int)<=(i:Int):=(by omega);have i2:(i:Int)<(f.gQ.length:Int):=(by omega);have HSb:=qh (λ(W':World) (hb:Below wi.heap.size wi W')=>hQ0 W' (hI.out.below (by have:=HB7.out.size;have:=hBi.size;omega) hb));clear hQ hQ0 hQn r0 r1 r2 hR2 zqh hMi hmm hmi hI hBi;generalize f.gQ.length=NN at*;go_upto_region 15 with(fail)
         go_region_held3 (λw'=>Below wi.heap.size wi w'/\∀b o,b<wi.heap.size->w'.cell? ⟨b,o,none⟩=wi.cell? ⟨b,o,none⟩) (((repeat (apply JK;assumption));exact pa)) (first|(go_at_call 34;refine(Heq.out _ (by first|exact pa.1|exact qZ (by assumption))).mono ?_;rintro e w9 ⟨rfl,pb⟩))
         all_goals
           rename_i hHeld;have hS:=hHeld.1;have HQ1:=qh (HSb.out _ hS);clear hHeld hS q2 r0' r1' r2' k0 k1 k2 HSb hBw;go_wp2_with fail;go_loopw [11,12] (λt11 t12 wr=>∃k:Nat,t11=.int .i64 k/\k<=m.gO.length/\Hid (Q wr)) (λt11 _ _=>m.gO.length-(intOf t11).toNat)
           case atStart=>exact⟨0,rfl,qF _,HQ1⟩
           case round=>
             obtain⟨wi2,hwi⟩:∃W:World,W=wr:=⟨_,rfl⟩;subst hwi;obtain⟨k,rfl,hlk,hq⟩:=hrel;obtain⟨k0,k1,k2⟩:=HQ.out.cell _ hq.out;by_cases hk:k<m.gO.length
             · obtain⟨gf,rfl,⟨u0,hu0⟩,hw0,hz0,YW⟩:=HQ.out.own _ hq.out k hk
               have hq2:=YW (.string ⟨#[115,112,111,105,108,116]⟩);have Hq2:=qh hq2;have j1:(0:Int)<=(k:Int):=(by omega);have j2:(k:Int)<(m.gO.length:Int):=(by omega);clear YW hq2;go_upto_region 21 with(fail)
               clear k0 k1 k2 hu0 hw0 hz0;go_wp2_with fail;obtain⟨Aw,cw,hzs⟩:=HQ.out.wayL k hk;have Hzs:=qh hzs;clear hzs;go_loopw [12] (λt12 wr=>∃j:Nat,t12=.int .i64 j/\j<=(m.gO.getD k default).gR.length/\Hid (Q wr)) (λt12 _=>(m.gO.getD k default).gR.length-(intOf t12).toNat)
               case atStart=>exact⟨0,rfl,qF _,Hq2⟩
               case round=>
                 obtain⟨wi3,hwi⟩:∃W:World,W=wr:=⟨_,rfl⟩;subst hwi;obtain⟨j,rfl,hlj,hqj⟩:=hrel;obtain⟨k0,k1,k2⟩:=HQ.out.cell _ hqj.out;obtain⟨gf',hgf,_,hw0,_,_⟩:=HQ.out.own _ hqj.out k hk;cases hgf;have hwl:(m.gO.getD k default).gR.length<=65536:=(by have:=Hpw.out k hk;omega);by_cases hj:j<(m.gO.getD k default).gR.length
                 · obtain⟨gw,cw2,hzs,⟨u1,hu1⟩,hz1,YW⟩:=HQ.out.way _ hqj.out k j hk hj
                   rw[hzs] at hw0;have Hq3:=qh (YW (.int .i64 (-9)));have l1:(0:Int)<=(j:Int):=(by omega);have l2:(j:Int)<((m.gO.getD k default).gR.length:Int):=(by omega);clear YW hzs;generalize (m.gO.getD k default).gR.length=NW at*;go_wp2_with fail;go_roundw
                   case rel=>exact⟨j+1,by go_num,by omega,Hq3⟩
                   case measure=>simp[intOf];omega
                 · obtain rfl:j=(m.gO.getD k default).gR.length:=by omega
                   rw[Hzs.out] at hw0;have Hqj:=qh hqj.out;go_wp2_with fail;go_roundw
                   case rel=>exact⟨k+1,by go_num,by omega,Hqj⟩
                   case measure=>simp[intOf];omega
             · obtain rfl:k=m.gO.length:=by omega
               have Hq4:=qh hq.out;go_wp2_with fail;clear k0 k1 k2;go_loopw [13] (λt13 wr=>∃k:Nat,t13=.int .i64 k/\k<=m.ends.length/\Hid (Q wr)) (λt13 _=>m.ends.length-(intOf t13).toNat)
               case atStart=>exact⟨0,rfl,qF _,Hq4⟩
               case round=>
                 obtain⟨wi4,hwi⟩:∃W:World,W=wr:=⟨_,rfl⟩;subst hwi;obtain⟨k,rfl,hlk,hq⟩:=hrel;obtain⟨k0,k1,k2⟩:=HQ.out.cell _ hq.out;by_cases hk:k<m.ends.length
                 · obtain⟨ge,rfl,⟨u0,hu0⟩,hz0,YW⟩:=HQ.out.ztm _ hq.out k hk
                   have Hq2:=qh (YW (.int .i64 (-9)));have j1:(0:Int)<=(k:Int):=(by omega);have j2:(k:Int)<(m.ends.length:Int):=(by omega);clear YW;go_wp2_with fail;go_roundw
                   case rel=>exact⟨k+1,by go_num,by omega,Hq2⟩
                   case measure=>simp[intOf];omega
                 · obtain rfl:k=m.ends.length:=by omega
                   have Hq5:=qh hq.out;go_wp2_with fail;clear k0 k1 k2;go_loopw [14] (λt14 wr=>∃k:Nat,t14=.int .i64 k/\k<=m.gS.length/\Hid (Q wr)) (λt14 _=>m.gS.length-(intOf t14).toNat)
                   case atStart=>exact⟨0,rfl,qF _,Hq5⟩
                   case round=>
                     obtain⟨wi5,hwi⟩:∃W:World,W=wr:=⟨_,rfl⟩;subst hwi;obtain⟨k,rfl,hlk,hq⟩:=hrel;obtain⟨k0,k1,k2⟩:=HQ.out.cell _ hq.out;by_cases hk:k<m.gS.length
                     · obtain⟨ge,rfl,⟨u0,hu0⟩,hz0,YW⟩:=HQ.out.ztn _ hq.out k hk
                       have Hq2:=qh (YW (.int .i64 (-9)));have j1:(0:Int)<=(k:Int):=(by omega);have j2:(k:Int)<(m.gS.length:Int):=(by omega);clear YW;go_wp2_with fail;go_roundw
                       case rel=>exact⟨k+1,by go_num,by omega,Hq2⟩
                       case measure=>simp[intOf];omega
                     · obtain rfl:k=m.gS.length:=by omega
                       have Hq6:=qh (HQn.out _ hq.out);go_wp2_with fail;go_roundw
                       case rel=>exact⟨i+1,by go_num,by omega,Hq6⟩
                       case measure=>simp[intOf];omega
       · obtain rfl:i=f.gQ.length:=by omega
         have hBw:Below W5.heap.size W5 wi:=XM.out.trans (hBi.mono XM.out.size);have HBw:=qh hBw;clear hBi hxi q2 hBw;go_upto_region 33 with(fail)
         go_wp2_with fail;refine(p8.out wi HBw.out).mono ?_;rintro e w8 ⟨v8,cs8,us8,lo8,rfl,hM8,Qo⟩;obtain⟨A8,c8,rfl⟩:=pJ hM8.o;have HM8:=qh hM8;have HI8:=qh (Yx.start hM8 Qo);clear hM8 Qo;go_wp2_with fail;go_loopw [15] (λt15 wr=>∃i:Nat,t15=.int .i64 i/\i<=f.gQ.length/\Hid (Below w8.heap.size w8 wr)) (λt15 _=>f.gQ.length-(intOf t15).toNat)
         case atStart=>exact⟨0,rfl,qF _,qh (qb _ _)⟩
         case round=>
           obtain⟨wj,hwi⟩:∃W:World,W=wr:=⟨_,rfl⟩;subst hwi;obtain⟨i,rfl,hle,hBj⟩:=hrel;have hbj:Below W5.heap.size W5 wj:=(HBw.out.trans (HI8.out.b.mono HBw.out.size)).trans (hBj.out.mono (by have:=HBw.out.size;have:=HI8.out.b.size;omega));have hxj:=rw4 Hx5.out hbj;have q2:=qc _ _ 2 _ _ (0,0) hxj;have hbx:w4.heap.size<wj.heap.size:=(qg hxj).1;have gT:=qh (bl4 Hb5.out hbj);by_cases hlt:i<f.gQ.length
           · have hmi:vp (f.gQ.getD i yO)=true:=JG.out.1.met _ (by rw[qj,qz hlt];exact qM hlt)
             have hC:=((HM8.out.m i hlt).below hBj.out);obtain⟨Af,Ae,Ab,cf,ce,cb,e1,e2,e3,hMi⟩:=hC.zp5 (uW hmi);obtain⟨g,c,hA8⟩:=Zv HM8.out.o (by omega);cases hA8;have ho:=HM8.out.o.kept (Zq hBj.out none) ZH;have hlen:=ui cs8;rw[HM8.out.nn] at hlen;have hget:=uj cs8 i (by rw[HM8.out.nn];exact hlt);rw[e1,e2,e3] at hget;have k0:=(ho.cellAt (i*3) (by omega)).trans hget.1;have k1:=(ho.cellAt (i*3+1) (by omega)).trans hget.2.1;have k2:=(ho.cellAt (i*3+2) (by omega)).trans hget.2.2;have hgl:=(ho.lt g rfl).2;obtain⟨g2,rfl,hg2,Cf,Ce,Cb,kf,ke,kb,r0,r1,r2,hR2⟩:=Hat5.out i hlt;have r0':=(hbj.cell (p:=⟨g2,i*3,none⟩) hg2).trans r0;have r1':=(hbj.cell (p:=⟨g2,i*3+1,none⟩) hg2).trans r1;have r2':=(hbj.cell (p:=⟨g2,i*3+2,none⟩) hg2).trans r2;have zqh:=hR2.on hbj;have hg2i:g2<wj.heap.size:=qD hg2 hbj.size
             have Heq:=qh (λW (hW:Below wj.heap.size wj W)=>(gd Af Ae Ab cf ce cb (f.gQ.getD i yO) Cf Ce Cb kf ke kb (f.gQ.getD i yO) W (hMi.on hW) (zqh.on hW)).mono (R':=λe w'=>e=.returned (.bool true)/\Below W.heap.size W w') (by
               rintro e w' ⟨rfl,hb⟩;rw[zoc];exact⟨rfl,hb⟩))
             have i1:(0:Int)<=(i:Int):=(by omega);have i2:(i:Int)<(f.gQ.length:Int):=(by omega);clear hC ho hget hMi hR2 zqh r0 r1 r2 hmi hbj e1 e2 e3;generalize f.gQ.getD i yO=m at*;generalize f.gQ.length=NN at*;go_upto_region 37 with(fail)
             go_region_held3 (λw'=>Below wj.heap.size wj w'/\∀b o,b<wj.heap.size->w'.cell? ⟨b,o,none⟩=wj.cell? ⟨b,o,none⟩) (((repeat (apply JK;assumption));exact pa)) (first|(go_at_call 34;refine(Heq.out _ (by first|exact pa.1|exact qZ (by assumption))).mono ?_;rintro e w9 ⟨rfl,pb⟩))
             all_goals
               rename_i hHeld;have hS:=hHeld.1;have HX:=qh (bl4 hBj.out hS);clear hHeld hS;go_wp2_with fail;go_roundw
               case rel=>exact⟨i+1,by go_num,by omega,HX⟩
               case measure=>simp[intOf];omega
           · obtain rfl:i=f.gQ.length:=by omega
             go_wp2_with fail;go_ret;exact⟨rfl,gT.out⟩
end Go.Proofs.YtgklikkddckgbaaGreatDoor.Mo

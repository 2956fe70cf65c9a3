import Derived.Test.YtgklikkddckgbaaGreatDoorKDK
/- Lemmas. -/
set_option linter.all false
set_option maxRecDepth 100000
set_option maxHeartbeats 8000000
namespace Go.Proofs.YtgklikkddckgbaaGreatDoor.Mo
open Go.RowKit
theorem XE.fin2 {w W w8:World} {B rb fb sb:Nat} {s:ByteArray} {f:Fm} {round:Bool} {i i1:Nat} {l:List It} {j:Nat} {vi vl vm vs v8:Value} {pq vis:List Value} (h:XE w W rb fb sb s f round i l j vi pq) (hm:px w B fb f vl vm vs) (hr0:Rd w rb fb s i1) (hB:B<=w.heap.size) (hBr:B<=rb)
  (hrw:RwM W B vs f.rows vis) (hit:∀k,k<f.rows.length->∃pq,Qj W B f.gC (vis.getD k .nilFunc) (f.rows.getD k (⟨false,[]⟩:Rw)).items pq) (hg:W.grownBy w8 vs.ownBlock) (Vt:w8.ownsRow B 106 2 v8 (f.rows.length+1) (Jc f.rows vis++[.bool round,vi])):
  (∃v,px (w8.setCell ⟨fb,3,none⟩ v8) B fb {f with rows:=f.rows++[(⟨round,l⟩:Rw)]} vl vm v/\Rd (w8.setCell ⟨fb,3,none⟩ v8) rb fb s j/\Below B w (w8.setCell ⟨fb,3,none⟩ v8)/\(w8.setCell ⟨fb,3,none⟩ v8).heap[sb]?=some (.cells #[.bool round,vi] 106 (0,0))/\Qj (w8.setCell ⟨fb,3,none⟩ v8) w.heap.size f.gC vi l pq)/\w8.cell? ⟨fb,3,none⟩=some vs/\w8.frozen? ⟨fb,3,none⟩=false:=by
 obtain⟨a1,a2,a3,a4,a5,a6,a7⟩:=h.fin hm hr0 hB hBr hrw hit hg Vt;exact⟨⟨v8,a1,a2,a3,a4,a7⟩,a5,a6⟩
theorem zir:Tryz.prog.info? 106=some Tryz.t106:=by kernel_rfl
theorem zis:Tryz.t106.zero=some (.agg #[.bool false,.slice none 0 0]):=by kernel_rfl
theorem zit:Tryz.t106.size=2:=by kernel_rfl
theorem zf0:Tryz.t106.bytes=32:=by kernel_rfl
theorem zeM {a b:Int} (h1:-1<=a) (h2:a<=512) (h3:0<=b) (h4:b<=512):-512<=a*b/\a*b<=262144:=by
 constructor
 ·have h:=kk h1 h3;omega
 ·have h:=kk h2 h3;omega
theorem Qj.XJ {w:World} {B:Nat} {gC:List UInt8} {A:Option Addr} {n c:Nat} {l:List It} {pq:List Value} (h:Qj w B gC (.slice A n c) l pq) {k:Nat} (hk:k<l.length):
  ∃g,A=some ⟨g,0,none⟩/\g<w.heap.size/\w.cell? ⟨g,k*13,none⟩=some (.int .i64 (l.getD k pk).cls)/\w.cell? ⟨g,k*13+1,none⟩=some (.int .i64 (l.getD k pk).ref)/\w.cell? ⟨g,k*13+2,none⟩=some (.int .i64 (Zn gC (l.getD k pk).gE))/\
   w.cell? ⟨g,k*13+3,none⟩=some (.int .u8 (gN (l.getD k pk).gE 58))/\w.cell? ⟨g,k*13+4,none⟩=some (.int .i64 (gN (l.getD k pk).gE 47))/\w.cell? ⟨g,k*13+5,none⟩=some (.int .i64 (gN (l.getD k pk).gE 94))/\w.cell? ⟨g,k*13+6,none⟩=some (.int .i64 (gN (l.getD k pk).gE 64))/\
   w.cell? ⟨g,k*13+7,none⟩=some (pq.getD k .nilFunc)/\w.cell? ⟨g,k*13+8,none⟩=some (.int .i32 (gN (l.getD k pk).gE 39))/\w.cell? ⟨g,k*13+9,none⟩=some (.int .i64 (l.getD k pk).at_)/\w.cell? ⟨g,k*13+10,none⟩=some (.int .i64 (Qa (l.getD k pk).gE))/\
   w.cell? ⟨g,k*13+11,none⟩=some (.bool (pt (l.getD k pk).gE 58))/\w.cell? ⟨g,k*13+12,none⟩=some (.bool (pt (l.getD k pk).gE 47)):=by
 have hlen:=zih gC l pq h.n;have hown:=h.o;rcases h.o.2 with⟨e,e0⟩|⟨g,cap,cur,e,_,hg,_⟩
 ·omega
 ·simp only[jq] at e;obtain⟨rfl,rfl,rfl⟩:=e;refine⟨g,rfl,(qg hg).1,?_⟩;have key:∀o,o<13->w.cell? ⟨g,k*13+o,none⟩=(p9 gC (l.getD k pk).cls (l.getD k pk).ref (l.getD k pk).gE (l.getD k pk).at_ (pq.getD k .nilFunc))[o]?:=λo ho=>
   (hown.cellAt (k*13+o) (by omega)).trans (zii gC l pq k o h.n hk ho)
  exact⟨key 0 (by omega),key 1 (by omega),key 2 (by omega),key 3 (by omega),key 4 (by omega),key 5 (by omega),key 6 (by omega),key 7 (by omega),key 8 (by omega),key 9 (by omega),key 10 (by omega),key 11 (by omega),key 12 (by omega)⟩
theorem zdR (B rb fb:Nat) (s:ByteArray) (f:Fm) (round:Bool) (start i i0:Nat) (vl vm vs:Value) (w:World) (h:Rd w rb fb s i) (hv:Vars w) (h9:9<=B) (hB:B<=rb) (hm:px w B fb f vl vm vs) (hk:pb f i0) (hi0:i0+1<=i):
  Calls Tryz.prog 95 #[.pointer (some ⟨rb,0,none⟩),.bool round,.int .i64 start] w (zfY B rb fb s vl vm w (Kd s f round start i)):=by
 have hsz:=h.sz;have hle:=h.le;have hrb:=h.lt;have pW:=hm.lt;have hBw:B<=w.heap.size:=by omega
 obtain⟨q0,q1,q2,q3⟩:=h.cells;have m5:=hm.cells.2.2.2.2.2.1;generalize hR:Kd s f round start i=R;have HR:=qh hR;have H:=qh h;have Hv:=qh hv;have Hm:=qh hm;have Hk:=qh hk;have Xy:=qh (zij hk (by omega) hk.l0.1 hk.l0.2);have Hl1:=qh (hm.XD hk (by omega) f.least hk.l0.1 hk.l0.2);generalize hA:Zh f.rows f.least=A at*;have HA:=qh hA;clear hR h hv hm hk hA;go_enter Tryz.func95,Tryz.ntmps95;go_wp2_with fail;refine Hl1.out.mono ?_;rintro e w1 ⟨rfl,hb1⟩;have hW2:Below w.heap.size w (w1.alloc (.cells #[.bool round,.slice none 0 0] 106)):=hb1.alloc hb1.size _;have zqZ:(w1.alloc (.cells #[.bool round,.slice none 0 0] 106)).heap[w1.heap.size]?=some (.cells #[.bool round,.slice none 0 0] 106 (0,0)):=qn w1 _;have Hsb:Hid (w.heap.size<=w1.heap.size):=qh hb1.size;have Vv:Hid (Calls Tryz.prog 89 #[.pointer (some ⟨rb,0,none⟩),.int .u8 32] (w1.alloc (.cells #[.bool round,.slice none 0 0] 106)) λe w'=>e=.returned (.bool (gT s i 32))/\Below (w1.alloc (.cells #[.bool round,.slice none 0 0] 106)).heap.size (w1.alloc (.cells #[.bool round,.slice none 0 0] 106)) w'):=qh (zdZ rb fb s i 32 _ (H.out.below hW2));have HW2:=qh hW2;have Zt:=qh zqZ;clear hb1 hW2 zqZ;go_wp2_with fail;refine Vv.out.mono ?_;rintro e w3 ⟨rfl,hb3⟩;have hJ3:XE w w3 rb fb w1.heap.size s f round i [] i (.slice none 0 0) []:=XE.below ⟨H.out.below HW2.out,Off.of_below HW2.out (ql _) _,Hsb.out,Zt.out,⟨rfl,⟨rfl,.inl ⟨rfl,rfl⟩⟩,λk hk=>(by simp at hk)⟩,λx hx=>(by cases hx),(by simp)⟩ hb3;have Kr:=qh hJ3;generalize w1.heap.size=sb at*;clear hJ3 hb3 Vv HW2 Zt;cases h32:gT s i 32 with
 |false=>have HR2:Hid (R=.error (180,i)):=qh (by rw[<-HR.out];unfold Kd;rw[qx (by rw[h32];simp)]);clear h32;go_wp2_with fail;refine(Yd rb fb s i w3 Kr.out.rd).mono ?_;rintro e w4 ⟨rfl,hb4⟩;refine⟨rfl,(Kr.out.off.trans (Off.of_below hb4 (ql _) _)).below hBw (λk hk=>by simp at hk;omega),by rw[HR2.out];rfl⟩
 |true=>
  have HRT:Hid (zbk f round start (Kx s f round (s.size+1) [] i)=R):=qh (by rw[<-HR.out,zd5 h32]);clear h32 HR;go_wp2_with fail;clear q0 q1 q2 q3 m5;go_loopw [] (λwr=>∃(l:List It) (j:Nat) (vi:Value) (pq:List Value) (q:Nat),s.size<q+j/\Hid (XE w wr rb fb sb s f round i l j vi pq)/\Hid (zbk f round start (Kx s f round q l j)=R)) (λwr=>s.size-(match wr.cell? ⟨rb,1,none⟩ with|some v=>(intOf v).toNat|none=>0))
  case atStart=>exact⟨[],i,_,[],s.size+1,by omega,Kr,HRT⟩
  case round=>
   obtain⟨l,j,vi,pq,q,hq,hJ,hT⟩:=hrel;clear Kr HRT;have hjs:j<=s.size:=hJ.out.rd.le;have Hq:Hid (Calls Tryz.prog 89 #[.pointer (some ⟨rb,0,none⟩),.int .u8 32] wr λe w'=>e=.returned (.bool (gT s j 32))/\Below wr.heap.size wr w'):=qh (zdZ rb fb s j 32 wr hJ.out.rd);have pT:Hid (wr.cell? ⟨rb,1,none⟩=some (.int .i64 j)):=qh hJ.out.rd.cells.2.1;go_wp2_with fail;refine Hq.out.mono ?_;rintro e w4 ⟨rfl,hb4⟩;have Q3:=qh (hJ.out.below hb4);clear hb4 hJ;cases hb:gT s j 32 with
   |false=>
    have HT2:Hid (zbk f round start (.ok (l,j))=R):=qh (by
     have:=hT.out;cases q with
     |zero=>exact this
     |succ q'=>
      unfold Kx at this;rw[qv (by rw[hb];simp)] at this;exact this)
    obtain⟨Ai,ci,J5⟩:=pR Q3.out.its.o;subst J5;have hD4:=Q3.out.drew;have hM4:=Hm.out.pl H.out Q3.out.off;have hM5:=Hm.out.pl H.out hD4.off;obtain⟨g0,g1,g2,g3,g4,g5,g6,g7⟩:=hM4.cells;obtain⟨vis,hrw,hit⟩:=hM5.r;obtain⟨As,cs,hvs⟩:=pR hrw.o;subst hvs;have hjsz:=Q3.out.rd.le;have hkle:=Hk.out.le;have hlen:=Q3.out.len;have XB:Hid (f.rows.length+1<=maxLen):=qh (by unfold maxLen;omega);have ZW:Hid ((f.rows.length+1)*32<=140737488355328):=qh (by omega);have Hpos:Hid (0<f.rows.length+1):=qh (by omega);have pj:=qh hrw.o;have Yq:Hid (B<=w4.drew.heap.size):=qh (qm hBw hD4.off.size);have Hhk:=qh Q3.out.ok;have Hls:=qh (show l.length<=65536 by omega);have HF:=qh (λw8 v8 hg Vt=>hD4.fin2 (w8:=w8) (v8:=v8) Hm.out H.out hBw hB hrw hit hg Vt);have Hk2:=qh (Hk.out.more (j:=j) (round:=round) (l:=l) (by omega) Q3.out.ok);have g3a:∀o,(w4.alloc o).cell? ⟨fb,3,none⟩=some (.slice As f.rows.length cs):=λo=>(qw (qa w4 o fb hM4.lt)).trans g3;have KT:=Q3.out.st;clear hD4 hM4 hM5 hrw hit;cases round with
    |false=>
     cases hrs:f.rounds with
     |false=>
      have zr7:w4.cell? ⟨fb,4,none⟩=some (.bool false):=(by rw[g4,hrs]);clear g4;have st0:w4.cell? ⟨sb,0,none⟩=some (.bool false):=qc _ _ 0 _ _ (0,0) KT;have st1:w4.cell? ⟨sb,1,none⟩=some (.slice Ai l.length ci):=qc _ _ 1 _ _ (0,0) KT;have Qc:Hid (∀u∈(#[.bool false,.slice Ai l.length ci]:Array Value).toList,u.oneCell'=true):=qh (by intro u hu;simp at hu;rcases hu with rfl|rfl<;>rfl);have HU:Hid (Vi f false=0):=qh (by unfold Vi;rw[qv (by simp),hrs,qv (by simp)]);clear KT;go_upto_region 12 with fail
      go_cut [78] from 69 to 78 (λv78 wx=>Hid (∃v8,px wx B fb {f with rows:=f.rows++[(⟨false,l⟩:Rw)]} vl vm v8/\Rd wx rb fb s j/\Below B w wx/\wx.heap[sb]?=some (.cells #[.bool false,.slice Ai l.length ci] 106 (0,0))/\Qj wx w.heap.size f.gC (.slice Ai l.length ci) l pq))
      case first=>
       go_region_law (refine zah w4.drew (by rfl) (.tmp 73) (.tmp 75) 90 (by rfl) B 106 _ _ 2 32 Tryz.underlying90 zir zis zit zf0 rfl (by decide) (.slice As f.rows.length cs) f.rows.length (Jc f.rows vis) _ _ (by simp[Act.eval,Act.put]) (by simp[Act.eval,Act.put];rfl) (by simp) (by exact pj.out) rfl (by exact Qc.out) XB.out ZW.out (by exact Yq.out) ?_;intro v8 w8 gW Zy Zb;obtain⟨g8,Qf,rfl⟩:=ZR gW Hpos.out;obtain⟨pY,c8,z8⟩:=HF.out w8 _ Zy gW;have HFin:=qh pY;clear pY gW Zy Zb)
       all_goals
        go_wp2_with fail;go_meet
        exact HFin
      case rest=>
       obtain⟨W9,hW9⟩:∃W9:World,W9=wc:=⟨_,rfl⟩;subst hW9;obtain⟨v8,hF8,hR8,hB8,hS8,hI8⟩:=hcut.out;have HF8:=qh hF8;have HR8:=qh hR8;have XK:=qh hB8;have HI8:=qh hI8;have HS8:=qh hS8;clear hF8 hR8 hB8 hI8 hS8 hcut;have e6:W9.cell? ⟨fb,6,none⟩=some (.int .i64 f.most):=HF8.out.cells.2.2.2.2.2.2.1;have Hl9:=qh (HF8.out.XD Hk2.out (by omega) f.most Hk.out.m0.1 Hk.out.m0.2);generalize hS:Zh (f.rows++[(⟨false,l⟩:Rw)]) f.most=S at*;go_wp2_with fail;refine Hl9.out.mono ?_;rintro e Zp ⟨rfl,pA⟩;have hbB:Below B w Zp:=XK.out.trans ((Off.of_below pA (ql _) []).below (qm hBw XK.out.size) (λ_ h=>by cases h));have XX:=qh hbB;have Z5:=qh (HF8.out.below pA);have zqq:=qh (HR8.out.below pA);have Yz:=qh (HI8.out.off (Off.of_below pA (ql _) []) (gR.nil (T:=[])) (by simp) (by simp));have t1:Zp.cell? ⟨sb,1,none⟩=some (.slice Ai l.length ci):=qc _ _ 1 _ _ (0,0) ((pA.block _ (qg HS8.out).1).trans HS8.out);have e6:Zp.cell? ⟨fb,6,none⟩=some (.int .i64 f.most):=Z5.out.cells.2.2.2.2.2.2.1;have e7:Zp.cell? ⟨fb,7,none⟩=some (.int .i64 f.shift):=Z5.out.cells.2.2.2.2.2.2.2;have Hfb:=qh Z5.out.lt;have HSe:=qh hS;clear pA hbB HF8 HR8 XK HI8 HS8 hS Hl9 HF pj Qc;by_cases hS5:512<S
       ·have HR2:Hid (R=.error (3,start)):=qh (by
         rw[<-HT2.out];unfold zbk;simp only[];rw[qx (by rw[HSe.out];exact hS5)])
        go_wp2_with fail;refine(gM 3 start Zp).mono ?_;rintro e KN ⟨rfl,Qo⟩;exact⟨rfl,XX.out.trans ((Off.of_below Qo (ql _) []).below (qm hBw XX.out.size) (λ_ h=>by cases h)),by rw[HR2.out];rfl⟩
       ·have HT3:Hid ((match l.find? (JD f false) with|some x=>.error (5,x.at_)|none=>.ok ({f with rows:=f.rows++[(⟨false,l⟩:Rw)]},j))=R):=qh (by
         rw[<-HT2.out];unfold zbk;simp only[];rw[qv (by rw[HSe.out];exact hS5)];rfl)
        have hm0:=Hk.out.m0;have hs0:=Hk.out.s0;have HUb:Hid (-512<=(0:Int)/\(0:Int)<=262144):=qh (by omega);clear HT2;go_wp2_with fail;go_loopw [112] (λq wr=>∃k:Nat,k<=l.length/\q=.int .i64 k/\Hid (∀x∈l.take k,JD f false x=false)/\Hid (Below Zp.heap.size Zp wr)) (λq _=>l.length-(intOf q).toNat)
        case atStart=>exact⟨0,qH _,rfl,qh (by simp),qh (qb _ _)⟩
        case round=>
         obtain⟨k,hk,rfl,hpre,hb⟩:=hrel;by_cases hlt:k<l.length
         ·obtain⟨g,hA,hgs,c0,c1,c2,c3,c4,c5,c6,c7,c8,c9,c10,c11,c12⟩:=Yz.out.XJ hlt;subst hA;have hmem:l.getD k pk∈l:=by
           rw[qj,qA hlt];exact qM hlt
          have hcl:=(Hhk.out _ hmem).cl;have Ye:Hid (JD f false (l.getD k pk)=true->R=.error (5,(l.getD k pk).at_)):=qh (λho=>by
           rw[<-HT3.out,zeJ hlt hpre.out ho])
          have Zq:Hid (JD f false (l.getD k pk)=false->∀x∈l.take (k+1),JD f false x=false):=qh (λho x hx=>by
           rw[qD hlt] at hx;rcases qJ.1 hx with hx|hx
           ·exact hpre.out x hx
           ·have e:x=l.getD k pk:=by
             rw[qj,qA hlt];simpa using hx
            rw[e];exact ho)
          have k0:=(hb.out.cell (p:=⟨g,k*13,none⟩) hgs).trans c0;have k1:=(hb.out.cell (p:=⟨g,k*13+1,none⟩) hgs).trans c1;have k2:=(hb.out.cell (p:=⟨g,k*13+2,none⟩) hgs).trans c2;have k3:=(hb.out.cell (p:=⟨g,k*13+3,none⟩) hgs).trans c3;have k4:=(hb.out.cell (p:=⟨g,k*13+4,none⟩) hgs).trans c4;have k5:=(hb.out.cell (p:=⟨g,k*13+5,none⟩) hgs).trans c5;have k6:=(hb.out.cell (p:=⟨g,k*13+6,none⟩) hgs).trans c6;have k7:=(hb.out.cell (p:=⟨g,k*13+7,none⟩) hgs).trans c7;have k8:=(hb.out.cell (p:=⟨g,k*13+8,none⟩) hgs).trans c8;have k9:=(hb.out.cell (p:=⟨g,k*13+9,none⟩) hgs).trans c9;have k10:=(hb.out.cell (p:=⟨g,k*13+10,none⟩) hgs).trans c10;have k11:=(hb.out.cell (p:=⟨g,k*13+11,none⟩) hgs).trans c11;have k12:=(hb.out.cell (p:=⟨g,k*13+12,none⟩) hgs).trans c12;have hUb:=HUb.out;have hbs:=hb.out.size;have h6:=(hb.out.cell (p:=⟨fb,6,none⟩) Hfb.out).trans e6;have h6a:∀o,(wr.alloc o).cell? ⟨fb,6,none⟩=some (.int .i64 f.most):=λo=>(qw (qa wr o fb (qF Hfb.out hbs))).trans h6;have HB2:=qh (λ(c:Array Value)=>hb.out.alloc hbs (.cells c 108));have Hov:Hid (JD f false (l.getD k pk)=(decide (0<=(l.getD k pk).cls)&&decide (25<=(l.getD k pk).cls)&&!(false&&f.most==0))):=qh (by unfold JD;rw[HU.out];rw[Int.add_zero]);clear c0 c1 c2 c3 c4 c5 c6 c7 c8 c9 c10 c11 c12 hpre hmem;obtain⟨Ah,ch,hvk⟩:=pR (Yz.out.h k hlt);generalize pq.getD k .nilFunc=vk at*;subst hvk;generalize l.getD k pk=x at*;obtain⟨pZ,xref,Z6,xat⟩:=x;simp only[] at k0 k1 k2 k3 k4 k5 k6 k7 k8 k9 k10 k11 k12 hcl Hov Ye Zq;have hw2:IntKind.i64.wrap (pZ)=pZ:=qi _ (by omega);generalize Zn f.gC Z6=y2 at*;generalize gN Z6 58=y3 at*;generalize gN Z6 47=y4 at*;generalize gN Z6 94=y5 at*;generalize gN Z6 64=y6 at*;generalize gN Z6 39=y8 at*;generalize Qa Z6=YY at*;generalize pt Z6 58=X9 at*;generalize pt Z6 47=y12 at*;by_cases h0:0<=pZ
          ·have d0:decide (0<=pZ)=true:=qt h0;by_cases h25:25<=pZ
           ·have d25:decide (25<=pZ)=true:=qt h25;omega
           ·have d25:decide (25<=pZ)=false:=qd h25;go_wp2_with fail;go_roundw
            case rel=>exact⟨k+1,by omega,by go_num,qh (Zq.out (by rw[Hov.out];simp[*])),qh (HB2.out _)⟩
            case measure=>simp[intOf];omega
          ·have d0:decide (0<=pZ)=false:=qd h0;go_wp2_with fail;go_roundw
           case rel=>exact⟨k+1,by omega,by go_num,qh (Zq.out (by rw[Hov.out];simp[*])),qh (HB2.out _)⟩
           case measure=>simp[intOf];omega
         ·obtain rfl:k=l.length:=by omega
          have HR3:Hid (R=.ok ({f with rows:=f.rows++[(⟨false,l⟩:Rw)]},j)):=qh (by
           rw[<-HT3.out,zeo (by have:=hpre.out;rwa [qZ] at this)])
          go_wp2_with fail;refine q9 (qI rfl _ _ _) rfl ?_;rw[HR3.out];exact⟨XX.out.trans ((Off.of_below hb.out (ql _) []).below (qm hBw XX.out.size) (λ_ h=>by cases h)),rfl,zqq.out.below hb.out,Hk2.out,_,Z5.out.below hb.out⟩
     |true=>
      have zr7:w4.cell? ⟨fb,4,none⟩=some (.bool true):=(by rw[g4,hrs]);clear g4;have st0:w4.cell? ⟨sb,0,none⟩=some (.bool false):=qc _ _ 0 _ _ (0,0) KT;have st1:w4.cell? ⟨sb,1,none⟩=some (.slice Ai l.length ci):=qc _ _ 1 _ _ (0,0) KT;have Qc:Hid (∀u∈(#[.bool false,.slice Ai l.length ci]:Array Value).toList,u.oneCell'=true):=qh (by intro u hu;simp at hu;rcases hu with rfl|rfl<;>rfl);have HU:Hid (Vi f false=(f.most*f.shift)):=qh (by unfold Vi;rw[qv (by simp),hrs,qx rfl]);clear KT;go_upto_region 12 with fail
      go_cut [78] from 69 to 78 (λv78 wx=>Hid (∃v8,px wx B fb {f with rows:=f.rows++[(⟨false,l⟩:Rw)]} vl vm v8/\Rd wx rb fb s j/\Below B w wx/\wx.heap[sb]?=some (.cells #[.bool false,.slice Ai l.length ci] 106 (0,0))/\Qj wx w.heap.size f.gC (.slice Ai l.length ci) l pq))
      case first=>
       go_region_law (refine zah w4.drew (by rfl) (.tmp 73) (.tmp 75) 90 (by rfl) B 106 _ _ 2 32 Tryz.underlying90 zir zis zit zf0 rfl (by decide) (.slice As f.rows.length cs) f.rows.length (Jc f.rows vis) _ _ (by simp[Act.eval,Act.put]) (by simp[Act.eval,Act.put];rfl) (by simp) (by exact pj.out) rfl (by exact Qc.out) XB.out ZW.out (by exact Yq.out) ?_;intro v8 w8 gW Zy Zb;obtain⟨g8,Qf,rfl⟩:=ZR gW Hpos.out;obtain⟨pY,c8,z8⟩:=HF.out w8 _ Zy gW;have HFin:=qh pY;clear pY gW Zy Zb)
       all_goals
        go_wp2_with fail;go_meet
        exact HFin
      case rest=>
       obtain⟨W9,hW9⟩:∃W9:World,W9=wc:=⟨_,rfl⟩;subst hW9;obtain⟨v8,hF8,hR8,hB8,hS8,hI8⟩:=hcut.out;have HF8:=qh hF8;have HR8:=qh hR8;have XK:=qh hB8;have HI8:=qh hI8;have HS8:=qh hS8;clear hF8 hR8 hB8 hI8 hS8 hcut;have e6:W9.cell? ⟨fb,6,none⟩=some (.int .i64 f.most):=HF8.out.cells.2.2.2.2.2.2.1;have Hl9:=qh (HF8.out.XD Hk2.out (by omega) f.most Hk.out.m0.1 Hk.out.m0.2);generalize hS:Zh (f.rows++[(⟨false,l⟩:Rw)]) f.most=S at*;go_wp2_with fail;refine Hl9.out.mono ?_;rintro e Zp ⟨rfl,pA⟩;have hbB:Below B w Zp:=XK.out.trans ((Off.of_below pA (ql _) []).below (qm hBw XK.out.size) (λ_ h=>by cases h));have XX:=qh hbB;have Z5:=qh (HF8.out.below pA);have zqq:=qh (HR8.out.below pA);have Yz:=qh (HI8.out.off (Off.of_below pA (ql _) []) (gR.nil (T:=[])) (by simp) (by simp));have t1:Zp.cell? ⟨sb,1,none⟩=some (.slice Ai l.length ci):=qc _ _ 1 _ _ (0,0) ((pA.block _ (qg HS8.out).1).trans HS8.out);have e6:Zp.cell? ⟨fb,6,none⟩=some (.int .i64 f.most):=Z5.out.cells.2.2.2.2.2.2.1;have e7:Zp.cell? ⟨fb,7,none⟩=some (.int .i64 f.shift):=Z5.out.cells.2.2.2.2.2.2.2;have Hfb:=qh Z5.out.lt;have HSe:=qh hS;clear pA hbB HF8 HR8 XK HI8 HS8 hS Hl9 HF pj Qc;by_cases hS5:512<S
       ·have HR2:Hid (R=.error (3,start)):=qh (by
         rw[<-HT2.out];unfold zbk;simp only[];rw[qx (by rw[HSe.out];exact hS5)])
        go_wp2_with fail;refine(gM 3 start Zp).mono ?_;rintro e KN ⟨rfl,Qo⟩;exact⟨rfl,XX.out.trans ((Off.of_below Qo (ql _) []).below (qm hBw XX.out.size) (λ_ h=>by cases h)),by rw[HR2.out];rfl⟩
       ·have HT3:Hid ((match l.find? (JD f false) with|some x=>.error (5,x.at_)|none=>.ok ({f with rows:=f.rows++[(⟨false,l⟩:Rw)]},j))=R):=qh (by
         rw[<-HT2.out];unfold zbk;simp only[];rw[qv (by rw[HSe.out];exact hS5)];rfl)
        have hm0:=Hk.out.m0;have hs0:=Hk.out.s0;have hpb:=zeM (a:=f.most) (b:=f.shift) (by omega) (by omega) hs0.1 hs0.2;have HUb:=qh hpb;have hw1:IntKind.i64.wrap (f.most*f.shift)=f.most*f.shift:=qi _ (by omega);clear HT2 hpb;go_wp2_with fail;go_quiet (fail)
        go_wp2_with fail;generalize (f.most*f.shift)=U at*;go_loopw [112] (λq wr=>∃k:Nat,k<=l.length/\q=.int .i64 k/\Hid (∀x∈l.take k,JD f false x=false)/\Hid (Below Zp.heap.size Zp wr)) (λq _=>l.length-(intOf q).toNat)
        case atStart=>exact⟨0,qH _,rfl,qh (by simp),qh (Zi (qb _ _) nq)⟩
        case round=>
         obtain⟨k,hk,rfl,hpre,hb⟩:=hrel;by_cases hlt:k<l.length
         ·obtain⟨g,hA,hgs,c0,c1,c2,c3,c4,c5,c6,c7,c8,c9,c10,c11,c12⟩:=Yz.out.XJ hlt;subst hA;have hmem:l.getD k pk∈l:=by
           rw[qj,qA hlt];exact qM hlt
          have hcl:=(Hhk.out _ hmem).cl;have Ye:Hid (JD f false (l.getD k pk)=true->R=.error (5,(l.getD k pk).at_)):=qh (λho=>by
           rw[<-HT3.out,zeJ hlt hpre.out ho])
          have Zq:Hid (JD f false (l.getD k pk)=false->∀x∈l.take (k+1),JD f false x=false):=qh (λho x hx=>by
           rw[qD hlt] at hx;rcases qJ.1 hx with hx|hx
           ·exact hpre.out x hx
           ·have e:x=l.getD k pk:=by
             rw[qj,qA hlt];simpa using hx
            rw[e];exact ho)
          have k0:=(hb.out.cell (p:=⟨g,k*13,none⟩) hgs).trans c0;have k1:=(hb.out.cell (p:=⟨g,k*13+1,none⟩) hgs).trans c1;have k2:=(hb.out.cell (p:=⟨g,k*13+2,none⟩) hgs).trans c2;have k3:=(hb.out.cell (p:=⟨g,k*13+3,none⟩) hgs).trans c3;have k4:=(hb.out.cell (p:=⟨g,k*13+4,none⟩) hgs).trans c4;have k5:=(hb.out.cell (p:=⟨g,k*13+5,none⟩) hgs).trans c5;have k6:=(hb.out.cell (p:=⟨g,k*13+6,none⟩) hgs).trans c6;have k7:=(hb.out.cell (p:=⟨g,k*13+7,none⟩) hgs).trans c7;have k8:=(hb.out.cell (p:=⟨g,k*13+8,none⟩) hgs).trans c8;have k9:=(hb.out.cell (p:=⟨g,k*13+9,none⟩) hgs).trans c9;have k10:=(hb.out.cell (p:=⟨g,k*13+10,none⟩) hgs).trans c10;have k11:=(hb.out.cell (p:=⟨g,k*13+11,none⟩) hgs).trans c11;have k12:=(hb.out.cell (p:=⟨g,k*13+12,none⟩) hgs).trans c12;have hUb:=HUb.out;have hbs:=hb.out.size;have h6:=(hb.out.cell (p:=⟨fb,6,none⟩) Hfb.out).trans e6;have h6a:∀o,(wr.alloc o).cell? ⟨fb,6,none⟩=some (.int .i64 f.most):=λo=>(qw (qa wr o fb (qF Hfb.out hbs))).trans h6;have HB2:=qh (λ(c:Array Value)=>hb.out.alloc hbs (.cells c 108));have Hov:Hid (JD f false (l.getD k pk)=(decide (0<=(l.getD k pk).cls)&&decide (25<=(l.getD k pk).cls+U)&&!(false&&f.most==0))):=qh (by unfold JD;rw[HU.out]);clear c0 c1 c2 c3 c4 c5 c6 c7 c8 c9 c10 c11 c12 hpre hmem;obtain⟨Ah,ch,hvk⟩:=pR (Yz.out.h k hlt);generalize pq.getD k .nilFunc=vk at*;subst hvk;generalize l.getD k pk=x at*;obtain⟨pZ,xref,Z6,xat⟩:=x;simp only[] at k0 k1 k2 k3 k4 k5 k6 k7 k8 k9 k10 k11 k12 hcl Hov Ye Zq;have hw2:IntKind.i64.wrap (pZ+U)=pZ+U:=qi _ (by omega);generalize Zn f.gC Z6=y2 at*;generalize gN Z6 58=y3 at*;generalize gN Z6 47=y4 at*;generalize gN Z6 94=y5 at*;generalize gN Z6 64=y6 at*;generalize gN Z6 39=y8 at*;generalize Qa Z6=YY at*;generalize pt Z6 58=X9 at*;generalize pt Z6 47=y12 at*;by_cases h0:0<=pZ
          ·have d0:decide (0<=pZ)=true:=qt h0;by_cases h25:25<=pZ+U
           ·have d25:decide (25<=pZ+U)=true:=qt h25;go_wp2_with fail;refine(gM 5 xat _).mono ?_;rintro e KN ⟨rfl,Qo⟩;have Kp:=(HB2.out _).trans ((Off.of_below Qo (ql _) []).below (HB2.out _).size (λ_ h=>by cases h));exact⟨rfl,XX.out.trans ((Off.of_below Kp (ql _) []).below (qm hBw XX.out.size) (λ_ h=>by cases h)),by rw[Ye.out (by rw[Hov.out];simp[*])];rfl⟩
           ·have d25:decide (25<=pZ+U)=false:=qd h25;go_wp2_with fail;go_roundw
            case rel=>exact⟨k+1,by omega,by go_num,qh (Zq.out (by rw[Hov.out];simp[*])),qh (HB2.out _)⟩
            case measure=>simp[intOf];omega
          ·have d0:decide (0<=pZ)=false:=qd h0;go_wp2_with fail;go_roundw
           case rel=>exact⟨k+1,by omega,by go_num,qh (Zq.out (by rw[Hov.out];simp[*])),qh (HB2.out _)⟩
           case measure=>simp[intOf];omega
         ·obtain rfl:k=l.length:=by omega
          have HR3:Hid (R=.ok ({f with rows:=f.rows++[(⟨false,l⟩:Rw)]},j)):=qh (by
           rw[<-HT3.out,zeo (by have:=hpre.out;rwa [qZ] at this)])
          go_wp2_with fail;refine q9 (qI rfl _ _ _) rfl ?_;rw[HR3.out];exact⟨XX.out.trans ((Off.of_below hb.out (ql _) []).below (qm hBw XX.out.size) (λ_ h=>by cases h)),rfl,zqq.out.below hb.out,Hk2.out,_,Z5.out.below hb.out⟩
    |true=>
     cases hrs:f.rounds with|false=>?_|true=>?_
     have zr7:w4.cell? ⟨fb,4,none⟩=some (.bool false):=(by rw[g4,hrs]);rotate_left
     have zr7:w4.cell? ⟨fb,4,none⟩=some (.bool true):=(by rw[g4,hrs])
     all_goals
      clear g4;have st0:w4.cell? ⟨sb,0,none⟩=some (.bool true):=qc _ _ 0 _ _ (0,0) KT;have st1:w4.cell? ⟨sb,1,none⟩=some (.slice Ai l.length ci):=qc _ _ 1 _ _ (0,0) KT;have Qc:Hid (∀u∈(#[.bool true,.slice Ai l.length ci]:Array Value).toList,u.oneCell'=true):=qh (by intro u hu;simp at hu;rcases hu with rfl|rfl<;>rfl);have HU:Hid (Vi f true=((f.most-1)*f.shift)):=qh (by unfold Vi;rw[qx rfl]);clear KT;go_upto_region 12 with fail
      go_cut [78] from 69 to 78 (λv78 wx=>Hid (∃v8,px wx B fb {f with rows:=f.rows++[(⟨true,l⟩:Rw)]} vl vm v8/\Rd wx rb fb s j/\Below B w wx/\wx.heap[sb]?=some (.cells #[.bool true,.slice Ai l.length ci] 106 (0,0))/\Qj wx w.heap.size f.gC (.slice Ai l.length ci) l pq))
      case first=>
       go_region_law (refine zah w4.drew (by rfl) (.tmp 73) (.tmp 75) 90 (by rfl) B 106 _ _ 2 32 Tryz.underlying90 zir zis zit zf0 rfl (by decide) (.slice As f.rows.length cs) f.rows.length (Jc f.rows vis) _ _ (by simp[Act.eval,Act.put]) (by simp[Act.eval,Act.put];rfl) (by simp) (by exact pj.out) rfl (by exact Qc.out) XB.out ZW.out (by exact Yq.out) ?_;intro v8 w8 gW Zy Zb;obtain⟨g8,Qf,rfl⟩:=ZR gW Hpos.out;obtain⟨pY,c8,z8⟩:=HF.out w8 _ Zy gW;have HFin:=qh pY;clear pY gW Zy Zb)
       all_goals
        go_wp2_with fail;go_meet
        exact HFin
      case rest=>
       obtain⟨W9,hW9⟩:∃W9:World,W9=wc:=⟨_,rfl⟩;subst hW9;obtain⟨v8,hF8,hR8,hB8,hS8,hI8⟩:=hcut.out;have HF8:=qh hF8;have HR8:=qh hR8;have XK:=qh hB8;have HI8:=qh hI8;have HS8:=qh hS8;clear hF8 hR8 hB8 hI8 hS8 hcut;have e6:W9.cell? ⟨fb,6,none⟩=some (.int .i64 f.most):=HF8.out.cells.2.2.2.2.2.2.1;have Hl9:=qh (HF8.out.XD Hk2.out (by omega) f.most Hk.out.m0.1 Hk.out.m0.2);generalize hS:Zh (f.rows++[(⟨true,l⟩:Rw)]) f.most=S at*;go_wp2_with fail;refine Hl9.out.mono ?_;rintro e Zp ⟨rfl,pA⟩;have hbB:Below B w Zp:=XK.out.trans ((Off.of_below pA (ql _) []).below (qm hBw XK.out.size) (λ_ h=>by cases h));have XX:=qh hbB;have Z5:=qh (HF8.out.below pA);have zqq:=qh (HR8.out.below pA);have Yz:=qh (HI8.out.off (Off.of_below pA (ql _) []) (gR.nil (T:=[])) (by simp) (by simp));have t1:Zp.cell? ⟨sb,1,none⟩=some (.slice Ai l.length ci):=qc _ _ 1 _ _ (0,0) ((pA.block _ (qg HS8.out).1).trans HS8.out);have e6:Zp.cell? ⟨fb,6,none⟩=some (.int .i64 f.most):=Z5.out.cells.2.2.2.2.2.2.1;have e7:Zp.cell? ⟨fb,7,none⟩=some (.int .i64 f.shift):=Z5.out.cells.2.2.2.2.2.2.2;have Hfb:=qh Z5.out.lt;have HSe:=qh hS;clear pA hbB HF8 HR8 XK HI8 HS8 hS Hl9 HF pj Qc;by_cases hS5:512<S
       ·have HR2:Hid (R=.error (3,start)):=qh (by
         rw[<-HT2.out];unfold zbk;simp only[];rw[qx (by rw[HSe.out];exact hS5)])
        go_wp2_with fail;refine(gM 3 start Zp).mono ?_;rintro e KN ⟨rfl,Qo⟩;exact⟨rfl,XX.out.trans ((Off.of_below Qo (ql _) []).below (qm hBw XX.out.size) (λ_ h=>by cases h)),by rw[HR2.out];rfl⟩
       ·have HT3:Hid ((match l.find? (JD f true) with|some x=>.error (5,x.at_)|none=>.ok ({f with rows:=f.rows++[(⟨true,l⟩:Rw)]},j))=R):=qh (by
         rw[<-HT2.out];unfold zbk;simp only[];rw[qv (by rw[HSe.out];exact hS5)];rfl)
        have hm0:=Hk.out.m0;have hs0:=Hk.out.s0;have hpb:=zeM (a:=f.most-1) (b:=f.shift) (by omega) (by omega) hs0.1 hs0.2;have HUb:=qh hpb;have hw0:IntKind.i64.wrap (f.most-1)=f.most-1:=qi _ (by omega);have hw1:IntKind.i64.wrap ((f.most-1)*f.shift)=(f.most-1)*f.shift:=qi _ (by omega);clear HT2 hpb;go_wp2_with fail;go_quiet (fail)
        go_wp2_with fail;generalize ((f.most-1)*f.shift)=U at*;go_loopw [112] (λq wr=>∃k:Nat,k<=l.length/\q=.int .i64 k/\Hid (∀x∈l.take k,JD f true x=false)/\Hid (Below Zp.heap.size Zp wr)) (λq _=>l.length-(intOf q).toNat)
        case atStart=>exact⟨0,qH _,rfl,qh (by simp),qh (Zi (qb _ _) nq)⟩
        case round=>
         obtain⟨k,hk,rfl,hpre,hb⟩:=hrel;by_cases hlt:k<l.length
         ·obtain⟨g,hA,hgs,c0,c1,c2,c3,c4,c5,c6,c7,c8,c9,c10,c11,c12⟩:=Yz.out.XJ hlt;subst hA;have hmem:l.getD k pk∈l:=by
           rw[qj,qA hlt];exact qM hlt
          have hcl:=(Hhk.out _ hmem).cl;have Ye:Hid (JD f true (l.getD k pk)=true->R=.error (5,(l.getD k pk).at_)):=qh (λho=>by
           rw[<-HT3.out,zeJ hlt hpre.out ho])
          have Zq:Hid (JD f true (l.getD k pk)=false->∀x∈l.take (k+1),JD f true x=false):=qh (λho x hx=>by
           rw[qD hlt] at hx;rcases qJ.1 hx with hx|hx
           ·exact hpre.out x hx
           ·have e:x=l.getD k pk:=by
             rw[qj,qA hlt];simpa using hx
            rw[e];exact ho)
          have k0:=(hb.out.cell (p:=⟨g,k*13,none⟩) hgs).trans c0;have k1:=(hb.out.cell (p:=⟨g,k*13+1,none⟩) hgs).trans c1;have k2:=(hb.out.cell (p:=⟨g,k*13+2,none⟩) hgs).trans c2;have k3:=(hb.out.cell (p:=⟨g,k*13+3,none⟩) hgs).trans c3;have k4:=(hb.out.cell (p:=⟨g,k*13+4,none⟩) hgs).trans c4;have k5:=(hb.out.cell (p:=⟨g,k*13+5,none⟩) hgs).trans c5;have k6:=(hb.out.cell (p:=⟨g,k*13+6,none⟩) hgs).trans c6;have k7:=(hb.out.cell (p:=⟨g,k*13+7,none⟩) hgs).trans c7;have k8:=(hb.out.cell (p:=⟨g,k*13+8,none⟩) hgs).trans c8;have k9:=(hb.out.cell (p:=⟨g,k*13+9,none⟩) hgs).trans c9;have k10:=(hb.out.cell (p:=⟨g,k*13+10,none⟩) hgs).trans c10;have k11:=(hb.out.cell (p:=⟨g,k*13+11,none⟩) hgs).trans c11;have k12:=(hb.out.cell (p:=⟨g,k*13+12,none⟩) hgs).trans c12;have hUb:=HUb.out;have hbs:=hb.out.size;have h6:=(hb.out.cell (p:=⟨fb,6,none⟩) Hfb.out).trans e6;have h6a:∀o,(wr.alloc o).cell? ⟨fb,6,none⟩=some (.int .i64 f.most):=λo=>(qw (qa wr o fb (qF Hfb.out hbs))).trans h6;have HB2:=qh (λ(c:Array Value)=>hb.out.alloc hbs (.cells c 108));have Hov:Hid (JD f true (l.getD k pk)=(decide (0<=(l.getD k pk).cls)&&decide (25<=(l.getD k pk).cls+U)&&!(true&&f.most==0))):=qh (by unfold JD;rw[HU.out]);clear c0 c1 c2 c3 c4 c5 c6 c7 c8 c9 c10 c11 c12 hpre hmem;obtain⟨Ah,ch,hvk⟩:=pR (Yz.out.h k hlt);generalize pq.getD k .nilFunc=vk at*;subst hvk;generalize l.getD k pk=x at*;obtain⟨pZ,xref,Z6,xat⟩:=x;simp only[] at k0 k1 k2 k3 k4 k5 k6 k7 k8 k9 k10 k11 k12 hcl Hov Ye Zq;have hw2:IntKind.i64.wrap (pZ+U)=pZ+U:=qi _ (by omega);generalize Zn f.gC Z6=y2 at*;generalize gN Z6 58=y3 at*;generalize gN Z6 47=y4 at*;generalize gN Z6 94=y5 at*;generalize gN Z6 64=y6 at*;generalize gN Z6 39=y8 at*;generalize Qa Z6=YY at*;generalize pt Z6 58=X9 at*;generalize pt Z6 47=y12 at*;by_cases h0:0<=pZ
          ·have d0:decide (0<=pZ)=true:=qt h0;by_cases h25:25<=pZ+U
           ·have d25:decide (25<=pZ+U)=true:=qt h25;by_cases hz:f.most=0
            ·have hz1:(f.most==0)=true:=(by simpa using hz);go_wp2_with fail;go_roundw
             case rel=>exact⟨k+1,by omega,by go_num,qh (Zq.out (by rw[Hov.out];simp[*])),qh (HB2.out _)⟩
             case measure=>simp[intOf];omega
            ·have hz1:(f.most==0)=false:=(by simpa using hz);go_wp2_with fail;refine(gM 5 xat _).mono ?_;rintro e KN ⟨rfl,Qo⟩;have Kp:=(HB2.out _).trans ((Off.of_below Qo (ql _) []).below (HB2.out _).size (λ_ h=>by cases h));exact⟨rfl,XX.out.trans ((Off.of_below Kp (ql _) []).below (qm hBw XX.out.size) (λ_ h=>by cases h)),by rw[Ye.out (by rw[Hov.out];simp[*])];rfl⟩
           ·have d25:decide (25<=pZ+U)=false:=qd h25;go_wp2_with fail;go_roundw
            case rel=>exact⟨k+1,by omega,by go_num,qh (Zq.out (by rw[Hov.out];simp[*])),qh (HB2.out _)⟩
            case measure=>simp[intOf];omega
          ·have d0:decide (0<=pZ)=false:=qd h0;go_wp2_with fail;go_roundw
           case rel=>exact⟨k+1,by omega,by go_num,qh (Zq.out (by rw[Hov.out];simp[*])),qh (HB2.out _)⟩
           case measure=>simp[intOf];omega
         ·obtain rfl:k=l.length:=by omega
          have HR3:Hid (R=.ok ({f with rows:=f.rows++[(⟨true,l⟩:Rw)]},j)):=qh (by
           rw[<-HT3.out,zeo (by have:=hpre.out;rwa [qZ] at this)])
          go_wp2_with fail;refine q9 (qI rfl _ _ _) rfl ?_;rw[HR3.out];exact⟨XX.out.trans ((Off.of_below hb.out (ql _) []).below (qm hBw XX.out.size) (λ_ h=>by cases h)),rfl,zqq.out.below hb.out,Hk2.out,_,Z5.out.below hb.out⟩
   |true=>
    have hjl:=Xu hb;obtain⟨q',rfl⟩:∃q',q=q'+1:=⟨q-1,by omega⟩;have HT2:Hid (zbk f round start (match Kj s f.gC (ZH f round l.length) (j+1) with|.error e=>.error e|.ok (x,j')=>Kx s f round q' (l++[x]) j')=R):=qh (by
     have:=hT.out;unfold Kx at this;rw[qx hb] at this;exact this)
    clear hT hb;obtain⟨r0,r1,r2,r3⟩:=Q3.out.rd.cells;have KT:=Q3.out.st;have hne:sb≠rb:=(by have:=Q3.out.sbl;omega);have hc:((j+1:Nat):Int)=(j:Int)+1:=(by omega);have hw:IntKind.i64.wrap ((j:Int)+1)=(j:Int)+1:=qi _ (by omega);have QJ:=Q3.out.to (by omega) hne;rw[hc] at QJ;have HM5:=qh (Hm.out.pl H.out QJ.off);have hHas:=QJ.its.o;obtain⟨Ai,ci,J5⟩:=pR hHas;subst J5;have s1:w4.cell? ⟨sb,1,none⟩=some (.slice Ai l.length ci):=qc _ _ 1 _ _ (0,0) KT;have hM4:=Hm.out.pl H.out Q3.out.off;have f6:=hM4.cells.2.2.2.2.2.2.1;have hnf:=hM4.ne Q3.out.rd;have hlen:=QJ.len;have Zx:=Xy.out;have hw2:IntKind.i64.wrap (A+(l.length:Int))=A+(l.length:Int):=qi _ (by omega);have QE:=qh QJ;clear QJ hHas KT hM4 Q3;have HwE:Hid (w4.setCell ⟨rb,1,none⟩ (.int .i64 ((j:Int)+1))=w4.setCell ⟨rb,1,none⟩ (.int .i64 ((j:Int)+1))):=qh rfl;generalize Ql:w4.setCell ⟨rb,1,none⟩ (.int .i64 ((j:Int)+1))=W5 at QE HM5;have HW5:=qh Ql;have HL5:Hid (∀line,Calls Tryz.prog 117 #[.pointer (some ⟨rb,0,none⟩),.int .i64 line] W5.drew (zjC rb fb s f.gC W5.drew (Kj s f.gC line (j+1)))):=qh (λline=>
     zkN B rb fb s (j+1) line f.gC vl W5.drew QE.out.drew.rd (Vars.off Hv.out QE.out.drew.off (by simp;omega)) (by omega) (HM5.out.below (Zi (qb _ _) 1)).letM HM5.out.lt (HM5.out.ne QE.out.rd) (λk hk=>(HM5.out.vln QE.out.rd k hk).1) (λk hk=>(HM5.out.vln QE.out.rd k hk).2))
    have HD5:=qh QE.out.drew;clear Ql HwE;cases round with|false=>?_|true=>?_
    have hln:ZH f false l.length=A+(l.length:Int):=(by unfold ZH;rw[HA.out];rfl);rw[hln] at HT2;have JW:=qh (HL5.out (A+(l.length:Int)));clear HL5 hln;generalize hIR:Kj s f.gC (A+(l.length:Int)) (j+1)=IR at*;rotate_left
    focus
     by_cases hm0:f.most=0
     skip
     have hb0:(f.most==0)=true:=(by simpa using hm0);have hln:ZH f true l.length= -1:=(by unfold ZH;rw[hb0];rfl);rw[hln] at HT2;have JW:=qh (HL5.out (-1));clear HL5 hln;generalize hIR:Kj s f.gC (-1) (j+1)=IR at*
     rotate_left
     skip
     have hb0:(f.most==0)=false:=(by simpa using hm0);have hln:ZH f true l.length=A+(l.length:Int):=(by unfold ZH;rw[hb0,HA.out];rfl);rw[hln] at HT2;have JW:=qh (HL5.out (A+(l.length:Int)));clear HL5 hln;generalize hIR:Kj s f.gC (A+(l.length:Int)) (j+1)=IR at*
    all_goals
     have s2:W5.cell? ⟨sb,1,none⟩=some (.slice Ai l.length ci):=qc _ _ 1 _ _ (0,0) QE.out.st;cases IR with
     |error ep=>
      obtain⟨c,p⟩:=ep;have HR2:Hid (R=.error (c,p)):=qh HT2.out.symm;have gI:=qh (λ(w7:World) (QD:Off [rb] W5.drew w7)=>(HD5.out.off.trans QD).below hBw (λk hk=>by simp at hk;omega));clear hIR;go_wp2_with fail;rw[HW5.out];refine wp_region_any (by kernel_rfl) ?_;change wpAny _ _ _ _ _ _ _ (World.drew _)
      refine wpAny_take (i:=0) (v:=?_) rfl (by kernel_rfl) (by kernel_rfl) (by kernel_rfl) (λ_ _ _ h=>h) (zy ⟨by rfl,?_⟩) ?_;rotate_left
      ·intro w;go_simp;try(with_reducible rfl)
      refine wpAny_take (i:=2) (v:=?_) rfl (by kernel_rfl) (by kernel_rfl) (by kernel_rfl) (λ_ _ _ h=>h) (zy ⟨by rfl,?_⟩) ?_;rotate_left
      ·intro w;go_simp;try(with_reducible rfl)
      refine wpAny_take (i:=3) (v:=?_) rfl (by kernel_rfl) (by kernel_rfl) (by kernel_rfl) (λ_ _ _ h=>h) (zy ⟨by rfl,?_⟩) ?_;rotate_left
      ·intro w;go_simp;try(with_reducible rfl)
      refine wpAny_ready (rs:=[1,4]) (by kernel_rfl) (by simp) ?_;refine AllReady.cons rfl (λK hK=>?_) (AllReady.cons rfl (λK hK=>?_) AllReady.nil)
      ·go_simp;refine hK _ _ ?_;clear hK K;refine wpAny_ready (rs:=[4]) (by kernel_rfl) (by simp) ?_;refine AllReady.cons rfl (λK hK=>?_) AllReady.nil;go_simp;refine JW.out.mono ?_;rintro e w7 ⟨QD,he7⟩;have he8:e=vY c p:=he7;subst he8;exact⟨rfl,gI.out w7 QD,by rw[HR2.out];rfl⟩
      ·go_simp;refine JW.out.mono ?_;rintro e w7 ⟨QD,he7⟩;have he8:e=vY c p:=he7;subst he8;exact⟨rfl,gI.out w7 QD,by rw[HR2.out];rfl⟩
     |ok xk=>
      obtain⟨x,k⟩:=xk;have hgt:=zdD hIR;have Hok:=qh (λh=>zen (x:=x) hIR h);have XB:Hid (l.length+1<=maxLen):=qh (by unfold maxLen;omega);have ZW:Hid ((l.length+1)*112<=140737488355328):=qh (by omega);have Hpos:Hid (0<l.length+1):=qh (by omega);have HNx:=qh (λ(w7 w8:World) (vh v':Value) (QD:Off [rb] W5.drew w7) (ZX:Rd w7 rb fb s k) h1 hx hg Vt=>HD5.out.next (B7:=W5.drew.heap.size) (w7:=w7) (w8:=w8) (vh:=vh) (v':=v') (x:=x) hne QD ZX h1 HD5.out.off.size hx (by omega) hg Vt);have zsV:=qh (λ(w7:World) (QD:Off [rb] W5.drew w7)=>(HD5.out.its.off QD (gR.one HD5.out.rd.r) (by decide) (by decide)).o);have Hsz7:=qh (λ(w7:World) (QD:Off [rb] W5.drew w7)=>qm HD5.out.off.size QD.size);have Hs2:=qh (λ(w7:World) (QD:Off [rb] W5.drew w7)=>(QD.cell (qg HD5.out.st).1 (by simp;exact hne):w7.cell? ⟨sb,1,none⟩=W5.drew.cell? ⟨sb,1,none⟩).trans s2);clear hIR;go_wp2_with fail;rw[HW5.out];go_region_law (first
       |(go_simp;go_at_call 117;refine JW.out.mono ?_;rintro e w7 ⟨QD,vh,he7,ZX,zqr,hmk7⟩;subst he7;obtain⟨Ah,ch,hvh,_,_⟩:=zdO zqr;subst hvh;unfold p9;have s3:=Hs2.out w7 QD;have s4:∀o,(w7.alloc o).cell? ⟨sb,1,none⟩=some (.slice Ai l.length ci):=λo=>(qw (qa w7 o sb (qF (qg HD5.out.st).1 QD.size))).trans s3;have zsW:=qh (zsV.out w7 QD);have Hsz:=qh (Hsz7.out w7 QD);have HN:=qh (λw8 v' hg Vt=>HNx.out w7 w8 _ v' QD ZX zqr (Hok.out hmk7) hg Vt);clear QD ZX zqr hmk7)
       |(refine zah w7 (by rfl) (.tmp 54) (.tmp 58) 104 (by rfl) w.heap.size 108 _ _ 13 112 Tryz.underlying104 zjT zjU zjV zhr rfl (by decide) (.slice Ai l.length ci) l.length (uU f.gC l pq) _ _ (by simp[Act.eval,Act.put]) (by simp[Act.eval,Act.put];rfl) (by simp) (by exact zsW.out) rfl (by exact zhs _ _ _ _ _ _ _ _) XB.out ZW.out (by exact Hsz.out) ?_;intro v8 w8 gW Zy Zb;obtain⟨g8,Qf,rfl⟩:=ZR gW Hpos.out;obtain⟨hJ8,c8,z8⟩:=HN.out w8 _ Zy gW;have HJ8:=qh hJ8;clear hJ8 gW Zy Zb))
      all_goals
       go_wp2_with fail;go_roundw
       case rel=>exact⟨l++[x],k,_,_,q',by omega,HJ8,HT2⟩
       case measure=>
        have e1:=HJ8.out.rd.cells.2.1;have e2:=HJ8.out.rd.le;rw[e1,pT.out];simp only[intOf];omega
theorem zgU {s:ByteArray}:∀{t:List Int} {i j:Nat},pp s t i=.ok j->j=i+t.length
 |[],i,j,h=>by unfold pp at h;cases h;rfl
 |c::t,i,j,h=>by
  unfold pp at h;split at h
  ·have:=zgU h;simp only[qB];omega
  ·cases h
theorem KU {s:ByteArray} {t:List Int} {i j:Nat} (h:pz (pp s t i)=.ok j):j=i+t.length:=by
 cases hm:pp s t i with
 |error e=>rw[hm] at h;cases h
 |ok k=>rw[hm] at h;cases h;exact zgU hm
theorem zf1 {s:ByteArray} {least v:Int} {i j:Nat} (hi:i<=s.size) (h:yO s least i=.ok (v,j)):least<=v/\v<=512/\i<j:=by
 unfold yO at h;split at h
 ·cases h
 ·rename_i h1;split at h
  ·cases h
  ·rename_i h2;cases h;have:=Y1 (s:=s) i i hi;omega
theorem Off.keep {rb B:Nat} {w w':World} (h:Off [rb] w w') (hB:B<=w.heap.size) (hr:B<=rb):Below B w w':=h.below hB (λk hk=>by simp at hk;omega)
theorem px.zr8 {w:World} {B fb:Nat} {f:Fm} {vl vm vs:Value} (h:px w B fb f vl vm vs) (n:Int):px (w.setCell ⟨fb,5,none⟩ (.int .i64 n)) B fb {f with least:=n} vl vm vs:=by
 have hos:Off [fb] w (w.setCell ⟨fb,5,none⟩ (.int .i64 n)):=Off.setCell w fb 5 _;have hts:gR w [fb] [92]:=gR.one h.x;obtain⟨cs,hm⟩:=h.m;obtain⟨vis,hr,hi⟩:=h.r;exact⟨qs w fb 5 _ _ _ h.x,h.hB,hos.pd h.l hts (by decide),⟨cs,hm.off hos hts (by decide) (by decide) (by decide) (by decide)⟩,⟨vis,hr.off hos hts (by decide),λk hk=>by
  obtain⟨pq,h2⟩:=hi k hk;exact⟨pq,h2.off hos hts (by decide) (by decide)⟩⟩⟩
theorem px.zr9 {w:World} {B fb:Nat} {f:Fm} {vl vm vs:Value} (h:px w B fb f vl vm vs) (n:Int):px (w.setCell ⟨fb,6,none⟩ (.int .i64 n)) B fb {f with most:=n} vl vm vs:=by
 have hos:Off [fb] w (w.setCell ⟨fb,6,none⟩ (.int .i64 n)):=Off.setCell w fb 6 _;have hts:gR w [fb] [92]:=gR.one h.x;obtain⟨cs,hm⟩:=h.m;obtain⟨vis,hr,hi⟩:=h.r;exact⟨qs w fb 6 _ _ _ h.x,h.hB,hos.pd h.l hts (by decide),⟨cs,hm.off hos hts (by decide) (by decide) (by decide) (by decide)⟩,⟨vis,hr.off hos hts (by decide),λk hk=>by
  obtain⟨pq,h2⟩:=hi k hk;exact⟨pq,h2.off hos hts (by decide) (by decide)⟩⟩⟩
theorem px.set7 {w:World} {B fb:Nat} {f:Fm} {vl vm vs:Value} (h:px w B fb f vl vm vs) (n:Int):px (w.setCell ⟨fb,7,none⟩ (.int .i64 n)) B fb {f with shift:=n} vl vm vs:=by
 have hos:Off [fb] w (w.setCell ⟨fb,7,none⟩ (.int .i64 n)):=Off.setCell w fb 7 _;have hts:gR w [fb] [92]:=gR.one h.x;obtain⟨cs,hm⟩:=h.m;obtain⟨vis,hr,hi⟩:=h.r;exact⟨qs w fb 7 _ _ _ h.x,h.hB,hos.pd h.l hts (by decide),⟨cs,hm.off hos hts (by decide) (by decide) (by decide) (by decide)⟩,⟨vis,hr.off hos hts (by decide),λk hk=>by
  obtain⟨pq,h2⟩:=hi k hk;exact⟨pq,h2.off hos hts (by decide) (by decide)⟩⟩⟩
theorem px.Vw {w:World} {B fb:Nat} {f:Fm} {vl vm vs:Value} (h:px w B fb f vl vm vs) (n:Bool):px (w.setCell ⟨fb,4,none⟩ (.bool n)) B fb {f with rounds:=n} vl vm vs:=by
 have hos:Off [fb] w (w.setCell ⟨fb,4,none⟩ (.bool n)):=Off.setCell w fb 4 _;have hts:gR w [fb] [92]:=gR.one h.x;obtain⟨cs,hm⟩:=h.m;obtain⟨vis,hr,hi⟩:=h.r;exact⟨qs w fb 4 _ _ _ h.x,h.hB,hos.pd h.l hts (by decide),⟨cs,hm.off hos hts (by decide) (by decide) (by decide) (by decide)⟩,⟨vis,hr.off hos hts (by decide),λk hk=>by
  obtain⟨pq,h2⟩:=hi k hk;exact⟨pq,h2.off hos hts (by decide) (by decide)⟩⟩⟩
theorem pb.set {f:Fm} {i j:Nat} {a b c:Int} (h:pb f i) (hij:i<=j) (ha:0<=a/\a<=512) (hb:0<=b/\b<=512) (hc:0<=c/\c<=512) (hab:a<=b):pb {f with least:=a,most:=b,shift:=c} j:=
 ⟨qm h.le hij,ha,hb,hc,hab,⟨h.ll.1,qm h.ll.2 hij⟩,h.it,h.nd,h.lt⟩
structure R3 (W W':World) (B rb fb j:Nat) (s:ByteArray) (f:Fm) (vl vm vs:Value):Prop where
 f:px W' B fb f vl vm vs
 r:Rd W' rb fb s j
 o:Off [fb] W W'
theorem R3.b0 {W:World} {B rb fb j:Nat} {s:ByteArray} {f:Fm} {vl vm vs:Value} (hf:px W B fb f vl vm vs) (hr:Rd W rb fb s j):R3 W W B rb fb j s f vl vm vs:=⟨hf,hr,Off.refl _ _⟩
theorem R3.s5 {W W':World} {B rb fb j:Nat} {s:ByteArray} {f:Fm} {vl vm vs:Value} (h:R3 W W' B rb fb j s f vl vm vs) (n:Int):R3 W (W'.setCell ⟨fb,5,none⟩ (.int .i64 n)) B rb fb j s {f with least:=n} vl vm vs:=
 ⟨h.f.zr8 n,h.r.off (Off.setCell W' fb 5 _) (by have:=h.f.ne h.r;simp;omega),h.o.trans (Off.setCell W' fb 5 _)⟩
theorem R3.s6 {W W':World} {B rb fb j:Nat} {s:ByteArray} {f:Fm} {vl vm vs:Value} (h:R3 W W' B rb fb j s f vl vm vs) (n:Int):R3 W (W'.setCell ⟨fb,6,none⟩ (.int .i64 n)) B rb fb j s {f with most:=n} vl vm vs:=
 ⟨h.f.zr9 n,h.r.off (Off.setCell W' fb 6 _) (by have:=h.f.ne h.r;simp;omega),h.o.trans (Off.setCell W' fb 6 _)⟩
theorem R3.s7 {W W':World} {B rb fb j:Nat} {s:ByteArray} {f:Fm} {vl vm vs:Value} (h:R3 W W' B rb fb j s f vl vm vs) (n:Int):R3 W (W'.setCell ⟨fb,7,none⟩ (.int .i64 n)) B rb fb j s {f with shift:=n} vl vm vs:=
 ⟨h.f.set7 n,h.r.off (Off.setCell W' fb 7 _) (by have:=h.f.ne h.r;simp;omega),h.o.trans (Off.setCell W' fb 7 _)⟩
theorem R3.dr {W W':World} {B rb fb j:Nat} {s:ByteArray} {f:Fm} {vl vm vs:Value} (h:R3 W W' B rb fb j s f vl vm vs):R3 W.drew W'.drew B rb fb j s f vl vm vs:=
 ⟨h.f.below (Zi (qb _ _) 1),h.r.below (Zi (qb _ _) 1),⟨h.o.os,h.o.tape,h.o.output,h.o.size,h.o.block⟩⟩
theorem zgV (B rb fb:Nat) (s:ByteArray) (f:Fm) (i i0:Nat) (vl vm vs:Value) (w:World) (h:Rd w rb fb s i) (hv:Vars w) (h9:9<=B) (hB:B<=rb) (hm:px w B fb f vl vm vs) (hk:pb f i0) (hi0:i0<=i):
  Calls Tryz.prog 94 #[.pointer (some ⟨rb,0,none⟩),.int .i64 i] w (zfY B rb fb s vl vm w (Yb s f i)):=by
 have hsz:=h.sz;have hle:=h.le;have hrb:=h.lt;have pW:=hm.lt;have hBw:B<=w.heap.size:=by omega
 obtain⟨q0,q1,q2,q3⟩:=h.cells;have g4:=hm.cells.2.2.2.2.1;generalize hR:Yb s f i=R;have H:=qh h;have Hv:=qh hv;have Hm:=qh hm;have Hk:=qh hk;unfold Yb at hR;cases hrs:f.rounds with
 |true=>
  rw[hrs] at g4;rw[qx hrs] at hR;clear h hv hm hk;go_enter Tryz.func94,Tryz.ntmps94;go_wp2_with fail;refine(gM 180 i w).mono ?_;rintro e w1 ⟨rfl,hb1⟩;exact⟨rfl,(Off.of_below hb1 (ql _) [rb]).keep hBw hB,by rw[<-hR];rfl⟩
 |false=>
  rw[hrs] at g4;rw[qv (by rw[hrs];simp)] at hR;have HR:=qh hR;clear hR;have Hr0:=qh h;have Ho0:Hid (Off [rb] w w):=qh (Off.refl _ _);have HU0:Hid (0<=i):=qh (by omega);have pT:=qh (zbW rb fb s ⟨#[114,111,117,110,100,32]⟩ i w h (by decide));clear h hv hm hk;go_enter Tryz.func94,Tryz.ntmps94;go_wp2_with fail;refine pT.out.mono ?_;rintro e w1 QK;have hst:Yc rb fb s w (.tuple #[]) (pz (pp s ROUND i)) e w1:=QK;clear QK pT;cases hX:pz (pp s ROUND i) with
  |error ep=>
   obtain⟨c,p⟩:=ep;have hR2:=HR.out;rw[hX] at hst hR2;obtain⟨rfl,ho⟩:=hst;exact⟨rfl,(Ho0.out.trans ho).keep hBw hB,by rw[<-hR2];rfl⟩
  |ok j1=>
   have hR2:=HR.out;rw[hX] at hst hR2;simp only[] at hR2;obtain⟨rfl,hrd,ho⟩:=hst;have hlen:=KU hX;have Hj1:Hid (i<=j1):=qh (by omega);clear HR hlen hX;have HR:=qh hR2;have Y6:=qh hrd;have Ho1:=qh (Ho0.out.trans ho);clear hR2 hrd ho;have YA:=qh (zcq rb fb s j1 0 w1 Y6.out (Vars.off Hv.out Ho1.out (by simp;omega)) (by omega) (by omega) (by omega));go_wp2_with fail;refine YA.out.mono ?_;rintro e w2 ⟨ho,hst⟩;clear YA;cases hX:yO s 0 j1 with
   |error ep=>
    obtain⟨c,p⟩:=ep;have hR2:=HR.out;rw[hX] at hst hR2;subst hst;exact⟨rfl,(Ho1.out.trans ho).keep hBw hB,by rw[<-hR2];rfl⟩
   |ok vj=>
    obtain⟨v2,j2⟩:=vj;have hR2:=HR.out;rw[hX] at hst hR2;simp only[] at hR2;obtain⟨rfl,hrd⟩:=hst;have Hb2:=qh (zf1 Y6.out.le hX);clear HR hX;have HR:=qh hR2;have Hr2:=qh hrd;have Ho2:=qh (Ho1.out.trans ho);clear hR2 hrd ho;have pT:=qh (zbW rb fb s ⟨#[32]⟩ j2 w2 Hr2.out (by decide));go_wp2_with fail;refine pT.out.mono ?_;rintro e w3 QK;have hst:Yc rb fb s w2 (.tuple #[]) (pz (pp s [32] j2)) e w3:=QK;clear QK pT;cases hX:pz (pp s [32] j2) with
    |error ep=>
     obtain⟨c,p⟩:=ep;have hR2:=HR.out;rw[hX] at hst hR2;obtain⟨rfl,ho⟩:=hst;exact⟨rfl,(Ho2.out.trans ho).keep hBw hB,by rw[<-hR2];rfl⟩
    |ok j3=>
     have hR2:=HR.out;rw[hX] at hst hR2;simp only[] at hR2;obtain⟨rfl,hrd,ho⟩:=hst;have hlen:=KU hX;have Hj3:Hid (j2<=j3):=qh (by omega);clear HR hlen hX;have HR:=qh hR2;have Hr3:=qh hrd;have Ho3:=qh (Ho2.out.trans ho);clear hR2 hrd ho;obtain⟨a0,a1,a2,a3⟩:=Hr3.out.cells;have YA:=qh (zcq rb fb s j3 0 w3 Hr3.out (Vars.off Hv.out Ho3.out (by simp;omega)) (by omega) (by omega) (by omega));go_wp2_with fail;refine YA.out.mono ?_;rintro e w4 ⟨ho,hst⟩;clear YA;cases hX:yO s 0 j3 with
     |error ep=>
      obtain⟨c,p⟩:=ep;have hR2:=HR.out;rw[hX] at hst hR2;subst hst;exact⟨rfl,(Ho3.out.trans ho).keep hBw hB,by rw[<-hR2];rfl⟩
     |ok vj=>
      obtain⟨v4,j4⟩:=vj;have hR2:=HR.out;rw[hX] at hst hR2;simp only[] at hR2;obtain⟨rfl,hrd⟩:=hst;have Hb4:=qh (zf1 Hr3.out.le hX);clear HR hX;have HR:=qh hR2;have XF:=qh hrd;have Yu:=qh (Ho3.out.trans ho);clear hR2 hrd ho;by_cases hlt:v4<v2
      ·have HR2:Hid (R=.error (2,j3)):=qh (by rw[<-HR.out,qx hlt]);go_wp2_with fail;refine(gM 2 j3 w4).mono ?_;rintro e w5 ⟨rfl,hb5⟩;exact⟨rfl,(Yu.out.trans (Off.of_below hb5 (ql _) [rb])).keep hBw hB,by rw[HR2.out];rfl⟩
      ·have Yw:=HR.out;rw[qv hlt] at Yw;clear HR;have HR:=qh Yw;clear Yw;have pT:=qh (zbW rb fb s ⟨#[32]⟩ j4 w4 XF.out (by decide));go_wp2_with fail;refine pT.out.mono ?_;rintro e w5 QK;have hst:Yc rb fb s w4 (.tuple #[]) (pz (pp s [32] j4)) e w5:=QK;clear QK pT;cases hX:pz (pp s [32] j4) with
       |error ep=>
        obtain⟨c,p⟩:=ep;have hR2:=HR.out;rw[hX] at hst hR2;obtain⟨rfl,ho⟩:=hst;exact⟨rfl,(Yu.out.trans ho).keep hBw hB,by rw[<-hR2];rfl⟩
       |ok j5=>
        have hR2:=HR.out;rw[hX] at hst hR2;simp only[] at hR2;obtain⟨rfl,hrd,ho⟩:=hst;have hlen:=KU hX;have Hj5:Hid (j4<=j5):=qh (by omega);clear HR hlen hX;have HR:=qh hR2;have Jf:=qh hrd;have ZA:=qh (Yu.out.trans ho);clear hR2 hrd ho;have YA:=qh (zcq rb fb s j5 0 w5 Jf.out (Vars.off Hv.out ZA.out (by simp;omega)) (by omega) (by omega) (by omega));go_wp2_with fail;refine YA.out.mono ?_;rintro e w6 ⟨ho,hst⟩;clear YA;cases hX:yO s 0 j5 with
        |error ep=>
         obtain⟨c,p⟩:=ep;have hR2:=HR.out;rw[hX] at hst hR2;subst hst;exact⟨rfl,(ZA.out.trans ho).keep hBw hB,by rw[<-hR2];rfl⟩
        |ok vj=>
         obtain⟨v6,j6⟩:=vj;have hR2:=HR.out;rw[hX] at hst hR2;simp only[] at hR2;obtain⟨rfl,hrd⟩:=hst;have Hb6:=qh (zf1 Jf.out.le hX);clear HR hX;have HR:=qh hR2;have Hr6:=qh hrd;have Y8:=qh (ZA.out.trans ho);clear hR2 hrd ho;have Xc:=Hm.out.pl H.out Y8.out;obtain⟨b0,b1,b2,b3⟩:=Hr6.out.cells;obtain⟨f0,f1,f2,f3,f4,f5,f6,f7⟩:=Xc.cells;have z5:=Xc.z 5;have z6:=Xc.z 6;have z7:=Xc.z 7;have hnf:=Xc.ne Hr6.out;have hnf2:rb≠fb:=λe=>hnf e.symm;have Hm6:=qh Xc;have HF:=qh (R3.b0 Xc Hr6.out);have KV:=qh Xc.lt;clear a0 a1 a2 a3 q0 q1 q2 q3 g4 Xc f0 f1 f2 f3 f4;go_upto_region 11 with fail
         go_cut [57] from 38 to 58 (λv57 wx=>Hid (∃W7,R3 W7 wx B rb fb j6 s {f with least:=v2,most:=v4,shift:=v6} vl vm vs/\Below w6.heap.size w6 W7/\fb<w6.heap.size))
         case first=>
          go_region
          all_goals
           go_wp2_with fail;go_meet
           first
            |exact qh ⟨w6.drew,R3.s7 (R3.s6 (R3.s5 HF.out.dr v2) v4) v6,Zi (qb _ _) 1,KV.out⟩
            |exact qh ⟨w6.drew,R3.s7 (R3.s5 (R3.s6 HF.out.dr v4) v2) v6,Zi (qb _ _) 1,KV.out⟩
            |exact qh ⟨w6.drew,R3.s6 (R3.s7 (R3.s5 HF.out.dr v2) v6) v4,Zi (qb _ _) 1,KV.out⟩
            |exact qh ⟨w6.drew,R3.s6 (R3.s5 (R3.s7 HF.out.dr v6) v2) v4,Zi (qb _ _) 1,KV.out⟩
            |exact qh ⟨w6.drew,R3.s5 (R3.s7 (R3.s6 HF.out.dr v4) v6) v2,Zi (qb _ _) 1,KV.out⟩
            |exact qh ⟨w6.drew,R3.s5 (R3.s6 (R3.s7 HF.out.dr v6) v4) v2,Zi (qb _ _) 1,KV.out⟩
         case rest=>
          obtain⟨W8,hW8⟩:∃W8:World,W8=wc:=⟨_,rfl⟩;subst hW8;obtain⟨W7,h3,QX,hf7⟩:=hcut.out;have zsa:=Y8.out.keep hBw hB;have zsb:=zsa.trans ((Off.of_below QX (ql _) []).below (qm hBw zsa.size) (λ_ h=>by cases h));have zsc:=zsb.trans (h3.o.below (qm hBw zsb.size) (λk hk=>by have:=Hm.out.hB;simp at hk;omega));have Hb8:=qh zsc;have b2:=Hb2.out;have b4:=Hb4.out;have b6:=Hb6.out;have hj1:=Hj1.out;have hj3:=Hj3.out;have hj5:=Hj5.out;have pg:=qh (zdR B rb fb s {f with least:=v2,most:=v4,shift:=v6} true i j6 i0 vl vm vs W8 h3.r (Vars.below Hv.out zsc h9) h9 hB h3.f (Hk.out.set (ql _) ⟨by omega,by omega⟩ ⟨by omega,by omega⟩ ⟨by omega,by omega⟩ (by omega)) (by omega));clear hcut h3 QX hf7 zsa zsb zsc b0 b1 b2 b3 f5 f6 f7 z5 z6 z7;go_wp2_with fail;refine pg.out.mono ?_;rintro e w9 ⟨gQ,hst⟩;cases hX:Kd s {f with least:=v2,most:=v4,shift:=v6} true i j6 with
          |error ep=>
           obtain⟨c,p⟩:=ep;have hR2:=HR.out;rw[hX] at hst hR2;subst hst;exact⟨rfl,Hb8.out.trans gQ,by rw[<-hR2];rfl⟩
          |ok fj=>
           obtain⟨f',j⟩:=fj;have hR2:=HR.out;rw[hX] at hst hR2;simp only[] at hR2;obtain⟨rfl,hrd,hk9,vs',hm9⟩:=hst;obtain⟨c0,c1,c2,c3⟩:=hrd.cells;have g4:=hm9.cells.2.2.2.2.1;have z4:=hm9.z 4;have hos:=Off.setCell w9 fb 4 (.bool true);have hne:=hm9.ne hrd;have hfb9:=hm9.hB;have gI:Hid (zfY B rb fb s vl vm w R (.returned (.tuple #[])) (w9.setCell ⟨fb,4,none⟩ (.bool true))):=qh (by
            rw[<-hR2];exact⟨(Hb8.out.trans gQ).trans (hos.below (by have:=hm9.lt;omega) (λk hk=>by simp at hk;omega)),rfl,hrd.off hos (by simp;omega),⟨hk9.le,hk9.l0,hk9.m0,hk9.s0,hk9.lm,hk9.ll,hk9.it,hk9.nd,hk9.lt⟩,vs',hm9.Vw true⟩)
           clear HR hR2 hX hrd hk9 hm9 hos gQ pg;go_wp2_with fail;refine q9 (qI rfl _ _ _) rfl ?_;exact gI.out
end Go.Proofs.YtgklikkddckgbaaGreatDoor.Mo
namespace Go.Proofs.YtgklikkddckgbaaGreatDoor
open Go
def zeb:List Bool->Nat
 |[]=>0
 |b::l=>(if b then 0 else 1)+zeb l
theorem zeN:∀(l:List Bool) (i:Nat),l[i]?=some false->zeb (l.set i true)+1=zeb l
 |[],i,h=>by simp at h
 |b::l,0,h=>by
  simp at h;subst h;simp[zeb];omega
 |b::l,i+1,h=>by
  simp at h;have:=zeN l i h;simp[zeb];omega
theorem zdS:∀(l:List Bool),zeb l=0->∀i:Nat,l[i]?≠some false
 |[],_,i=>by simp
 |b::l,h,0=>by
  simp[zeb] at h;intro e;simp at e;rw[e] at h;simp at h
 |b::l,h,i+1=>by
  simp only[zeb] at h;simpa using zdS l (by omega) i
section
variable {P:Program} {ops:Array Oper} {Q:Exit->Act->World->Prop} {md:Region.Mode} {S:World->Prop} {X:Nat->Bool}
theorem zcg {listed:Array Bool} {i:Nat} (h:i∈Region.ready md ops listed):listed.toList[i]?=some false:=by
 have h1:=(yL.1 h).1;rw[Array.getElem?_toList];cases hq:listed[i]? with
 |none=>simp[Array.getD_eq_getD_getElem?,hq] at h1
 |some b=>simp[Array.getD_eq_getD_getElem?,hq] at h1;rw[h1]
def Vx (P:Program) (md:Region.Mode) (ops:Array Oper) (Q:Exit->Act->World->Prop) (S:World->Prop) (X:Nat->Bool):Nat->Array Bool->Act->World->Prop
 |0,listed,a,w=>Region.ready md ops listed=[]/\Q .normal a w
 |fuel+1,listed,a,w=>
  (Region.ready md ops listed=[]->Q .normal a w)/\
  ∀i∈Region.ready md ops listed,wpOp P ops Q i (λa' w'=>(X i=true∨S w')/\Vx P md ops Q S X fuel (listed.setIfInBounds i true) a' w') a w
theorem zfq:∀(fuel:Nat) (listed:Array Bool) (a:Act) (w:World),Vx P md ops Q S X fuel listed a w->wpAny P md ops Q fuel listed a w
 |0,_,_,_,h=>h
 |fuel+1,_,_,_,h=>⟨h.1,λi hi=>wpOp_mono (λa' w' h'=>zfq fuel _ a' w' h'.2) (h.2 i hi)⟩
def zj8 (md:Region.Mode) (ops:Array Oper) (X:Nat->Bool) (i:Nat):Prop:=∀x o,X x=true->ops[x]?=some o->∃e∈o.after,Region.binds md e=true/\e.on=i
theorem zgW {i:Nat} {oi:Oper} {v:Value} (hi:ops[i]?=some oi) (hsel:∀(j:Nat) (o:Oper) cs b,ops[j]?=some o->o.op≠.select cs b)
  (hQ:∀c a w,Q (.panic c) (a.put oi.dst v) w->Q (.panic c) a w) (hX:zj8 md ops X i) (hXi:X i=false):
  ∀(fuel:Nat) (listed:Array Bool) (a:Act) (w:World),
   (∀j oj,ops[j]?=some oj->j≠i->listed.getD j true=false->(∀e∈oj.after,Region.binds md e=true->e.on≠i)->oi.apart ops oj=true)->
   i∈Region.ready md ops listed->YieldsIf P ops S oi v a->S w->
   Vx P md ops Q S X fuel (listed.setIfInBounds i true) (a.put oi.dst v) w->Vx P md ops Q S X (fuel+1) listed a w:=by
 intro fuel;induction fuel with
 |zero=>
  intro listed a w _ hr hy hS H;refine⟨λh=>(by rw[h] at hr;cases hr),λj hj=>?_⟩;by_cases hji:j=i
  ·subst hji;exact hy.wpOp hi hS ⟨.inr hS,H⟩
  ·have:=ready_mono hj hji;rw[H.1] at this;cases this
 |succ fuel ih=>
  intro listed a w hfree hr hy hS H;refine⟨λh=>(by rw[h] at hr;cases hr),λj hj=>?_⟩;by_cases hji:j=i
  ·subst hji;exact hy.wpOp hi hS ⟨.inr hS,H⟩
  ·have h1:=H.2 j (ready_mono hj hji);obtain⟨hjun,oj,hoj,hall⟩:=yL.1 hj;have hnot:∀e∈oj.after,Region.binds md e=true->e.on≠i:=λe he hb heq=>by
    have h1:=hall e he hb;have h0:=(yL.1 hr).1;rw[heq] at h1;rcases Nat.lt_or_ge i listed.size with h'|h'
    ·simp[h'] at h0 h1;rw[h0] at h1;cases h1
    ·simp[Array.getElem?_eq_none h'] at h1
   have hXj:¬X j=true:=λhx=>by
    obtain⟨e,he,hb,ho⟩:=hX j oj hx hoj;exact hnot e he hb ho
   have h2:=wpOp_putIf hoj (hfree j oj hoj hji hjun hnot) (λcs b=>hsel i oi cs b hi) (λcs b=>hsel j oj cs b hoj) hQ hy h1
   have hfree':∀k ok,ops[k]?=some ok->k≠i->(listed.setIfInBounds j true).getD k true=false->
     (∀e∈ok.after,Region.binds md e=true->e.on≠i)->oi.apart ops ok=true:=λk ok hk hki hun hno=>by
    refine hfree k ok hk hki ?_ hno;by_cases hjk:j=k
    ·subst hjk;exact hjun
    ·rw[getD_set_ne true hjk] at hun;exact hun
   refine wpOp_mono (λa' w' h3=>?_) h2;have hSw:S w':=h3.2.1.resolve_left hXj;refine⟨.inr hSw,ih (listed.setIfInBounds j true) a' w' hfree' (ready_mono hr (Ne.symm hji)) h3.1 hSw ?_⟩;rw[zG _ _ hji];exact h3.2.2
def zmi (md:Region.Mode) (ops:Array Oper) (xs:List Nat) (i:Nat):Bool:=xs.all λx=>match ops[x]? with|some o=>o.after.any λe=>Region.binds md e&&e.on==i|none=>true
theorem ziP {xs:List Nat} {i:Nat} (h:zmi md ops xs i=true):zj8 md ops (λx=>xs.contains x) i:=λx o hx ho=>by
 have h1:=zN.1 h x (by simpa using hx);rw[ho] at h1;obtain⟨k,hk,h2⟩:=Array.any_eq_true.1 h1;simp only[qz,jw] at h2;exact⟨_,Array.getElem_mem hk,h2.1,h2.2⟩
variable {xs:List Nat}
theorem JG {i:Nat} {oi:Oper} {v:Value} {fuel:Nat} {listed:Array Bool} {a:Act} {w:World} (hi:ops[i]?=some oi)
  (hs:Region.noSelect ops=true) (hf:Region.free md ops listed i=true) (hr:(Region.ready md ops listed).contains i=true) (hx:(zmi md ops xs i&&!xs.contains i)=true)
  (hQ:∀c a w,Q (.panic c) (a.put oi.dst v) w->Q (.panic c) a w) (hy:YieldsIf P ops S oi v a) (hS:S w)
  (h:Vx P md ops Q S (λx=>xs.contains x) fuel (listed.setIfInBounds i true) (a.put oi.dst v) w):Vx P md ops Q S (λx=>xs.contains x) (fuel+1) listed a w:=
 zgW hi (Region.noSelect_spec hs) hQ (ziP (Bool.and_eq_true_iff.1 hx).1) (by simpa using(Bool.and_eq_true_iff.1 hx).2) fuel listed a w (Region.free_spec hi hf) (by simpa using hr) hy hS h
theorem zbL {i:Nat} {fuel:Nat} {listed:Array Bool} {a:Act} {w:World} (hr:Region.ready md ops listed=[i])
  (h:wpOp P ops Q i (λa' w'=>(X i=true∨S w')/\Vx P md ops Q S X fuel (listed.setIfInBounds i true) a' w') a w):Vx P md ops Q S X (fuel+1) listed a w:=
 ⟨(λh0=>absurd (hr▸h0) (by simp)),λj hj=>by
   rw[hr] at hj;obtain rfl:j=i:=by simpa using hj
   exact h⟩
theorem zhv {listed:Array Bool} {a:Act} {w:World} (hr:Region.ready md ops listed=[]) (h:Q .normal a w):∀fuel,Vx P md ops Q S X fuel listed a w
 |0=>⟨hr,h⟩
 |_+1=>⟨λ_=>h,by rw[hr];simp⟩
theorem zhw {id:Nat} {a:Act} {w:World} (hm:P.follows .mixedOrders=true)
  (h:Vx P .any ops Q S X ops.size (Array.replicate ops.size false) a w.drew):(Code.region id ops true).wp P Q a w:=
 wp_region_any hm (zfq _ _ _ _ h)
theorem zfr (I:Array Bool->Act->World->Prop)
  (hend:∀listed a w,I listed a w->Region.ready md ops listed=[]->Q .normal a w)
  (hstep:∀listed a w i,I listed a w->i∈Region.ready md ops listed->wpOp P ops Q i (λa' w'=>(X i=true∨S w')/\I (listed.setIfInBounds i true) a' w') a w):
  ∀(fuel:Nat) (listed:Array Bool) (a:Act) (w:World),zeb listed.toList<=fuel->I listed a w->Vx P md ops Q S X fuel listed a w
 |0,listed,a,w,hf,hI=>by
  have hr:Region.ready md ops listed=[]:=List.eq_nil_iff_forall_not_mem.2 λi hi=>zdS _ (by omega) i (zcg hi);exact⟨hr,hend _ _ _ hI hr⟩
 |fuel+1,listed,a,w,hf,hI=>by
  refine⟨λhr=>hend _ _ _ hI hr,λi hi=>wpOp_mono (λa' w' h=>⟨h.1,zfr I hend hstep fuel _ a' w' ?_ h.2⟩) (hstep _ _ _ i hI hi)⟩;have:=zeN _ _ (zcg hi);rw[Array.toList_setIfInBounds];omega
theorem zeO (I:Array Bool->Act->World->Prop)
  (hend:∀listed a w,I listed a w->Region.ready md ops listed=[]->False)
  (hstep:∀fuel listed a w i,zeb listed.toList<=fuel+1->I listed a w->i∈Region.ready md ops listed->wpOp P ops Q i (λa' w'=>(X i=true∨S w')/\(I (listed.setIfInBounds i true) a' w'∨Vx P md ops Q S X fuel (listed.setIfInBounds i true) a' w')) a w):
  ∀(fuel:Nat) (listed:Array Bool) (a:Act) (w:World),zeb listed.toList<=fuel->I listed a w->Vx P md ops Q S X fuel listed a w
 |0,listed,a,w,hf,hI=>by
  have hr:Region.ready md ops listed=[]:=List.eq_nil_iff_forall_not_mem.2 λi hi=>zdS _ (by omega) i (zcg hi);exact(hend _ _ _ hI hr).elim
 |fuel+1,listed,a,w,hf,hI=>by
  refine⟨λhr=>(hend _ _ _ hI hr).elim,λi hi=>wpOp_mono (λa' w' h=>⟨h.1,?_⟩) (hstep fuel _ _ _ i hf hI hi)⟩;rcases h.2 with h2|h2
  ·refine zeO I hend hstep fuel _ a' w' ?_ h2;have:=zeN _ _ (zcg hi);rw[Array.toList_setIfInBounds];omega
  ·exact h2
theorem JT {i:Nat} {o:Oper} {a:Act} {w:World} {K:Act->World->Prop} (hi:ops[i]?=some o) (hg:o.guard=none) (h:o.wp P a w K Q):wpOp P ops Q i K a w:=by
 unfold wpOp;rw[hi];have hw:Region.wanted o (yielded ops a.tmps)=true:=by simp[Region.wanted,hg]
 simp only[hw,kV];exact .inl h
theorem zcM {listed:Array Bool} {i:Nat} {o:Oper} (hr:Region.ready md ops listed=[]) (ho:ops[i]?=some o) (hall:(o.after.all λe=>!Region.binds md e||listed.getD e.on false)=true):listed.getD i true=true:=by
 cases hq:listed.getD i true with
 |true=>rfl
 |false=>
  have hm:i∈Region.ready md ops listed:=yL.2 ⟨hq,o,ho,λe he hb=>by
   have h1:=Array.all_eq_true'.1 hall e he;rw[hb] at h1;simpa using h1⟩
  rw[hr] at hm;cases hm
theorem zcN {listed:Array Bool} {i:Nat} {o:Oper} (h:i∈Region.ready md ops listed) (ho:ops[i]?=some o) (k:Nat) (hk:(o.after.any λe=>Region.binds md e&&e.on==k)=true):listed.getD k false=true:=by
 obtain⟨_,o',ho',hall⟩:=yL.1 h;obtain rfl:o=o':=kO (ho.symm.trans ho');obtain⟨j,hj,h2⟩:=Array.any_eq_true.1 hk;simp only[qz,jw] at h2;have:=hall _ (Array.getElem_mem hj) h2.1;rw[h2.2] at this;exact this
end
end Go.Proofs.YtgklikkddckgbaaGreatDoor
namespace Go.Proofs.YtgklikkddckgbaaGreatDoor.Mo
open Go.RowKit
def PB (N:Nat) (L:List Tok):Prop:=∀t∈L,t.1<=N
theorem PB.hd {N:Nat} {L:List Tok} (h:PB N L):(hd L).1<=N:=by
 cases L with
 |nil=>exact qH _
 |cons t l=>exact h t (by simp)
theorem PB.gL {N:Nat} {L:List Tok} (h:PB N L):PB N (gL L):=by
 match L,h with
 |[],h=>exact h
 |[x],h=>exact h
 |x::y::l,h=>exact λt ht=>h t (zM _ ht)
theorem PB.toks {s:ByteArray}:∀(n p:Nat),s.size-p=n->p<=s.size->PB s.size (toks s p):=by
 intro n;induction n using Nat.strongRecOn with
 |_ n ih=>
  intro p hn hp;by_cases h:pJ s p<s.size
  ·rw[zc8 h hp];intro t ht;rcases zi.1 ht with rfl|ht
   ·exact zJ h
   ·have h1:=zch (s:=s) p hp;have h2:=zed (s:=s) (pJ s p) h;have h3:=zcU (s:=s) (pJ s p) (by omega);exact ih (s.size-Zf s (pJ s p)) (by omega) _ rfl (by omega) t ht
  ·rw[zcm h];intro t ht;obtain rfl:t=_:=by simpa using ht
   exact ql _
def ziQ (N:Nat):ZP->Prop
 |.error (c,p)=>c≠0/\p<=N
 |.ok (L,_)=>PB N L
def zlq (N:Nat):Except (Int×Nat) Met->Prop
 |.error (c,p)=>c≠0/\p<=N
 |.ok _=>True
theorem zlr {N:Nat} {n:Int} {a:Nat} {L:List Tok} {m:Met} (h:PB N L) (ha:a<=N):ziQ N (Xi n a L m):=by
 unfold Xi;split
 ·split
  ·exact h.gL
  ·exact⟨by decide,ha⟩
 ·rename_i hc;exact⟨hc,h.hd⟩
theorem zlV {N:Nat} {L:List Tok} {m:Met} (h:PB N L):ziQ N (JY L m):=by
 unfold JY;split
 ·split
  ·exact zlr h.gL h.hd
  ·rename_i hc;exact⟨hc,h.hd⟩
 ·exact zlr h h.hd
theorem zj9 {N:Nat}:∀(f:Nat) (L:List Tok) (m:Met) (i n:Nat) (all:Bool),PB N L->ziQ N (Zv f L m i n all)
 |0,_,_,_,_,_,_=>⟨by decide,qH _⟩
 |f+1,L,m,i,n,all,h=>by
  unfold Zv;split
  ·split
   ·split
    ·split
     ·exact zj9 f _ _ _ _ _ h.gL.gL.gL
     ·exact h.gL.gL
    ·rename_i hc;exact⟨hc,h.gL.hd⟩
   ·rename_i hc;exact⟨hc,h.hd⟩
  ·rename_i hc;exact⟨hc,h.hd⟩
theorem zls {N:Nat}:∀(f:Nat) (L:List Tok) (m:Met),PB N L->ziQ N (ZG f L m)
 |0,_,_,_=>⟨by decide,qH _⟩
 |f+1,L,m,h=>by
  unfold ZG;split
  ·split
   ·exact⟨by decide,h.hd⟩
   ·split
    ·exact⟨by decide,h.hd⟩
    ·split
     ·split
      ·exact zls f _ _ h.gL.gL.gL
      ·exact h.gL.gL
     ·rename_i hc;exact⟨hc,h.gL.hd⟩
  ·exact⟨by decide,h.hd⟩
theorem zlW {N:Nat} {L:List Tok} {m:Met} (h:PB N L):ziQ N (Ya L m):=by
 unfold Ya;split
 ·split
  ·exact h.gL.gL
  ·rename_i hc;exact⟨hc,h.gL.hd⟩
 ·rename_i hc;exact⟨hc,h.hd⟩
theorem zk0 {N:Nat} {L:List Tok} {m:Met} (h:PB N L):ziQ N (QL L m):=by
 unfold QL;split
 ·exact zj9 _ _ _ _ _ _ h.gL
 ·split
  ·exact zls _ _ _ h.gL
  ·split
   ·exact zlW h.gL
   ·split
    ·split
     ·exact zj9 _ _ _ _ _ _ h.gL
     ·rename_i hc;exact⟨hc,h.hd⟩
    ·exact⟨by decide,h.hd⟩
theorem zgX {N:Nat}:∀(f:Nat) (L:List Tok) (m:Met),PB N L->zlq N (Ki f L m)
 |0,_,_,_=>⟨by decide,qH _⟩
 |f+1,L,m,h=>by
  unfold Ki;split
  ·trivial
  ·split
   ·have hc:=zk0 (m:=m) h.gL;cases hq:QL (gL L) m with
    |error x=>rw[hq] at hc;exact hc
    |ok x=>rw[hq] at hc;exact zgX f _ _ hc
   ·exact⟨by decide,h.hd⟩
theorem ziu {N:Nat}:∀(f:Nat) (L:List Tok) (m:Met),PB N L->zlq N (Jl f L m)
 |0,_,_,_=>⟨by decide,qH _⟩
 |f+1,L,m,h=>by
  unfold Jl;have hc:=zlV (m:=m) h;cases hq:JY L m with
  |error x=>rw[hq] at hc;exact hc
  |ok x=>
   rw[hq] at hc;simp only[];split
   ·exact ziu f _ _ hc.gL
   ·exact zgX _ _ _ hc
theorem zf2 {s:ByteArray} {c:Int} {p:Nat} (hs:s.size<=65536) (h:Zg s=.error (c,p)):c≠0/\p<=s.size:=by
 unfold Zg at h;rw[qv (by omega)] at h;have:=ziu (toks s 0).length (toks s 0) Met.zero (PB.toks (s:=s) _ 0 rfl (qH _));rw[h] at this;exact this
def zmj (B rb fb:Nat) (s:ByteArray) (w:World) (r:Except (Int×Nat) (Fm×Nat)) (e:Ending) (w':World):Prop:=Below B w w'/\
 match r with
 |.error (c,p)=>e=vY c p
 |.ok (f',j)=>e=.returned (.tuple #[])/\Rd w' rb fb s j/\pb f' j/\∃YB Vy vs',px w' B fb f' YB Vy vs'
end Go.Proofs.YtgklikkddckgbaaGreatDoor.Mo


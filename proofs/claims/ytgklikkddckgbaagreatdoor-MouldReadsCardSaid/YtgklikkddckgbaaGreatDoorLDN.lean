import Derived.Test.YtgklikkddckgbaaGreatDoorLDK
/- Lemmas. -/
set_option linter.all false
set_option maxRecDepth 100000
set_option maxHeartbeats 8000000
namespace Go.Proofs.YtgklikkddckgbaaGreatDoor.Mo
open Go.RowKit
theorem Yb.fin2 {w W w8:World} {B rb fb sb:Nat} {s:ByteArray} {f:Fm} {round:Bool} {i i1:Nat} {l:List It} {j:Nat} {vi vl vm vs v8:Value} {pD vis:List Value} (h:Yb w W rb fb sb s f round i l j vi pD) (hm:pL w B fb f vl vm vs) (hr0:Rd w rb fb s i1) (hB:B<=w.heap.size) (hBr:B<=rb)
  (hrw:RwM W B vs f.rows vis) (hit:∀k,k<f.rows.length->∃pD,QB W B f.gN (vis.getD k .nilFunc) (f.rows.getD k (⟨false,[]⟩:Rw)).items pD) (hg:W.grownBy w8 vs.ownBlock) (VS:w8.ownsRow B 106 2 v8 (f.rows.length+1) (JD f.rows vis++[.bool round,vi])):
  (∃v,pL (w8.setCell ⟨fb,3,none⟩ v8) B fb {f with rows:=f.rows++[(⟨round,l⟩:Rw)]} vl vm v/\Rd (w8.setCell ⟨fb,3,none⟩ v8) rb fb s j/\Below B w (w8.setCell ⟨fb,3,none⟩ v8)/\(w8.setCell ⟨fb,3,none⟩ v8).heap[sb]?=some (.cells #[.bool round,vi] 106 (0,0))/\QB (w8.setCell ⟨fb,3,none⟩ v8) w.heap.size f.gN vi l pD)/\w8.cell? ⟨fb,3,none⟩=some vs/\w8.frozen? ⟨fb,3,none⟩=false:=by
 obtain⟨a1,a2,a3,a4,a5,a6,a7⟩:=h.fin hm hr0 hB hBr hrw hit hg VS;exact⟨⟨v8,a1,a2,a3,a4,a7⟩,a5,a6⟩
theorem zir:Tryz.prog.info? 106=some Tryz.t106:=by kernel_rfl
theorem zis:Tryz.t106.zero=some (.agg #[.bool false,.slice none 0 0]):=by kernel_rfl
theorem zit:Tryz.t106.size=2:=by kernel_rfl
theorem zf0:Tryz.t106.bytes=32:=by kernel_rfl
theorem zeM {a b:Int} (h1:-1<=a) (h2:a<=512) (h3:0<=b) (h4:b<=512):-512<=a*b/\a*b<=262144:=by
 constructor
 ·have h:=kg h1 h3;omega
 ·have h:=kg h2 h3;omega
theorem QB.Yf {w:World} {B:Nat} {gN:List UInt8} {A:Option Addr} {n c:Nat} {l:List It} {pD:List Value} (h:QB w B gN (.slice A n c) l pD) {k:Nat} (hk:k<l.length):
  ∃g,A=some ⟨g,0,none⟩/\g<w.heap.size/\w.cell? ⟨g,k*13,none⟩=some (.int .i64 (l.getD k px).cls)/\w.cell? ⟨g,k*13+1,none⟩=some (.int .i64 (l.getD k px).ref)/\w.cell? ⟨g,k*13+2,none⟩=some (.int .i64 (ZL gN (l.getD k px).gP))/\
   w.cell? ⟨g,k*13+3,none⟩=some (.int .u8 (gY (l.getD k px).gP 58))/\w.cell? ⟨g,k*13+4,none⟩=some (.int .i64 (gY (l.getD k px).gP 47))/\w.cell? ⟨g,k*13+5,none⟩=some (.int .i64 (gY (l.getD k px).gP 94))/\w.cell? ⟨g,k*13+6,none⟩=some (.int .i64 (gY (l.getD k px).gP 64))/\
   w.cell? ⟨g,k*13+7,none⟩=some (pD.getD k .nilFunc)/\w.cell? ⟨g,k*13+8,none⟩=some (.int .i32 (gY (l.getD k px).gP 39))/\w.cell? ⟨g,k*13+9,none⟩=some (.int .i64 (l.getD k px).at_)/\w.cell? ⟨g,k*13+10,none⟩=some (.int .i64 (Qt (l.getD k px).gP))/\
   w.cell? ⟨g,k*13+11,none⟩=some (.bool (pG (l.getD k px).gP 58))/\w.cell? ⟨g,k*13+12,none⟩=some (.bool (pG (l.getD k px).gP 47)):=by
 have hlen:=zih gN l pD h.n;have hown:=h.o;rcases h.o.2 with⟨e,e0⟩|⟨g,cap,cur,e,_,hg,_⟩
 ·omega
 ·simp only[jl] at e;obtain⟨rfl,rfl,rfl⟩:=e;refine⟨g,rfl,(qg hg).1,?_⟩;have key:∀o,o<13->w.cell? ⟨g,k*13+o,none⟩=(Qs gN (l.getD k px).cls (l.getD k px).ref (l.getD k px).gP (l.getD k px).at_ (pD.getD k .nilFunc))[o]?:=λo ho=>
   (hown.cellAt (k*13+o) (by omega)).trans (zii gN l pD k o h.n hk ho)
  exact⟨key 0 (by omega),key 1 (by omega),key 2 (by omega),key 3 (by omega),key 4 (by omega),key 5 (by omega),key 6 (by omega),key 7 (by omega),key 8 (by omega),key 9 (by omega),key 10 (by omega),key 11 (by omega),key 12 (by omega)⟩
theorem zdR (B rb fb:Nat) (s:ByteArray) (f:Fm) (round:Bool) (start i i0:Nat) (vl vm vs:Value) (w:World) (h:Rd w rb fb s i) (hv:Vars w) (h9:9<=B) (hB:B<=rb) (hm:pL w B fb f vl vm vs) (hk:pq f i0) (hi0:i0+1<=i):
  Calls Tryz.prog 95 #[.pointer (some ⟨rb,0,none⟩),.bool round,.int .i64 start] w (zfY B rb fb s vl vm w (Kd s f round start i)):=by
 have hsz:=h.sz;have hle:=h.le;have hrb:=h.lt;have Qg:=hm.lt;have hBw:B<=w.heap.size:=by omega
 obtain⟨q0,q1,q2,q3⟩:=h.cells;have m5:=hm.cells.2.2.2.2.2.1;generalize hR:Kd s f round start i=R;have HR:=qh hR;have H:=qh h;have Hv:=qh hv;have Hm:=qh hm;have Hk:=qh hk;have X1:=qh (zij hk (by omega) hk.l0.1 hk.l0.2);have Hl1:=qh (hm.Ya hk (by omega) f.least hk.l0.1 hk.l0.2);generalize hA:ZF f.rows f.least=A at*;have HA:=qh hA;clear hR h hv hm hk hA;go_enter Tryz.func95,Tryz.ntmps95;go_wp2_with fail;refine Hl1.out.mono ?_;rintro e w1 ⟨rfl,hb1⟩;have hW2:Below w.heap.size w (w1.alloc (.cells #[.bool round,.slice none 0 0] 106)):=hb1.alloc hb1.size _;have zrp:(w1.alloc (.cells #[.bool round,.slice none 0 0] 106)).heap[w1.heap.size]?=some (.cells #[.bool round,.slice none 0 0] 106 (0,0)):=qn w1 _;have Hsb:Hid (w.heap.size<=w1.heap.size):=qh hb1.size;have VU:Hid (Calls Tryz.prog 89 #[.pointer (some ⟨rb,0,none⟩),.int .u8 32] (w1.alloc (.cells #[.bool round,.slice none 0 0] 106)) λe w'=>e=.returned (.bool (pg s i 32))/\Below (w1.alloc (.cells #[.bool round,.slice none 0 0] 106)).heap.size (w1.alloc (.cells #[.bool round,.slice none 0 0] 106)) w'):=qh (zdZ rb fb s i 32 _ (H.out.below hW2));have HW2:=qh hW2;have Q2:=qh zrp;clear hb1 hW2 zrp;go_wp2_with fail;refine VU.out.mono ?_;rintro e w3 ⟨rfl,hb3⟩;have hJ3:Yb w w3 rb fb w1.heap.size s f round i [] i (.slice none 0 0) []:=Yb.below ⟨H.out.below HW2.out,Off.of_below HW2.out (ql _) _,Hsb.out,Q2.out,⟨rfl,⟨rfl,.inl ⟨rfl,rfl⟩⟩,λk hk=>(by simp at hk)⟩,λx hx=>(by cases hx),(by simp)⟩ hb3;have KL:=qh hJ3;generalize w1.heap.size=sb at*;clear hJ3 hb3 VU HW2 Q2;cases h32:pg s i 32 with
 |false=>have HR2:Hid (R=.error (180,i)):=qh (by rw[<-HR.out];unfold Kd;rw[qy (by rw[h32];simp)]);clear h32;go_wp2_with fail;refine(YH rb fb s i w3 KL.out.rd).mono ?_;rintro e w4 ⟨rfl,hb4⟩;refine⟨rfl,(KL.out.off.trans (Off.of_below hb4 (ql _) _)).below hBw (λk hk=>by simp at hk;omega),by rw[HR2.out];rfl⟩
 |true=>
  have HRT:Hid (zbk f round start (Ka s f round (s.size+1) [] i)=R):=qh (by rw[<-HR.out,zd5 h32]);clear h32 HR;go_wp2_with fail;clear q0 q1 q2 q3 m5;go_loopw [] (λwr=>∃(l:List It) (j:Nat) (vi:Value) (pD:List Value) (q:Nat),s.size<q+j/\Hid (Yb w wr rb fb sb s f round i l j vi pD)/\Hid (zbk f round start (Ka s f round q l j)=R)) (λwr=>s.size-(match wr.cell? ⟨rb,1,none⟩ with|some v=>(intOf v).toNat|none=>0))
  case atStart=>exact⟨[],i,_,[],s.size+1,by omega,KL,HRT⟩
  case round=>
   obtain⟨l,j,vi,pD,q,hq,hJ,hT⟩:=hrel;clear KL HRT;have hjs:j<=s.size:=hJ.out.rd.le;have Hq:Hid (Calls Tryz.prog 89 #[.pointer (some ⟨rb,0,none⟩),.int .u8 32] wr λe w'=>e=.returned (.bool (pg s j 32))/\Below wr.heap.size wr w'):=qh (zdZ rb fb s j 32 wr hJ.out.rd);have p8:Hid (wr.cell? ⟨rb,1,none⟩=some (.int .i64 j)):=qh hJ.out.rd.cells.2.1;go_wp2_with fail;refine Hq.out.mono ?_;rintro e w4 ⟨rfl,hb4⟩;have Zo:=qh (hJ.out.below hb4);clear hb4 hJ;cases hb:pg s j 32 with
   |false=>
    have HT2:Hid (zbk f round start (.ok (l,j))=R):=qh (by
     have:=hT.out;cases q with
     |zero=>exact this
     |succ q'=>
      unfold Ka at this;rw[qx (by rw[hb];simp)] at this;exact this)
    obtain⟨Ai,ci,Xv⟩:=pJ Zo.out.its.o;subst Xv;have hD4:=Zo.out.drew;have hM4:=Hm.out.pz H.out Zo.out.off;have hM5:=Hm.out.pz H.out hD4.off;obtain⟨g0,g1,g2,g3,g4,g5,g6,g7⟩:=hM4.cells;obtain⟨vis,hrw,hit⟩:=hM5.r;obtain⟨As,cs,hvs⟩:=pJ hrw.o;subst hvs;have hjsz:=Zo.out.rd.le;have hkle:=Hk.out.le;have hlen:=Zo.out.len;have X6:Hid (f.rows.length+1<=maxLen):=qh (by unfold maxLen;omega);have Kl:Hid ((f.rows.length+1)*32<=140737488355328):=qh (by omega);have Hpos:Hid (0<f.rows.length+1):=qh (by omega);have pv:=qh hrw.o;have YR:Hid (B<=w4.drew.heap.size):=qh (qm hBw hD4.off.size);have Hhk:=qh Zo.out.ok;have Hls:=qh (show l.length<=65536 by omega);have HF:=qh (λw8 v8 hg VS=>hD4.fin2 (w8:=w8) (v8:=v8) Hm.out H.out hBw hB hrw hit hg VS);have Hk2:=qh (Hk.out.more (j:=j) (round:=round) (l:=l) (by omega) Zo.out.ok);have g3a:∀o,(w4.alloc o).cell? ⟨fb,3,none⟩=some (.slice As f.rows.length cs):=λo=>(qw (qa w4 o fb hM4.lt)).trans g3;have Jh:=Zo.out.st;clear hD4 hM4 hM5 hrw hit;cases round with
    |false=>
     cases hrs:f.rounds with
     |false=>
      have zsu:w4.cell? ⟨fb,4,none⟩=some (.bool false):=(by rw[g4,hrs]);clear g4;have st0:w4.cell? ⟨sb,0,none⟩=some (.bool false):=qc _ _ 0 _ _ (0,0) Jh;have st1:w4.cell? ⟨sb,1,none⟩=some (.slice Ai l.length ci):=qc _ _ 1 _ _ (0,0) Jh;have Qw:Hid (∀u∈(#[.bool false,.slice Ai l.length ci]:Array Value).toList,u.oneCell'=true):=qh (by intro u hu;simp at hu;rcases hu with rfl|rfl<;>rfl);have HU:Hid (VG f false=0):=qh (by unfold VG;rw[qx (by simp),hrs,qx (by simp)]);clear Jh;go_upto_region 12 with fail
      go_cut [78] from 69 to 78 (λv78 wx=>Hid (∃v8,pL wx B fb {f with rows:=f.rows++[(⟨false,l⟩:Rw)]} vl vm v8/\Rd wx rb fb s j/\Below B w wx/\wx.heap[sb]?=some (.cells #[.bool false,.slice Ai l.length ci] 106 (0,0))/\QB wx w.heap.size f.gN (.slice Ai l.length ci) l pD))
      case first=>
       go_region_law (refine zah w4.drew (by rfl) (.tmp 73) (.tmp 75) 90 (by rfl) B 106 _ _ 2 32 Tryz.underlying90 zir zis zit zf0 rfl (by decide) (.slice As f.rows.length cs) f.rows.length (JD f.rows vis) _ _ (by simp[Act.eval,Act.put]) (by simp[Act.eval,Act.put];rfl) (by simp) (by exact pv.out) rfl (by exact Qw.out) X6.out Kl.out (by exact YR.out) ?_;intro v8 w8 pj ZU Zz;obtain⟨g8,Qz,rfl⟩:=Zv pj Hpos.out;obtain⟨Qi,c8,z8⟩:=HF.out w8 _ ZU pj;have HFin:=qh Qi;clear Qi pj ZU Zz)
       all_goals
        go_wp2_with fail;go_meet
        exact HFin
      case rest=>
       obtain⟨W9,hW9⟩:∃W9:World,W9=wc:=⟨_,rfl⟩;subst hW9;obtain⟨v8,hF8,hR8,hB8,hS8,hI8⟩:=hcut.out;have HF8:=qh hF8;have HR8:=qh hR8;have Yg:=qh hB8;have HI8:=qh hI8;have HS8:=qh hS8;clear hF8 hR8 hB8 hI8 hS8 hcut;have e6:W9.cell? ⟨fb,6,none⟩=some (.int .i64 f.most):=HF8.out.cells.2.2.2.2.2.2.1;have Hl9:=qh (HF8.out.Ya Hk2.out (by omega) f.most Hk.out.m0.1 Hk.out.m0.2);generalize hS:ZF (f.rows++[(⟨false,l⟩:Rw)]) f.most=S at*;go_wp2_with fail;refine Hl9.out.mono ?_;rintro e ZN ⟨rfl,pN⟩;have hbB:Below B w ZN:=Yg.out.trans ((Off.of_below pN (ql _) []).below (qm hBw Yg.out.size) (λ_ h=>by cases h));have Yr:=qh hbB;have Ks:=qh (HF8.out.below pN);have zqM:=qh (HR8.out.below pN);have Y2:=qh (HI8.out.off (Off.of_below pN (ql _) []) (pc.nil (T:=[])) (by simp) (by simp));have t1:ZN.cell? ⟨sb,1,none⟩=some (.slice Ai l.length ci):=qc _ _ 1 _ _ (0,0) ((pN.block _ (qg HS8.out).1).trans HS8.out);have e6:ZN.cell? ⟨fb,6,none⟩=some (.int .i64 f.most):=Ks.out.cells.2.2.2.2.2.2.1;have e7:ZN.cell? ⟨fb,7,none⟩=some (.int .i64 f.shift):=Ks.out.cells.2.2.2.2.2.2.2;have Hfb:=qh Ks.out.lt;have HSe:=qh hS;clear pN hbB HF8 HR8 Yg HI8 HS8 hS Hl9 HF pv Qw;by_cases hS5:512<S
       ·have HR2:Hid (R=.error (3,start)):=qh (by
         rw[<-HT2.out];unfold zbk;simp only[];rw[qy (by rw[HSe.out];exact hS5)])
        go_wp2_with fail;refine(gX 3 start ZN).mono ?_;rintro e K9 ⟨rfl,QF⟩;exact⟨rfl,Yr.out.trans ((Off.of_below QF (ql _) []).below (qm hBw Yr.out.size) (λ_ h=>by cases h)),by rw[HR2.out];rfl⟩
       ·have HT3:Hid ((match l.find? (J5 f false) with|some x=>.error (5,x.at_)|none=>.ok ({f with rows:=f.rows++[(⟨false,l⟩:Rw)]},j))=R):=qh (by
         rw[<-HT2.out];unfold zbk;simp only[];rw[qx (by rw[HSe.out];exact hS5)];rfl)
        have hm0:=Hk.out.m0;have hs0:=Hk.out.s0;have HUb:Hid (-512<=(0:Int)/\(0:Int)<=262144):=qh (by omega);clear HT2;go_wp2_with fail;go_loopw [112] (λq wr=>∃k:Nat,k<=l.length/\q=.int .i64 k/\Hid (∀x∈l.take k,J5 f false x=false)/\Hid (Below ZN.heap.size ZN wr)) (λq _=>l.length-(intOf q).toNat)
        case atStart=>exact⟨0,qF _,rfl,qh (by simp),qh (qb _ _)⟩
        case round=>
         obtain⟨k,hk,rfl,hpre,hb⟩:=hrel;by_cases hlt:k<l.length
         ·obtain⟨g,hA,hgs,c0,c1,c2,c3,c4,c5,c6,c7,c8,c9,c10,c11,c12⟩:=Y2.out.Yf hlt;subst hA;have hmem:l.getD k px∈l:=by
           rw[qj,qz hlt];exact qM hlt
          have hcl:=(Hhk.out _ hmem).cl;have XX:Hid (J5 f false (l.getD k px)=true->R=.error (5,(l.getD k px).at_)):=qh (λho=>by
           rw[<-HT3.out,zeJ hlt hpre.out ho])
          have ZO:Hid (J5 f false (l.getD k px)=false->∀x∈l.take (k+1),J5 f false x=false):=qh (λho x hx=>by
           rw[qE hlt] at hx;rcases qJ.1 hx with hx|hx
           ·exact hpre.out x hx
           ·have e:x=l.getD k px:=by
             rw[qj,qz hlt];simpa using hx
            rw[e];exact ho)
          have k0:=(hb.out.cell (p:=⟨g,k*13,none⟩) hgs).trans c0;have k1:=(hb.out.cell (p:=⟨g,k*13+1,none⟩) hgs).trans c1;have k2:=(hb.out.cell (p:=⟨g,k*13+2,none⟩) hgs).trans c2;have k3:=(hb.out.cell (p:=⟨g,k*13+3,none⟩) hgs).trans c3;have k4:=(hb.out.cell (p:=⟨g,k*13+4,none⟩) hgs).trans c4;have k5:=(hb.out.cell (p:=⟨g,k*13+5,none⟩) hgs).trans c5;have k6:=(hb.out.cell (p:=⟨g,k*13+6,none⟩) hgs).trans c6;have k7:=(hb.out.cell (p:=⟨g,k*13+7,none⟩) hgs).trans c7;have k8:=(hb.out.cell (p:=⟨g,k*13+8,none⟩) hgs).trans c8;have k9:=(hb.out.cell (p:=⟨g,k*13+9,none⟩) hgs).trans c9;have k10:=(hb.out.cell (p:=⟨g,k*13+10,none⟩) hgs).trans c10;have k11:=(hb.out.cell (p:=⟨g,k*13+11,none⟩) hgs).trans c11;have k12:=(hb.out.cell (p:=⟨g,k*13+12,none⟩) hgs).trans c12;have hUb:=HUb.out;have hbs:=hb.out.size;have h6:=(hb.out.cell (p:=⟨fb,6,none⟩) Hfb.out).trans e6;have h6a:∀o,(wr.alloc o).cell? ⟨fb,6,none⟩=some (.int .i64 f.most):=λo=>(qw (qa wr o fb (qD Hfb.out hbs))).trans h6;have HB2:=qh (λ(c:Array Value)=>hb.out.alloc hbs (.cells c 108));have Hov:Hid (J5 f false (l.getD k px)=(decide (0<=(l.getD k px).cls)&&decide (25<=(l.getD k px).cls)&&!(false&&f.most==0))):=qh (by unfold J5;rw[HU.out];rw[Int.add_zero]);clear c0 c1 c2 c3 c4 c5 c6 c7 c8 c9 c10 c11 c12 hpre hmem;obtain⟨Ah,ch,hvk⟩:=pJ (Y2.out.h k hlt);generalize pD.getD k .nilFunc=vk at*;subst hvk;generalize l.getD k px=x at*;obtain⟨Qj,xref,Kt,xat⟩:=x;simp only[] at k0 k1 k2 k3 k4 k5 k6 k7 k8 k9 k10 k11 k12 hcl Hov XX ZO;have hw2:IntKind.i64.wrap (Qj)=Qj:=qi _ (by omega);generalize ZL f.gN Kt=y2 at*;generalize gY Kt 58=y3 at*;generalize gY Kt 47=y4 at*;generalize gY Kt 94=y5 at*;generalize gY Kt 64=y6 at*;generalize gY Kt 39=y8 at*;generalize Qt Kt=Vn at*;generalize pG Kt 58=YD at*;generalize pG Kt 47=y12 at*;by_cases h0:0<=Qj
          ·have d0:decide (0<=Qj)=true:=qt h0;by_cases h25:25<=Qj
           ·have d25:decide (25<=Qj)=true:=qt h25;omega
           ·have d25:decide (25<=Qj)=false:=qd h25;go_wp2_with fail;go_roundw
            case rel=>exact⟨k+1,by omega,by go_num,qh (ZO.out (by rw[Hov.out];simp[*])),qh (HB2.out _)⟩
            case measure=>simp[intOf];omega
          ·have d0:decide (0<=Qj)=false:=qd h0;go_wp2_with fail;go_roundw
           case rel=>exact⟨k+1,by omega,by go_num,qh (ZO.out (by rw[Hov.out];simp[*])),qh (HB2.out _)⟩
           case measure=>simp[intOf];omega
         ·obtain rfl:k=l.length:=by omega
          have HR3:Hid (R=.ok ({f with rows:=f.rows++[(⟨false,l⟩:Rw)]},j)):=qh (by
           rw[<-HT3.out,zeo (by have:=hpre.out;rwa [qU] at this)])
          go_wp2_with fail;refine q9 (qI rfl _ _ _) rfl ?_;rw[HR3.out];exact⟨Yr.out.trans ((Off.of_below hb.out (ql _) []).below (qm hBw Yr.out.size) (λ_ h=>by cases h)),rfl,zqM.out.below hb.out,Hk2.out,_,Ks.out.below hb.out⟩
     |true=>
      have zsu:w4.cell? ⟨fb,4,none⟩=some (.bool true):=(by rw[g4,hrs]);clear g4;have st0:w4.cell? ⟨sb,0,none⟩=some (.bool false):=qc _ _ 0 _ _ (0,0) Jh;have st1:w4.cell? ⟨sb,1,none⟩=some (.slice Ai l.length ci):=qc _ _ 1 _ _ (0,0) Jh;have Qw:Hid (∀u∈(#[.bool false,.slice Ai l.length ci]:Array Value).toList,u.oneCell'=true):=qh (by intro u hu;simp at hu;rcases hu with rfl|rfl<;>rfl);have HU:Hid (VG f false=(f.most*f.shift)):=qh (by unfold VG;rw[qx (by simp),hrs,qy rfl]);clear Jh;go_upto_region 12 with fail
      go_cut [78] from 69 to 78 (λv78 wx=>Hid (∃v8,pL wx B fb {f with rows:=f.rows++[(⟨false,l⟩:Rw)]} vl vm v8/\Rd wx rb fb s j/\Below B w wx/\wx.heap[sb]?=some (.cells #[.bool false,.slice Ai l.length ci] 106 (0,0))/\QB wx w.heap.size f.gN (.slice Ai l.length ci) l pD))
      case first=>
       go_region_law (refine zah w4.drew (by rfl) (.tmp 73) (.tmp 75) 90 (by rfl) B 106 _ _ 2 32 Tryz.underlying90 zir zis zit zf0 rfl (by decide) (.slice As f.rows.length cs) f.rows.length (JD f.rows vis) _ _ (by simp[Act.eval,Act.put]) (by simp[Act.eval,Act.put];rfl) (by simp) (by exact pv.out) rfl (by exact Qw.out) X6.out Kl.out (by exact YR.out) ?_;intro v8 w8 pj ZU Zz;obtain⟨g8,Qz,rfl⟩:=Zv pj Hpos.out;obtain⟨Qi,c8,z8⟩:=HF.out w8 _ ZU pj;have HFin:=qh Qi;clear Qi pj ZU Zz)
       all_goals
        go_wp2_with fail;go_meet
        exact HFin
      case rest=>
       obtain⟨W9,hW9⟩:∃W9:World,W9=wc:=⟨_,rfl⟩;subst hW9;obtain⟨v8,hF8,hR8,hB8,hS8,hI8⟩:=hcut.out;have HF8:=qh hF8;have HR8:=qh hR8;have Yg:=qh hB8;have HI8:=qh hI8;have HS8:=qh hS8;clear hF8 hR8 hB8 hI8 hS8 hcut;have e6:W9.cell? ⟨fb,6,none⟩=some (.int .i64 f.most):=HF8.out.cells.2.2.2.2.2.2.1;have Hl9:=qh (HF8.out.Ya Hk2.out (by omega) f.most Hk.out.m0.1 Hk.out.m0.2);generalize hS:ZF (f.rows++[(⟨false,l⟩:Rw)]) f.most=S at*;go_wp2_with fail;refine Hl9.out.mono ?_;rintro e ZN ⟨rfl,pN⟩;have hbB:Below B w ZN:=Yg.out.trans ((Off.of_below pN (ql _) []).below (qm hBw Yg.out.size) (λ_ h=>by cases h));have Yr:=qh hbB;have Ks:=qh (HF8.out.below pN);have zqM:=qh (HR8.out.below pN);have Y2:=qh (HI8.out.off (Off.of_below pN (ql _) []) (pc.nil (T:=[])) (by simp) (by simp));have t1:ZN.cell? ⟨sb,1,none⟩=some (.slice Ai l.length ci):=qc _ _ 1 _ _ (0,0) ((pN.block _ (qg HS8.out).1).trans HS8.out);have e6:ZN.cell? ⟨fb,6,none⟩=some (.int .i64 f.most):=Ks.out.cells.2.2.2.2.2.2.1;have e7:ZN.cell? ⟨fb,7,none⟩=some (.int .i64 f.shift):=Ks.out.cells.2.2.2.2.2.2.2;have Hfb:=qh Ks.out.lt;have HSe:=qh hS;clear pN hbB HF8 HR8 Yg HI8 HS8 hS Hl9 HF pv Qw;by_cases hS5:512<S
       ·have HR2:Hid (R=.error (3,start)):=qh (by
         rw[<-HT2.out];unfold zbk;simp only[];rw[qy (by rw[HSe.out];exact hS5)])
        go_wp2_with fail;refine(gX 3 start ZN).mono ?_;rintro e K9 ⟨rfl,QF⟩;exact⟨rfl,Yr.out.trans ((Off.of_below QF (ql _) []).below (qm hBw Yr.out.size) (λ_ h=>by cases h)),by rw[HR2.out];rfl⟩
       ·have HT3:Hid ((match l.find? (J5 f false) with|some x=>.error (5,x.at_)|none=>.ok ({f with rows:=f.rows++[(⟨false,l⟩:Rw)]},j))=R):=qh (by
         rw[<-HT2.out];unfold zbk;simp only[];rw[qx (by rw[HSe.out];exact hS5)];rfl)
        have hm0:=Hk.out.m0;have hs0:=Hk.out.s0;have hpb:=zeM (a:=f.most) (b:=f.shift) (by omega) (by omega) hs0.1 hs0.2;have HUb:=qh hpb;have hw1:IntKind.i64.wrap (f.most*f.shift)=f.most*f.shift:=qi _ (by omega);clear HT2 hpb;go_wp2_with fail;go_quiet (fail)
        go_wp2_with fail;generalize (f.most*f.shift)=U at*;go_loopw [112] (λq wr=>∃k:Nat,k<=l.length/\q=.int .i64 k/\Hid (∀x∈l.take k,J5 f false x=false)/\Hid (Below ZN.heap.size ZN wr)) (λq _=>l.length-(intOf q).toNat)
        case atStart=>exact⟨0,qF _,rfl,qh (by simp),qh (ZG (qb _ _) nq)⟩
        case round=>
         obtain⟨k,hk,rfl,hpre,hb⟩:=hrel;by_cases hlt:k<l.length
         ·obtain⟨g,hA,hgs,c0,c1,c2,c3,c4,c5,c6,c7,c8,c9,c10,c11,c12⟩:=Y2.out.Yf hlt;subst hA;have hmem:l.getD k px∈l:=by
           rw[qj,qz hlt];exact qM hlt
          have hcl:=(Hhk.out _ hmem).cl;have XX:Hid (J5 f false (l.getD k px)=true->R=.error (5,(l.getD k px).at_)):=qh (λho=>by
           rw[<-HT3.out,zeJ hlt hpre.out ho])
          have ZO:Hid (J5 f false (l.getD k px)=false->∀x∈l.take (k+1),J5 f false x=false):=qh (λho x hx=>by
           rw[qE hlt] at hx;rcases qJ.1 hx with hx|hx
           ·exact hpre.out x hx
           ·have e:x=l.getD k px:=by
             rw[qj,qz hlt];simpa using hx
            rw[e];exact ho)
          have k0:=(hb.out.cell (p:=⟨g,k*13,none⟩) hgs).trans c0;have k1:=(hb.out.cell (p:=⟨g,k*13+1,none⟩) hgs).trans c1;have k2:=(hb.out.cell (p:=⟨g,k*13+2,none⟩) hgs).trans c2;have k3:=(hb.out.cell (p:=⟨g,k*13+3,none⟩) hgs).trans c3;have k4:=(hb.out.cell (p:=⟨g,k*13+4,none⟩) hgs).trans c4;have k5:=(hb.out.cell (p:=⟨g,k*13+5,none⟩) hgs).trans c5;have k6:=(hb.out.cell (p:=⟨g,k*13+6,none⟩) hgs).trans c6;have k7:=(hb.out.cell (p:=⟨g,k*13+7,none⟩) hgs).trans c7;have k8:=(hb.out.cell (p:=⟨g,k*13+8,none⟩) hgs).trans c8;have k9:=(hb.out.cell (p:=⟨g,k*13+9,none⟩) hgs).trans c9;have k10:=(hb.out.cell (p:=⟨g,k*13+10,none⟩) hgs).trans c10;have k11:=(hb.out.cell (p:=⟨g,k*13+11,none⟩) hgs).trans c11;have k12:=(hb.out.cell (p:=⟨g,k*13+12,none⟩) hgs).trans c12;have hUb:=HUb.out;have hbs:=hb.out.size;have h6:=(hb.out.cell (p:=⟨fb,6,none⟩) Hfb.out).trans e6;have h6a:∀o,(wr.alloc o).cell? ⟨fb,6,none⟩=some (.int .i64 f.most):=λo=>(qw (qa wr o fb (qD Hfb.out hbs))).trans h6;have HB2:=qh (λ(c:Array Value)=>hb.out.alloc hbs (.cells c 108));have Hov:Hid (J5 f false (l.getD k px)=(decide (0<=(l.getD k px).cls)&&decide (25<=(l.getD k px).cls+U)&&!(false&&f.most==0))):=qh (by unfold J5;rw[HU.out]);clear c0 c1 c2 c3 c4 c5 c6 c7 c8 c9 c10 c11 c12 hpre hmem;obtain⟨Ah,ch,hvk⟩:=pJ (Y2.out.h k hlt);generalize pD.getD k .nilFunc=vk at*;subst hvk;generalize l.getD k px=x at*;obtain⟨Qj,xref,Kt,xat⟩:=x;simp only[] at k0 k1 k2 k3 k4 k5 k6 k7 k8 k9 k10 k11 k12 hcl Hov XX ZO;have hw2:IntKind.i64.wrap (Qj+U)=Qj+U:=qi _ (by omega);generalize ZL f.gN Kt=y2 at*;generalize gY Kt 58=y3 at*;generalize gY Kt 47=y4 at*;generalize gY Kt 94=y5 at*;generalize gY Kt 64=y6 at*;generalize gY Kt 39=y8 at*;generalize Qt Kt=Vn at*;generalize pG Kt 58=YD at*;generalize pG Kt 47=y12 at*;by_cases h0:0<=Qj
          ·have d0:decide (0<=Qj)=true:=qt h0;by_cases h25:25<=Qj+U
           ·have d25:decide (25<=Qj+U)=true:=qt h25;go_wp2_with fail;refine(gX 5 xat _).mono ?_;rintro e K9 ⟨rfl,QF⟩;have KJ:=(HB2.out _).trans ((Off.of_below QF (ql _) []).below (HB2.out _).size (λ_ h=>by cases h));exact⟨rfl,Yr.out.trans ((Off.of_below KJ (ql _) []).below (qm hBw Yr.out.size) (λ_ h=>by cases h)),by rw[XX.out (by rw[Hov.out];simp[*])];rfl⟩
           ·have d25:decide (25<=Qj+U)=false:=qd h25;go_wp2_with fail;go_roundw
            case rel=>exact⟨k+1,by omega,by go_num,qh (ZO.out (by rw[Hov.out];simp[*])),qh (HB2.out _)⟩
            case measure=>simp[intOf];omega
          ·have d0:decide (0<=Qj)=false:=qd h0;go_wp2_with fail;go_roundw
           case rel=>exact⟨k+1,by omega,by go_num,qh (ZO.out (by rw[Hov.out];simp[*])),qh (HB2.out _)⟩
           case measure=>simp[intOf];omega
         ·obtain rfl:k=l.length:=by omega
          have HR3:Hid (R=.ok ({f with rows:=f.rows++[(⟨false,l⟩:Rw)]},j)):=qh (by
           rw[<-HT3.out,zeo (by have:=hpre.out;rwa [qU] at this)])
          go_wp2_with fail;refine q9 (qI rfl _ _ _) rfl ?_;rw[HR3.out];exact⟨Yr.out.trans ((Off.of_below hb.out (ql _) []).below (qm hBw Yr.out.size) (λ_ h=>by cases h)),rfl,zqM.out.below hb.out,Hk2.out,_,Ks.out.below hb.out⟩
    |true=>
     cases hrs:f.rounds with|false=>?_|true=>?_
     rotate_right;have zsu:w4.cell? ⟨fb,4,none⟩=some (.bool true):=(by rw[g4,hrs])
     rotate_right;have zsu:w4.cell? ⟨fb,4,none⟩=some (.bool false):=(by rw[g4,hrs])
     all_goals
      clear g4;have st0:w4.cell? ⟨sb,0,none⟩=some (.bool true):=qc _ _ 0 _ _ (0,0) Jh;have st1:w4.cell? ⟨sb,1,none⟩=some (.slice Ai l.length ci):=qc _ _ 1 _ _ (0,0) Jh;have Qw:Hid (∀u∈(#[.bool true,.slice Ai l.length ci]:Array Value).toList,u.oneCell'=true):=qh (by intro u hu;simp at hu;rcases hu with rfl|rfl<;>rfl);have HU:Hid (VG f true=((f.most-1)*f.shift)):=qh (by unfold VG;rw[qy rfl]);clear Jh;go_upto_region 12 with fail
      go_cut [78] from 69 to 78 (λv78 wx=>Hid (∃v8,pL wx B fb {f with rows:=f.rows++[(⟨true,l⟩:Rw)]} vl vm v8/\Rd wx rb fb s j/\Below B w wx/\wx.heap[sb]?=some (.cells #[.bool true,.slice Ai l.length ci] 106 (0,0))/\QB wx w.heap.size f.gN (.slice Ai l.length ci) l pD))
      case first=>
       go_region_law (refine zah w4.drew (by rfl) (.tmp 73) (.tmp 75) 90 (by rfl) B 106 _ _ 2 32 Tryz.underlying90 zir zis zit zf0 rfl (by decide) (.slice As f.rows.length cs) f.rows.length (JD f.rows vis) _ _ (by simp[Act.eval,Act.put]) (by simp[Act.eval,Act.put];rfl) (by simp) (by exact pv.out) rfl (by exact Qw.out) X6.out Kl.out (by exact YR.out) ?_;intro v8 w8 pj ZU Zz;obtain⟨g8,Qz,rfl⟩:=Zv pj Hpos.out;obtain⟨Qi,c8,z8⟩:=HF.out w8 _ ZU pj;have HFin:=qh Qi;clear Qi pj ZU Zz)
       all_goals
        go_wp2_with fail;go_meet
        exact HFin
      case rest=>
       obtain⟨W9,hW9⟩:∃W9:World,W9=wc:=⟨_,rfl⟩;subst hW9;obtain⟨v8,hF8,hR8,hB8,hS8,hI8⟩:=hcut.out;have HF8:=qh hF8;have HR8:=qh hR8;have Yg:=qh hB8;have HI8:=qh hI8;have HS8:=qh hS8;clear hF8 hR8 hB8 hI8 hS8 hcut;have e6:W9.cell? ⟨fb,6,none⟩=some (.int .i64 f.most):=HF8.out.cells.2.2.2.2.2.2.1;have Hl9:=qh (HF8.out.Ya Hk2.out (by omega) f.most Hk.out.m0.1 Hk.out.m0.2);generalize hS:ZF (f.rows++[(⟨true,l⟩:Rw)]) f.most=S at*;go_wp2_with fail;refine Hl9.out.mono ?_;rintro e ZN ⟨rfl,pN⟩;have hbB:Below B w ZN:=Yg.out.trans ((Off.of_below pN (ql _) []).below (qm hBw Yg.out.size) (λ_ h=>by cases h));have Yr:=qh hbB;have Ks:=qh (HF8.out.below pN);have zqM:=qh (HR8.out.below pN);have Y2:=qh (HI8.out.off (Off.of_below pN (ql _) []) (pc.nil (T:=[])) (by simp) (by simp));have t1:ZN.cell? ⟨sb,1,none⟩=some (.slice Ai l.length ci):=qc _ _ 1 _ _ (0,0) ((pN.block _ (qg HS8.out).1).trans HS8.out);have e6:ZN.cell? ⟨fb,6,none⟩=some (.int .i64 f.most):=Ks.out.cells.2.2.2.2.2.2.1;have e7:ZN.cell? ⟨fb,7,none⟩=some (.int .i64 f.shift):=Ks.out.cells.2.2.2.2.2.2.2;have Hfb:=qh Ks.out.lt;have HSe:=qh hS;clear pN hbB HF8 HR8 Yg HI8 HS8 hS Hl9 HF pv Qw;by_cases hS5:512<S
       ·have HR2:Hid (R=.error (3,start)):=qh (by
         rw[<-HT2.out];unfold zbk;simp only[];rw[qy (by rw[HSe.out];exact hS5)])
        go_wp2_with fail;refine(gX 3 start ZN).mono ?_;rintro e K9 ⟨rfl,QF⟩;exact⟨rfl,Yr.out.trans ((Off.of_below QF (ql _) []).below (qm hBw Yr.out.size) (λ_ h=>by cases h)),by rw[HR2.out];rfl⟩
       ·have HT3:Hid ((match l.find? (J5 f true) with|some x=>.error (5,x.at_)|none=>.ok ({f with rows:=f.rows++[(⟨true,l⟩:Rw)]},j))=R):=qh (by
         rw[<-HT2.out];unfold zbk;simp only[];rw[qx (by rw[HSe.out];exact hS5)];rfl)
        have hm0:=Hk.out.m0;have hs0:=Hk.out.s0;have hpb:=zeM (a:=f.most-1) (b:=f.shift) (by omega) (by omega) hs0.1 hs0.2;have HUb:=qh hpb;have hw0:IntKind.i64.wrap (f.most-1)=f.most-1:=qi _ (by omega);have hw1:IntKind.i64.wrap ((f.most-1)*f.shift)=(f.most-1)*f.shift:=qi _ (by omega);clear HT2 hpb;go_wp2_with fail;go_quiet (fail)
        go_wp2_with fail;generalize ((f.most-1)*f.shift)=U at*;go_loopw [112] (λq wr=>∃k:Nat,k<=l.length/\q=.int .i64 k/\Hid (∀x∈l.take k,J5 f true x=false)/\Hid (Below ZN.heap.size ZN wr)) (λq _=>l.length-(intOf q).toNat)
        case atStart=>exact⟨0,qF _,rfl,qh (by simp),qh (ZG (qb _ _) nq)⟩
        case round=>
         obtain⟨k,hk,rfl,hpre,hb⟩:=hrel;by_cases hlt:k<l.length
         ·obtain⟨g,hA,hgs,c0,c1,c2,c3,c4,c5,c6,c7,c8,c9,c10,c11,c12⟩:=Y2.out.Yf hlt;subst hA;have hmem:l.getD k px∈l:=by
           rw[qj,qz hlt];exact qM hlt
          have hcl:=(Hhk.out _ hmem).cl;have XX:Hid (J5 f true (l.getD k px)=true->R=.error (5,(l.getD k px).at_)):=qh (λho=>by
           rw[<-HT3.out,zeJ hlt hpre.out ho])
          have ZO:Hid (J5 f true (l.getD k px)=false->∀x∈l.take (k+1),J5 f true x=false):=qh (λho x hx=>by
           rw[qE hlt] at hx;rcases qJ.1 hx with hx|hx
           ·exact hpre.out x hx
           ·have e:x=l.getD k px:=by
             rw[qj,qz hlt];simpa using hx
            rw[e];exact ho)
          have k0:=(hb.out.cell (p:=⟨g,k*13,none⟩) hgs).trans c0;have k1:=(hb.out.cell (p:=⟨g,k*13+1,none⟩) hgs).trans c1;have k2:=(hb.out.cell (p:=⟨g,k*13+2,none⟩) hgs).trans c2;have k3:=(hb.out.cell (p:=⟨g,k*13+3,none⟩) hgs).trans c3;have k4:=(hb.out.cell (p:=⟨g,k*13+4,none⟩) hgs).trans c4;have k5:=(hb.out.cell (p:=⟨g,k*13+5,none⟩) hgs).trans c5;have k6:=(hb.out.cell (p:=⟨g,k*13+6,none⟩) hgs).trans c6;have k7:=(hb.out.cell (p:=⟨g,k*13+7,none⟩) hgs).trans c7;have k8:=(hb.out.cell (p:=⟨g,k*13+8,none⟩) hgs).trans c8;have k9:=(hb.out.cell (p:=⟨g,k*13+9,none⟩) hgs).trans c9;have k10:=(hb.out.cell (p:=⟨g,k*13+10,none⟩) hgs).trans c10;have k11:=(hb.out.cell (p:=⟨g,k*13+11,none⟩) hgs).trans c11;have k12:=(hb.out.cell (p:=⟨g,k*13+12,none⟩) hgs).trans c12;have hUb:=HUb.out;have hbs:=hb.out.size;have h6:=(hb.out.cell (p:=⟨fb,6,none⟩) Hfb.out).trans e6;have h6a:∀o,(wr.alloc o).cell? ⟨fb,6,none⟩=some (.int .i64 f.most):=λo=>(qw (qa wr o fb (qD Hfb.out hbs))).trans h6;have HB2:=qh (λ(c:Array Value)=>hb.out.alloc hbs (.cells c 108));have Hov:Hid (J5 f true (l.getD k px)=(decide (0<=(l.getD k px).cls)&&decide (25<=(l.getD k px).cls+U)&&!(true&&f.most==0))):=qh (by unfold J5;rw[HU.out]);clear c0 c1 c2 c3 c4 c5 c6 c7 c8 c9 c10 c11 c12 hpre hmem;obtain⟨Ah,ch,hvk⟩:=pJ (Y2.out.h k hlt);generalize pD.getD k .nilFunc=vk at*;subst hvk;generalize l.getD k px=x at*;obtain⟨Qj,xref,Kt,xat⟩:=x;simp only[] at k0 k1 k2 k3 k4 k5 k6 k7 k8 k9 k10 k11 k12 hcl Hov XX ZO;have hw2:IntKind.i64.wrap (Qj+U)=Qj+U:=qi _ (by omega);generalize ZL f.gN Kt=y2 at*;generalize gY Kt 58=y3 at*;generalize gY Kt 47=y4 at*;generalize gY Kt 94=y5 at*;generalize gY Kt 64=y6 at*;generalize gY Kt 39=y8 at*;generalize Qt Kt=Vn at*;generalize pG Kt 58=YD at*;generalize pG Kt 47=y12 at*;by_cases h0:0<=Qj
          ·have d0:decide (0<=Qj)=true:=qt h0;by_cases h25:25<=Qj+U
           ·have d25:decide (25<=Qj+U)=true:=qt h25;by_cases hz:f.most=0
            ·have hz1:(f.most==0)=true:=(by simpa using hz);go_wp2_with fail;go_roundw
             case rel=>exact⟨k+1,by omega,by go_num,qh (ZO.out (by rw[Hov.out];simp[*])),qh (HB2.out _)⟩
             case measure=>simp[intOf];omega
            ·have hz1:(f.most==0)=false:=(by simpa using hz);go_wp2_with fail;refine(gX 5 xat _).mono ?_;rintro e K9 ⟨rfl,QF⟩;have KJ:=(HB2.out _).trans ((Off.of_below QF (ql _) []).below (HB2.out _).size (λ_ h=>by cases h));exact⟨rfl,Yr.out.trans ((Off.of_below KJ (ql _) []).below (qm hBw Yr.out.size) (λ_ h=>by cases h)),by rw[XX.out (by rw[Hov.out];simp[*])];rfl⟩
           ·have d25:decide (25<=Qj+U)=false:=qd h25;go_wp2_with fail;go_roundw
            case rel=>exact⟨k+1,by omega,by go_num,qh (ZO.out (by rw[Hov.out];simp[*])),qh (HB2.out _)⟩
            case measure=>simp[intOf];omega
          ·have d0:decide (0<=Qj)=false:=qd h0;go_wp2_with fail;go_roundw
           case rel=>exact⟨k+1,by omega,by go_num,qh (ZO.out (by rw[Hov.out];simp[*])),qh (HB2.out _)⟩
           case measure=>simp[intOf];omega
         ·obtain rfl:k=l.length:=by omega
          have HR3:Hid (R=.ok ({f with rows:=f.rows++[(⟨true,l⟩:Rw)]},j)):=qh (by
           rw[<-HT3.out,zeo (by have:=hpre.out;rwa [qU] at this)])
          go_wp2_with fail;refine q9 (qI rfl _ _ _) rfl ?_;rw[HR3.out];exact⟨Yr.out.trans ((Off.of_below hb.out (ql _) []).below (qm hBw Yr.out.size) (λ_ h=>by cases h)),rfl,zqM.out.below hb.out,Hk2.out,_,Ks.out.below hb.out⟩
   |true=>
    have hjl:=XV hb;obtain⟨q',rfl⟩:∃q',q=q'+1:=⟨q-1,by omega⟩;have HT2:Hid (zbk f round start (match Kj s f.gN (ZT f round l.length) (j+1) with|.error e=>.error e|.ok (x,j')=>Ka s f round q' (l++[x]) j')=R):=qh (by
     have:=hT.out;unfold Ka at this;rw[qy hb] at this;exact this)
    clear hT hb;obtain⟨r0,r1,r2,r3⟩:=Zo.out.rd.cells;have Jh:=Zo.out.st;have hne:sb≠rb:=(by have:=Zo.out.sbl;omega);have hc:((j+1:Nat):Int)=(j:Int)+1:=(by omega);have hw:IntKind.i64.wrap ((j:Int)+1)=(j:Int)+1:=qi _ (by omega);have Q1:=Zo.out.to (by omega) hne;rw[hc] at Q1;have HM5:=qh (Hm.out.pz H.out Q1.off);have hHas:=Q1.its.o;obtain⟨Ai,ci,Xv⟩:=pJ hHas;subst Xv;have s1:w4.cell? ⟨sb,1,none⟩=some (.slice Ai l.length ci):=qc _ _ 1 _ _ (0,0) Jh;have hM4:=Hm.out.pz H.out Zo.out.off;have f6:=hM4.cells.2.2.2.2.2.2.1;have hnf:=hM4.ne Zo.out.rd;have hlen:=Q1.len;have Za:=X1.out;have hw2:IntKind.i64.wrap (A+(l.length:Int))=A+(l.length:Int):=qi _ (by omega);have QT:=qh Q1;clear Q1 hHas Jh hM4 Zo;have HwE:Hid (w4.setCell ⟨rb,1,none⟩ (.int .i64 ((j:Int)+1))=w4.setCell ⟨rb,1,none⟩ (.int .i64 ((j:Int)+1))):=qh rfl;generalize QJ:w4.setCell ⟨rb,1,none⟩ (.int .i64 ((j:Int)+1))=W5 at QT HM5;have HW5:=qh QJ;have HL5:Hid (∀line,Calls Tryz.prog 117 #[.pointer (some ⟨rb,0,none⟩),.int .i64 line] W5.drew (zjC rb fb s f.gN W5.drew (Kj s f.gN line (j+1)))):=qh (λline=>
     zkN B rb fb s (j+1) line f.gN vl W5.drew QT.out.drew.rd (Vars.off Hv.out QT.out.drew.off (by simp;omega)) (by omega) (HM5.out.below (ZG (qb _ _) 1)).letM HM5.out.lt (HM5.out.ne QT.out.rd) (λk hk=>(HM5.out.vln QT.out.rd k hk).1) (λk hk=>(HM5.out.vln QT.out.rd k hk).2))
    have HD5:=qh QT.out.drew;clear QJ HwE;cases round with|false=>?_|true=>?_
    rotate_right
    focus
     by_cases hm0:f.most=0
     rotate_right;skip
     have hb0:(f.most==0)=false:=(by simpa using hm0);have hln:ZT f true l.length=A+(l.length:Int):=(by unfold ZT;rw[hb0,HA.out];rfl);rw[hln] at HT2;have Xo:=qh (HL5.out (A+(l.length:Int)));clear HL5 hln;generalize hIR:Kj s f.gN (A+(l.length:Int)) (j+1)=IR at*
     rotate_right;skip
     have hb0:(f.most==0)=true:=(by simpa using hm0);have hln:ZT f true l.length= -1:=(by unfold ZT;rw[hb0];rfl);rw[hln] at HT2;have Xo:=qh (HL5.out (-1));clear HL5 hln;generalize hIR:Kj s f.gN (-1) (j+1)=IR at*
    rotate_right;have hln:ZT f false l.length=A+(l.length:Int):=(by unfold ZT;rw[HA.out];rfl);rw[hln] at HT2;have Xo:=qh (HL5.out (A+(l.length:Int)));clear HL5 hln;generalize hIR:Kj s f.gN (A+(l.length:Int)) (j+1)=IR at*
    all_goals
     have s2:W5.cell? ⟨sb,1,none⟩=some (.slice Ai l.length ci):=qc _ _ 1 _ _ (0,0) QT.out.st;cases IR with
     |error ep=>
      obtain⟨c,p⟩:=ep;have HR2:Hid (R=.error (c,p)):=qh HT2.out.symm;have gT:=qh (λ(w7:World) (QS:Off [rb] W5.drew w7)=>(HD5.out.off.trans QS).below hBw (λk hk=>by simp at hk;omega));clear hIR;go_wp2_with fail;rw[HW5.out];refine wp_region_any (by kernel_rfl) ?_;change wpAny _ _ _ _ _ _ _ (World.drew _)
      refine wpAny_take (i:=0) (v:=?_) rfl (by kernel_rfl) (by kernel_rfl) (by kernel_rfl) (λ_ _ _ h=>h) (zl ⟨by rfl,?_⟩) ?_;rotate_left
      ·intro w;go_simp;try(with_reducible rfl)
      refine wpAny_take (i:=2) (v:=?_) rfl (by kernel_rfl) (by kernel_rfl) (by kernel_rfl) (λ_ _ _ h=>h) (zl ⟨by rfl,?_⟩) ?_;rotate_left
      ·intro w;go_simp;try(with_reducible rfl)
      refine wpAny_take (i:=3) (v:=?_) rfl (by kernel_rfl) (by kernel_rfl) (by kernel_rfl) (λ_ _ _ h=>h) (zl ⟨by rfl,?_⟩) ?_;rotate_left
      ·intro w;go_simp;try(with_reducible rfl)
      refine wpAny_ready (rs:=[1,4]) (by kernel_rfl) (by simp) ?_;refine AllReady.cons rfl (λK hK=>?_) (AllReady.cons rfl (λK hK=>?_) AllReady.nil)
      ·go_simp;refine hK _ _ ?_;clear hK K;refine wpAny_ready (rs:=[4]) (by kernel_rfl) (by simp) ?_;refine AllReady.cons rfl (λK hK=>?_) AllReady.nil;go_simp;refine Xo.out.mono ?_;rintro e w7 ⟨QS,he7⟩;have he8:e=vU c p:=he7;subst he8;exact⟨rfl,gT.out w7 QS,by rw[HR2.out];rfl⟩
      ·go_simp;refine Xo.out.mono ?_;rintro e w7 ⟨QS,he7⟩;have he8:e=vU c p:=he7;subst he8;exact⟨rfl,gT.out w7 QS,by rw[HR2.out];rfl⟩
     |ok xk=>
      obtain⟨x,k⟩:=xk;have hgt:=zdD hIR;have Hok:=qh (λh=>zen (x:=x) hIR h);have X6:Hid (l.length+1<=maxLen):=qh (by unfold maxLen;omega);have Kl:Hid ((l.length+1)*112<=140737488355328):=qh (by omega);have Hpos:Hid (0<l.length+1):=qh (by omega);have HNx:=qh (λ(w7 w8:World) (vh v':Value) (QS:Off [rb] W5.drew w7) (Km:Rd w7 rb fb s k) h1 hx hg VS=>HD5.out.next (B7:=W5.drew.heap.size) (w7:=w7) (w8:=w8) (vh:=vh) (v':=v') (x:=x) hne QS Km h1 HD5.out.off.size hx (by omega) hg VS);have ztp:=qh (λ(w7:World) (QS:Off [rb] W5.drew w7)=>(HD5.out.its.off QS (pc.one HD5.out.rd.r) (by decide) (by decide)).o);have Hsz7:=qh (λ(w7:World) (QS:Off [rb] W5.drew w7)=>qm HD5.out.off.size QS.size);have Hs2:=qh (λ(w7:World) (QS:Off [rb] W5.drew w7)=>(QS.cell (qg HD5.out.st).1 (by simp;exact hne):w7.cell? ⟨sb,1,none⟩=W5.drew.cell? ⟨sb,1,none⟩).trans s2);clear hIR;go_wp2_with fail;rw[HW5.out];go_region_law (first
       |(go_simp;go_at_call 117;refine Xo.out.mono ?_;rintro e w7 ⟨QS,vh,he7,Km,zqN,hmk7⟩;subst he7;obtain⟨Ah,ch,hvh,_,_⟩:=zdO zqN;subst hvh;unfold Qs;have s3:=Hs2.out w7 QS;have s4:∀o,(w7.alloc o).cell? ⟨sb,1,none⟩=some (.slice Ai l.length ci):=λo=>(qw (qa w7 o sb (qD (qg HD5.out.st).1 QS.size))).trans s3;have ztq:=qh (ztp.out w7 QS);have Hsz:=qh (Hsz7.out w7 QS);have HN:=qh (λw8 v' hg VS=>HNx.out w7 w8 _ v' QS Km zqN (Hok.out hmk7) hg VS);clear QS Km zqN hmk7)
       |(refine zah w7 (by rfl) (.tmp 54) (.tmp 58) 104 (by rfl) w.heap.size 108 _ _ 13 112 Tryz.underlying104 zjT zjU zjV zhr rfl (by decide) (.slice Ai l.length ci) l.length (uX f.gN l pD) _ _ (by simp[Act.eval,Act.put]) (by simp[Act.eval,Act.put];rfl) (by simp) (by exact ztq.out) rfl (by exact zhs _ _ _ _ _ _ _ _) X6.out Kl.out (by exact Hsz.out) ?_;intro v8 w8 pj ZU Zz;obtain⟨g8,Qz,rfl⟩:=Zv pj Hpos.out;obtain⟨hJ8,c8,z8⟩:=HN.out w8 _ ZU pj;have HJ8:=qh hJ8;clear hJ8 pj ZU Zz))
      all_goals
       go_wp2_with fail;go_roundw
       case rel=>exact⟨l++[x],k,_,_,q',by omega,HJ8,HT2⟩
       case measure=>
        have e1:=HJ8.out.rd.cells.2.1;have e2:=HJ8.out.rd.le;rw[e1,p8.out];simp only[intOf];omega
theorem zgU {s:ByteArray}:∀{t:List Int} {i j:Nat},py s t i=.ok j->j=i+t.length
 |[],i,j,h=>by unfold py at h;cases h;rfl
 |c::t,i,j,h=>by
  unfold py at h;split at h
  ·have:=zgU h;simp only[qB];omega
  ·cases h
theorem Ji {s:ByteArray} {t:List Int} {i j:Nat} (h:pF (py s t i)=.ok j):j=i+t.length:=by
 cases hm:py s t i with
 |error e=>rw[hm] at h;cases h
 |ok k=>rw[hm] at h;cases h;exact zgU hm
theorem zf1 {s:ByteArray} {least v:Int} {i j:Nat} (hi:i<=s.size) (h:yL s least i=.ok (v,j)):least<=v/\v<=512/\i<j:=by
 unfold yL at h;split at h
 ·cases h
 ·rename_i h1;split at h
  ·cases h
  ·rename_i h2;cases h;have:=Vq (s:=s) i i hi;omega
theorem Off.keep {rb B:Nat} {w w':World} (h:Off [rb] w w') (hB:B<=w.heap.size) (hr:B<=rb):Below B w w':=h.below hB (λk hk=>by simp at hk;omega)
theorem pL.zsv {w:World} {B fb:Nat} {f:Fm} {vl vm vs:Value} (h:pL w B fb f vl vm vs) (n:Int):pL (w.setCell ⟨fb,5,none⟩ (.int .i64 n)) B fb {f with least:=n} vl vm vs:=by
 have hos:Off [fb] w (w.setCell ⟨fb,5,none⟩ (.int .i64 n)):=Off.setCell w fb 5 _;have hts:pc w [fb] [92]:=pc.one h.x;obtain⟨cs,hm⟩:=h.m;obtain⟨vis,hr,hi⟩:=h.r;exact⟨qs w fb 5 _ _ _ h.x,h.hB,hos.pp h.l hts (by decide),⟨cs,hm.off hos hts (by decide) (by decide) (by decide) (by decide)⟩,⟨vis,hr.off hos hts (by decide),λk hk=>by
  obtain⟨pD,h2⟩:=hi k hk;exact⟨pD,h2.off hos hts (by decide) (by decide)⟩⟩⟩
theorem pL.zsw {w:World} {B fb:Nat} {f:Fm} {vl vm vs:Value} (h:pL w B fb f vl vm vs) (n:Int):pL (w.setCell ⟨fb,6,none⟩ (.int .i64 n)) B fb {f with most:=n} vl vm vs:=by
 have hos:Off [fb] w (w.setCell ⟨fb,6,none⟩ (.int .i64 n)):=Off.setCell w fb 6 _;have hts:pc w [fb] [92]:=pc.one h.x;obtain⟨cs,hm⟩:=h.m;obtain⟨vis,hr,hi⟩:=h.r;exact⟨qs w fb 6 _ _ _ h.x,h.hB,hos.pp h.l hts (by decide),⟨cs,hm.off hos hts (by decide) (by decide) (by decide) (by decide)⟩,⟨vis,hr.off hos hts (by decide),λk hk=>by
  obtain⟨pD,h2⟩:=hi k hk;exact⟨pD,h2.off hos hts (by decide) (by decide)⟩⟩⟩
theorem pL.set7 {w:World} {B fb:Nat} {f:Fm} {vl vm vs:Value} (h:pL w B fb f vl vm vs) (n:Int):pL (w.setCell ⟨fb,7,none⟩ (.int .i64 n)) B fb {f with shift:=n} vl vm vs:=by
 have hos:Off [fb] w (w.setCell ⟨fb,7,none⟩ (.int .i64 n)):=Off.setCell w fb 7 _;have hts:pc w [fb] [92]:=pc.one h.x;obtain⟨cs,hm⟩:=h.m;obtain⟨vis,hr,hi⟩:=h.r;exact⟨qs w fb 7 _ _ _ h.x,h.hB,hos.pp h.l hts (by decide),⟨cs,hm.off hos hts (by decide) (by decide) (by decide) (by decide)⟩,⟨vis,hr.off hos hts (by decide),λk hk=>by
  obtain⟨pD,h2⟩:=hi k hk;exact⟨pD,h2.off hos hts (by decide) (by decide)⟩⟩⟩
theorem pL.VW {w:World} {B fb:Nat} {f:Fm} {vl vm vs:Value} (h:pL w B fb f vl vm vs) (n:Bool):pL (w.setCell ⟨fb,4,none⟩ (.bool n)) B fb {f with rounds:=n} vl vm vs:=by
 have hos:Off [fb] w (w.setCell ⟨fb,4,none⟩ (.bool n)):=Off.setCell w fb 4 _;have hts:pc w [fb] [92]:=pc.one h.x;obtain⟨cs,hm⟩:=h.m;obtain⟨vis,hr,hi⟩:=h.r;exact⟨qs w fb 4 _ _ _ h.x,h.hB,hos.pp h.l hts (by decide),⟨cs,hm.off hos hts (by decide) (by decide) (by decide) (by decide)⟩,⟨vis,hr.off hos hts (by decide),λk hk=>by
  obtain⟨pD,h2⟩:=hi k hk;exact⟨pD,h2.off hos hts (by decide) (by decide)⟩⟩⟩
theorem pq.set {f:Fm} {i j:Nat} {a b c:Int} (h:pq f i) (hij:i<=j) (ha:0<=a/\a<=512) (hb:0<=b/\b<=512) (hc:0<=c/\c<=512) (hab:a<=b):pq {f with least:=a,most:=b,shift:=c} j:=
 ⟨qm h.le hij,ha,hb,hc,hab,⟨h.ll.1,qm h.ll.2 hij⟩,h.it,h.nd,h.lt⟩
structure R3 (W W':World) (B rb fb j:Nat) (s:ByteArray) (f:Fm) (vl vm vs:Value):Prop where
 f:pL W' B fb f vl vm vs
 r:Rd W' rb fb s j
 o:Off [fb] W W'
theorem R3.b0 {W:World} {B rb fb j:Nat} {s:ByteArray} {f:Fm} {vl vm vs:Value} (hf:pL W B fb f vl vm vs) (hr:Rd W rb fb s j):R3 W W B rb fb j s f vl vm vs:=⟨hf,hr,Off.refl _ _⟩
theorem R3.s5 {W W':World} {B rb fb j:Nat} {s:ByteArray} {f:Fm} {vl vm vs:Value} (h:R3 W W' B rb fb j s f vl vm vs) (n:Int):R3 W (W'.setCell ⟨fb,5,none⟩ (.int .i64 n)) B rb fb j s {f with least:=n} vl vm vs:=
 ⟨h.f.zsv n,h.r.off (Off.setCell W' fb 5 _) (by have:=h.f.ne h.r;simp;omega),h.o.trans (Off.setCell W' fb 5 _)⟩
theorem R3.s6 {W W':World} {B rb fb j:Nat} {s:ByteArray} {f:Fm} {vl vm vs:Value} (h:R3 W W' B rb fb j s f vl vm vs) (n:Int):R3 W (W'.setCell ⟨fb,6,none⟩ (.int .i64 n)) B rb fb j s {f with most:=n} vl vm vs:=
 ⟨h.f.zsw n,h.r.off (Off.setCell W' fb 6 _) (by have:=h.f.ne h.r;simp;omega),h.o.trans (Off.setCell W' fb 6 _)⟩
theorem R3.s7 {W W':World} {B rb fb j:Nat} {s:ByteArray} {f:Fm} {vl vm vs:Value} (h:R3 W W' B rb fb j s f vl vm vs) (n:Int):R3 W (W'.setCell ⟨fb,7,none⟩ (.int .i64 n)) B rb fb j s {f with shift:=n} vl vm vs:=
 ⟨h.f.set7 n,h.r.off (Off.setCell W' fb 7 _) (by have:=h.f.ne h.r;simp;omega),h.o.trans (Off.setCell W' fb 7 _)⟩
theorem R3.dr {W W':World} {B rb fb j:Nat} {s:ByteArray} {f:Fm} {vl vm vs:Value} (h:R3 W W' B rb fb j s f vl vm vs):R3 W.drew W'.drew B rb fb j s f vl vm vs:=
 ⟨h.f.below (ZG (qb _ _) 1),h.r.below (ZG (qb _ _) 1),⟨h.o.os,h.o.tape,h.o.output,h.o.size,h.o.block⟩⟩
theorem zgV (B rb fb:Nat) (s:ByteArray) (f:Fm) (i i0:Nat) (vl vm vs:Value) (w:World) (h:Rd w rb fb s i) (hv:Vars w) (h9:9<=B) (hB:B<=rb) (hm:pL w B fb f vl vm vs) (hk:pq f i0) (hi0:i0<=i):
  Calls Tryz.prog 94 #[.pointer (some ⟨rb,0,none⟩),.int .i64 i] w (zfY B rb fb s vl vm w (XW s f i)):=by
 have hsz:=h.sz;have hle:=h.le;have hrb:=h.lt;have Qg:=hm.lt;have hBw:B<=w.heap.size:=by omega
 obtain⟨q0,q1,q2,q3⟩:=h.cells;have g4:=hm.cells.2.2.2.2.1;generalize hR:XW s f i=R;have H:=qh h;have Hv:=qh hv;have Hm:=qh hm;have Hk:=qh hk;unfold XW at hR;cases hrs:f.rounds with
 |true=>
  rw[hrs] at g4;rw[qy hrs] at hR;clear h hv hm hk;go_enter Tryz.func94,Tryz.ntmps94;go_wp2_with fail;refine(gX 180 i w).mono ?_;rintro e w1 ⟨rfl,hb1⟩;exact⟨rfl,(Off.of_below hb1 (ql _) [rb]).keep hBw hB,by rw[<-hR];rfl⟩
 |false=>
  rw[hrs] at g4;rw[qx (by rw[hrs];simp)] at hR;have HR:=qh hR;clear hR;have Hr0:=qh h;have Ho0:Hid (Off [rb] w w):=qh (Off.refl _ _);have HU0:Hid (0<=i):=qh (by omega);have p8:=qh (zbW rb fb s ⟨#[114,111,117,110,100,32]⟩ i w h (by decide));clear h hv hm hk;go_enter Tryz.func94,Tryz.ntmps94;go_wp2_with fail;refine p8.out.mono ?_;rintro e w1 Q3;have hst:YG rb fb s w (.tuple #[]) (pF (py s ROUND i)) e w1:=Q3;clear Q3 p8;cases hX:pF (py s ROUND i) with
  |error ep=>
   obtain⟨c,p⟩:=ep;have hR2:=HR.out;rw[hX] at hst hR2;obtain⟨rfl,ho⟩:=hst;exact⟨rfl,(Ho0.out.trans ho).keep hBw hB,by rw[<-hR2];rfl⟩
  |ok j1=>
   have hR2:=HR.out;rw[hX] at hst hR2;simp only[] at hR2;obtain⟨rfl,hrd,ho⟩:=hst;have hlen:=Ji hX;have Hj1:Hid (i<=j1):=qh (by omega);clear HR hlen hX;have HR:=qh hR2;have Vt:=qh hrd;have Ho1:=qh (Ho0.out.trans ho);clear hR2 hrd ho;have JG:=qh (zcq rb fb s j1 0 w1 Vt.out (Vars.off Hv.out Ho1.out (by simp;omega)) (by omega) (by omega) (by omega));go_wp2_with fail;refine JG.out.mono ?_;rintro e w2 ⟨ho,hst⟩;clear JG;cases hX:yL s 0 j1 with
   |error ep=>
    obtain⟨c,p⟩:=ep;have hR2:=HR.out;rw[hX] at hst hR2;subst hst;exact⟨rfl,(Ho1.out.trans ho).keep hBw hB,by rw[<-hR2];rfl⟩
   |ok vj=>
    obtain⟨v2,j2⟩:=vj;have hR2:=HR.out;rw[hX] at hst hR2;simp only[] at hR2;obtain⟨rfl,hrd⟩:=hst;have Hb2:=qh (zf1 Vt.out.le hX);clear HR hX;have HR:=qh hR2;have Hr2:=qh hrd;have Ho2:=qh (Ho1.out.trans ho);clear hR2 hrd ho;have p8:=qh (zbW rb fb s ⟨#[32]⟩ j2 w2 Hr2.out (by decide));go_wp2_with fail;refine p8.out.mono ?_;rintro e w3 Q3;have hst:YG rb fb s w2 (.tuple #[]) (pF (py s [32] j2)) e w3:=Q3;clear Q3 p8;cases hX:pF (py s [32] j2) with
    |error ep=>
     obtain⟨c,p⟩:=ep;have hR2:=HR.out;rw[hX] at hst hR2;obtain⟨rfl,ho⟩:=hst;exact⟨rfl,(Ho2.out.trans ho).keep hBw hB,by rw[<-hR2];rfl⟩
    |ok j3=>
     have hR2:=HR.out;rw[hX] at hst hR2;simp only[] at hR2;obtain⟨rfl,hrd,ho⟩:=hst;have hlen:=Ji hX;have Hj3:Hid (j2<=j3):=qh (by omega);clear HR hlen hX;have HR:=qh hR2;have Hr3:=qh hrd;have Ho3:=qh (Ho2.out.trans ho);clear hR2 hrd ho;obtain⟨a0,a1,a2,a3⟩:=Hr3.out.cells;have JG:=qh (zcq rb fb s j3 0 w3 Hr3.out (Vars.off Hv.out Ho3.out (by simp;omega)) (by omega) (by omega) (by omega));go_wp2_with fail;refine JG.out.mono ?_;rintro e w4 ⟨ho,hst⟩;clear JG;cases hX:yL s 0 j3 with
     |error ep=>
      obtain⟨c,p⟩:=ep;have hR2:=HR.out;rw[hX] at hst hR2;subst hst;exact⟨rfl,(Ho3.out.trans ho).keep hBw hB,by rw[<-hR2];rfl⟩
     |ok vj=>
      obtain⟨v4,j4⟩:=vj;have hR2:=HR.out;rw[hX] at hst hR2;simp only[] at hR2;obtain⟨rfl,hrd⟩:=hst;have Hb4:=qh (zf1 Hr3.out.le hX);clear HR hX;have HR:=qh hR2;have Yc:=qh hrd;have YX:=qh (Ho3.out.trans ho);clear hR2 hrd ho;by_cases hlt:v4<v2
      ·have HR2:Hid (R=.error (2,j3)):=qh (by rw[<-HR.out,qy hlt]);go_wp2_with fail;refine(gX 2 j3 w4).mono ?_;rintro e w5 ⟨rfl,hb5⟩;exact⟨rfl,(YX.out.trans (Off.of_below hb5 (ql _) [rb])).keep hBw hB,by rw[HR2.out];rfl⟩
      ·have YZ:=HR.out;rw[qx hlt] at YZ;clear HR;have HR:=qh YZ;clear YZ;have p8:=qh (zbW rb fb s ⟨#[32]⟩ j4 w4 Yc.out (by decide));go_wp2_with fail;refine p8.out.mono ?_;rintro e w5 Q3;have hst:YG rb fb s w4 (.tuple #[]) (pF (py s [32] j4)) e w5:=Q3;clear Q3 p8;cases hX:pF (py s [32] j4) with
       |error ep=>
        obtain⟨c,p⟩:=ep;have hR2:=HR.out;rw[hX] at hst hR2;obtain⟨rfl,ho⟩:=hst;exact⟨rfl,(YX.out.trans ho).keep hBw hB,by rw[<-hR2];rfl⟩
       |ok j5=>
        have hR2:=HR.out;rw[hX] at hst hR2;simp only[] at hR2;obtain⟨rfl,hrd,ho⟩:=hst;have hlen:=Ji hX;have Hj5:Hid (j4<=j5):=qh (by omega);clear HR hlen hX;have HR:=qh hR2;have JF:=qh hrd;have ZW:=qh (YX.out.trans ho);clear hR2 hrd ho;have JG:=qh (zcq rb fb s j5 0 w5 JF.out (Vars.off Hv.out ZW.out (by simp;omega)) (by omega) (by omega) (by omega));go_wp2_with fail;refine JG.out.mono ?_;rintro e w6 ⟨ho,hst⟩;clear JG;cases hX:yL s 0 j5 with
        |error ep=>
         obtain⟨c,p⟩:=ep;have hR2:=HR.out;rw[hX] at hst hR2;subst hst;exact⟨rfl,(ZW.out.trans ho).keep hBw hB,by rw[<-hR2];rfl⟩
        |ok vj=>
         obtain⟨v6,j6⟩:=vj;have hR2:=HR.out;rw[hX] at hst hR2;simp only[] at hR2;obtain⟨rfl,hrd⟩:=hst;have XM:=qh (zf1 JF.out.le hX);clear HR hX;have HR:=qh hR2;have Hr6:=qh hrd;have Vv:=qh (ZW.out.trans ho);clear hR2 hrd ho;have XD:=Hm.out.pz H.out Vv.out;obtain⟨b0,b1,b2,b3⟩:=Hr6.out.cells;obtain⟨f0,f1,f2,f3,f4,f5,f6,f7⟩:=XD.cells;have z5:=XD.z 5;have z6:=XD.z 6;have z7:=XD.z 7;have hnf:=XD.ne Hr6.out;have hnf2:rb≠fb:=λe=>hnf e.symm;have Hm6:=qh XD;have HF:=qh (R3.b0 XD Hr6.out);have Jj:=qh XD.lt;clear a0 a1 a2 a3 q0 q1 q2 q3 g4 XD f0 f1 f2 f3 f4;go_upto_region 11 with fail
         go_cut [57] from 38 to 58 (λv57 wx=>Hid (∃W7,R3 W7 wx B rb fb j6 s {f with least:=v2,most:=v4,shift:=v6} vl vm vs/\Below w6.heap.size w6 W7/\fb<w6.heap.size))
         case first=>
          go_region
          all_goals
           go_wp2_with fail;go_meet
           first
            |exact qh ⟨w6.drew,R3.s7 (R3.s6 (R3.s5 HF.out.dr v2) v4) v6,ZG (qb _ _) 1,Jj.out⟩
            |exact qh ⟨w6.drew,R3.s7 (R3.s5 (R3.s6 HF.out.dr v4) v2) v6,ZG (qb _ _) 1,Jj.out⟩
            |exact qh ⟨w6.drew,R3.s6 (R3.s7 (R3.s5 HF.out.dr v2) v6) v4,ZG (qb _ _) 1,Jj.out⟩
            |exact qh ⟨w6.drew,R3.s6 (R3.s5 (R3.s7 HF.out.dr v6) v2) v4,ZG (qb _ _) 1,Jj.out⟩
            |exact qh ⟨w6.drew,R3.s5 (R3.s7 (R3.s6 HF.out.dr v4) v6) v2,ZG (qb _ _) 1,Jj.out⟩
            |exact qh ⟨w6.drew,R3.s5 (R3.s6 (R3.s7 HF.out.dr v6) v4) v2,ZG (qb _ _) 1,Jj.out⟩
         case rest=>
          obtain⟨W8,hW8⟩:∃W8:World,W8=wc:=⟨_,rfl⟩;subst hW8;obtain⟨W7,h3,QW,hf7⟩:=hcut.out;have zsx:=Vv.out.keep hBw hB;have zsy:=zsx.trans ((Off.of_below QW (ql _) []).below (qm hBw zsx.size) (λ_ h=>by cases h));have zsz:=zsy.trans (h3.o.below (qm hBw zsy.size) (λk hk=>by have:=Hm.out.hB;simp at hk;omega));have Hb8:=qh zsz;have b2:=Hb2.out;have b4:=Hb4.out;have b6:=XM.out;have hj1:=Hj1.out;have hj3:=Hj3.out;have hj5:=Hj5.out;have po:=qh (zdR B rb fb s {f with least:=v2,most:=v4,shift:=v6} true i j6 i0 vl vm vs W8 h3.r (Vars.below Hv.out zsz h9) h9 hB h3.f (Hk.out.set (ql _) ⟨by omega,by omega⟩ ⟨by omega,by omega⟩ ⟨by omega,by omega⟩ (by omega)) (by omega));clear hcut h3 QW hf7 zsx zsy zsz b0 b1 b2 b3 f5 f6 f7 z5 z6 z7;go_wp2_with fail;refine po.out.mono ?_;rintro e w9 ⟨pb,hst⟩;cases hX:Kd s {f with least:=v2,most:=v4,shift:=v6} true i j6 with
          |error ep=>
           obtain⟨c,p⟩:=ep;have hR2:=HR.out;rw[hX] at hst hR2;subst hst;exact⟨rfl,Hb8.out.trans pb,by rw[<-hR2];rfl⟩
          |ok fj=>
           obtain⟨f',j⟩:=fj;have hR2:=HR.out;rw[hX] at hst hR2;simp only[] at hR2;obtain⟨rfl,hrd,hk9,vs',hm9⟩:=hst;obtain⟨c0,c1,c2,c3⟩:=hrd.cells;have g4:=hm9.cells.2.2.2.2.1;have z4:=hm9.z 4;have hos:=Off.setCell w9 fb 4 (.bool true);have hne:=hm9.ne hrd;have hfb9:=hm9.hB;have gT:Hid (zfY B rb fb s vl vm w R (.returned (.tuple #[])) (w9.setCell ⟨fb,4,none⟩ (.bool true))):=qh (by
            rw[<-hR2];exact⟨(Hb8.out.trans pb).trans (hos.below (by have:=hm9.lt;omega) (λk hk=>by simp at hk;omega)),rfl,hrd.off hos (by simp;omega),⟨hk9.le,hk9.l0,hk9.m0,hk9.s0,hk9.lm,hk9.ll,hk9.it,hk9.nd,hk9.lt⟩,vs',hm9.VW true⟩)
           clear HR hR2 hX hrd hk9 hm9 hos pb po;go_wp2_with fail;refine q9 (qI rfl _ _ _) rfl ?_;exact gT.out
end Go.Proofs.YtgklikkddckgbaaGreatDoor.Mo
namespace Go.Proofs.YtgklikkddckgbaaGreatDoor
open Go
def zeb:List Bool->Nat
 |[]=>0
 |b::l=>(if b then 0 else 1)+zeb l
theorem zeN:∀(l:List Bool) (i:Nat),l[i]?=some false->zeb (l.set i true)+1=zeb l
 |[],i,h=>by simp at h
 |b::l,0,h=>by
  simp at h;subst h;simp[zeb];omega
 |b::l,i+1,h=>by
  simp at h;have:=zeN l i h;simp[zeb];omega
theorem zdS:∀(l:List Bool),zeb l=0->∀i:Nat,l[i]?≠some false
 |[],_,i=>by simp
 |b::l,h,0=>by
  simp[zeb] at h;intro e;simp at e;rw[e] at h;simp at h
 |b::l,h,i+1=>by
  simp only[zeb] at h;simpa using zdS l (by omega) i
section
variable {P:Program} {ops:Array Oper} {Q:Exit->Act->World->Prop} {md:Region.Mode} {S:World->Prop} {X:Nat->Bool}
theorem zcg {listed:Array Bool} {i:Nat} (h:i∈Region.ready md ops listed):listed.toList[i]?=some false:=by
 have h1:=(yI.1 h).1;rw[Array.getElem?_toList];cases hq:listed[i]? with
 |none=>simp[Array.getD_eq_getD_getElem?,hq] at h1
 |some b=>simp[Array.getD_eq_getD_getElem?,hq] at h1;rw[h1]
def VX (P:Program) (md:Region.Mode) (ops:Array Oper) (Q:Exit->Act->World->Prop) (S:World->Prop) (X:Nat->Bool):Nat->Array Bool->Act->World->Prop
 |0,listed,a,w=>Region.ready md ops listed=[]/\Q .normal a w
 |fuel+1,listed,a,w=>
  (Region.ready md ops listed=[]->Q .normal a w)/\
  ∀i∈Region.ready md ops listed,wpOp P ops Q i (λa' w'=>(X i=true∨S w')/\VX P md ops Q S X fuel (listed.setIfInBounds i true) a' w') a w
theorem zfq:∀(fuel:Nat) (listed:Array Bool) (a:Act) (w:World),VX P md ops Q S X fuel listed a w->wpAny P md ops Q fuel listed a w
 |0,_,_,_,h=>h
 |fuel+1,_,_,_,h=>⟨h.1,λi hi=>wpOp_mono (λa' w' h'=>zfq fuel _ a' w' h'.2) (h.2 i hi)⟩
def zj8 (md:Region.Mode) (ops:Array Oper) (X:Nat->Bool) (i:Nat):Prop:=∀x o,X x=true->ops[x]?=some o->∃e∈o.after,Region.binds md e=true/\e.on=i
theorem zgW {i:Nat} {oi:Oper} {v:Value} (hi:ops[i]?=some oi) (hsel:∀(j:Nat) (o:Oper) cs b,ops[j]?=some o->o.op≠.select cs b)
  (hQ:∀c a w,Q (.panic c) (a.put oi.dst v) w->Q (.panic c) a w) (hX:zj8 md ops X i) (hXi:X i=false):
  ∀(fuel:Nat) (listed:Array Bool) (a:Act) (w:World),
   (∀j oj,ops[j]?=some oj->j≠i->listed.getD j true=false->(∀e∈oj.after,Region.binds md e=true->e.on≠i)->oi.apart ops oj=true)->
   i∈Region.ready md ops listed->YieldsIf P ops S oi v a->S w->
   VX P md ops Q S X fuel (listed.setIfInBounds i true) (a.put oi.dst v) w->VX P md ops Q S X (fuel+1) listed a w:=by
 intro fuel;induction fuel with
 |zero=>
  intro listed a w _ hr hy hS H;refine⟨λh=>(by rw[h] at hr;cases hr),λj hj=>?_⟩;by_cases hji:j=i
  ·subst hji;exact hy.wpOp hi hS ⟨.inr hS,H⟩
  ·have:=ready_mono hj hji;rw[H.1] at this;cases this
 |succ fuel ih=>
  intro listed a w hfree hr hy hS H;refine⟨λh=>(by rw[h] at hr;cases hr),λj hj=>?_⟩;by_cases hji:j=i
  ·subst hji;exact hy.wpOp hi hS ⟨.inr hS,H⟩
  ·have h1:=H.2 j (ready_mono hj hji);obtain⟨hjun,oj,hoj,hall⟩:=yI.1 hj;have hnot:∀e∈oj.after,Region.binds md e=true->e.on≠i:=λe he hb heq=>by
    have h1:=hall e he hb;have h0:=(yI.1 hr).1;rw[heq] at h1;rcases Nat.lt_or_ge i listed.size with h'|h'
    ·simp[h'] at h0 h1;rw[h0] at h1;cases h1
    ·simp[Array.getElem?_eq_none h'] at h1
   have hXj:¬X j=true:=λhx=>by
    obtain⟨e,he,hb,ho⟩:=hX j oj hx hoj;exact hnot e he hb ho
   have h2:=wpOp_putIf hoj (hfree j oj hoj hji hjun hnot) (λcs b=>hsel i oi cs b hi) (λcs b=>hsel j oj cs b hoj) hQ hy h1
   have hfree':∀k ok,ops[k]?=some ok->k≠i->(listed.setIfInBounds j true).getD k true=false->
     (∀e∈ok.after,Region.binds md e=true->e.on≠i)->oi.apart ops ok=true:=λk ok hk hki hun hno=>by
    refine hfree k ok hk hki ?_ hno;by_cases hjk:j=k
    ·subst hjk;exact hjun
    ·rw[getD_set_ne true hjk] at hun;exact hun
   refine wpOp_mono (λa' w' h3=>?_) h2;have hSw:S w':=h3.2.1.resolve_left hXj;refine⟨.inr hSw,ih (listed.setIfInBounds j true) a' w' hfree' (ready_mono hr (Ne.symm hji)) h3.1 hSw ?_⟩;rw[zJ _ _ hji];exact h3.2.2
def zmi (md:Region.Mode) (ops:Array Oper) (xs:List Nat) (i:Nat):Bool:=xs.all λx=>match ops[x]? with|some o=>o.after.any λe=>Region.binds md e&&e.on==i|none=>true
theorem ziP {xs:List Nat} {i:Nat} (h:zmi md ops xs i=true):zj8 md ops (λx=>xs.contains x) i:=λx o hx ho=>by
 have h1:=zO.1 h x (by simpa using hx);rw[ho] at h1;obtain⟨k,hk,h2⟩:=Array.any_eq_true.1 h1;simp only[qA,yC] at h2;exact⟨_,Array.getElem_mem hk,h2.1,h2.2⟩
variable {xs:List Nat}
theorem Zh {i:Nat} {oi:Oper} {v:Value} {fuel:Nat} {listed:Array Bool} {a:Act} {w:World} (hi:ops[i]?=some oi)
  (hs:Region.noSelect ops=true) (hf:Region.free md ops listed i=true) (hr:(Region.ready md ops listed).contains i=true) (hx:(zmi md ops xs i&&!xs.contains i)=true)
  (hQ:∀c a w,Q (.panic c) (a.put oi.dst v) w->Q (.panic c) a w) (hy:YieldsIf P ops S oi v a) (hS:S w)
  (h:VX P md ops Q S (λx=>xs.contains x) fuel (listed.setIfInBounds i true) (a.put oi.dst v) w):VX P md ops Q S (λx=>xs.contains x) (fuel+1) listed a w:=
 zgW hi (Region.noSelect_spec hs) hQ (ziP (Bool.and_eq_true_iff.1 hx).1) (by simpa using(Bool.and_eq_true_iff.1 hx).2) fuel listed a w (Region.free_spec hi hf) (by simpa using hr) hy hS h
theorem zbL {i:Nat} {fuel:Nat} {listed:Array Bool} {a:Act} {w:World} (hr:Region.ready md ops listed=[i])
  (h:wpOp P ops Q i (λa' w'=>(X i=true∨S w')/\VX P md ops Q S X fuel (listed.setIfInBounds i true) a' w') a w):VX P md ops Q S X (fuel+1) listed a w:=
 ⟨(λh0=>absurd (hr▸h0) (by simp)),λj hj=>by
   rw[hr] at hj;obtain rfl:j=i:=by simpa using hj
   exact h⟩
theorem zhv {listed:Array Bool} {a:Act} {w:World} (hr:Region.ready md ops listed=[]) (h:Q .normal a w):∀fuel,VX P md ops Q S X fuel listed a w
 |0=>⟨hr,h⟩
 |_+1=>⟨λ_=>h,by rw[hr];simp⟩
theorem zhw {id:Nat} {a:Act} {w:World} (hm:P.follows .mixedOrders=true)
  (h:VX P .any ops Q S X ops.size (Array.replicate ops.size false) a w.drew):(Code.region id ops true).wp P Q a w:=
 wp_region_any hm (zfq _ _ _ _ h)
theorem zfr (I:Array Bool->Act->World->Prop)
  (hend:∀listed a w,I listed a w->Region.ready md ops listed=[]->Q .normal a w)
  (hstep:∀listed a w i,I listed a w->i∈Region.ready md ops listed->wpOp P ops Q i (λa' w'=>(X i=true∨S w')/\I (listed.setIfInBounds i true) a' w') a w):
  ∀(fuel:Nat) (listed:Array Bool) (a:Act) (w:World),zeb listed.toList<=fuel->I listed a w->VX P md ops Q S X fuel listed a w
 |0,listed,a,w,hf,hI=>by
  have hr:Region.ready md ops listed=[]:=List.eq_nil_iff_forall_not_mem.2 λi hi=>zdS _ (by omega) i (zcg hi);exact⟨hr,hend _ _ _ hI hr⟩
 |fuel+1,listed,a,w,hf,hI=>by
  refine⟨λhr=>hend _ _ _ hI hr,λi hi=>wpOp_mono (λa' w' h=>⟨h.1,zfr I hend hstep fuel _ a' w' ?_ h.2⟩) (hstep _ _ _ i hI hi)⟩;have:=zeN _ _ (zcg hi);rw[Array.toList_setIfInBounds];omega
theorem zeO (I:Array Bool->Act->World->Prop)
  (hend:∀listed a w,I listed a w->Region.ready md ops listed=[]->False)
  (hstep:∀fuel listed a w i,zeb listed.toList<=fuel+1->I listed a w->i∈Region.ready md ops listed->wpOp P ops Q i (λa' w'=>(X i=true∨S w')/\(I (listed.setIfInBounds i true) a' w'∨VX P md ops Q S X fuel (listed.setIfInBounds i true) a' w')) a w):
  ∀(fuel:Nat) (listed:Array Bool) (a:Act) (w:World),zeb listed.toList<=fuel->I listed a w->VX P md ops Q S X fuel listed a w
 |0,listed,a,w,hf,hI=>by
  have hr:Region.ready md ops listed=[]:=List.eq_nil_iff_forall_not_mem.2 λi hi=>zdS _ (by omega) i (zcg hi);exact(hend _ _ _ hI hr).elim
 |fuel+1,listed,a,w,hf,hI=>by
  refine⟨λhr=>(hend _ _ _ hI hr).elim,λi hi=>wpOp_mono (λa' w' h=>⟨h.1,?_⟩) (hstep fuel _ _ _ i hf hI hi)⟩;rcases h.2 with h2|h2
  ·refine zeO I hend hstep fuel _ a' w' ?_ h2;have:=zeN _ _ (zcg hi);rw[Array.toList_setIfInBounds];omega
  ·exact h2
theorem Kf {i:Nat} {o:Oper} {a:Act} {w:World} {K:Act->World->Prop} (hi:ops[i]?=some o) (hg:o.guard=none) (h:o.wp P a w K Q):wpOp P ops Q i K a w:=by
 unfold wpOp;rw[hi];have hw:Region.wanted o (yielded ops a.tmps)=true:=by simp[Region.wanted,hg]
 simp only[hw,kt];exact .inl h
theorem zcM {listed:Array Bool} {i:Nat} {o:Oper} (hr:Region.ready md ops listed=[]) (ho:ops[i]?=some o) (hall:(o.after.all λe=>!Region.binds md e||listed.getD e.on false)=true):listed.getD i true=true:=by
 cases hq:listed.getD i true with
 |true=>rfl
 |false=>
  have hm:i∈Region.ready md ops listed:=yI.2 ⟨hq,o,ho,λe he hb=>by
   have h1:=Array.all_eq_true'.1 hall e he;rw[hb] at h1;simpa using h1⟩
  rw[hr] at hm;cases hm
theorem zcN {listed:Array Bool} {i:Nat} {o:Oper} (h:i∈Region.ready md ops listed) (ho:ops[i]?=some o) (k:Nat) (hk:(o.after.any λe=>Region.binds md e&&e.on==k)=true):listed.getD k false=true:=by
 obtain⟨_,o',ho',hall⟩:=yI.1 h;obtain rfl:o=o':=kJ (ho.symm.trans ho');obtain⟨j,hj,h2⟩:=Array.any_eq_true.1 hk;simp only[qA,yC] at h2;have:=hall _ (Array.getElem_mem hj) h2.1;rw[h2.2] at this;exact this
end
end Go.Proofs.YtgklikkddckgbaaGreatDoor
namespace Go.Proofs.YtgklikkddckgbaaGreatDoor.Mo
open Go.RowKit
def PB (N:Nat) (L:List Tok):Prop:=∀t∈L,t.1<=N
theorem PB.hd {N:Nat} {L:List Tok} (h:PB N L):(hd L).1<=N:=by
 cases L with
 |nil=>exact qF _
 |cons t l=>exact h t (by simp)
theorem PB.gW {N:Nat} {L:List Tok} (h:PB N L):PB N (gW L):=by
 match L,h with
 |[],h=>exact h
 |[x],h=>exact h
 |x::y::l,h=>exact λt ht=>h t (zN _ ht)
theorem PB.toks {s:ByteArray}:∀(n p:Nat),s.size-p=n->p<=s.size->PB s.size (toks s p):=by
 intro n;induction n using Nat.strongRecOn with
 |_ n ih=>
  intro p hn hp;by_cases h:pX s p<s.size
  ·rw[zc8 h hp];intro t ht;rcases zi.1 ht with rfl|ht
   ·exact zL h
   ·have h1:=zch (s:=s) p hp;have h2:=zed (s:=s) (pX s p) h;have h3:=zcU (s:=s) (pX s p) (by omega);exact ih (s.size-ZE s (pX s p)) (by omega) _ rfl (by omega) t ht
  ·rw[zcm h];intro t ht;obtain rfl:t=_:=by simpa using ht
   exact ql _
def ziQ (N:Nat):Z9->Prop
 |.error (c,p)=>c≠0/\p<=N
 |.ok (L,_)=>PB N L
def zlq (N:Nat):Except (Int×Nat) Met->Prop
 |.error (c,p)=>c≠0/\p<=N
 |.ok _=>True
theorem zlr {N:Nat} {n:Int} {a:Nat} {L:List Tok} {m:Met} (h:PB N L) (ha:a<=N):ziQ N (XJ n a L m):=by
 unfold XJ;split
 ·split
  ·exact h.gW
  ·exact⟨by decide,ha⟩
 ·rename_i hc;exact⟨hc,h.hd⟩
theorem zlV {N:Nat} {L:List Tok} {m:Met} (h:PB N L):ziQ N (Xq L m):=by
 unfold Xq;split
 ·split
  ·exact zlr h.gW h.hd
  ·rename_i hc;exact⟨hc,h.hd⟩
 ·exact zlr h h.hd
theorem zj9 {N:Nat}:∀(f:Nat) (L:List Tok) (m:Met) (i n:Nat) (all:Bool),PB N L->ziQ N (ZS f L m i n all)
 |0,_,_,_,_,_,_=>⟨by decide,qF _⟩
 |f+1,L,m,i,n,all,h=>by
  unfold ZS;split
  ·split
   ·split
    ·split
     ·exact zj9 f _ _ _ _ _ h.gW.gW.gW
     ·exact h.gW.gW
    ·rename_i hc;exact⟨hc,h.gW.hd⟩
   ·rename_i hc;exact⟨hc,h.hd⟩
  ·rename_i hc;exact⟨hc,h.hd⟩
theorem zls {N:Nat}:∀(f:Nat) (L:List Tok) (m:Met),PB N L->ziQ N (Z2 f L m)
 |0,_,_,_=>⟨by decide,qF _⟩
 |f+1,L,m,h=>by
  unfold Z2;split
  ·split
   ·exact⟨by decide,h.hd⟩
   ·split
    ·exact⟨by decide,h.hd⟩
    ·split
     ·split
      ·exact zls f _ _ h.gW.gW.gW
      ·exact h.gW.gW
     ·rename_i hc;exact⟨hc,h.gW.hd⟩
  ·exact⟨by decide,h.hd⟩
theorem zlW {N:Nat} {L:List Tok} {m:Met} (h:PB N L):ziQ N (YE L m):=by
 unfold YE;split
 ·split
  ·exact h.gW.gW
  ·rename_i hc;exact⟨hc,h.gW.hd⟩
 ·rename_i hc;exact⟨hc,h.hd⟩
theorem zk0 {N:Nat} {L:List Tok} {m:Met} (h:PB N L):ziQ N (Q4 L m):=by
 unfold Q4;split
 ·exact zj9 _ _ _ _ _ _ h.gW
 ·split
  ·exact zls _ _ _ h.gW
  ·split
   ·exact zlW h.gW
   ·split
    ·split
     ·exact zj9 _ _ _ _ _ _ h.gW
     ·rename_i hc;exact⟨hc,h.hd⟩
    ·exact⟨by decide,h.hd⟩
theorem zgX {N:Nat}:∀(f:Nat) (L:List Tok) (m:Met),PB N L->zlq N (KD f L m)
 |0,_,_,_=>⟨by decide,qF _⟩
 |f+1,L,m,h=>by
  unfold KD;split
  ·trivial
  ·split
   ·have hc:=zk0 (m:=m) h.gW;cases hq:Q4 (gW L) m with
    |error x=>rw[hq] at hc;exact hc
    |ok x=>rw[hq] at hc;exact zgX f _ _ hc
   ·exact⟨by decide,h.hd⟩
theorem ziu {N:Nat}:∀(f:Nat) (L:List Tok) (m:Met),PB N L->zlq N (JL f L m)
 |0,_,_,_=>⟨by decide,qF _⟩
 |f+1,L,m,h=>by
  unfold JL;have hc:=zlV (m:=m) h;cases hq:Xq L m with
  |error x=>rw[hq] at hc;exact hc
  |ok x=>
   rw[hq] at hc;simp only[];split
   ·exact ziu f _ _ hc.gW
   ·exact zgX _ _ _ hc
theorem zf2 {s:ByteArray} {c:Int} {p:Nat} (hs:s.size<=65536) (h:Zs s=.error (c,p)):c≠0/\p<=s.size:=by
 unfold Zs at h;rw[qx (by omega)] at h;have:=ziu (toks s 0).length (toks s 0) Met.zero (PB.toks (s:=s) _ 0 rfl (qF _));rw[h] at this;exact this
def zmj (B rb fb:Nat) (s:ByteArray) (w:World) (r:Except (Int×Nat) (Fm×Nat)) (e:Ending) (w':World):Prop:=Below B w w'/\
 match r with
 |.error (c,p)=>e=vU c p
 |.ok (f',j)=>e=.returned (.tuple #[])/\Rd w' rb fb s j/\pq f' j/\∃Y3 VY vs',pL w' B fb f' Y3 VY vs'
end Go.Proofs.YtgklikkddckgbaaGreatDoor.Mo


import Derived.Test.YtgklikkddckgbaaGreatDoorHDK
/- Lemmas of the claim. -/
set_option linter.all false
namespace Go.Proofs.YtgklikkddckgbaaGreatDoor.Mo
open Go.RowKit
theorem StJ.fin2 {w W w8:World} {B rb fb sb:Nat} {s:ByteArray} {f:Fm} {round:Bool} {i i1:Nat} {l:List It} {j:Nat} {vi vl vm vs v8:Value} {vhs vis:List Value} (h:StJ w W rb fb sb s f round i l j vi vhs) (hm:FmM w B fb f vl vm vs) (hr0:Rd w rb fb s i1) (hB:B≤w.heap.size) (hBr:B≤rb)
  (hrw:RwM W B vs f.rows vis) (hit:∀k,k<f.rows.length→∃vhs,ItsM W B f.letters (vis.getD k .nilFunc) (f.rows.getD k (⟨false,[]⟩:Rw)).items vhs) (hg:W.grownBy w8 vs.ownBlock) (hv8:w8.ownsRow B 106 2 v8 (f.rows.length+1) (rwC f.rows vis++[.bool round,vi])):
  (∃v,FmM (w8.setCell ⟨fb,3,none⟩ v8) B fb {f with rows:=f.rows++[(⟨round,l⟩:Rw)]} vl vm v∧Rd (w8.setCell ⟨fb,3,none⟩ v8) rb fb s j∧Below B w (w8.setCell ⟨fb,3,none⟩ v8)∧(w8.setCell ⟨fb,3,none⟩ v8).heap[sb]?=some (.cells #[.bool round,vi] 106 (0,0))∧ItsM (w8.setCell ⟨fb,3,none⟩ v8) w.heap.size f.letters vi l vhs)∧w8.cell? ⟨fb,3,none⟩=some vs∧w8.frozen? ⟨fb,3,none⟩=false:=by
 obtain⟨a1,a2,a3,a4,a5,a6,a7⟩:=h.fin hm hr0 hB hBr hrw hit hg hv8;exact⟨⟨v8,a1,a2,a3,a4,a7⟩,a5,a6⟩
theorem zir:Tryz.prog.info? 106=some Tryz.t106:=by kernel_rfl
theorem zis:Tryz.t106.zero=some (.agg #[.bool false,.slice none 0 0]):=by kernel_rfl
theorem zit:Tryz.t106.size=2:=by kernel_rfl
theorem zf0:Tryz.t106.bytes=32:=by kernel_rfl
theorem zeM {a b:Int} (h1:-1≤a) (h2:a≤512) (h3:0≤b) (h4:b≤512):-512≤a*b∧a*b≤262144:=by
 constructor
 ·have h:=Int.mul_le_mul_of_nonneg_right h1 h3;omega
 ·have h:=Int.mul_le_mul_of_nonneg_right h2 h3;omega
theorem ItsM.cells13 {w:World} {B:Nat} {letters:List UInt8} {A:Option Addr} {n c:Nat} {l:List It} {vhs:List Value} (h:ItsM w B letters (.slice A n c) l vhs) {k:Nat} (hk:k<l.length):
  ∃g,A=some ⟨g,0,none⟩∧g<w.heap.size∧w.cell? ⟨g,k*13,none⟩=some (.int .i64 (l.getD k It0).cls)∧w.cell? ⟨g,k*13+1,none⟩=some (.int .i64 (l.getD k It0).ref)∧w.cell? ⟨g,k*13+2,none⟩=some (.int .i64 (zbQ letters (l.getD k It0).marks))∧
   w.cell? ⟨g,k*13+3,none⟩=some (.int .u8 (nOf (l.getD k It0).marks 58))∧w.cell? ⟨g,k*13+4,none⟩=some (.int .i64 (nOf (l.getD k It0).marks 47))∧w.cell? ⟨g,k*13+5,none⟩=some (.int .i64 (nOf (l.getD k It0).marks 94))∧w.cell? ⟨g,k*13+6,none⟩=some (.int .i64 (nOf (l.getD k It0).marks 64))∧
   w.cell? ⟨g,k*13+7,none⟩=some (vhs.getD k .nilFunc)∧w.cell? ⟨g,k*13+8,none⟩=some (.int .i32 (nOf (l.getD k It0).marks 39))∧w.cell? ⟨g,k*13+9,none⟩=some (.int .i64 (l.getD k It0).at_)∧w.cell? ⟨g,k*13+10,none⟩=some (.int .i64 (zai (l.getD k It0).marks))∧
   w.cell? ⟨g,k*13+11,none⟩=some (.bool (zat (l.getD k It0).marks 58))∧w.cell? ⟨g,k*13+12,none⟩=some (.bool (zat (l.getD k It0).marks 47)):=by
 have hlen:=zih letters l vhs h.n;have hown:=h.o;rcases h.o.2 with⟨e,e0⟩|⟨g,cap,cur,e,_,hg,_⟩
 ·omega
 ·simp only[Value.slice.injEq] at e;obtain⟨rfl,rfl,rfl⟩:=e;refine⟨g,rfl,(qg hg).1,?_⟩;have key:∀o,o<13→w.cell? ⟨g,k*13+o,none⟩=(itC letters (l.getD k It0).cls (l.getD k It0).ref (l.getD k It0).marks (l.getD k It0).at_ (vhs.getD k .nilFunc))[o]?:=fun o ho=>
   (hown.cellAt (k*13+o) (by omega)).trans (zii letters l vhs k o h.n hk ho)
  exact⟨key 0 (by omega),key 1 (by omega),key 2 (by omega),key 3 (by omega),key 4 (by omega),key 5 (by omega),key 6 (by omega),key 7 (by omega),key 8 (by omega),key 9 (by omega),key 10 (by omega),key 11 (by omega),key 12 (by omega)⟩
set_option maxRecDepth 100000 in
set_option maxHeartbeats 8000000 in
theorem zdR (B rb fb:Nat) (s:ByteArray) (f:Fm) (round:Bool) (start i i0:Nat) (vl vm vs:Value) (w:World) (h:Rd w rb fb s i) (hv:Vars w) (h9:9≤B) (hB:B≤rb) (hm:FmM w B fb f vl vm vs) (hk:FmOk f i0) (hi0:i0+1≤i):
  Calls Tryz.prog 95 #[.pointer (some ⟨rb,0,none⟩),.bool round,.int .i64 start] w (zfY B rb fb s vl vm w (zaF s f round start i)):=by
 have hsz:=h.sz;have hle:=h.le;have hrb:=h.lt;have hfb:=hm.lt;have hBw:B≤w.heap.size:=by omega
 obtain⟨q0,q1,q2,q3⟩:=h.cells;have m5:=hm.cells.2.2.2.2.2.1;generalize hR:zaF s f round start i=R;have HR:=qh hR;have H:=qh h;have Hv:=qh hv;have Hm:=qh hm;have Hk:=qh hk;have Hbd:=qh (zij hk (by omega) hk.l0.1 hk.l0.2);have Hl1:=qh (hm.linesC hk (by omega) f.least hk.l0.1 hk.l0.2);generalize hA:za6 f.rows f.least=A at*;have HA:=qh hA;clear hR h hv hm hk hA;go_enter Tryz.func95,Tryz.ntmps95;go_wp2_with fail;refine Hl1.out.mono ?_;rintro e w1 ⟨rfl,hb1⟩;have hW2:Below w.heap.size w (w1.alloc (.cells #[.bool round,.slice none 0 0] 106)):=hb1.alloc hb1.size _;have hst2:(w1.alloc (.cells #[.bool round,.slice none 0 0] 106)).heap[w1.heap.size]?=some (.cells #[.bool round,.slice none 0 0] 106 (0,0)):=qn w1 _;have Hsb:Hid (w.heap.size≤w1.heap.size):=qh hb1.size;have His:Hid (Calls Tryz.prog 89 #[.pointer (some ⟨rb,0,none⟩),.int .u8 32] (w1.alloc (.cells #[.bool round,.slice none 0 0] 106)) fun e w'=>e=.returned (.bool (isB s i 32))∧Below (w1.alloc (.cells #[.bool round,.slice none 0 0] 106)).heap.size (w1.alloc (.cells #[.bool round,.slice none 0 0] 106)) w'):=qh (zdZ rb fb s i 32 _ (H.out.below hW2));have HW2:=qh hW2;have Hst2:=qh hst2;clear hb1 hW2 hst2;go_wp2_with fail;refine His.out.mono ?_;rintro e w3 ⟨rfl,hb3⟩;have hJ3:StJ w w3 rb fb w1.heap.size s f round i [] i (.slice none 0 0) []:=StJ.below ⟨H.out.below HW2.out,Off.of_below HW2.out (ql _) _,Hsb.out,Hst2.out,⟨rfl,⟨rfl,.inl ⟨rfl,rfl⟩⟩,fun k hk=>(by simp at hk)⟩,fun x hx=>(by cases hx),(by simp)⟩ hb3;have HJ3:=qh hJ3;generalize w1.heap.size=sb at*;clear hJ3 hb3 His HW2 Hst2;cases h32:isB s i 32 with
 |false=>
  have HR2:Hid (R=.error (180,i)):=qh (by rw[←HR.out];unfold zaF;rw[if_pos (by rw[h32];simp)]);clear h32;go_wp2_with fail;refine(zay rb fb s i w3 HJ3.out.rd).mono ?_;rintro e w4 ⟨rfl,hb4⟩;refine⟨rfl,(HJ3.out.off.trans (Off.of_below hb4 (ql _) _)).below hBw (fun k hk=>by simp at hk;omega),by rw[HR2.out];rfl⟩
 |true=>
  have HRT:Hid (zbk f round start (za1 s f round (s.size+1) [] i)=R):=qh (by rw[←HR.out,zd5 h32]);clear h32 HR;go_wp2_with fail;clear q0 q1 q2 q3 m5;go_loopw [] (fun wr=>∃(l:List It) (j:Nat) (vi:Value) (vhs:List Value) (q:Nat),s.size<q+j∧Hid (StJ w wr rb fb sb s f round i l j vi vhs)∧Hid (zbk f round start (za1 s f round q l j)=R)) (fun wr=>s.size-(match wr.cell? ⟨rb,1,none⟩ with|some v=>(intOf v).toNat|none=>0))
  case atStart=>exact⟨[],i,_,[],s.size+1,by omega,HJ3,HRT⟩
  case round=>
   obtain⟨l,j,vi,vhs,q,hq,hJ,hT⟩:=hrel;clear HJ3 HRT;have hjs:j≤s.size:=hJ.out.rd.le;have Hq:Hid (Calls Tryz.prog 89 #[.pointer (some ⟨rb,0,none⟩),.int .u8 32] wr fun e w'=>e=.returned (.bool (isB s j 32))∧Below wr.heap.size wr w'):=qh (zdZ rb fb s j 32 wr hJ.out.rd);have Hms:Hid (wr.cell? ⟨rb,1,none⟩=some (.int .i64 j)):=qh hJ.out.rd.cells.2.1;go_wp2_with fail;refine Hq.out.mono ?_;rintro e w4 ⟨rfl,hb4⟩;have HJ4:=qh (hJ.out.below hb4);clear hb4 hJ;cases hb:isB s j 32 with
   |false=>
    have HT2:Hid (zbk f round start (.ok (l,j))=R):=qh (by
     have:=hT.out;cases q with
     |zero=>exact this
     |succ q'=>
      unfold za1 at this;rw[if_neg (by rw[hb];simp)] at this;exact this)
    obtain⟨Ai,ci,hvi⟩:=zab HJ4.out.its.o;subst hvi;have hD4:=HJ4.out.drew;have hM4:=Hm.out.offR H.out HJ4.out.off;have hM5:=Hm.out.offR H.out hD4.off;obtain⟨g0,g1,g2,g3,g4,g5,g6,g7⟩:=hM4.cells;obtain⟨vis,hrw,hit⟩:=hM5.r;obtain⟨As,cs,hvs⟩:=zab hrw.o;subst hvs;have hjsz:=HJ4.out.rd.le;have hkle:=Hk.out.le;have hlen:=HJ4.out.len;have Hmx:Hid (f.rows.length+1≤maxLen):=qh (by unfold maxLen;omega);have Hby:Hid ((f.rows.length+1)*32≤140737488355328):=qh (by omega);have Hpos:Hid (0<f.rows.length+1):=qh (by omega);have Hown:=qh hrw.o;have Hbs:Hid (B≤w4.drew.heap.size):=qh (qm hBw hD4.off.size);have Hhk:=qh HJ4.out.ok;have Hls:=qh (show l.length≤65536 by omega);have HF:=qh (fun w8 v8 hg hv8=>hD4.fin2 (w8:=w8) (v8:=v8) Hm.out H.out hBw hB hrw hit hg hv8);have Hk2:=qh (Hk.out.more (j:=j) (round:=round) (l:=l) (by omega) HJ4.out.ok);have g3a:∀o,(w4.alloc o).cell? ⟨fb,3,none⟩=some (.slice As f.rows.length cs):=fun o=>(qw (qa w4 o fb hM4.lt)).trans g3;have hst4:=HJ4.out.st;clear hD4 hM4 hM5 hrw hit;cases round with
    |false=>
     cases hrs:f.rounds with
     |false=>
      have hrs4:w4.cell? ⟨fb,4,none⟩=some (.bool false):=(by rw[g4,hrs]);clear g4;have st0:w4.cell? ⟨sb,0,none⟩=some (.bool false):=qc _ _ 0 _ _ (0,0) hst4;have st1:w4.cell? ⟨sb,1,none⟩=some (.slice Ai l.length ci):=qc _ _ 1 _ _ (0,0) hst4;have Hone:Hid (∀u∈(#[.bool false,.slice Ai l.length ci]:Array Value).toList,u.oneCell'=true):=qh (by intro u hu;simp at hu;rcases hu with rfl|rfl<;>rfl);have HU:Hid (upP f false=0):=qh (by unfold upP;rw[if_neg (by simp),hrs,if_neg (by simp)]);clear hst4;go_upto_region 12 with fail
      go_cut [78] from 69 to 78 (fun v78 wx=>Hid (∃v8,FmM wx B fb {f with rows:=f.rows++[(⟨false,l⟩:Rw)]} vl vm v8∧Rd wx rb fb s j∧Below B w wx∧wx.heap[sb]?=some (.cells #[.bool false,.slice Ai l.length ci] 106 (0,0))∧ItsM wx w.heap.size f.letters (.slice Ai l.length ci) l vhs))
      case first=>
       go_region_law (refine zah w4.drew (by rfl) (.tmp 73) (.tmp 75) 90 (by rfl) B 106 _ _ 2 32 Tryz.underlying90 zir zis zit zf0 rfl (by decide) (.slice As f.rows.length cs) f.rows.length (rwC f.rows vis) _ _ (by simp[Act.eval,Act.put]) (by simp[Act.eval,Act.put];rfl) (by simp) (by exact Hown.out) rfl (by exact Hone.out) Hmx.out Hby.out (by exact Hbs.out) ?_;intro v8 w8 hown8 hg8 hat8;obtain⟨g8,cap8,rfl⟩:=zak hown8 Hpos.out;obtain⟨hfin8,c8,z8⟩:=HF.out w8 _ hg8 hown8;have HFin:=qh hfin8;clear hfin8 hown8 hg8 hat8)
       all_goals
        go_wp2_with fail;go_meet
        exact HFin
      case rest=>
       obtain⟨W9,hW9⟩:∃W9:World,W9=wc:=⟨_,rfl⟩;subst hW9;obtain⟨v8,hF8,hR8,hB8,hS8,hI8⟩:=hcut.out;have HF8:=qh hF8;have HR8:=qh hR8;have HB8:=qh hB8;have HI8:=qh hI8;have HS8:=qh hS8;clear hF8 hR8 hB8 hI8 hS8 hcut;have e6:W9.cell? ⟨fb,6,none⟩=some (.int .i64 f.most):=HF8.out.cells.2.2.2.2.2.2.1;have Hl9:=qh (HF8.out.linesC Hk2.out (by omega) f.most Hk.out.m0.1 Hk.out.m0.2);generalize hS:za6 (f.rows++[(⟨false,l⟩:Rw)]) f.most=S at*;go_wp2_with fail;refine Hl9.out.mono ?_;rintro e w10 ⟨rfl,hb10⟩;have hbB:Below B w w10:=HB8.out.trans ((Off.of_below hb10 (ql _) []).below (qm hBw HB8.out.size) (fun _ h=>by cases h));have HbB:=qh hbB;have HF10:=qh (HF8.out.below hb10);have HR10:=qh (HR8.out.below hb10);have HI10:=qh (HI8.out.off (Off.of_below hb10 (ql _) []) (TyAt.nil (T:=[])) (by simp) (by simp));have t1:w10.cell? ⟨sb,1,none⟩=some (.slice Ai l.length ci):=qc _ _ 1 _ _ (0,0) ((hb10.block _ (qg HS8.out).1).trans HS8.out);have e6:w10.cell? ⟨fb,6,none⟩=some (.int .i64 f.most):=HF10.out.cells.2.2.2.2.2.2.1;have e7:w10.cell? ⟨fb,7,none⟩=some (.int .i64 f.shift):=HF10.out.cells.2.2.2.2.2.2.2;have Hfb:=qh HF10.out.lt;have HSe:=qh hS;clear hb10 hbB HF8 HR8 HB8 HI8 HS8 hS Hl9 HF Hown Hone;by_cases hS5:512<S
       ·have HR2:Hid (R=.error (3,start)):=qh (by
         rw[←HT2.out];unfold zbk;simp only[];rw[if_pos (by rw[HSe.out];exact hS5)])
        go_wp2_with fail;refine(fail_any 3 start w10).mono ?_;rintro e w11 ⟨rfl,hb11⟩;exact⟨rfl,HbB.out.trans ((Off.of_below hb11 (ql _) []).below (qm hBw HbB.out.size) (fun _ h=>by cases h)),by rw[HR2.out];rfl⟩
       ·have HT3:Hid ((match l.find? (zbn f false) with|some x=>.error (5,x.at_)|none=>.ok ({f with rows:=f.rows++[(⟨false,l⟩:Rw)]},j))=R):=qh (by
         rw[←HT2.out];unfold zbk;simp only[];rw[if_neg (by rw[HSe.out];exact hS5)];rfl)
        have hm0:=Hk.out.m0;have hs0:=Hk.out.s0;have HUb:Hid (-512≤(0:Int)∧(0:Int)≤262144):=qh (by omega);clear HT2;go_wp2_with fail;go_loopw [112] (fun q wr=>∃k:Nat,k≤l.length∧q=.int .i64 k∧Hid (∀x∈l.take k,zbn f false x=false)∧Hid (Below w10.heap.size w10 wr)) (fun q _=>l.length-(intOf q).toNat)
        case atStart=>exact⟨0,Nat.zero_le _,rfl,qh (by simp),qh (qb _ _)⟩
        case round=>
         obtain⟨k,hk,rfl,hpre,hb⟩:=hrel;by_cases hlt:k<l.length
         ·obtain⟨g,hA,hgs,c0,c1,c2,c3,c4,c5,c6,c7,c8,c9,c10,c11,c12⟩:=HI10.out.cells13 hlt;subst hA;have hmem:l.getD k It0∈l:=by
           rw[List.getD_eq_getElem?_getD,List.getElem?_eq_getElem hlt];exact qM hlt
          have hcl:=(Hhk.out _ hmem).cl;have Hat:Hid (zbn f false (l.getD k It0)=true→R=.error (5,(l.getD k It0).at_)):=qh (fun ho=>by
           rw[←HT3.out,zeJ hlt hpre.out ho])
          have Hnx:Hid (zbn f false (l.getD k It0)=false→∀x∈l.take (k+1),zbn f false x=false):=qh (fun ho x hx=>by
           rw[List.take_succ_eq_append_getElem hlt] at hx;rcases List.mem_append.1 hx with hx|hx
           ·exact hpre.out x hx
           ·have e:x=l.getD k It0:=by
             rw[List.getD_eq_getElem?_getD,List.getElem?_eq_getElem hlt];simpa using hx
            rw[e];exact ho)
          have k0:=(hb.out.cell (p:=⟨g,k*13,none⟩) hgs).trans c0;have k1:=(hb.out.cell (p:=⟨g,k*13+1,none⟩) hgs).trans c1;have k2:=(hb.out.cell (p:=⟨g,k*13+2,none⟩) hgs).trans c2;have k3:=(hb.out.cell (p:=⟨g,k*13+3,none⟩) hgs).trans c3;have k4:=(hb.out.cell (p:=⟨g,k*13+4,none⟩) hgs).trans c4;have k5:=(hb.out.cell (p:=⟨g,k*13+5,none⟩) hgs).trans c5;have k6:=(hb.out.cell (p:=⟨g,k*13+6,none⟩) hgs).trans c6;have k7:=(hb.out.cell (p:=⟨g,k*13+7,none⟩) hgs).trans c7;have k8:=(hb.out.cell (p:=⟨g,k*13+8,none⟩) hgs).trans c8;have k9:=(hb.out.cell (p:=⟨g,k*13+9,none⟩) hgs).trans c9;have k10:=(hb.out.cell (p:=⟨g,k*13+10,none⟩) hgs).trans c10;have k11:=(hb.out.cell (p:=⟨g,k*13+11,none⟩) hgs).trans c11;have k12:=(hb.out.cell (p:=⟨g,k*13+12,none⟩) hgs).trans c12;have hUb:=HUb.out;have hbs:=hb.out.size;have h6:=(hb.out.cell (p:=⟨fb,6,none⟩) Hfb.out).trans e6;have h6a:∀o,(wr.alloc o).cell? ⟨fb,6,none⟩=some (.int .i64 f.most):=fun o=>(qw (qa wr o fb (Nat.lt_of_lt_of_le Hfb.out hbs))).trans h6;have HB2:=qh (fun(c:Array Value)=>hb.out.alloc hbs (.cells c 108));have Hov:Hid (zbn f false (l.getD k It0)=(decide (0≤(l.getD k It0).cls)&&decide (25≤(l.getD k It0).cls)&&!(false&&f.most==0))):=qh (by unfold zbn;rw[HU.out];rw[Int.add_zero]);clear c0 c1 c2 c3 c4 c5 c6 c7 c8 c9 c10 c11 c12 hpre hmem;obtain⟨Ah,ch,hvk⟩:=zab (HI10.out.h k hlt);generalize vhs.getD k .nilFunc=vk at*;subst hvk;generalize l.getD k It0=x at*;obtain⟨xcls,xref,xms,xat⟩:=x;simp only[] at k0 k1 k2 k3 k4 k5 k6 k7 k8 k9 k10 k11 k12 hcl Hov Hat Hnx;have hw2:IntKind.i64.wrap (xcls)=xcls:=qi _ (by omega);generalize zbQ f.letters xms=y2 at*;generalize nOf xms 58=y3 at*;generalize nOf xms 47=y4 at*;generalize nOf xms 94=y5 at*;generalize nOf xms 64=y6 at*;generalize nOf xms 39=y8 at*;generalize zai xms=y10 at*;generalize zat xms 58=y11 at*;generalize zat xms 47=y12 at*;by_cases h0:0≤xcls
          ·have d0:decide (0≤xcls)=true:=qt h0;by_cases h25:25≤xcls
           ·have d25:decide (25≤xcls)=true:=qt h25;omega
           ·have d25:decide (25≤xcls)=false:=qd h25;go_wp2_with fail;go_roundw
            case rel=>exact⟨k+1,by omega,by go_num,qh (Hnx.out (by rw[Hov.out];simp[*])),qh (HB2.out _)⟩
            case measure=>simp[intOf];omega
          ·have d0:decide (0≤xcls)=false:=qd h0;go_wp2_with fail;go_roundw
           case rel=>exact⟨k+1,by omega,by go_num,qh (Hnx.out (by rw[Hov.out];simp[*])),qh (HB2.out _)⟩
           case measure=>simp[intOf];omega
         ·obtain rfl:k=l.length:=by omega
          have HR3:Hid (R=.ok ({f with rows:=f.rows++[(⟨false,l⟩:Rw)]},j)):=qh (by
           rw[←HT3.out,zeo (by have:=hpre.out;rwa [List.take_length] at this)])
          go_wp2_with fail;refine bodyPost_end (results_none rfl _ _ _) rfl ?_;rw[HR3.out];exact⟨HbB.out.trans ((Off.of_below hb.out (ql _) []).below (qm hBw HbB.out.size) (fun _ h=>by cases h)),rfl,HR10.out.below hb.out,Hk2.out,_,HF10.out.below hb.out⟩
     |true=>
      have hrs4:w4.cell? ⟨fb,4,none⟩=some (.bool true):=(by rw[g4,hrs]);clear g4;have st0:w4.cell? ⟨sb,0,none⟩=some (.bool false):=qc _ _ 0 _ _ (0,0) hst4;have st1:w4.cell? ⟨sb,1,none⟩=some (.slice Ai l.length ci):=qc _ _ 1 _ _ (0,0) hst4;have Hone:Hid (∀u∈(#[.bool false,.slice Ai l.length ci]:Array Value).toList,u.oneCell'=true):=qh (by intro u hu;simp at hu;rcases hu with rfl|rfl<;>rfl);have HU:Hid (upP f false=(f.most*f.shift)):=qh (by unfold upP;rw[if_neg (by simp),hrs,if_pos rfl]);clear hst4;go_upto_region 12 with fail
      go_cut [78] from 69 to 78 (fun v78 wx=>Hid (∃v8,FmM wx B fb {f with rows:=f.rows++[(⟨false,l⟩:Rw)]} vl vm v8∧Rd wx rb fb s j∧Below B w wx∧wx.heap[sb]?=some (.cells #[.bool false,.slice Ai l.length ci] 106 (0,0))∧ItsM wx w.heap.size f.letters (.slice Ai l.length ci) l vhs))
      case first=>
       go_region_law (refine zah w4.drew (by rfl) (.tmp 73) (.tmp 75) 90 (by rfl) B 106 _ _ 2 32 Tryz.underlying90 zir zis zit zf0 rfl (by decide) (.slice As f.rows.length cs) f.rows.length (rwC f.rows vis) _ _ (by simp[Act.eval,Act.put]) (by simp[Act.eval,Act.put];rfl) (by simp) (by exact Hown.out) rfl (by exact Hone.out) Hmx.out Hby.out (by exact Hbs.out) ?_;intro v8 w8 hown8 hg8 hat8;obtain⟨g8,cap8,rfl⟩:=zak hown8 Hpos.out;obtain⟨hfin8,c8,z8⟩:=HF.out w8 _ hg8 hown8;have HFin:=qh hfin8;clear hfin8 hown8 hg8 hat8)
       all_goals
        go_wp2_with fail;go_meet
        exact HFin
      case rest=>
       obtain⟨W9,hW9⟩:∃W9:World,W9=wc:=⟨_,rfl⟩;subst hW9;obtain⟨v8,hF8,hR8,hB8,hS8,hI8⟩:=hcut.out;have HF8:=qh hF8;have HR8:=qh hR8;have HB8:=qh hB8;have HI8:=qh hI8;have HS8:=qh hS8;clear hF8 hR8 hB8 hI8 hS8 hcut;have e6:W9.cell? ⟨fb,6,none⟩=some (.int .i64 f.most):=HF8.out.cells.2.2.2.2.2.2.1;have Hl9:=qh (HF8.out.linesC Hk2.out (by omega) f.most Hk.out.m0.1 Hk.out.m0.2);generalize hS:za6 (f.rows++[(⟨false,l⟩:Rw)]) f.most=S at*;go_wp2_with fail;refine Hl9.out.mono ?_;rintro e w10 ⟨rfl,hb10⟩;have hbB:Below B w w10:=HB8.out.trans ((Off.of_below hb10 (ql _) []).below (qm hBw HB8.out.size) (fun _ h=>by cases h));have HbB:=qh hbB;have HF10:=qh (HF8.out.below hb10);have HR10:=qh (HR8.out.below hb10);have HI10:=qh (HI8.out.off (Off.of_below hb10 (ql _) []) (TyAt.nil (T:=[])) (by simp) (by simp));have t1:w10.cell? ⟨sb,1,none⟩=some (.slice Ai l.length ci):=qc _ _ 1 _ _ (0,0) ((hb10.block _ (qg HS8.out).1).trans HS8.out);have e6:w10.cell? ⟨fb,6,none⟩=some (.int .i64 f.most):=HF10.out.cells.2.2.2.2.2.2.1;have e7:w10.cell? ⟨fb,7,none⟩=some (.int .i64 f.shift):=HF10.out.cells.2.2.2.2.2.2.2;have Hfb:=qh HF10.out.lt;have HSe:=qh hS;clear hb10 hbB HF8 HR8 HB8 HI8 HS8 hS Hl9 HF Hown Hone;by_cases hS5:512<S
       ·have HR2:Hid (R=.error (3,start)):=qh (by
         rw[←HT2.out];unfold zbk;simp only[];rw[if_pos (by rw[HSe.out];exact hS5)])
        go_wp2_with fail;refine(fail_any 3 start w10).mono ?_;rintro e w11 ⟨rfl,hb11⟩;exact⟨rfl,HbB.out.trans ((Off.of_below hb11 (ql _) []).below (qm hBw HbB.out.size) (fun _ h=>by cases h)),by rw[HR2.out];rfl⟩
       ·have HT3:Hid ((match l.find? (zbn f false) with|some x=>.error (5,x.at_)|none=>.ok ({f with rows:=f.rows++[(⟨false,l⟩:Rw)]},j))=R):=qh (by
         rw[←HT2.out];unfold zbk;simp only[];rw[if_neg (by rw[HSe.out];exact hS5)];rfl)
        have hm0:=Hk.out.m0;have hs0:=Hk.out.s0;have hpb:=zeM (a:=f.most) (b:=f.shift) (by omega) (by omega) hs0.1 hs0.2;have HUb:=qh hpb;have hw1:IntKind.i64.wrap (f.most*f.shift)=f.most*f.shift:=qi _ (by omega);clear HT2 hpb;go_wp2_with fail;go_quiet (fail)
        go_wp2_with fail;generalize (f.most*f.shift)=U at*;go_loopw [112] (fun q wr=>∃k:Nat,k≤l.length∧q=.int .i64 k∧Hid (∀x∈l.take k,zbn f false x=false)∧Hid (Below w10.heap.size w10 wr)) (fun q _=>l.length-(intOf q).toNat)
        case atStart=>exact⟨0,Nat.zero_le _,rfl,qh (by simp),qh (zad (qb _ _) nq)⟩
        case round=>
         obtain⟨k,hk,rfl,hpre,hb⟩:=hrel;by_cases hlt:k<l.length
         ·obtain⟨g,hA,hgs,c0,c1,c2,c3,c4,c5,c6,c7,c8,c9,c10,c11,c12⟩:=HI10.out.cells13 hlt;subst hA;have hmem:l.getD k It0∈l:=by
           rw[List.getD_eq_getElem?_getD,List.getElem?_eq_getElem hlt];exact qM hlt
          have hcl:=(Hhk.out _ hmem).cl;have Hat:Hid (zbn f false (l.getD k It0)=true→R=.error (5,(l.getD k It0).at_)):=qh (fun ho=>by
           rw[←HT3.out,zeJ hlt hpre.out ho])
          have Hnx:Hid (zbn f false (l.getD k It0)=false→∀x∈l.take (k+1),zbn f false x=false):=qh (fun ho x hx=>by
           rw[List.take_succ_eq_append_getElem hlt] at hx;rcases List.mem_append.1 hx with hx|hx
           ·exact hpre.out x hx
           ·have e:x=l.getD k It0:=by
             rw[List.getD_eq_getElem?_getD,List.getElem?_eq_getElem hlt];simpa using hx
            rw[e];exact ho)
          have k0:=(hb.out.cell (p:=⟨g,k*13,none⟩) hgs).trans c0;have k1:=(hb.out.cell (p:=⟨g,k*13+1,none⟩) hgs).trans c1;have k2:=(hb.out.cell (p:=⟨g,k*13+2,none⟩) hgs).trans c2;have k3:=(hb.out.cell (p:=⟨g,k*13+3,none⟩) hgs).trans c3;have k4:=(hb.out.cell (p:=⟨g,k*13+4,none⟩) hgs).trans c4;have k5:=(hb.out.cell (p:=⟨g,k*13+5,none⟩) hgs).trans c5;have k6:=(hb.out.cell (p:=⟨g,k*13+6,none⟩) hgs).trans c6;have k7:=(hb.out.cell (p:=⟨g,k*13+7,none⟩) hgs).trans c7;have k8:=(hb.out.cell (p:=⟨g,k*13+8,none⟩) hgs).trans c8;have k9:=(hb.out.cell (p:=⟨g,k*13+9,none⟩) hgs).trans c9;have k10:=(hb.out.cell (p:=⟨g,k*13+10,none⟩) hgs).trans c10;have k11:=(hb.out.cell (p:=⟨g,k*13+11,none⟩) hgs).trans c11;have k12:=(hb.out.cell (p:=⟨g,k*13+12,none⟩) hgs).trans c12;have hUb:=HUb.out;have hbs:=hb.out.size;have h6:=(hb.out.cell (p:=⟨fb,6,none⟩) Hfb.out).trans e6;have h6a:∀o,(wr.alloc o).cell? ⟨fb,6,none⟩=some (.int .i64 f.most):=fun o=>(qw (qa wr o fb (Nat.lt_of_lt_of_le Hfb.out hbs))).trans h6;have HB2:=qh (fun(c:Array Value)=>hb.out.alloc hbs (.cells c 108));have Hov:Hid (zbn f false (l.getD k It0)=(decide (0≤(l.getD k It0).cls)&&decide (25≤(l.getD k It0).cls+U)&&!(false&&f.most==0))):=qh (by unfold zbn;rw[HU.out]);clear c0 c1 c2 c3 c4 c5 c6 c7 c8 c9 c10 c11 c12 hpre hmem;obtain⟨Ah,ch,hvk⟩:=zab (HI10.out.h k hlt);generalize vhs.getD k .nilFunc=vk at*;subst hvk;generalize l.getD k It0=x at*;obtain⟨xcls,xref,xms,xat⟩:=x;simp only[] at k0 k1 k2 k3 k4 k5 k6 k7 k8 k9 k10 k11 k12 hcl Hov Hat Hnx;have hw2:IntKind.i64.wrap (xcls+U)=xcls+U:=qi _ (by omega);generalize zbQ f.letters xms=y2 at*;generalize nOf xms 58=y3 at*;generalize nOf xms 47=y4 at*;generalize nOf xms 94=y5 at*;generalize nOf xms 64=y6 at*;generalize nOf xms 39=y8 at*;generalize zai xms=y10 at*;generalize zat xms 58=y11 at*;generalize zat xms 47=y12 at*;by_cases h0:0≤xcls
          ·have d0:decide (0≤xcls)=true:=qt h0;by_cases h25:25≤xcls+U
           ·have d25:decide (25≤xcls+U)=true:=qt h25;go_wp2_with fail;refine(fail_any 5 xat _).mono ?_;rintro e w11 ⟨rfl,hb11⟩;have hb12:=(HB2.out _).trans ((Off.of_below hb11 (ql _) []).below (HB2.out _).size (fun _ h=>by cases h));exact⟨rfl,HbB.out.trans ((Off.of_below hb12 (ql _) []).below (qm hBw HbB.out.size) (fun _ h=>by cases h)),by rw[Hat.out (by rw[Hov.out];simp[*])];rfl⟩
           ·have d25:decide (25≤xcls+U)=false:=qd h25;go_wp2_with fail;go_roundw
            case rel=>exact⟨k+1,by omega,by go_num,qh (Hnx.out (by rw[Hov.out];simp[*])),qh (HB2.out _)⟩
            case measure=>simp[intOf];omega
          ·have d0:decide (0≤xcls)=false:=qd h0;go_wp2_with fail;go_roundw
           case rel=>exact⟨k+1,by omega,by go_num,qh (Hnx.out (by rw[Hov.out];simp[*])),qh (HB2.out _)⟩
           case measure=>simp[intOf];omega
         ·obtain rfl:k=l.length:=by omega
          have HR3:Hid (R=.ok ({f with rows:=f.rows++[(⟨false,l⟩:Rw)]},j)):=qh (by
           rw[←HT3.out,zeo (by have:=hpre.out;rwa [List.take_length] at this)])
          go_wp2_with fail;refine bodyPost_end (results_none rfl _ _ _) rfl ?_;rw[HR3.out];exact⟨HbB.out.trans ((Off.of_below hb.out (ql _) []).below (qm hBw HbB.out.size) (fun _ h=>by cases h)),rfl,HR10.out.below hb.out,Hk2.out,_,HF10.out.below hb.out⟩
    |true=>
     cases hrs:f.rounds with
     |false=>
      have hrs4:w4.cell? ⟨fb,4,none⟩=some (.bool false):=(by rw[g4,hrs]);clear g4;have st0:w4.cell? ⟨sb,0,none⟩=some (.bool true):=qc _ _ 0 _ _ (0,0) hst4;have st1:w4.cell? ⟨sb,1,none⟩=some (.slice Ai l.length ci):=qc _ _ 1 _ _ (0,0) hst4;have Hone:Hid (∀u∈(#[.bool true,.slice Ai l.length ci]:Array Value).toList,u.oneCell'=true):=qh (by intro u hu;simp at hu;rcases hu with rfl|rfl<;>rfl);have HU:Hid (upP f true=((f.most-1)*f.shift)):=qh (by unfold upP;rw[if_pos rfl]);clear hst4;go_upto_region 12 with fail
      go_cut [78] from 69 to 78 (fun v78 wx=>Hid (∃v8,FmM wx B fb {f with rows:=f.rows++[(⟨true,l⟩:Rw)]} vl vm v8∧Rd wx rb fb s j∧Below B w wx∧wx.heap[sb]?=some (.cells #[.bool true,.slice Ai l.length ci] 106 (0,0))∧ItsM wx w.heap.size f.letters (.slice Ai l.length ci) l vhs))
      case first=>
       go_region_law (refine zah w4.drew (by rfl) (.tmp 73) (.tmp 75) 90 (by rfl) B 106 _ _ 2 32 Tryz.underlying90 zir zis zit zf0 rfl (by decide) (.slice As f.rows.length cs) f.rows.length (rwC f.rows vis) _ _ (by simp[Act.eval,Act.put]) (by simp[Act.eval,Act.put];rfl) (by simp) (by exact Hown.out) rfl (by exact Hone.out) Hmx.out Hby.out (by exact Hbs.out) ?_;intro v8 w8 hown8 hg8 hat8;obtain⟨g8,cap8,rfl⟩:=zak hown8 Hpos.out;obtain⟨hfin8,c8,z8⟩:=HF.out w8 _ hg8 hown8;have HFin:=qh hfin8;clear hfin8 hown8 hg8 hat8)
       all_goals
        go_wp2_with fail;go_meet
        exact HFin
      case rest=>
       obtain⟨W9,hW9⟩:∃W9:World,W9=wc:=⟨_,rfl⟩;subst hW9;obtain⟨v8,hF8,hR8,hB8,hS8,hI8⟩:=hcut.out;have HF8:=qh hF8;have HR8:=qh hR8;have HB8:=qh hB8;have HI8:=qh hI8;have HS8:=qh hS8;clear hF8 hR8 hB8 hI8 hS8 hcut;have e6:W9.cell? ⟨fb,6,none⟩=some (.int .i64 f.most):=HF8.out.cells.2.2.2.2.2.2.1;have Hl9:=qh (HF8.out.linesC Hk2.out (by omega) f.most Hk.out.m0.1 Hk.out.m0.2);generalize hS:za6 (f.rows++[(⟨true,l⟩:Rw)]) f.most=S at*;go_wp2_with fail;refine Hl9.out.mono ?_;rintro e w10 ⟨rfl,hb10⟩;have hbB:Below B w w10:=HB8.out.trans ((Off.of_below hb10 (ql _) []).below (qm hBw HB8.out.size) (fun _ h=>by cases h));have HbB:=qh hbB;have HF10:=qh (HF8.out.below hb10);have HR10:=qh (HR8.out.below hb10);have HI10:=qh (HI8.out.off (Off.of_below hb10 (ql _) []) (TyAt.nil (T:=[])) (by simp) (by simp));have t1:w10.cell? ⟨sb,1,none⟩=some (.slice Ai l.length ci):=qc _ _ 1 _ _ (0,0) ((hb10.block _ (qg HS8.out).1).trans HS8.out);have e6:w10.cell? ⟨fb,6,none⟩=some (.int .i64 f.most):=HF10.out.cells.2.2.2.2.2.2.1;have e7:w10.cell? ⟨fb,7,none⟩=some (.int .i64 f.shift):=HF10.out.cells.2.2.2.2.2.2.2;have Hfb:=qh HF10.out.lt;have HSe:=qh hS;clear hb10 hbB HF8 HR8 HB8 HI8 HS8 hS Hl9 HF Hown Hone;by_cases hS5:512<S
       ·have HR2:Hid (R=.error (3,start)):=qh (by
         rw[←HT2.out];unfold zbk;simp only[];rw[if_pos (by rw[HSe.out];exact hS5)])
        go_wp2_with fail;refine(fail_any 3 start w10).mono ?_;rintro e w11 ⟨rfl,hb11⟩;exact⟨rfl,HbB.out.trans ((Off.of_below hb11 (ql _) []).below (qm hBw HbB.out.size) (fun _ h=>by cases h)),by rw[HR2.out];rfl⟩
       ·have HT3:Hid ((match l.find? (zbn f true) with|some x=>.error (5,x.at_)|none=>.ok ({f with rows:=f.rows++[(⟨true,l⟩:Rw)]},j))=R):=qh (by
         rw[←HT2.out];unfold zbk;simp only[];rw[if_neg (by rw[HSe.out];exact hS5)];rfl)
        have hm0:=Hk.out.m0;have hs0:=Hk.out.s0;have hpb:=zeM (a:=f.most-1) (b:=f.shift) (by omega) (by omega) hs0.1 hs0.2;have HUb:=qh hpb;have hw0:IntKind.i64.wrap (f.most-1)=f.most-1:=qi _ (by omega);have hw1:IntKind.i64.wrap ((f.most-1)*f.shift)=(f.most-1)*f.shift:=qi _ (by omega);clear HT2 hpb;go_wp2_with fail;go_quiet (fail)
        go_wp2_with fail;generalize ((f.most-1)*f.shift)=U at*;go_loopw [112] (fun q wr=>∃k:Nat,k≤l.length∧q=.int .i64 k∧Hid (∀x∈l.take k,zbn f true x=false)∧Hid (Below w10.heap.size w10 wr)) (fun q _=>l.length-(intOf q).toNat)
        case atStart=>exact⟨0,Nat.zero_le _,rfl,qh (by simp),qh (zad (qb _ _) nq)⟩
        case round=>
         obtain⟨k,hk,rfl,hpre,hb⟩:=hrel;by_cases hlt:k<l.length
         ·obtain⟨g,hA,hgs,c0,c1,c2,c3,c4,c5,c6,c7,c8,c9,c10,c11,c12⟩:=HI10.out.cells13 hlt;subst hA;have hmem:l.getD k It0∈l:=by
           rw[List.getD_eq_getElem?_getD,List.getElem?_eq_getElem hlt];exact qM hlt
          have hcl:=(Hhk.out _ hmem).cl;have Hat:Hid (zbn f true (l.getD k It0)=true→R=.error (5,(l.getD k It0).at_)):=qh (fun ho=>by
           rw[←HT3.out,zeJ hlt hpre.out ho])
          have Hnx:Hid (zbn f true (l.getD k It0)=false→∀x∈l.take (k+1),zbn f true x=false):=qh (fun ho x hx=>by
           rw[List.take_succ_eq_append_getElem hlt] at hx;rcases List.mem_append.1 hx with hx|hx
           ·exact hpre.out x hx
           ·have e:x=l.getD k It0:=by
             rw[List.getD_eq_getElem?_getD,List.getElem?_eq_getElem hlt];simpa using hx
            rw[e];exact ho)
          have k0:=(hb.out.cell (p:=⟨g,k*13,none⟩) hgs).trans c0;have k1:=(hb.out.cell (p:=⟨g,k*13+1,none⟩) hgs).trans c1;have k2:=(hb.out.cell (p:=⟨g,k*13+2,none⟩) hgs).trans c2;have k3:=(hb.out.cell (p:=⟨g,k*13+3,none⟩) hgs).trans c3;have k4:=(hb.out.cell (p:=⟨g,k*13+4,none⟩) hgs).trans c4;have k5:=(hb.out.cell (p:=⟨g,k*13+5,none⟩) hgs).trans c5;have k6:=(hb.out.cell (p:=⟨g,k*13+6,none⟩) hgs).trans c6;have k7:=(hb.out.cell (p:=⟨g,k*13+7,none⟩) hgs).trans c7;have k8:=(hb.out.cell (p:=⟨g,k*13+8,none⟩) hgs).trans c8;have k9:=(hb.out.cell (p:=⟨g,k*13+9,none⟩) hgs).trans c9;have k10:=(hb.out.cell (p:=⟨g,k*13+10,none⟩) hgs).trans c10;have k11:=(hb.out.cell (p:=⟨g,k*13+11,none⟩) hgs).trans c11;have k12:=(hb.out.cell (p:=⟨g,k*13+12,none⟩) hgs).trans c12;have hUb:=HUb.out;have hbs:=hb.out.size;have h6:=(hb.out.cell (p:=⟨fb,6,none⟩) Hfb.out).trans e6;have h6a:∀o,(wr.alloc o).cell? ⟨fb,6,none⟩=some (.int .i64 f.most):=fun o=>(qw (qa wr o fb (Nat.lt_of_lt_of_le Hfb.out hbs))).trans h6;have HB2:=qh (fun(c:Array Value)=>hb.out.alloc hbs (.cells c 108));have Hov:Hid (zbn f true (l.getD k It0)=(decide (0≤(l.getD k It0).cls)&&decide (25≤(l.getD k It0).cls+U)&&!(true&&f.most==0))):=qh (by unfold zbn;rw[HU.out]);clear c0 c1 c2 c3 c4 c5 c6 c7 c8 c9 c10 c11 c12 hpre hmem;obtain⟨Ah,ch,hvk⟩:=zab (HI10.out.h k hlt);generalize vhs.getD k .nilFunc=vk at*;subst hvk;generalize l.getD k It0=x at*;obtain⟨xcls,xref,xms,xat⟩:=x;simp only[] at k0 k1 k2 k3 k4 k5 k6 k7 k8 k9 k10 k11 k12 hcl Hov Hat Hnx;have hw2:IntKind.i64.wrap (xcls+U)=xcls+U:=qi _ (by omega);generalize zbQ f.letters xms=y2 at*;generalize nOf xms 58=y3 at*;generalize nOf xms 47=y4 at*;generalize nOf xms 94=y5 at*;generalize nOf xms 64=y6 at*;generalize nOf xms 39=y8 at*;generalize zai xms=y10 at*;generalize zat xms 58=y11 at*;generalize zat xms 47=y12 at*;by_cases h0:0≤xcls
          ·have d0:decide (0≤xcls)=true:=qt h0;by_cases h25:25≤xcls+U
           ·have d25:decide (25≤xcls+U)=true:=qt h25;by_cases hz:f.most=0
            ·have hz1:(f.most==0)=true:=(by simpa using hz);go_wp2_with fail;go_roundw
             case rel=>exact⟨k+1,by omega,by go_num,qh (Hnx.out (by rw[Hov.out];simp[*])),qh (HB2.out _)⟩
             case measure=>simp[intOf];omega
            ·have hz1:(f.most==0)=false:=(by simpa using hz);go_wp2_with fail;refine(fail_any 5 xat _).mono ?_;rintro e w11 ⟨rfl,hb11⟩;have hb12:=(HB2.out _).trans ((Off.of_below hb11 (ql _) []).below (HB2.out _).size (fun _ h=>by cases h));exact⟨rfl,HbB.out.trans ((Off.of_below hb12 (ql _) []).below (qm hBw HbB.out.size) (fun _ h=>by cases h)),by rw[Hat.out (by rw[Hov.out];simp[*])];rfl⟩
           ·have d25:decide (25≤xcls+U)=false:=qd h25;go_wp2_with fail;go_roundw
            case rel=>exact⟨k+1,by omega,by go_num,qh (Hnx.out (by rw[Hov.out];simp[*])),qh (HB2.out _)⟩
            case measure=>simp[intOf];omega
          ·have d0:decide (0≤xcls)=false:=qd h0;go_wp2_with fail;go_roundw
           case rel=>exact⟨k+1,by omega,by go_num,qh (Hnx.out (by rw[Hov.out];simp[*])),qh (HB2.out _)⟩
           case measure=>simp[intOf];omega
         ·obtain rfl:k=l.length:=by omega
          have HR3:Hid (R=.ok ({f with rows:=f.rows++[(⟨true,l⟩:Rw)]},j)):=qh (by
           rw[←HT3.out,zeo (by have:=hpre.out;rwa [List.take_length] at this)])
          go_wp2_with fail;refine bodyPost_end (results_none rfl _ _ _) rfl ?_;rw[HR3.out];exact⟨HbB.out.trans ((Off.of_below hb.out (ql _) []).below (qm hBw HbB.out.size) (fun _ h=>by cases h)),rfl,HR10.out.below hb.out,Hk2.out,_,HF10.out.below hb.out⟩
     |true=>
      have hrs4:w4.cell? ⟨fb,4,none⟩=some (.bool true):=(by rw[g4,hrs]);clear g4;have st0:w4.cell? ⟨sb,0,none⟩=some (.bool true):=qc _ _ 0 _ _ (0,0) hst4;have st1:w4.cell? ⟨sb,1,none⟩=some (.slice Ai l.length ci):=qc _ _ 1 _ _ (0,0) hst4;have Hone:Hid (∀u∈(#[.bool true,.slice Ai l.length ci]:Array Value).toList,u.oneCell'=true):=qh (by intro u hu;simp at hu;rcases hu with rfl|rfl<;>rfl);have HU:Hid (upP f true=((f.most-1)*f.shift)):=qh (by unfold upP;rw[if_pos rfl]);clear hst4;go_upto_region 12 with fail
      go_cut [78] from 69 to 78 (fun v78 wx=>Hid (∃v8,FmM wx B fb {f with rows:=f.rows++[(⟨true,l⟩:Rw)]} vl vm v8∧Rd wx rb fb s j∧Below B w wx∧wx.heap[sb]?=some (.cells #[.bool true,.slice Ai l.length ci] 106 (0,0))∧ItsM wx w.heap.size f.letters (.slice Ai l.length ci) l vhs))
      case first=>
       go_region_law (refine zah w4.drew (by rfl) (.tmp 73) (.tmp 75) 90 (by rfl) B 106 _ _ 2 32 Tryz.underlying90 zir zis zit zf0 rfl (by decide) (.slice As f.rows.length cs) f.rows.length (rwC f.rows vis) _ _ (by simp[Act.eval,Act.put]) (by simp[Act.eval,Act.put];rfl) (by simp) (by exact Hown.out) rfl (by exact Hone.out) Hmx.out Hby.out (by exact Hbs.out) ?_;intro v8 w8 hown8 hg8 hat8;obtain⟨g8,cap8,rfl⟩:=zak hown8 Hpos.out;obtain⟨hfin8,c8,z8⟩:=HF.out w8 _ hg8 hown8;have HFin:=qh hfin8;clear hfin8 hown8 hg8 hat8)
       all_goals
        go_wp2_with fail;go_meet
        exact HFin
      case rest=>
       obtain⟨W9,hW9⟩:∃W9:World,W9=wc:=⟨_,rfl⟩;subst hW9;obtain⟨v8,hF8,hR8,hB8,hS8,hI8⟩:=hcut.out;have HF8:=qh hF8;have HR8:=qh hR8;have HB8:=qh hB8;have HI8:=qh hI8;have HS8:=qh hS8;clear hF8 hR8 hB8 hI8 hS8 hcut;have e6:W9.cell? ⟨fb,6,none⟩=some (.int .i64 f.most):=HF8.out.cells.2.2.2.2.2.2.1;have Hl9:=qh (HF8.out.linesC Hk2.out (by omega) f.most Hk.out.m0.1 Hk.out.m0.2);generalize hS:za6 (f.rows++[(⟨true,l⟩:Rw)]) f.most=S at*;go_wp2_with fail;refine Hl9.out.mono ?_;rintro e w10 ⟨rfl,hb10⟩;have hbB:Below B w w10:=HB8.out.trans ((Off.of_below hb10 (ql _) []).below (qm hBw HB8.out.size) (fun _ h=>by cases h));have HbB:=qh hbB;have HF10:=qh (HF8.out.below hb10);have HR10:=qh (HR8.out.below hb10);have HI10:=qh (HI8.out.off (Off.of_below hb10 (ql _) []) (TyAt.nil (T:=[])) (by simp) (by simp));have t1:w10.cell? ⟨sb,1,none⟩=some (.slice Ai l.length ci):=qc _ _ 1 _ _ (0,0) ((hb10.block _ (qg HS8.out).1).trans HS8.out);have e6:w10.cell? ⟨fb,6,none⟩=some (.int .i64 f.most):=HF10.out.cells.2.2.2.2.2.2.1;have e7:w10.cell? ⟨fb,7,none⟩=some (.int .i64 f.shift):=HF10.out.cells.2.2.2.2.2.2.2;have Hfb:=qh HF10.out.lt;have HSe:=qh hS;clear hb10 hbB HF8 HR8 HB8 HI8 HS8 hS Hl9 HF Hown Hone;by_cases hS5:512<S
       ·have HR2:Hid (R=.error (3,start)):=qh (by
         rw[←HT2.out];unfold zbk;simp only[];rw[if_pos (by rw[HSe.out];exact hS5)])
        go_wp2_with fail;refine(fail_any 3 start w10).mono ?_;rintro e w11 ⟨rfl,hb11⟩;exact⟨rfl,HbB.out.trans ((Off.of_below hb11 (ql _) []).below (qm hBw HbB.out.size) (fun _ h=>by cases h)),by rw[HR2.out];rfl⟩
       ·have HT3:Hid ((match l.find? (zbn f true) with|some x=>.error (5,x.at_)|none=>.ok ({f with rows:=f.rows++[(⟨true,l⟩:Rw)]},j))=R):=qh (by
         rw[←HT2.out];unfold zbk;simp only[];rw[if_neg (by rw[HSe.out];exact hS5)];rfl)
        have hm0:=Hk.out.m0;have hs0:=Hk.out.s0;have hpb:=zeM (a:=f.most-1) (b:=f.shift) (by omega) (by omega) hs0.1 hs0.2;have HUb:=qh hpb;have hw0:IntKind.i64.wrap (f.most-1)=f.most-1:=qi _ (by omega);have hw1:IntKind.i64.wrap ((f.most-1)*f.shift)=(f.most-1)*f.shift:=qi _ (by omega);clear HT2 hpb;go_wp2_with fail;go_quiet (fail)
        go_wp2_with fail;generalize ((f.most-1)*f.shift)=U at*;go_loopw [112] (fun q wr=>∃k:Nat,k≤l.length∧q=.int .i64 k∧Hid (∀x∈l.take k,zbn f true x=false)∧Hid (Below w10.heap.size w10 wr)) (fun q _=>l.length-(intOf q).toNat)
        case atStart=>exact⟨0,Nat.zero_le _,rfl,qh (by simp),qh (zad (qb _ _) nq)⟩
        case round=>
         obtain⟨k,hk,rfl,hpre,hb⟩:=hrel;by_cases hlt:k<l.length
         ·obtain⟨g,hA,hgs,c0,c1,c2,c3,c4,c5,c6,c7,c8,c9,c10,c11,c12⟩:=HI10.out.cells13 hlt;subst hA;have hmem:l.getD k It0∈l:=by
           rw[List.getD_eq_getElem?_getD,List.getElem?_eq_getElem hlt];exact qM hlt
          have hcl:=(Hhk.out _ hmem).cl;have Hat:Hid (zbn f true (l.getD k It0)=true→R=.error (5,(l.getD k It0).at_)):=qh (fun ho=>by
           rw[←HT3.out,zeJ hlt hpre.out ho])
          have Hnx:Hid (zbn f true (l.getD k It0)=false→∀x∈l.take (k+1),zbn f true x=false):=qh (fun ho x hx=>by
           rw[List.take_succ_eq_append_getElem hlt] at hx;rcases List.mem_append.1 hx with hx|hx
           ·exact hpre.out x hx
           ·have e:x=l.getD k It0:=by
             rw[List.getD_eq_getElem?_getD,List.getElem?_eq_getElem hlt];simpa using hx
            rw[e];exact ho)
          have k0:=(hb.out.cell (p:=⟨g,k*13,none⟩) hgs).trans c0;have k1:=(hb.out.cell (p:=⟨g,k*13+1,none⟩) hgs).trans c1;have k2:=(hb.out.cell (p:=⟨g,k*13+2,none⟩) hgs).trans c2;have k3:=(hb.out.cell (p:=⟨g,k*13+3,none⟩) hgs).trans c3;have k4:=(hb.out.cell (p:=⟨g,k*13+4,none⟩) hgs).trans c4;have k5:=(hb.out.cell (p:=⟨g,k*13+5,none⟩) hgs).trans c5;have k6:=(hb.out.cell (p:=⟨g,k*13+6,none⟩) hgs).trans c6;have k7:=(hb.out.cell (p:=⟨g,k*13+7,none⟩) hgs).trans c7;have k8:=(hb.out.cell (p:=⟨g,k*13+8,none⟩) hgs).trans c8;have k9:=(hb.out.cell (p:=⟨g,k*13+9,none⟩) hgs).trans c9;have k10:=(hb.out.cell (p:=⟨g,k*13+10,none⟩) hgs).trans c10;have k11:=(hb.out.cell (p:=⟨g,k*13+11,none⟩) hgs).trans c11;have k12:=(hb.out.cell (p:=⟨g,k*13+12,none⟩) hgs).trans c12;have hUb:=HUb.out;have hbs:=hb.out.size;have h6:=(hb.out.cell (p:=⟨fb,6,none⟩) Hfb.out).trans e6;have h6a:∀o,(wr.alloc o).cell? ⟨fb,6,none⟩=some (.int .i64 f.most):=fun o=>(qw (qa wr o fb (Nat.lt_of_lt_of_le Hfb.out hbs))).trans h6;have HB2:=qh (fun(c:Array Value)=>hb.out.alloc hbs (.cells c 108));have Hov:Hid (zbn f true (l.getD k It0)=(decide (0≤(l.getD k It0).cls)&&decide (25≤(l.getD k It0).cls+U)&&!(true&&f.most==0))):=qh (by unfold zbn;rw[HU.out]);clear c0 c1 c2 c3 c4 c5 c6 c7 c8 c9 c10 c11 c12 hpre hmem;obtain⟨Ah,ch,hvk⟩:=zab (HI10.out.h k hlt);generalize vhs.getD k .nilFunc=vk at*;subst hvk;generalize l.getD k It0=x at*;obtain⟨xcls,xref,xms,xat⟩:=x;simp only[] at k0 k1 k2 k3 k4 k5 k6 k7 k8 k9 k10 k11 k12 hcl Hov Hat Hnx;have hw2:IntKind.i64.wrap (xcls+U)=xcls+U:=qi _ (by omega);generalize zbQ f.letters xms=y2 at*;generalize nOf xms 58=y3 at*;generalize nOf xms 47=y4 at*;generalize nOf xms 94=y5 at*;generalize nOf xms 64=y6 at*;generalize nOf xms 39=y8 at*;generalize zai xms=y10 at*;generalize zat xms 58=y11 at*;generalize zat xms 47=y12 at*;by_cases h0:0≤xcls
          ·have d0:decide (0≤xcls)=true:=qt h0;by_cases h25:25≤xcls+U
           ·have d25:decide (25≤xcls+U)=true:=qt h25;by_cases hz:f.most=0
            ·have hz1:(f.most==0)=true:=(by simpa using hz);go_wp2_with fail;go_roundw
             case rel=>exact⟨k+1,by omega,by go_num,qh (Hnx.out (by rw[Hov.out];simp[*])),qh (HB2.out _)⟩
             case measure=>simp[intOf];omega
            ·have hz1:(f.most==0)=false:=(by simpa using hz);go_wp2_with fail;refine(fail_any 5 xat _).mono ?_;rintro e w11 ⟨rfl,hb11⟩;have hb12:=(HB2.out _).trans ((Off.of_below hb11 (ql _) []).below (HB2.out _).size (fun _ h=>by cases h));exact⟨rfl,HbB.out.trans ((Off.of_below hb12 (ql _) []).below (qm hBw HbB.out.size) (fun _ h=>by cases h)),by rw[Hat.out (by rw[Hov.out];simp[*])];rfl⟩
           ·have d25:decide (25≤xcls+U)=false:=qd h25;go_wp2_with fail;go_roundw
            case rel=>exact⟨k+1,by omega,by go_num,qh (Hnx.out (by rw[Hov.out];simp[*])),qh (HB2.out _)⟩
            case measure=>simp[intOf];omega
          ·have d0:decide (0≤xcls)=false:=qd h0;go_wp2_with fail;go_roundw
           case rel=>exact⟨k+1,by omega,by go_num,qh (Hnx.out (by rw[Hov.out];simp[*])),qh (HB2.out _)⟩
           case measure=>simp[intOf];omega
         ·obtain rfl:k=l.length:=by omega
          have HR3:Hid (R=.ok ({f with rows:=f.rows++[(⟨true,l⟩:Rw)]},j)):=qh (by
           rw[←HT3.out,zeo (by have:=hpre.out;rwa [List.take_length] at this)])
          go_wp2_with fail;refine bodyPost_end (results_none rfl _ _ _) rfl ?_;rw[HR3.out];exact⟨HbB.out.trans ((Off.of_below hb.out (ql _) []).below (qm hBw HbB.out.size) (fun _ h=>by cases h)),rfl,HR10.out.below hb.out,Hk2.out,_,HF10.out.below hb.out⟩
   |true=>
    have hjl:=zbr hb;obtain⟨q',rfl⟩:∃q',q=q'+1:=⟨q-1,by omega⟩;have HT2:Hid (zbk f round start (match zbC s f.letters (zbi f round l.length) (j+1) with|.error e=>.error e|.ok (x,j')=>za1 s f round q' (l++[x]) j')=R):=qh (by
     have:=hT.out;unfold za1 at this;rw[if_pos hb] at this;exact this)
    clear hT hb;obtain⟨r0,r1,r2,r3⟩:=HJ4.out.rd.cells;have hst4:=HJ4.out.st;have hne:sb≠rb:=(by have:=HJ4.out.sbl;omega);have hc:((j+1:Nat):Int)=(j:Int)+1:=(by omega);have hw:IntKind.i64.wrap ((j:Int)+1)=(j:Int)+1:=qi _ (by omega);have hJ5:=HJ4.out.to (by omega) hne;rw[hc] at hJ5;have HM5:=qh (Hm.out.offR H.out hJ5.off);have hHas:=hJ5.its.o;obtain⟨Ai,ci,hvi⟩:=zab hHas;subst hvi;have s1:w4.cell? ⟨sb,1,none⟩=some (.slice Ai l.length ci):=qc _ _ 1 _ _ (0,0) hst4;have hM4:=Hm.out.offR H.out HJ4.out.off;have f6:=hM4.cells.2.2.2.2.2.2.1;have hnf:=hM4.ne HJ4.out.rd;have hlen:=hJ5.len;have hbA:=Hbd.out;have hw2:IntKind.i64.wrap (A+(l.length:Int))=A+(l.length:Int):=qi _ (by omega);have HJ5:=qh hJ5;clear hJ5 hHas hst4 hM4 HJ4;have HwE:Hid (w4.setCell ⟨rb,1,none⟩ (.int .i64 ((j:Int)+1))=w4.setCell ⟨rb,1,none⟩ (.int .i64 ((j:Int)+1))):=qh rfl;generalize hW5:w4.setCell ⟨rb,1,none⟩ (.int .i64 ((j:Int)+1))=W5 at HJ5 HM5;have HW5:=qh hW5;have HL5:Hid (∀line,Calls Tryz.prog 117 #[.pointer (some ⟨rb,0,none⟩),.int .i64 line] W5.drew (zjC rb fb s f.letters W5.drew (zbC s f.letters line (j+1)))):=qh (fun line=>
     zkN B rb fb s (j+1) line f.letters vl W5.drew HJ5.out.drew.rd (Vars.off Hv.out HJ5.out.drew.off (by simp;omega)) (by omega) (HM5.out.below (zad (qb _ _) 1)).letM HM5.out.lt (HM5.out.ne HJ5.out.rd) (fun k hk=>(HM5.out.vln HJ5.out.rd k hk).1) (fun k hk=>(HM5.out.vln HJ5.out.rd k hk).2))
    have HD5:=qh HJ5.out.drew;clear hW5 HwE;cases round with
    |false=>
     have hln:zbi f false l.length=A+(l.length:Int):=(by unfold zbi;rw[HA.out];rfl);rw[hln] at HT2;have Hit:=qh (HL5.out (A+(l.length:Int)));clear HL5 hln;generalize hIR:zbC s f.letters (A+(l.length:Int)) (j+1)=IR at*;have s2:W5.cell? ⟨sb,1,none⟩=some (.slice Ai l.length ci):=qc _ _ 1 _ _ (0,0) HJ5.out.st;cases IR with
     |error ep=>
      obtain⟨c,p⟩:=ep;have HR2:Hid (R=.error (c,p)):=qh HT2.out.symm;have Hfin:=qh (fun(w7:World) (ho7:Off [rb] W5.drew w7)=>(HD5.out.off.trans ho7).below hBw (fun k hk=>by simp at hk;omega));clear hIR;go_wp2_with fail;rw[HW5.out];refine wp_region_any (by kernel_rfl) ?_;change wpAny _ _ _ _ _ _ _ (World.drew _)
      refine wpAny_take (i:=0) (v:=?_) rfl (by kernel_rfl) (by kernel_rfl) (by kernel_rfl) (fun _ _ _ h=>h) (Or.inl ⟨by rfl,?_⟩) ?_;rotate_left
      ·intro w;go_simp;try(with_reducible rfl)
      refine wpAny_take (i:=2) (v:=?_) rfl (by kernel_rfl) (by kernel_rfl) (by kernel_rfl) (fun _ _ _ h=>h) (Or.inl ⟨by rfl,?_⟩) ?_;rotate_left
      ·intro w;go_simp;try(with_reducible rfl)
      refine wpAny_take (i:=3) (v:=?_) rfl (by kernel_rfl) (by kernel_rfl) (by kernel_rfl) (fun _ _ _ h=>h) (Or.inl ⟨by rfl,?_⟩) ?_;rotate_left
      ·intro w;go_simp;try(with_reducible rfl)
      refine wpAny_ready (rs:=[1,4]) (by kernel_rfl) (by simp) ?_;refine AllReady.cons rfl (fun K hK=>?_) (AllReady.cons rfl (fun K hK=>?_) AllReady.nil)
      ·go_simp;refine hK _ _ ?_;clear hK K;refine wpAny_ready (rs:=[4]) (by kernel_rfl) (by simp) ?_;refine AllReady.cons rfl (fun K hK=>?_) AllReady.nil;go_simp;refine Hit.out.mono ?_;rintro e w7 ⟨ho7,he7⟩;have he8:e=PanE c p:=he7;subst he8;exact⟨rfl,Hfin.out w7 ho7,by rw[HR2.out];rfl⟩
      ·go_simp;refine Hit.out.mono ?_;rintro e w7 ⟨ho7,he7⟩;have he8:e=PanE c p:=he7;subst he8;exact⟨rfl,Hfin.out w7 ho7,by rw[HR2.out];rfl⟩
     |ok xk=>
      obtain⟨x,k⟩:=xk;have hgt:=zdD hIR;have Hok:=qh (fun h=>zen (x:=x) hIR h);have Hmx:Hid (l.length+1≤maxLen):=qh (by unfold maxLen;omega);have Hby:Hid ((l.length+1)*112≤140737488355328):=qh (by omega);have Hpos:Hid (0<l.length+1):=qh (by omega);have HNx:=qh (fun(w7 w8:World) (vh v':Value) (ho7:Off [rb] W5.drew w7) (hrd7:Rd w7 rb fb s k) h1 hx hg hv8=>HD5.out.next (B7:=W5.drew.heap.size) (w7:=w7) (w8:=w8) (vh:=vh) (v':=v') (x:=x) hne ho7 hrd7 h1 HD5.out.off.size hx (by omega) hg hv8);have Hits7:=qh (fun(w7:World) (ho7:Off [rb] W5.drew w7)=>(HD5.out.its.off ho7 (TyAt.one HD5.out.rd.r) (by decide) (by decide)).o);have Hsz7:=qh (fun(w7:World) (ho7:Off [rb] W5.drew w7)=>qm HD5.out.off.size ho7.size);have Hs2:=qh (fun(w7:World) (ho7:Off [rb] W5.drew w7)=>(ho7.cell (qg HD5.out.st).1 (by simp;exact hne):w7.cell? ⟨sb,1,none⟩=W5.drew.cell? ⟨sb,1,none⟩).trans s2);clear hIR;go_wp2_with fail;rw[HW5.out];go_region_law (first
       |(go_simp;go_at_call 117;refine Hit.out.mono ?_;rintro e w7 ⟨ho7,vh,he7,hrd7,hown7,hmk7⟩;subst he7;obtain⟨Ah,ch,hvh,_,_⟩:=zdO hown7;subst hvh;unfold itC;have s3:=Hs2.out w7 ho7;have s4:∀o,(w7.alloc o).cell? ⟨sb,1,none⟩=some (.slice Ai l.length ci):=fun o=>(qw (qa w7 o sb (Nat.lt_of_lt_of_le (qg HD5.out.st).1 ho7.size))).trans s3;have Hown7:=qh (Hits7.out w7 ho7);have Hsz:=qh (Hsz7.out w7 ho7);have HN:=qh (fun w8 v' hg hv8=>HNx.out w7 w8 _ v' ho7 hrd7 hown7 (Hok.out hmk7) hg hv8);clear ho7 hrd7 hown7 hmk7)
       |(refine zah w7 (by rfl) (.tmp 54) (.tmp 58) 104 (by rfl) w.heap.size 108 _ _ 13 112 Tryz.underlying104 zjT zjU zjV zhr rfl (by decide) (.slice Ai l.length ci) l.length (itsC f.letters l vhs) _ _ (by simp[Act.eval,Act.put]) (by simp[Act.eval,Act.put];rfl) (by simp) (by exact Hown7.out) rfl (by exact zhs _ _ _ _ _ _ _ _) Hmx.out Hby.out (by exact Hsz.out) ?_;intro v8 w8 hown8 hg8 hat8;obtain⟨g8,cap8,rfl⟩:=zak hown8 Hpos.out;obtain⟨hJ8,c8,z8⟩:=HN.out w8 _ hg8 hown8;have HJ8:=qh hJ8;clear hJ8 hown8 hg8 hat8))
      all_goals
       go_wp2_with fail;go_roundw
       case rel=>exact⟨l++[x],k,_,_,q',by omega,HJ8,HT2⟩
       case measure=>
        have e1:=HJ8.out.rd.cells.2.1;have e2:=HJ8.out.rd.le;rw[e1,Hms.out];simp only[intOf];omega
    |true=>
     by_cases hm0:f.most=0
     ·skip
      have hb0:(f.most==0)=true:=(by simpa using hm0);have hln:zbi f true l.length= -1:=(by unfold zbi;rw[hb0];rfl);rw[hln] at HT2;have Hit:=qh (HL5.out (-1));clear HL5 hln;generalize hIR:zbC s f.letters (-1) (j+1)=IR at*;have s2:W5.cell? ⟨sb,1,none⟩=some (.slice Ai l.length ci):=qc _ _ 1 _ _ (0,0) HJ5.out.st;cases IR with
      |error ep=>
       obtain⟨c,p⟩:=ep;have HR2:Hid (R=.error (c,p)):=qh HT2.out.symm;have Hfin:=qh (fun(w7:World) (ho7:Off [rb] W5.drew w7)=>(HD5.out.off.trans ho7).below hBw (fun k hk=>by simp at hk;omega));clear hIR;go_wp2_with fail;rw[HW5.out];refine wp_region_any (by kernel_rfl) ?_;change wpAny _ _ _ _ _ _ _ (World.drew _)
       refine wpAny_take (i:=0) (v:=?_) rfl (by kernel_rfl) (by kernel_rfl) (by kernel_rfl) (fun _ _ _ h=>h) (Or.inl ⟨by rfl,?_⟩) ?_;rotate_left
       ·intro w;go_simp;try(with_reducible rfl)
       refine wpAny_take (i:=2) (v:=?_) rfl (by kernel_rfl) (by kernel_rfl) (by kernel_rfl) (fun _ _ _ h=>h) (Or.inl ⟨by rfl,?_⟩) ?_;rotate_left
       ·intro w;go_simp;try(with_reducible rfl)
       refine wpAny_take (i:=3) (v:=?_) rfl (by kernel_rfl) (by kernel_rfl) (by kernel_rfl) (fun _ _ _ h=>h) (Or.inl ⟨by rfl,?_⟩) ?_;rotate_left
       ·intro w;go_simp;try(with_reducible rfl)
       refine wpAny_ready (rs:=[1,4]) (by kernel_rfl) (by simp) ?_;refine AllReady.cons rfl (fun K hK=>?_) (AllReady.cons rfl (fun K hK=>?_) AllReady.nil)
       ·go_simp;refine hK _ _ ?_;clear hK K;refine wpAny_ready (rs:=[4]) (by kernel_rfl) (by simp) ?_;refine AllReady.cons rfl (fun K hK=>?_) AllReady.nil;go_simp;refine Hit.out.mono ?_;rintro e w7 ⟨ho7,he7⟩;have he8:e=PanE c p:=he7;subst he8;exact⟨rfl,Hfin.out w7 ho7,by rw[HR2.out];rfl⟩
       ·go_simp;refine Hit.out.mono ?_;rintro e w7 ⟨ho7,he7⟩;have he8:e=PanE c p:=he7;subst he8;exact⟨rfl,Hfin.out w7 ho7,by rw[HR2.out];rfl⟩
      |ok xk=>
       obtain⟨x,k⟩:=xk;have hgt:=zdD hIR;have Hok:=qh (fun h=>zen (x:=x) hIR h);have Hmx:Hid (l.length+1≤maxLen):=qh (by unfold maxLen;omega);have Hby:Hid ((l.length+1)*112≤140737488355328):=qh (by omega);have Hpos:Hid (0<l.length+1):=qh (by omega);have HNx:=qh (fun(w7 w8:World) (vh v':Value) (ho7:Off [rb] W5.drew w7) (hrd7:Rd w7 rb fb s k) h1 hx hg hv8=>HD5.out.next (B7:=W5.drew.heap.size) (w7:=w7) (w8:=w8) (vh:=vh) (v':=v') (x:=x) hne ho7 hrd7 h1 HD5.out.off.size hx (by omega) hg hv8);have Hits7:=qh (fun(w7:World) (ho7:Off [rb] W5.drew w7)=>(HD5.out.its.off ho7 (TyAt.one HD5.out.rd.r) (by decide) (by decide)).o);have Hsz7:=qh (fun(w7:World) (ho7:Off [rb] W5.drew w7)=>qm HD5.out.off.size ho7.size);have Hs2:=qh (fun(w7:World) (ho7:Off [rb] W5.drew w7)=>(ho7.cell (qg HD5.out.st).1 (by simp;exact hne):w7.cell? ⟨sb,1,none⟩=W5.drew.cell? ⟨sb,1,none⟩).trans s2);clear hIR;go_wp2_with fail;rw[HW5.out];go_region_law (first
        |(go_simp;go_at_call 117;refine Hit.out.mono ?_;rintro e w7 ⟨ho7,vh,he7,hrd7,hown7,hmk7⟩;subst he7;obtain⟨Ah,ch,hvh,_,_⟩:=zdO hown7;subst hvh;unfold itC;have s3:=Hs2.out w7 ho7;have s4:∀o,(w7.alloc o).cell? ⟨sb,1,none⟩=some (.slice Ai l.length ci):=fun o=>(qw (qa w7 o sb (Nat.lt_of_lt_of_le (qg HD5.out.st).1 ho7.size))).trans s3;have Hown7:=qh (Hits7.out w7 ho7);have Hsz:=qh (Hsz7.out w7 ho7);have HN:=qh (fun w8 v' hg hv8=>HNx.out w7 w8 _ v' ho7 hrd7 hown7 (Hok.out hmk7) hg hv8);clear ho7 hrd7 hown7 hmk7)
        |(refine zah w7 (by rfl) (.tmp 54) (.tmp 58) 104 (by rfl) w.heap.size 108 _ _ 13 112 Tryz.underlying104 zjT zjU zjV zhr rfl (by decide) (.slice Ai l.length ci) l.length (itsC f.letters l vhs) _ _ (by simp[Act.eval,Act.put]) (by simp[Act.eval,Act.put];rfl) (by simp) (by exact Hown7.out) rfl (by exact zhs _ _ _ _ _ _ _ _) Hmx.out Hby.out (by exact Hsz.out) ?_;intro v8 w8 hown8 hg8 hat8;obtain⟨g8,cap8,rfl⟩:=zak hown8 Hpos.out;obtain⟨hJ8,c8,z8⟩:=HN.out w8 _ hg8 hown8;have HJ8:=qh hJ8;clear hJ8 hown8 hg8 hat8))
       all_goals
        go_wp2_with fail;go_roundw
        case rel=>exact⟨l++[x],k,_,_,q',by omega,HJ8,HT2⟩
        case measure=>
         have e1:=HJ8.out.rd.cells.2.1;have e2:=HJ8.out.rd.le;rw[e1,Hms.out];simp only[intOf];omega
     ·skip
      have hb0:(f.most==0)=false:=(by simpa using hm0);have hln:zbi f true l.length=A+(l.length:Int):=(by unfold zbi;rw[hb0,HA.out];rfl);rw[hln] at HT2;have Hit:=qh (HL5.out (A+(l.length:Int)));clear HL5 hln;generalize hIR:zbC s f.letters (A+(l.length:Int)) (j+1)=IR at*;have s2:W5.cell? ⟨sb,1,none⟩=some (.slice Ai l.length ci):=qc _ _ 1 _ _ (0,0) HJ5.out.st;cases IR with
      |error ep=>
       obtain⟨c,p⟩:=ep;have HR2:Hid (R=.error (c,p)):=qh HT2.out.symm;have Hfin:=qh (fun(w7:World) (ho7:Off [rb] W5.drew w7)=>(HD5.out.off.trans ho7).below hBw (fun k hk=>by simp at hk;omega));clear hIR;go_wp2_with fail;rw[HW5.out];refine wp_region_any (by kernel_rfl) ?_;change wpAny _ _ _ _ _ _ _ (World.drew _)
       refine wpAny_take (i:=0) (v:=?_) rfl (by kernel_rfl) (by kernel_rfl) (by kernel_rfl) (fun _ _ _ h=>h) (Or.inl ⟨by rfl,?_⟩) ?_;rotate_left
       ·intro w;go_simp;try(with_reducible rfl)
       refine wpAny_take (i:=2) (v:=?_) rfl (by kernel_rfl) (by kernel_rfl) (by kernel_rfl) (fun _ _ _ h=>h) (Or.inl ⟨by rfl,?_⟩) ?_;rotate_left
       ·intro w;go_simp;try(with_reducible rfl)
       refine wpAny_take (i:=3) (v:=?_) rfl (by kernel_rfl) (by kernel_rfl) (by kernel_rfl) (fun _ _ _ h=>h) (Or.inl ⟨by rfl,?_⟩) ?_;rotate_left
       ·intro w;go_simp;try(with_reducible rfl)
       refine wpAny_ready (rs:=[1,4]) (by kernel_rfl) (by simp) ?_;refine AllReady.cons rfl (fun K hK=>?_) (AllReady.cons rfl (fun K hK=>?_) AllReady.nil)
       ·go_simp;refine hK _ _ ?_;clear hK K;refine wpAny_ready (rs:=[4]) (by kernel_rfl) (by simp) ?_;refine AllReady.cons rfl (fun K hK=>?_) AllReady.nil;go_simp;refine Hit.out.mono ?_;rintro e w7 ⟨ho7,he7⟩;have he8:e=PanE c p:=he7;subst he8;exact⟨rfl,Hfin.out w7 ho7,by rw[HR2.out];rfl⟩
       ·go_simp;refine Hit.out.mono ?_;rintro e w7 ⟨ho7,he7⟩;have he8:e=PanE c p:=he7;subst he8;exact⟨rfl,Hfin.out w7 ho7,by rw[HR2.out];rfl⟩
      |ok xk=>
       obtain⟨x,k⟩:=xk;have hgt:=zdD hIR;have Hok:=qh (fun h=>zen (x:=x) hIR h);have Hmx:Hid (l.length+1≤maxLen):=qh (by unfold maxLen;omega);have Hby:Hid ((l.length+1)*112≤140737488355328):=qh (by omega);have Hpos:Hid (0<l.length+1):=qh (by omega);have HNx:=qh (fun(w7 w8:World) (vh v':Value) (ho7:Off [rb] W5.drew w7) (hrd7:Rd w7 rb fb s k) h1 hx hg hv8=>HD5.out.next (B7:=W5.drew.heap.size) (w7:=w7) (w8:=w8) (vh:=vh) (v':=v') (x:=x) hne ho7 hrd7 h1 HD5.out.off.size hx (by omega) hg hv8);have Hits7:=qh (fun(w7:World) (ho7:Off [rb] W5.drew w7)=>(HD5.out.its.off ho7 (TyAt.one HD5.out.rd.r) (by decide) (by decide)).o);have Hsz7:=qh (fun(w7:World) (ho7:Off [rb] W5.drew w7)=>qm HD5.out.off.size ho7.size);have Hs2:=qh (fun(w7:World) (ho7:Off [rb] W5.drew w7)=>(ho7.cell (qg HD5.out.st).1 (by simp;exact hne):w7.cell? ⟨sb,1,none⟩=W5.drew.cell? ⟨sb,1,none⟩).trans s2);clear hIR;go_wp2_with fail;rw[HW5.out];go_region_law (first
        |(go_simp;go_at_call 117;refine Hit.out.mono ?_;rintro e w7 ⟨ho7,vh,he7,hrd7,hown7,hmk7⟩;subst he7;obtain⟨Ah,ch,hvh,_,_⟩:=zdO hown7;subst hvh;unfold itC;have s3:=Hs2.out w7 ho7;have s4:∀o,(w7.alloc o).cell? ⟨sb,1,none⟩=some (.slice Ai l.length ci):=fun o=>(qw (qa w7 o sb (Nat.lt_of_lt_of_le (qg HD5.out.st).1 ho7.size))).trans s3;have Hown7:=qh (Hits7.out w7 ho7);have Hsz:=qh (Hsz7.out w7 ho7);have HN:=qh (fun w8 v' hg hv8=>HNx.out w7 w8 _ v' ho7 hrd7 hown7 (Hok.out hmk7) hg hv8);clear ho7 hrd7 hown7 hmk7)
        |(refine zah w7 (by rfl) (.tmp 54) (.tmp 58) 104 (by rfl) w.heap.size 108 _ _ 13 112 Tryz.underlying104 zjT zjU zjV zhr rfl (by decide) (.slice Ai l.length ci) l.length (itsC f.letters l vhs) _ _ (by simp[Act.eval,Act.put]) (by simp[Act.eval,Act.put];rfl) (by simp) (by exact Hown7.out) rfl (by exact zhs _ _ _ _ _ _ _ _) Hmx.out Hby.out (by exact Hsz.out) ?_;intro v8 w8 hown8 hg8 hat8;obtain⟨g8,cap8,rfl⟩:=zak hown8 Hpos.out;obtain⟨hJ8,c8,z8⟩:=HN.out w8 _ hg8 hown8;have HJ8:=qh hJ8;clear hJ8 hown8 hg8 hat8))
       all_goals
        go_wp2_with fail;go_roundw
        case rel=>exact⟨l++[x],k,_,_,q',by omega,HJ8,HT2⟩
        case measure=>
         have e1:=HJ8.out.rd.cells.2.1;have e2:=HJ8.out.rd.le;rw[e1,Hms.out];simp only[intOf];omega
end Go.Proofs.YtgklikkddckgbaaGreatDoor.Mo

import Derived.Test.YtgklikkddckgbaaGreatDoorLZI
import Derived.Test.YtgklikkddckgbaaGreatDoorLPXD
import Derived.Test.YtgklikkddckgbaaGreatDoorLBA
import Derived.Deep.CutBlock
/- Lemmas. -/
set_option linter.all false
set_option maxRecDepth 100000
set_option maxHeartbeats 16000000
namespace Go.Proofs.YtgklikkddckgbaaGreatDoor
open Go.RowKit
theorem zob {w:World} {base:Nat} {v:Value} {l:List (Int×Int)} (h:w.ownsRow base 85 2 v l.length (JC l)):∃A c,v=.slice A l.length c/\l.length<=c/\QG w w.heap.size A l:=by
  rcases h.2 with⟨rfl,h0⟩|⟨g,cap,cur,rfl,_,hg,hcap,_⟩
  · rw[h0];exact⟨none,0,rfl,ql _,λhl=>by omega⟩
  · refine⟨_,cap,rfl,hcap,λhl=>⟨g,0,rfl,(qg hg).1,λk hk=>?_⟩⟩
    rw[kY,h.cellAt (k*2) (by omega),h.cellAt (k*2+1) (by omega)];exact zd3 l k hk
theorem zoK {w:World} {base:Nat} {m:Met} {vf:Value} {vs:List Value} (hvl:vs.length=m.gO.length) (hf:w.ownsRow base 81 2 vf m.gO.length (Zn m.gO vs)) (hw:∀k,k<m.gO.length->w.ownsRow base 83 2 (vs.getD k yK) (m.gO.getD k default).gR.length (Qu (m.gO.getD k default).gR)):∃A c,vf=.slice A m.gO.length c/\m.gO.length<=c/\zli w w.heap.size A m.gO:=by
  rcases hf.2 with⟨rfl,h0⟩|⟨g,cap,cur,rfl,_,hg,hcap,_⟩
  · rw[h0];exact⟨none,0,rfl,ql _,λhl=>by omega⟩
  · refine⟨_,cap,rfl,hcap,λhl=>⟨g,0,rfl,(qg hg).1,λk hk=>?_⟩⟩
    have hgt:=zcr m.gO vs k hvl hk;obtain⟨A,c,hv,hc,hw⟩:=zds (hw k hk);unfold zp7;rw[kY,hf.cellAt (k*2) (by omega),hf.cellAt (k*2+1) (by omega),hgt.1,hgt.2,hv];exact⟨rfl,A,c,rfl,hc,hw⟩
theorem OM.zp5 {w:World} {base:Nat} {m:Met} {vf ve vb:Value} {vs:List Value} (h:OM w base m vf ve vb vs) (hb:zmP m):∃Af Ae Ab cf ce cb,vf=.slice Af m.gO.length cf/\ve=.slice Ae m.ends.length ce/\vb=.slice Ab m.gS.length cb/\pW w w.heap.size Af Ae Ab cf ce cb m:=by
  obtain⟨Af,cf,e1,h1,i1⟩:=zoK h.vl h.gO h.gR;obtain⟨Ae,ce,e2,h2,i2⟩:=zds h.ends;obtain⟨Ab,cb,e3,h3,i3⟩:=zob h.gS;exact⟨Af,Ae,Ab,cf,ce,cb,e1,e2,e3,i1,i2,i3,h1,h2,h3,hb⟩
theorem uW {m:Met} (h:vp m=true):zmP m:=by
  have hp:=znr h;refine⟨by have:=hp.gO;omega,λf hf=>?_,⟨by have:=hp.zqd;omega,λv hv=>?_⟩,by have:=hp.zqe;omega⟩
  · obtain⟨k,hk,he⟩:=jo.1 hf
    have hg:m.gO.getD k default=f:=(by rw[qj,qz hk,he];rfl);have h1:=hp.own k hk;have h2:=hp.few k hk;have h3:=hp.gR k hk;rw[hg] at h1 h2 h3;refine⟨by omega,by omega,λv hv=>?_⟩;obtain⟨j,hj,e2⟩:=jo.1 hv;have h4:=(h3 j hj).1;rw[qj,qz hj,e2] at h4;simp only[Option.getD_some] at h4;omega
  · obtain⟨j,hj,e2⟩:=jo.1 hv
    have h4:=(hp.ends j hj).1;rw[qj,qz hj,e2] at h4;simp only[Option.getD_some] at h4;omega
end Go.Proofs.YtgklikkddckgbaaGreatDoor
namespace Go.Proofs.YtgklikkddckgbaaGreatDoor.Mo
open Go.RowKit
theorem ui:∀l:List (Value×Value×Value),(vS l).length=l.length*3
  |[]=>rfl
  |c::l=>by have:=ui l;simp only[vS,qB,this];omega
theorem uj:∀(l:List (Value×Value×Value)) (k:Nat),k<l.length->(vS l)[k*3]?=some (l.getD k default).1/\(vS l)[k*3+1]?=some (l.getD k default).2.1/\(vS l)[k*3+2]?=some (l.getD k default).2.2
  |[],k,hk=>by simp at hk
  |c::l,0,_=>by simp[vS]
  |c::l,k+1,hk=>by
   have ih:=uj l k (by simpa using hk);rw[show(k+1)*3=k*3+3 by omega,show k*3+3+1=(k*3+1)+3 by omega,show k*3+3+2=(k*3+2)+3 by omega];simpa [vS] using ih
theorem Zy.at {w:World} {B:Nat} {v:Value} {ms:List Met} {cs:List (Value×Value×Value)} (h:Zy w B v ms cs) (hm:∀m∈ms,vp m=true):∃A c,v=.slice A ms.length c/\∀k,k<ms.length->∃g,A=some ⟨g,0,none⟩/\g<w.heap.size/\∃Af Ae Ab cf ce cb,
    w.cell? ⟨g,k*3,none⟩=some (.slice Af (ms.getD k yO).gO.length cf)/\w.cell? ⟨g,k*3+1,none⟩=some (.slice Ae (ms.getD k yO).ends.length ce)/\w.cell? ⟨g,k*3+2,none⟩=some (.slice Ab (ms.getD k yO).gS.length cb)/\pW w w.heap.size Af Ae Ab cf ce cb (ms.getD k yO)/\vp (ms.getD k yO)=true:=by
  have hlen:=ui cs;rw[h.n] at hlen;rcases h.o.2 with⟨rfl,h0⟩|⟨g,cap,cur,rfl,_,hg,hcap,_⟩
  · rw[h0];exact⟨none,0,rfl,λk hk=>by omega⟩
  · refine⟨_,cap,rfl,λk hk=>⟨g,rfl,(qg hg).1,?_⟩⟩
    have hm1:vp (ms.getD k yO)=true:=hm _ (by rw[qj,qz hk];exact qM hk);obtain⟨_,vs,ho⟩:=h.m k hk;obtain⟨Af,Ae,Ab,cf,ce,cb,e1,e2,e3,hM⟩:=OM.zp5 ho (uW hm1);have hget:=uj cs k (by rw[h.n];exact hk);rw[e1,e2,e3] at hget;exact⟨Af,Ae,Ab,cf,ce,cb,(h.o.cellAt (k*3) (by omega)).trans hget.1,(h.o.cellAt (k*3+1) (by omega)).trans hget.2.1,(h.o.cellAt (k*3+2) (by omega)).trans hget.2.2,hM,hm1⟩
theorem znA {w:World} {B:Nat} {v:Value} {l:List UInt8} (h:w.ownsRow B 5 1 v l.length (Z6 l)):∃A c,v=.slice A l.length c/\l.length<=c/\∀k,k<l.length->∃g,A=some ⟨g,0,none⟩/\g<w.heap.size/\w.cell? ⟨g,k,none⟩=some (.int .u8 ((l.getD k 0).toNat:Int)):=by
  rcases h.2 with⟨rfl,h0⟩|⟨g,cap,cur,rfl,_,hg,hcap,_⟩
  · rw[h0];exact⟨none,0,rfl,ql _,λk hk=>by omega⟩
  · refine⟨_,cap,rfl,hcap,λk hk=>⟨g,rfl,(qg hg).1,?_⟩⟩
    rw[h.cellAt k (by omega)];simp[Z6,List.getElem?_map,qj,qz hk]
structure Q6 (b:Nat) (w0:World) (l:List UInt8) (w:World):Prop where
  bb:BB b l w
  lo:Below b w0 w
theorem Q6.below {b:Nat} {w0 w w':World} {l:List UInt8} (h:Q6 b w0 l w) (hb:Below w.heap.size w w'):Q6 b w0 l w':=⟨h.bb.below hb,h.lo.trans (hb.mono (zL h.bb.lt))⟩
theorem Q6.step {b:Nat} {w0 w w':World} {l:List UInt8} (hb:Below w.heap.size w w') (h:Q6 b w0 l w):Q6 b w0 l w':=h.below hb
theorem Q6.alloc {b:Nat} {w0 w:World} {l:List UInt8} (h:Q6 b w0 l w) (o:Obj):Q6 b w0 l (w.alloc o):=h.below ((qb _ _).alloc (ql _) o)
theorem Q6.drew {b:Nat} {w0 w:World} {l:List UInt8} (h:Q6 b w0 l w):Q6 b w0 l w.drew:=h.below (qb _ _).drew
theorem Q6.text {b:Nat} {w0 w:World} {l l':List UInt8} (h:Q6 b w0 l w) (e:l=l'):Q6 b w0 l' w:=e▸h
theorem Q6.start (w:World):Q6 w.heap.size w [] (w.alloc (.cells #[.pointer none,.slice none 0 0] 120)):=
  ⟨Lib.IsBuilderF.of (Lib.fresh_isBuilder 120 5 w),(qb _ _).alloc (ql _) _⟩
theorem Q6.write {b:Nat} {w0 w:World} {l:List UInt8} (h:Q6 b w0 l w) (S:ByteArray) (hl:l.length+S.size<=140737488355328):
    Calls Tryz.prog 48 #[.pointer (some ⟨b,0,none⟩),.string S] w λe w'=>e=.returned (.tuple #[.int .i64 S.size,.nilIface])/\Q6 b w0 (l++S.data.toList) w'/\Lib.OthersKept 5 (some b) w w'/\Below b w w':=
  (znv b l S w h.bb hl).mono λe w' ⟨he,h1,h2,h3⟩=>⟨he,⟨h1,h.lo.trans h2⟩,h3,h2⟩
theorem keepR {w w1 w2:World} {fb bx:Nat} {x5 x6 x7:Value} {row:Array Value} (Qg:fb<w.heap.size) (h:Below w.heap.size w w1/\w1.cell? ⟨fb,5,none⟩=some x5/\w1.cell? ⟨fb,6,none⟩=some x6/\w1.cell? ⟨fb,7,none⟩=some x7/\w1.heap[bx]?=some (.cells row 106 (0,0))) (hb:Below w1.heap.size w1 w2):
    Below w.heap.size w w2/\w2.cell? ⟨fb,5,none⟩=some x5/\w2.cell? ⟨fb,6,none⟩=some x6/\w2.cell? ⟨fb,7,none⟩=some x7/\w2.heap[bx]?=some (.cells row 106 (0,0)):=
  have hf:=qD Qg h.1.size
  ⟨h.1.trans (hb.mono h.1.size),(hb.cell (p:=⟨fb,5,none⟩) hf).trans h.2.1,(hb.cell (p:=⟨fb,6,none⟩) hf).trans h.2.2.1,(hb.cell (p:=⟨fb,7,none⟩) hf).trans h.2.2.2.1,(hb.block _ (qg h.2.2.2.2).1).trans h.2.2.2.2⟩
theorem putR {w w1 w2:World} {fb bx:Nat} {x5 x6 x7:Value} {row:Array Value} (Qg:fb<w.heap.size) (hbx:bx≠w.heap.size) (h:Below w.heap.size w w1/\w1.cell? ⟨fb,5,none⟩=some x5/\w1.cell? ⟨fb,6,none⟩=some x6/\w1.cell? ⟨fb,7,none⟩=some x7/\w1.heap[bx]?=some (.cells row 106 (0,0))) (hB:Below w.heap.size w1 w2) (hO:Lib.OthersKept 5 (some w.heap.size) w1 w2):
    Below w.heap.size w w2/\w2.cell? ⟨fb,5,none⟩=some x5/\w2.cell? ⟨fb,6,none⟩=some x6/\w2.cell? ⟨fb,7,none⟩=some x7/\w2.heap[bx]?=some (.cells row 106 (0,0)):=
  ⟨h.1.trans hB,(hB.cell (p:=⟨fb,5,none⟩) Qg).trans h.2.1,(hB.cell (p:=⟨fb,6,none⟩) Qg).trans h.2.2.1,(hB.cell (p:=⟨fb,7,none⟩) Qg).trans h.2.2.2.1,vN hO h.2.2.2.2 hbx (by decide)⟩
theorem zpD (W:World) (g k c:Nat) (b:UInt8) (h:W.cell? ⟨g,k,none⟩=some (.int .u8 (b.toNat:Int))):Sem.run Tryz.prog (convert 25 9 (.slice (some ⟨g,k,none⟩) 1 c)) W=.ok (.string ⟨#[b]⟩) W:=by
  refine zz _ _ _ _ ⟨g,k,none⟩ c [b] qX qV qN (λj hj=>?_);obtain rfl:j=0:=by simpa using hj
  exact h
theorem zoB (B fb:Nat) (f:Fm) (vl vm vs:Value) (n0:Nat) (s:ByteArray) (w:World) (hv:Vars w) (h:pL w B fb f vl vm vs) (hk:pq f n0) (hn0:n0<=65536) (hn:NmF s f) (hs:s.size<=65536):
    Calls Tryz.prog 29 #[.pointer (some ⟨fb,0,none⟩)] w λe w'=>∃T:ByteArray,e=.returned (.string T)/\T.data.toList=gn f/\Below w.heap.size w w':=by
  have Qg:=h.lt;obtain⟨vis,vhss,hrw,hits⟩:=h.parts;obtain⟨cs,hcs⟩:=h.m;obtain⟨Am,cm,rfl,hat⟩:=hcs.at hn.met;obtain⟨Al,cl,rfl,hcl,hlet⟩:=znA h.l;obtain⟨Ar,cr,rfl⟩:=pJ hrw.o;have hx:=h.x;have Hfc:=qh λ(wx:World) (hb:Below w.heap.size w wx)=>((hb.block fb Qg).trans hx:wx.heap[fb]?=_);have HM:=qh hat;have HL:=qh hlet;have HR:=qh hrw;have HI:=qh hits;have HK:=qh hk;have VD:=qh λ(wx:World) (hb:Below w.heap.size w wx)=>Vars.below hv hb hv.six;have hnm:=hn.nm;have Hml:=qh (gz (gN:=f.gN) hn.met);have Hrl:=qh (gB hk);have Hll:=qh hk.ll;have VA:=qh hk.le;obtain⟨nm,Um⟩:∃nm:ByteArray,nm=⟨f.name.toArray⟩:=⟨_,rfl⟩;have JG:=qh (show nm.data.toList=f.name by rw[Um]);have hnz:nm.size<=65536:=by rw[uu JG.out];omega
  have hb0:Below w.heap.size w (w.alloc (.cells #[.pointer none,.slice none 0 0] 120)):=(qb _ _).alloc (ql _) _;have x0:=Hfc.out _ hb0;unfold fmC at x0;rw[<-Um] at x0;have c0:(w.alloc (.cells #[.pointer none,.slice none 0 0] 120)).cell? ⟨fb,0,none⟩=some (.string nm):=qc _ _ 0 _ _ (0,0) x0;have z1:¬(9223372036854775807<5+nm.size):=by omega
  have z2:¬(9223372036854775807<5+nm.size+1):=by omega
  have HP0:=qh (Q6.start w);clear h hcs hat hlet hrw hits hk hx hv hn hb0 x0 Um;go_enter Tryz.func29,Tryz.ntmps29;go_wp2_with fail;refine(Q6.write HP0.out _ (by simp only[qR];show 0+(5+nm.size+1)<=_;omega)).mono ?_;rintro e w2 ⟨rfl,hP2,_,_⟩;have KS:Hid (Q6 w.heap.size w (gv f) w2):=qh (hP2.text (by simp only[qH,qL,JG.out,jc,qP];rfl));have c2:w2.cell? ⟨fb,2,none⟩=some (.slice Am f.gQ.length cm):=qc _ _ 2 _ _ (0,0) (Hfc.out _ hP2.lo);have hml16:(ud f.gN f.gQ f.gQ.length).length<=f.gQ.length*16010:=Hml.out _ (ql _);have hmet:f.gQ.length<=65536:=by have:=Hll.out;omega
  clear hP2 c0 z1 z2;go_wp2_with fail;clear c2;go_loopw [4,5,6,7,26] (λv4 v5 v6 v7 q wr=>∃k:Nat,k<=f.gQ.length/\q=.int .i64 k/\Hid (Q6 w.heap.size w (gv f++ud f.gN f.gQ k) wr)) (λ_ _ _ _ q _=>f.gQ.length-(intOf q).toNat)
  case atStart=>exact⟨0,qF _,rfl,qh (KS.out.text (by simp[ud]))⟩
  case round=>
   obtain⟨wi,hwi⟩:∃W:World,W=wr:=⟨_,rfl⟩;subst hwi;obtain⟨k,hk,rfl,hP⟩:=hrel;by_cases hlt:k<f.gQ.length
   · obtain⟨g,rfl,hg,Af,Ae,Ab,cf,ce,cb,a0,a1,a2,hM,hmay⟩:=HM.out k hlt
     obtain⟨gl,rfl,hgl,hl0⟩:=HL.out k (by have:=Hll.out;omega);have r0:=(hP.out.lo.cell (p:=⟨g,k*3,none⟩) hg).trans a0;have r1:=(hP.out.lo.cell (p:=⟨g,k*3+1,none⟩) hg).trans a1;have r2:=(hP.out.lo.cell (p:=⟨g,k*3+2,none⟩) hg).trans a2;have hpl:=uV hmay;have hmk:=Hml.out k (by omega);have Un:=qh (uT f.gN f.gQ k);have hcl2:k+1<=cl:=(by have:=Hll.out;omega);clear a0 a1 a2;generalize f.gQ.getD k yO=m at*;generalize f.gN.getD k 0=lb at*;have i1:(0:Int)<=(k:Int):=(by omega);have i2:(k:Int)<(f.gQ.length:Int):=(by omega);go_upto_region 8 with(fail)
     obtain⟨W5,QJ⟩:∃W5,wi.alloc (.cells #[.slice Af m.gO.length cf,.slice Ae m.ends.length ce,.slice Ab m.gS.length cb] 79)=W5:=⟨_,rfl⟩;rw[QJ];have hb5:Below wi.heap.size wi W5:=(by rw[<-QJ];exact(qb _ _).alloc (ql _) _);have hx5:W5.heap[wi.heap.size]?=some (.cells #[.slice Af m.gO.length cf,.slice Ae m.ends.length ce,.slice Ab m.gS.length cb] 79 (0,0)):=(by rw[<-QJ];exact qn wi _);have t0:W5.cell? ⟨wi.heap.size,0,none⟩=some (.slice Af m.gO.length cf):=qc _ _ 0 _ _ (0,0) hx5;have t1:W5.cell? ⟨wi.heap.size,1,none⟩=some (.slice Ae m.ends.length ce):=qc _ _ 1 _ _ (0,0) hx5;have t2:W5.cell? ⟨wi.heap.size,2,none⟩=some (.slice Ab m.gS.length cb):=qc _ _ 2 _ _ (0,0) hx5;have hP5:=hP.out.below hb5;have HP5:=qh hP5;obtain⟨Pb,hPb⟩:∃Pb:ByteArray,Pb=⟨(vV m).toArray⟩:=⟨_,rfl⟩;have HPb:=qh (show Pb.data.toList=vV m by rw[hPb]);have hPs:Pb.size<=16000:=(by rw[uu HPb.out];exact hpl);have hpr:=zoS Af Ae Ab cf ce cb m W5 (VD.out W5 hP5.lo) (hM.on hP5.lo) hmay;rw[<-hPb] at hpr;have HPr:=qh hpr;clear QJ hb5 hx5 hP5 hPb hpr r0 r1 r2 hM;go_wp2_with fail;refine HPr.out.mono ?_;rintro e w6 ⟨rfl,hb6⟩;have hP6:=HP5.out.below hb6;have c1:w6.cell? ⟨fb,1,none⟩=some (.slice (some ⟨gl,0,none⟩) f.gN.length cl):=qc _ _ 1 _ _ (0,0) (Hfc.out _ hP6.lo);have hC:=zpD w6 gl k (cl-k) lb ((hP6.lo.cell (p:=⟨gl,k,none⟩) hgl).trans hl0);have HP6:=qh hP6;have z1:¬(9223372036854775807<8+Pb.size):=(by omega);have z2:¬(9223372036854775807<8+Pb.size+1):=(by omega);have i3:(k:Int)+1<=(cl:Int):=(by omega);have i4:(0:Int)<=(k:Int)+1:=(by omega);have i5:(k:Int)<=(k:Int)+1:=(by omega);clear hP6 hb6 HPr t0 t1 t2 hl0;go_wp2_with fail
     refine(Q6.write HP6.out _ (by
       have:=Hml.out k (by omega);have htl:(gv f).length<=65600:=(by unfold gv;simp only[qv,zoI,qB,qG];omega);simp only[qR,qv];show _+(6+1+1+Pb.size+1)<=_;omega)).mono ?_
     rintro e w7 ⟨rfl,hP7,_,_⟩
     have VB:Hid (Q6 w.heap.size w (gv f++ud f.gN f.gQ (k+1)) w7):=qh (hP7.text (by
       rw[Un.out];simp only[qH,qL,HPb.out,qP];rfl))
     clear hP7;go_wp2_with fail;go_roundw
     case rel=>exact⟨k+1,by omega,by go_num,VB⟩
     case measure=>simp[intOf];omega
   · obtain rfl:k=f.gQ.length:=by omega
     have c3:wi.cell? ⟨fb,3,none⟩=some (.slice Ar f.rows.length cr):=qc _ _ 3 _ _ (0,0) (Hfc.out _ hP.out.lo);go_wp2_with fail;have hrl:f.rows.length<=65536:=by have:=VA.out;omega
     have hLl:(gv f++ud f.gN f.gQ f.gQ.length).length<=2000000000:=by
       have htl:(gv f).length<=65600:=(by unfold gv;simp only[qv,zoI,qB,qG];omega);rw[qv];omega
     generalize hL0:gv f++ud f.gN f.gQ f.gQ.length=L0 at*;clear c3;go_loopw [9,11,57] (λv9 v11 q wr=>∃k:Nat,k<=f.rows.length/\q=.int .i64 k/\Hid (Q6 w.heap.size w (L0++vz f k) wr)) (λ_ _ q _=>f.rows.length-(intOf q).toNat)
     case atStart=>exact⟨0,qF _,rfl,qh (hP.out.text (by simp[vz]))⟩
     case round=>
       obtain⟨wk,hwk⟩:∃W:World,W=wr:=⟨_,rfl⟩;subst hwk;obtain⟨k,hk,rfl,hPk⟩:=hrel;by_cases hlt2:k<f.rows.length
       · obtain⟨g,rfl,a0,a1⟩:=zpa HR.out hlt2
         obtain⟨Ai,ci,Xv⟩:=HR.out.it k hlt2;have hik:=HI.out k hlt2;rw[Xv] at a1 hik;have hg:g<w.heap.size:=jL w _ a0;have r0:=(hPk.out.lo.cell (p:=⟨g,k*2,none⟩) hg).trans a0;have r1:=(hPk.out.lo.cell (p:=⟨g,k*2+1,none⟩) hg).trans a1;have hrm:f.rows.getD k ⟨false,[]⟩∈f.rows:=(by rw[qj,qz hlt2];exact qM hlt2);have Xo:=qh (HK.out.it _ hrm);have Un:=qh (uU f k);have hrk:=Hrl.out k (by omega);have htk:=zej f.rows k hlt2;have htl:=zlk f.rows (k+1);have Hhd:=qh (gA HK.out);clear a0 a1 Xv hrm
         have XH:Hid ((L0++vz f k).length<=3000000000/\(f.rows.getD k ⟨false,[]⟩).items.length<=65536):=qh (by
           have:=VA.out;rw[qv];omega)
         clear hrk htk htl;generalize f.rows.getD k ⟨false,[]⟩=r at*;obtain⟨rd,its⟩:=r;simp only[] at r0 r1 hik Xo Un XH;have hils:=XH.out.2;have i1:(0:Int)<=(k:Int):=(by omega);have i2:(k:Int)<(f.rows.length:Int):=(by omega);go_upto_region 14 with(fail)
         obtain⟨W5,QJ⟩:∃W5,wk.alloc (.cells #[.bool rd,.slice Ai its.length ci] 106)=W5:=⟨_,rfl⟩;rw[QJ];have hx5:W5.heap[wk.heap.size]?=some (.cells #[.bool rd,.slice Ai its.length ci] 106 (0,0)):=(by rw[<-QJ];exact qn wk _);have t0:W5.cell? ⟨wk.heap.size,0,none⟩=some (.bool rd):=qc _ _ 0 _ _ (0,0) hx5;have hbx:wk.heap.size≠w.heap.size:=(by have:=hPk.out.bb.lt;omega);have HP5:Hid (Q6 w.heap.size w (L0++vz f k) W5):=qh (by rw[<-QJ];exact hPk.out.alloc _);have Hx5:=qh hx5;clear QJ hx5 r0 r1;generalize hBX:wk.heap.size=bx at*;clear hBX;go_upto_if 62 with(fail)
         go_cut [] from 62 to 84 (λwx=>Hid (Q6 w.heap.size w (L0++vz f k++uv f rd) wx)/\Hid (wx.heap[bx]?=some (.cells #[.bool rd,.slice Ai its.length ci] 106 (0,0))))
         case first=>
           have x5:=Hfc.out _ HP5.out.lo;unfold fmC at x5;cases rd with
           |true=>
            have H5:Hid (∀W,Below w.heap.size w W->Calls Tryz.prog 50 #[.int .i64 f.least] W λe w'=>∃T:ByteArray,e=.returned (.string T)/\T.data.toList=Lib.itoa f.least/\T.size<=21/\Below W.heap.size W w'):=qh (λW hb=>vM f.least W (VD.out W hb) (by have:=HK.out.l0;omega) (by have:=HK.out.l0;omega));have H6:Hid (∀W,Below w.heap.size w W->Calls Tryz.prog 50 #[.int .i64 f.most] W λe w'=>∃T:ByteArray,e=.returned (.string T)/\T.data.toList=Lib.itoa f.most/\T.size<=21/\Below W.heap.size W w'):=qh (λW hb=>vM f.most W (VD.out W hb) (by have:=HK.out.m0;omega) (by have:=HK.out.m0;omega));have H7:Hid (∀W,Below w.heap.size w W->Calls Tryz.prog 50 #[.int .i64 f.shift] W λe w'=>∃T:ByteArray,e=.returned (.string T)/\T.data.toList=Lib.itoa f.shift/\T.size<=21/\Below W.heap.size W w'):=qh (λW hb=>vM f.shift W (VD.out W hb) (by have:=HK.out.s0;omega) (by have:=HK.out.s0;omega));have c5:W5.drew.cell? ⟨fb,5,none⟩=some (.int .i64 f.least):=qc W5 _ 5 _ _ (0,0) x5;have c6:W5.drew.cell? ⟨fb,6,none⟩=some (.int .i64 f.most):=qc W5 _ 6 _ _ (0,0) x5;have c7:W5.drew.cell? ⟨fb,7,none⟩=some (.int .i64 f.shift):=qc W5 _ 7 _ _ (0,0) x5;have HS0:=qh (show Below w.heap.size w W5.drew/\W5.drew.cell? ⟨fb,5,none⟩=some (.int .i64 f.least)/\W5.drew.cell? ⟨fb,6,none⟩=some (.int .i64 f.most)/\W5.drew.cell? ⟨fb,7,none⟩=some (.int .i64 f.shift)/\W5.drew.heap[bx]?=some (.cells #[.bool true,.slice Ai its.length ci] 106 (0,0)) from⟨HP5.out.drew.lo,c5,c6,c7,Hx5.out⟩);have Hhx:Hid (uv f true=znM++(Lib.itoa f.least++([32]++(Lib.itoa f.most++([32]++Lib.itoa f.shift))))):=qh rfl;clear x5 c5 c6 c7;generalize f.least=e5 at*;generalize f.most=e6 at*;generalize f.shift=e7 at*;go_wp2_with fail;go_region_held3 (λw'=>Below w.heap.size w w'/\w'.cell? ⟨fb,5,none⟩=some (.int .i64 e5)/\w'.cell? ⟨fb,6,none⟩=some (.int .i64 e6)/\w'.cell? ⟨fb,7,none⟩=some (.int .i64 e7)/\w'.heap[bx]?=some (.cells #[.bool true,.slice Ai its.length ci] 106 (0,0))) ((first|exact HS0.out|exact putR (by assumption) (by assumption) (by assumption) (by assumption) (by assumption)|exact keepR (by assumption) (by assumption) (by assumption))) ((first|(go_at_call 50;with_reducible refine(H5.out _ (by first|exact HS0.out.1|exact qZ (by assumption))).mono ?_;rintro e w9 ⟨Ta,rfl,hTa,Vi,pb⟩;have Vj:=qh (qY hTa Vi);have za:¬(9223372036854775807<6+Ta.size):=(by omega);have zb:¬(9223372036854775807<6+Ta.size+1):=(by omega);clear hTa Vi)|(go_at_call 50;with_reducible refine(H6.out _ (by first|exact HS0.out.1|exact qZ (by assumption))).mono ?_;rintro e w9 ⟨Tb,rfl,hTb,Vk,pb⟩;have HTb:=qh (qY hTb Vk);have zc:¬(9223372036854775807<6+Ta.size+1+Tb.size):=(by have:=Vj.out.2;omega);have zd:¬(9223372036854775807<6+Ta.size+1+Tb.size+1):=(by have:=Vj.out.2;omega);clear hTb Vk)|(go_at_call 50;with_reducible refine(H7.out _ (by first|exact HS0.out.1|exact qZ (by assumption))).mono ?_;rintro e w9 ⟨Tc,rfl,hTc,Vl,pb⟩;have HTc:=qh (qY hTc Vl);have ze:¬(9223372036854775807<6+Ta.size+1+Tb.size+1+Tc.size):=(by have:=Vj.out.2;have:=HTb.out.2;omega);clear hTc Vl)|(go_at_call 48;refine(Q6.write (b:=w.heap.size) (w0:=w) (l:=L0++vz f k) (by(repeat (apply Q6.step;assumption));exact HP5.out.drew) _ (by simp only[qR];have:=XH.out.1;have:=Vj.out.2;have:=HTb.out.2;have:=HTc.out.2;show _+(6+_+1+_+1+_)<=_;omega)).mono ?_;rintro e w9 ⟨rfl,hP9,hO9,hB9⟩)))
            have Va:=qh (show w9.heap[bx]?=some (.cells #[.bool true,.slice Ai its.length ci] 106 (0,0)) from(show Below w.heap.size w w9/\w9.cell? ⟨fb,5,none⟩=some (.int .i64 e5)/\w9.cell? ⟨fb,6,none⟩=some (.int .i64 e6)/\w9.cell? ⟨fb,7,none⟩=some (.int .i64 e7)/\w9.heap[bx]?=some (.cells #[.bool true,.slice Ai its.length ci] 106 (0,0)) by assumption).2.2.2.2);have HP9:Hid (Q6 w.heap.size w (L0++vz f k++uv f true) w9):=qh (hP9.text (by rw[Hhx.out];simp only[qH,qL,Vj.out.1,HTb.out.1,HTc.out.1,qP];rfl));clear hP9;go_wp2_with fail;go_meet
            exact⟨HP9,Va⟩
           |false=>
            clear x5;go_wp2_with fail;refine(Q6.write HP5.out _ (by have:=XH.out.1;show _+6<=_;omega)).mono ?_;rintro e w9 ⟨rfl,hP9,hO9,hB9⟩;have Va:=qh (vN hO9 Hx5.out hbx (by decide));have HP9:Hid (Q6 w.heap.size w (L0++vz f k++uv f false) w9):=qh (hP9.text rfl);clear hP9 hO9 hB9;go_wp2_with fail;go_meet
            exact⟨HP9,Va⟩
         case rest=>
         obtain⟨hPc,hxc⟩:=hcut;obtain⟨wB,hwB⟩:∃W:World,W=wc:=⟨_,rfl⟩;subst hwB;have t1:wB.cell? ⟨bx,1,none⟩=some (.slice Ai its.length ci):=qc _ _ 1 _ _ (0,0) hxc.out;have Hhd2:=qh (Hhd.out rd);have HIK:=qh hik;have Hil:=qh (gp (gN:=f.gN) Xo.out);clear t0 hik;go_wp2_with fail;clear t1;go_loopw [11,88] (λv11 q wr=>∃j:Nat,j<=its.length/\q=.int .i64 j/\Hid (Q6 w.heap.size w (L0++vz f k++uv f rd++znb f.gN its j) wr)) (λ_ q _=>its.length-(intOf q).toNat)
         case atStart=>exact⟨0,qF _,rfl,qh (hPc.out.text (by simp[znb]))⟩
         case round=>
           obtain⟨wj,hwj⟩:∃W:World,W=wr:=⟨_,rfl⟩;subst hwj;obtain⟨j,hj,rfl,Uo⟩:=hrel;by_cases hlt3:j<its.length
           · obtain⟨g2,rfl,hcell⟩:=zoN HIK.out hlt3
             have hown:=HIK.out.h j hlt3;have hxm:its.getD j px∈its:=(by rw[qj,qz hlt3];exact qM hlt3);have Vm:=Xo.out _ hxm;obtain⟨Ah,ch,hvh⟩:=pJ hown;rw[hvh] at hown hcell;have Htj:=qh (gx f.gN its j);have hjl:=Hil.out j (by omega);clear hxm hvh;generalize its.getD j px=x at*;have hg2:g2<w.heap.size:=jL w ⟨g2,j*13,none⟩ (show w.cell? ⟨g2,j*13,none⟩=some (.int .i64 x.cls) from hcell 0 (by decide));have r0:=(Uo.out.lo.cell (p:=⟨g2,j*13,none⟩) hg2).trans (show w.cell? ⟨g2,j*13,none⟩=some (.int .i64 x.cls) from hcell 0 (by decide));have r1:=(Uo.out.lo.cell (p:=⟨g2,j*13+1,none⟩) hg2).trans (show w.cell? ⟨g2,j*13+1,none⟩=some (.int .i64 x.ref) from hcell 1 (by decide));have r2:=(Uo.out.lo.cell (p:=⟨g2,j*13+2,none⟩) hg2).trans (show w.cell? ⟨g2,j*13+2,none⟩=some (.int .i64 (ZL f.gN x.gP)) from hcell 2 (by decide));have r3:=(Uo.out.lo.cell (p:=⟨g2,j*13+3,none⟩) hg2).trans (show w.cell? ⟨g2,j*13+3,none⟩=some (.int .u8 (gY x.gP 58)) from hcell 3 (by decide));have r4:=(Uo.out.lo.cell (p:=⟨g2,j*13+4,none⟩) hg2).trans (show w.cell? ⟨g2,j*13+4,none⟩=some (.int .i64 (gY x.gP 47)) from hcell 4 (by decide));have r5:=(Uo.out.lo.cell (p:=⟨g2,j*13+5,none⟩) hg2).trans (show w.cell? ⟨g2,j*13+5,none⟩=some (.int .i64 (gY x.gP 94)) from hcell 5 (by decide));have r6:=(Uo.out.lo.cell (p:=⟨g2,j*13+6,none⟩) hg2).trans (show w.cell? ⟨g2,j*13+6,none⟩=some (.int .i64 (gY x.gP 64)) from hcell 6 (by decide));have r7:=(Uo.out.lo.cell (p:=⟨g2,j*13+7,none⟩) hg2).trans (show w.cell? ⟨g2,j*13+7,none⟩=some (.slice Ah (pA x.gP).length ch) from hcell 7 (by decide));have r8:=(Uo.out.lo.cell (p:=⟨g2,j*13+8,none⟩) hg2).trans (show w.cell? ⟨g2,j*13+8,none⟩=some (.int .i32 (gY x.gP 39)) from hcell 8 (by decide));have r9:=(Uo.out.lo.cell (p:=⟨g2,j*13+9,none⟩) hg2).trans (show w.cell? ⟨g2,j*13+9,none⟩=some (.int .i64 x.at_) from hcell 9 (by decide));have r10:=(Uo.out.lo.cell (p:=⟨g2,j*13+10,none⟩) hg2).trans (show w.cell? ⟨g2,j*13+10,none⟩=some (.int .i64 (Qt x.gP)) from hcell 10 (by decide));have r11:=(Uo.out.lo.cell (p:=⟨g2,j*13+11,none⟩) hg2).trans (show w.cell? ⟨g2,j*13+11,none⟩=some (.bool (pG x.gP 58)) from hcell 11 (by decide));have r12:=(Uo.out.lo.cell (p:=⟨g2,j*13+12,none⟩) hg2).trans (show w.cell? ⟨g2,j*13+12,none⟩=some (.bool (pG x.gP 47)) from hcell 12 (by decide));have i3:(0:Int)<=(j:Int):=(by omega);have i4:(j:Int)<(its.length:Int):=(by omega);clear hcell;go_upto_region 20 with(fail)
             obtain⟨W6,X8⟩:∃W6,wj.alloc (.cells #[.int .i64 x.cls,.int .i64 x.ref,.int .i64 (ZL f.gN x.gP),.int .u8 (gY x.gP 58),.int .i64 (gY x.gP 47),.int .i64 (gY x.gP 94),.int .i64 (gY x.gP 64),.slice Ah (pA x.gP).length ch,.int .i32 (gY x.gP 39),.int .i64 x.at_,.int .i64 (Qt x.gP),.bool (pG x.gP 58),.bool (pG x.gP 47)] 108)=W6:=⟨_,rfl⟩;rw[X8];have hx6:W6.heap[wj.heap.size]?=some (.cells #[.int .i64 x.cls,.int .i64 x.ref,.int .i64 (ZL f.gN x.gP),.int .u8 (gY x.gP 58),.int .i64 (gY x.gP 47),.int .i64 (gY x.gP 94),.int .i64 (gY x.gP 64),.slice Ah (pA x.gP).length ch,.int .i32 (gY x.gP 39),.int .i64 x.at_,.int .i64 (Qt x.gP),.bool (pG x.gP 58),.bool (pG x.gP 47)] 108 (0,0)):=(by rw[<-X8];exact qn wj _);have t0:W6.cell? ⟨wj.heap.size,0,none⟩=some (.int .i64 x.cls):=qc _ _ 0 _ _ (0,0) hx6;have t1:W6.cell? ⟨wj.heap.size,1,none⟩=some (.int .i64 x.ref):=qc _ _ 1 _ _ (0,0) hx6;have t2:W6.cell? ⟨wj.heap.size,2,none⟩=some (.int .i64 (ZL f.gN x.gP)):=qc _ _ 2 _ _ (0,0) hx6;have t3:W6.cell? ⟨wj.heap.size,3,none⟩=some (.int .u8 (gY x.gP 58)):=qc _ _ 3 _ _ (0,0) hx6;have t4:W6.cell? ⟨wj.heap.size,4,none⟩=some (.int .i64 (gY x.gP 47)):=qc _ _ 4 _ _ (0,0) hx6;have t5:W6.cell? ⟨wj.heap.size,5,none⟩=some (.int .i64 (gY x.gP 94)):=qc _ _ 5 _ _ (0,0) hx6;have t6:W6.cell? ⟨wj.heap.size,6,none⟩=some (.int .i64 (gY x.gP 64)):=qc _ _ 6 _ _ (0,0) hx6;have t7:W6.cell? ⟨wj.heap.size,7,none⟩=some (.slice Ah (pA x.gP).length ch):=qc _ _ 7 _ _ (0,0) hx6;have t8:W6.cell? ⟨wj.heap.size,8,none⟩=some (.int .i32 (gY x.gP 39)):=qc _ _ 8 _ _ (0,0) hx6;have t9:W6.cell? ⟨wj.heap.size,9,none⟩=some (.int .i64 x.at_):=qc _ _ 9 _ _ (0,0) hx6;have t10:W6.cell? ⟨wj.heap.size,10,none⟩=some (.int .i64 (Qt x.gP)):=qc _ _ 10 _ _ (0,0) hx6;have t11:W6.cell? ⟨wj.heap.size,11,none⟩=some (.bool (pG x.gP 58)):=qc _ _ 11 _ _ (0,0) hx6;have t12:W6.cell? ⟨wj.heap.size,12,none⟩=some (.bool (pG x.gP 47)):=qc _ _ 12 _ _ (0,0) hx6;have hP6:Q6 w.heap.size w (L0++vz f k++uv f rd++znb f.gN its j) W6:=(by rw[<-X8];exact Uo.out.alloc _);have HP6:=qh hP6;have Hjl:=qh hjl;have hit:=zoY f.gN x B (.slice Ah (pA x.gP).length ch) W6 (VD.out W6 hP6.lo) Vm ((hown.kept (Zq (hP6.lo) none) ZH));unfold Qs at hit;have HIT:=qh hit;have Hxl:=qh (gy (gN:=f.gN) Vm);clear X8 hx6 hP6 hit hown Vm hjl r0 r1 r2 r3 r4 r5 r6 r7 r8 r9 r10 r11 r12;go_wp2_with fail;refine HIT.out.mono ?_;rintro e w7 ⟨T,rfl,hT,QW⟩;have hTs:T.size<=200:=(by rw[uu hT];exact Hxl.out);have z1:¬(9223372036854775807<1+T.size):=(by omega);have HT:=qh hT;have VB:=qh (HP6.out.below QW);clear hT QW t0 t1 t2 t3 t4 t5 t6 t7 t8 t9 t10 t11 t12;go_wp2_with fail
             refine(Q6.write VB.out _ (by
               have:=Hjl.out;have:=Hhd2.out;have:=XH.out.1;simp only[qv] at*;simp only[qR];show _+(1+T.size)<=_;omega)).mono ?_
             rintro e w8 ⟨rfl,hP8,_,_⟩
             have HP8:Hid (Q6 w.heap.size w (L0++vz f k++uv f rd++znb f.gN its (j+1)) w8):=qh (hP8.text (by
               rw[Htj.out];simp only[qH,qL,HT.out,qP];rfl))
             clear hP8;go_wp2_with fail;go_roundw
             case rel=>exact⟨j+1,by omega,by go_num,HP8⟩
             case measure=>simp[intOf];omega
           · obtain rfl:j=its.length:=by omega
             go_wp2_with fail
             refine(Q6.write Uo.out _ (by
               have:=Hil.out its.length (ql _);have:=Hhd2.out;have:=XH.out.1;simp only[qv] at*;show _+1<=_;omega)).mono ?_
             rintro e w8 ⟨rfl,hP8,_,_⟩
             have HP8:Hid (Q6 w.heap.size w (L0++vz f (k+1)) w8):=qh (hP8.text (by
               rw[Un.out];unfold zqg;simp only[qP]))
             clear hP8;go_wp2_with fail;go_roundw
             case rel=>exact⟨k+1,by omega,by go_num,HP8⟩
             case measure=>simp[intOf];omega
       · obtain rfl:k=f.rows.length:=by omega
         have zs2:=qh (Tryz.Builder_String_any_k w.heap.size w.heap.size _ wk hPk.out.bb (zL hPk.out.bb.lt));have Hlo:=qh hPk.out.lo;clear hPk;go_wp2_with fail;refine zs2.out.mono ?_;rintro e w9 ⟨rfl,hx1,hx2,hx3⟩;have Hb9:=qh hx2;clear hx1 hx2 hx3;go_wp2_with fail;go_ret;exact⟨_,rfl,by simp only[];rw[<-hL0];unfold gn;simp[qP],Hlo.out.trans Hb9.out⟩
end Go.Proofs.YtgklikkddckgbaaGreatDoor.Mo


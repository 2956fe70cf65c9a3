import Derived.Test.YtgklikkddckgbaaGreatDoorJZT
import Derived.Shelf.SlicesE.Clone
import Derived.Laws.StructEq
import Derived.Deep.CutBlock
/- Lemmas. -/
set_option linter.all false
set_option maxRecDepth 100000
set_option maxHeartbeats 16000000
namespace Go.Proofs.YtgklikkddckgbaaGreatDoor
open Go.RowKit
theorem zqR {w:World} {base:Nat} {v:Value} {l:List (Int×Int)} (h:w.ownsRow base 85 2 v l.length (Vc l)):∃A c,v=.slice A l.length c/\l.length<=c/\Kd w w.heap.size A l:=by
  rcases h.2 with⟨rfl,h0⟩|⟨g,cap,cur,rfl,_,hg,hcap,_⟩
  · rw[h0];exact⟨none,0,rfl,ql _,λhl=>by omega⟩
  · refine⟨_,cap,rfl,hcap,λhl=>⟨g,0,rfl,(qg hg).1,λk hk=>?_⟩⟩
    rw[jg,h.cellAt (k*2) (by omega),h.cellAt (k*2+1) (by omega)];exact zd3 l k hk
theorem zrh {w:World} {base:Nat} {m:Met} {vf:Value} {vs:List Value} (hvl:vs.length=m.Qp.length) (hf:w.ownsRow base 81 2 vf m.Qp.length (JT m.Qp vs)) (hw:∀k,k<m.Qp.length->w.ownsRow base 83 2 (vs.getD k vw) (m.Qp.getD k default).Qs.length (Ku (m.Qp.getD k default).Qs)):∃A c,vf=.slice A m.Qp.length c/\m.Qp.length<=c/\zli w w.heap.size A m.Qp:=by
  rcases hf.2 with⟨rfl,h0⟩|⟨g,cap,cur,rfl,_,hg,hcap,_⟩
  · rw[h0];exact⟨none,0,rfl,ql _,λhl=>by omega⟩
  · refine⟨_,cap,rfl,hcap,λhl=>⟨g,0,rfl,(qg hg).1,λk hk=>?_⟩⟩
    have hgt:=zcr m.Qp vs k hvl hk;obtain⟨A,c,hv,hc,hw⟩:=zds (hw k hk);unfold zry;rw[jg,hf.cellAt (k*2) (by omega),hf.cellAt (k*2+1) (by omega),hgt.1,hgt.2,hv];exact⟨rfl,A,c,rfl,hc,hw⟩
theorem OM.zu7 {w:World} {base:Nat} {m:Met} {vf ve vb:Value} {vs:List Value} (h:OM w base m vf ve vb vs) (hb:zn7 m):∃Af Ae Ab cf ce cb,vf=.slice Af m.Qp.length cf/\ve=.slice Ae m.ends.length ce/\vb=.slice Ab m.Qt.length cb/\KA w w.heap.size Af Ae Ab cf ce cb m:=by
  obtain⟨Af,cf,e1,h1,i1⟩:=zrh h.vl h.Qp h.Qs;obtain⟨Ae,ce,e2,h2,i2⟩:=zds h.ends;obtain⟨Ab,cb,e3,h3,i3⟩:=zqR h.Qt;exact⟨Af,Ae,Ab,cf,ce,cb,e1,e2,e3,i1,i2,i3,h1,h2,h3,hb⟩
theorem zpk {m:Met} (h:ub m=true):zn7 m:=by
  have hp:=zqD h;refine⟨by have:=hp.Qp;omega,λf hf=>?_,⟨by have:=hp.zuF;omega,λv hv=>?_⟩,by have:=hp.zuG;omega⟩
  · obtain⟨k,hk,he⟩:=jM.1 hf
    have hg:m.Qp.getD k default=f:=(by rw[qe,qC hk,he];rfl);have h1:=hp.own k hk;have h2:=hp.few k hk;have h3:=hp.Qs k hk;rw[hg] at h1 h2 h3;refine⟨by omega,by omega,λv hv=>?_⟩;obtain⟨j,hj,e2⟩:=jM.1 hv;have h4:=(h3 j hj).1;rw[qe,qC hj,e2] at h4;simp only[Option.getD_some] at h4;omega
  · obtain⟨j,hj,e2⟩:=jM.1 hv
    have h4:=(hp.ends j hj).1;rw[qe,qC hj,e2] at h4;simp only[Option.getD_some] at h4;omega
end Go.Proofs.YtgklikkddckgbaaGreatDoor
namespace Go.Proofs.YtgklikkddckgbaaGreatDoor.Mo
open Go.RowKit
theorem zoE:∀l:List (Value×Value×Value),(gv l).length=l.length*3
  |[]=>rfl
  |c::l=>by have:=zoE l;simp only[gv,qv,this];omega
theorem zoF:∀(l:List (Value×Value×Value)) (k:Nat),k<l.length->(gv l)[k*3]?=some (l.getD k default).1/\(gv l)[k*3+1]?=some (l.getD k default).2.1/\(gv l)[k*3+2]?=some (l.getD k default).2.2
  |[],k,hk=>by simp at hk
  |c::l,0,_=>by simp[gv]
  |c::l,k+1,hk=>by
   have ih:=zoF l k (by simpa using hk);rw[show(k+1)*3=k*3+3 by omega,show k*3+3+1=(k*3+1)+3 by omega,show k*3+3+2=(k*3+2)+3 by omega];simpa [gv] using ih
theorem JV.at {w:World} {B:Nat} {v:Value} {ms:List Met} {cs:List (Value×Value×Value)} (h:JV w B v ms cs) (hm:∀m∈ms,ub m=true):∃A c,v=.slice A ms.length c/\∀k,k<ms.length->∃g,A=some ⟨g,0,none⟩/\g<w.heap.size/\∃Af Ae Ab cf ce cb,
    w.cell? ⟨g,k*3,none⟩=some (.slice Af (ms.getD k u9).Qp.length cf)/\w.cell? ⟨g,k*3+1,none⟩=some (.slice Ae (ms.getD k u9).ends.length ce)/\w.cell? ⟨g,k*3+2,none⟩=some (.slice Ab (ms.getD k u9).Qt.length cb)/\KA w w.heap.size Af Ae Ab cf ce cb (ms.getD k u9)/\ub (ms.getD k u9)=true:=by
  have hlen:=zoE cs;rw[h.n] at hlen;rcases h.o.2 with⟨rfl,h0⟩|⟨g,cap,cur,rfl,_,hg,hcap,_⟩
  · rw[h0];exact⟨none,0,rfl,λk hk=>by omega⟩
  · refine⟨_,cap,rfl,λk hk=>⟨g,rfl,(qg hg).1,?_⟩⟩
    have hm1:ub (ms.getD k u9)=true:=hm _ (by rw[qe,qC hk];exact qM hk);obtain⟨_,vs,ho⟩:=h.m k hk;obtain⟨Af,Ae,Ab,cf,ce,cb,e1,e2,e3,hM⟩:=OM.zu7 ho (zpk hm1);have hget:=zoF cs k (by rw[h.n];exact hk);rw[e1,e2,e3] at hget;exact⟨Af,Ae,Ab,cf,ce,cb,(h.o.cellAt (k*3) (by omega)).trans hget.1,(h.o.cellAt (k*3+1) (by omega)).trans hget.2.1,(h.o.cellAt (k*3+2) (by omega)).trans hget.2.2,hM,hm1⟩
theorem zp4 {w:World} {B:Nat} {v:Value} {l:List UInt8} (h:w.ownsRow B 5 1 v l.length (JD l)):∃A c,v=.slice A l.length c/\l.length<=c/\∀k,k<l.length->∃g,A=some ⟨g,0,none⟩/\g<w.heap.size/\w.cell? ⟨g,k,none⟩=some (.int .u8 ((l.getD k 0).toNat:Int)):=by
  rcases h.2 with⟨rfl,h0⟩|⟨g,cap,cur,rfl,_,hg,hcap,_⟩
  · rw[h0];exact⟨none,0,rfl,ql _,λk hk=>by omega⟩
  · refine⟨_,cap,rfl,hcap,λk hk=>⟨g,rfl,(qg hg).1,?_⟩⟩
    rw[h.cellAt k (by omega)];simp[JD,List.getElem?_map,qe,qC hk]
structure KF (b:Nat) (w0:World) (l:List UInt8) (w:World):Prop where
  bb:BB b l w
  lo:Below b w0 w
theorem KF.below {b:Nat} {w0 w w':World} {l:List UInt8} (h:KF b w0 l w) (hb:Below w.heap.size w w'):KF b w0 l w':=⟨h.bb.below hb,h.lo.trans (hb.mono (zR h.bb.lt))⟩
theorem KF.step {b:Nat} {w0 w w':World} {l:List UInt8} (hb:Below w.heap.size w w') (h:KF b w0 l w):KF b w0 l w':=h.below hb
theorem KF.alloc {b:Nat} {w0 w:World} {l:List UInt8} (h:KF b w0 l w) (o:Obj):KF b w0 l (w.alloc o):=h.below ((qb _ _).alloc (ql _) o)
theorem KF.drew {b:Nat} {w0 w:World} {l:List UInt8} (h:KF b w0 l w):KF b w0 l w.drew:=h.below (qb _ _).drew
theorem KF.text {b:Nat} {w0 w:World} {l l':List UInt8} (h:KF b w0 l w) (e:l=l'):KF b w0 l' w:=e▸h
theorem KF.start (w:World):KF w.heap.size w [] (w.alloc (.cells #[.pointer none,.slice none 0 0] 120)):=
  ⟨Lib.IsBuilderF.of (Lib.fresh_isBuilder 120 5 w),(qb _ _).alloc (ql _) _⟩
theorem KF.write {b:Nat} {w0 w:World} {l:List UInt8} (h:KF b w0 l w) (S:ByteArray) (hl:l.length+S.size<=140737488355328):
    Calls Tryz.prog 48 #[.pointer (some ⟨b,0,none⟩),.string S] w λe w'=>e=.returned (.tuple #[.int .i64 S.size,.nilIface])/\KF b w0 (l++S.data.toList) w'/\Lib.OthersKept 5 (some b) w w'/\Below b w w':=
  (znD b l S w h.bb hl).mono λe w' ⟨he,h1,h2,h3⟩=>⟨he,⟨h1,h.lo.trans h2⟩,h3,h2⟩
theorem keepR {w w1 w2:World} {fb bx:Nat} {x5 x6 x7:Value} {row:Array Value} (ZK:fb<w.heap.size) (h:Below w.heap.size w w1/\w1.cell? ⟨fb,5,none⟩=some x5/\w1.cell? ⟨fb,6,none⟩=some x6/\w1.cell? ⟨fb,7,none⟩=some x7/\w1.heap[bx]?=some (.cells row 106 (0,0))) (hb:Below w1.heap.size w1 w2):
    Below w.heap.size w w2/\w2.cell? ⟨fb,5,none⟩=some x5/\w2.cell? ⟨fb,6,none⟩=some x6/\w2.cell? ⟨fb,7,none⟩=some x7/\w2.heap[bx]?=some (.cells row 106 (0,0)):=
  have hf:=qK ZK h.1.size
  ⟨h.1.trans (hb.mono h.1.size),(hb.cell (p:=⟨fb,5,none⟩) hf).trans h.2.1,(hb.cell (p:=⟨fb,6,none⟩) hf).trans h.2.2.1,(hb.cell (p:=⟨fb,7,none⟩) hf).trans h.2.2.2.1,(hb.block _ (qg h.2.2.2.2).1).trans h.2.2.2.2⟩
theorem putR {w w1 w2:World} {fb bx:Nat} {x5 x6 x7:Value} {row:Array Value} (ZK:fb<w.heap.size) (hbx:bx≠w.heap.size) (h:Below w.heap.size w w1/\w1.cell? ⟨fb,5,none⟩=some x5/\w1.cell? ⟨fb,6,none⟩=some x6/\w1.cell? ⟨fb,7,none⟩=some x7/\w1.heap[bx]?=some (.cells row 106 (0,0))) (hB:Below w.heap.size w1 w2) (hO:Lib.OthersKept 5 (some w.heap.size) w1 w2):
    Below w.heap.size w w2/\w2.cell? ⟨fb,5,none⟩=some x5/\w2.cell? ⟨fb,6,none⟩=some x6/\w2.cell? ⟨fb,7,none⟩=some x7/\w2.heap[bx]?=some (.cells row 106 (0,0)):=
  ⟨h.1.trans hB,(hB.cell (p:=⟨fb,5,none⟩) ZK).trans h.2.1,(hB.cell (p:=⟨fb,6,none⟩) ZK).trans h.2.2.1,(hB.cell (p:=⟨fb,7,none⟩) ZK).trans h.2.2.2.1,uD hO h.2.2.2.2 hbx (by decide)⟩
theorem zqS (W:World) (g k c:Nat) (b:UInt8) (h:W.cell? ⟨g,k,none⟩=some (.int .u8 (b.toNat:Int))):Sem.run Tryz.prog (convert 25 9 (.slice (some ⟨g,k,none⟩) 1 c)) W=.ok (.string ⟨#[b]⟩) W:=by
  refine xN _ _ _ _ ⟨g,k,none⟩ c [b] zG zz zn (λj hj=>?_);obtain rfl:j=0:=by simpa using hj
  exact h
theorem znc (B fb:Nat) (f:Fm) (vl vm vs:Value) (n0:Nat) (s:ByteArray) (w:World) (hv:Vars w) (h:Ze w B fb f vl vm vs) (hk:QQ f n0) (hn0:n0<=65536) (hn:NmF s f) (hs:s.size<=65536):
    Calls Tryz.prog 29 #[.pointer (some ⟨fb,0,none⟩)] w λe w'=>∃T:ByteArray,e=.returned (.string T)/\T.data.toList=uw f/\Below w.heap.size w w':=by
  have ZK:=h.lt;obtain⟨vis,ZR,hrw,hits⟩:=h.parts;obtain⟨cs,hcs⟩:=h.m;obtain⟨Am,cm,rfl,hat⟩:=hcs.at hn.met;obtain⟨Al,cl,rfl,hcl,hlet⟩:=zp4 h.l;obtain⟨Ar,cr,rfl⟩:=Zn hrw.o;have hx:=h.x;have Hfc:=qh λ(wx:World) (hb:Below w.heap.size w wx)=>((hb.block fb ZK).trans hx:wx.heap[fb]?=_);have HM:=qh hat;have HL:=qh hlet;have HR:=qh hrw;have HI:=qh hits;have HK:=qh hk;have Hvs:=qh λ(wx:World) (hb:Below w.heap.size w wx)=>Vars.below hv hb hv.six;have hnm:=hn.nm;have Hml:=qh (pU (Qo:=f.Qo) hn.met);have Hrl:=qh (pV hk);have Hll:=qh hk.ll;have Hle:=qh hk.le;obtain⟨nm,zuN⟩:∃nm:ByteArray,nm=⟨f.name.toArray⟩:=⟨_,rfl⟩;have VS:=qh (show nm.data.toList=f.name by rw[zuN]);have hnz:nm.size<=65536:=by rw[znI VS.out];omega
  have hb0:Below w.heap.size w (w.alloc (.cells #[.pointer none,.slice none 0 0] 120)):=(qb _ _).alloc (ql _) _;have x0:=Hfc.out _ hb0;unfold fmC at x0;rw[<-zuN] at x0;have c0:(w.alloc (.cells #[.pointer none,.slice none 0 0] 120)).cell? ⟨fb,0,none⟩=some (.string nm):=qc _ _ 0 _ _ (0,0) x0;have z1:¬(9223372036854775807<5+nm.size):=by omega
  have z2:¬(9223372036854775807<5+nm.size+1):=by omega
  have HP0:=qh (KF.start w);clear h hcs hat hlet hrw hits hk hx hv hn hb0 x0 zuN;go_enter Tryz.func29,Tryz.ntmps29;go_wp2_with fail;refine(KF.write HP0.out _ (by simp only[zN];show 0+(5+nm.size+1)<=_;omega)).mono ?_;rintro e w2 ⟨rfl,hP2,_,_⟩;have Xr:Hid (KF w.heap.size w (gz f) w2):=qh (hP2.text (by simp only[zM,zT,VS.out,zj,qF];rfl));have c2:w2.cell? ⟨fb,2,none⟩=some (.slice Am f.Qr.length cm):=qc _ _ 2 _ _ (0,0) (Hfc.out _ hP2.lo);have hml16:(ui f.Qo f.Qr f.Qr.length).length<=f.Qr.length*16010:=Hml.out _ (ql _);have hmet:f.Qr.length<=65536:=by have:=Hll.out;omega
  clear hP2 c0 z1 z2;go_wp2_with fail;clear c2;go_loopw [4,5,6,7,26] (λv4 v5 v6 v7 q wr=>∃k:Nat,k<=f.Qr.length/\q=.int .i64 k/\Hid (KF w.heap.size w (gz f++ui f.Qo f.Qr k) wr)) (λ_ _ _ _ q _=>f.Qr.length-(intOf q).toNat)
  case atStart=>exact⟨0,qQ _,rfl,qh (Xr.out.text (by simp[ui]))⟩
  case round=>
   obtain⟨wi,hwi⟩:∃W:World,W=wr:=⟨_,rfl⟩;subst hwi;obtain⟨k,hk,rfl,hP⟩:=hrel;by_cases hlt:k<f.Qr.length
   · obtain⟨g,rfl,hg,Af,Ae,Ab,cf,ce,cb,a0,a1,a2,hM,hmay⟩:=HM.out k hlt
     obtain⟨gl,rfl,hgl,hl0⟩:=HL.out k (by have:=Hll.out;omega);have r0:=(hP.out.lo.cell (p:=⟨g,k*3,none⟩) hg).trans a0;have r1:=(hP.out.lo.cell (p:=⟨g,k*3+1,none⟩) hg).trans a1;have r2:=(hP.out.lo.cell (p:=⟨g,k*3+2,none⟩) hg).trans a2;have hpl:=pt hmay;have hmk:=Hml.out k (by omega);have Htx:=qh (pq f.Qo f.Qr k);have hcl2:k+1<=cl:=(by have:=Hll.out;omega);clear a0 a1 a2;generalize f.Qr.getD k u9=m at*;generalize f.Qo.getD k 0=lb at*;have i1:(0:Int)<=(k:Int):=(by omega);have i2:(k:Int)<(f.Qr.length:Int):=(by omega);go_upto_region 8 with(fail)
     obtain⟨W5,Ki⟩:∃W5,wi.alloc (.cells #[.slice Af m.Qp.length cf,.slice Ae m.ends.length ce,.slice Ab m.Qt.length cb] 79)=W5:=⟨_,rfl⟩;rw[Ki];have hb5:Below wi.heap.size wi W5:=(by rw[<-Ki];exact(qb _ _).alloc (ql _) _);have hx5:W5.heap[wi.heap.size]?=some (.cells #[.slice Af m.Qp.length cf,.slice Ae m.ends.length ce,.slice Ab m.Qt.length cb] 79 (0,0)):=(by rw[<-Ki];exact qn wi _);have t0:W5.cell? ⟨wi.heap.size,0,none⟩=some (.slice Af m.Qp.length cf):=qc _ _ 0 _ _ (0,0) hx5;have t1:W5.cell? ⟨wi.heap.size,1,none⟩=some (.slice Ae m.ends.length ce):=qc _ _ 1 _ _ (0,0) hx5;have t2:W5.cell? ⟨wi.heap.size,2,none⟩=some (.slice Ab m.Qt.length cb):=qc _ _ 2 _ _ (0,0) hx5;have hP5:=hP.out.below hb5;have HP5:=qh hP5;obtain⟨Pb,hPb⟩:∃Pb:ByteArray,Pb=⟨(vX m).toArray⟩:=⟨_,rfl⟩;have HPb:=qh (show Pb.data.toList=vX m by rw[hPb]);have hPs:Pb.size<=16000:=(by rw[znI HPb.out];exact hpl);have hpr:=zpV Af Ae Ab cf ce cb m W5 (Hvs.out W5 hP5.lo) (hM.on hP5.lo) hmay;rw[<-hPb] at hpr;have HPr:=qh hpr;clear Ki hb5 hx5 hP5 hPb hpr r0 r1 r2 hM;go_wp2_with fail;refine HPr.out.mono ?_;rintro e w6 ⟨rfl,hb6⟩;have hP6:=HP5.out.below hb6;have c1:w6.cell? ⟨fb,1,none⟩=some (.slice (some ⟨gl,0,none⟩) f.Qo.length cl):=qc _ _ 1 _ _ (0,0) (Hfc.out _ hP6.lo);have hC:=zqS w6 gl k (cl-k) lb ((hP6.lo.cell (p:=⟨gl,k,none⟩) hgl).trans hl0);have HP6:=qh hP6;have z1:¬(9223372036854775807<8+Pb.size):=(by omega);have z2:¬(9223372036854775807<8+Pb.size+1):=(by omega);have i3:(k:Int)+1<=(cl:Int):=(by omega);have i4:(0:Int)<=(k:Int)+1:=(by omega);have i5:(k:Int)<=(k:Int)+1:=(by omega);clear hP6 hb6 HPr t0 t1 t2 hl0;go_wp2_with fail
     refine(KF.write HP6.out _ (by
       have:=Hml.out k (by omega);have htl:(gz f).length<=65600:=(by unfold gz;simp only[qk,K7,qv,qH];omega);simp only[zN,qk];show _+(6+1+1+Pb.size+1)<=_;omega)).mono ?_
     rintro e w7 ⟨rfl,hP7,_,_⟩
     have U7:Hid (KF w.heap.size w (gz f++ui f.Qo f.Qr (k+1)) w7):=qh (hP7.text (by
       rw[Htx.out];simp only[zM,zT,HPb.out,qF];rfl))
     clear hP7;go_wp2_with fail;go_roundw
     case rel=>exact⟨k+1,by omega,by go_num,U7⟩
     case measure=>simp[intOf];omega
   · obtain rfl:k=f.Qr.length:=by omega
     have c3:wi.cell? ⟨fb,3,none⟩=some (.slice Ar f.rows.length cr):=qc _ _ 3 _ _ (0,0) (Hfc.out _ hP.out.lo);go_wp2_with fail;have hrl:f.rows.length<=65536:=by have:=Hle.out;omega
     have hLl:(gz f++ui f.Qo f.Qr f.Qr.length).length<=2000000000:=by
       have htl:(gz f).length<=65600:=(by unfold gz;simp only[qk,K7,qv,qH];omega);rw[qk];omega
     generalize hL0:gz f++ui f.Qo f.Qr f.Qr.length=L0 at*;clear c3;go_loopw [9,11,57] (λv9 v11 q wr=>∃k:Nat,k<=f.rows.length/\q=.int .i64 k/\Hid (KF w.heap.size w (L0++ut f k) wr)) (λ_ _ q _=>f.rows.length-(intOf q).toNat)
     case atStart=>exact⟨0,qQ _,rfl,qh (hP.out.text (by simp[ut]))⟩
     case round=>
       obtain⟨wk,hwk⟩:∃W:World,W=wr:=⟨_,rfl⟩;subst hwk;obtain⟨k,hk,rfl,hPk⟩:=hrel;by_cases hlt2:k<f.rows.length
       · obtain⟨g,rfl,a0,a1⟩:=zom HR.out hlt2
         obtain⟨Ai,ci,Yf⟩:=HR.out.it k hlt2;have hik:=HI.out k hlt2;rw[Yf] at a1 hik;have hg:g<w.heap.size:=World.block_lt_of_cell? w _ a0;have r0:=(hPk.out.lo.cell (p:=⟨g,k*2,none⟩) hg).trans a0;have r1:=(hPk.out.lo.cell (p:=⟨g,k*2+1,none⟩) hg).trans a1;have hrm:f.rows.getD k ⟨false,[]⟩∈f.rows:=(by rw[qe,qC hlt2];exact qM hlt2);have Vh:=qh (HK.out.it _ hrm);have Htx:=qh (pr f k);have hrk:=Hrl.out k (by omega);have htk:=zej f.rows k hlt2;have htl:=zlk f.rows (k+1);have Hhd:=qh (znK HK.out);clear a0 a1 Yf hrm
         have zrG:Hid ((L0++ut f k).length<=3000000000/\(f.rows.getD k ⟨false,[]⟩).items.length<=65536):=qh (by
           have:=Hle.out;rw[qk];omega)
         clear hrk htk htl;generalize f.rows.getD k ⟨false,[]⟩=r at*;obtain⟨rd,its⟩:=r;simp only[] at r0 r1 hik Vh Htx zrG;have hils:=zrG.out.2;have i1:(0:Int)<=(k:Int):=(by omega);have i2:(k:Int)<(f.rows.length:Int):=(by omega);go_upto_region 14 with(fail)
         obtain⟨W5,Ki⟩:∃W5,wk.alloc (.cells #[.bool rd,.slice Ai its.length ci] 106)=W5:=⟨_,rfl⟩;rw[Ki];have hx5:W5.heap[wk.heap.size]?=some (.cells #[.bool rd,.slice Ai its.length ci] 106 (0,0)):=(by rw[<-Ki];exact qn wk _);have t0:W5.cell? ⟨wk.heap.size,0,none⟩=some (.bool rd):=qc _ _ 0 _ _ (0,0) hx5;have hbx:wk.heap.size≠w.heap.size:=(by have:=hPk.out.bb.lt;omega);have HP5:Hid (KF w.heap.size w (L0++ut f k) W5):=qh (by rw[<-Ki];exact hPk.out.alloc _);have Hx5:=qh hx5;clear Ki hx5 r0 r1;generalize hBX:wk.heap.size=bx at*;clear hBX;go_upto_if 62 with(fail)
         go_cut [] from 62 to 84 (λwx=>Hid (KF w.heap.size w (L0++ut f k++uL f rd) wx)/\Hid (wx.heap[bx]?=some (.cells #[.bool rd,.slice Ai its.length ci] 106 (0,0))))
         case first=>
           have x5:=Hfc.out _ HP5.out.lo;unfold fmC at x5;cases rd with
           |true=>
            have H5:Hid (∀W,Below w.heap.size w W->Calls Tryz.prog 50 #[.int .i64 f.least] W λe w'=>∃T:ByteArray,e=.returned (.string T)/\T.data.toList=Lib.itoa f.least/\T.size<=21/\Below W.heap.size W w'):=qh (λW hb=>uO f.least W (Hvs.out W hb) (by have:=HK.out.l0;omega) (by have:=HK.out.l0;omega));have H6:Hid (∀W,Below w.heap.size w W->Calls Tryz.prog 50 #[.int .i64 f.most] W λe w'=>∃T:ByteArray,e=.returned (.string T)/\T.data.toList=Lib.itoa f.most/\T.size<=21/\Below W.heap.size W w'):=qh (λW hb=>uO f.most W (Hvs.out W hb) (by have:=HK.out.m0;omega) (by have:=HK.out.m0;omega));have H7:Hid (∀W,Below w.heap.size w W->Calls Tryz.prog 50 #[.int .i64 f.shift] W λe w'=>∃T:ByteArray,e=.returned (.string T)/\T.data.toList=Lib.itoa f.shift/\T.size<=21/\Below W.heap.size W w'):=qh (λW hb=>uO f.shift W (Hvs.out W hb) (by have:=HK.out.s0;omega) (by have:=HK.out.s0;omega));have c5:W5.drew.cell? ⟨fb,5,none⟩=some (.int .i64 f.least):=qc W5 _ 5 _ _ (0,0) x5;have c6:W5.drew.cell? ⟨fb,6,none⟩=some (.int .i64 f.most):=qc W5 _ 6 _ _ (0,0) x5;have c7:W5.drew.cell? ⟨fb,7,none⟩=some (.int .i64 f.shift):=qc W5 _ 7 _ _ (0,0) x5;have HS0:=qh (show Below w.heap.size w W5.drew/\W5.drew.cell? ⟨fb,5,none⟩=some (.int .i64 f.least)/\W5.drew.cell? ⟨fb,6,none⟩=some (.int .i64 f.most)/\W5.drew.cell? ⟨fb,7,none⟩=some (.int .i64 f.shift)/\W5.drew.heap[bx]?=some (.cells #[.bool true,.slice Ai its.length ci] 106 (0,0)) from⟨HP5.out.drew.lo,c5,c6,c7,Hx5.out⟩);have Hhx:Hid (uL f true=JF++(Lib.itoa f.least++([32]++(Lib.itoa f.most++([32]++Lib.itoa f.shift))))):=qh rfl;clear x5 c5 c6 c7;generalize f.least=e5 at*;generalize f.most=e6 at*;generalize f.shift=e7 at*;go_wp2_with fail;go_region_held3 (λw'=>Below w.heap.size w w'/\w'.cell? ⟨fb,5,none⟩=some (.int .i64 e5)/\w'.cell? ⟨fb,6,none⟩=some (.int .i64 e6)/\w'.cell? ⟨fb,7,none⟩=some (.int .i64 e7)/\w'.heap[bx]?=some (.cells #[.bool true,.slice Ai its.length ci] 106 (0,0))) ((first|exact HS0.out|exact putR (by assumption) (by assumption) (by assumption) (by assumption) (by assumption)|exact keepR (by assumption) (by assumption) (by assumption))) ((first|(go_at_call 50;with_reducible refine(H5.out _ (by first|exact HS0.out.1|exact zL (by assumption))).mono ?_;rintro e w9 ⟨Ta,rfl,hTa,zsv,QG⟩;have HTa:=qh (zm hTa zsv);have za:¬(9223372036854775807<6+Ta.size):=(by omega);have zb:¬(9223372036854775807<6+Ta.size+1):=(by omega);clear hTa zsv)|(go_at_call 50;with_reducible refine(H6.out _ (by first|exact HS0.out.1|exact zL (by assumption))).mono ?_;rintro e w9 ⟨Tb,rfl,hTb,zsw,QG⟩;have HTb:=qh (zm hTb zsw);have zc:¬(9223372036854775807<6+Ta.size+1+Tb.size):=(by have:=HTa.out.2;omega);have zd:¬(9223372036854775807<6+Ta.size+1+Tb.size+1):=(by have:=HTa.out.2;omega);clear hTb zsw)|(go_at_call 50;with_reducible refine(H7.out _ (by first|exact HS0.out.1|exact zL (by assumption))).mono ?_;rintro e w9 ⟨Tc,rfl,hTc,zsx,QG⟩;have HTc:=qh (zm hTc zsx);have ze:¬(9223372036854775807<6+Ta.size+1+Tb.size+1+Tc.size):=(by have:=HTa.out.2;have:=HTb.out.2;omega);clear hTc zsx)|(go_at_call 48;refine(KF.write (b:=w.heap.size) (w0:=w) (l:=L0++ut f k) (by(repeat (apply KF.step;assumption));exact HP5.out.drew) _ (by simp only[zN];have:=zrG.out.1;have:=HTa.out.2;have:=HTb.out.2;have:=HTc.out.2;show _+(6+_+1+_+1+_)<=_;omega)).mono ?_;rintro e w9 ⟨rfl,hP9,hO9,hB9⟩)))
            have HS9:=qh (show w9.heap[bx]?=some (.cells #[.bool true,.slice Ai its.length ci] 106 (0,0)) from(show Below w.heap.size w w9/\w9.cell? ⟨fb,5,none⟩=some (.int .i64 e5)/\w9.cell? ⟨fb,6,none⟩=some (.int .i64 e6)/\w9.cell? ⟨fb,7,none⟩=some (.int .i64 e7)/\w9.heap[bx]?=some (.cells #[.bool true,.slice Ai its.length ci] 106 (0,0)) by assumption).2.2.2.2);have HP9:Hid (KF w.heap.size w (L0++ut f k++uL f true) w9):=qh (hP9.text (by rw[Hhx.out];simp only[zM,zT,HTa.out.1,HTb.out.1,HTc.out.1,qF];rfl));clear hP9;go_wp2_with fail;go_meet
            exact⟨HP9,HS9⟩
           |false=>
            clear x5;go_wp2_with fail;refine(KF.write HP5.out _ (by have:=zrG.out.1;show _+6<=_;omega)).mono ?_;rintro e w9 ⟨rfl,hP9,hO9,hB9⟩;have HS9:=qh (uD hO9 Hx5.out hbx (by decide));have HP9:Hid (KF w.heap.size w (L0++ut f k++uL f false) w9):=qh (hP9.text rfl);clear hP9 hO9 hB9;go_wp2_with fail;go_meet
            exact⟨HP9,HS9⟩
         case rest=>
         obtain⟨hPc,hxc⟩:=hcut;obtain⟨wB,hwB⟩:∃W:World,W=wc:=⟨_,rfl⟩;subst hwB;have t1:wB.cell? ⟨bx,1,none⟩=some (.slice Ai its.length ci):=qc _ _ 1 _ _ (0,0) hxc.out;have Hhd2:=qh (Hhd.out rd);have HIK:=qh hik;have Hil:=qh (zna (Qo:=f.Qo) Vh.out);clear t0 hik;go_wp2_with fail;clear t1;go_loopw [11,88] (λv11 q wr=>∃j:Nat,j<=its.length/\q=.int .i64 j/\Hid (KF w.heap.size w (L0++ut f k++uL f rd++Qn f.Qo its j) wr)) (λ_ q _=>its.length-(intOf q).toNat)
         case atStart=>exact⟨0,qQ _,rfl,qh (hPc.out.text (by simp[Qn]))⟩
         case round=>
           obtain⟨wj,hwj⟩:∃W:World,W=wr:=⟨_,rfl⟩;subst hwj;obtain⟨j,hj,rfl,GL⟩:=hrel;by_cases hlt3:j<its.length
           · obtain⟨g2,rfl,hcell⟩:=znx HIK.out hlt3
             have hown:=HIK.out.h j hlt3;have hxm:its.getD j Q7∈its:=(by rw[qe,qC hlt3];exact qM hlt3);have VZ:=Vh.out _ hxm;obtain⟨Ah,ch,hvh⟩:=Zn hown;rw[hvh] at hown hcell;have Htj:=qh (pT f.Qo its j);have hjl:=Hil.out j (by omega);clear hxm hvh;generalize its.getD j Q7=x at*;have hg2:g2<w.heap.size:=World.block_lt_of_cell? w ⟨g2,j*13,none⟩ (show w.cell? ⟨g2,j*13,none⟩=some (.int .i64 x.cls) from hcell 0 (by decide));have r0:=(GL.out.lo.cell (p:=⟨g2,j*13,none⟩) hg2).trans (show w.cell? ⟨g2,j*13,none⟩=some (.int .i64 x.cls) from hcell 0 (by decide));have r1:=(GL.out.lo.cell (p:=⟨g2,j*13+1,none⟩) hg2).trans (show w.cell? ⟨g2,j*13+1,none⟩=some (.int .i64 x.ref) from hcell 1 (by decide));have r2:=(GL.out.lo.cell (p:=⟨g2,j*13+2,none⟩) hg2).trans (show w.cell? ⟨g2,j*13+2,none⟩=some (.int .i64 (Zo f.Qo x.Qq)) from hcell 2 (by decide));have r3:=(GL.out.lo.cell (p:=⟨g2,j*13+3,none⟩) hg2).trans (show w.cell? ⟨g2,j*13+3,none⟩=some (.int .u8 (Qy x.Qq 58)) from hcell 3 (by decide));have r4:=(GL.out.lo.cell (p:=⟨g2,j*13+4,none⟩) hg2).trans (show w.cell? ⟨g2,j*13+4,none⟩=some (.int .i64 (Qy x.Qq 47)) from hcell 4 (by decide));have r5:=(GL.out.lo.cell (p:=⟨g2,j*13+5,none⟩) hg2).trans (show w.cell? ⟨g2,j*13+5,none⟩=some (.int .i64 (Qy x.Qq 94)) from hcell 5 (by decide));have r6:=(GL.out.lo.cell (p:=⟨g2,j*13+6,none⟩) hg2).trans (show w.cell? ⟨g2,j*13+6,none⟩=some (.int .i64 (Qy x.Qq 64)) from hcell 6 (by decide));have r7:=(GL.out.lo.cell (p:=⟨g2,j*13+7,none⟩) hg2).trans (show w.cell? ⟨g2,j*13+7,none⟩=some (.slice Ah (QH x.Qq).length ch) from hcell 7 (by decide));have r8:=(GL.out.lo.cell (p:=⟨g2,j*13+8,none⟩) hg2).trans (show w.cell? ⟨g2,j*13+8,none⟩=some (.int .i32 (Qy x.Qq 39)) from hcell 8 (by decide));have r9:=(GL.out.lo.cell (p:=⟨g2,j*13+9,none⟩) hg2).trans (show w.cell? ⟨g2,j*13+9,none⟩=some (.int .i64 x.at_) from hcell 9 (by decide));have r10:=(GL.out.lo.cell (p:=⟨g2,j*13+10,none⟩) hg2).trans (show w.cell? ⟨g2,j*13+10,none⟩=some (.int .i64 (Zt x.Qq)) from hcell 10 (by decide));have r11:=(GL.out.lo.cell (p:=⟨g2,j*13+11,none⟩) hg2).trans (show w.cell? ⟨g2,j*13+11,none⟩=some (.bool (QU x.Qq 58)) from hcell 11 (by decide));have r12:=(GL.out.lo.cell (p:=⟨g2,j*13+12,none⟩) hg2).trans (show w.cell? ⟨g2,j*13+12,none⟩=some (.bool (QU x.Qq 47)) from hcell 12 (by decide));have i3:(0:Int)<=(j:Int):=(by omega);have i4:(j:Int)<(its.length:Int):=(by omega);clear hcell;go_upto_region 20 with(fail)
             obtain⟨W6,Vx⟩:∃W6,wj.alloc (.cells #[.int .i64 x.cls,.int .i64 x.ref,.int .i64 (Zo f.Qo x.Qq),.int .u8 (Qy x.Qq 58),.int .i64 (Qy x.Qq 47),.int .i64 (Qy x.Qq 94),.int .i64 (Qy x.Qq 64),.slice Ah (QH x.Qq).length ch,.int .i32 (Qy x.Qq 39),.int .i64 x.at_,.int .i64 (Zt x.Qq),.bool (QU x.Qq 58),.bool (QU x.Qq 47)] 108)=W6:=⟨_,rfl⟩;rw[Vx];have hx6:W6.heap[wj.heap.size]?=some (.cells #[.int .i64 x.cls,.int .i64 x.ref,.int .i64 (Zo f.Qo x.Qq),.int .u8 (Qy x.Qq 58),.int .i64 (Qy x.Qq 47),.int .i64 (Qy x.Qq 94),.int .i64 (Qy x.Qq 64),.slice Ah (QH x.Qq).length ch,.int .i32 (Qy x.Qq 39),.int .i64 x.at_,.int .i64 (Zt x.Qq),.bool (QU x.Qq 58),.bool (QU x.Qq 47)] 108 (0,0)):=(by rw[<-Vx];exact qn wj _);have t0:W6.cell? ⟨wj.heap.size,0,none⟩=some (.int .i64 x.cls):=qc _ _ 0 _ _ (0,0) hx6;have t1:W6.cell? ⟨wj.heap.size,1,none⟩=some (.int .i64 x.ref):=qc _ _ 1 _ _ (0,0) hx6;have t2:W6.cell? ⟨wj.heap.size,2,none⟩=some (.int .i64 (Zo f.Qo x.Qq)):=qc _ _ 2 _ _ (0,0) hx6;have t3:W6.cell? ⟨wj.heap.size,3,none⟩=some (.int .u8 (Qy x.Qq 58)):=qc _ _ 3 _ _ (0,0) hx6;have t4:W6.cell? ⟨wj.heap.size,4,none⟩=some (.int .i64 (Qy x.Qq 47)):=qc _ _ 4 _ _ (0,0) hx6;have t5:W6.cell? ⟨wj.heap.size,5,none⟩=some (.int .i64 (Qy x.Qq 94)):=qc _ _ 5 _ _ (0,0) hx6;have t6:W6.cell? ⟨wj.heap.size,6,none⟩=some (.int .i64 (Qy x.Qq 64)):=qc _ _ 6 _ _ (0,0) hx6;have t7:W6.cell? ⟨wj.heap.size,7,none⟩=some (.slice Ah (QH x.Qq).length ch):=qc _ _ 7 _ _ (0,0) hx6;have t8:W6.cell? ⟨wj.heap.size,8,none⟩=some (.int .i32 (Qy x.Qq 39)):=qc _ _ 8 _ _ (0,0) hx6;have t9:W6.cell? ⟨wj.heap.size,9,none⟩=some (.int .i64 x.at_):=qc _ _ 9 _ _ (0,0) hx6;have t10:W6.cell? ⟨wj.heap.size,10,none⟩=some (.int .i64 (Zt x.Qq)):=qc _ _ 10 _ _ (0,0) hx6;have t11:W6.cell? ⟨wj.heap.size,11,none⟩=some (.bool (QU x.Qq 58)):=qc _ _ 11 _ _ (0,0) hx6;have t12:W6.cell? ⟨wj.heap.size,12,none⟩=some (.bool (QU x.Qq 47)):=qc _ _ 12 _ _ (0,0) hx6;have hP6:KF w.heap.size w (L0++ut f k++uL f rd++Qn f.Qo its j) W6:=(by rw[<-Vx];exact GL.out.alloc _);have HP6:=qh hP6;have Hjl:=qh hjl;have hit:=zpZ f.Qo x B (.slice Ah (QH x.Qq).length ch) W6 (Hvs.out W6 hP6.lo) VZ ((hown.kept (Vn (hP6.lo) none) VO));unfold ZE at hit;have HIT:=qh hit;have Hxl:=qh (znJ (Qo:=f.Qo) VZ);clear Vx hx6 hP6 hit hown VZ hjl r0 r1 r2 r3 r4 r5 r6 r7 r8 r9 r10 r11 r12;go_wp2_with fail;refine HIT.out.mono ?_;rintro e w7 ⟨T,rfl,hT,KD⟩;have hTs:T.size<=200:=(by rw[znI hT];exact Hxl.out);have z1:¬(9223372036854775807<1+T.size):=(by omega);have HT:=qh hT;have U7:=qh (HP6.out.below KD);clear hT KD t0 t1 t2 t3 t4 t5 t6 t7 t8 t9 t10 t11 t12;go_wp2_with fail
             refine(KF.write U7.out _ (by
               have:=Hjl.out;have:=Hhd2.out;have:=zrG.out.1;simp only[qk] at*;simp only[zN];show _+(1+T.size)<=_;omega)).mono ?_
             rintro e w8 ⟨rfl,hP8,_,_⟩
             have HP8:Hid (KF w.heap.size w (L0++ut f k++uL f rd++Qn f.Qo its (j+1)) w8):=qh (hP8.text (by
               rw[Htj.out];simp only[zM,zT,HT.out,qF];rfl))
             clear hP8;go_wp2_with fail;go_roundw
             case rel=>exact⟨j+1,by omega,by go_num,HP8⟩
             case measure=>simp[intOf];omega
           · obtain rfl:j=its.length:=by omega
             go_wp2_with fail
             refine(KF.write GL.out _ (by
               have:=Hil.out its.length (ql _);have:=Hhd2.out;have:=zrG.out.1;simp only[qk] at*;show _+1<=_;omega)).mono ?_
             rintro e w8 ⟨rfl,hP8,_,_⟩
             have HP8:Hid (KF w.heap.size w (L0++ut f (k+1)) w8):=qh (hP8.text (by
               rw[Htx.out];unfold uE;simp only[qF]))
             clear hP8;go_wp2_with fail;go_roundw
             case rel=>exact⟨k+1,by omega,by go_num,HP8⟩
             case measure=>simp[intOf];omega
       · obtain rfl:k=f.rows.length:=by omega
         have zuI:=qh (Tryz.Builder_String_any_k w.heap.size w.heap.size _ wk hPk.out.bb (zR hPk.out.bb.lt));have Hlo:=qh hPk.out.lo;clear hPk;go_wp2_with fail;refine zuI.out.mono ?_;rintro e w9 ⟨rfl,hx1,hx2,hx3⟩;have Gc:=qh hx2;clear hx1 hx2 hx3;go_wp2_with fail;go_ret;exact⟨_,rfl,by simp only[];rw[<-hL0];unfold uw;simp[qF],Hlo.out.trans Gc.out⟩
theorem zrD (s:ByteArray) (w:World) (hv:Vars w) (hm:zs9 w) (hs:s.size<=4611686018427387904):
    Calls Tryz.prog 10 #[.string s] w λe w'=>e=.returned (.bool true)/\Below w.heap.size w w':=by
  have Hw:=qh (zmA w hv hm);have Hv:=qh hv;have h9:=hv.six;have Hl:=qh (λW=>zmC s W hs);clear hv hm;by_cases hlong:8000<s.size
  · have d1:decide (8000<s.size)=true:=qt hlong
    rw[d1] at Hl;clear d1;go_enter Tryz.func10,Tryz.ntmps10;go_wp2_with fail;refine Hw.out.mono ?_;rintro e w2 ⟨rfl,hb2⟩;have Hb2:=qh hb2;clear hb2;go_wp2_with fail;refine(Hl.out _).mono ?_;rintro e w3 ⟨rfl,rfl⟩;go_wp2_with fail;go_ret;exact⟨rfl,Hb2.out⟩
  have d1:decide (8000<s.size)=false:=qd hlong;rw[d1] at Hl;clear d1;go_enter Tryz.func10,Tryz.ntmps10;go_wp2_with fail;refine Hw.out.mono ?_;rintro e w2 ⟨rfl,hb2⟩;have Hb2:=qh hb2;have Hrd:=qh (zmB s w2 (Vars.below Hv.out hb2 h9) hs);clear hb2;go_wp2_with fail;refine(Hl.out _).mono ?_;rintro e w3 ⟨rfl,rfl⟩;go_wp2_with fail;refine Hrd.out.mono ?_;rintro e w4 ⟨hb4,hr4⟩;have Hb4:Hid (Below w.heap.size w w4):=qh (Hb2.out.trans (hb4.mono Hb2.out.size));clear hb4;cases hf:JG s with
  |error cp=>
   rw[hf] at hr4;subst hr4;have hagg:RF0.agg=.agg #[.string ⟨#[]⟩,.slice none 0 0,.slice none 0 0,.slice none 0 0,.bool false,.int .i64 0,.int .i64 0,.int .i64 0]:=rfl;rw[hagg];have Qu:Hid (∀o,Below w.heap.size w (w4.alloc o)):=qh (λo=>Hb4.out.alloc Hb4.out.size o);clear hf hagg;go_wp2_with fail;go_ret;exact⟨rfl,Qu.out _⟩
  |ok f=>
   have Hgd:=qh (zpt hf);have VS:=qh (zoC hf);rw[hf] at hr4;obtain⟨fb,vl,vm,vs,F,rfl,UZ,hk4,hf4⟩:=hr4;obtain⟨Al,cl,hvl⟩:=Zn hf4.l;obtain⟨cs,hcs⟩:=hf4.m;obtain⟨Am,cm,UD⟩:=Zn hcs.o;obtain⟨Ar,cr,K2⟩:=hf4.len;have hagg:RF.agg F=.agg #[.string ⟨f.name.toArray⟩,.slice Al f.Qo.length cl,.slice Am f.Qr.length cm,.slice Ar f.rows.length cr,.bool F.rd,.int .i64 f.least,.int .i64 f.most,.int .i64 f.shift]:=(by unfold RF.agg;rw[hf4.nm,hvl,UD,K2,hf4.a,hf4.b,hf4.c]);rw[hagg];obtain⟨W5,Ki⟩:∃W5,w4.alloc (.cells #[.string ⟨f.name.toArray⟩,.slice Al f.Qo.length cl,.slice Am f.Qr.length cm,.slice Ar f.rows.length cr,.bool F.rd,.int .i64 f.least,.int .i64 f.most,.int .i64 f.shift] 29)=W5:=⟨_,rfl⟩;have hb5:Below w4.heap.size w4 W5:=(by rw[<-Ki];exact(qb _ _).alloc (ql _) _);have hx5:W5.heap[w4.heap.size]?=some (.cells #[.string ⟨f.name.toArray⟩,.slice Al f.Qo.length cl,.slice Am f.Qr.length cm,.slice Ar f.rows.length cr,.bool F.rd,.int .i64 f.least,.int .i64 f.most,.int .i64 f.shift] 29 (0,0)):=(by rw[<-Ki];exact qn w4 _);have zuO:s.size<=65536:=(by omega);have Hk:=qh hk4;have HW5:=qh Ki;have Hx5:=qh hx5;have Hb5:=qh (uZ Hb4.out hb5);have HF5:=qh (UZ.below hb5);have Hpr:=qh (znc w2.heap.size fb f vl vm vs s.size s W5 (Vars.below Hv.out Hb5.out h9) (UZ.below hb5) hk4 zuO VS.out.1 zuO);clear hf hagg UZ hk4 hf4 hcs hvl UD K2 Ki hb5 hx5;go_wp2_with fail;rw[HW5.out];refine Hpr.out.mono ?_;rintro e w6 ⟨T,rfl,hT,hb6⟩;have Gp:=qh (uZ Hb5.out hb6);have HF6:=qh (HF5.out.below hb6);have Hx6:=qh (zmY Hx5.out hb6);have HT:=qh hT
   have hTz:T.size<=4611686018427387904:=by
     have h1:=znI hT;have h2:=pV Hk.out f.rows.length (ql _);have h3:=pU (Qo:=f.Qo) VS.out.1.met f.Qr.length (ql _);have h4:=VS.out.1.nm;have h5:=Hk.out.le;have h6:=Hk.out.ll;rw[qR] at h2;unfold uw gz at h1;simp only[qk,K7,qv,qH] at h1;omega
   clear hT hb6;by_cases hbig:65536<T.size
   · have d2:decide ((T.size:Int)>65536)=true:=qt (by omega)
     go_wp2_with fail;go_ret;exact⟨rfl,Gp.out⟩
   have d2:decide ((T.size:Int)>65536)=false:=qd (by omega);obtain⟨f',hf',hE⟩:=zqg Hgd.out.1 Hgd.out.2 HT.out (by omega);have Hfm:=qh (zf7 T w6 (Vars.below Hv.out Gp.out h9) hTz);have HE:=qh hE;have Hf':=qh hf';clear hE hf';go_wp2_with fail;refine Hfm.out.mono ?_;rintro e w7 ⟨KD,JJ⟩;rw[Hf'.out] at JJ;obtain⟨gb,ul,um,us,rfl,hm7,hk7⟩:=JJ;obtain⟨W8,hW8⟩:∃W8,w7.alloc (.cells #[.int .i64 0,.int .i64 0] 87)=W8:=⟨_,rfl⟩;have KJ:Below w7.heap.size w7 W8:=(by rw[<-hW8];exact(qb _ _).alloc (ql _) _);have UY:W8.heap[w7.heap.size]?=some (.cells #[.int .i64 0,.int .i64 0] 87 (0,0)):=(by rw[<-hW8];exact qn w7 _);have e8:W8.cell? ⟨w7.heap.size,0,none⟩=some (.int .i64 0):=qc _ _ 0 _ _ (0,0) UY;have HW8:=qh hW8;have Hb8:=qh (uZ (uZ Gp.out KD) KJ);have U1:=qh ((HF6.out.below KD).below KJ);have HG8:=qh (hm7.below KJ);have Hx8:=qh (zmY (zmY Hx6.out KD) KJ);have Hk7:=qh hk7;have Hnm7:=qh (zoC Hf'.out);have Hpr2:=qh (znc w6.heap.size gb f' ul um us T.size T W8 (Vars.below Hv.out Hb8.out h9) HG8.out hk7 (by omega) Hnm7.out.1 (by omega));clear KD KJ UY hm7 hk7 hW8;go_wp2_with fail;rw[HW8.out];refine Hpr2.out.mono ?_;rintro e w9 ⟨T2,rfl,hT2,QG⟩;have hTT:T2=T:=(by apply jC;apply yT.1;rw[hT2,HT.out,zpu HE.out]);rw[hTT];have hq1:(T.toList !=T.toList)=false:=(by simp);have hq2:(T.toList==T.toList)=true:=(by simp);have Gc:=qh (uZ Hb8.out QG);have HF9:=qh (U1.out.below QG);have HG9:=qh (HG8.out.below QG);have Hx9:=qh (zmY Hx8.out QG);have l0:=Hk.out.l0;have m0:=Hk.out.m0;have lm:=Hk.out.lm;have c5:w9.cell? ⟨w4.heap.size,5,none⟩=some (.int .i64 f.least):=qc _ _ 5 _ _ (0,0) Hx9.out;clear hT2 hTT e8 QG;go_wp2_with fail;clear c5;obtain⟨N0,hN0⟩:∃N0:Nat,f.least=(N0:Int):=⟨f.least.toNat,by omega⟩;have HN0:=qh hN0;go_loopw [10,11,12,13,14] (λt10 t11 t12 t13 t14 wr=>∃N:Nat,t10=.int .i64 N/\Hid (f.least<=N)/\Hid ((N:Int)<=f.most+1)/\Hid (Below w9.heap.size w9 wr)) (λt10 _ _ _ _ _=>(f.most+1).toNat-(intOf t10).toNat)
   case atStart=>exact⟨N0,by rw[hN0],qh (by omega),qh (by omega),qh (qb _ _)⟩
   case round=>
     obtain⟨wi,hwi⟩:∃W:World,W=wr:=⟨_,rfl⟩;subst hwi;obtain⟨N,rfl,hlo,hhi,hbi⟩:=hrel;clear hN0;have hxi:=zmY Hx9.out hbi.out;have c5:wi.cell? ⟨w4.heap.size,5,none⟩=some (.int .i64 f.least):=qc _ _ 5 _ _ (0,0) hxi;have c6:wi.cell? ⟨w4.heap.size,6,none⟩=some (.int .i64 f.most):=qc _ _ 6 _ _ (0,0) hxi;have hwr:IntKind.i64.wrap (f.least+5)=f.least+5:=qi _ (by omega);clear hxi;by_cases h1:(N:Int)<=f.most
     · have g1:decide ((N:Int)<=f.most)=true:=qt h1
       by_cases h2:(N:Int)<f.least+5
       · have g2:decide ((N:Int)<f.least+5)=true:=qt h2
         have HL1:=qh (zmX w2.heap.size fb f vl vm vs N s.size wi (HF9.out.below hbi.out) Hk.out zuO hlo.out h1);go_wp2_with fail;refine HL1.out.mono ?_;rintro e KY ⟨Zd,v1,x1,rfl,hen1,hd1⟩;obtain⟨A1,k1,rfl⟩:=Zn hd1.o;have HL2:=qh (zmX w6.heap.size gb f' ul um us N T.size KY ((HG9.out.below hbi.out).below Zd) Hk7.out (by omega) (by rw[HE.out.least];exact hlo.out) (by rw[HE.out.most];exact h1));have Ur:=qh (hbi.out.trans (Zd.mono hbi.out.size));have HD1:=qh (zm hen1 hd1);clear Zd hen1 hd1 c5 c6 g1 g2 hwr;go_wp2_with fail;refine HL2.out.mono ?_;rintro e Xg ⟨Zy,v2,x2,rfl,Uv,hd2⟩;obtain⟨A2,k2,rfl⟩:=Zn hd2.o;have hds:=zoi HE.out (N:Int);have hl1:=HD1.out.1.len;have hl2:=Uv.len;rw[hds] at hl2;have zuP:J9 Xg wi.heap.size (.slice A1 x1.length k1) x1:=⟨HD1.out.2.o.kept (Vn Zy none) VO,λx hx=>⟨(HD1.out.2.h x hx).1.kept (Vn Zy none) VO,(HD1.out.2.h x hx).2⟩⟩
         have hbd:((vH f N).length:Int)<=33554432:=by
           rw[gI f N (by omega)];have h:=zhp f.rows N (by omega) (by omega) f.rows.length (ql _);rw[qR] at h;have:=Hk.out.le;omega
         rw[hl1] at zuP|-;rw[hl2] at hd2|-;have HA:=qh (zpO _ _ _ _ _ _ _ _ _ _ _ zuP hd2 HD1.out.1.1 (Uv.1.trans hds) rfl (by omega));have Gq:=qh (Ur.out.trans (Zy.mono Ur.out.size));clear zuP hd2 Uv hl1 hl2 hds Zy hbd;generalize (vH f ↑N).length=nn at*;go_wp2_with fail;refine HA.out.mono ?_;rintro e Jo ⟨rfl,Jh⟩;have XM:=qh (Gq.out.trans (Jh.mono Gq.out.size));clear Jh;go_wp2_with fail;go_roundw
         case rel=>exact⟨N+1,by go_num,qh (by have:=hlo.out;push_cast;omega),qh (by push_cast;omega),XM⟩
         case measure=>simp[intOf];omega
       · have g2:decide ((N:Int)<f.least+5)=false:=qd h2
         go_wp2_with fail;go_ret;exact⟨rfl,uZ Gc.out hbi.out⟩
     · have g1:decide ((N:Int)<=f.most)=false:=qd h1
       go_wp2_with fail;go_ret;exact⟨rfl,uZ Gc.out hbi.out⟩
end Go.Proofs.YtgklikkddckgbaaGreatDoor.Mo


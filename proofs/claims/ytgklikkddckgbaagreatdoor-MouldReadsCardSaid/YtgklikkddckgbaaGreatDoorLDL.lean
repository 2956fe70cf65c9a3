import Derived.Test.YtgklikkddckgbaaGreatDoorLDK
/- Lemmas. -/
set_option linter.all false
set_option maxRecDepth 100000
set_option maxHeartbeats 4000000
namespace Go.Proofs.YtgklikkddckgbaaGreatDoor.Mo
open Go.RowKit
def xrC (cls ref:Int) (v:Value) (a:Nat):Array Value:=#[.int .i64 cls,.int .i64 ref,v,.int .i64 a]
def zj0 (B rb xb:Nat) (s:ByteArray) (F:RF) (cls ref:Int) (a:Nat) (v:Value) (ms:List Mk) (w:World) (r:Except (Int×Nat) (Mk×Nat)) (w':World):Prop:=Off (rb::xb::v.ownBlock.toList) w w'/\
 match r with
 |.ok (m,j)=>RR w' rb s j 0 0 F/\∃v',w'.heap[xb]?=some (.cells (xrC cls ref v' a) 99 (0,0))/\Qy w' B v' (ms++[m])
 |.error (c,p)=>(∃j,RR w' rb s j c p F)/\∃A n cp,w'.heap[xb]?=some (.cells (xrC cls ref (.slice A n cp) a) 99 (0,0))
def zeK (r:Except (Int×Nat) (Mk×Nat)) (sg n no wh:Int) (i j:Nat):Prop:=match r with
 |.ok (m,j')=>no=0/\j=j'/\n=m.n/\m.sign=sg/\m.at_=i
 |.error (c,p)=>no=c/\wh=p
def zlU (W3 wx:World) (rb mb:Nat) (s:ByteArray) (F:RF) (sg:Int) (i:Nat) (r:Except (Int×Nat) (Mk×Nat)):Prop:=Off [rb,mb] W3 wx/\∃(n no wh:Int) (j:Nat),RR wx rb s j no wh F/\wx.heap[mb]?=some (.cells #[.int .u8 sg,.int .i64 n,.int .i64 i] 101 (0,0))/\zeK r sg n no wh i j
theorem zmF:Tryz.prog.info? 101=some Tryz.t101:=by kernel_rfl
theorem zmG:Tryz.t101.zero=some (.agg #[.int .u8 0,.int .i64 0,.int .i64 0]):=by kernel_rfl
theorem zmH:Tryz.t101.size=3:=by kernel_rfl
theorem zmh:Tryz.t101.bytes=24:=by kernel_rfl
theorem zj1 {W:World} {mb t:Nat} {x0 x1 x2:Value} (h:W.heap[mb]?=some (.cells #[x0,x1,x2] t (0,0))) (v0 v1 v2:Value):
  (((W.setCell ⟨mb,0,none⟩ v0).setCell ⟨mb,1,none⟩ v1).setCell ⟨mb,2,none⟩ v2).heap[mb]?=some (.cells #[v0,v1,v2] t (0,0))/\Off [mb] W (((W.setCell ⟨mb,0,none⟩ v0).setCell ⟨mb,1,none⟩ v1).setCell ⟨mb,2,none⟩ v2):=
 ⟨qs _ mb 2 _ _ v2 (qs _ mb 1 _ _ v1 (qs W mb 0 _ _ v0 h)),((Off.setCell W mb 0 v0).trans (Off.setCell _ mb 1 v1)).trans (Off.setCell _ mb 2 v2)⟩
theorem zbI {s:ByteArray} {l c:Int} {i p:Nat} (h:yL s l i=.error (c,p)):c≠0:=by
 unfold yL at h;split at h
 ·cases h;decide
 ·split at h
  ·cases h;decide
  ·cases h
def zj2 (r:Except (Int×Nat) (Int×Nat)) (n no wh:Int) (j:Nat):Prop:=match r with
 |.ok (v,e)=>no=0/\j=e/\n=v
 |.error (c,p)=>no=c/\wh=p
def gL (s:ByteArray) (i:Nat) (ms:List Mk) (n:Int) (k:Nat):Bool:=pg s i 126&&(ms.take k).any (λm=>m.sign==126&&m.n==n)
theorem zkW {s:ByteArray} {i:Nat} {ms:List Mk} {n:Int} {k:Nat} (h:k<ms.length):gL s i ms n (k+1)=(gL s i ms n k||(pg s i 126&&((ms.getD k ZQ).sign==126&&(ms.getD k ZQ).n==n))):=by
 unfold gL;rw[qE h,xx];have e:ms.getD k ZQ=ms[k]:=by simp[qj,h]
 rw[e];cases pg s i 126<;>simp
def dNo (d:Bool) (no:Int):Int:=if d then QQ no 2 else no
def dWh (d:Bool) (no wh p:Int):Int:=if d then ZV no wh p else wh
theorem zj3 (d:Bool) (no wh p:Int):QQ (dNo d no) 2=dNo true no/\ZV (dNo d no) (dWh d no wh p) p=dWh true no wh p:=by
 unfold dNo dWh;cases d with
 |false=>exact⟨rfl,rfl⟩
 |true=>
  unfold QQ ZV;by_cases h0:no=0
  ·simp[h0]
  ·simp[h0]
theorem zkX {s:ByteArray} {ms:List Mk} {i:Nat} {sg n no wh:Int} {j:Nat} {R:Except (Int×Nat) (Mk×Nat)} (hn:zj2 (yL s 1 (i+1)) n no wh j) (h0:no=0->wh=0)
  (hR:R=match yL s 1 (i+1) with|.error e=>.error e|.ok (v,e)=>if pg s i 126&&ms.any (λm=>m.sign==126&&m.n==v) then .error (2,i+1) else .ok (⟨sg,v,i⟩,e)):
  zeK R sg n (dNo (gL s i ms n ms.length) no) (dWh (gL s i ms n ms.length) no wh ((i:Int)+1)) i j:=by
 unfold dNo dWh gL;rw[qU];cases hp:yL s 1 (i+1) with
 |error e=>
  obtain⟨c,p⟩:=e;rw[hp] at hn hR;obtain⟨rfl,rfl⟩:=hn;have hc:=zbI hp;subst hR;unfold QQ ZV zeK;rw[qx hc,qx hc];simp
 |ok ve=>
  obtain⟨v,e⟩:=ve;rw[hp] at hn hR;obtain⟨rfl,rfl,rfl⟩:=hn;have hwh:=h0 rfl;subst hwh;subst hR;simp only;cases hd:(pg s i 126&&ms.any (λm=>m.sign==126&&m.n==n)) with
  |true=>simp[zeK,QQ,ZV]
  |false=>simp[zeK]
theorem zkY {w wc w8:World} {B rb xb j cp:Nat} {A:Option Addr} {s:ByteArray} {F:RF} {cls ref sg n no wh:Int} {a i:Nat} {ms:List Mk} {v8:Value} {R:Except (Int×Nat) (Mk×Nat)}
  (ho:Off [rb] w wc) (hr:RR wc rb s j no wh F) (hx:wc.heap[xb]?=some (.cells (xrC cls ref (.slice A ms.length cp) a) 99 (0,0))) (hm:Qy wc B (.slice A ms.length cp) ms) (QR:xb≠rb)
  (hs:zeK R sg n no wh i j) (hown:w8.ownsRow B 101 3 v8 (ms.length+1) (uz ms++[.int .u8 sg,.int .i64 n,.int .i64 i])) (hg:wc.drew.grownBy w8 (Value.slice A ms.length cp).ownBlock):
  zj0 B rb xb s F cls ref a (.slice A ms.length cp) ms w R (w8.setCell ⟨xb,2,none⟩ v8)/\w8.cell? ⟨xb,2,none⟩=some (.slice A ms.length cp)/\w8.frozen? ⟨xb,2,none⟩=false:=by
 have hog:Off (Value.slice A ms.length cp).ownBlock.toList wc w8:=(Off.drew _ wc).trans (Off.grown hg (λk hk=>by rw[hk];simp));have n1:xb∉(Value.slice A ms.length cp).ownBlock.toList:=λhk=>by
  rw[zE] at hk;rcases pI hm hx (by decide) with h1|h1
  ·rw[h1] at hk;cases hk
  ·exact h1 hk
 have n2:rb∉(Value.slice A ms.length cp).ownBlock.toList:=λhk=>by
  rw[zE] at hk;rcases pI hm hr.r (by decide) with h1|h1
  ·rw[h1] at hk;cases hk
  ·exact h1 hk
 have hx8:=(hog.block xb (qg hx).1 n1).trans hx;have ZX:=hr.off hog n2;have hos:=Off.setCell w8 xb 2 v8;have hx9:=qs w8 xb 2 _ _ v8 hx8;have pB:RR (w8.setCell ⟨xb,2,none⟩ v8) rb s j no wh F:=ZX.off hos (by simp;omega);have Jg:Off (rb::xb::(Value.slice A ms.length cp).ownBlock.toList) w (w8.setCell ⟨xb,2,none⟩ v8):=
  ((ho.mono (λk hk=>.inl (by simp at hk|-;exact .inl hk))).trans (hog.mono (λk hk=>.inl (by simp only[zi];exact .inr (.inr hk))))).trans (hos.mono (λk hk=>.inl (by simp at hk|-;exact .inr (.inl hk))))
 refine⟨⟨Jg,?_⟩,qc _ _ 2 _ _ (0,0) hx8,qf _ _ 2 _ _ hx8⟩;cases R with
 |error e=>
  obtain⟨c,p⟩:=e;obtain⟨rfl,rfl⟩:=hs;obtain⟨A8,c8,VS⟩:=pJ hown;rw[VS] at hx9 pB|-;exact⟨⟨_,pB⟩,_,_,_,hx9⟩
 |ok mj=>
  obtain⟨m,j'⟩:=mj;obtain⟨rfl,rfl,rfl,rfl,rfl⟩:=hs;have hwh:=(hr.ok rfl).2;subst hwh;refine⟨pB,v8,hx9,?_⟩;unfold Qy;rw[zgQ,qv];exact hos.own hown (λk hk=>by
   simp;rintro rfl;rcases pI hown hx8 (by decide) with h1|h1
   ·rw[h1] at hk;cases hk
   ·exact h1 hk)
theorem zj4 (B Bl rb xb:Nat) (s:ByteArray) (i:Nat) (F:RF) (gN:List UInt8) (cls ref:Int) (a:Nat) (v:Value) (ms:List Mk) (w:World) (h:RR w rb s i 0 0 F) (hi:i<s.size) (hl:w.ownsRow Bl 5 1 F.vl gN.length (Z6 gN)) (hll:gN.length<=70000)
  (hx:w.heap[xb]?=some (.cells (xrC cls ref v a) 99 (0,0))) (hm:Qy w B v ms) (hml:ms.length<=70000) (hB:B<=w.heap.size):
  Calls Tryz.prog 130 #[.pointer (some ⟨rb,0,none⟩),.pointer (some ⟨xb,0,none⟩)] w λe w'=>e=.returned (.tuple #[])/\zj0 B rb xb s F cls ref a v ms w (QY s gN ms i) w':=by
 obtain⟨A,cp,hv⟩:=pJ hm;subst hv;have hsz:=h.sz;have QR:xb≠rb:=λe=>by
  have h1:=h.r;rw[<-e,hx] at h1;simp at h1
 have hrl:=h.lt;have hxl:xb<w.heap.size:=(qg hx).1;have H:=qh h;have Hl:=qh hl;have Hx:=qh hx;have Hm:=qh hm;have hb0:yQ 0 s i=gZ s i:=by unfold yQ;rw[qy rfl]
 have Hc:=qh (λ(W:World) (hb:Below w.heap.size w W)=>vZ rb s i 0 0 F W (h.below hb));rw[hb0] at Hc;have r1a:∀o,((w.drew).alloc o).cell? ⟨rb,1,none⟩=some (.int .i64 i):=λo=>((h.below ((ZG (qb _ _) 1).alloc (ql _) o))).c1;have r1b:∀k o,((w.drewN k).alloc o).cell? ⟨rb,1,none⟩=some (.int .i64 i):=λk o=>((h.below ((ZG (qb _ _) k).alloc (ql _) o))).c1;have r1:=h.c1;have Xx:=qh (λo=>(ZG (qb w.heap.size w) 1).alloc (ql _) o);have nb:∀k,((w.drewN k).alloc (.cells #[.int .u8 0,.int .i64 0,.int .i64 0] 101)).heap[w.heap.size]?=some (.cells #[.int .u8 0,.int .i64 0,.int .i64 0] 101 (0,0)):=λk=>qn (w.drewN k) _;have m0:=λk=>qc _ _ 0 _ _ (0,0) (nb k);have m1:=λk=>qc _ _ 1 _ _ (0,0) (nb k);have m2:=λk=>qc _ _ 2 _ _ (0,0) (nb k);have mz0:=λk=>qf _ _ 0 _ _ (nb k);have mz1:=λk=>qf _ _ 1 _ _ (nb k);have mz2:=λk=>qf _ _ 2 _ _ (nb k);have HB3:Hid (∀k,((((((w.alloc (.cells #[.int .u8 0,.int .i64 0,.int .i64 0] 101)).drewN k).setCell ⟨w.heap.size,0,none⟩ (.int .u8 (gZ s i).toNat)).setCell ⟨w.heap.size,1,none⟩ (.int .i64 0)).setCell ⟨w.heap.size,2,none⟩ (.int .i64 i)).heap[w.heap.size]?=some (.cells #[.int .u8 (gZ s i).toNat,.int .i64 0,.int .i64 i] 101 (0,0)))/\Below w.heap.size w (((((w.alloc (.cells #[.int .u8 0,.int .i64 0,.int .i64 0] 101)).drewN k).setCell ⟨w.heap.size,0,none⟩ (.int .u8 (gZ s i).toNat)).setCell ⟨w.heap.size,1,none⟩ (.int .i64 0)).setCell ⟨w.heap.size,2,none⟩ (.int .i64 i))/\w.heap.size<=w.heap.size):=qh (λk=>by
  obtain⟨e1,e2⟩:=zj1 (W:=(w.alloc (.cells #[.int .u8 0,.int .i64 0,.int .i64 0] 101)).drewN k) (nb k) (.int .u8 (gZ s i).toNat) (.int .i64 0) (.int .i64 i);exact⟨e1,(ZG ((qb w.heap.size w).alloc (ql _) _) k).trans (e2.below (by show w.heap.size<=(w.alloc _).heap.size;simp) (λq hq=>by simp at hq;omega)),ql _⟩)
 clear nb;generalize hR:QY s gN ms i=R;have HR:=qh hR;have VU:Hid (∀c:Int,pg s i c=(((gZ s i).toNat:Int)==c)):=qh (λc=>by rw[QX hi,Z3 hi]);have X1:=qh (rfl:gZ s i=gZ s i);generalize hbx:gZ s i=bc at*;clear h hl hx hm hR hb0;go_enter Tryz.func130,Tryz.ntmps130;go_upto_region 0 with fail
 go_cut [4] from 8 to 14 (λv4 wx=>∃mb:Nat,v4=.pointer (some ⟨mb,0,none⟩)/\Hid (wx.heap[mb]?=some (.cells #[.int .u8 bc.toNat,.int .i64 0,.int .i64 i] 101 (0,0))/\Below w.heap.size w wx/\w.heap.size<=mb))
 case first=>
  go_region_law (go_simp;go_at_call 67;refine(Hc.out _ (by first|exact ZG (qb _ _) 1|exact Xx.out _)).mono ?_;rintro e w2 ⟨rfl,n2,rfl⟩)
  all_goals
   go_wp2_with fail;go_meet
   exact⟨w.heap.size,rfl,qh (HB3.out _)⟩
 case rest=>
  obtain⟨W1,hW1⟩:∃W1:World,W1=wc:=⟨_,rfl⟩;subst hW1;obtain⟨mb,rfl,hbox⟩:=hcut;obtain⟨hmk,hbl,hmb⟩:=hbox.out;have VM:=qh hmk;have Hbl:=qh hbl;have hx1:=(hbl.block xb hxl).trans Hx.out;have hmr:mb≠rb:=by omega
  have hmx:mb≠xb:=by omega
  have k0:W1.cell? ⟨mb,0,none⟩=some (.int .u8 bc.toNat):=qc _ _ 0 _ _ (0,0) hmk;have x2:W1.cell? ⟨xb,2,none⟩=some (.slice A ms.length cp):=qc _ _ 2 _ _ (0,0) hx1;have HM1:Hid (Qy W1 B (.slice A ms.length cp) ms):=qh ((Off.of_below hbl (ql _) []).own Hm.out (λk hk=>by simp));have zqG:=qh (λn=>zjZ A cp B ms (bc.toNat:Int) (W1.drewN n) ((Off.drewN [] W1 n).own HM1.out (λk hk=>by simp)) hml);have HR1:=qh (H.out.below hbl);clear hbox hmk hbl HB3 m0 m1 m2 mz0 mz1 mz2 r1a r1b r1 Xx Hc;obtain⟨q,hq⟩:∃q:Nat,q=if pg s i 126 then 4 else 1:=⟨_,rfl⟩
  have Hq:=qh hq;clear hq;go_upto_if 17 with fail
  go_cut [5] from 5 to 17 (λv5 wx=>v5=.int .i64 q/\wx=W1)
  case first=>
   cases Ko:pg s i 126 with
   |true=>
    have zqH:((bc.toNat:Int)==126)=true:=(by rw[<-VU.out 126];exact Ko);have hq4:q=4:=(by rw[Hq.out,Ko];rfl);subst hq4;go_wp2_with fail;go_meet
    exact⟨rfl,rfl⟩
   |false=>
    have zqH:((bc.toNat:Int)==126)=false:=(by rw[<-VU.out 126];exact Ko);have hq4:q=1:=(by rw[Hq.out,Ko];rfl);subst hq4;go_wp2_with fail;go_meet
    exact⟨rfl,rfl⟩
  case rest=>
   obtain⟨rfl,hwn⟩:=hcut;subst hwn;have hMP:QY s gN ms i=R:=HR.out;have r1:=HR1.out.c1;have z1:=HR1.out.z 1;by_cases hcnt:q<=pO ms (bc.toNat:Int)
   ·have e1:decide ((q:Int)<=(pO ms (bc.toNat:Int):Int))=true:=qt (by omega);have e2:decide (q<=pO ms (bc.toNat:Int))=true:=qt hcnt;have HR2:Hid (R=.error (180,i)):=qh (by
     rw[<-hMP];unfold QY;rw[hbx,qy (by rw[<-Hq.out];exact hcnt)])
    have Qx:=qh (λn=>zbu rb s i 0 0 F (wc.drewN n) (HR1.out.drewN n));clear hMP r1 z1;go_wp2_with fail;go_quiet ((go_at_call 161;exact kP (zqG.out _)))
    go_wp2_with fail;refine(Qx.out _).mono ?_;rintro e w3 ⟨rfl,hr3,ho3⟩;have Hr3:=qh hr3;have Ho3:=qh ((Off.drewN [rb] wc _).trans ho3);clear hr3 ho3;go_wp2_with fail;refine zt (qI rfl _ _ _) rfl ?_;refine⟨rfl,(Off.of_below Hbl.out (ql _) _).trans (Ho3.out.mono (λk hk=>.inl (by simp at hk|-;exact .inl hk))),?_⟩;rw[HR2.out];exact⟨⟨_,Hr3.out⟩,_,_,_,(Ho3.out.block xb (qD hxl Hbl.out.size) (by simp;omega)).trans hx1⟩
   ·have e1:decide ((q:Int)<=(pO ms (bc.toNat:Int):Int))=false:=qd (by omega);have e2:decide (q<=pO ms (bc.toNat:Int))=false:=qd hcnt;have HMQ:Hid (¬((if pg s i 126 then 4 else 1)<=pO ms (bc.toNat:Int))):=qh (by rw[<-Hq.out];exact hcnt);have hc1:((i+1:Nat):Int)=(i:Int)+1:=(by omega);have hw:IntKind.i64.wrap ((i:Int)+1)=(i:Int)+1:=qi _ (by omega);have HR3:Hid (∀n,RR ((wc.drewN n).setCell ⟨rb,1,none⟩ (.int .i64 ((i:Int)+1))) rb s (i+1) 0 0 F/\Off [rb] wc ((wc.drewN n).setCell ⟨rb,1,none⟩ (.int .i64 ((i:Int)+1)))):=qh (λn=>by
     rw[<-hc1];exact⟨(HR1.out.drewN n).to (by omega),(Off.drewN _ _ n).trans (Off.setCell _ rb 1 _)⟩)
    obtain⟨W2,hW2⟩:∃W2:World,W2=wc:=⟨_,rfl⟩;subst hW2;clear hcnt;go_wp2_with fail;go_quiet ((go_at_call 161;exact kP (zqG.out _)))
    go_upto_region 6 with fail
    go_cut [35] from 29 to 35 (λv35 wx=>Hid (RR wx rb s (i+1) 0 0 F/\Off [rb] W2 wx))
    case first=>
     go_wp2_with fail;go_meet
     exact qh (HR3.out _)
    case rest=>
     obtain⟨W3,hW3⟩:∃W3:World,W3=wc:=⟨_,rfl⟩;subst hW3;obtain⟨hr3,ho3⟩:=hcut.out;have Hr3:=qh hr3;have Ho3:=qh ho3;have zro:W3.heap[mb]?=some (.cells #[.int .u8 bc.toNat,.int .i64 0,.int .i64 i] 101 (0,0)):=(ho3.block mb (qg VM.out).1 (by simp;omega)).trans VM.out;have zqI:=qh zro;have hx3:=(ho3.block xb (qD hxl Hbl.out.size) (by simp;omega)).trans hx1;have JY:=qh hx3;have l0:W3.cell? ⟨mb,0,none⟩=some (.int .u8 bc.toNat):=qc _ _ 0 _ _ (0,0) zro;have hml3:mb<W3.heap.size:=(qg zro).1;have zss:xb<W3.heap.size:=(qg hx3).1;have HO3:Hid (Off [rb] w W3):=qh ((Off.of_below Hbl.out (ql _) _).trans ho3);have HM3:Hid (Qy W3 B (.slice A ms.length cp) ms):=qh (HO3.out.own Hm.out (λk hk=>by
      have h1:=pI Hm.out H.out.r (by decide);simp;rintro rfl;rcases h1 with h1|h1
      ·rw[h1] at hk;cases hk
      ·exact h1 hk))
     have HL3:Hid (W3.ownsRow Bl 5 1 F.vl gN.length (Z6 gN)):=qh (HO3.out.own Hl.out (λk hk=>by
      have h1:=pI Hl.out H.out.r (by decide);simp;rintro rfl;rcases h1 with h1|h1
      ·rw[h1] at hk;cases hk
      ·exact h1 hk))
     clear hcut hr3 ho3 zro hx3 k0 x2 hx1 zqG;go_upto_region 7 with fail
     go_cut [43] from 36 to 43 (λv43 wx=>v43=.bool (pg s i 58||pg s i 39)/\wx=W3)
     case first=>
      cases JV:pg s i 58 with
      |true=>
       have q58:((bc.toNat:Int)==58)=true:=(by rw[<-VU.out 58];exact JV);go_wp2_with fail;go_meet
       exact⟨by rw[JV];rfl,rfl⟩
      |false=>
       have q58:((bc.toNat:Int)==58)=false:=(by rw[<-VU.out 58];exact JV);cases h39:pg s i 39 with
       |true=>
        have q39:((bc.toNat:Int)==39)=true:=(by rw[<-VU.out 39];exact h39);go_wp2_with fail;go_meet
        exact⟨by rw[JV,h39];rfl,rfl⟩
       |false=>
        have q39:((bc.toNat:Int)==39)=false:=(by rw[<-VU.out 39];exact h39);go_wp2_with fail;go_meet
        exact⟨by rw[JV,h39];rfl,rfl⟩
     case rest=>
      obtain⟨rfl,hwn⟩:=hcut;obtain⟨W3,hW3⟩:∃W3:World,W3=wc:=⟨_,rfl⟩;subst hW3;subst hwn;go_upto_if 43 with fail
      go_cut [126] from 43 to 126 (λv126 wx=>Hid (zlU W3 wx rb mb s F bc.toNat i R))
      case first=>
       have hc1:((i+1:Nat):Int)=(i:Int)+1:=(by omega);cases hlet:(pg s i 58||pg s i 39) with
       |true=>
        have hb3:yQ 0 s (i+1)=gZ s (i+1):=(by unfold yQ;rw[qy rfl]);have Hc3:=qh (λn=>vZ rb s (i+1) 0 0 F (W3.drewN n) (Hr3.out.drewN n));have zqJ:=qh (Hc3.out 0);have zqK:=zgP (no:=0) (s:=s) (i:=i+1) (a:=97) (b:=122) rfl (by omega);rw[hb3] at Hc3 zqJ zqK;by_cases hin:pY s (i+1) 97 122=true
        ·have hbd:97<=((gZ s (i+1)).toNat:Int)/\((gZ s (i+1)).toNat:Int)<=122:=by
          rw[zqK,qA,qC,qC] at hin;exact hin
         have his:=zb7 hin;have HRR:Hid (R=if pg s i 58&&decide (Lib.indexByte gN (gZ s (i+1))<0) then .error (181,i+1) else .ok (⟨bc.toNat,(gZ s (i+1)).toNat,i⟩,i+2)):=qh (by
          rw[<-hMP];unfold QY;rw[hbx,qx HMQ.out,qy hlet,qx (by simpa using hin)])
         have HB3:Hid (yQ 0 s (i+1)=gZ s (i+1)):=qh hb3;generalize gZ s (i+1)=b3 at*;have d1:decide ((b3.toNat:Int)<97)=false:=qd (by omega);have d1n:¬(b3.toNat:Int)<97:=(by omega);have d2:decide (122<(b3.toNat:Int))=false:=qd (by omega);have d2n:¬122<(b3.toNat:Int):=(by omega);have lz1:W3.frozen? ⟨mb,1,none⟩=false:=qf _ _ 1 _ _ zqI.out;have l1:W3.cell? ⟨mb,1,none⟩=some (.int .i64 0):=qc _ _ 1 _ _ (0,0) zqI.out;clear zqK hin hb3 hlet;go_wp2_with fail;refine zqJ.out.mono ?_;rintro e w4 ⟨rfl,n4,rfl⟩;go_wp2_with fail;refine(Hc3.out _).mono ?_;rintro e w4 ⟨rfl,n5,rfl⟩;go_wp2_with fail;refine(Hc3.out _).mono ?_;rintro e w4 ⟨rfl,n6,rfl⟩;go_upto_region 11 with fail
         have hos:=(Off.drewN [mb] W3 (n4+n5+n6)).trans (Off.setCell (W3.drewN (n4+n5+n6)) mb 1 (.int .i64 b3.toNat));have VV:=qs (W3.drewN (n4+n5+n6)) mb 1 _ _ (.int .i64 b3.toNat) zqI.out;generalize (W3.drewN (n4+n5+n6)).setCell ⟨mb,1,none⟩ (.int .i64 b3.toNat)=W4 at*;have Hos:=qh hos;have Hm4:Hid (W4.heap[mb]?=some (.cells #[.int .u8 bc.toNat,.int .i64 b3.toNat,.int .i64 i] 101 (0,0))):=qh VV;have Yc:=qh (Hr3.out.off hos (by simp;omega));have HL4:Hid (W4.ownsRow Bl 5 1 F.vl gN.length (Z6 gN)):=qh (hos.pp HL3.out (pc.one zqI.out) (by decide));have n0:W4.cell? ⟨mb,0,none⟩=some (.int .u8 bc.toNat):=qc _ _ 0 _ _ (0,0) Hm4.out;have n1:=Yc.out.c1;have nz1:=Yc.out.z 1;have hb4:yQ 0 s (i+1)=b3:=HB3.out;have Hc4:=qh (λn=>vZ rb s (i+1) 0 0 F (W4.drewN n) (Yc.out.drewN n));rw[hb4] at Hc4;have Hc40:=qh (Hc4.out 0);have Hme:=qh (λn=>zd6 rb Bl s (i+1) 0 0 F gN b3 (W4.drewN n) (Yc.out.drewN n) ((Off.drewN [] W4 n).own HL4.out (λk hk=>by simp)) hll);have hw2:IntKind.i64.wrap (((i+1:Nat):Int)+1)=((i+1:Nat):Int)+1:=qi _ (by omega);clear hos VV l0 l1 lz1 hb4 Hc3 zqJ;have KI:Hid (∀(X:World) (no wh:Int),Off [rb] W4 X->RR X rb s (i+1) no wh F->zeK R bc.toNat b3.toNat no wh i (i+2)->zlU W3 (X.setCell ⟨rb,1,none⟩ (.int .i64 ((i:Int)+1+1))) rb mb s F bc.toNat i R):=qh (λX no wh ho hr hm=>by
          have hc2:((i:Int)+1+1)=((i+2:Nat):Int):=(by omega);rw[hc2];have hoX:=Off.setCell X rb 1 (.int .i64 ((i+2:Nat):Int));refine⟨((Hos.out.mono (λk hk=>.inl (by simp at hk|-;exact .inr hk))).trans (ho.mono (λk hk=>.inl (by simp at hk|-;exact .inl hk)))).trans (hoX.mono (λk hk=>.inl (by simp at hk|-;exact .inl hk))),b3.toNat,no,wh,i+2,hr.to (by omega),?_,hm⟩;have hmb4:mb<W4.heap.size:=(qg Hm4.out).1;exact(hoX.block mb (qD hmb4 ho.size) (by simp;omega)).trans ((ho.block mb hmb4 (by simp;omega)).trans Hm4.out))
         cases JV:pg s i 58 with
         |false=>
          have q58:((bc.toNat:Int)==58)=false:=(by rw[<-VU.out 58];exact JV);have hR2:R=.ok (⟨bc.toNat,b3.toNat,i⟩,i+2):=(by rw[HRR.out,JV];rfl);have gT:=qh (KI.out W4 0 0 (Off.refl _ _) Yc.out (by rw[hR2];exact⟨rfl,rfl,rfl,rfl,rfl⟩));clear hR2;go_wp2_with fail;go_meet
          exact gT
         |true=>
          have q58:((bc.toNat:Int)==58)=true:=(by rw[<-VU.out 58];exact JV);by_cases hneg:Lib.indexByte gN b3<0
          ·have hR2:R=.error (181,i+1):=(by rw[HRR.out,JV,qK hneg];rfl);have HR2:=qh hR2;have hng:decide (Lib.indexByte gN b3<0)=true:=qt hneg;have Hw:=qh (λn=>zaO rb s (i+1) 0 0 F 181 ((i+1:Nat):Int) (W4.drewN n) (Yc.out.drewN n) (by decide));clear hR2;go_wp2_with fail;refine Hc40.out.mono ?_;rintro e w5 ⟨rfl,n7,rfl⟩;go_wp2_with fail;refine(Hme.out _).mono ?_;rintro e w5 ⟨rfl,rfl⟩;go_wp2_with fail;refine(Hw.out _).mono ?_;rintro e w5 ⟨rfl,pi,pH⟩;have gT:=qh (KI.out w5 _ _ ((Off.drewN [rb] W4 _).trans pH) pi (by rw[HR2.out];exact⟨rfl,rfl⟩));have t1:=pi.c1;have tz1:=pi.z 1;clear pi pH;go_wp2_with fail;go_meet
           exact gT
          ·have hR2:R=.ok (⟨bc.toNat,b3.toNat,i⟩,i+2):=(by rw[HRR.out,JV,zh hneg];rfl);have hng:decide (Lib.indexByte gN b3<0)=false:=qd hneg;have gT:=qh (λn=>KI.out (W4.drewN n) 0 0 (Off.drewN [rb] W4 n) (Yc.out.drewN n) (by rw[hR2];exact⟨rfl,rfl,rfl,rfl,rfl⟩));clear hR2;go_wp2_with fail;refine Hc40.out.mono ?_;rintro e w5 ⟨rfl,n7,rfl⟩;go_wp2_with fail;refine(Hme.out _).mono ?_;rintro e w5 ⟨rfl,rfl⟩;go_wp2_with fail;go_meet
           exact gT.out _
        ·have hbc:((gZ s (i+1)).toNat:Int)<97∨122<((gZ s (i+1)).toNat:Int):=by
          by_cases h1:((gZ s (i+1)).toNat:Int)<97
          ·exact .inl h1
          ·right;by_cases h2:122<((gZ s (i+1)).toNat:Int)
           ·exact h2
           ·refine absurd ?_ hin;rw[zqK,qK (by omega),qK (by omega)];rfl
         have HR2:Hid (R=.error (180,i+1)):=qh (by
          rw[<-hMP];unfold QY;rw[hbx,qx HMQ.out,qy hlet,qy hin])
         have Qx:=qh (λn=>zbu rb s (i+1) 0 0 F (W3.drewN n) (Hr3.out.drewN n));have gT:Hid (∀n w4,RR w4 rb s (i+1) (QQ 0 180) (ZV 0 0 ((i+1:Nat):Int)) F->Off [rb] (W3.drewN n) w4->zj0 B rb xb s F cls ref a (.slice A ms.length cp) ms w R w4):=qh (λn w4 hr4 QI=>by
          have ho:=HO3.out.trans ((Off.drewN [rb] W3 n).trans QI);refine⟨ho.mono (λk hk=>.inl (by simp at hk|-;exact .inl hk)),?_⟩;rw[HR2.out];exact⟨⟨_,hr4⟩,_,_,_,(((Off.drewN [rb] W3 n).trans QI).block xb zss (by simp;omega)).trans JY.out⟩)
         generalize gZ s (i+1)=b3 at*;clear zqK hin hb3;rcases hbc with hlo|hhi
         rotate_right;have hnl:¬(b3.toNat:Int)<97:=(by omega);have d1:decide ((b3.toNat:Int)<97)=false:=qd hnl;have d2:decide (122<(b3.toNat:Int))=true:=qt hhi;go_wp2_with fail;refine zqJ.out.mono ?_;rintro e w4 ⟨rfl,n4,rfl⟩;go_wp2_with fail;refine(Hc3.out _).mono ?_;rintro e w4 ⟨rfl,n5,rfl⟩
         rotate_right;have d1:decide ((b3.toNat:Int)<97)=true:=qt hlo;go_wp2_with fail;refine zqJ.out.mono ?_;rintro e w4 ⟨rfl,n4,rfl⟩
         all_goals(go_wp2_with fail;refine(Qx.out _).mono ?_;rintro e w5 ⟨rfl,pi,pH⟩;have JF:=qh pi;have ZW:=qh pH;clear pi pH;go_wp2_with fail;refine zt (qI rfl _ _ _) rfl ?_;exact⟨rfl,gT.out _ _ JF.out ZW.out⟩)
       |false=>
        have pE:=qh (zcu rb s (i+1) 0 0 F 1 W3 Hr3.out (by omega) (by omega));have HRR:Hid (R=match yL s 1 (i+1) with|.error e=>.error e|.ok (v,e)=>if pg s i 126&&ms.any (λm=>m.sign==126&&m.n==v) then .error (2,i+1) else .ok (⟨bc.toNat,v,i⟩,e)):=qh (by
         rw[<-hMP];unfold QY;rw[hbx,qx HMQ.out,qx (by rw[hlet];simp)];rfl)
        have r31:=Hr3.out.c1;clear hlet;go_wp2_with fail;refine pE.out.mono ?_;rintro e w4 ⟨QI,n,rfl,hn0,hn1,hok,hno⟩;have hsay:∃(no wh:Int) (j:Nat),RR w4 rb s j no wh F/\zj2 (yL s 1 (i+1)) n no wh j:=by
         have:=hok rfl;cases hp:yL s 1 (i+1) with
         |error e=>obtain⟨c,p⟩:=e;rw[hp] at this;obtain⟨j,hj⟩:=this;exact⟨_,_,j,hj,rfl,rfl⟩
         |ok ve=>obtain⟨v,e⟩:=ve;rw[hp] at this;exact⟨_,_,_,this.2,rfl,rfl,this.1⟩
        obtain⟨no,wh,j,hr4,zrV⟩:=hsay;have HSay:=qh zrV;have Yc:=qh hr4;have YX:=qh QI;have VV:=(QI.block mb hml3 (by simp;omega)).trans zqI.out;have Hm4:=qh VV;have l1:w4.cell? ⟨mb,1,none⟩=some (.int .i64 0):=qc _ _ 1 _ _ (0,0) VV;have lz1:w4.frozen? ⟨mb,1,none⟩=false:=qf _ _ 1 _ _ VV;have Hn:=qh (show 0<=n/\n<=1000009 from⟨hn0,hn1⟩);clear hok hno hr4 zrV QI VV l0 r31 hn0 hn1;go_upto_region 17 with fail
        have YY:=qs w4 mb 1 _ _ (.int .i64 n) Hm4.out;have pH:=Off.setCell w4 mb 1 (.int .i64 n);have pi:=Yc.out.off pH (by simp;omega);generalize w4.setCell ⟨mb,1,none⟩ (.int .i64 n)=W5 at*;have Hm5:Hid (W5.heap[mb]?=some (.cells #[.int .u8 bc.toNat,.int .i64 n,.int .i64 i] 101 (0,0))):=qh YY;have ZW:Hid (Off [rb,mb] W3 W5):=qh ((YX.out.mono (λk hk=>.inl (by simp at hk|-;exact .inl hk))).trans (pH.mono (λk hk=>.inl (by simp at hk|-;exact .inr hk))));have JF:=qh pi;have Hx5:=qh ((ZW.out.block xb zss (by simp;omega)).trans JY.out);have HM5:Hid (Qy W5 B (.slice A ms.length cp) ms):=qh (ZW.out.own HM3.out (λk hk=>by
         have h1:=pI HM3.out Hr3.out.r (by decide);have h2:=(Hm.out.lt k hk).2;simp;refine⟨?_,by omega⟩;rintro rfl;rcases h1 with h1|h1
         ·rw[h1] at hk;cases hk
         ·exact h1 hk))
        clear YY pH pi Hm4 lz1 l1;obtain⟨W6,X8⟩:∃W6:World,W6=W5:=⟨_,rfl⟩;have H6:Hid (W6=W5):=qh X8;clear X8;go_loopw [7] (λv7 wr=>∃k:Nat,k<=ms.length/\v7=.int .i64 k/\Hid (Off [rb] W5 wr)/\Hid (RR wr rb s j (dNo (gL s i ms n k) no) (dWh (gL s i ms n k) no wh ((i:Int)+1)) F)) (λv7 _=>ms.length-(intOf v7).toNat)
        case atStart=>exact⟨0,qF _,rfl,qh (Off.refl _ _),qh (by rw[show gL s i ms n 0=false by simp[gL]];exact JF.out)⟩
        case round=>
         obtain⟨k,hk,rfl,hof,hrr⟩:=hrel;have XD:=(hof.out.block mb (qg Hm5.out).1 (by simp;omega)).trans Hm5.out;have hx6:=(hof.out.block xb (qg Hx5.out).1 (by simp;omega)).trans Hx5.out;have hM6:Qy wr B (.slice A ms.length cp) ms:=hof.out.own HM5.out (λk hk=>by
          have h1:=pI HM5.out JF.out.r (by decide);simp;rintro rfl;rcases h1 with h1|h1
          ·rw[h1] at hk;cases hk
          ·exact h1 hk)
         have m0:wr.cell? ⟨mb,0,none⟩=some (.int .u8 bc.toNat):=qc _ _ 0 _ _ (0,0) XD;have m1:wr.cell? ⟨mb,1,none⟩=some (.int .i64 n):=qc _ _ 1 _ _ (0,0) XD;have x2:wr.cell? ⟨xb,2,none⟩=some (.slice A ms.length cp):=qc _ _ 2 _ _ (0,0) hx6;by_cases hlt:k<ms.length
         ·have hrow:=hM6.row hlt;have hdn:=zkW (s:=s) (i:=i) (n:=n) hlt;generalize hd0:gL s i ms n k=d0 at*;generalize hd1:gL s i ms n (k+1)=d1 at*;generalize (ms.getD k ZQ).sign=sg at*;generalize (ms.getD k ZQ).n=nk at*;obtain⟨g,rfl,_,k0,k1,_⟩:=hrow;have i1:(0:Int)<=(k:Int):=(by omega);have i2:(k:Int)<(ms.length:Int):=(by omega);have H1:=qh hd1;clear hd0 hd1 XD hx6 hM6;by_cases hD:pg s i 126=true/\sg=126/\nk=n
          ·obtain⟨Ko,hsg,hnk⟩:=hD;have zqH:((bc.toNat:Int)==126)=true:=(by rw[<-VU.out 126];exact Ko);have e1:(sg==126)=true:=(by simpa using hsg);have e2:(nk==n)=true:=(by simpa using hnk);have hd2:d1=true:=(by rw[hdn,Ko,e1,e2];simp);have Hw:=qh (λnq=>zaO rb s j _ _ F 2 ((i:Int)+1) (wr.drewN nq) (hrr.out.drewN nq) (by decide));have Hd2:=qh hd2;clear hd2 hdn Ko hsg hnk;go_wp2_with fail;go_quiet (fail)
           go_wp2_with fail;refine(Hw.out _).mono ?_;rintro e w7 ⟨rfl,KK,QS⟩;rw[(zj3 d0 no wh ((i:Int)+1)).1,(zj3 d0 no wh ((i:Int)+1)).2] at KK;have Hr7:=qh KK;have Ho7:=qh QS;clear KK QS;go_wp2_with fail;go_roundw
           case rel=>exact⟨k+1,by omega,by go_num,qh ((hof.out.trans (Off.drewN _ _ _)).trans Ho7.out),qh (by rw[H1.out,Hd2.out];exact Hr7.out)⟩
           case measure=>simp[intOf];omega
          ·have hd2:d1=d0:=by
            rw[hdn];have:(pg s i 126&&(sg==126&&nk==n))=false:=by
             cases hc:(pg s i 126&&(sg==126&&nk==n)) with
             |false=>rfl
             |true=>simp only[qA,yC] at hc;exact absurd hc hD
            rw[this,yf]
           have Hd2:=qh hd2;clear hd2 hdn;have J7:pg s i 126=false∨(pg s i 126=true/\((sg==126)=false∨((sg==126)=true/\(nk==n)=false))):=by
            cases h1:pg s i 126 with
            |false=>exact .inl rfl
            |true=>
             cases h2:(sg==126) with
             |false=>exact .inr ⟨rfl,.inl rfl⟩
             |true=>
              cases h3:(nk==n) with
              |false=>exact .inr ⟨rfl,.inr ⟨rfl,rfl⟩⟩
              |true=>exact absurd ⟨h1,by simpa using h2,by simpa using h3⟩ hD
           clear hD;rcases J7 with h1|⟨h1,h2|⟨h2,h3⟩⟩
           rotate_right;have zqH:((bc.toNat:Int)==126)=true:=(by rw[<-VU.out 126];exact h1)
           rotate_right;have zqH:((bc.toNat:Int)==126)=true:=(by rw[<-VU.out 126];exact h1)
           rotate_right;have zqH:((bc.toNat:Int)==126)=false:=(by rw[<-VU.out 126];exact h1)
           all_goals
            go_wp2_with fail;go_quiet (fail)
            go_wp2_with fail;go_roundw
            case rel=>exact⟨k+1,by omega,by go_num,qh (hof.out.trans (Off.drewN _ _ _)),qh (by rw[H1.out,Hd2.out];exact hrr.out.drewN _)⟩
            case measure=>simp[intOf];omega
         ·obtain rfl:k=ms.length:=by omega
          have hfin:zlU W3 wr rb mb s F bc.toNat i R:=by
           exact⟨ZW.out.trans (hof.out.mono (λk hk=>.inl (by simp at hk|-;exact .inl hk))),n,_,_,j,hrr.out,XD,zkX HSay.out (λe=>((Yc.out).ok e).2) HRR.out⟩
          have gT:=qh hfin;clear hfin;go_wp2_with fail;go_meet
          exact gT
      case rest=>
       obtain⟨QI,n,no,wh,j,hr4,VV,hs4⟩:=hcut.out;obtain⟨W4,J8⟩:∃W4:World,W4=wc:=⟨_,rfl⟩;subst J8;have hlw:w.heap.size<=W3.heap.size:=HO3.out.size;have pH:Off [rb] w W4:=⟨QI.os.trans HO3.out.os,QI.tape.trans HO3.out.tape,QI.output.trans HO3.out.output,qm hlw QI.size,λk hk hn=>(QI.block k (qD hk hlw) (by simp at hn|-;exact⟨hn,by omega⟩)).trans (HO3.out.block k hk hn)⟩;have hM5:Qy W4 B (.slice A ms.length cp) ms:=QI.own HM3.out (λk hk=>by
        have h1:=pI HM3.out Hr3.out.r (by decide);have h2:=(Hm.out.lt k hk).2;simp;refine⟨?_,by omega⟩;rintro rfl;rcases h1 with h1|h1
        ·rw[h1] at hk;cases hk
        ·exact h1 hk)
       have hx5:=(QI.block xb zss (by simp;omega)).trans JY.out;have x2:W4.cell? ⟨xb,2,none⟩=some (.slice A ms.length cp):=qc _ _ 2 _ _ (0,0) hx5;have x2a:∀o,(W4.alloc o).cell? ⟨xb,2,none⟩=some (.slice A ms.length cp):=λo=>(qw (qa W4 o xb (qg hx5).1)).trans x2;have m0:W4.cell? ⟨mb,0,none⟩=some (.int .u8 bc.toNat):=qc _ _ 0 _ _ (0,0) VV;have m1:W4.cell? ⟨mb,1,none⟩=some (.int .i64 n):=qc _ _ 1 _ _ (0,0) VV;have m2:W4.cell? ⟨mb,2,none⟩=some (.int .i64 i):=qc _ _ 2 _ _ (0,0) VV;have X6:Hid (ms.length+1<=maxLen):=qh (by unfold maxLen;omega);have Kl:Hid ((ms.length+1)*24<=140737488355328):=qh (by omega);have Hpos:Hid (0<ms.length+1):=qh (by omega);have YR:Hid (B<=W4.drew.heap.size):=qh (qm hB pH.size);have pv:Hid (W4.drew.ownsRow B 101 3 (.slice A ms.length cp) ms.length (uz ms)):=qh ((Off.drew [] W4).own hM5 (λk hk=>by simp));have Qw:Hid (∀u∈(#[.int .u8 bc.toNat,.int .i64 n,.int .i64 i]:Array Value).toList,u.oneCell'=true):=qh (by intro u hu;simp at hu;rcases hu with rfl|rfl|rfl<;>rfl);have HF:=qh (λw8 v8 hg hown=>zkY (w8:=w8) (v8:=v8) pH hr4 hx5 hM5 QR hs4 hown hg);clear hcut QI hr4 VV hs4 pH hM5 hx5;go_wp2_with fail;go_region_law (refine zah W4.drew (by rfl) (.tmp 131) (.tmp 133) 97 (by rfl) B 101 _ _ 3 24 Tryz.underlying97 zmF zmG zmH zmh rfl (by decide) (.slice A ms.length cp) ms.length (uz ms) _ _ (by simp[Act.eval,Act.put]) (by simp[Act.eval,Act.put];rfl) (by simp) (by exact pv.out) rfl (by exact Qw.out) X6.out Kl.out (by exact YR.out) ?_;intro v8 w8 pj ZU Zz;obtain⟨g8,Qz,rfl⟩:=Zv pj Hpos.out;obtain⟨Qi,c8,z8⟩:=HF.out w8 _ ZU pj;have HFin:=qh Qi;clear Qi pj ZU Zz)
       all_goals
        go_wp2_with fail;refine q9 (qI rfl _ _ _) rfl ?_;exact⟨rfl,HFin.out⟩
def Yd (s:ByteArray) (gN:List UInt8) (i:Nat):Except (Int×Nat) (It×Nat):=match QH s i with
 |.error e=>.error e
 |.ok (cls,ref,j)=>match QV s gN (s.size+1) [] j with
  |.error e=>.error e
  |.ok (ms,k)=>if¬vG s k/\¬pg s k 32 then .error (180,k) else .ok (⟨cls,ref,ms,i⟩,k)
def zfo (line:Int) (ms:List Mk):Option Mk:=if 0<=line then ms.find? (λm=>Xr m&&decide (line<m.n)) else none
theorem zdQ {s:ByteArray} {gN:List UInt8} {line:Int} {i:Nat}:Kj s gN line i=match Yd s gN i with
  |.error e=>.error e
  |.ok (x,k)=>match zfo line x.gP with|some m=>.error (182,m.at_)|none=>.ok (x,k):=by
 unfold Kj Yd zfo;cases hr:QH s i with
 |error e=>rfl
 |ok r=>
  obtain⟨cls,ref,j⟩:=r;simp only;cases hm:QV s gN (s.size+1) [] j with
  |error e=>rfl
  |ok mk=>
   obtain⟨ms,k⟩:=mk;simp only;by_cases he:¬vG s k=true/\¬pg s k 32=true
   ·rw[qy he,qy he]
   ·rw[qx he,qx he];rfl
theorem zkZ:yP 0<0:=by decide+kernel
theorem zmI (b:UInt8) (h0:65<=(b.toNat:Int)) (h1:(b.toNat:Int)<=90):(b.toNat:Int)-65+97=((b|||32).toNat:Int):=by
 have h:∀n,n<256->65<=n->n<=90->(((UInt8.ofNat n).toNat:Nat):Int)-65+97=(((UInt8.ofNat n|||32).toNat:Nat):Int):=by decide+kernel
 have:=h b.toNat b.toNat_lt (by omega) (by omega);rw[xd] at this;exact this
theorem zfp (s:ByteArray) (i:Nat) (hi:i<=s.size):
  ((gZ s i).toNat=120/\i<s.size/\QH s i=.ok (-1,0,i+1))∨
  ((gZ s i).toNat≠120/\0<=yP (gZ s i)/\i<s.size/\QH s i=.ok (yP (gZ s i),0,i+1))∨
  ((gZ s i).toNat≠120/\yP (gZ s i)<0/\65<=(gZ s i).toNat/\(gZ s i).toNat<=90/\0<=yP (gZ s i|||32)/\i<s.size/\pY s (i+1) 49 57=false/\QH s i=.error (180,i+1))∨
  ((gZ s i).toNat≠120/\yP (gZ s i)<0/\65<=(gZ s i).toNat/\(gZ s i).toNat<=90/\0<=yP (gZ s i|||32)/\i<s.size/\pY s (i+1) 49 57=true/\QH s i=.ok (yP (gZ s i|||32),(gZ s (i+1)).toNat-48,i+2))∨
  ((gZ s i).toNat≠120/\yP (gZ s i)<0/\((gZ s i).toNat<65∨90<(gZ s i).toNat∨(65<=(gZ s i).toNat/\(gZ s i).toNat<=90/\yP (gZ s i|||32)<0))/\QH s i=.error (180,i)):=by
 by_cases hlt:i<s.size
 ·have hb:pg s i 120=(((gZ s i).toNat:Int)==120):=by rw[QX hlt,Z3 hlt]
  have hin:pY s i 65 90=(decide (65<=((gZ s i).toNat:Int))&&decide (((gZ s i).toNat:Int)<=90)):=by rw[Vp hlt,Z3 hlt]
  unfold QH;generalize gZ s i=b at*;by_cases h0:b.toNat=120
  ·left;refine⟨h0,hlt,?_⟩;rw[hb,qy (by simp[h0])]
  ·right;rw[qx (by rw[hb];simp;omega),qx (by simpa using hlt)];by_cases h1:0<=yP b
   ·left;exact⟨h0,h1,hlt,by rw[qy h1]⟩
   ·right;rw[qx h1];by_cases h2:65<=b.toNat/\b.toNat<=90
    ·have hi2:pY s i 65 90=true:=(by rw[hin,qK (by omega),qK (by omega)];rfl);by_cases h3:0<=yP (b|||32)
     ·rw[qx (by rw[hi2];simp;omega)];cases h4:pY s (i+1) 49 57 with
      |false=>left;exact⟨h0,by omega,h2.1,h2.2,h3,hlt,rfl,by rw[qy (by simp)]⟩
      |true=>right;left;exact⟨h0,by omega,h2.1,h2.2,h3,hlt,rfl,by rw[qx (by simp)]⟩
     ·right;right;exact⟨h0,by omega,.inr (.inr ⟨h2.1,h2.2,by omega⟩),by rw[qy (.inr (by omega))]⟩
    ·right;right;have hi2:pY s i 65 90=false:=by
      rw[hin];by_cases h3:65<=b.toNat
      ·rw[zh (p:=((b.toNat:Int)<=90)) (by omega),xJ]
      ·rw[zh (p:=(65<=(b.toNat:Int))) (by omega)];rfl
     exact⟨h0,by omega,by omega,by rw[qy (.inl (by rw[hi2];simp))]⟩
 ·right;right;right;right;have hb:gZ s i=0:=zbe hlt;rw[hb];refine⟨by decide,zkZ,.inl (by decide),?_⟩;unfold QH;rw[qx (by rw[zcE hlt];simp),qy hlt]
theorem zgR {s:ByteArray} {gN:List UInt8} {ms:List Mk} {i p:Nat} {c:Int} (h:QY s gN ms i=.error (c,p)):c≠0:=by
 unfold QY at h;by_cases hm:(if pg s i 126=true then 4 else 1)<=pO ms (gZ s i).toNat
 ·rw[qy hm] at h;cases h;decide
 ·rw[qx hm] at h;split at h
  ·split at h
   ·cases h;decide
   ·split at h
    ·cases h;decide
    ·cases h
  ·cases hn:yL s 1 (i+1) with
   |error e=>
    obtain⟨c',p'⟩:=e;rw[hn] at h;cases h;exact zbI hn
   |ok ve=>
    rw[hn] at h;simp only at h;split at h
    ·cases h;decide
    ·cases h
theorem zj5 {s:ByteArray} {i j:Nat} {cls ref:Int} (h:QH s i=.ok (cls,ref,j)):j<=s.size:=by
 by_cases hi:i<s.size
 ·rcases zfp s i (by omega) with⟨_,h1,h2⟩|⟨_,_,h1,h2⟩|⟨_,_,_,_,_,_,_,h2⟩|⟨_,_,_,_,_,h1,h3,h2⟩|⟨_,_,_,h2⟩
  ·rw[h2] at h;cases h;omega
  ·rw[h2] at h;cases h;omega
  ·rw[h2] at h;cases h
  ·rw[h2] at h;cases h;have:=zb7 h3;omega
  ·rw[h2] at h;cases h
 ·unfold QH at h;rw[qx (by rw[zcE hi];simp),qy hi] at h;cases h
theorem zgS {s:ByteArray} {gN:List UInt8}:∀(f:Nat) (ms:List Mk) (i:Nat) {ms':List Mk} {k:Nat},i<=s.size->QV s gN f ms i=.ok (ms',k)->k<=s.size
 |0,ms,i,ms',k,hi,h=>by unfold QV at h;cases h;exact hi
 |f+1,ms,i,ms',k,hi,h=>by
  unfold QV at h;split at h
  ·rename_i hc;cases hm:QY s gN ms i with
   |error e=>rw[hm] at h;cases h
   |ok mj=>
    obtain⟨m,j⟩:=mj;rw[hm] at h;obtain⟨h1,h2,h3⟩:=zcW hc.1 hc.2 hm;exact zgS f _ j (by have:=(zdz h2).2;omega) h
  ·cases h;exact hi
theorem zim {s:ByteArray} {gN:List UInt8} {i k:Nat} {x:It} (h:Yd s gN i=.ok (x,k)):k<=s.size:=by
 unfold Yd at h;cases hr:QH s i with
 |error e=>rw[hr] at h;cases h
 |ok r=>
  obtain⟨cls,ref,j⟩:=r;rw[hr] at h;simp only at h;cases hm:QV s gN (s.size+1) [] j with
  |error e=>rw[hm] at h;cases h
  |ok mk=>
   obtain⟨ms,k2⟩:=mk;rw[hm] at h;simp only at h;split at h
   ·cases h
   ·cases h;exact zgS _ _ _ (zj5 hr) hm
theorem Off.into {L L':List Nat} {w W W':World} (h:Off L w W) (h':Off L' W W') (hl:∀k∈L',k∈L∨w.heap.size<=k):Off L w W':=
 ⟨h'.os.trans h.os,h'.tape.trans h.tape,h'.output.trans h.output,qm h.size h'.size,λk hk hn=>(h'.block k (qD hk h.size) (λhm=>(hl k hm).elim hn (λh=>by omega))).trans (h.block k hk hn)⟩
structure XE (w W:World) (rb:Nat) (cls ref:Int) (v:Value) (a:Nat):Prop where
 off:Off [rb] w W
 res:W.heap[w.heap.size]?=some (.cells #[.int .i64 0,.int .i64 0,.slice none 0 0,.int .i64 0] 99 (0,0))
 x:W.heap[w.heap.size+1]?=some (.cells (xrC cls ref v a) 99 (0,0))
theorem XE.pz {w W W':World} {rb:Nat} {cls ref:Int} {v:Value} {a:Nat} (h:XE w W rb cls ref v a) (hr:rb<w.heap.size) (ho:Off [rb] W W'):XE w W' rb cls ref v a:=
 ⟨h.off.trans ho,(ho.block _ (qg h.res).1 (by simp;omega)).trans h.res,(ho.block _ (qg h.x).1 (by simp;omega)).trans h.x⟩
theorem XE.Ye {w W:World} {rb:Nat} {cls ref:Int} {v:Value} {a:Nat} (h:XE w W rb cls ref v a) (hr:rb<w.heap.size) (c:Int):
  XE w (W.setCell ⟨w.heap.size+1,0,none⟩ (.int .i64 c)) rb c ref v a/\XE w (W.setCell ⟨w.heap.size+1,1,none⟩ (.int .i64 c)) rb cls c v a:=by
 have o0:=Off.setCell W (w.heap.size+1) 0 (.int .i64 c);have o1:=Off.setCell W (w.heap.size+1) 1 (.int .i64 c);have hl:=(qg h.res).1;have hk:∀{W':World},Off [w.heap.size+1] W W'->Off [rb] w W':=λ{W'} o=>⟨o.os.trans h.off.os,o.tape.trans h.off.tape,o.output.trans h.off.output,qm h.off.size o.size,λk hk hn=>(o.block k (by omega) (by simp;omega)).trans (h.off.block k hk hn)⟩;exact⟨⟨hk o0,(o0.block _ hl (by simp)).trans h.res,qs W _ 0 _ _ (.int .i64 c) h.x⟩,⟨hk o1,(o1.block _ hl (by simp)).trans h.res,qs W _ 1 _ _ (.int .i64 c) h.x⟩⟩
theorem RR.Ye {w W:World} {rb:Nat} {s:ByteArray} {F:RF} {j:Nat} {no wh:Int} (h:RR W rb s j no wh F) (hr:rb<w.heap.size) (o:Nat) (c:Value):RR (W.setCell ⟨w.heap.size+1,o,none⟩ c) rb s j no wh F:=
 h.off (Off.setCell W (w.heap.size+1) o c) (by simp;omega)
def zqL (w wx:World) (rb:Nat) (s:ByteArray) (F:RF) (i:Nat):Prop:=∃cls ref,XE w wx rb cls ref (.slice none 0 0) i/\match QH s i with
 |.ok (c,r,j)=>cls=c/\ref=r/\j<=s.size/\RR wx rb s j 0 0 F
 |.error (c,p)=>c≠0/\∃j,RR wx rb s j c p F
def RhL (w W:World) (rb:Nat) (s:ByteArray) (F:RF) (gN:List UInt8) (cls ref:Int) (i:Nat) (RM:Except (Int×Nat) (List Mk×Nat)):Prop:=
 (∃ms v j q,XE w W rb cls ref v i/\Qy W w.heap.size v ms/\RR W rb s j 0 0 F/\j<=s.size/\s.size-j<q/\QV s gN q ms j=RM/\ms.length<=j)∨
 (∃(c:Int) (p j:Nat) (A:Option Addr) (n cp:Nat),c≠0/\XE w W rb cls ref (.slice A n cp) i/\RR W rb s j c p F/\RM=.error (c,p))
def RhM (w w':World) (rb:Nat) (s:ByteArray) (F:RF) (cls ref:Int) (a:Nat) (ms:List Mk) (R:Except (Int×Nat) (Mk×Nat)):Prop:=match R with
 |.ok (m,j)=>RR w' rb s j 0 0 F/\∃v',XE w w' rb cls ref v' a/\Qy w' w.heap.size v' (ms++[m])
 |.error (c,p)=>∃j,RR w' rb s j c p F/\∃A n cp,XE w w' rb cls ref (.slice A n cp) a
theorem XE.mark {w W w':World} {rb:Nat} {s:ByteArray} {F:RF} {cls ref:Int} {v:Value} {a:Nat} {ms:List Mk} {R:Except (Int×Nat) (Mk×Nat)} (h:XE w W rb cls ref v a) (hr:rb<w.heap.size) (hm:Qy W w.heap.size v ms) (hR:zj0 w.heap.size rb (w.heap.size+1) s F cls ref a v ms W R w'):RhM w w' rb s F cls ref a ms R:=by
 obtain⟨ho,hR⟩:=hR;have hge:∀k∈v.ownBlock.toList,w.heap.size<=k:=λk hk=>by rw[zE] at hk;exact(hm.lt k hk).1
 have hno:w.heap.size∉v.ownBlock.toList:=λhk=>by
  rw[zE] at hk;rcases pI hm h.res (by decide) with h1|h1
  ·rw[h1] at hk;cases hk
  ·exact h1 hk
 have hof:Off [rb] w w':=h.off.into ho (λk hk=>by
  simp only[zi] at hk;rcases hk with rfl|rfl|hk
  ·exact .inl (by simp)
  ·right;omega
  ·exact .inr (hge k hk))
 have hres:=(ho.block w.heap.size (qg h.res).1 (by simp only[zi,not_or];exact⟨by omega,by omega,hno⟩)).trans h.res;cases R with
 |error e=>
  obtain⟨c,p⟩:=e;obtain⟨⟨j,hr'⟩,A,n,cp,hx⟩:=hR;exact⟨j,hr',A,n,cp,hof,hres,hx⟩
 |ok mj=>
  obtain⟨m,j⟩:=mj;obtain⟨hr',v',hx,hm'⟩:=hR;exact⟨hr',v',⟨hof,hres,hx⟩,hm'⟩
def zmJ (rb:Nat) (s:ByteArray) (F:RF) (w:World) (r:Except (Int×Nat) (It×Nat)) (e:Ending) (w':World):Prop:=Off [rb] w w'/\
 match r with
 |.ok (x,k)=>∃v,e=.returned (.agg (xrC x.cls x.ref v x.at_))/\Qy w' w.heap.size v x.gP/\RR w' rb s k 0 0 F/\k<=s.size
 |.error (c,p)=>c≠0/\(∃j,RR w' rb s j c p F)/\∃cls ref a A n cp,e=.returned (.agg (xrC cls ref (.slice A n cp) a))
theorem zcf {W:World} {T:Array Value} {Q:Ending->World->Prop} {P:Nat} {v0 v1 v2 v3:Value} (h2:T.getD 2 undef=.pointer (some ⟨P,0,none⟩)) (r:W.heap[P]?=some (.cells #[v0,v1,v2,v3] 99 (0,0))) (hQ:Q (.returned (.agg #[v0,v1,v2,v3])) W):
  bodyPost Tryz.prog Tryz.f102 Q Exit.ret {tmps:=T,defers:=[]} W:=by
 have d0:W.cell? ⟨P,0,none⟩=some v0:=qc _ _ _ _ _ (0,0) r;have d1:W.cell? ⟨P,1,none⟩=some v1:=qc _ _ _ _ _ (0,0) r;have d2:W.cell? ⟨P,2,none⟩=some v2:=qc _ _ _ _ _ (0,0) r;have d3:W.cell? ⟨P,3,none⟩=some v3:=qc _ _ _ _ _ (0,0) r;have h2':T[2]?.getD undef=.pointer (some ⟨P,0,none⟩):=by simpa using h2
 refine zt (v:=.agg #[v0,v1,v2,v3]) ?_ rfl hQ;simp[results,Tryz.f102,go_sem,h2',d0,d1,d2,d3,Tryz.isAgg99,Tryz.sizeOf99]
theorem XE.fin {w W:World} {rb:Nat} {cls ref:Int} {v:Value} {a:Nat} (h:XE w W rb cls ref v a) (v0 v1 v2 v3:Value):
  Off [w.heap.size] W ((((W.setCell ⟨w.heap.size,0,none⟩ v0).setCell ⟨w.heap.size,1,none⟩ v1).setCell ⟨w.heap.size,2,none⟩ v2).setCell ⟨w.heap.size,3,none⟩ v3)/\
  ((((W.setCell ⟨w.heap.size,0,none⟩ v0).setCell ⟨w.heap.size,1,none⟩ v1).setCell ⟨w.heap.size,2,none⟩ v2).setCell ⟨w.heap.size,3,none⟩ v3).heap[w.heap.size]?=some (.cells #[v0,v1,v2,v3] 99 (0,0)):=
 ⟨(((Off.setCell W w.heap.size 0 v0).trans (Off.setCell _ w.heap.size 1 v1)).trans (Off.setCell _ w.heap.size 2 v2)).trans (Off.setCell _ w.heap.size 3 v3),
  qs _ _ 3 _ _ v3 (qs _ _ 2 _ _ v2 (qs _ _ 1 _ _ v1 (qs W _ 0 _ _ v0 h.res)))⟩
theorem zj6 (Bl rb:Nat) (s:ByteArray) (i:Nat) (F:RF) (gN:List UInt8) (w:World) (h:RR w rb s i 0 0 F) (hi:i<=s.size) (hl:w.ownsRow Bl 5 1 F.vl gN.length (Z6 gN)) (hll:gN.length<=70000):
  Calls Tryz.prog 102 #[.pointer (some ⟨rb,0,none⟩)] w (zmJ rb s F w (Yd s gN i)):=by
 have hrb:=h.lt;have hsz:=h.sz;have h0:XE w ((w.alloc (.cells #[.int .i64 0,.int .i64 0,.slice none 0 0,.int .i64 0] 99)).alloc (.cells #[.int .i64 (-1),.int .i64 0,.slice none 0 0,.int .i64 i] 99)) rb (-1) 0 (.slice none 0 0) i:=by
  refine⟨((Off.alloc _ w _).trans (Off.alloc _ _ _)),(qa _ _ _ (by simp)).trans (qn w _),?_⟩;have:=qn (w.alloc (.cells #[.int .i64 0,.int .i64 0,.slice none 0 0,.int .i64 0] 99)) (.cells #[.int .i64 (-1),.int .i64 0,.slice none 0 0,.int .i64 i] 99);rw[qO] at this;exact this
 have r1a:=h.c1;have Za:Below w.heap.size w ((w.alloc (.cells #[.int .i64 0,.int .i64 0,.slice none 0 0,.int .i64 0] 99)).alloc (.cells #[.int .i64 (-1),.int .i64 0,.slice none 0 0,.int .i64 i] 99)):=((qb _ _).alloc (ql _) _).alloc (by simp) _;have hb0:yQ 0 s i=gZ s i:=by unfold yQ;rw[qy rfl]
 have Hc:=qh (vZ rb s i 0 0 F _ (h.below Za));rw[hb0] at Hc;have H1:=qh (λn=>qY (h0.pz hrb (Off.drewN _ _ n)) ((h.below Za).drewN n));have H:=qh h;have Hl:=qh hl;generalize hR:Yd s gN i=R;have HR:=qh hR;clear h h0 Za hl hR hb0;go_enter Tryz.func102,Tryz.ntmps102;go_wp2_with fail;refine Hc.out.mono ?_;rintro e w2 ⟨rfl,n2,rfl⟩;obtain⟨hJ1,hr1⟩:=H1.out n2;have Xk:=qh hJ1;have Vt:=qh hr1;clear hJ1 hr1 H1 Hc r1a;go_upto_if 13 with fail
 generalize ((w.alloc (.cells #[.int .i64 0,.int .i64 0,.slice none 0 0,.int .i64 0] 99)).alloc (.cells #[.int .i64 (-1),.int .i64 0,.slice none 0 0,.int .i64 i] 99)).drewN n2=W1 at*;have hw1:IntKind.i64.wrap ((i:Int)+1)=(i:Int)+1:=qi _ (by omega);have hc1:((i+1:Nat):Int)=(i:Int)+1:=by omega
 have H2:Hid (RR (W1.setCell ⟨rb,1,none⟩ (.int .i64 ((i:Int)+1))) rb s (i+1) 0 0 F/\XE w (W1.setCell ⟨rb,1,none⟩ (.int .i64 ((i:Int)+1))) rb (-1) 0 (.slice none 0 0) i):=qh (by
  rw[<-hc1];exact⟨Vt.out.to (by omega),Xk.out.pz hrb (Off.setCell W1 rb 1 _)⟩)
 have J7:=zfp s i hi;have Qe:=qh (λW=>zfS (zfn (gZ s i) W));have Xt:=qh (λW=>zfS (zfn (gZ s i|||32) W));have Hor:=qh (zmI (gZ s i));generalize hbc:gZ s i=bc at*;obtain⟨uc,huc⟩:∃uc:UInt8,bc|||32=uc:=⟨_,rfl⟩
 rw[huc] at J7 Xt Hor;clear huc;go_cut [83] from 13 to 83 (λv83 wx=>Hid (zqL w wx rb s F i))
 case first=>
  have r1:=Vt.out.c1;have z1:=Vt.out.z 1;rcases J7 with⟨h1,hlt,hP⟩|⟨h1,h2,hlt,hP⟩|⟨h1,h2,h3,h4,h5,hlt,h6,hP⟩|⟨h1,h2,h3,h4,h5,hlt,h6,hP⟩|⟨h1,h2,h3,hP⟩
  ·have q0:((bc.toNat:Int)==120)=true:=(by simp[h1]);have gT:Hid (zqL w (W1.setCell ⟨rb,1,none⟩ (.int .i64 ((i:Int)+1))) rb s F i):=qh ⟨-1,0,H2.out.2,by rw[hP];exact⟨rfl,rfl,by omega,H2.out.1⟩⟩;clear hP h1;go_wp2_with fail;go_meet
   exact gT
  ·have q0:((bc.toNat:Int)==120)=false:=(by simp;omega);have d1:decide (0<=yP bc)=true:=qt h2;have hx:=Xk.out.x;have x0:=qc _ _ 0 _ _ (0,0) hx;have xz0:=qf _ _ 0 _ _ hx;have Hs:=qh (RR.Ye Vt.out hrb 0 (.int .i64 (yP bc)));have r2:=Hs.out.c1;have rz2:=Hs.out.z 1;have hfin:zqL w ((W1.setCell ⟨w.heap.size+1,0,none⟩ (.int .i64 (yP bc))).setCell ⟨rb,1,none⟩ (.int .i64 ((i:Int)+1))) rb s F i:=by
    rw[<-hc1];exact⟨yP bc,0,(Xk.out.Ye hrb (yP bc)).1.pz hrb (Off.setCell _ rb 1 _),by rw[hP];exact⟨rfl,rfl,by omega,Hs.out.to (by omega)⟩⟩
   have gT:=qh hfin;clear hP h1 h2 hfin hx;go_wp2_with fail;refine(Qe.out _).mono ?_;rintro e w2 ⟨rfl,rfl⟩;go_wp2_with fail;refine(Qe.out _).mono ?_;rintro e w2 ⟨rfl,rfl⟩;go_wp2_with fail;go_meet
   exact gT
  ·have q0:((bc.toNat:Int)==120)=false:=(by simp;omega);have d1:decide (0<=yP bc)=false:=qd (by omega);have d2:decide (0<=yP uc)=true:=qt h5;have d3:decide (65<=(bc.toNat:Int))=true:=qt (by omega);have d4:decide ((bc.toNat:Int)<=90)=true:=qt (by omega);have hu1:IntKind.u8.wrap ((bc.toNat:Int)-65)=(bc.toNat:Int)-65:=zfI (by omega) (by omega);have hu2:IntKind.u8.wrap ((bc.toNat:Int)-65+97)=(uc.toNat:Int):=(by rw[Hor.out (by omega) (by omega)];exact zfI (by omega) (by have:=uc.toNat_lt;omega));have hx:=Xk.out.x;have x0:=qc _ _ 0 _ _ (0,0) hx;have xz0:=qf _ _ 0 _ _ hx;have Hs:=qh (RR.Ye Vt.out hrb 0 (.int .i64 (yP uc)));have r2:=Hs.out.c1;have rz2:=Hs.out.z 1;have h7:RR ((W1.setCell ⟨w.heap.size+1,0,none⟩ (.int .i64 (yP uc))).setCell ⟨rb,1,none⟩ (.int .i64 ((i:Int)+1))) rb s (i+1) 0 0 F/\XE w ((W1.setCell ⟨w.heap.size+1,0,none⟩ (.int .i64 (yP uc))).setCell ⟨rb,1,none⟩ (.int .i64 ((i:Int)+1))) rb (yP uc) 0 (.slice none 0 0) i:=by
    rw[<-hc1];exact⟨Hs.out.to (by omega),(Xk.out.Ye hrb (yP uc)).1.pz hrb (Off.setCell _ rb 1 _)⟩
   have H7:=qh h7;have HP:=qh hP;clear hP h1 h2 h7 hx h5;go_wp2_with fail;refine(Qe.out _).mono ?_;rintro e w2 ⟨rfl,rfl⟩;go_wp2_with fail;refine(Xt.out _).mono ?_;rintro e w2 ⟨rfl,rfl⟩;go_wp2_with fail;refine(Xt.out _).mono ?_;rintro e w2 ⟨rfl,rfl⟩;go_wp2_with fail;obtain⟨KK,hJ7⟩:=H7.out;generalize (W1.setCell ⟨w.heap.size+1,0,none⟩ (.int .i64 (yP uc))).setCell ⟨rb,1,none⟩ (.int .i64 ((i:Int)+1))=W2 at*;have Hr7:=qh KK;have HJ7:=qh hJ7;have hb2:yQ 0 s (i+1)=gZ s (i+1):=(by unfold yQ;rw[qy rfl]);have Hc2:=qh (λn=>vZ rb s (i+1) 0 0 F (W2.drewN n) (KK.drewN n));have zp9:=qh (Hc2.out 0);have hin:=zgP (no:=0) (s:=s) (i:=i+1) (a:=49) (b:=57) rfl (by omega);have h6':=h6;rw[hb2] at Hc2 zp9 hin;rw[hin] at h6;clear hin H7 r2 rz2 x0 xz0 r1 z1 KK hJ7 Hs hb2;have YZ:R=.error (180,i+1):=(by rw[<-HR.out];unfold Yd;rw[HP.out]);have HR3:=qh YZ;clear h6' YZ;have hb3:((gZ s (i+1)).toNat:Int)<49∨(49<=((gZ s (i+1)).toNat:Int)/\57<((gZ s (i+1)).toNat:Int)):=by
    by_cases g1:((gZ s (i+1)).toNat:Int)<49
    ·exact .inl g1
    ·right;refine⟨by omega,?_⟩;by_cases g2:57<((gZ s (i+1)).toNat:Int)
     ·exact g2
     ·rw[qK (by omega),qK (by omega)] at h6;cases h6
   generalize gZ s (i+1)=b2 at*;have Qx:=qh (λn=>zbu rb s (i+1) 0 0 F (W2.drewN n) (Hr7.out.drewN n));have HE:Hid (∀n w5,RR w5 rb s (i+1) (QQ 0 180) (ZV 0 0 ((i+1:Nat):Int)) F->Off [rb] (W2.drewN n) w5->XE w w5 rb (yP uc) 0 (.slice none 0 0) i):=qh (λn w5 pi pH=>HJ7.out.pz hrb ((Off.drewN _ W2 n).trans pH));clear h6;rcases hb3 with g1|⟨g1,g2⟩
   rotate_right;have n1:¬(b2.toNat:Int)<49:=(by omega);have e1:decide ((b2.toNat:Int)<49)=false:=qd n1;have e2:decide (57<(b2.toNat:Int))=true:=qt g2;refine zp9.out.mono ?_;rintro e w4 ⟨rfl,n4,rfl⟩;go_wp2_with fail;refine(Hc2.out _).mono ?_;rintro e w4 ⟨rfl,n5,rfl⟩
   rotate_right;have e1:decide ((b2.toNat:Int)<49)=true:=qt g1;refine zp9.out.mono ?_;rintro e w4 ⟨rfl,n4,rfl⟩
   all_goals(go_wp2_with fail;refine(Qx.out _).mono ?_;rintro e w5 ⟨rfl,pi,pH⟩;have Q1:=HE.out _ _ pi pH;have x0:w5.cell? ⟨w.heap.size+1,0,none⟩=some (.int .i64 (yP uc)):=qc _ _ 0 _ _ (0,0) Q1.x;have x1:w5.cell? ⟨w.heap.size+1,1,none⟩=some (.int .i64 0):=qc _ _ 1 _ _ (0,0) Q1.x;have x2:w5.cell? ⟨w.heap.size+1,2,none⟩=some (.slice none 0 0):=qc _ _ 2 _ _ (0,0) Q1.x;have x3:w5.cell? ⟨w.heap.size+1,3,none⟩=some (.int .i64 i):=qc _ _ 3 _ _ (0,0) Q1.x;have y0:=qc _ _ 0 _ _ (0,0) Q1.res;have y1:=qc _ _ 1 _ _ (0,0) Q1.res;have y2:=qc _ _ 2 _ _ (0,0) Q1.res;have y3:=qc _ _ 3 _ _ (0,0) Q1.res;have z0:=qf _ _ 0 _ _ Q1.res;have z1:=qf _ _ 1 _ _ Q1.res;have z2:=qf _ _ 2 _ _ Q1.res;have z3:=qf _ _ 3 _ _ Q1.res;have hfin:=Q1.fin (.int .i64 (yP uc)) (.int .i64 0) (.slice none 0 0) (.int .i64 i);have Y0:Off [rb] w _:=Off.into Q1.off hfin.1 (λk hk=>by simp at hk;omega);have Y1:=pi.off hfin.1 (by simp;omega);have gT:=qh hfin;have Kq:=qh Y0;have Kr:=qh Y1;clear pi pH Q1 hfin Y0 Y1;go_wp2_with fail;refine zcf rfl gT.out.2 ⟨Kq.out,?_⟩;rw[HR3.out];exact⟨by decide,⟨_,Kr.out⟩,_,_,_,_,_,_,rfl⟩)
  ·have q0:((bc.toNat:Int)==120)=false:=(by simp;omega);have d1:decide (0<=yP bc)=false:=qd (by omega);have d2:decide (0<=yP uc)=true:=qt h5;have d3:decide (65<=(bc.toNat:Int))=true:=qt (by omega);have d4:decide ((bc.toNat:Int)<=90)=true:=qt (by omega);have hu1:IntKind.u8.wrap ((bc.toNat:Int)-65)=(bc.toNat:Int)-65:=zfI (by omega) (by omega);have hu2:IntKind.u8.wrap ((bc.toNat:Int)-65+97)=(uc.toNat:Int):=(by rw[Hor.out (by omega) (by omega)];exact zfI (by omega) (by have:=uc.toNat_lt;omega));have hx:=Xk.out.x;have x0:=qc _ _ 0 _ _ (0,0) hx;have xz0:=qf _ _ 0 _ _ hx;have Hs:=qh (RR.Ye Vt.out hrb 0 (.int .i64 (yP uc)));have r2:=Hs.out.c1;have rz2:=Hs.out.z 1;have h7:RR ((W1.setCell ⟨w.heap.size+1,0,none⟩ (.int .i64 (yP uc))).setCell ⟨rb,1,none⟩ (.int .i64 ((i:Int)+1))) rb s (i+1) 0 0 F/\XE w ((W1.setCell ⟨w.heap.size+1,0,none⟩ (.int .i64 (yP uc))).setCell ⟨rb,1,none⟩ (.int .i64 ((i:Int)+1))) rb (yP uc) 0 (.slice none 0 0) i:=by
    rw[<-hc1];exact⟨Hs.out.to (by omega),(Xk.out.Ye hrb (yP uc)).1.pz hrb (Off.setCell _ rb 1 _)⟩
   have H7:=qh h7;have HP:=qh hP;clear hP h1 h2 h7 hx h5;go_wp2_with fail;refine(Qe.out _).mono ?_;rintro e w2 ⟨rfl,rfl⟩;go_wp2_with fail;refine(Xt.out _).mono ?_;rintro e w2 ⟨rfl,rfl⟩;go_wp2_with fail;refine(Xt.out _).mono ?_;rintro e w2 ⟨rfl,rfl⟩;go_wp2_with fail;obtain⟨KK,hJ7⟩:=H7.out;generalize (W1.setCell ⟨w.heap.size+1,0,none⟩ (.int .i64 (yP uc))).setCell ⟨rb,1,none⟩ (.int .i64 ((i:Int)+1))=W2 at*;have Hr7:=qh KK;have HJ7:=qh hJ7;have hb2:yQ 0 s (i+1)=gZ s (i+1):=(by unfold yQ;rw[qy rfl]);have Hc2:=qh (λn=>vZ rb s (i+1) 0 0 F (W2.drewN n) (KK.drewN n));have zp9:=qh (Hc2.out 0);have hin:=zgP (no:=0) (s:=s) (i:=i+1) (a:=49) (b:=57) rfl (by omega);have h6':=h6;rw[hb2] at Hc2 zp9 hin;rw[hin] at h6;clear hin H7 r2 rz2 x0 xz0 r1 z1 KK hJ7 Hs hb2;have HI:Hid (i+1<s.size):=qh (zb7 (h6':pY s (i+1) 49 57=true));simp only[qA,qC] at h6;generalize gZ s (i+1)=b2 at*;have e1:decide ((b2.toNat:Int)<49)=false:=qd (by omega);have e2:decide (57<(b2.toNat:Int))=false:=qd (by omega);have n1:¬(b2.toNat:Int)<49:=(by omega);have n2':¬57<(b2.toNat:Int):=(by omega);have hu3:IntKind.u8.wrap ((b2.toNat:Int)-48)=(b2.toNat:Int)-48:=zfI (by omega) (by omega);have hc2:((i+2:Nat):Int)=(i:Int)+1+1:=(by omega);have hw2:IntKind.i64.wrap ((i:Int)+1+1)=(i:Int)+1+1:=qi _ (by omega);have hx7:=HJ7.out.x;have y1:=qc _ _ 1 _ _ (0,0) hx7;have yz1:=qf _ _ 1 _ _ hx7;have Hs2:=qh (λn=>RR.Ye (Hr7.out.drewN n) hrb 1 (.int .i64 ((b2.toNat:Int)-48)));have t1:=λn=>(Hs2.out n).c1;have tz1:=λn=>(Hs2.out n).z 1;have hfin:∀n,zqL w (((W2.drewN n).setCell ⟨w.heap.size+1,1,none⟩ (.int .i64 ((b2.toNat:Int)-48))).setCell ⟨rb,1,none⟩ (.int .i64 ((i:Int)+1+1))) rb s F i:=λn=>by
    rw[<-hc2];have hlt2:=Hr7.out.sz;have h9:=HI.out;exact⟨yP uc,(b2.toNat:Int)-48,((HJ7.out.pz hrb (Off.drewN _ W2 n)).Ye hrb ((b2.toNat:Int)-48)).2.pz hrb (Off.setCell _ rb 1 _),by rw[HP.out];exact⟨rfl,rfl,by omega,(Hs2.out n).to (by omega)⟩⟩
   have gT:=qh hfin;clear hc2 hfin hx7;refine zp9.out.mono ?_;rintro e w4 ⟨rfl,n4,rfl⟩;go_wp2_with fail;refine(Hc2.out _).mono ?_;rintro e w4 ⟨rfl,n5,rfl⟩;go_wp2_with fail;refine(Hc2.out _).mono ?_;rintro e w4 ⟨rfl,n6,rfl⟩;go_wp2_with fail;go_meet
   exact gT.out _
  ·have q0:((bc.toNat:Int)==120)=false:=(by simp;omega);have d1:decide (0<=yP bc)=false:=qd (by omega);have Qx:=qh (zbu rb s i 0 0 F W1 Vt.out);have HB:Hid (∀w4,RR w4 rb s i (QQ 0 180) (ZV 0 0 (i:Int)) F->Off [rb] W1 w4->zqL w w4 rb s F i):=qh (λw4 hr4 QI=>⟨-1,0,Xk.out.pz hrb QI,by rw[hP];exact⟨by decide,_,hr4⟩⟩);clear hP h1 h2;have hw3:((bc.toNat:Int)<65)∨(65<=(bc.toNat:Int)/\90<(bc.toNat:Int))∨(65<=(bc.toNat:Int)/\(bc.toNat:Int)<=90/\yP uc<0):=(by omega);clear h3;rcases hw3 with g1|⟨g1,g2⟩|⟨g1,g2,g3⟩
   rotate_right;have d3:decide (65<=(bc.toNat:Int))=true:=qt g1;have d4:decide ((bc.toNat:Int)<=90)=true:=qt g2;have d2:decide (0<=yP uc)=false:=qd (by omega);have hu1:IntKind.u8.wrap ((bc.toNat:Int)-65)=(bc.toNat:Int)-65:=zfI (by omega) (by omega);have hu2:IntKind.u8.wrap ((bc.toNat:Int)-65+97)=(uc.toNat:Int):=(by rw[Hor.out g1 g2];exact zfI (by omega) (by have:=uc.toNat_lt;omega));go_wp2_with fail;refine(Qe.out _).mono ?_;rintro e w2 ⟨rfl,rfl⟩;go_wp2_with fail;refine(Xt.out _).mono ?_
   rotate_right;have d3:decide (65<=(bc.toNat:Int))=true:=qt g1;have d4:decide ((bc.toNat:Int)<=90)=false:=qd (by omega);go_wp2_with fail;refine(Qe.out _).mono ?_
   rotate_right;have d3:decide (65<=(bc.toNat:Int))=false:=qd (by omega);go_wp2_with fail;refine(Qe.out _).mono ?_
   all_goals
    rintro e w2 ⟨rfl,rfl⟩;go_wp2_with fail;refine Qx.out.mono ?_;rintro e w4 ⟨rfl,hr4,QI⟩;have gT:=qh (HB.out w4 hr4 QI);clear hr4 QI;go_wp2_with fail;go_meet
    exact gT
 case rest=>
  obtain⟨W2,hW2⟩:∃W2:World,W2=wc:=⟨_,rfl⟩;subst hW2;obtain⟨cls,ref,hJ2,hm2⟩:=hcut.out;clear J7 Qe Xt Hor H2 Xk Vt hw1 hc1 hbc;obtain⟨RM,Vu⟩:∃RM:Except (Int×Nat) (List Mk×Nat),RM=match QH s i with|.error e=>.error e|.ok (_,_,j)=>QV s gN (s.size+1) [] j:=⟨_,rfl⟩
  have hL2:RhL w W2 rb s F gN cls ref i RM/\(∀ms k,RM=.ok (ms,k)->R=if¬vG s k/\¬pg s k 32 then .error (180,k) else .ok (⟨cls,ref,ms,i⟩,k))/\(∀e,RM=.error e->R=.error e):=by
   have hR:=HR.out;unfold Yd at hR;cases hP:QH s i with
   |error e=>obtain⟨c,p⟩:=e;rw[hP] at hm2 Vu hR;obtain⟨hc,j,hr⟩:=hm2;simp only at Vu hR;exact⟨.inr ⟨c,p,j,none,0,0,hc,hJ2,hr,Vu⟩,(λms k h=>by rw[Vu] at h;cases h),(λe h=>by rw[Vu] at h;cases h;exact hR.symm)⟩
   |ok r=>
    obtain⟨c1,c2,j⟩:=r;rw[hP] at hm2 Vu hR;obtain⟨rfl,rfl,hj,hr⟩:=hm2;simp only at Vu hR;refine⟨.inl ⟨[],_,j,s.size+1,hJ2,⟨rfl,.inl ⟨rfl,rfl⟩⟩,hr,hj,by omega,Vu.symm,by simp⟩,λms k h=>?_,λe h=>?_⟩
    ·rw[<-Vu,h] at hR;exact hR.symm
    ·rw[<-Vu,h] at hR;exact hR.symm
  obtain⟨hL,hRok,hRer⟩:=hL2;have HL:=qh hL;have HRok:=qh hRok;have HRer:=qh hRer;clear hcut hJ2 hm2 Vu hL hRok hRer;go_wp2_with fail;go_loopw [] (λwr=>Hid (RhL w wr rb s F gN cls ref i RM)) (λwr=>match wr.cell? ⟨rb,2,none⟩ with|some v=>if intOf v=0 then s.size+2-(match wr.cell? ⟨rb,1,none⟩ with|some u=>(intOf u).toNat|none=>0) else 0|none=>0)
  case atStart=>exact HL
  case round=>
   clear HL;rcases hrel.out with⟨ms,v,j,q,hJ,hm,hr,hj,hq,hT,hml⟩|⟨c,p,j,A,n,cp,hc,Q1,pi,Vu⟩
   ·obtain⟨A,cp,rfl⟩:=pJ hm;have p8:Hid (wr.cell? ⟨rb,2,none⟩=some (.int .i64 0)/\wr.cell? ⟨rb,1,none⟩=some (.int .i64 j)):=qh ⟨hr.c2,hr.c1⟩;have hb0:yQ 0 s j=gZ s j:=(by unfold yQ;rw[qy rfl]);have Hc:=qh (λn=>vZ rb s j 0 0 F (wr.drewN n) (hr.drewN n));rw[hb0] at Hc;have J6:=qh (Hc.out 0);have his:∀c:UInt8,c≠0->gZ s j=c->j<s.size:=λc h0 hb=>by
     by_cases hlt:j<s.size
     ·exact hlt
     ·rw[zbe hlt] at hb;exact absurd hb.symm h0
    have HJ:=qh hJ;have Hm:=qh hm;have Hr:=qh hr;rcases zcV (gZ s j) with⟨hsb,hsg⟩|⟨hsb,_⟩
    ·have hlt:j<s.size:=by
      rcases hsg with⟨h,_⟩|⟨h,_⟩|⟨h,_⟩|⟨h,_⟩|⟨h,_⟩|⟨h,_⟩<;>exact his _ (by decide) h
     have hLm:wr.ownsRow Bl 5 1 F.vl gN.length (Z6 gN):=hJ.off.pp Hl.out (pc.one H.out.r) (by decide);have zto:=qh (λn=>zj4 w.heap.size Bl rb (w.heap.size+1) s j F gN cls ref i (.slice A ms.length cp) ms (wr.drewN n) (hr.drewN n) hlt ((Off.drewN [] wr n).own hLm (λk hk=>by simp)) hll hJ.x ((Off.drewN [] wr n).own hm (λk hk=>by simp)) (by omega) hJ.off.size)
     have HN:Hid (∀n w5,zj0 w.heap.size rb (w.heap.size+1) s F cls ref i (.slice A ms.length cp) ms (wr.drewN n) (QY s gN ms j) w5->
       RhL w w5 rb s F gN cls ref i RM/\∃(no:Int) (j':Nat),w5.cell? ⟨rb,2,none⟩=some (.int .i64 no)/\w5.cell? ⟨rb,1,none⟩=some (.int .i64 j')/\(no=0->j<j')):=qh (λn w5 h5=>by
      have h6:=(hJ.pz hrb (Off.drewN [rb] wr n)).mark hrb ((Off.drewN [] wr n).own hm (λk hk=>by simp)) h5;cases q with
      |zero=>omega
      |succ q'=>
       unfold QV at hT;rw[qy ⟨hlt,hsb⟩] at hT;cases hmp:QY s gN ms j with
       |error e=>
        obtain⟨c,p⟩:=e;rw[hmp] at h6 hT;obtain⟨j',ZY,A',n',cp',hJ6⟩:=h6;have hc:=zgR hmp;exact⟨.inr ⟨c,p,j',A',n',cp',hc,hJ6,ZY,hT.symm⟩,c,j',ZY.c2,ZY.c1,λe=>absurd e hc⟩
       |ok mj=>
        obtain⟨m,j'⟩:=mj;rw[hmp] at h6 hT;obtain⟨ZY,v',hJ6,XD⟩:=h6;obtain⟨e1,e2,e3⟩:=zcW hlt hsb hmp;have e4:=zdz e2;exact⟨.inl ⟨ms++[m],v',j',q',hJ6,XD,ZY,by omega,by omega,hT,by simp;omega⟩,0,j',ZY.c2,ZY.c1,λ_=>by omega⟩)
     generalize gZ s j=bj at*;clear hrel hJ hm hr hT hsb his hb0 hLm;rcases hsg with⟨hbj,_⟩|⟨hbj,_⟩|⟨hbj,_⟩|⟨hbj,_⟩|⟨hbj,_⟩|⟨hbj,_⟩
     rotate_right;have g0:((bj.toNat:Int)==58)=false:=(by rw[hbj];rfl);have g1:((bj.toNat:Int)==47)=false:=(by rw[hbj];rfl);have g2:((bj.toNat:Int)==94)=false:=(by rw[hbj];rfl);have g3:((bj.toNat:Int)==64)=false:=(by rw[hbj];rfl);have g4:((bj.toNat:Int)==126)=false:=(by rw[hbj];rfl);have g5:((bj.toNat:Int)==39)=true:=(by rw[hbj];rfl);clear hbj;go_wp2_with fail;refine J6.out.mono ?_;rintro e w4 ⟨rfl,n0,rfl⟩;go_wp2_with fail;refine(Hc.out _).mono ?_;rintro e w4 ⟨rfl,n1,rfl⟩;go_wp2_with fail;refine(Hc.out _).mono ?_;rintro e w4 ⟨rfl,n2,rfl⟩;go_wp2_with fail;refine(Hc.out _).mono ?_;rintro e w4 ⟨rfl,n3,rfl⟩;go_wp2_with fail;refine(Hc.out _).mono ?_;rintro e w4 ⟨rfl,n4,rfl⟩;go_wp2_with fail;refine(Hc.out _).mono ?_;rintro e w4 ⟨rfl,n5,rfl⟩
     rotate_right;have g0:((bj.toNat:Int)==58)=false:=(by rw[hbj];rfl);have g1:((bj.toNat:Int)==47)=false:=(by rw[hbj];rfl);have g2:((bj.toNat:Int)==94)=false:=(by rw[hbj];rfl);have g3:((bj.toNat:Int)==64)=false:=(by rw[hbj];rfl);have g4:((bj.toNat:Int)==126)=true:=(by rw[hbj];rfl);clear hbj;go_wp2_with fail;refine J6.out.mono ?_;rintro e w4 ⟨rfl,n0,rfl⟩;go_wp2_with fail;refine(Hc.out _).mono ?_;rintro e w4 ⟨rfl,n1,rfl⟩;go_wp2_with fail;refine(Hc.out _).mono ?_;rintro e w4 ⟨rfl,n2,rfl⟩;go_wp2_with fail;refine(Hc.out _).mono ?_;rintro e w4 ⟨rfl,n3,rfl⟩;go_wp2_with fail;refine(Hc.out _).mono ?_;rintro e w4 ⟨rfl,n4,rfl⟩
     rotate_right;have g0:((bj.toNat:Int)==58)=false:=(by rw[hbj];rfl);have g1:((bj.toNat:Int)==47)=false:=(by rw[hbj];rfl);have g2:((bj.toNat:Int)==94)=false:=(by rw[hbj];rfl);have g3:((bj.toNat:Int)==64)=true:=(by rw[hbj];rfl);clear hbj;go_wp2_with fail;refine J6.out.mono ?_;rintro e w4 ⟨rfl,n0,rfl⟩;go_wp2_with fail;refine(Hc.out _).mono ?_;rintro e w4 ⟨rfl,n1,rfl⟩;go_wp2_with fail;refine(Hc.out _).mono ?_;rintro e w4 ⟨rfl,n2,rfl⟩;go_wp2_with fail;refine(Hc.out _).mono ?_;rintro e w4 ⟨rfl,n3,rfl⟩
     rotate_right;have g0:((bj.toNat:Int)==58)=false:=(by rw[hbj];rfl);have g1:((bj.toNat:Int)==47)=false:=(by rw[hbj];rfl);have g2:((bj.toNat:Int)==94)=true:=(by rw[hbj];rfl);clear hbj;go_wp2_with fail;refine J6.out.mono ?_;rintro e w4 ⟨rfl,n0,rfl⟩;go_wp2_with fail;refine(Hc.out _).mono ?_;rintro e w4 ⟨rfl,n1,rfl⟩;go_wp2_with fail;refine(Hc.out _).mono ?_;rintro e w4 ⟨rfl,n2,rfl⟩
     rotate_right;have g0:((bj.toNat:Int)==58)=false:=(by rw[hbj];rfl);have g1:((bj.toNat:Int)==47)=true:=(by rw[hbj];rfl);clear hbj;go_wp2_with fail;refine J6.out.mono ?_;rintro e w4 ⟨rfl,n0,rfl⟩;go_wp2_with fail;refine(Hc.out _).mono ?_;rintro e w4 ⟨rfl,n1,rfl⟩
     rotate_right;have g0:((bj.toNat:Int)==58)=true:=(by rw[hbj];rfl);clear hbj;go_wp2_with fail;refine J6.out.mono ?_;rintro e w4 ⟨rfl,n0,rfl⟩
     all_goals
      go_wp2_with fail;refine(zto.out _).mono ?_;rintro e w5 ⟨rfl,YY⟩;have hn5:=HN.out _ _ YY;have Hn5:=qh hn5;clear YY hn5;go_wp2_with fail;go_roundw
      case rel=>exact qh Hn5.out.1
      case measure=>
       obtain⟨no,j',hc2,hc1,zst⟩:=Hn5.out.2;rw[hc2,hc1,p8.out.1,p8.out.2];simp only[intOf];by_cases h0:no=0
       ·have:=zst h0;simp[h0];omega
       ·simp[h0];omega
    ·have hng:∀c:UInt8,zd9 c=true->((gZ s j).toNat:Int)≠(c.toNat:Int):=λc hc he=>by
      have:gZ s j=c:=(by apply jw.1;omega);rw[this,hc] at hsb;cases hsb
     have g0:(((gZ s j).toNat:Int)==58)=false:=(by simpa using hng 58 (by decide+kernel));have g1:(((gZ s j).toNat:Int)==47)=false:=(by simpa using hng 47 (by decide+kernel));have g2:(((gZ s j).toNat:Int)==94)=false:=(by simpa using hng 94 (by decide+kernel));have g3:(((gZ s j).toNat:Int)==64)=false:=(by simpa using hng 64 (by decide+kernel));have g4:(((gZ s j).toNat:Int)==126)=false:=(by simpa using hng 126 (by decide+kernel));have g5:(((gZ s j).toNat:Int)==39)=false:=(by simpa using hng 39 (by decide+kernel));have Vu:RM=.ok (ms,j):=by
      cases q with
      |zero=>omega
      |succ q'=>unfold QV at hT;rw[qx (by rw[hsb];simp)] at hT;exact hT.symm
     have HRM:=qh (HRok.out ms j Vu);have He:=qh (λn=>zht rb s j 0 0 F (wr.drewN n) (hr.drewN n));have Yq:zmV 0 s j=vG s j:=(by unfold zmV;rw[qy rfl]);rw[Yq] at He;have Qx:=qh (λn=>zbu rb s j 0 0 F (wr.drewN n) (hr.drewN n));have r2:=hr.c2;have YP:pg s j 32=(((gZ s j).toNat:Int)==32):=by
      by_cases hlt:j<s.size
      ·rw[QX hlt,Z3 hlt]
      ·rw[zcE hlt,zbe hlt];rfl
     have Hlen:=qh hj;generalize gZ s j=bj at*;clear hrel hT hsb hng hb0 his Yq;cases hend:vG s j with
     |true=>have hnot:(!vG s j)=false:=(by rw[hend];rfl);go_wp2_with fail;refine J6.out.mono ?_;rintro e w4 ⟨rfl,n0,rfl⟩;go_wp2_with fail;refine(Hc.out _).mono ?_;rintro e w4 ⟨rfl,n1,rfl⟩;go_wp2_with fail;refine(Hc.out _).mono ?_;rintro e w4 ⟨rfl,n2,rfl⟩;go_wp2_with fail;refine(Hc.out _).mono ?_;rintro e w4 ⟨rfl,n3,rfl⟩;go_wp2_with fail;refine(Hc.out _).mono ?_;rintro e w4 ⟨rfl,n4,rfl⟩;go_wp2_with fail;refine(Hc.out _).mono ?_;rintro e w4 ⟨rfl,n5,rfl⟩;go_wp2_with fail;refine(He.out _).mono ?_;rintro e w4 ⟨rfl,n6,rfl⟩;rw[hend];have x0:wr.cell? ⟨w.heap.size+1,0,none⟩=some (.int .i64 cls):=qc _ _ 0 _ _ (0,0) HJ.out.x;have x1:wr.cell? ⟨w.heap.size+1,1,none⟩=some (.int .i64 ref):=qc _ _ 1 _ _ (0,0) HJ.out.x;have x2:wr.cell? ⟨w.heap.size+1,2,none⟩=some (.slice A ms.length cp):=qc _ _ 2 _ _ (0,0) HJ.out.x;have x3:wr.cell? ⟨w.heap.size+1,3,none⟩=some (.int .i64 i):=qc _ _ 3 _ _ (0,0) HJ.out.x;have y0:=qc _ _ 0 _ _ (0,0) HJ.out.res;have y1:=qc _ _ 1 _ _ (0,0) HJ.out.res;have y2:=qc _ _ 2 _ _ (0,0) HJ.out.res;have y3:=qc _ _ 3 _ _ (0,0) HJ.out.res;have z0:=qf _ _ 0 _ _ HJ.out.res;have z1:=qf _ _ 1 _ _ HJ.out.res;have z2:=qf _ _ 2 _ _ HJ.out.res;have z3:=qf _ _ 3 _ _ HJ.out.res;have gT:=qh (λnn=>(HJ.out.pz hrb (Off.drewN [rb] wr nn)).fin (.int .i64 cls) (.int .i64 ref) (.slice A ms.length cp) (.int .i64 i));have Kq:=qh (λn=>Off.into (HJ.out.off.trans (Off.drewN [rb] wr n)) (gT.out n).1 (λk hk=>by simp at hk;omega));have Kr:=qh (λn=>(Hr.out.drewN n).off (gT.out n).1 (by simp;omega));have HmX:=qh (λn=>(Off.drewN [] wr n).own Hm.out (λk hk=>by simp));go_wp2_with fail;refine zcf rfl (gT.out _).2 ⟨Kq.out _,?_⟩;rw[HRM.out,qx (by simp[hend])];exact⟨_,rfl,(gT.out _).1.pp (HmX.out _) (pc.one HJ.out.res) (by decide),Kr.out _,Hlen.out⟩
     |false=>
      cases h32:pg s j 32 with
      |true=>have q32:((bj.toNat:Int) !=32)=false:=(by rw[h32] at YP;simp[bne,<-YP]);go_wp2_with fail;refine J6.out.mono ?_;rintro e w4 ⟨rfl,n0,rfl⟩;go_wp2_with fail;refine(Hc.out _).mono ?_;rintro e w4 ⟨rfl,n1,rfl⟩;go_wp2_with fail;refine(Hc.out _).mono ?_;rintro e w4 ⟨rfl,n2,rfl⟩;go_wp2_with fail;refine(Hc.out _).mono ?_;rintro e w4 ⟨rfl,n3,rfl⟩;go_wp2_with fail;refine(Hc.out _).mono ?_;rintro e w4 ⟨rfl,n4,rfl⟩;go_wp2_with fail;refine(Hc.out _).mono ?_;rintro e w4 ⟨rfl,n5,rfl⟩;go_wp2_with fail;refine(He.out _).mono ?_;rintro e w4 ⟨rfl,n6,rfl⟩;rw[hend];go_wp2_with fail;refine(Hc.out _).mono ?_;rintro e w4 ⟨rfl,n7,rfl⟩;have x0:wr.cell? ⟨w.heap.size+1,0,none⟩=some (.int .i64 cls):=qc _ _ 0 _ _ (0,0) HJ.out.x;have x1:wr.cell? ⟨w.heap.size+1,1,none⟩=some (.int .i64 ref):=qc _ _ 1 _ _ (0,0) HJ.out.x;have x2:wr.cell? ⟨w.heap.size+1,2,none⟩=some (.slice A ms.length cp):=qc _ _ 2 _ _ (0,0) HJ.out.x;have x3:wr.cell? ⟨w.heap.size+1,3,none⟩=some (.int .i64 i):=qc _ _ 3 _ _ (0,0) HJ.out.x;have y0:=qc _ _ 0 _ _ (0,0) HJ.out.res;have y1:=qc _ _ 1 _ _ (0,0) HJ.out.res;have y2:=qc _ _ 2 _ _ (0,0) HJ.out.res;have y3:=qc _ _ 3 _ _ (0,0) HJ.out.res;have z0:=qf _ _ 0 _ _ HJ.out.res;have z1:=qf _ _ 1 _ _ HJ.out.res;have z2:=qf _ _ 2 _ _ HJ.out.res;have z3:=qf _ _ 3 _ _ HJ.out.res;have gT:=qh (λnn=>(HJ.out.pz hrb (Off.drewN [rb] wr nn)).fin (.int .i64 cls) (.int .i64 ref) (.slice A ms.length cp) (.int .i64 i));have Kq:=qh (λn=>Off.into (HJ.out.off.trans (Off.drewN [rb] wr n)) (gT.out n).1 (λk hk=>by simp at hk;omega));have Kr:=qh (λn=>(Hr.out.drewN n).off (gT.out n).1 (by simp;omega));have HmX:=qh (λn=>(Off.drewN [] wr n).own Hm.out (λk hk=>by simp));go_wp2_with fail;refine zcf rfl (gT.out _).2 ⟨Kq.out _,?_⟩;rw[HRM.out,qx (by simp[hend,h32])];exact⟨_,rfl,(gT.out _).1.pp (HmX.out _) (pc.one HJ.out.res) (by decide),Kr.out _,Hlen.out⟩
      |false=>have q32:((bj.toNat:Int) !=32)=true:=(by rw[h32] at YP;simp[bne,<-YP]);go_wp2_with fail;refine J6.out.mono ?_;rintro e w4 ⟨rfl,n0,rfl⟩;go_wp2_with fail;refine(Hc.out _).mono ?_;rintro e w4 ⟨rfl,n1,rfl⟩;go_wp2_with fail;refine(Hc.out _).mono ?_;rintro e w4 ⟨rfl,n2,rfl⟩;go_wp2_with fail;refine(Hc.out _).mono ?_;rintro e w4 ⟨rfl,n3,rfl⟩;go_wp2_with fail;refine(Hc.out _).mono ?_;rintro e w4 ⟨rfl,n4,rfl⟩;go_wp2_with fail;refine(Hc.out _).mono ?_;rintro e w4 ⟨rfl,n5,rfl⟩;go_wp2_with fail;refine(He.out _).mono ?_;rintro e w4 ⟨rfl,n6,rfl⟩;rw[hend];go_wp2_with fail;refine(Hc.out _).mono ?_;rintro e w4 ⟨rfl,n7,rfl⟩;go_wp2_with fail;refine(Qx.out _).mono ?_;rintro e w5 ⟨rfl,pi,pH⟩;have Q1:=HJ.out.pz hrb ((Off.drewN [rb] wr _).trans pH);have HmX:Hid True:=qh trivial;have x0:w5.cell? ⟨w.heap.size+1,0,none⟩=some (.int .i64 cls):=qc _ _ 0 _ _ (0,0) Q1.x;have x1:w5.cell? ⟨w.heap.size+1,1,none⟩=some (.int .i64 ref):=qc _ _ 1 _ _ (0,0) Q1.x;have x2:w5.cell? ⟨w.heap.size+1,2,none⟩=some (.slice A ms.length cp):=qc _ _ 2 _ _ (0,0) Q1.x;have x3:w5.cell? ⟨w.heap.size+1,3,none⟩=some (.int .i64 i):=qc _ _ 3 _ _ (0,0) Q1.x;have y0:=qc _ _ 0 _ _ (0,0) Q1.res;have y1:=qc _ _ 1 _ _ (0,0) Q1.res;have y2:=qc _ _ 2 _ _ (0,0) Q1.res;have y3:=qc _ _ 3 _ _ (0,0) Q1.res;have z0:=qf _ _ 0 _ _ Q1.res;have z1:=qf _ _ 1 _ _ Q1.res;have z2:=qf _ _ 2 _ _ Q1.res;have z3:=qf _ _ 3 _ _ Q1.res;have hfin:=Q1.fin (.int .i64 cls) (.int .i64 ref) (.slice A ms.length cp) (.int .i64 i);have Y0:Off [rb] w _:=Off.into Q1.off hfin.1 (λk hk=>by simp at hk;omega);have Y1:=pi.off hfin.1 (by simp;omega);have gT:=qh hfin;have Kq:=qh Y0;have Kr:=qh Y1;clear pi pH Q1 hfin Y0 Y1;go_wp2_with fail;refine zcf rfl gT.out.2 ⟨Kq.out,?_⟩;rw[HRM.out,qy (by simp[hend,h32])];exact⟨by decide,⟨_,Kr.out⟩,_,_,_,_,_,_,rfl⟩
   ·have hb0:yQ c s j=0:=(by unfold yQ;rw[qx hc]);have Hc:=qh (λn=>vZ rb s j c p F (wr.drewN n) (pi.drewN n));rw[hb0] at Hc;have J6:=qh (Hc.out 0);have q0:(c==0)=false:=(by simpa using hc);have HRM:=qh (HRer.out _ Vu);have Hne:=qh hc;have HJ:=qh Q1;have Hr:=qh pi;have r2:=pi.c2;clear hrel Q1 pi hb0 hc Vu;go_wp2_with fail;refine J6.out.mono ?_;rintro e w4 ⟨rfl,n0,rfl⟩;go_wp2_with fail;refine(Hc.out _).mono ?_;rintro e w4 ⟨rfl,n1,rfl⟩;go_wp2_with fail;refine(Hc.out _).mono ?_;rintro e w4 ⟨rfl,n2,rfl⟩;go_wp2_with fail;refine(Hc.out _).mono ?_;rintro e w4 ⟨rfl,n3,rfl⟩;go_wp2_with fail;refine(Hc.out _).mono ?_;rintro e w4 ⟨rfl,n4,rfl⟩;go_wp2_with fail;refine(Hc.out _).mono ?_;rintro e w4 ⟨rfl,n5,rfl⟩;have x0:wr.cell? ⟨w.heap.size+1,0,none⟩=some (.int .i64 cls):=qc _ _ 0 _ _ (0,0) HJ.out.x;have x1:wr.cell? ⟨w.heap.size+1,1,none⟩=some (.int .i64 ref):=qc _ _ 1 _ _ (0,0) HJ.out.x;have x2:wr.cell? ⟨w.heap.size+1,2,none⟩=some (.slice A n cp):=qc _ _ 2 _ _ (0,0) HJ.out.x;have x3:wr.cell? ⟨w.heap.size+1,3,none⟩=some (.int .i64 i):=qc _ _ 3 _ _ (0,0) HJ.out.x;have y0:=qc _ _ 0 _ _ (0,0) HJ.out.res;have y1:=qc _ _ 1 _ _ (0,0) HJ.out.res;have y2:=qc _ _ 2 _ _ (0,0) HJ.out.res;have y3:=qc _ _ 3 _ _ (0,0) HJ.out.res;have z0:=qf _ _ 0 _ _ HJ.out.res;have z1:=qf _ _ 1 _ _ HJ.out.res;have z2:=qf _ _ 2 _ _ HJ.out.res;have z3:=qf _ _ 3 _ _ HJ.out.res;have gT:=qh (λnn=>(HJ.out.pz hrb (Off.drewN [rb] wr nn)).fin (.int .i64 cls) (.int .i64 ref) (.slice A n cp) (.int .i64 i));have Kq:=qh (λn=>Off.into (HJ.out.off.trans (Off.drewN [rb] wr n)) (gT.out n).1 (λk hk=>by simp at hk;omega));have Kr:=qh (λn=>(Hr.out.drewN n).off (gT.out n).1 (by simp;omega));go_wp2_with fail;refine zcf rfl (gT.out _).2 ⟨Kq.out _,?_⟩;rw[HRM.out];exact⟨Hne.out,⟨_,Kr.out _⟩,_,_,_,_,_,_,rfl⟩
def ux:List It->List Value->List Value
 |x::xs,v::vs=>.int .i64 x.cls::.int .i64 x.ref::v::.int .i64 x.at_::ux xs vs
 |_,_=>[]
theorem zin:∀(l:List It) (vs:List Value),vs.length=l.length->(ux l vs).length=l.length*4
 |[],vs,h=>by simp[ux]
 |x::xs,[],h=>by simp at h
 |x::xs,v::vs,h=>by
  have:=zin xs vs (by simpa using h);simp only[ux,qB,this];omega
theorem zgT:∀(l:List It) (vs:List Value) (x:It) (v:Value),vs.length=l.length->ux (l++[x]) (vs++[v])=ux l vs++[.int .i64 x.cls,.int .i64 x.ref,v,.int .i64 x.at_]
 |[],[],x,v,_=>by simp[ux]
 |[],_::_,_,_,h=>by simp at h
 |_::_,[],_,_,h=>by simp at h
 |q::rs,u::vs,r,v,h=>by
  have ih:=zgT rs vs r v (by simpa using h);simp only[kh,ux,ih]
theorem zio:∀(l:List It) (vs:List Value) (k:Nat),vs.length=l.length->k<l.length->(ux l vs)[k*4]?=some (.int .i64 (l.getD k px).cls)/\(ux l vs)[k*4+1]?=some (.int .i64 (l.getD k px).ref)/\(ux l vs)[k*4+2]?=some (vs.getD k .nilFunc)/\(ux l vs)[k*4+3]?=some (.int .i64 (l.getD k px).at_)
 |[],vs,k,_,hk=>by simp at hk
 |x::xs,[],k,h,_=>by simp at h
 |x::xs,v::vs,0,h,_=>by simp[ux]
 |x::xs,v::vs,k+1,h,hk=>by
  have ih:=zio xs vs k (by simpa using h) (by simpa using hk);rw[show(k+1)*4=k*4+4 by omega,show k*4+4+1=(k*4+1)+4 by omega,show k*4+4+2=(k*4+2)+4 by omega,show k*4+4+3=(k*4+3)+4 by omega];simpa [ux] using ih
structure p4 (w:World) (B:Nat) (v:Value) (l:List It) (p5:List Value):Prop where
 n:p5.length=l.length
 o:w.ownsRow B 99 4 v l.length (ux l p5)
 m:∀k,k<l.length->Qy w B (p5.getD k .nilFunc) (l.getD k px).gP
theorem p4.off {w w':World} {B:Nat} {v:Value} {l:List It} {p5:List Value} {L T:List Nat} (h:p4 w B v l p5) (ho:Off L w w') (ht:pc w L T) (h1:99∉T) (h2:101∉T):p4 w' B v l p5:=
 ⟨h.n,ho.pp h.o ht h1,λk hk=>ho.pp (h.m k hk) ht h2⟩
theorem p4.mono {w:World} {B C:Nat} {v:Value} {l:List It} {p5:List Value} (h:p4 w B v l p5) (hC:C<=B):p4 w C v l p5:=⟨h.n,Jc h.o hC,λk hk=>Jc (h.m k hk) hC⟩
structure Z8 (w:World) (B:Nat) (v:Value) (rows:List Rw) (vis:List Value):Prop where
 n:vis.length=rows.length
 o:w.ownsRow B 96 2 v rows.length (JD rows vis)
 i:∀k,k<rows.length->∃p5,p4 w B (vis.getD k .nilFunc) (rows.getD k ⟨false,[]⟩).items p5
theorem Z8.off {w w':World} {B:Nat} {v:Value} {rows:List Rw} {vis:List Value} {L T:List Nat} (h:Z8 w B v rows vis) (ho:Off L w w') (ht:pc w L T) (h0:96∉T) (h1:99∉T) (h2:101∉T):Z8 w' B v rows vis:=
 ⟨h.n,ho.pp h.o ht h0,λk hk=>by
  obtain⟨p5,hi⟩:=h.i k hk;exact⟨p5,hi.off ho ht h1 h2⟩⟩
theorem Z8.mono {w:World} {B C:Nat} {v:Value} {rows:List Rw} {vis:List Value} (h:Z8 w B v rows vis) (hC:C<=B):Z8 w C v rows vis:=⟨h.n,Jc h.o hC,λk hk=>by
 obtain⟨p5,hi⟩:=h.i k hk;exact⟨p5,hi.mono hC⟩⟩
theorem Z8.row {w:World} {B:Nat} {v:Value} {rows:List Rw} {vis:List Value} (h:Z8 w B v rows vis):
  ∃A c,v=.slice A rows.length c/\(0<rows.length->∃g,A=some ⟨g,0,none⟩/\g<w.heap.size/\∀k,k<rows.length->w.cell? ⟨g,k*2,none⟩=some (.bool (rows.getD k ⟨false,[]⟩).round)/\w.cell? ⟨g,k*2+1,none⟩=some (vis.getD k .nilFunc)):=by
 rcases h.o.2 with⟨rfl,e0⟩|⟨g,cap,cur,rfl,_,hg,hcap,_⟩
 ·rw[e0];exact⟨none,0,rfl,λh=>by omega⟩
 ·refine⟨_,cap,rfl,λ_=>⟨g,rfl,(qg hg).1,λk hk=>?_⟩⟩;have hlen:=zhn rows vis h.n;have hget:=zho rows vis k h.n hk;exact⟨(h.o.cellAt (k*2) (by omega)).trans hget.1,(h.o.cellAt (k*2+1) (by omega)).trans hget.2⟩
theorem zj7 {n M:Int} {m:Nat} (h0:0<=n) (h1:n<=M):0<=n*(m:Int)/\n*(m:Int)<=M*(m:Int):=
 ⟨Int.mul_nonneg h0 (by omega),kg h1 (by omega)⟩
theorem ziq (rows:List Rw) (n:Int) (h0:0<=n) (h1:n<=1000009):∀k,k<=rows.length->0<=ZF (rows.take k) n/\ZF (rows.take k) n<=1000009*(vQ (rows.take k):Int)
 |0,_=>by simp[ZF,vQ]
 |k+1,hk=>by
  have ih:=ziq rows n h0 h1 k (by omega);rw[zdx rows n k (by omega),zej rows k (by omega)];have hm:=zj7 (m:=(rows.getD k ⟨false,[]⟩).items.length) h0 h1;unfold ziH;split
  ·push_cast;omega
  ·push_cast;omega
theorem zeL (B:Nat) (nm vl vm vr:Value) (rd:Bool) (a b c:Int) (rows:List Rw) (vis:List Value) (n:Int) (w:World) (hm:Z8 w B vr rows vis) (h0:0<=n) (h1:n<=1000009) (ht:vQ rows<=65536) (hl:rows.length<=65536):
  Calls Tryz.prog 16 #[.agg #[nm,vl,vm,vr,.bool rd,.int .i64 a,.int .i64 b,.int .i64 c],.int .i64 n] w λe w'=>e=.returned (.int .i64 (ZF rows n))/\Below w.heap.size w w':=by
 have Za:Below w.heap.size w (w.alloc (.cells #[nm,vl,vm,vr,.bool rd,.int .i64 a,.int .i64 b,.int .i64 c] 29)):=(qb _ _).alloc (ql _) _;have hmA:Z8 (w.alloc (.cells #[nm,vl,vm,vr,.bool rd,.int .i64 a,.int .i64 b,.int .i64 c] 29)) B vr rows vis:=hm.off (T:=[]) (Off.alloc [] w _) pc.nil (by simp) (by simp) (by simp);have Hi:=qh hmA.i;obtain⟨A,cp,rfl,hrow⟩:=hmA.row;have hc3:(w.alloc (.cells #[nm,vl,vm,.slice A rows.length cp,.bool rd,.int .i64 a,.int .i64 b,.int .i64 c] 29)).cell? ⟨w.heap.size,3,none⟩=some (.slice A rows.length cp):=qc _ _ 3 _ _ (0,0) (qn w _);have Hsz:=qh (ziq rows n h0 h1);have Htl:=qh (zlk rows);have HbA:=qh Za;have Hc3:=qh hc3;clear hm hmA Za hc3;go_enter Tryz.func16,Tryz.ntmps16;go_wp2_with fail;have hc3:=Hc3.out;have HB:=HbA;generalize w.alloc (.cells #[nm,vl,vm,.slice A rows.length cp,.bool rd,.int .i64 a,.int .i64 b,.int .i64 c] 29)=W1 at*;go_loopw [5,6] (λt q wr=>∃k:Nat,k<=rows.length/\q=.int .i64 k/\t=.int .i64 (ZF (rows.take k) n)/\Hid (wr=W1)) (λ_ q _=>rows.length-(intOf q).toNat)
 case atStart=>exact⟨0,qF _,rfl,rfl,qh rfl⟩
 case round=>
  obtain⟨k,hk,rfl,rfl,hw⟩:=hrel;have hw2:=hw.out;subst hw2;clear hw;by_cases hlt:k<rows.length
  ·obtain⟨g,rfl,hgs,hcells⟩:=hrow (by omega);obtain⟨p5,hits⟩:=Hi.out k hlt;obtain⟨Ai,ci,Xv⟩:=pJ hits.o;have hck:=hcells k hlt;rw[Xv] at hck;have k0:=hck.1;have k1:=hck.2;have hst:=zdx rows n k hlt;have hbd:=Hsz.out k hk;have htk:=zej rows k hlt;have htl:=Htl.out (k+1);have hmb:=zj7 (m:=(rows.getD k ⟨false,[]⟩).items.length) h0 h1;clear hits Xv;generalize rows.getD k ⟨false,[]⟩=r at*;obtain⟨rr,ri⟩:=r;simp only[] at k0 k1 hst htk hmb;unfold ziH at hst;simp only[] at hst;generalize ZF (rows.take k) n=S at*;have hS2:S<=1000009*65536:=(by have:=hbd.2;omega);have hri:ri.length<=65536:=(by omega);have hw1:IntKind.i64.wrap (n*(ri.length:Int))=n*(ri.length:Int):=qi _ (by omega);have hw2:IntKind.i64.wrap (S+n*(ri.length:Int))=S+n*(ri.length:Int):=qi _ (by omega);have hw3:IntKind.i64.wrap (S+(ri.length:Int))=S+(ri.length:Int):=qi _ (by omega);have i1:(0:Int)<=(k:Int):=(by omega);have i2:(k:Int)<(rows.length:Int):=(by omega);have po:=qh hst;clear hcells hck hst hbd htk htl hmb;cases rr with
   |true=>
    go_wp2_with fail;go_roundw
    case rel=>exact⟨k+1,by omega,by go_num,by rw[po.out,qy rfl],qh trivial⟩
    case measure=>simp[intOf];omega
   |false=>
    go_wp2_with fail;go_roundw
    case rel=>exact⟨k+1,by omega,by go_num,by rw[po.out,qx (by simp)],qh trivial⟩
    case measure=>simp[intOf];omega
  ·obtain rfl:k=rows.length:=by omega
   go_wp2_with fail;go_ret;exact⟨by rw[qU];rfl,HB.out⟩
structure Qc (w:World) (B:Nat) (f:Fm) (F:RF):Prop where
 nm:F.nm=.string ⟨f.name.toArray⟩
 l:w.ownsRow B 5 1 F.vl f.gN.length (Z6 f.gN)
 m:∃cs,Zy w B F.vm f.gQ cs
 r:∃vis,Z8 w B F.vr f.rows vis
 rd:F.rd=f.rounds
 a:F.a=f.least
 b:F.b=f.most
 c:F.c=f.shift
theorem Qc.off {w w':World} {B:Nat} {f:Fm} {F:RF} {L T:List Nat} (h:Qc w B f F) (ho:Off L w w') (ht:pc w L T) (h1:∀t∈T,t∈[115,29]):Qc w' B f F:=by
 obtain⟨cs,hm⟩:=h.m;obtain⟨vis,hr⟩:=h.r;have hn:∀t,t∉[115,29]->t∉T:=λt ht hT=>ht (h1 t hT);exact⟨h.nm,ho.pp h.l ht (hn _ (by decide)),⟨cs,hm.off ho ht (hn _ (by decide)) (hn _ (by decide)) (hn _ (by decide)) (hn _ (by decide))⟩,⟨vis,hr.off ho ht (hn _ (by decide)) (hn _ (by decide)) (hn _ (by decide))⟩,h.rd,h.a,h.b,h.c⟩
theorem Qc.pz {w w':World} {B rb:Nat} {f:Fm} {F F':RF} {s:ByteArray} {i:Nat} {no wh:Int} (h:Qc w B f F) (hr:RR w rb s i no wh F') (ho:Off [rb] w w'):Qc w' B f F:=h.off ho (pc.one hr.r) (by simp)
theorem Qc.below {w w':World} {B:Nat} {f:Fm} {F:RF} (h:Qc w B f F) (hb:Below w.heap.size w w'):Qc w' B f F:=h.off (T:=[]) (Off.of_below hb (ql _) []) pc.nil (by simp)
theorem Qc.mono {w:World} {B C:Nat} {f:Fm} {F:RF} (h:Qc w B f F) (hC:C<=B):Qc w C f F:=by
 obtain⟨cs,hm⟩:=h.m;obtain⟨vis,hr⟩:=h.r;exact⟨h.nm,Jc h.l hC,⟨cs,hm.n,Jc hm.o hC,λk hk=>by
  obtain⟨a,vs,b⟩:=hm.m k hk;exact⟨a,vs,OM.mono b hC⟩⟩,⟨vis,hr.mono hC⟩,h.rd,h.a,h.b,h.c⟩
end Go.Proofs.YtgklikkddckgbaaGreatDoor.Mo


import Derived.Test.YtgklikkddckgbaaGreatDoorKDK
/- Lemmas. -/
set_option linter.all false
set_option maxRecDepth 100000
set_option maxHeartbeats 4000000
namespace Go.Proofs.YtgklikkddckgbaaGreatDoor.Mo
open Go.RowKit
def xrC (cls ref:Int) (v:Value) (a:Nat):Array Value:=#[.int .i64 cls,.int .i64 ref,v,.int .i64 a]
def zj0 (B rb xb:Nat) (s:ByteArray) (F:RF) (cls ref:Int) (a:Nat) (v:Value) (ms:List Mk) (w:World) (r:Except (Int×Nat) (Mk×Nat)) (w':World):Prop:=Off (rb::xb::v.ownBlock.toList) w w'/\
 match r with
 |.ok (m,j)=>RR w' rb s j 0 0 F/\∃v',w'.heap[xb]?=some (.cells (xrC cls ref v' a) 99 (0,0))/\Qe w' B v' (ms++[m])
 |.error (c,p)=>(∃j,RR w' rb s j c p F)/\∃A n cp,w'.heap[xb]?=some (.cells (xrC cls ref (.slice A n cp) a) 99 (0,0))
def zeK (r:Except (Int×Nat) (Mk×Nat)) (sg n no wh:Int) (i j:Nat):Prop:=match r with
 |.ok (m,j')=>no=0/\j=j'/\n=m.n/\m.sign=sg/\m.at_=i
 |.error (c,p)=>no=c/\wh=p
def zlU (W3 wx:World) (rb mb:Nat) (s:ByteArray) (F:RF) (sg:Int) (i:Nat) (r:Except (Int×Nat) (Mk×Nat)):Prop:=Off [rb,mb] W3 wx/\∃(n no wh:Int) (j:Nat),RR wx rb s j no wh F/\wx.heap[mb]?=some (.cells #[.int .u8 sg,.int .i64 n,.int .i64 i] 101 (0,0))/\zeK r sg n no wh i j
theorem zmF:Tryz.prog.info? 101=some Tryz.t101:=by kernel_rfl
theorem zmG:Tryz.t101.zero=some (.agg #[.int .u8 0,.int .i64 0,.int .i64 0]):=by kernel_rfl
theorem zmH:Tryz.t101.size=3:=by kernel_rfl
theorem zmh:Tryz.t101.bytes=24:=by kernel_rfl
theorem zj1 {W:World} {mb t:Nat} {x0 x1 x2:Value} (h:W.heap[mb]?=some (.cells #[x0,x1,x2] t (0,0))) (v0 v1 v2:Value):
  (((W.setCell ⟨mb,0,none⟩ v0).setCell ⟨mb,1,none⟩ v1).setCell ⟨mb,2,none⟩ v2).heap[mb]?=some (.cells #[v0,v1,v2] t (0,0))/\Off [mb] W (((W.setCell ⟨mb,0,none⟩ v0).setCell ⟨mb,1,none⟩ v1).setCell ⟨mb,2,none⟩ v2):=
 ⟨qs _ mb 2 _ _ v2 (qs _ mb 1 _ _ v1 (qs W mb 0 _ _ v0 h)),((Off.setCell W mb 0 v0).trans (Off.setCell _ mb 1 v1)).trans (Off.setCell _ mb 2 v2)⟩
theorem zbI {s:ByteArray} {l c:Int} {i p:Nat} (h:yO s l i=.error (c,p)):c≠0:=by
 unfold yO at h;split at h
 ·cases h;decide
 ·split at h
  ·cases h;decide
  ·cases h
def zj2 (r:Except (Int×Nat) (Int×Nat)) (n no wh:Int) (j:Nat):Prop:=match r with
 |.ok (v,e)=>no=0/\j=e/\n=v
 |.error (c,p)=>no=c/\wh=p
def gA (s:ByteArray) (i:Nat) (ms:List Mk) (n:Int) (k:Nat):Bool:=gT s i 126&&(ms.take k).any (λm=>m.sign==126&&m.n==n)
theorem zkW {s:ByteArray} {i:Nat} {ms:List Mk} {n:Int} {k:Nat} (h:k<ms.length):gA s i ms n (k+1)=(gA s i ms n k||(gT s i 126&&((ms.getD k Zs).sign==126&&(ms.getD k Zs).n==n))):=by
 unfold gA;rw[qD h,xE];have e:ms.getD k Zs=ms[k]:=by simp[qj,h]
 rw[e];cases gT s i 126<;>simp
def dNo (d:Bool) (no:Int):Int:=if d then QB no 2 else no
def dWh (d:Bool) (no wh p:Int):Int:=if d then Zz no wh p else wh
theorem zj3 (d:Bool) (no wh p:Int):QB (dNo d no) 2=dNo true no/\Zz (dNo d no) (dWh d no wh p) p=dWh true no wh p:=by
 unfold dNo dWh;cases d with
 |false=>exact⟨rfl,rfl⟩
 |true=>
  unfold QB Zz;by_cases h0:no=0
  ·simp[h0]
  ·simp[h0]
theorem zkX {s:ByteArray} {ms:List Mk} {i:Nat} {sg n no wh:Int} {j:Nat} {R:Except (Int×Nat) (Mk×Nat)} (hn:zj2 (yO s 1 (i+1)) n no wh j) (h0:no=0->wh=0)
  (hR:R=match yO s 1 (i+1) with|.error e=>.error e|.ok (v,e)=>if gT s i 126&&ms.any (λm=>m.sign==126&&m.n==v) then .error (2,i+1) else .ok (⟨sg,v,i⟩,e)):
  zeK R sg n (dNo (gA s i ms n ms.length) no) (dWh (gA s i ms n ms.length) no wh ((i:Int)+1)) i j:=by
 unfold dNo dWh gA;rw[qZ];cases hp:yO s 1 (i+1) with
 |error e=>
  obtain⟨c,p⟩:=e;rw[hp] at hn hR;obtain⟨rfl,rfl⟩:=hn;have hc:=zbI hp;subst hR;unfold QB Zz zeK;rw[qv hc,qv hc];simp
 |ok ve=>
  obtain⟨v,e⟩:=ve;rw[hp] at hn hR;obtain⟨rfl,rfl,rfl⟩:=hn;have hwh:=h0 rfl;subst hwh;subst hR;simp only;cases hd:(gT s i 126&&ms.any (λm=>m.sign==126&&m.n==n)) with
  |true=>simp[zeK,QB,Zz]
  |false=>simp[zeK]
theorem zkY {w wc w8:World} {B rb xb j cp:Nat} {A:Option Addr} {s:ByteArray} {F:RF} {cls ref sg n no wh:Int} {a i:Nat} {ms:List Mk} {v8:Value} {R:Except (Int×Nat) (Mk×Nat)}
  (ho:Off [rb] w wc) (hr:RR wc rb s j no wh F) (hx:wc.heap[xb]?=some (.cells (xrC cls ref (.slice A ms.length cp) a) 99 (0,0))) (hm:Qe wc B (.slice A ms.length cp) ms) (QC:xb≠rb)
  (hs:zeK R sg n no wh i j) (hown:w8.ownsRow B 101 3 v8 (ms.length+1) (uz ms++[.int .u8 sg,.int .i64 n,.int .i64 i])) (hg:wc.drew.grownBy w8 (Value.slice A ms.length cp).ownBlock):
  zj0 B rb xb s F cls ref a (.slice A ms.length cp) ms w R (w8.setCell ⟨xb,2,none⟩ v8)/\w8.cell? ⟨xb,2,none⟩=some (.slice A ms.length cp)/\w8.frozen? ⟨xb,2,none⟩=false:=by
 have hog:Off (Value.slice A ms.length cp).ownBlock.toList wc w8:=(Off.drew _ wc).trans (Off.grown hg (λk hk=>by rw[hk];simp));have n1:xb∉(Value.slice A ms.length cp).ownBlock.toList:=λhk=>by
  rw[zA] at hk;rcases py hm hx (by decide) with h1|h1
  ·rw[h1] at hk;cases hk
  ·exact h1 hk
 have n2:rb∉(Value.slice A ms.length cp).ownBlock.toList:=λhk=>by
  rw[zA] at hk;rcases py hm hr.r (by decide) with h1|h1
  ·rw[h1] at hk;cases hk
  ·exact h1 hk
 have hx8:=(hog.block xb (qg hx).1 n1).trans hx;have ZB:=hr.off hog n2;have hos:=Off.setCell w8 xb 2 v8;have hx9:=qs w8 xb 2 _ _ v8 hx8;have pn:RR (w8.setCell ⟨xb,2,none⟩ v8) rb s j no wh F:=ZB.off hos (by simp;omega);have XG:Off (rb::xb::(Value.slice A ms.length cp).ownBlock.toList) w (w8.setCell ⟨xb,2,none⟩ v8):=
  ((ho.mono (λk hk=>.inl (by simp at hk|-;exact .inl hk))).trans (hog.mono (λk hk=>.inl (by simp only[zi];exact .inr (.inr hk))))).trans (hos.mono (λk hk=>.inl (by simp at hk|-;exact .inr (.inl hk))))
 refine⟨⟨XG,?_⟩,qc _ _ 2 _ _ (0,0) hx8,qf _ _ 2 _ _ hx8⟩;cases R with
 |error e=>
  obtain⟨c,p⟩:=e;obtain⟨rfl,rfl⟩:=hs;obtain⟨A8,c8,Vt⟩:=pR hown;rw[Vt] at hx9 pn|-;exact⟨⟨_,pn⟩,_,_,_,hx9⟩
 |ok mj=>
  obtain⟨m,j'⟩:=mj;obtain⟨rfl,rfl,rfl,rfl,rfl⟩:=hs;have hwh:=(hr.ok rfl).2;subst hwh;refine⟨pn,v8,hx9,?_⟩;unfold Qe;rw[zgQ,qq];exact hos.own hown (λk hk=>by
   simp;rintro rfl;rcases py hown hx8 (by decide) with h1|h1
   ·rw[h1] at hk;cases hk
   ·exact h1 hk)
theorem zj4 (B Bl rb xb:Nat) (s:ByteArray) (i:Nat) (F:RF) (gC:List UInt8) (cls ref:Int) (a:Nat) (v:Value) (ms:List Mk) (w:World) (h:RR w rb s i 0 0 F) (hi:i<s.size) (hl:w.ownsRow Bl 5 1 F.vl gC.length (ZL gC)) (hll:gC.length<=70000)
  (hx:w.heap[xb]?=some (.cells (xrC cls ref v a) 99 (0,0))) (hm:Qe w B v ms) (hml:ms.length<=70000) (hB:B<=w.heap.size):
  Calls Tryz.prog 130 #[.pointer (some ⟨rb,0,none⟩),.pointer (some ⟨xb,0,none⟩)] w λe w'=>e=.returned (.tuple #[])/\zj0 B rb xb s F cls ref a v ms w (QM s gC ms i) w':=by
 obtain⟨A,cp,hv⟩:=pR hm;subst hv;have hsz:=h.sz;have QC:xb≠rb:=λe=>by
  have h1:=h.r;rw[<-e,hx] at h1;simp at h1
 have hrl:=h.lt;have hxl:xb<w.heap.size:=(qg hx).1;have H:=qh h;have Hl:=qh hl;have Hx:=qh hx;have Hm:=qh hm;have hb0:yS 0 s i=gO s i:=by unfold yS;rw[qx rfl]
 have Hc:=qh (λ(W:World) (hb:Below w.heap.size w W)=>ue rb s i 0 0 F W (h.below hb));rw[hb0] at Hc;have r1a:∀o,((w.drew).alloc o).cell? ⟨rb,1,none⟩=some (.int .i64 i):=λo=>((h.below ((Zi (qb _ _) 1).alloc (ql _) o))).c1;have r1b:∀k o,((w.drewN k).alloc o).cell? ⟨rb,1,none⟩=some (.int .i64 i):=λk o=>((h.below ((Zi (qb _ _) k).alloc (ql _) o))).c1;have r1:=h.c1;have J7:=qh (λo=>(Zi (qb w.heap.size w) 1).alloc (ql _) o);have nb:∀k,((w.drewN k).alloc (.cells #[.int .u8 0,.int .i64 0,.int .i64 0] 101)).heap[w.heap.size]?=some (.cells #[.int .u8 0,.int .i64 0,.int .i64 0] 101 (0,0)):=λk=>qn (w.drewN k) _;have m0:=λk=>qc _ _ 0 _ _ (0,0) (nb k);have m1:=λk=>qc _ _ 1 _ _ (0,0) (nb k);have m2:=λk=>qc _ _ 2 _ _ (0,0) (nb k);have mz0:=λk=>qf _ _ 0 _ _ (nb k);have mz1:=λk=>qf _ _ 1 _ _ (nb k);have mz2:=λk=>qf _ _ 2 _ _ (nb k);have HB3:Hid (∀k,((((((w.alloc (.cells #[.int .u8 0,.int .i64 0,.int .i64 0] 101)).drewN k).setCell ⟨w.heap.size,0,none⟩ (.int .u8 (gO s i).toNat)).setCell ⟨w.heap.size,1,none⟩ (.int .i64 0)).setCell ⟨w.heap.size,2,none⟩ (.int .i64 i)).heap[w.heap.size]?=some (.cells #[.int .u8 (gO s i).toNat,.int .i64 0,.int .i64 i] 101 (0,0)))/\Below w.heap.size w (((((w.alloc (.cells #[.int .u8 0,.int .i64 0,.int .i64 0] 101)).drewN k).setCell ⟨w.heap.size,0,none⟩ (.int .u8 (gO s i).toNat)).setCell ⟨w.heap.size,1,none⟩ (.int .i64 0)).setCell ⟨w.heap.size,2,none⟩ (.int .i64 i))/\w.heap.size<=w.heap.size):=qh (λk=>by
  obtain⟨e1,e2⟩:=zj1 (W:=(w.alloc (.cells #[.int .u8 0,.int .i64 0,.int .i64 0] 101)).drewN k) (nb k) (.int .u8 (gO s i).toNat) (.int .i64 0) (.int .i64 i);exact⟨e1,(Zi ((qb w.heap.size w).alloc (ql _) _) k).trans (e2.below (by show w.heap.size<=(w.alloc _).heap.size;simp) (λq hq=>by simp at hq;omega)),ql _⟩)
 clear nb;generalize hR:QM s gC ms i=R;have HR:=qh hR;have Vv:Hid (∀c:Int,gT s i c=(((gO s i).toNat:Int)==c)):=qh (λc=>by rw[QH hi,ZI hi]);have Xy:=qh (rfl:gO s i=gO s i);generalize hbx:gO s i=bc at*;clear h hl hx hm hR hb0;go_enter Tryz.func130,Tryz.ntmps130;go_upto_region 0 with fail
 go_cut [4] from 8 to 14 (λv4 wx=>∃mb:Nat,v4=.pointer (some ⟨mb,0,none⟩)/\Hid (wx.heap[mb]?=some (.cells #[.int .u8 bc.toNat,.int .i64 0,.int .i64 i] 101 (0,0))/\Below w.heap.size w wx/\w.heap.size<=mb))
 case first=>
  go_region_law (go_simp;go_at_call 67;refine(Hc.out _ (by first|exact Zi (qb _ _) 1|exact J7.out _)).mono ?_;rintro e w2 ⟨rfl,n2,rfl⟩)
  all_goals
   go_wp2_with fail;go_meet
   exact⟨w.heap.size,rfl,qh (HB3.out _)⟩
 case rest=>
  obtain⟨W1,hW1⟩:∃W1:World,W1=wc:=⟨_,rfl⟩;subst hW1;obtain⟨mb,rfl,hbox⟩:=hcut;obtain⟨hmk,hbl,hmb⟩:=hbox.out;have Vn:=qh hmk;have Hbl:=qh hbl;have hx1:=(hbl.block xb hxl).trans Hx.out;have hmr:mb≠rb:=by omega
  have hmx:mb≠xb:=by omega
  have k0:W1.cell? ⟨mb,0,none⟩=some (.int .u8 bc.toNat):=qc _ _ 0 _ _ (0,0) hmk;have x2:W1.cell? ⟨xb,2,none⟩=some (.slice A ms.length cp):=qc _ _ 2 _ _ (0,0) hx1;have HM1:Hid (Qe W1 B (.slice A ms.length cp) ms):=qh ((Off.of_below hbl (ql _) []).own Hm.out (λk hk=>by simp));have zqk:=qh (λn=>zjZ A cp B ms (bc.toNat:Int) (W1.drewN n) ((Off.drewN [] W1 n).own HM1.out (λk hk=>by simp)) hml);have HR1:=qh (H.out.below hbl);clear hbox hmk hbl HB3 m0 m1 m2 mz0 mz1 mz2 r1a r1b r1 J7 Hc;obtain⟨q,hq⟩:∃q:Nat,q=if gT s i 126 then 4 else 1:=⟨_,rfl⟩
  have Hq:=qh hq;clear hq;go_upto_if 17 with fail
  go_cut [5] from 5 to 17 (λv5 wx=>v5=.int .i64 q/\wx=W1)
  case first=>
   cases ZZ:gT s i 126 with
   |true=>
    have zql:((bc.toNat:Int)==126)=true:=(by rw[<-Vv.out 126];exact ZZ);have hq4:q=4:=(by rw[Hq.out,ZZ];rfl);subst hq4;go_wp2_with fail;go_meet
    exact⟨rfl,rfl⟩
   |false=>
    have zql:((bc.toNat:Int)==126)=false:=(by rw[<-Vv.out 126];exact ZZ);have hq4:q=1:=(by rw[Hq.out,ZZ];rfl);subst hq4;go_wp2_with fail;go_meet
    exact⟨rfl,rfl⟩
  case rest=>
   obtain⟨rfl,hwn⟩:=hcut;subst hwn;have hMP:QM s gC ms i=R:=HR.out;have r1:=HR1.out.c1;have z1:=HR1.out.z 1;by_cases hcnt:q<=pB ms (bc.toNat:Int)
   ·have e1:decide ((q:Int)<=(pB ms (bc.toNat:Int):Int))=true:=qt (by omega);have e2:decide (q<=pB ms (bc.toNat:Int))=true:=qt hcnt;have HR2:Hid (R=.error (180,i)):=qh (by
     rw[<-hMP];unfold QM;rw[hbx,qx (by rw[<-Hq.out];exact hcnt)])
    have Qd:=qh (λn=>zbu rb s i 0 0 F (wc.drewN n) (HR1.out.drewN n));clear hMP r1 z1;go_wp2_with fail;go_quiet ((go_at_call 161;exact kX (zqk.out _)))
    go_wp2_with fail;refine(Qd.out _).mono ?_;rintro e w3 ⟨rfl,hr3,ho3⟩;have Hr3:=qh hr3;have Ho3:=qh ((Off.drewN [rb] wc _).trans ho3);clear hr3 ho3;go_wp2_with fail;refine zv (qI rfl _ _ _) rfl ?_;refine⟨rfl,(Off.of_below Hbl.out (ql _) _).trans (Ho3.out.mono (λk hk=>.inl (by simp at hk|-;exact .inl hk))),?_⟩;rw[HR2.out];exact⟨⟨_,Hr3.out⟩,_,_,_,(Ho3.out.block xb (qF hxl Hbl.out.size) (by simp;omega)).trans hx1⟩
   ·have e1:decide ((q:Int)<=(pB ms (bc.toNat:Int):Int))=false:=qd (by omega);have e2:decide (q<=pB ms (bc.toNat:Int))=false:=qd hcnt;have HMQ:Hid (¬((if gT s i 126 then 4 else 1)<=pB ms (bc.toNat:Int))):=qh (by rw[<-Hq.out];exact hcnt);have hc1:((i+1:Nat):Int)=(i:Int)+1:=(by omega);have hw:IntKind.i64.wrap ((i:Int)+1)=(i:Int)+1:=qi _ (by omega);have HR3:Hid (∀n,RR ((wc.drewN n).setCell ⟨rb,1,none⟩ (.int .i64 ((i:Int)+1))) rb s (i+1) 0 0 F/\Off [rb] wc ((wc.drewN n).setCell ⟨rb,1,none⟩ (.int .i64 ((i:Int)+1)))):=qh (λn=>by
     rw[<-hc1];exact⟨(HR1.out.drewN n).to (by omega),(Off.drewN _ _ n).trans (Off.setCell _ rb 1 _)⟩)
    obtain⟨W2,hW2⟩:∃W2:World,W2=wc:=⟨_,rfl⟩;subst hW2;clear hcnt;go_wp2_with fail;go_quiet ((go_at_call 161;exact kX (zqk.out _)))
    go_upto_region 6 with fail
    go_cut [35] from 29 to 35 (λv35 wx=>Hid (RR wx rb s (i+1) 0 0 F/\Off [rb] W2 wx))
    case first=>
     go_wp2_with fail;go_meet
     exact qh (HR3.out _)
    case rest=>
     obtain⟨W3,hW3⟩:∃W3:World,W3=wc:=⟨_,rfl⟩;subst hW3;obtain⟨hr3,ho3⟩:=hcut.out;have Hr3:=qh hr3;have Ho3:=qh ho3;have zqY:W3.heap[mb]?=some (.cells #[.int .u8 bc.toNat,.int .i64 0,.int .i64 i] 101 (0,0)):=(ho3.block mb (qg Vn.out).1 (by simp;omega)).trans Vn.out;have zqm:=qh zqY;have hx3:=(ho3.block xb (qF hxl Hbl.out.size) (by simp;omega)).trans hx1;have Jy:=qh hx3;have l0:W3.cell? ⟨mb,0,none⟩=some (.int .u8 bc.toNat):=qc _ _ 0 _ _ (0,0) zqY;have hml3:mb<W3.heap.size:=(qg zqY).1;have zr5:xb<W3.heap.size:=(qg hx3).1;have HO3:Hid (Off [rb] w W3):=qh ((Off.of_below Hbl.out (ql _) _).trans ho3);have HM3:Hid (Qe W3 B (.slice A ms.length cp) ms):=qh (HO3.out.own Hm.out (λk hk=>by
      have h1:=py Hm.out H.out.r (by decide);simp;rintro rfl;rcases h1 with h1|h1
      ·rw[h1] at hk;cases hk
      ·exact h1 hk))
     have HL3:Hid (W3.ownsRow Bl 5 1 F.vl gC.length (ZL gC)):=qh (HO3.out.own Hl.out (λk hk=>by
      have h1:=py Hl.out H.out.r (by decide);simp;rintro rfl;rcases h1 with h1|h1
      ·rw[h1] at hk;cases hk
      ·exact h1 hk))
     clear hcut hr3 ho3 zqY hx3 k0 x2 hx1 zqk;go_upto_region 7 with fail
     go_cut [43] from 36 to 43 (λv43 wx=>v43=.bool (gT s i 58||gT s i 39)/\wx=W3)
     case first=>
      cases Ju:gT s i 58 with
      |true=>
       have q58:((bc.toNat:Int)==58)=true:=(by rw[<-Vv.out 58];exact Ju);go_wp2_with fail;go_meet
       exact⟨by rw[Ju];rfl,rfl⟩
      |false=>
       have q58:((bc.toNat:Int)==58)=false:=(by rw[<-Vv.out 58];exact Ju);cases h39:gT s i 39 with
       |true=>
        have q39:((bc.toNat:Int)==39)=true:=(by rw[<-Vv.out 39];exact h39);go_wp2_with fail;go_meet
        exact⟨by rw[Ju,h39];rfl,rfl⟩
       |false=>
        have q39:((bc.toNat:Int)==39)=false:=(by rw[<-Vv.out 39];exact h39);go_wp2_with fail;go_meet
        exact⟨by rw[Ju,h39];rfl,rfl⟩
     case rest=>
      obtain⟨rfl,hwn⟩:=hcut;obtain⟨W3,hW3⟩:∃W3:World,W3=wc:=⟨_,rfl⟩;subst hW3;subst hwn;go_upto_if 43 with fail
      go_cut [126] from 43 to 126 (λv126 wx=>Hid (zlU W3 wx rb mb s F bc.toNat i R))
      case first=>
       have hc1:((i+1:Nat):Int)=(i:Int)+1:=(by omega);cases hlet:(gT s i 58||gT s i 39) with
       |true=>
        have hb3:yS 0 s (i+1)=gO s (i+1):=(by unfold yS;rw[qx rfl]);have Hc3:=qh (λn=>ue rb s (i+1) 0 0 F (W3.drewN n) (Hr3.out.drewN n));have zqn:=qh (Hc3.out 0);have zqo:=zgP (no:=0) (s:=s) (i:=i+1) (a:=97) (b:=122) rfl (by omega);rw[hb3] at Hc3 zqn zqo;by_cases hin:pK s (i+1) 97 122=true
        ·have hbd:97<=((gO s (i+1)).toNat:Int)/\((gO s (i+1)).toNat:Int)<=122:=by
          rw[zqo,qz,qC,qC] at hin;exact hin
         have his:=zb7 hin;have HRR:Hid (R=if gT s i 58&&decide (Lib.indexByte gC (gO s (i+1))<0) then .error (181,i+1) else .ok (⟨bc.toNat,(gO s (i+1)).toNat,i⟩,i+2)):=qh (by
          rw[<-hMP];unfold QM;rw[hbx,qv HMQ.out,qx hlet,qv (by simpa using hin)])
         have HB3:Hid (yS 0 s (i+1)=gO s (i+1)):=qh hb3;generalize gO s (i+1)=b3 at*;have d1:decide ((b3.toNat:Int)<97)=false:=qd (by omega);have d1n:¬(b3.toNat:Int)<97:=(by omega);have d2:decide (122<(b3.toNat:Int))=false:=qd (by omega);have d2n:¬122<(b3.toNat:Int):=(by omega);have lz1:W3.frozen? ⟨mb,1,none⟩=false:=qf _ _ 1 _ _ zqm.out;have l1:W3.cell? ⟨mb,1,none⟩=some (.int .i64 0):=qc _ _ 1 _ _ (0,0) zqm.out;clear zqo hin hb3 hlet;go_wp2_with fail;refine zqn.out.mono ?_;rintro e w4 ⟨rfl,n4,rfl⟩;go_wp2_with fail;refine(Hc3.out _).mono ?_;rintro e w4 ⟨rfl,n5,rfl⟩;go_wp2_with fail;refine(Hc3.out _).mono ?_;rintro e w4 ⟨rfl,n6,rfl⟩;go_upto_region 11 with fail
         have hos:=(Off.drewN [mb] W3 (n4+n5+n6)).trans (Off.setCell (W3.drewN (n4+n5+n6)) mb 1 (.int .i64 b3.toNat));have hm4:=qs (W3.drewN (n4+n5+n6)) mb 1 _ _ (.int .i64 b3.toNat) zqm.out;generalize (W3.drewN (n4+n5+n6)).setCell ⟨mb,1,none⟩ (.int .i64 b3.toNat)=W4 at*;have Hos:=qh hos;have Hm4:Hid (W4.heap[mb]?=some (.cells #[.int .u8 bc.toNat,.int .i64 b3.toNat,.int .i64 i] 101 (0,0))):=qh hm4;have XF:=qh (Hr3.out.off hos (by simp;omega));have HL4:Hid (W4.ownsRow Bl 5 1 F.vl gC.length (ZL gC)):=qh (hos.pd HL3.out (gR.one zqm.out) (by decide));have n0:W4.cell? ⟨mb,0,none⟩=some (.int .u8 bc.toNat):=qc _ _ 0 _ _ (0,0) Hm4.out;have n1:=XF.out.c1;have nz1:=XF.out.z 1;have hb4:yS 0 s (i+1)=b3:=HB3.out;have Hc4:=qh (λn=>ue rb s (i+1) 0 0 F (W4.drewN n) (XF.out.drewN n));rw[hb4] at Hc4;have Hc40:=qh (Hc4.out 0);have Hme:=qh (λn=>zd6 rb Bl s (i+1) 0 0 F gC b3 (W4.drewN n) (XF.out.drewN n) ((Off.drewN [] W4 n).own HL4.out (λk hk=>by simp)) hll);have hw2:IntKind.i64.wrap (((i+1:Nat):Int)+1)=((i+1:Nat):Int)+1:=qi _ (by omega);clear hos hm4 l0 l1 lz1 hb4 Hc3 zqn;have Ko:Hid (∀(X:World) (no wh:Int),Off [rb] W4 X->RR X rb s (i+1) no wh F->zeK R bc.toNat b3.toNat no wh i (i+2)->zlU W3 (X.setCell ⟨rb,1,none⟩ (.int .i64 ((i:Int)+1+1))) rb mb s F bc.toNat i R):=qh (λX no wh ho hr hm=>by
          have hc2:((i:Int)+1+1)=((i+2:Nat):Int):=(by omega);rw[hc2];have hoX:=Off.setCell X rb 1 (.int .i64 ((i+2:Nat):Int));refine⟨((Hos.out.mono (λk hk=>.inl (by simp at hk|-;exact .inr hk))).trans (ho.mono (λk hk=>.inl (by simp at hk|-;exact .inl hk)))).trans (hoX.mono (λk hk=>.inl (by simp at hk|-;exact .inl hk))),b3.toNat,no,wh,i+2,hr.to (by omega),?_,hm⟩;have hmb4:mb<W4.heap.size:=(qg Hm4.out).1;exact(hoX.block mb (qF hmb4 ho.size) (by simp;omega)).trans ((ho.block mb hmb4 (by simp;omega)).trans Hm4.out))
         cases Ju:gT s i 58 with
         |false=>
          have q58:((bc.toNat:Int)==58)=false:=(by rw[<-Vv.out 58];exact Ju);have hR2:R=.ok (⟨bc.toNat,b3.toNat,i⟩,i+2):=(by rw[HRR.out,Ju];rfl);have gI:=qh (Ko.out W4 0 0 (Off.refl _ _) XF.out (by rw[hR2];exact⟨rfl,rfl,rfl,rfl,rfl⟩));clear hR2;go_wp2_with fail;go_meet
          exact gI
         |true=>
          have q58:((bc.toNat:Int)==58)=true:=(by rw[<-Vv.out 58];exact Ju);by_cases hneg:Lib.indexByte gC b3<0
          ·have hR2:R=.error (181,i+1):=(by rw[HRR.out,Ju,qP hneg];rfl);have HR2:=qh hR2;have hng:decide (Lib.indexByte gC b3<0)=true:=qt hneg;have Hw:=qh (λn=>zaO rb s (i+1) 0 0 F 181 ((i+1:Nat):Int) (W4.drewN n) (XF.out.drewN n) (by decide));clear hR2;go_wp2_with fail;refine Hc40.out.mono ?_;rintro e w5 ⟨rfl,n7,rfl⟩;go_wp2_with fail;refine(Hme.out _).mono ?_;rintro e w5 ⟨rfl,rfl⟩;go_wp2_with fail;refine(Hw.out _).mono ?_;rintro e w5 ⟨rfl,gV,pu⟩;have gI:=qh (Ko.out w5 _ _ ((Off.drewN [rb] W4 _).trans pu) gV (by rw[HR2.out];exact⟨rfl,rfl⟩));have t1:=gV.c1;have tz1:=gV.z 1;clear gV pu;go_wp2_with fail;go_meet
           exact gI
          ·have hR2:R=.ok (⟨bc.toNat,b3.toNat,i⟩,i+2):=(by rw[HRR.out,Ju,zp hneg];rfl);have hng:decide (Lib.indexByte gC b3<0)=false:=qd hneg;have gI:=qh (λn=>Ko.out (W4.drewN n) 0 0 (Off.drewN [rb] W4 n) (XF.out.drewN n) (by rw[hR2];exact⟨rfl,rfl,rfl,rfl,rfl⟩));clear hR2;go_wp2_with fail;refine Hc40.out.mono ?_;rintro e w5 ⟨rfl,n7,rfl⟩;go_wp2_with fail;refine(Hme.out _).mono ?_;rintro e w5 ⟨rfl,rfl⟩;go_wp2_with fail;go_meet
           exact gI.out _
        ·have hbc:((gO s (i+1)).toNat:Int)<97∨122<((gO s (i+1)).toNat:Int):=by
          by_cases h1:((gO s (i+1)).toNat:Int)<97
          ·exact .inl h1
          ·right;by_cases h2:122<((gO s (i+1)).toNat:Int)
           ·exact h2
           ·refine absurd ?_ hin;rw[zqo,qP (by omega),qP (by omega)];rfl
         have HR2:Hid (R=.error (180,i+1)):=qh (by
          rw[<-hMP];unfold QM;rw[hbx,qv HMQ.out,qx hlet,qx hin])
         have Qd:=qh (λn=>zbu rb s (i+1) 0 0 F (W3.drewN n) (Hr3.out.drewN n));have gI:Hid (∀n w4,RR w4 rb s (i+1) (QB 0 180) (Zz 0 0 ((i+1:Nat):Int)) F->Off [rb] (W3.drewN n) w4->zj0 B rb xb s F cls ref a (.slice A ms.length cp) ms w R w4):=qh (λn w4 hr4 Qq=>by
          have ho:=HO3.out.trans ((Off.drewN [rb] W3 n).trans Qq);refine⟨ho.mono (λk hk=>.inl (by simp at hk|-;exact .inl hk)),?_⟩;rw[HR2.out];exact⟨⟨_,hr4⟩,_,_,_,(((Off.drewN [rb] W3 n).trans Qq).block xb zr5 (by simp;omega)).trans Jy.out⟩)
         generalize gO s (i+1)=b3 at*;clear zqo hin hb3;rcases hbc with hlo|hhi
         have d1:decide ((b3.toNat:Int)<97)=true:=qt hlo;go_wp2_with fail;refine zqn.out.mono ?_;rintro e w4 ⟨rfl,n4,rfl⟩;rotate_left
         have hnl:¬(b3.toNat:Int)<97:=(by omega);have d1:decide ((b3.toNat:Int)<97)=false:=qd hnl;have d2:decide (122<(b3.toNat:Int))=true:=qt hhi;go_wp2_with fail;refine zqn.out.mono ?_;rintro e w4 ⟨rfl,n4,rfl⟩;go_wp2_with fail;refine(Hc3.out _).mono ?_;rintro e w4 ⟨rfl,n5,rfl⟩
         all_goals(go_wp2_with fail;refine(Qd.out _).mono ?_;rintro e w5 ⟨rfl,gV,pu⟩;have Jf:=qh gV;have ZA:=qh pu;clear gV pu;go_wp2_with fail;refine zv (qI rfl _ _ _) rfl ?_;exact⟨rfl,gI.out _ _ Jf.out ZA.out⟩)
       |false=>
        have pr:=qh (zcu rb s (i+1) 0 0 F 1 W3 Hr3.out (by omega) (by omega));have HRR:Hid (R=match yO s 1 (i+1) with|.error e=>.error e|.ok (v,e)=>if gT s i 126&&ms.any (λm=>m.sign==126&&m.n==v) then .error (2,i+1) else .ok (⟨bc.toNat,v,i⟩,e)):=qh (by
         rw[<-hMP];unfold QM;rw[hbx,qv HMQ.out,qv (by rw[hlet];simp)];rfl)
        have r31:=Hr3.out.c1;clear hlet;go_wp2_with fail;refine pr.out.mono ?_;rintro e w4 ⟨Qq,n,rfl,hn0,hn1,hok,hno⟩;have hsay:∃(no wh:Int) (j:Nat),RR w4 rb s j no wh F/\zj2 (yO s 1 (i+1)) n no wh j:=by
         have:=hok rfl;cases hp:yO s 1 (i+1) with
         |error e=>obtain⟨c,p⟩:=e;rw[hp] at this;obtain⟨j,hj⟩:=this;exact⟨_,_,j,hj,rfl,rfl⟩
         |ok ve=>obtain⟨v,e⟩:=ve;rw[hp] at this;exact⟨_,_,_,this.2,rfl,rfl,this.1⟩
        obtain⟨no,wh,j,hr4,zrx⟩:=hsay;have HSay:=qh zrx;have XF:=qh hr4;have Yu:=qh Qq;have hm4:=(Qq.block mb hml3 (by simp;omega)).trans zqm.out;have Hm4:=qh hm4;have l1:w4.cell? ⟨mb,1,none⟩=some (.int .i64 0):=qc _ _ 1 _ _ (0,0) hm4;have lz1:w4.frozen? ⟨mb,1,none⟩=false:=qf _ _ 1 _ _ hm4;have Hn:=qh (show 0<=n/\n<=1000009 from⟨hn0,hn1⟩);clear hok hno hr4 zrx Qq hm4 l0 r31 hn0 hn1;go_upto_region 17 with fail
        have hm5:=qs w4 mb 1 _ _ (.int .i64 n) Hm4.out;have pu:=Off.setCell w4 mb 1 (.int .i64 n);have gV:=XF.out.off pu (by simp;omega);generalize w4.setCell ⟨mb,1,none⟩ (.int .i64 n)=W5 at*;have Hm5:Hid (W5.heap[mb]?=some (.cells #[.int .u8 bc.toNat,.int .i64 n,.int .i64 i] 101 (0,0))):=qh hm5;have ZA:Hid (Off [rb,mb] W3 W5):=qh ((Yu.out.mono (λk hk=>.inl (by simp at hk|-;exact .inl hk))).trans (pu.mono (λk hk=>.inl (by simp at hk|-;exact .inr hk))));have Jf:=qh gV;have Hx5:=qh ((ZA.out.block xb zr5 (by simp;omega)).trans Jy.out);have HM5:Hid (Qe W5 B (.slice A ms.length cp) ms):=qh (ZA.out.own HM3.out (λk hk=>by
         have h1:=py HM3.out Hr3.out.r (by decide);have h2:=(Hm.out.lt k hk).2;simp;refine⟨?_,by omega⟩;rintro rfl;rcases h1 with h1|h1
         ·rw[h1] at hk;cases hk
         ·exact h1 hk))
        clear hm5 pu gV Hm4 lz1 l1;obtain⟨W6,Jd⟩:∃W6:World,W6=W5:=⟨_,rfl⟩;have H6:Hid (W6=W5):=qh Jd;clear Jd;go_loopw [7] (λv7 wr=>∃k:Nat,k<=ms.length/\v7=.int .i64 k/\Hid (Off [rb] W5 wr)/\Hid (RR wr rb s j (dNo (gA s i ms n k) no) (dWh (gA s i ms n k) no wh ((i:Int)+1)) F)) (λv7 _=>ms.length-(intOf v7).toNat)
        case atStart=>exact⟨0,qH _,rfl,qh (Off.refl _ _),qh (by rw[show gA s i ms n 0=false by simp[gA]];exact Jf.out)⟩
        case round=>
         obtain⟨k,hk,rfl,hof,hrr⟩:=hrel;have Xc:=(hof.out.block mb (qg Hm5.out).1 (by simp;omega)).trans Hm5.out;have hx6:=(hof.out.block xb (qg Hx5.out).1 (by simp;omega)).trans Hx5.out;have hM6:Qe wr B (.slice A ms.length cp) ms:=hof.out.own HM5.out (λk hk=>by
          have h1:=py HM5.out Jf.out.r (by decide);simp;rintro rfl;rcases h1 with h1|h1
          ·rw[h1] at hk;cases hk
          ·exact h1 hk)
         have m0:wr.cell? ⟨mb,0,none⟩=some (.int .u8 bc.toNat):=qc _ _ 0 _ _ (0,0) Xc;have m1:wr.cell? ⟨mb,1,none⟩=some (.int .i64 n):=qc _ _ 1 _ _ (0,0) Xc;have x2:wr.cell? ⟨xb,2,none⟩=some (.slice A ms.length cp):=qc _ _ 2 _ _ (0,0) hx6;by_cases hlt:k<ms.length
         ·have hrow:=hM6.row hlt;have hdn:=zkW (s:=s) (i:=i) (n:=n) hlt;generalize hd0:gA s i ms n k=d0 at*;generalize hd1:gA s i ms n (k+1)=d1 at*;generalize (ms.getD k Zs).sign=sg at*;generalize (ms.getD k Zs).n=nk at*;obtain⟨g,rfl,_,k0,k1,_⟩:=hrow;have i1:(0:Int)<=(k:Int):=(by omega);have i2:(k:Int)<(ms.length:Int):=(by omega);have H1:=qh hd1;clear hd0 hd1 Xc hx6 hM6;by_cases hD:gT s i 126=true/\sg=126/\nk=n
          ·obtain⟨ZZ,hsg,hnk⟩:=hD;have zql:((bc.toNat:Int)==126)=true:=(by rw[<-Vv.out 126];exact ZZ);have e1:(sg==126)=true:=(by simpa using hsg);have e2:(nk==n)=true:=(by simpa using hnk);have hd2:d1=true:=(by rw[hdn,ZZ,e1,e2];simp);have Hw:=qh (λnq=>zaO rb s j _ _ F 2 ((i:Int)+1) (wr.drewN nq) (hrr.out.drewN nq) (by decide));have Hd2:=qh hd2;clear hd2 hdn ZZ hsg hnk;go_wp2_with fail;go_quiet (fail)
           go_wp2_with fail;refine(Hw.out _).mono ?_;rintro e w7 ⟨rfl,Kq,QD⟩;rw[(zj3 d0 no wh ((i:Int)+1)).1,(zj3 d0 no wh ((i:Int)+1)).2] at Kq;have Hr7:=qh Kq;have Ho7:=qh QD;clear Kq QD;go_wp2_with fail;go_roundw
           case rel=>exact⟨k+1,by omega,by go_num,qh ((hof.out.trans (Off.drewN _ _ _)).trans Ho7.out),qh (by rw[H1.out,Hd2.out];exact Hr7.out)⟩
           case measure=>simp[intOf];omega
          ·have hd2:d1=d0:=by
            rw[hdn];have:(gT s i 126&&(sg==126&&nk==n))=false:=by
             cases hc:(gT s i 126&&(sg==126&&nk==n)) with
             |false=>rfl
             |true=>simp only[qz,jw] at hc;exact absurd hc hD
            rw[this,yf]
           have Hd2:=qh hd2;clear hd2 hdn;have JF:gT s i 126=false∨(gT s i 126=true/\((sg==126)=false∨((sg==126)=true/\(nk==n)=false))):=by
            cases h1:gT s i 126 with
            |false=>exact .inl rfl
            |true=>
             cases h2:(sg==126) with
             |false=>exact .inr ⟨rfl,.inl rfl⟩
             |true=>
              cases h3:(nk==n) with
              |false=>exact .inr ⟨rfl,.inr ⟨rfl,rfl⟩⟩
              |true=>exact absurd ⟨h1,by simpa using h2,by simpa using h3⟩ hD
           clear hD;rcases JF with h1|⟨h1,h2|⟨h2,h3⟩⟩
           have zql:((bc.toNat:Int)==126)=false:=(by rw[<-Vv.out 126];exact h1);rotate_left
           have zql:((bc.toNat:Int)==126)=true:=(by rw[<-Vv.out 126];exact h1);rotate_left
           have zql:((bc.toNat:Int)==126)=true:=(by rw[<-Vv.out 126];exact h1)
           all_goals
            go_wp2_with fail;go_quiet (fail)
            go_wp2_with fail;go_roundw
            case rel=>exact⟨k+1,by omega,by go_num,qh (hof.out.trans (Off.drewN _ _ _)),qh (by rw[H1.out,Hd2.out];exact hrr.out.drewN _)⟩
            case measure=>simp[intOf];omega
         ·obtain rfl:k=ms.length:=by omega
          have hfin:zlU W3 wr rb mb s F bc.toNat i R:=by
           exact⟨ZA.out.trans (hof.out.mono (λk hk=>.inl (by simp at hk|-;exact .inl hk))),n,_,_,j,hrr.out,Xc,zkX HSay.out (λe=>((XF.out).ok e).2) HRR.out⟩
          have gI:=qh hfin;clear hfin;go_wp2_with fail;go_meet
          exact gI
      case rest=>
       obtain⟨Qq,n,no,wh,j,hr4,hm4,hs4⟩:=hcut.out;obtain⟨W4,XH⟩:∃W4:World,W4=wc:=⟨_,rfl⟩;subst XH;have hlw:w.heap.size<=W3.heap.size:=HO3.out.size;have pu:Off [rb] w W4:=⟨Qq.os.trans HO3.out.os,Qq.tape.trans HO3.out.tape,Qq.output.trans HO3.out.output,qm hlw Qq.size,λk hk hn=>(Qq.block k (qF hk hlw) (by simp at hn|-;exact⟨hn,by omega⟩)).trans (HO3.out.block k hk hn)⟩;have hM5:Qe W4 B (.slice A ms.length cp) ms:=Qq.own HM3.out (λk hk=>by
        have h1:=py HM3.out Hr3.out.r (by decide);have h2:=(Hm.out.lt k hk).2;simp;refine⟨?_,by omega⟩;rintro rfl;rcases h1 with h1|h1
        ·rw[h1] at hk;cases hk
        ·exact h1 hk)
       have hx5:=(Qq.block xb zr5 (by simp;omega)).trans Jy.out;have x2:W4.cell? ⟨xb,2,none⟩=some (.slice A ms.length cp):=qc _ _ 2 _ _ (0,0) hx5;have x2a:∀o,(W4.alloc o).cell? ⟨xb,2,none⟩=some (.slice A ms.length cp):=λo=>(qw (qa W4 o xb (qg hx5).1)).trans x2;have m0:W4.cell? ⟨mb,0,none⟩=some (.int .u8 bc.toNat):=qc _ _ 0 _ _ (0,0) hm4;have m1:W4.cell? ⟨mb,1,none⟩=some (.int .i64 n):=qc _ _ 1 _ _ (0,0) hm4;have m2:W4.cell? ⟨mb,2,none⟩=some (.int .i64 i):=qc _ _ 2 _ _ (0,0) hm4;have XB:Hid (ms.length+1<=maxLen):=qh (by unfold maxLen;omega);have ZW:Hid ((ms.length+1)*24<=140737488355328):=qh (by omega);have Hpos:Hid (0<ms.length+1):=qh (by omega);have Yq:Hid (B<=W4.drew.heap.size):=qh (qm hB pu.size);have pj:Hid (W4.drew.ownsRow B 101 3 (.slice A ms.length cp) ms.length (uz ms)):=qh ((Off.drew [] W4).own hM5 (λk hk=>by simp));have Qc:Hid (∀u∈(#[.int .u8 bc.toNat,.int .i64 n,.int .i64 i]:Array Value).toList,u.oneCell'=true):=qh (by intro u hu;simp at hu;rcases hu with rfl|rfl|rfl<;>rfl);have HF:=qh (λw8 v8 hg hown=>zkY (w8:=w8) (v8:=v8) pu hr4 hx5 hM5 QC hs4 hown hg);clear hcut Qq hr4 hm4 hs4 pu hM5 hx5;go_wp2_with fail;go_region_law (refine zah W4.drew (by rfl) (.tmp 131) (.tmp 133) 97 (by rfl) B 101 _ _ 3 24 Tryz.underlying97 zmF zmG zmH zmh rfl (by decide) (.slice A ms.length cp) ms.length (uz ms) _ _ (by simp[Act.eval,Act.put]) (by simp[Act.eval,Act.put];rfl) (by simp) (by exact pj.out) rfl (by exact Qc.out) XB.out ZW.out (by exact Yq.out) ?_;intro v8 w8 gW Zy Zb;obtain⟨g8,Qf,rfl⟩:=ZR gW Hpos.out;obtain⟨pY,c8,z8⟩:=HF.out w8 _ Zy gW;have HFin:=qh pY;clear pY gW Zy Zb)
       all_goals
        go_wp2_with fail;refine q9 (qI rfl _ _ _) rfl ?_;exact⟨rfl,HFin.out⟩
def Yv (s:ByteArray) (gC:List UInt8) (i:Nat):Except (Int×Nat) (It×Nat):=match Qx s i with
 |.error e=>.error e
 |.ok (cls,ref,j)=>match QU s gC (s.size+1) [] j with
  |.error e=>.error e
  |.ok (ms,k)=>if¬vL s k/\¬gT s k 32 then .error (180,k) else .ok (⟨cls,ref,ms,i⟩,k)
def zfo (line:Int) (ms:List Mk):Option Mk:=if 0<=line then ms.find? (λm=>JZ m&&decide (line<m.n)) else none
theorem zdQ {s:ByteArray} {gC:List UInt8} {line:Int} {i:Nat}:Kj s gC line i=match Yv s gC i with
  |.error e=>.error e
  |.ok (x,k)=>match zfo line x.gE with|some m=>.error (182,m.at_)|none=>.ok (x,k):=by
 unfold Kj Yv zfo;cases hr:Qx s i with
 |error e=>rfl
 |ok r=>
  obtain⟨cls,ref,j⟩:=r;simp only;cases hm:QU s gC (s.size+1) [] j with
  |error e=>rfl
  |ok mk=>
   obtain⟨ms,k⟩:=mk;simp only;by_cases he:¬vL s k=true/\¬gT s k 32=true
   ·rw[qx he,qx he]
   ·rw[qv he,qv he];rfl
theorem zkZ:yR 0<0:=by decide+kernel
theorem zmI (b:UInt8) (h0:65<=(b.toNat:Int)) (h1:(b.toNat:Int)<=90):(b.toNat:Int)-65+97=((b|||32).toNat:Int):=by
 have h:∀n,n<256->65<=n->n<=90->(((UInt8.ofNat n).toNat:Nat):Int)-65+97=(((UInt8.ofNat n|||32).toNat:Nat):Int):=by decide+kernel
 have:=h b.toNat b.toNat_lt (by omega) (by omega);rw[xp] at this;exact this
theorem zfp (s:ByteArray) (i:Nat) (hi:i<=s.size):
  ((gO s i).toNat=120/\i<s.size/\Qx s i=.ok (-1,0,i+1))∨
  ((gO s i).toNat≠120/\0<=yR (gO s i)/\i<s.size/\Qx s i=.ok (yR (gO s i),0,i+1))∨
  ((gO s i).toNat≠120/\yR (gO s i)<0/\65<=(gO s i).toNat/\(gO s i).toNat<=90/\0<=yR (gO s i|||32)/\i<s.size/\pK s (i+1) 49 57=false/\Qx s i=.error (180,i+1))∨
  ((gO s i).toNat≠120/\yR (gO s i)<0/\65<=(gO s i).toNat/\(gO s i).toNat<=90/\0<=yR (gO s i|||32)/\i<s.size/\pK s (i+1) 49 57=true/\Qx s i=.ok (yR (gO s i|||32),(gO s (i+1)).toNat-48,i+2))∨
  ((gO s i).toNat≠120/\yR (gO s i)<0/\((gO s i).toNat<65∨90<(gO s i).toNat∨(65<=(gO s i).toNat/\(gO s i).toNat<=90/\yR (gO s i|||32)<0))/\Qx s i=.error (180,i)):=by
 by_cases hlt:i<s.size
 ·have hb:gT s i 120=(((gO s i).toNat:Int)==120):=by rw[QH hlt,ZI hlt]
  have hin:pK s i 65 90=(decide (65<=((gO s i).toNat:Int))&&decide (((gO s i).toNat:Int)<=90)):=by rw[Y0 hlt,ZI hlt]
  unfold Qx;generalize gO s i=b at*;by_cases h0:b.toNat=120
  ·left;refine⟨h0,hlt,?_⟩;rw[hb,qx (by simp[h0])]
  ·right;rw[qv (by rw[hb];simp;omega),qv (by simpa using hlt)];by_cases h1:0<=yR b
   ·left;exact⟨h0,h1,hlt,by rw[qx h1]⟩
   ·right;rw[qv h1];by_cases h2:65<=b.toNat/\b.toNat<=90
    ·have hi2:pK s i 65 90=true:=(by rw[hin,qP (by omega),qP (by omega)];rfl);by_cases h3:0<=yR (b|||32)
     ·rw[qv (by rw[hi2];simp;omega)];cases h4:pK s (i+1) 49 57 with
      |false=>left;exact⟨h0,by omega,h2.1,h2.2,h3,hlt,rfl,by rw[qx (by simp)]⟩
      |true=>right;left;exact⟨h0,by omega,h2.1,h2.2,h3,hlt,rfl,by rw[qv (by simp)]⟩
     ·right;right;exact⟨h0,by omega,.inr (.inr ⟨h2.1,h2.2,by omega⟩),by rw[qx (.inr (by omega))]⟩
    ·right;right;have hi2:pK s i 65 90=false:=by
      rw[hin];by_cases h3:65<=b.toNat
      ·rw[zp (p:=((b.toNat:Int)<=90)) (by omega),xM]
      ·rw[zp (p:=(65<=(b.toNat:Int))) (by omega)];rfl
     exact⟨h0,by omega,by omega,by rw[qx (.inl (by rw[hi2];simp))]⟩
 ·right;right;right;right;have hb:gO s i=0:=zbe hlt;rw[hb];refine⟨by decide,zkZ,.inl (by decide),?_⟩;unfold Qx;rw[qv (by rw[zcE hlt];simp),qx hlt]
theorem zgR {s:ByteArray} {gC:List UInt8} {ms:List Mk} {i p:Nat} {c:Int} (h:QM s gC ms i=.error (c,p)):c≠0:=by
 unfold QM at h;by_cases hm:(if gT s i 126=true then 4 else 1)<=pB ms (gO s i).toNat
 ·rw[qx hm] at h;cases h;decide
 ·rw[qv hm] at h;split at h
  ·split at h
   ·cases h;decide
   ·split at h
    ·cases h;decide
    ·cases h
  ·cases hn:yO s 1 (i+1) with
   |error e=>
    obtain⟨c',p'⟩:=e;rw[hn] at h;cases h;exact zbI hn
   |ok ve=>
    rw[hn] at h;simp only at h;split at h
    ·cases h;decide
    ·cases h
theorem zj5 {s:ByteArray} {i j:Nat} {cls ref:Int} (h:Qx s i=.ok (cls,ref,j)):j<=s.size:=by
 by_cases hi:i<s.size
 ·rcases zfp s i (by omega) with⟨_,h1,h2⟩|⟨_,_,h1,h2⟩|⟨_,_,_,_,_,_,_,h2⟩|⟨_,_,_,_,_,h1,h3,h2⟩|⟨_,_,_,h2⟩
  ·rw[h2] at h;cases h;omega
  ·rw[h2] at h;cases h;omega
  ·rw[h2] at h;cases h
  ·rw[h2] at h;cases h;have:=zb7 h3;omega
  ·rw[h2] at h;cases h
 ·unfold Qx at h;rw[qv (by rw[zcE hi];simp),qx hi] at h;cases h
theorem zgS {s:ByteArray} {gC:List UInt8}:∀(f:Nat) (ms:List Mk) (i:Nat) {ms':List Mk} {k:Nat},i<=s.size->QU s gC f ms i=.ok (ms',k)->k<=s.size
 |0,ms,i,ms',k,hi,h=>by unfold QU at h;cases h;exact hi
 |f+1,ms,i,ms',k,hi,h=>by
  unfold QU at h;split at h
  ·rename_i hc;cases hm:QM s gC ms i with
   |error e=>rw[hm] at h;cases h
   |ok mj=>
    obtain⟨m,j⟩:=mj;rw[hm] at h;obtain⟨h1,h2,h3⟩:=zcW hc.1 hc.2 hm;exact zgS f _ j (by have:=(zdz h2).2;omega) h
  ·cases h;exact hi
theorem zim {s:ByteArray} {gC:List UInt8} {i k:Nat} {x:It} (h:Yv s gC i=.ok (x,k)):k<=s.size:=by
 unfold Yv at h;cases hr:Qx s i with
 |error e=>rw[hr] at h;cases h
 |ok r=>
  obtain⟨cls,ref,j⟩:=r;rw[hr] at h;simp only at h;cases hm:QU s gC (s.size+1) [] j with
  |error e=>rw[hm] at h;cases h
  |ok mk=>
   obtain⟨ms,k2⟩:=mk;rw[hm] at h;simp only at h;split at h
   ·cases h
   ·cases h;exact zgS _ _ _ (zj5 hr) hm
theorem Off.into {L L':List Nat} {w W W':World} (h:Off L w W) (h':Off L' W W') (hl:∀k∈L',k∈L∨w.heap.size<=k):Off L w W':=
 ⟨h'.os.trans h.os,h'.tape.trans h.tape,h'.output.trans h.output,qm h.size h'.size,λk hk hn=>(h'.block k (qF hk h.size) (λhm=>(hl k hm).elim hn (λh=>by omega))).trans (h.block k hk hn)⟩
structure Xd (w W:World) (rb:Nat) (cls ref:Int) (v:Value) (a:Nat):Prop where
 off:Off [rb] w W
 res:W.heap[w.heap.size]?=some (.cells #[.int .i64 0,.int .i64 0,.slice none 0 0,.int .i64 0] 99 (0,0))
 x:W.heap[w.heap.size+1]?=some (.cells (xrC cls ref v a) 99 (0,0))
theorem Xd.pl {w W W':World} {rb:Nat} {cls ref:Int} {v:Value} {a:Nat} (h:Xd w W rb cls ref v a) (hr:rb<w.heap.size) (ho:Off [rb] W W'):Xd w W' rb cls ref v a:=
 ⟨h.off.trans ho,(ho.block _ (qg h.res).1 (by simp;omega)).trans h.res,(ho.block _ (qg h.x).1 (by simp;omega)).trans h.x⟩
theorem Xd.XI {w W:World} {rb:Nat} {cls ref:Int} {v:Value} {a:Nat} (h:Xd w W rb cls ref v a) (hr:rb<w.heap.size) (c:Int):
  Xd w (W.setCell ⟨w.heap.size+1,0,none⟩ (.int .i64 c)) rb c ref v a/\Xd w (W.setCell ⟨w.heap.size+1,1,none⟩ (.int .i64 c)) rb cls c v a:=by
 have o0:=Off.setCell W (w.heap.size+1) 0 (.int .i64 c);have o1:=Off.setCell W (w.heap.size+1) 1 (.int .i64 c);have hl:=(qg h.res).1;have hk:∀{W':World},Off [w.heap.size+1] W W'->Off [rb] w W':=λ{W'} o=>⟨o.os.trans h.off.os,o.tape.trans h.off.tape,o.output.trans h.off.output,qm h.off.size o.size,λk hk hn=>(o.block k (by omega) (by simp;omega)).trans (h.off.block k hk hn)⟩;exact⟨⟨hk o0,(o0.block _ hl (by simp)).trans h.res,qs W _ 0 _ _ (.int .i64 c) h.x⟩,⟨hk o1,(o1.block _ hl (by simp)).trans h.res,qs W _ 1 _ _ (.int .i64 c) h.x⟩⟩
theorem RR.XI {w W:World} {rb:Nat} {s:ByteArray} {F:RF} {j:Nat} {no wh:Int} (h:RR W rb s j no wh F) (hr:rb<w.heap.size) (o:Nat) (c:Value):RR (W.setCell ⟨w.heap.size+1,o,none⟩ c) rb s j no wh F:=
 h.off (Off.setCell W (w.heap.size+1) o c) (by simp;omega)
def zqp (w wx:World) (rb:Nat) (s:ByteArray) (F:RF) (i:Nat):Prop:=∃cls ref,Xd w wx rb cls ref (.slice none 0 0) i/\match Qx s i with
 |.ok (c,r,j)=>cls=c/\ref=r/\j<=s.size/\RR wx rb s j 0 0 F
 |.error (c,p)=>c≠0/\∃j,RR wx rb s j c p F
def RhL (w W:World) (rb:Nat) (s:ByteArray) (F:RF) (gC:List UInt8) (cls ref:Int) (i:Nat) (RM:Except (Int×Nat) (List Mk×Nat)):Prop:=
 (∃ms v j q,Xd w W rb cls ref v i/\Qe W w.heap.size v ms/\RR W rb s j 0 0 F/\j<=s.size/\s.size-j<q/\QU s gC q ms j=RM/\ms.length<=j)∨
 (∃(c:Int) (p j:Nat) (A:Option Addr) (n cp:Nat),c≠0/\Xd w W rb cls ref (.slice A n cp) i/\RR W rb s j c p F/\RM=.error (c,p))
def RhM (w w':World) (rb:Nat) (s:ByteArray) (F:RF) (cls ref:Int) (a:Nat) (ms:List Mk) (R:Except (Int×Nat) (Mk×Nat)):Prop:=match R with
 |.ok (m,j)=>RR w' rb s j 0 0 F/\∃v',Xd w w' rb cls ref v' a/\Qe w' w.heap.size v' (ms++[m])
 |.error (c,p)=>∃j,RR w' rb s j c p F/\∃A n cp,Xd w w' rb cls ref (.slice A n cp) a
theorem Xd.mark {w W w':World} {rb:Nat} {s:ByteArray} {F:RF} {cls ref:Int} {v:Value} {a:Nat} {ms:List Mk} {R:Except (Int×Nat) (Mk×Nat)} (h:Xd w W rb cls ref v a) (hr:rb<w.heap.size) (hm:Qe W w.heap.size v ms) (hR:zj0 w.heap.size rb (w.heap.size+1) s F cls ref a v ms W R w'):RhM w w' rb s F cls ref a ms R:=by
 obtain⟨ho,hR⟩:=hR;have hge:∀k∈v.ownBlock.toList,w.heap.size<=k:=λk hk=>by rw[zA] at hk;exact(hm.lt k hk).1
 have hno:w.heap.size∉v.ownBlock.toList:=λhk=>by
  rw[zA] at hk;rcases py hm h.res (by decide) with h1|h1
  ·rw[h1] at hk;cases hk
  ·exact h1 hk
 have hof:Off [rb] w w':=h.off.into ho (λk hk=>by
  simp only[zi] at hk;rcases hk with rfl|rfl|hk
  ·exact .inl (by simp)
  ·right;omega
  ·exact .inr (hge k hk))
 have hres:=(ho.block w.heap.size (qg h.res).1 (by simp only[zi,not_or];exact⟨by omega,by omega,hno⟩)).trans h.res;cases R with
 |error e=>
  obtain⟨c,p⟩:=e;obtain⟨⟨j,hr'⟩,A,n,cp,hx⟩:=hR;exact⟨j,hr',A,n,cp,hof,hres,hx⟩
 |ok mj=>
  obtain⟨m,j⟩:=mj;obtain⟨hr',v',hx,hm'⟩:=hR;exact⟨hr',v',⟨hof,hres,hx⟩,hm'⟩
def zmJ (rb:Nat) (s:ByteArray) (F:RF) (w:World) (r:Except (Int×Nat) (It×Nat)) (e:Ending) (w':World):Prop:=Off [rb] w w'/\
 match r with
 |.ok (x,k)=>∃v,e=.returned (.agg (xrC x.cls x.ref v x.at_))/\Qe w' w.heap.size v x.gE/\RR w' rb s k 0 0 F/\k<=s.size
 |.error (c,p)=>c≠0/\(∃j,RR w' rb s j c p F)/\∃cls ref a A n cp,e=.returned (.agg (xrC cls ref (.slice A n cp) a))
theorem zcf {W:World} {T:Array Value} {Q:Ending->World->Prop} {P:Nat} {v0 v1 v2 v3:Value} (h2:T.getD 2 undef=.pointer (some ⟨P,0,none⟩)) (r:W.heap[P]?=some (.cells #[v0,v1,v2,v3] 99 (0,0))) (hQ:Q (.returned (.agg #[v0,v1,v2,v3])) W):
  bodyPost Tryz.prog Tryz.f102 Q Exit.ret {tmps:=T,defers:=[]} W:=by
 have d0:W.cell? ⟨P,0,none⟩=some v0:=qc _ _ _ _ _ (0,0) r;have d1:W.cell? ⟨P,1,none⟩=some v1:=qc _ _ _ _ _ (0,0) r;have d2:W.cell? ⟨P,2,none⟩=some v2:=qc _ _ _ _ _ (0,0) r;have d3:W.cell? ⟨P,3,none⟩=some v3:=qc _ _ _ _ _ (0,0) r;have h2':T[2]?.getD undef=.pointer (some ⟨P,0,none⟩):=by simpa using h2
 refine zv (v:=.agg #[v0,v1,v2,v3]) ?_ rfl hQ;simp[results,Tryz.f102,go_sem,h2',d0,d1,d2,d3,Tryz.isAgg99,Tryz.sizeOf99]
theorem Xd.fin {w W:World} {rb:Nat} {cls ref:Int} {v:Value} {a:Nat} (h:Xd w W rb cls ref v a) (v0 v1 v2 v3:Value):
  Off [w.heap.size] W ((((W.setCell ⟨w.heap.size,0,none⟩ v0).setCell ⟨w.heap.size,1,none⟩ v1).setCell ⟨w.heap.size,2,none⟩ v2).setCell ⟨w.heap.size,3,none⟩ v3)/\
  ((((W.setCell ⟨w.heap.size,0,none⟩ v0).setCell ⟨w.heap.size,1,none⟩ v1).setCell ⟨w.heap.size,2,none⟩ v2).setCell ⟨w.heap.size,3,none⟩ v3).heap[w.heap.size]?=some (.cells #[v0,v1,v2,v3] 99 (0,0)):=
 ⟨(((Off.setCell W w.heap.size 0 v0).trans (Off.setCell _ w.heap.size 1 v1)).trans (Off.setCell _ w.heap.size 2 v2)).trans (Off.setCell _ w.heap.size 3 v3),
  qs _ _ 3 _ _ v3 (qs _ _ 2 _ _ v2 (qs _ _ 1 _ _ v1 (qs W _ 0 _ _ v0 h.res)))⟩
theorem zj6 (Bl rb:Nat) (s:ByteArray) (i:Nat) (F:RF) (gC:List UInt8) (w:World) (h:RR w rb s i 0 0 F) (hi:i<=s.size) (hl:w.ownsRow Bl 5 1 F.vl gC.length (ZL gC)) (hll:gC.length<=70000):
  Calls Tryz.prog 102 #[.pointer (some ⟨rb,0,none⟩)] w (zmJ rb s F w (Yv s gC i)):=by
 have hrb:=h.lt;have hsz:=h.sz;have h0:Xd w ((w.alloc (.cells #[.int .i64 0,.int .i64 0,.slice none 0 0,.int .i64 0] 99)).alloc (.cells #[.int .i64 (-1),.int .i64 0,.slice none 0 0,.int .i64 i] 99)) rb (-1) 0 (.slice none 0 0) i:=by
  refine⟨((Off.alloc _ w _).trans (Off.alloc _ _ _)),(qa _ _ _ (by simp)).trans (qn w _),?_⟩;have:=qn (w.alloc (.cells #[.int .i64 0,.int .i64 0,.slice none 0 0,.int .i64 0] 99)) (.cells #[.int .i64 (-1),.int .i64 0,.slice none 0 0,.int .i64 i] 99);rw[qO] at this;exact this
 have r1a:=h.c1;have Zx:Below w.heap.size w ((w.alloc (.cells #[.int .i64 0,.int .i64 0,.slice none 0 0,.int .i64 0] 99)).alloc (.cells #[.int .i64 (-1),.int .i64 0,.slice none 0 0,.int .i64 i] 99)):=((qb _ _).alloc (ql _) _).alloc (by simp) _;have hb0:yS 0 s i=gO s i:=by unfold yS;rw[qx rfl]
 have Hc:=qh (ue rb s i 0 0 F _ (h.below Zx));rw[hb0] at Hc;have H1:=qh (λn=>qV (h0.pl hrb (Off.drewN _ _ n)) ((h.below Zx).drewN n));have H:=qh h;have Hl:=qh hl;generalize hR:Yv s gC i=R;have HR:=qh hR;clear h h0 Zx hl hR hb0;go_enter Tryz.func102,Tryz.ntmps102;go_wp2_with fail;refine Hc.out.mono ?_;rintro e w2 ⟨rfl,n2,rfl⟩;obtain⟨hJ1,hr1⟩:=H1.out n2;have JS:=qh hJ1;have Y6:=qh hr1;clear hJ1 hr1 H1 Hc r1a;go_upto_if 13 with fail
 generalize ((w.alloc (.cells #[.int .i64 0,.int .i64 0,.slice none 0 0,.int .i64 0] 99)).alloc (.cells #[.int .i64 (-1),.int .i64 0,.slice none 0 0,.int .i64 i] 99)).drewN n2=W1 at*;have hw1:IntKind.i64.wrap ((i:Int)+1)=(i:Int)+1:=qi _ (by omega);have hc1:((i+1:Nat):Int)=(i:Int)+1:=by omega
 have H2:Hid (RR (W1.setCell ⟨rb,1,none⟩ (.int .i64 ((i:Int)+1))) rb s (i+1) 0 0 F/\Xd w (W1.setCell ⟨rb,1,none⟩ (.int .i64 ((i:Int)+1))) rb (-1) 0 (.slice none 0 0) i):=qh (by
  rw[<-hc1];exact⟨Y6.out.to (by omega),JS.out.pl hrb (Off.setCell W1 rb 1 _)⟩)
 have JF:=zfp s i hi;have Qg:=qh (λW=>zfS (zfn (gO s i) W));have J3:=qh (λW=>zfS (zfn (gO s i|||32) W));have Hor:=qh (zmI (gO s i));generalize hbc:gO s i=bc at*;obtain⟨uc,huc⟩:∃uc:UInt8,bc|||32=uc:=⟨_,rfl⟩
 rw[huc] at JF J3 Hor;clear huc;go_cut [83] from 13 to 83 (λv83 wx=>Hid (zqp w wx rb s F i))
 case first=>
  have r1:=Y6.out.c1;have z1:=Y6.out.z 1;rcases JF with⟨h1,hlt,hP⟩|⟨h1,h2,hlt,hP⟩|⟨h1,h2,h3,h4,h5,hlt,h6,hP⟩|⟨h1,h2,h3,h4,h5,hlt,h6,hP⟩|⟨h1,h2,h3,hP⟩
  ·have q0:((bc.toNat:Int)==120)=true:=(by simp[h1]);have gI:Hid (zqp w (W1.setCell ⟨rb,1,none⟩ (.int .i64 ((i:Int)+1))) rb s F i):=qh ⟨-1,0,H2.out.2,by rw[hP];exact⟨rfl,rfl,by omega,H2.out.1⟩⟩;clear hP h1;go_wp2_with fail;go_meet
   exact gI
  ·have q0:((bc.toNat:Int)==120)=false:=(by simp;omega);have d1:decide (0<=yR bc)=true:=qt h2;have hx:=JS.out.x;have x0:=qc _ _ 0 _ _ (0,0) hx;have xz0:=qf _ _ 0 _ _ hx;have Hs:=qh (RR.XI Y6.out hrb 0 (.int .i64 (yR bc)));have r2:=Hs.out.c1;have rz2:=Hs.out.z 1;have hfin:zqp w ((W1.setCell ⟨w.heap.size+1,0,none⟩ (.int .i64 (yR bc))).setCell ⟨rb,1,none⟩ (.int .i64 ((i:Int)+1))) rb s F i:=by
    rw[<-hc1];exact⟨yR bc,0,(JS.out.XI hrb (yR bc)).1.pl hrb (Off.setCell _ rb 1 _),by rw[hP];exact⟨rfl,rfl,by omega,Hs.out.to (by omega)⟩⟩
   have gI:=qh hfin;clear hP h1 h2 hfin hx;go_wp2_with fail;refine(Qg.out _).mono ?_;rintro e w2 ⟨rfl,rfl⟩;go_wp2_with fail;refine(Qg.out _).mono ?_;rintro e w2 ⟨rfl,rfl⟩;go_wp2_with fail;go_meet
   exact gI
  ·have q0:((bc.toNat:Int)==120)=false:=(by simp;omega);have d1:decide (0<=yR bc)=false:=qd (by omega);have d2:decide (0<=yR uc)=true:=qt h5;have d3:decide (65<=(bc.toNat:Int))=true:=qt (by omega);have d4:decide ((bc.toNat:Int)<=90)=true:=qt (by omega);have hu1:IntKind.u8.wrap ((bc.toNat:Int)-65)=(bc.toNat:Int)-65:=zfI (by omega) (by omega);have hu2:IntKind.u8.wrap ((bc.toNat:Int)-65+97)=(uc.toNat:Int):=(by rw[Hor.out (by omega) (by omega)];exact zfI (by omega) (by have:=uc.toNat_lt;omega));have hx:=JS.out.x;have x0:=qc _ _ 0 _ _ (0,0) hx;have xz0:=qf _ _ 0 _ _ hx;have Hs:=qh (RR.XI Y6.out hrb 0 (.int .i64 (yR uc)));have r2:=Hs.out.c1;have rz2:=Hs.out.z 1;have h7:RR ((W1.setCell ⟨w.heap.size+1,0,none⟩ (.int .i64 (yR uc))).setCell ⟨rb,1,none⟩ (.int .i64 ((i:Int)+1))) rb s (i+1) 0 0 F/\Xd w ((W1.setCell ⟨w.heap.size+1,0,none⟩ (.int .i64 (yR uc))).setCell ⟨rb,1,none⟩ (.int .i64 ((i:Int)+1))) rb (yR uc) 0 (.slice none 0 0) i:=by
    rw[<-hc1];exact⟨Hs.out.to (by omega),(JS.out.XI hrb (yR uc)).1.pl hrb (Off.setCell _ rb 1 _)⟩
   have H7:=qh h7;have HP:=qh hP;clear hP h1 h2 h7 hx h5;go_wp2_with fail;refine(Qg.out _).mono ?_;rintro e w2 ⟨rfl,rfl⟩;go_wp2_with fail;refine(J3.out _).mono ?_;rintro e w2 ⟨rfl,rfl⟩;go_wp2_with fail;refine(J3.out _).mono ?_;rintro e w2 ⟨rfl,rfl⟩;go_wp2_with fail;obtain⟨Kq,hJ7⟩:=H7.out;generalize (W1.setCell ⟨w.heap.size+1,0,none⟩ (.int .i64 (yR uc))).setCell ⟨rb,1,none⟩ (.int .i64 ((i:Int)+1))=W2 at*;have Hr7:=qh Kq;have HJ7:=qh hJ7;have hb2:yS 0 s (i+1)=gO s (i+1):=(by unfold yS;rw[qx rfl]);have Hc2:=qh (λn=>ue rb s (i+1) 0 0 F (W2.drewN n) (Kq.drewN n));have zpR:=qh (Hc2.out 0);have hin:=zgP (no:=0) (s:=s) (i:=i+1) (a:=49) (b:=57) rfl (by omega);have h6':=h6;rw[hb2] at Hc2 zpR hin;rw[hin] at h6;clear hin H7 r2 rz2 x0 xz0 r1 z1 Kq hJ7 Hs hb2;have Yw:R=.error (180,i+1):=(by rw[<-HR.out];unfold Yv;rw[HP.out]);have HR3:=qh Yw;clear h6' Yw;have hb3:((gO s (i+1)).toNat:Int)<49∨(49<=((gO s (i+1)).toNat:Int)/\57<((gO s (i+1)).toNat:Int)):=by
    by_cases g1:((gO s (i+1)).toNat:Int)<49
    ·exact .inl g1
    ·right;refine⟨by omega,?_⟩;by_cases g2:57<((gO s (i+1)).toNat:Int)
     ·exact g2
     ·rw[qP (by omega),qP (by omega)] at h6;cases h6
   generalize gO s (i+1)=b2 at*;have Qd:=qh (λn=>zbu rb s (i+1) 0 0 F (W2.drewN n) (Hr7.out.drewN n));have HE:Hid (∀n w5,RR w5 rb s (i+1) (QB 0 180) (Zz 0 0 ((i+1:Nat):Int)) F->Off [rb] (W2.drewN n) w5->Xd w w5 rb (yR uc) 0 (.slice none 0 0) i):=qh (λn w5 gV pu=>HJ7.out.pl hrb ((Off.drewN _ W2 n).trans pu));clear h6;rcases hb3 with g1|⟨g1,g2⟩
   have e1:decide ((b2.toNat:Int)<49)=true:=qt g1;refine zpR.out.mono ?_;rintro e w4 ⟨rfl,n4,rfl⟩;rotate_left
   have n1:¬(b2.toNat:Int)<49:=(by omega);have e1:decide ((b2.toNat:Int)<49)=false:=qd n1;have e2:decide (57<(b2.toNat:Int))=true:=qt g2;refine zpR.out.mono ?_;rintro e w4 ⟨rfl,n4,rfl⟩;go_wp2_with fail;refine(Hc2.out _).mono ?_;rintro e w4 ⟨rfl,n5,rfl⟩
   all_goals(go_wp2_with fail;refine(Qd.out _).mono ?_;rintro e w5 ⟨rfl,gV,pu⟩;have QJ:=HE.out _ _ gV pu;have x0:w5.cell? ⟨w.heap.size+1,0,none⟩=some (.int .i64 (yR uc)):=qc _ _ 0 _ _ (0,0) QJ.x;have x1:w5.cell? ⟨w.heap.size+1,1,none⟩=some (.int .i64 0):=qc _ _ 1 _ _ (0,0) QJ.x;have x2:w5.cell? ⟨w.heap.size+1,2,none⟩=some (.slice none 0 0):=qc _ _ 2 _ _ (0,0) QJ.x;have x3:w5.cell? ⟨w.heap.size+1,3,none⟩=some (.int .i64 i):=qc _ _ 3 _ _ (0,0) QJ.x;have y0:=qc _ _ 0 _ _ (0,0) QJ.res;have y1:=qc _ _ 1 _ _ (0,0) QJ.res;have y2:=qc _ _ 2 _ _ (0,0) QJ.res;have y3:=qc _ _ 3 _ _ (0,0) QJ.res;have z0:=qf _ _ 0 _ _ QJ.res;have z1:=qf _ _ 1 _ _ QJ.res;have z2:=qf _ _ 2 _ _ QJ.res;have z3:=qf _ _ 3 _ _ QJ.res;have hfin:=QJ.fin (.int .i64 (yR uc)) (.int .i64 0) (.slice none 0 0) (.int .i64 i);have Yx:Off [rb] w _:=Off.into QJ.off hfin.1 (λk hk=>by simp at hk;omega);have Yy:=gV.off hfin.1 (by simp;omega);have gI:=qh hfin;have Z3:=qh Yx;have Z4:=qh Yy;clear gV pu QJ hfin Yx Yy;go_wp2_with fail;refine zcf rfl gI.out.2 ⟨Z3.out,?_⟩;rw[HR3.out];exact⟨by decide,⟨_,Z4.out⟩,_,_,_,_,_,_,rfl⟩)
  ·have q0:((bc.toNat:Int)==120)=false:=(by simp;omega);have d1:decide (0<=yR bc)=false:=qd (by omega);have d2:decide (0<=yR uc)=true:=qt h5;have d3:decide (65<=(bc.toNat:Int))=true:=qt (by omega);have d4:decide ((bc.toNat:Int)<=90)=true:=qt (by omega);have hu1:IntKind.u8.wrap ((bc.toNat:Int)-65)=(bc.toNat:Int)-65:=zfI (by omega) (by omega);have hu2:IntKind.u8.wrap ((bc.toNat:Int)-65+97)=(uc.toNat:Int):=(by rw[Hor.out (by omega) (by omega)];exact zfI (by omega) (by have:=uc.toNat_lt;omega));have hx:=JS.out.x;have x0:=qc _ _ 0 _ _ (0,0) hx;have xz0:=qf _ _ 0 _ _ hx;have Hs:=qh (RR.XI Y6.out hrb 0 (.int .i64 (yR uc)));have r2:=Hs.out.c1;have rz2:=Hs.out.z 1;have h7:RR ((W1.setCell ⟨w.heap.size+1,0,none⟩ (.int .i64 (yR uc))).setCell ⟨rb,1,none⟩ (.int .i64 ((i:Int)+1))) rb s (i+1) 0 0 F/\Xd w ((W1.setCell ⟨w.heap.size+1,0,none⟩ (.int .i64 (yR uc))).setCell ⟨rb,1,none⟩ (.int .i64 ((i:Int)+1))) rb (yR uc) 0 (.slice none 0 0) i:=by
    rw[<-hc1];exact⟨Hs.out.to (by omega),(JS.out.XI hrb (yR uc)).1.pl hrb (Off.setCell _ rb 1 _)⟩
   have H7:=qh h7;have HP:=qh hP;clear hP h1 h2 h7 hx h5;go_wp2_with fail;refine(Qg.out _).mono ?_;rintro e w2 ⟨rfl,rfl⟩;go_wp2_with fail;refine(J3.out _).mono ?_;rintro e w2 ⟨rfl,rfl⟩;go_wp2_with fail;refine(J3.out _).mono ?_;rintro e w2 ⟨rfl,rfl⟩;go_wp2_with fail;obtain⟨Kq,hJ7⟩:=H7.out;generalize (W1.setCell ⟨w.heap.size+1,0,none⟩ (.int .i64 (yR uc))).setCell ⟨rb,1,none⟩ (.int .i64 ((i:Int)+1))=W2 at*;have Hr7:=qh Kq;have HJ7:=qh hJ7;have hb2:yS 0 s (i+1)=gO s (i+1):=(by unfold yS;rw[qx rfl]);have Hc2:=qh (λn=>ue rb s (i+1) 0 0 F (W2.drewN n) (Kq.drewN n));have zpR:=qh (Hc2.out 0);have hin:=zgP (no:=0) (s:=s) (i:=i+1) (a:=49) (b:=57) rfl (by omega);have h6':=h6;rw[hb2] at Hc2 zpR hin;rw[hin] at h6;clear hin H7 r2 rz2 x0 xz0 r1 z1 Kq hJ7 Hs hb2;have HI:Hid (i+1<s.size):=qh (zb7 (h6':pK s (i+1) 49 57=true));simp only[qz,qC] at h6;generalize gO s (i+1)=b2 at*;have e1:decide ((b2.toNat:Int)<49)=false:=qd (by omega);have e2:decide (57<(b2.toNat:Int))=false:=qd (by omega);have n1:¬(b2.toNat:Int)<49:=(by omega);have n2':¬57<(b2.toNat:Int):=(by omega);have hu3:IntKind.u8.wrap ((b2.toNat:Int)-48)=(b2.toNat:Int)-48:=zfI (by omega) (by omega);have hc2:((i+2:Nat):Int)=(i:Int)+1+1:=(by omega);have hw2:IntKind.i64.wrap ((i:Int)+1+1)=(i:Int)+1+1:=qi _ (by omega);have hx7:=HJ7.out.x;have y1:=qc _ _ 1 _ _ (0,0) hx7;have yz1:=qf _ _ 1 _ _ hx7;have Hs2:=qh (λn=>RR.XI (Hr7.out.drewN n) hrb 1 (.int .i64 ((b2.toNat:Int)-48)));have t1:=λn=>(Hs2.out n).c1;have tz1:=λn=>(Hs2.out n).z 1;have hfin:∀n,zqp w (((W2.drewN n).setCell ⟨w.heap.size+1,1,none⟩ (.int .i64 ((b2.toNat:Int)-48))).setCell ⟨rb,1,none⟩ (.int .i64 ((i:Int)+1+1))) rb s F i:=λn=>by
    rw[<-hc2];have hlt2:=Hr7.out.sz;have h9:=HI.out;exact⟨yR uc,(b2.toNat:Int)-48,((HJ7.out.pl hrb (Off.drewN _ W2 n)).XI hrb ((b2.toNat:Int)-48)).2.pl hrb (Off.setCell _ rb 1 _),by rw[HP.out];exact⟨rfl,rfl,by omega,(Hs2.out n).to (by omega)⟩⟩
   have gI:=qh hfin;clear hc2 hfin hx7;refine zpR.out.mono ?_;rintro e w4 ⟨rfl,n4,rfl⟩;go_wp2_with fail;refine(Hc2.out _).mono ?_;rintro e w4 ⟨rfl,n5,rfl⟩;go_wp2_with fail;refine(Hc2.out _).mono ?_;rintro e w4 ⟨rfl,n6,rfl⟩;go_wp2_with fail;go_meet
   exact gI.out _
  ·have q0:((bc.toNat:Int)==120)=false:=(by simp;omega);have d1:decide (0<=yR bc)=false:=qd (by omega);have Qd:=qh (zbu rb s i 0 0 F W1 Y6.out);have HB:Hid (∀w4,RR w4 rb s i (QB 0 180) (Zz 0 0 (i:Int)) F->Off [rb] W1 w4->zqp w w4 rb s F i):=qh (λw4 hr4 Qq=>⟨-1,0,JS.out.pl hrb Qq,by rw[hP];exact⟨by decide,_,hr4⟩⟩);clear hP h1 h2;have hw3:((bc.toNat:Int)<65)∨(65<=(bc.toNat:Int)/\90<(bc.toNat:Int))∨(65<=(bc.toNat:Int)/\(bc.toNat:Int)<=90/\yR uc<0):=(by omega);clear h3;rcases hw3 with g1|⟨g1,g2⟩|⟨g1,g2,g3⟩
   have d3:decide (65<=(bc.toNat:Int))=false:=qd (by omega);go_wp2_with fail;refine(Qg.out _).mono ?_;rotate_left
   have d3:decide (65<=(bc.toNat:Int))=true:=qt g1;have d4:decide ((bc.toNat:Int)<=90)=false:=qd (by omega);go_wp2_with fail;refine(Qg.out _).mono ?_;rotate_left
   have d3:decide (65<=(bc.toNat:Int))=true:=qt g1;have d4:decide ((bc.toNat:Int)<=90)=true:=qt g2;have d2:decide (0<=yR uc)=false:=qd (by omega);have hu1:IntKind.u8.wrap ((bc.toNat:Int)-65)=(bc.toNat:Int)-65:=zfI (by omega) (by omega);have hu2:IntKind.u8.wrap ((bc.toNat:Int)-65+97)=(uc.toNat:Int):=(by rw[Hor.out g1 g2];exact zfI (by omega) (by have:=uc.toNat_lt;omega));go_wp2_with fail;refine(Qg.out _).mono ?_;rintro e w2 ⟨rfl,rfl⟩;go_wp2_with fail;refine(J3.out _).mono ?_
   all_goals
    rintro e w2 ⟨rfl,rfl⟩;go_wp2_with fail;refine Qd.out.mono ?_;rintro e w4 ⟨rfl,hr4,Qq⟩;have gI:=qh (HB.out w4 hr4 Qq);clear hr4 Qq;go_wp2_with fail;go_meet
    exact gI
 case rest=>
  obtain⟨W2,hW2⟩:∃W2:World,W2=wc:=⟨_,rfl⟩;subst hW2;obtain⟨cls,ref,hJ2,hm2⟩:=hcut.out;clear JF Qg J3 Hor H2 JS Y6 hw1 hc1 hbc;obtain⟨RM,Y7⟩:∃RM:Except (Int×Nat) (List Mk×Nat),RM=match Qx s i with|.error e=>.error e|.ok (_,_,j)=>QU s gC (s.size+1) [] j:=⟨_,rfl⟩
  have hL2:RhL w W2 rb s F gC cls ref i RM/\(∀ms k,RM=.ok (ms,k)->R=if¬vL s k/\¬gT s k 32 then .error (180,k) else .ok (⟨cls,ref,ms,i⟩,k))/\(∀e,RM=.error e->R=.error e):=by
   have hR:=HR.out;unfold Yv at hR;cases hP:Qx s i with
   |error e=>obtain⟨c,p⟩:=e;rw[hP] at hm2 Y7 hR;obtain⟨hc,j,hr⟩:=hm2;simp only at Y7 hR;exact⟨.inr ⟨c,p,j,none,0,0,hc,hJ2,hr,Y7⟩,(λms k h=>by rw[Y7] at h;cases h),(λe h=>by rw[Y7] at h;cases h;exact hR.symm)⟩
   |ok r=>
    obtain⟨c1,c2,j⟩:=r;rw[hP] at hm2 Y7 hR;obtain⟨rfl,rfl,hj,hr⟩:=hm2;simp only at Y7 hR;refine⟨.inl ⟨[],_,j,s.size+1,hJ2,⟨rfl,.inl ⟨rfl,rfl⟩⟩,hr,hj,by omega,Y7.symm,by simp⟩,λms k h=>?_,λe h=>?_⟩
    ·rw[<-Y7,h] at hR;exact hR.symm
    ·rw[<-Y7,h] at hR;exact hR.symm
  obtain⟨hL,hRok,hRer⟩:=hL2;have HL:=qh hL;have HRok:=qh hRok;have HRer:=qh hRer;clear hcut hJ2 hm2 Y7 hL hRok hRer;go_wp2_with fail;go_loopw [] (λwr=>Hid (RhL w wr rb s F gC cls ref i RM)) (λwr=>match wr.cell? ⟨rb,2,none⟩ with|some v=>if intOf v=0 then s.size+2-(match wr.cell? ⟨rb,1,none⟩ with|some u=>(intOf u).toNat|none=>0) else 0|none=>0)
  case atStart=>exact HL
  case round=>
   clear HL;rcases hrel.out with⟨ms,v,j,q,hJ,hm,hr,hj,hq,hT,hml⟩|⟨c,p,j,A,n,cp,hc,QJ,gV,Y7⟩
   ·obtain⟨A,cp,rfl⟩:=pR hm;have pT:Hid (wr.cell? ⟨rb,2,none⟩=some (.int .i64 0)/\wr.cell? ⟨rb,1,none⟩=some (.int .i64 j)):=qh ⟨hr.c2,hr.c1⟩;have hb0:yS 0 s j=gO s j:=(by unfold yS;rw[qx rfl]);have Hc:=qh (λn=>ue rb s j 0 0 F (wr.drewN n) (hr.drewN n));rw[hb0] at Hc;have JE:=qh (Hc.out 0);have his:∀c:UInt8,c≠0->gO s j=c->j<s.size:=λc h0 hb=>by
     by_cases hlt:j<s.size
     ·exact hlt
     ·rw[zbe hlt] at hb;exact absurd hb.symm h0
    have HJ:=qh hJ;have Hm:=qh hm;have Hr:=qh hr;rcases zcV (gO s j) with⟨hsb,hsg⟩|⟨hsb,_⟩
    ·have hlt:j<s.size:=by
      rcases hsg with⟨h,_⟩|⟨h,_⟩|⟨h,_⟩|⟨h,_⟩|⟨h,_⟩|⟨h,_⟩<;>exact his _ (by decide) h
     have hLm:wr.ownsRow Bl 5 1 F.vl gC.length (ZL gC):=hJ.off.pd Hl.out (gR.one H.out.r) (by decide);have zsU:=qh (λn=>zj4 w.heap.size Bl rb (w.heap.size+1) s j F gC cls ref i (.slice A ms.length cp) ms (wr.drewN n) (hr.drewN n) hlt ((Off.drewN [] wr n).own hLm (λk hk=>by simp)) hll hJ.x ((Off.drewN [] wr n).own hm (λk hk=>by simp)) (by omega) hJ.off.size)
     have HN:Hid (∀n w5,zj0 w.heap.size rb (w.heap.size+1) s F cls ref i (.slice A ms.length cp) ms (wr.drewN n) (QM s gC ms j) w5->
       RhL w w5 rb s F gC cls ref i RM/\∃(no:Int) (j':Nat),w5.cell? ⟨rb,2,none⟩=some (.int .i64 no)/\w5.cell? ⟨rb,1,none⟩=some (.int .i64 j')/\(no=0->j<j')):=qh (λn w5 h5=>by
      have h6:=(hJ.pl hrb (Off.drewN [rb] wr n)).mark hrb ((Off.drewN [] wr n).own hm (λk hk=>by simp)) h5;cases q with
      |zero=>omega
      |succ q'=>
       unfold QU at hT;rw[qx ⟨hlt,hsb⟩] at hT;cases hmp:QM s gC ms j with
       |error e=>
        obtain⟨c,p⟩:=e;rw[hmp] at h6 hT;obtain⟨j',ZC,A',n',cp',hJ6⟩:=h6;have hc:=zgR hmp;exact⟨.inr ⟨c,p,j',A',n',cp',hc,hJ6,ZC,hT.symm⟩,c,j',ZC.c2,ZC.c1,λe=>absurd e hc⟩
       |ok mj=>
        obtain⟨m,j'⟩:=mj;rw[hmp] at h6 hT;obtain⟨ZC,v',hJ6,Xc⟩:=h6;obtain⟨e1,e2,e3⟩:=zcW hlt hsb hmp;have e4:=zdz e2;exact⟨.inl ⟨ms++[m],v',j',q',hJ6,Xc,ZC,by omega,by omega,hT,by simp;omega⟩,0,j',ZC.c2,ZC.c1,λ_=>by omega⟩)
     generalize gO s j=bj at*;clear hrel hJ hm hr hT hsb his hb0 hLm;rcases hsg with⟨hbj,_⟩|⟨hbj,_⟩|⟨hbj,_⟩|⟨hbj,_⟩|⟨hbj,_⟩|⟨hbj,_⟩
     have g0:((bj.toNat:Int)==58)=true:=(by rw[hbj];rfl);clear hbj;go_wp2_with fail;refine JE.out.mono ?_;rintro e w4 ⟨rfl,n0,rfl⟩;rotate_left
     have g0:((bj.toNat:Int)==58)=false:=(by rw[hbj];rfl);have g1:((bj.toNat:Int)==47)=true:=(by rw[hbj];rfl);clear hbj;go_wp2_with fail;refine JE.out.mono ?_;rintro e w4 ⟨rfl,n0,rfl⟩;go_wp2_with fail;refine(Hc.out _).mono ?_;rintro e w4 ⟨rfl,n1,rfl⟩;rotate_left
     have g0:((bj.toNat:Int)==58)=false:=(by rw[hbj];rfl);have g1:((bj.toNat:Int)==47)=false:=(by rw[hbj];rfl);have g2:((bj.toNat:Int)==94)=true:=(by rw[hbj];rfl);clear hbj;go_wp2_with fail;refine JE.out.mono ?_;rintro e w4 ⟨rfl,n0,rfl⟩;go_wp2_with fail;refine(Hc.out _).mono ?_;rintro e w4 ⟨rfl,n1,rfl⟩;go_wp2_with fail;refine(Hc.out _).mono ?_;rintro e w4 ⟨rfl,n2,rfl⟩;rotate_left
     have g0:((bj.toNat:Int)==58)=false:=(by rw[hbj];rfl);have g1:((bj.toNat:Int)==47)=false:=(by rw[hbj];rfl);have g2:((bj.toNat:Int)==94)=false:=(by rw[hbj];rfl);have g3:((bj.toNat:Int)==64)=true:=(by rw[hbj];rfl);clear hbj;go_wp2_with fail;refine JE.out.mono ?_;rintro e w4 ⟨rfl,n0,rfl⟩;go_wp2_with fail;refine(Hc.out _).mono ?_;rintro e w4 ⟨rfl,n1,rfl⟩;go_wp2_with fail;refine(Hc.out _).mono ?_;rintro e w4 ⟨rfl,n2,rfl⟩;go_wp2_with fail;refine(Hc.out _).mono ?_;rintro e w4 ⟨rfl,n3,rfl⟩;rotate_left
     have g0:((bj.toNat:Int)==58)=false:=(by rw[hbj];rfl);have g1:((bj.toNat:Int)==47)=false:=(by rw[hbj];rfl);have g2:((bj.toNat:Int)==94)=false:=(by rw[hbj];rfl);have g3:((bj.toNat:Int)==64)=false:=(by rw[hbj];rfl);have g4:((bj.toNat:Int)==126)=true:=(by rw[hbj];rfl);clear hbj;go_wp2_with fail;refine JE.out.mono ?_;rintro e w4 ⟨rfl,n0,rfl⟩;go_wp2_with fail;refine(Hc.out _).mono ?_;rintro e w4 ⟨rfl,n1,rfl⟩;go_wp2_with fail;refine(Hc.out _).mono ?_;rintro e w4 ⟨rfl,n2,rfl⟩;go_wp2_with fail;refine(Hc.out _).mono ?_;rintro e w4 ⟨rfl,n3,rfl⟩;go_wp2_with fail;refine(Hc.out _).mono ?_;rintro e w4 ⟨rfl,n4,rfl⟩;rotate_left
     have g0:((bj.toNat:Int)==58)=false:=(by rw[hbj];rfl);have g1:((bj.toNat:Int)==47)=false:=(by rw[hbj];rfl);have g2:((bj.toNat:Int)==94)=false:=(by rw[hbj];rfl);have g3:((bj.toNat:Int)==64)=false:=(by rw[hbj];rfl);have g4:((bj.toNat:Int)==126)=false:=(by rw[hbj];rfl);have g5:((bj.toNat:Int)==39)=true:=(by rw[hbj];rfl);clear hbj;go_wp2_with fail;refine JE.out.mono ?_;rintro e w4 ⟨rfl,n0,rfl⟩;go_wp2_with fail;refine(Hc.out _).mono ?_;rintro e w4 ⟨rfl,n1,rfl⟩;go_wp2_with fail;refine(Hc.out _).mono ?_;rintro e w4 ⟨rfl,n2,rfl⟩;go_wp2_with fail;refine(Hc.out _).mono ?_;rintro e w4 ⟨rfl,n3,rfl⟩;go_wp2_with fail;refine(Hc.out _).mono ?_;rintro e w4 ⟨rfl,n4,rfl⟩;go_wp2_with fail;refine(Hc.out _).mono ?_;rintro e w4 ⟨rfl,n5,rfl⟩
     all_goals
      go_wp2_with fail;refine(zsU.out _).mono ?_;rintro e w5 ⟨rfl,hm5⟩;have hn5:=HN.out _ _ hm5;have Hn5:=qh hn5;clear hm5 hn5;go_wp2_with fail;go_roundw
      case rel=>exact qh Hn5.out.1
      case measure=>
       obtain⟨no,j',hc2,hc1,zr6⟩:=Hn5.out.2;rw[hc2,hc1,pT.out.1,pT.out.2];simp only[intOf];by_cases h0:no=0
       ·have:=zr6 h0;simp[h0];omega
       ·simp[h0];omega
    ·have hng:∀c:UInt8,zd9 c=true->((gO s j).toNat:Int)≠(c.toNat:Int):=λc hc he=>by
      have:gO s j=c:=(by apply ji.1;omega);rw[this,hc] at hsb;cases hsb
     have g0:(((gO s j).toNat:Int)==58)=false:=(by simpa using hng 58 (by decide+kernel));have g1:(((gO s j).toNat:Int)==47)=false:=(by simpa using hng 47 (by decide+kernel));have g2:(((gO s j).toNat:Int)==94)=false:=(by simpa using hng 94 (by decide+kernel));have g3:(((gO s j).toNat:Int)==64)=false:=(by simpa using hng 64 (by decide+kernel));have g4:(((gO s j).toNat:Int)==126)=false:=(by simpa using hng 126 (by decide+kernel));have g5:(((gO s j).toNat:Int)==39)=false:=(by simpa using hng 39 (by decide+kernel));have Y7:RM=.ok (ms,j):=by
      cases q with
      |zero=>omega
      |succ q'=>unfold QU at hT;rw[qv (by rw[hsb];simp)] at hT;exact hT.symm
     have HRM:=qh (HRok.out ms j Y7);have He:=qh (λn=>zht rb s j 0 0 F (wr.drewN n) (hr.drewN n));have XW:zfz 0 s j=vL s j:=(by unfold zfz;rw[qx rfl]);rw[XW] at He;have Qd:=qh (λn=>zbu rb s j 0 0 F (wr.drewN n) (hr.drewN n));have r2:=hr.c2;have Yo:gT s j 32=(((gO s j).toNat:Int)==32):=by
      by_cases hlt:j<s.size
      ·rw[QH hlt,ZI hlt]
      ·rw[zcE hlt,zbe hlt];rfl
     have Hlen:=qh hj;generalize gO s j=bj at*;clear hrel hT hsb hng hb0 his XW;cases hend:vL s j with
     |true=>have hnot:(!vL s j)=false:=(by rw[hend];rfl);go_wp2_with fail;refine JE.out.mono ?_;rintro e w4 ⟨rfl,n0,rfl⟩;go_wp2_with fail;refine(Hc.out _).mono ?_;rintro e w4 ⟨rfl,n1,rfl⟩;go_wp2_with fail;refine(Hc.out _).mono ?_;rintro e w4 ⟨rfl,n2,rfl⟩;go_wp2_with fail;refine(Hc.out _).mono ?_;rintro e w4 ⟨rfl,n3,rfl⟩;go_wp2_with fail;refine(Hc.out _).mono ?_;rintro e w4 ⟨rfl,n4,rfl⟩;go_wp2_with fail;refine(Hc.out _).mono ?_;rintro e w4 ⟨rfl,n5,rfl⟩;go_wp2_with fail;refine(He.out _).mono ?_;rintro e w4 ⟨rfl,n6,rfl⟩;rw[hend];have x0:wr.cell? ⟨w.heap.size+1,0,none⟩=some (.int .i64 cls):=qc _ _ 0 _ _ (0,0) HJ.out.x;have x1:wr.cell? ⟨w.heap.size+1,1,none⟩=some (.int .i64 ref):=qc _ _ 1 _ _ (0,0) HJ.out.x;have x2:wr.cell? ⟨w.heap.size+1,2,none⟩=some (.slice A ms.length cp):=qc _ _ 2 _ _ (0,0) HJ.out.x;have x3:wr.cell? ⟨w.heap.size+1,3,none⟩=some (.int .i64 i):=qc _ _ 3 _ _ (0,0) HJ.out.x;have y0:=qc _ _ 0 _ _ (0,0) HJ.out.res;have y1:=qc _ _ 1 _ _ (0,0) HJ.out.res;have y2:=qc _ _ 2 _ _ (0,0) HJ.out.res;have y3:=qc _ _ 3 _ _ (0,0) HJ.out.res;have z0:=qf _ _ 0 _ _ HJ.out.res;have z1:=qf _ _ 1 _ _ HJ.out.res;have z2:=qf _ _ 2 _ _ HJ.out.res;have z3:=qf _ _ 3 _ _ HJ.out.res;have gI:=qh (λnn=>(HJ.out.pl hrb (Off.drewN [rb] wr nn)).fin (.int .i64 cls) (.int .i64 ref) (.slice A ms.length cp) (.int .i64 i));have Z3:=qh (λn=>Off.into (HJ.out.off.trans (Off.drewN [rb] wr n)) (gI.out n).1 (λk hk=>by simp at hk;omega));have Z4:=qh (λn=>(Hr.out.drewN n).off (gI.out n).1 (by simp;omega));have HmX:=qh (λn=>(Off.drewN [] wr n).own Hm.out (λk hk=>by simp));go_wp2_with fail;refine zcf rfl (gI.out _).2 ⟨Z3.out _,?_⟩;rw[HRM.out,qv (by simp[hend])];exact⟨_,rfl,(gI.out _).1.pd (HmX.out _) (gR.one HJ.out.res) (by decide),Z4.out _,Hlen.out⟩
     |false=>
      cases h32:gT s j 32 with
      |true=>have q32:((bj.toNat:Int) !=32)=false:=(by rw[h32] at Yo;simp[bne,<-Yo]);go_wp2_with fail;refine JE.out.mono ?_;rintro e w4 ⟨rfl,n0,rfl⟩;go_wp2_with fail;refine(Hc.out _).mono ?_;rintro e w4 ⟨rfl,n1,rfl⟩;go_wp2_with fail;refine(Hc.out _).mono ?_;rintro e w4 ⟨rfl,n2,rfl⟩;go_wp2_with fail;refine(Hc.out _).mono ?_;rintro e w4 ⟨rfl,n3,rfl⟩;go_wp2_with fail;refine(Hc.out _).mono ?_;rintro e w4 ⟨rfl,n4,rfl⟩;go_wp2_with fail;refine(Hc.out _).mono ?_;rintro e w4 ⟨rfl,n5,rfl⟩;go_wp2_with fail;refine(He.out _).mono ?_;rintro e w4 ⟨rfl,n6,rfl⟩;rw[hend];go_wp2_with fail;refine(Hc.out _).mono ?_;rintro e w4 ⟨rfl,n7,rfl⟩;have x0:wr.cell? ⟨w.heap.size+1,0,none⟩=some (.int .i64 cls):=qc _ _ 0 _ _ (0,0) HJ.out.x;have x1:wr.cell? ⟨w.heap.size+1,1,none⟩=some (.int .i64 ref):=qc _ _ 1 _ _ (0,0) HJ.out.x;have x2:wr.cell? ⟨w.heap.size+1,2,none⟩=some (.slice A ms.length cp):=qc _ _ 2 _ _ (0,0) HJ.out.x;have x3:wr.cell? ⟨w.heap.size+1,3,none⟩=some (.int .i64 i):=qc _ _ 3 _ _ (0,0) HJ.out.x;have y0:=qc _ _ 0 _ _ (0,0) HJ.out.res;have y1:=qc _ _ 1 _ _ (0,0) HJ.out.res;have y2:=qc _ _ 2 _ _ (0,0) HJ.out.res;have y3:=qc _ _ 3 _ _ (0,0) HJ.out.res;have z0:=qf _ _ 0 _ _ HJ.out.res;have z1:=qf _ _ 1 _ _ HJ.out.res;have z2:=qf _ _ 2 _ _ HJ.out.res;have z3:=qf _ _ 3 _ _ HJ.out.res;have gI:=qh (λnn=>(HJ.out.pl hrb (Off.drewN [rb] wr nn)).fin (.int .i64 cls) (.int .i64 ref) (.slice A ms.length cp) (.int .i64 i));have Z3:=qh (λn=>Off.into (HJ.out.off.trans (Off.drewN [rb] wr n)) (gI.out n).1 (λk hk=>by simp at hk;omega));have Z4:=qh (λn=>(Hr.out.drewN n).off (gI.out n).1 (by simp;omega));have HmX:=qh (λn=>(Off.drewN [] wr n).own Hm.out (λk hk=>by simp));go_wp2_with fail;refine zcf rfl (gI.out _).2 ⟨Z3.out _,?_⟩;rw[HRM.out,qv (by simp[hend,h32])];exact⟨_,rfl,(gI.out _).1.pd (HmX.out _) (gR.one HJ.out.res) (by decide),Z4.out _,Hlen.out⟩
      |false=>have q32:((bj.toNat:Int) !=32)=true:=(by rw[h32] at Yo;simp[bne,<-Yo]);go_wp2_with fail;refine JE.out.mono ?_;rintro e w4 ⟨rfl,n0,rfl⟩;go_wp2_with fail;refine(Hc.out _).mono ?_;rintro e w4 ⟨rfl,n1,rfl⟩;go_wp2_with fail;refine(Hc.out _).mono ?_;rintro e w4 ⟨rfl,n2,rfl⟩;go_wp2_with fail;refine(Hc.out _).mono ?_;rintro e w4 ⟨rfl,n3,rfl⟩;go_wp2_with fail;refine(Hc.out _).mono ?_;rintro e w4 ⟨rfl,n4,rfl⟩;go_wp2_with fail;refine(Hc.out _).mono ?_;rintro e w4 ⟨rfl,n5,rfl⟩;go_wp2_with fail;refine(He.out _).mono ?_;rintro e w4 ⟨rfl,n6,rfl⟩;rw[hend];go_wp2_with fail;refine(Hc.out _).mono ?_;rintro e w4 ⟨rfl,n7,rfl⟩;go_wp2_with fail;refine(Qd.out _).mono ?_;rintro e w5 ⟨rfl,gV,pu⟩;have QJ:=HJ.out.pl hrb ((Off.drewN [rb] wr _).trans pu);have HmX:Hid True:=qh trivial;have x0:w5.cell? ⟨w.heap.size+1,0,none⟩=some (.int .i64 cls):=qc _ _ 0 _ _ (0,0) QJ.x;have x1:w5.cell? ⟨w.heap.size+1,1,none⟩=some (.int .i64 ref):=qc _ _ 1 _ _ (0,0) QJ.x;have x2:w5.cell? ⟨w.heap.size+1,2,none⟩=some (.slice A ms.length cp):=qc _ _ 2 _ _ (0,0) QJ.x;have x3:w5.cell? ⟨w.heap.size+1,3,none⟩=some (.int .i64 i):=qc _ _ 3 _ _ (0,0) QJ.x;have y0:=qc _ _ 0 _ _ (0,0) QJ.res;have y1:=qc _ _ 1 _ _ (0,0) QJ.res;have y2:=qc _ _ 2 _ _ (0,0) QJ.res;have y3:=qc _ _ 3 _ _ (0,0) QJ.res;have z0:=qf _ _ 0 _ _ QJ.res;have z1:=qf _ _ 1 _ _ QJ.res;have z2:=qf _ _ 2 _ _ QJ.res;have z3:=qf _ _ 3 _ _ QJ.res;have hfin:=QJ.fin (.int .i64 cls) (.int .i64 ref) (.slice A ms.length cp) (.int .i64 i);have Yx:Off [rb] w _:=Off.into QJ.off hfin.1 (λk hk=>by simp at hk;omega);have Yy:=gV.off hfin.1 (by simp;omega);have gI:=qh hfin;have Z3:=qh Yx;have Z4:=qh Yy;clear gV pu QJ hfin Yx Yy;go_wp2_with fail;refine zcf rfl gI.out.2 ⟨Z3.out,?_⟩;rw[HRM.out,qx (by simp[hend,h32])];exact⟨by decide,⟨_,Z4.out⟩,_,_,_,_,_,_,rfl⟩
   ·have hb0:yS c s j=0:=(by unfold yS;rw[qv hc]);have Hc:=qh (λn=>ue rb s j c p F (wr.drewN n) (gV.drewN n));rw[hb0] at Hc;have JE:=qh (Hc.out 0);have q0:(c==0)=false:=(by simpa using hc);have HRM:=qh (HRer.out _ Y7);have Hne:=qh hc;have HJ:=qh QJ;have Hr:=qh gV;have r2:=gV.c2;clear hrel QJ gV hb0 hc Y7;go_wp2_with fail;refine JE.out.mono ?_;rintro e w4 ⟨rfl,n0,rfl⟩;go_wp2_with fail;refine(Hc.out _).mono ?_;rintro e w4 ⟨rfl,n1,rfl⟩;go_wp2_with fail;refine(Hc.out _).mono ?_;rintro e w4 ⟨rfl,n2,rfl⟩;go_wp2_with fail;refine(Hc.out _).mono ?_;rintro e w4 ⟨rfl,n3,rfl⟩;go_wp2_with fail;refine(Hc.out _).mono ?_;rintro e w4 ⟨rfl,n4,rfl⟩;go_wp2_with fail;refine(Hc.out _).mono ?_;rintro e w4 ⟨rfl,n5,rfl⟩;have x0:wr.cell? ⟨w.heap.size+1,0,none⟩=some (.int .i64 cls):=qc _ _ 0 _ _ (0,0) HJ.out.x;have x1:wr.cell? ⟨w.heap.size+1,1,none⟩=some (.int .i64 ref):=qc _ _ 1 _ _ (0,0) HJ.out.x;have x2:wr.cell? ⟨w.heap.size+1,2,none⟩=some (.slice A n cp):=qc _ _ 2 _ _ (0,0) HJ.out.x;have x3:wr.cell? ⟨w.heap.size+1,3,none⟩=some (.int .i64 i):=qc _ _ 3 _ _ (0,0) HJ.out.x;have y0:=qc _ _ 0 _ _ (0,0) HJ.out.res;have y1:=qc _ _ 1 _ _ (0,0) HJ.out.res;have y2:=qc _ _ 2 _ _ (0,0) HJ.out.res;have y3:=qc _ _ 3 _ _ (0,0) HJ.out.res;have z0:=qf _ _ 0 _ _ HJ.out.res;have z1:=qf _ _ 1 _ _ HJ.out.res;have z2:=qf _ _ 2 _ _ HJ.out.res;have z3:=qf _ _ 3 _ _ HJ.out.res;have gI:=qh (λnn=>(HJ.out.pl hrb (Off.drewN [rb] wr nn)).fin (.int .i64 cls) (.int .i64 ref) (.slice A n cp) (.int .i64 i));have Z3:=qh (λn=>Off.into (HJ.out.off.trans (Off.drewN [rb] wr n)) (gI.out n).1 (λk hk=>by simp at hk;omega));have Z4:=qh (λn=>(Hr.out.drewN n).off (gI.out n).1 (by simp;omega));go_wp2_with fail;refine zcf rfl (gI.out _).2 ⟨Z3.out _,?_⟩;rw[HRM.out];exact⟨Hne.out,⟨_,Z4.out _⟩,_,_,_,_,_,_,rfl⟩
def ux:List It->List Value->List Value
 |x::xs,v::vs=>.int .i64 x.cls::.int .i64 x.ref::v::.int .i64 x.at_::ux xs vs
 |_,_=>[]
theorem zin:∀(l:List It) (vs:List Value),vs.length=l.length->(ux l vs).length=l.length*4
 |[],vs,h=>by simp[ux]
 |x::xs,[],h=>by simp at h
 |x::xs,v::vs,h=>by
  have:=zin xs vs (by simpa using h);simp only[ux,qB,this];omega
theorem zgT:∀(l:List It) (vs:List Value) (x:It) (v:Value),vs.length=l.length->ux (l++[x]) (vs++[v])=ux l vs++[.int .i64 x.cls,.int .i64 x.ref,v,.int .i64 x.at_]
 |[],[],x,v,_=>by simp[ux]
 |[],_::_,_,_,h=>by simp at h
 |_::_,[],_,_,h=>by simp at h
 |q::rs,u::vs,r,v,h=>by
  have ih:=zgT rs vs r v (by simpa using h);simp only[zO,ux,ih]
theorem zio:∀(l:List It) (vs:List Value) (k:Nat),vs.length=l.length->k<l.length->(ux l vs)[k*4]?=some (.int .i64 (l.getD k pk).cls)/\(ux l vs)[k*4+1]?=some (.int .i64 (l.getD k pk).ref)/\(ux l vs)[k*4+2]?=some (vs.getD k .nilFunc)/\(ux l vs)[k*4+3]?=some (.int .i64 (l.getD k pk).at_)
 |[],vs,k,_,hk=>by simp at hk
 |x::xs,[],k,h,_=>by simp at h
 |x::xs,v::vs,0,h,_=>by simp[ux]
 |x::xs,v::vs,k+1,h,hk=>by
  have ih:=zio xs vs k (by simpa using h) (by simpa using hk);rw[show(k+1)*4=k*4+4 by omega,show k*4+4+1=(k*4+1)+4 by omega,show k*4+4+2=(k*4+2)+4 by omega,show k*4+4+3=(k*4+3)+4 by omega];simpa [ux] using ih
structure pM (w:World) (B:Nat) (v:Value) (l:List It) (pN:List Value):Prop where
 n:pN.length=l.length
 o:w.ownsRow B 99 4 v l.length (ux l pN)
 m:∀k,k<l.length->Qe w B (pN.getD k .nilFunc) (l.getD k pk).gE
theorem pM.off {w w':World} {B:Nat} {v:Value} {l:List It} {pN:List Value} {L T:List Nat} (h:pM w B v l pN) (ho:Off L w w') (ht:gR w L T) (h1:99∉T) (h2:101∉T):pM w' B v l pN:=
 ⟨h.n,ho.pd h.o ht h1,λk hk=>ho.pd (h.m k hk) ht h2⟩
theorem pM.mono {w:World} {B C:Nat} {v:Value} {l:List It} {pN:List Value} (h:pM w B v l pN) (hC:C<=B):pM w C v l pN:=⟨h.n,Y4 h.o hC,λk hk=>Y4 (h.m k hk) hC⟩
structure ZN (w:World) (B:Nat) (v:Value) (rows:List Rw) (vis:List Value):Prop where
 n:vis.length=rows.length
 o:w.ownsRow B 96 2 v rows.length (Jc rows vis)
 i:∀k,k<rows.length->∃pN,pM w B (vis.getD k .nilFunc) (rows.getD k ⟨false,[]⟩).items pN
theorem ZN.off {w w':World} {B:Nat} {v:Value} {rows:List Rw} {vis:List Value} {L T:List Nat} (h:ZN w B v rows vis) (ho:Off L w w') (ht:gR w L T) (h0:96∉T) (h1:99∉T) (h2:101∉T):ZN w' B v rows vis:=
 ⟨h.n,ho.pd h.o ht h0,λk hk=>by
  obtain⟨pN,hi⟩:=h.i k hk;exact⟨pN,hi.off ho ht h1 h2⟩⟩
theorem ZN.mono {w:World} {B C:Nat} {v:Value} {rows:List Rw} {vis:List Value} (h:ZN w B v rows vis) (hC:C<=B):ZN w C v rows vis:=⟨h.n,Y4 h.o hC,λk hk=>by
 obtain⟨pN,hi⟩:=h.i k hk;exact⟨pN,hi.mono hC⟩⟩
theorem ZN.row {w:World} {B:Nat} {v:Value} {rows:List Rw} {vis:List Value} (h:ZN w B v rows vis):
  ∃A c,v=.slice A rows.length c/\(0<rows.length->∃g,A=some ⟨g,0,none⟩/\g<w.heap.size/\∀k,k<rows.length->w.cell? ⟨g,k*2,none⟩=some (.bool (rows.getD k ⟨false,[]⟩).round)/\w.cell? ⟨g,k*2+1,none⟩=some (vis.getD k .nilFunc)):=by
 rcases h.o.2 with⟨rfl,e0⟩|⟨g,cap,cur,rfl,_,hg,hcap,_⟩
 ·rw[e0];exact⟨none,0,rfl,λh=>by omega⟩
 ·refine⟨_,cap,rfl,λ_=>⟨g,rfl,(qg hg).1,λk hk=>?_⟩⟩;have hlen:=zhn rows vis h.n;have hget:=zho rows vis k h.n hk;exact⟨(h.o.cellAt (k*2) (by omega)).trans hget.1,(h.o.cellAt (k*2+1) (by omega)).trans hget.2⟩
theorem zj7 {n M:Int} {m:Nat} (h0:0<=n) (h1:n<=M):0<=n*(m:Int)/\n*(m:Int)<=M*(m:Int):=
 ⟨Int.mul_nonneg h0 (by omega),kk h1 (by omega)⟩
theorem ziq (rows:List Rw) (n:Int) (h0:0<=n) (h1:n<=1000009):∀k,k<=rows.length->0<=Zh (rows.take k) n/\Zh (rows.take k) n<=1000009*(vV (rows.take k):Int)
 |0,_=>by simp[Zh,vV]
 |k+1,hk=>by
  have ih:=ziq rows n h0 h1 k (by omega);rw[zdx rows n k (by omega),zej rows k (by omega)];have hm:=zj7 (m:=(rows.getD k ⟨false,[]⟩).items.length) h0 h1;unfold ziH;split
  ·push_cast;omega
  ·push_cast;omega
theorem zeL (B:Nat) (nm vl vm vr:Value) (rd:Bool) (a b c:Int) (rows:List Rw) (vis:List Value) (n:Int) (w:World) (hm:ZN w B vr rows vis) (h0:0<=n) (h1:n<=1000009) (ht:vV rows<=65536) (hl:rows.length<=65536):
  Calls Tryz.prog 16 #[.agg #[nm,vl,vm,vr,.bool rd,.int .i64 a,.int .i64 b,.int .i64 c],.int .i64 n] w λe w'=>e=.returned (.int .i64 (Zh rows n))/\Below w.heap.size w w':=by
 have Zx:Below w.heap.size w (w.alloc (.cells #[nm,vl,vm,vr,.bool rd,.int .i64 a,.int .i64 b,.int .i64 c] 29)):=(qb _ _).alloc (ql _) _;have hmA:ZN (w.alloc (.cells #[nm,vl,vm,vr,.bool rd,.int .i64 a,.int .i64 b,.int .i64 c] 29)) B vr rows vis:=hm.off (T:=[]) (Off.alloc [] w _) gR.nil (by simp) (by simp) (by simp);have Hi:=qh hmA.i;obtain⟨A,cp,rfl,hrow⟩:=hmA.row;have hc3:(w.alloc (.cells #[nm,vl,vm,.slice A rows.length cp,.bool rd,.int .i64 a,.int .i64 b,.int .i64 c] 29)).cell? ⟨w.heap.size,3,none⟩=some (.slice A rows.length cp):=qc _ _ 3 _ _ (0,0) (qn w _);have Hsz:=qh (ziq rows n h0 h1);have Htl:=qh (zlk rows);have HbA:=qh Zx;have Hc3:=qh hc3;clear hm hmA Zx hc3;go_enter Tryz.func16,Tryz.ntmps16;go_wp2_with fail;have hc3:=Hc3.out;have HB:=HbA;generalize w.alloc (.cells #[nm,vl,vm,.slice A rows.length cp,.bool rd,.int .i64 a,.int .i64 b,.int .i64 c] 29)=W1 at*;go_loopw [5,6] (λt q wr=>∃k:Nat,k<=rows.length/\q=.int .i64 k/\t=.int .i64 (Zh (rows.take k) n)/\Hid (wr=W1)) (λ_ q _=>rows.length-(intOf q).toNat)
 case atStart=>exact⟨0,qH _,rfl,rfl,qh rfl⟩
 case round=>
  obtain⟨k,hk,rfl,rfl,hw⟩:=hrel;have hw2:=hw.out;subst hw2;clear hw;by_cases hlt:k<rows.length
  ·obtain⟨g,rfl,hgs,hcells⟩:=hrow (by omega);obtain⟨pN,hits⟩:=Hi.out k hlt;obtain⟨Ai,ci,J5⟩:=pR hits.o;have hck:=hcells k hlt;rw[J5] at hck;have k0:=hck.1;have k1:=hck.2;have hst:=zdx rows n k hlt;have hbd:=Hsz.out k hk;have htk:=zej rows k hlt;have htl:=Htl.out (k+1);have hmb:=zj7 (m:=(rows.getD k ⟨false,[]⟩).items.length) h0 h1;clear hits J5;generalize rows.getD k ⟨false,[]⟩=r at*;obtain⟨rr,ri⟩:=r;simp only[] at k0 k1 hst htk hmb;unfold ziH at hst;simp only[] at hst;generalize Zh (rows.take k) n=S at*;have hS2:S<=1000009*65536:=(by have:=hbd.2;omega);have hri:ri.length<=65536:=(by omega);have hw1:IntKind.i64.wrap (n*(ri.length:Int))=n*(ri.length:Int):=qi _ (by omega);have hw2:IntKind.i64.wrap (S+n*(ri.length:Int))=S+n*(ri.length:Int):=qi _ (by omega);have hw3:IntKind.i64.wrap (S+(ri.length:Int))=S+(ri.length:Int):=qi _ (by omega);have i1:(0:Int)<=(k:Int):=(by omega);have i2:(k:Int)<(rows.length:Int):=(by omega);have pg:=qh hst;clear hcells hck hst hbd htk htl hmb;cases rr with
   |true=>
    go_wp2_with fail;go_roundw
    case rel=>exact⟨k+1,by omega,by go_num,by rw[pg.out,qx rfl],qh trivial⟩
    case measure=>simp[intOf];omega
   |false=>
    go_wp2_with fail;go_roundw
    case rel=>exact⟨k+1,by omega,by go_num,by rw[pg.out,qv (by simp)],qh trivial⟩
    case measure=>simp[intOf];omega
  ·obtain rfl:k=rows.length:=by omega
   go_wp2_with fail;go_ret;exact⟨by rw[qZ];rfl,HB.out⟩
structure pU (w:World) (B:Nat) (f:Fm) (F:RF):Prop where
 nm:F.nm=.string ⟨f.name.toArray⟩
 l:w.ownsRow B 5 1 F.vl f.gC.length (ZL f.gC)
 m:∃cs,Z2 w B F.vm f.gF cs
 r:∃vis,ZN w B F.vr f.rows vis
 rd:F.rd=f.rounds
 a:F.a=f.least
 b:F.b=f.most
 c:F.c=f.shift
theorem pU.off {w w':World} {B:Nat} {f:Fm} {F:RF} {L T:List Nat} (h:pU w B f F) (ho:Off L w w') (ht:gR w L T) (h1:∀t∈T,t∈[115,29]):pU w' B f F:=by
 obtain⟨cs,hm⟩:=h.m;obtain⟨vis,hr⟩:=h.r;have hn:∀t,t∉[115,29]->t∉T:=λt ht hT=>ht (h1 t hT);exact⟨h.nm,ho.pd h.l ht (hn _ (by decide)),⟨cs,hm.off ho ht (hn _ (by decide)) (hn _ (by decide)) (hn _ (by decide)) (hn _ (by decide))⟩,⟨vis,hr.off ho ht (hn _ (by decide)) (hn _ (by decide)) (hn _ (by decide))⟩,h.rd,h.a,h.b,h.c⟩
theorem pU.pl {w w':World} {B rb:Nat} {f:Fm} {F F':RF} {s:ByteArray} {i:Nat} {no wh:Int} (h:pU w B f F) (hr:RR w rb s i no wh F') (ho:Off [rb] w w'):pU w' B f F:=h.off ho (gR.one hr.r) (by simp)
theorem pU.below {w w':World} {B:Nat} {f:Fm} {F:RF} (h:pU w B f F) (hb:Below w.heap.size w w'):pU w' B f F:=h.off (T:=[]) (Off.of_below hb (ql _) []) gR.nil (by simp)
theorem pU.mono {w:World} {B C:Nat} {f:Fm} {F:RF} (h:pU w B f F) (hC:C<=B):pU w C f F:=by
 obtain⟨cs,hm⟩:=h.m;obtain⟨vis,hr⟩:=h.r;exact⟨h.nm,Y4 h.l hC,⟨cs,hm.n,Y4 hm.o hC,λk hk=>by
  obtain⟨a,vs,b⟩:=hm.m k hk;exact⟨a,vs,OM.mono b hC⟩⟩,⟨vis,hr.mono hC⟩,h.rd,h.a,h.b,h.c⟩
end Go.Proofs.YtgklikkddckgbaaGreatDoor.Mo


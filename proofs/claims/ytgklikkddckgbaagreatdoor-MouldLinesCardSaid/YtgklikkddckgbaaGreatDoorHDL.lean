import Derived.Test.YtgklikkddckgbaaGreatDoorHDK
/- Lemmas of the claim. -/
set_option linter.all false
namespace Go.Proofs.YtgklikkddckgbaaGreatDoor.Mo
open Go.RowKit
def xrC (cls ref:Int) (v:Value) (a:Nat):Array Value:=#[.int .i64 cls,.int .i64 ref,v,.int .i64 a]
def zj0 (B rb xb:Nat) (s:ByteArray) (F:RF) (cls ref:Int) (a:Nat) (v:Value) (ms:List Mk) (w:World) (r:Except (Int×Nat) (Mk×Nat)) (w':World):Prop:=Off (rb::xb::v.ownBlock.toList) w w'∧
 match r with
 |.ok (m,j)=>RR w' rb s j 0 0 F∧∃v',w'.heap[xb]?=some (.cells (xrC cls ref v' a) 99 (0,0))∧MksM w' B v' (ms++[m])
 |.error (c,p)=>(∃j,RR w' rb s j c p F)∧∃A n cp,w'.heap[xb]?=some (.cells (xrC cls ref (.slice A n cp) a) 99 (0,0))
def zeK (r:Except (Int×Nat) (Mk×Nat)) (sg n no wh:Int) (i j:Nat):Prop:=match r with
 |.ok (m,j')=>no=0∧j=j'∧n=m.n∧m.sign=sg∧m.at_=i
 |.error (c,p)=>no=c∧wh=p
def zlU (W3 wx:World) (rb mb:Nat) (s:ByteArray) (F:RF) (sg:Int) (i:Nat) (r:Except (Int×Nat) (Mk×Nat)):Prop:=Off [rb,mb] W3 wx∧∃(n no wh:Int) (j:Nat),RR wx rb s j no wh F∧wx.heap[mb]?=some (.cells #[.int .u8 sg,.int .i64 n,.int .i64 i] 101 (0,0))∧zeK r sg n no wh i j
theorem zmF:Tryz.prog.info? 101=some Tryz.t101:=by kernel_rfl
theorem zmG:Tryz.t101.zero=some (.agg #[.int .u8 0,.int .i64 0,.int .i64 0]):=by kernel_rfl
theorem zmH:Tryz.t101.size=3:=by kernel_rfl
theorem zmh:Tryz.t101.bytes=24:=by kernel_rfl
theorem zj1 {W:World} {mb t:Nat} {x0 x1 x2:Value} (h:W.heap[mb]?=some (.cells #[x0,x1,x2] t (0,0))) (v0 v1 v2:Value):
  (((W.setCell ⟨mb,0,none⟩ v0).setCell ⟨mb,1,none⟩ v1).setCell ⟨mb,2,none⟩ v2).heap[mb]?=some (.cells #[v0,v1,v2] t (0,0))∧Off [mb] W (((W.setCell ⟨mb,0,none⟩ v0).setCell ⟨mb,1,none⟩ v1).setCell ⟨mb,2,none⟩ v2):=
 ⟨qs _ mb 2 _ _ v2 (qs _ mb 1 _ _ v1 (qs W mb 0 _ _ v0 h)),((Off.setCell W mb 0 v0).trans (Off.setCell _ mb 1 v1)).trans (Off.setCell _ mb 2 v2)⟩
theorem zbI {s:ByteArray} {l c:Int} {i p:Nat} (h:numP s l i=.error (c,p)):c≠0:=by
 unfold numP at h;split at h
 ·cases h;decide
 ·split at h
  ·cases h;decide
  ·cases h
def zj2 (r:Except (Int×Nat) (Int×Nat)) (n no wh:Int) (j:Nat):Prop:=match r with
 |.ok (v,e)=>no=0∧j=e∧n=v
 |.error (c,p)=>no=c∧wh=p
def dupB (s:ByteArray) (i:Nat) (ms:List Mk) (n:Int) (k:Nat):Bool:=isB s i 126&&(ms.take k).any (fun m=>m.sign==126&&m.n==n)
theorem zkW {s:ByteArray} {i:Nat} {ms:List Mk} {n:Int} {k:Nat} (h:k<ms.length):dupB s i ms n (k+1)=(dupB s i ms n k||(isB s i 126&&((ms.getD k Mk0).sign==126&&(ms.getD k Mk0).n==n))):=by
 unfold dupB;rw[List.take_succ_eq_append_getElem h,List.any_append];have e:ms.getD k Mk0=ms[k]:=by simp[List.getD_eq_getElem?_getD,h]
 rw[e];cases isB s i 126<;>simp
def dNo (d:Bool) (no:Int):Int:=if d then wrN no 2 else no
def dWh (d:Bool) (no wh p:Int):Int:=if d then wrP no wh p else wh
theorem zj3 (d:Bool) (no wh p:Int):wrN (dNo d no) 2=dNo true no∧wrP (dNo d no) (dWh d no wh p) p=dWh true no wh p:=by
 unfold dNo dWh;cases d with
 |false=>exact⟨rfl,rfl⟩
 |true=>
  unfold wrN wrP;by_cases h0:no=0
  ·simp[h0]
  ·simp[h0]
theorem zkX {s:ByteArray} {ms:List Mk} {i:Nat} {sg n no wh:Int} {j:Nat} {R:Except (Int×Nat) (Mk×Nat)} (hn:zj2 (numP s 1 (i+1)) n no wh j) (h0:no=0→wh=0)
  (hR:R=match numP s 1 (i+1) with|.error e=>.error e|.ok (v,e)=>if isB s i 126&&ms.any (fun m=>m.sign==126&&m.n==v) then .error (2,i+1) else .ok (⟨sg,v,i⟩,e)):
  zeK R sg n (dNo (dupB s i ms n ms.length) no) (dWh (dupB s i ms n ms.length) no wh ((i:Int)+1)) i j:=by
 unfold dNo dWh dupB;rw[List.take_length];cases hp:numP s 1 (i+1) with
 |error e=>
  obtain⟨c,p⟩:=e;rw[hp] at hn hR;obtain⟨rfl,rfl⟩:=hn;have hc:=zbI hp;subst hR;unfold wrN wrP zeK;rw[if_neg hc,if_neg hc];simp
 |ok ve=>
  obtain⟨v,e⟩:=ve;rw[hp] at hn hR;obtain⟨rfl,rfl,rfl⟩:=hn;have hwh:=h0 rfl;subst hwh;subst hR;simp only;cases hd:(isB s i 126&&ms.any (fun m=>m.sign==126&&m.n==n)) with
  |true=>simp[zeK,wrN,wrP]
  |false=>simp[zeK]
theorem zkY {w wc w8:World} {B rb xb j cp:Nat} {A:Option Addr} {s:ByteArray} {F:RF} {cls ref sg n no wh:Int} {a i:Nat} {ms:List Mk} {v8:Value} {R:Except (Int×Nat) (Mk×Nat)}
  (ho:Off [rb] w wc) (hr:RR wc rb s j no wh F) (hx:wc.heap[xb]?=some (.cells (xrC cls ref (.slice A ms.length cp) a) 99 (0,0))) (hm:MksM wc B (.slice A ms.length cp) ms) (hxr:xb≠rb)
  (hs:zeK R sg n no wh i j) (hown:w8.ownsRow B 101 3 v8 (ms.length+1) (mksC ms++[.int .u8 sg,.int .i64 n,.int .i64 i])) (hg:wc.drew.grownBy w8 (Value.slice A ms.length cp).ownBlock):
  zj0 B rb xb s F cls ref a (.slice A ms.length cp) ms w R (w8.setCell ⟨xb,2,none⟩ v8)∧w8.cell? ⟨xb,2,none⟩=some (.slice A ms.length cp)∧w8.frozen? ⟨xb,2,none⟩=false:=by
 have hog:Off (Value.slice A ms.length cp).ownBlock.toList wc w8:=(Off.drew _ wc).trans (Off.grown hg (fun k hk=>by rw[hk];simp));have n1:xb∉(Value.slice A ms.length cp).ownBlock.toList:=fun hk=>by
  rw[Option.mem_toList] at hk;rcases zac hm hx (by decide) with h1|h1
  ·rw[h1] at hk;cases hk
  ·exact h1 hk
 have n2:rb∉(Value.slice A ms.length cp).ownBlock.toList:=fun hk=>by
  rw[Option.mem_toList] at hk;rcases zac hm hr.r (by decide) with h1|h1
  ·rw[h1] at hk;cases hk
  ·exact h1 hk
 have hx8:=(hog.block xb (qg hx).1 n1).trans hx;have hr8:=hr.off hog n2;have hos:=Off.setCell w8 xb 2 v8;have hx9:=qs w8 xb 2 _ _ v8 hx8;have hr9:RR (w8.setCell ⟨xb,2,none⟩ v8) rb s j no wh F:=hr8.off hos (by simp;omega);have ho9:Off (rb::xb::(Value.slice A ms.length cp).ownBlock.toList) w (w8.setCell ⟨xb,2,none⟩ v8):=
  ((ho.mono (fun k hk=>.inl (by simp at hk⊢;exact .inl hk))).trans (hog.mono (fun k hk=>.inl (by simp only[List.mem_cons];exact .inr (.inr hk))))).trans (hos.mono (fun k hk=>.inl (by simp at hk⊢;exact .inr (.inl hk))))
 refine⟨⟨ho9,?_⟩,qc _ _ 2 _ _ (0,0) hx8,qf _ _ 2 _ _ hx8⟩;cases R with
 |error e=>
  obtain⟨c,p⟩:=e;obtain⟨rfl,rfl⟩:=hs;obtain⟨A8,c8,hv8⟩:=zab hown;rw[hv8] at hx9 hr9⊢;exact⟨⟨_,hr9⟩,_,_,_,hx9⟩
 |ok mj=>
  obtain⟨m,j'⟩:=mj;obtain⟨rfl,rfl,rfl,rfl,rfl⟩:=hs;have hwh:=(hr.ok rfl).2;subst hwh;refine⟨hr9,v8,hx9,?_⟩;unfold MksM;rw[zgQ,List.length_append];exact hos.own hown (fun k hk=>by
   simp;rintro rfl;rcases zac hown hx8 (by decide) with h1|h1
   ·rw[h1] at hk;cases hk
   ·exact h1 hk)
set_option maxRecDepth 100000 in
set_option maxHeartbeats 4000000 in
theorem zj4 (B Bl rb xb:Nat) (s:ByteArray) (i:Nat) (F:RF) (letters:List UInt8) (cls ref:Int) (a:Nat) (v:Value) (ms:List Mk) (w:World) (h:RR w rb s i 0 0 F) (hi:i<s.size) (hl:w.ownsRow Bl 5 1 F.vl letters.length (byC letters)) (hll:letters.length≤70000)
  (hx:w.heap[xb]?=some (.cells (xrC cls ref v a) 99 (0,0))) (hm:MksM w B v ms) (hml:ms.length≤70000) (hB:B≤w.heap.size):
  Calls Tryz.prog 130 #[.pointer (some ⟨rb,0,none⟩),.pointer (some ⟨xb,0,none⟩)] w fun e w'=>e=.returned (.tuple #[])∧zj0 B rb xb s F cls ref a v ms w (za0 s letters ms i) w':=by
 obtain⟨A,cp,hv⟩:=zab hm;subst hv;have hsz:=h.sz;have hxr:xb≠rb:=fun e=>by
  have h1:=h.r;rw[←e,hx] at h1;simp at h1
 have hrl:=h.lt;have hxl:xb<w.heap.size:=(qg hx).1;have H:=qh h;have Hl:=qh hl;have Hx:=qh hx;have Hm:=qh hm;have hb0:byC0 0 s i=zaa s i:=by unfold byC0;rw[if_pos rfl]
 have Hc:=qh (fun(W:World) (hb:Below w.heap.size w W)=>rc_q rb s i 0 0 F W (h.below hb));rw[hb0] at Hc;have r1a:∀o,((w.drew).alloc o).cell? ⟨rb,1,none⟩=some (.int .i64 i):=fun o=>((h.below ((zad (qb _ _) 1).alloc (ql _) o))).c1;have r1b:∀k o,((w.drewN k).alloc o).cell? ⟨rb,1,none⟩=some (.int .i64 i):=fun k o=>((h.below ((zad (qb _ _) k).alloc (ql _) o))).c1;have r1:=h.c1;have Hba:=qh (fun o=>(zad (qb w.heap.size w) 1).alloc (ql _) o);have nb:∀k,((w.drewN k).alloc (.cells #[.int .u8 0,.int .i64 0,.int .i64 0] 101)).heap[w.heap.size]?=some (.cells #[.int .u8 0,.int .i64 0,.int .i64 0] 101 (0,0)):=fun k=>qn (w.drewN k) _;have m0:=fun k=>qc _ _ 0 _ _ (0,0) (nb k);have m1:=fun k=>qc _ _ 1 _ _ (0,0) (nb k);have m2:=fun k=>qc _ _ 2 _ _ (0,0) (nb k);have mz0:=fun k=>qf _ _ 0 _ _ (nb k);have mz1:=fun k=>qf _ _ 1 _ _ (nb k);have mz2:=fun k=>qf _ _ 2 _ _ (nb k);have HB3:Hid (∀k,((((((w.alloc (.cells #[.int .u8 0,.int .i64 0,.int .i64 0] 101)).drewN k).setCell ⟨w.heap.size,0,none⟩ (.int .u8 (zaa s i).toNat)).setCell ⟨w.heap.size,1,none⟩ (.int .i64 0)).setCell ⟨w.heap.size,2,none⟩ (.int .i64 i)).heap[w.heap.size]?=some (.cells #[.int .u8 (zaa s i).toNat,.int .i64 0,.int .i64 i] 101 (0,0)))∧Below w.heap.size w (((((w.alloc (.cells #[.int .u8 0,.int .i64 0,.int .i64 0] 101)).drewN k).setCell ⟨w.heap.size,0,none⟩ (.int .u8 (zaa s i).toNat)).setCell ⟨w.heap.size,1,none⟩ (.int .i64 0)).setCell ⟨w.heap.size,2,none⟩ (.int .i64 i))∧w.heap.size≤w.heap.size):=qh (fun k=>by
  obtain⟨e1,e2⟩:=zj1 (W:=(w.alloc (.cells #[.int .u8 0,.int .i64 0,.int .i64 0] 101)).drewN k) (nb k) (.int .u8 (zaa s i).toNat) (.int .i64 0) (.int .i64 i);exact⟨e1,(zad ((qb w.heap.size w).alloc (ql _) _) k).trans (e2.below (by show w.heap.size≤(w.alloc _).heap.size;simp) (fun q hq=>by simp at hq;omega)),ql _⟩)
 clear nb;generalize hR:za0 s letters ms i=R;have HR:=qh hR;have His:Hid (∀c:Int,isB s i c=(((zaa s i).toNat:Int)==c)):=qh (fun c=>by rw[zaA hi,zar hi]);have Hbd:=qh (rfl:zaa s i=zaa s i);generalize hbx:zaa s i=bc at*;clear h hl hx hm hR hb0;go_enter Tryz.func130,Tryz.ntmps130;go_upto_region 0 with fail
 go_cut [4] from 8 to 14 (fun v4 wx=>∃mb:Nat,v4=.pointer (some ⟨mb,0,none⟩)∧Hid (wx.heap[mb]?=some (.cells #[.int .u8 bc.toNat,.int .i64 0,.int .i64 i] 101 (0,0))∧Below w.heap.size w wx∧w.heap.size≤mb))
 case first=>
  go_region_law (go_simp;go_at_call 67;refine(Hc.out _ (by first|exact zad (qb _ _) 1|exact Hba.out _)).mono ?_;rintro e w2 ⟨rfl,n2,rfl⟩)
  all_goals
   go_wp2_with fail;go_meet
   exact⟨w.heap.size,rfl,qh (HB3.out _)⟩
 case rest=>
  obtain⟨W1,hW1⟩:∃W1:World,W1=wc:=⟨_,rfl⟩;subst hW1;obtain⟨mb,rfl,hbox⟩:=hcut;obtain⟨hmk,hbl,hmb⟩:=hbox.out;have Hmk:=qh hmk;have Hbl:=qh hbl;have hx1:=(hbl.block xb hxl).trans Hx.out;have hmr:mb≠rb:=by omega
  have hmx:mb≠xb:=by omega
  have k0:W1.cell? ⟨mb,0,none⟩=some (.int .u8 bc.toNat):=qc _ _ 0 _ _ (0,0) hmk;have x2:W1.cell? ⟨xb,2,none⟩=some (.slice A ms.length cp):=qc _ _ 2 _ _ (0,0) hx1;have HM1:Hid (MksM W1 B (.slice A ms.length cp) ms):=qh ((Off.of_below hbl (ql _) []).own Hm.out (fun k hk=>by simp));have Hmany:=qh (fun n=>zjZ A cp B ms (bc.toNat:Int) (W1.drewN n) ((Off.drewN [] W1 n).own HM1.out (fun k hk=>by simp)) hml);have HR1:=qh (H.out.below hbl);clear hbox hmk hbl HB3 m0 m1 m2 mz0 mz1 mz2 r1a r1b r1 Hba Hc;obtain⟨q,hq⟩:∃q:Nat,q=if isB s i 126 then 4 else 1:=⟨_,rfl⟩
  have Hq:=qh hq;clear hq;go_upto_if 17 with fail
  go_cut [5] from 5 to 17 (fun v5 wx=>v5=.int .i64 q∧wx=W1)
  case first=>
   cases h126:isB s i 126 with
   |true=>
    have q126:((bc.toNat:Int)==126)=true:=(by rw[←His.out 126];exact h126);have hq4:q=4:=(by rw[Hq.out,h126];rfl);subst hq4;go_wp2_with fail;go_meet
    exact⟨rfl,rfl⟩
   |false=>
    have q126:((bc.toNat:Int)==126)=false:=(by rw[←His.out 126];exact h126);have hq4:q=1:=(by rw[Hq.out,h126];rfl);subst hq4;go_wp2_with fail;go_meet
    exact⟨rfl,rfl⟩
  case rest=>
   obtain⟨rfl,hwn⟩:=hcut;subst hwn;have hMP:za0 s letters ms i=R:=HR.out;have r1:=HR1.out.c1;have z1:=HR1.out.z 1;by_cases hcnt:q≤zaC ms (bc.toNat:Int)
   ·have e1:decide ((q:Int)≤(zaC ms (bc.toNat:Int):Int))=true:=qt (by omega);have e2:decide (q≤zaC ms (bc.toNat:Int))=true:=qt hcnt;have HR2:Hid (R=.error (180,i)):=qh (by
     rw[←hMP];unfold za0;rw[hbx,if_pos (by rw[←Hq.out];exact hcnt)])
    have Hbad:=qh (fun n=>zbu rb s i 0 0 F (wc.drewN n) (HR1.out.drewN n));clear hMP r1 z1;go_wp2_with fail;go_quiet ((go_at_call 161;exact Calls.quiet_of_same (Hmany.out _)))
    go_wp2_with fail;refine(Hbad.out _).mono ?_;rintro e w3 ⟨rfl,hr3,ho3⟩;have Hr3:=qh hr3;have Ho3:=qh ((Off.drewN [rb] wc _).trans ho3);clear hr3 ho3;go_wp2_with fail;refine bodyPost_ret (results_none rfl _ _ _) rfl ?_;refine⟨rfl,(Off.of_below Hbl.out (ql _) _).trans (Ho3.out.mono (fun k hk=>.inl (by simp at hk⊢;exact .inl hk))),?_⟩;rw[HR2.out];exact⟨⟨_,Hr3.out⟩,_,_,_,(Ho3.out.block xb (Nat.lt_of_lt_of_le hxl Hbl.out.size) (by simp;omega)).trans hx1⟩
   ·have e1:decide ((q:Int)≤(zaC ms (bc.toNat:Int):Int))=false:=qd (by omega);have e2:decide (q≤zaC ms (bc.toNat:Int))=false:=qd hcnt;have HMQ:Hid (¬((if isB s i 126 then 4 else 1)≤zaC ms (bc.toNat:Int))):=qh (by rw[←Hq.out];exact hcnt);have hc1:((i+1:Nat):Int)=(i:Int)+1:=(by omega);have hw:IntKind.i64.wrap ((i:Int)+1)=(i:Int)+1:=qi _ (by omega);have HR3:Hid (∀n,RR ((wc.drewN n).setCell ⟨rb,1,none⟩ (.int .i64 ((i:Int)+1))) rb s (i+1) 0 0 F∧Off [rb] wc ((wc.drewN n).setCell ⟨rb,1,none⟩ (.int .i64 ((i:Int)+1)))):=qh (fun n=>by
     rw[←hc1];exact⟨(HR1.out.drewN n).to (by omega),(Off.drewN _ _ n).trans (Off.setCell _ rb 1 _)⟩)
    obtain⟨W2,hW2⟩:∃W2:World,W2=wc:=⟨_,rfl⟩;subst hW2;clear hcnt;go_wp2_with fail;go_quiet ((go_at_call 161;exact Calls.quiet_of_same (Hmany.out _)))
    go_upto_region 6 with fail
    go_cut [35] from 29 to 35 (fun v35 wx=>Hid (RR wx rb s (i+1) 0 0 F∧Off [rb] W2 wx))
    case first=>
     go_wp2_with fail;go_meet
     exact qh (HR3.out _)
    case rest=>
     obtain⟨W3,hW3⟩:∃W3:World,W3=wc:=⟨_,rfl⟩;subst hW3;obtain⟨hr3,ho3⟩:=hcut.out;have Hr3:=qh hr3;have Ho3:=qh ho3;have hmb3:W3.heap[mb]?=some (.cells #[.int .u8 bc.toNat,.int .i64 0,.int .i64 i] 101 (0,0)):=(ho3.block mb (qg Hmk.out).1 (by simp;omega)).trans Hmk.out;have Hmb3:=qh hmb3;have hx3:=(ho3.block xb (Nat.lt_of_lt_of_le hxl Hbl.out.size) (by simp;omega)).trans hx1;have Hx3:=qh hx3;have l0:W3.cell? ⟨mb,0,none⟩=some (.int .u8 bc.toNat):=qc _ _ 0 _ _ (0,0) hmb3;have hml3:mb<W3.heap.size:=(qg hmb3).1;have hxl3:xb<W3.heap.size:=(qg hx3).1;have HO3:Hid (Off [rb] w W3):=qh ((Off.of_below Hbl.out (ql _) _).trans ho3);have HM3:Hid (MksM W3 B (.slice A ms.length cp) ms):=qh (HO3.out.own Hm.out (fun k hk=>by
      have h1:=zac Hm.out H.out.r (by decide);simp;rintro rfl;rcases h1 with h1|h1
      ·rw[h1] at hk;cases hk
      ·exact h1 hk))
     have HL3:Hid (W3.ownsRow Bl 5 1 F.vl letters.length (byC letters)):=qh (HO3.out.own Hl.out (fun k hk=>by
      have h1:=zac Hl.out H.out.r (by decide);simp;rintro rfl;rcases h1 with h1|h1
      ·rw[h1] at hk;cases hk
      ·exact h1 hk))
     clear hcut hr3 ho3 hmb3 hx3 k0 x2 hx1 Hmany;go_upto_region 7 with fail
     go_cut [43] from 36 to 43 (fun v43 wx=>v43=.bool (isB s i 58||isB s i 39)∧wx=W3)
     case first=>
      cases h58:isB s i 58 with
      |true=>
       have q58:((bc.toNat:Int)==58)=true:=(by rw[←His.out 58];exact h58);go_wp2_with fail;go_meet
       exact⟨by rw[h58];rfl,rfl⟩
      |false=>
       have q58:((bc.toNat:Int)==58)=false:=(by rw[←His.out 58];exact h58);cases h39:isB s i 39 with
       |true=>
        have q39:((bc.toNat:Int)==39)=true:=(by rw[←His.out 39];exact h39);go_wp2_with fail;go_meet
        exact⟨by rw[h58,h39];rfl,rfl⟩
       |false=>
        have q39:((bc.toNat:Int)==39)=false:=(by rw[←His.out 39];exact h39);go_wp2_with fail;go_meet
        exact⟨by rw[h58,h39];rfl,rfl⟩
     case rest=>
      obtain⟨rfl,hwn⟩:=hcut;obtain⟨W3,hW3⟩:∃W3:World,W3=wc:=⟨_,rfl⟩;subst hW3;subst hwn;go_upto_if 43 with fail
      go_cut [126] from 43 to 126 (fun v126 wx=>Hid (zlU W3 wx rb mb s F bc.toNat i R))
      case first=>
       have hc1:((i+1:Nat):Int)=(i:Int)+1:=(by omega);cases hlet:(isB s i 58||isB s i 39) with
       |true=>
        have hb3:byC0 0 s (i+1)=zaa s (i+1):=(by unfold byC0;rw[if_pos rfl]);have Hc3:=qh (fun n=>rc_q rb s (i+1) 0 0 F (W3.drewN n) (Hr3.out.drewN n));have Hc30:=qh (Hc3.out 0);have hin0:=zgP (no:=0) (s:=s) (i:=i+1) (a:=97) (b:=122) rfl (by omega);rw[hb3] at Hc3 Hc30 hin0;by_cases hin:inB s (i+1) 97 122=true
        ·have hbd:97≤((zaa s (i+1)).toNat:Int)∧((zaa s (i+1)).toNat:Int)≤122:=by
          rw[hin0,Bool.and_eq_true,decide_eq_true_eq,decide_eq_true_eq] at hin;exact hin
         have his:=zb7 hin;have HRR:Hid (R=if isB s i 58&&decide (Lib.indexByte letters (zaa s (i+1))<0) then .error (181,i+1) else .ok (⟨bc.toNat,(zaa s (i+1)).toNat,i⟩,i+2)):=qh (by
          rw[←hMP];unfold za0;rw[hbx,if_neg HMQ.out,if_pos hlet,if_neg (by simpa using hin)])
         have HB3:Hid (byC0 0 s (i+1)=zaa s (i+1)):=qh hb3;generalize zaa s (i+1)=b3 at*;have d1:decide ((b3.toNat:Int)<97)=false:=qd (by omega);have d1n:¬(b3.toNat:Int)<97:=(by omega);have d2:decide (122<(b3.toNat:Int))=false:=qd (by omega);have d2n:¬122<(b3.toNat:Int):=(by omega);have lz1:W3.frozen? ⟨mb,1,none⟩=false:=qf _ _ 1 _ _ Hmb3.out;have l1:W3.cell? ⟨mb,1,none⟩=some (.int .i64 0):=qc _ _ 1 _ _ (0,0) Hmb3.out;clear hin0 hin hb3 hlet;go_wp2_with fail;refine Hc30.out.mono ?_;rintro e w4 ⟨rfl,n4,rfl⟩;go_wp2_with fail;refine(Hc3.out _).mono ?_;rintro e w4 ⟨rfl,n5,rfl⟩;go_wp2_with fail;refine(Hc3.out _).mono ?_;rintro e w4 ⟨rfl,n6,rfl⟩;go_upto_region 11 with fail
         have hos:=(Off.drewN [mb] W3 (n4+n5+n6)).trans (Off.setCell (W3.drewN (n4+n5+n6)) mb 1 (.int .i64 b3.toNat));have hm4:=qs (W3.drewN (n4+n5+n6)) mb 1 _ _ (.int .i64 b3.toNat) Hmb3.out;generalize (W3.drewN (n4+n5+n6)).setCell ⟨mb,1,none⟩ (.int .i64 b3.toNat)=W4 at*;have Hos:=qh hos;have Hm4:Hid (W4.heap[mb]?=some (.cells #[.int .u8 bc.toNat,.int .i64 b3.toNat,.int .i64 i] 101 (0,0))):=qh hm4;have Hr4:=qh (Hr3.out.off hos (by simp;omega));have HL4:Hid (W4.ownsRow Bl 5 1 F.vl letters.length (byC letters)):=qh (hos.ownT HL3.out (TyAt.one Hmb3.out) (by decide));have n0:W4.cell? ⟨mb,0,none⟩=some (.int .u8 bc.toNat):=qc _ _ 0 _ _ (0,0) Hm4.out;have n1:=Hr4.out.c1;have nz1:=Hr4.out.z 1;have hb4:byC0 0 s (i+1)=b3:=HB3.out;have Hc4:=qh (fun n=>rc_q rb s (i+1) 0 0 F (W4.drewN n) (Hr4.out.drewN n));rw[hb4] at Hc4;have Hc40:=qh (Hc4.out 0);have Hme:=qh (fun n=>zd6 rb Bl s (i+1) 0 0 F letters b3 (W4.drewN n) (Hr4.out.drewN n) ((Off.drewN [] W4 n).own HL4.out (fun k hk=>by simp)) hll);have hw2:IntKind.i64.wrap (((i+1:Nat):Int)+1)=((i+1:Nat):Int)+1:=qi _ (by omega);clear hos hm4 l0 l1 lz1 hb4 Hc3 Hc30;have Hend:Hid (∀(X:World) (no wh:Int),Off [rb] W4 X→RR X rb s (i+1) no wh F→zeK R bc.toNat b3.toNat no wh i (i+2)→zlU W3 (X.setCell ⟨rb,1,none⟩ (.int .i64 ((i:Int)+1+1))) rb mb s F bc.toNat i R):=qh (fun X no wh ho hr hm=>by
          have hc2:((i:Int)+1+1)=((i+2:Nat):Int):=(by omega);rw[hc2];have hoX:=Off.setCell X rb 1 (.int .i64 ((i+2:Nat):Int));refine⟨((Hos.out.mono (fun k hk=>.inl (by simp at hk⊢;exact .inr hk))).trans (ho.mono (fun k hk=>.inl (by simp at hk⊢;exact .inl hk)))).trans (hoX.mono (fun k hk=>.inl (by simp at hk⊢;exact .inl hk))),b3.toNat,no,wh,i+2,hr.to (by omega),?_,hm⟩;have hmb4:mb<W4.heap.size:=(qg Hm4.out).1;exact(hoX.block mb (Nat.lt_of_lt_of_le hmb4 ho.size) (by simp;omega)).trans ((ho.block mb hmb4 (by simp;omega)).trans Hm4.out))
         cases h58:isB s i 58 with
         |false=>
          have q58:((bc.toNat:Int)==58)=false:=(by rw[←His.out 58];exact h58);have hR2:R=.ok (⟨bc.toNat,b3.toNat,i⟩,i+2):=(by rw[HRR.out,h58];rfl);have Hfin:=qh (Hend.out W4 0 0 (Off.refl _ _) Hr4.out (by rw[hR2];exact⟨rfl,rfl,rfl,rfl,rfl⟩));clear hR2;go_wp2_with fail;go_meet
          exact Hfin
         |true=>
          have q58:((bc.toNat:Int)==58)=true:=(by rw[←His.out 58];exact h58);by_cases hneg:Lib.indexByte letters b3<0
          ·have hR2:R=.error (181,i+1):=(by rw[HRR.out,h58,decide_eq_true hneg];rfl);have HR2:=qh hR2;have hng:decide (Lib.indexByte letters b3<0)=true:=qt hneg;have Hw:=qh (fun n=>zaO rb s (i+1) 0 0 F 181 ((i+1:Nat):Int) (W4.drewN n) (Hr4.out.drewN n) (by decide));clear hR2;go_wp2_with fail;refine Hc40.out.mono ?_;rintro e w5 ⟨rfl,n7,rfl⟩;go_wp2_with fail;refine(Hme.out _).mono ?_;rintro e w5 ⟨rfl,rfl⟩;go_wp2_with fail;refine(Hw.out _).mono ?_;rintro e w5 ⟨rfl,hr5,ho5⟩;have Hfin:=qh (Hend.out w5 _ _ ((Off.drewN [rb] W4 _).trans ho5) hr5 (by rw[HR2.out];exact⟨rfl,rfl⟩));have t1:=hr5.c1;have tz1:=hr5.z 1;clear hr5 ho5;go_wp2_with fail;go_meet
           exact Hfin
          ·have hR2:R=.ok (⟨bc.toNat,b3.toNat,i⟩,i+2):=(by rw[HRR.out,h58,decide_eq_false hneg];rfl);have hng:decide (Lib.indexByte letters b3<0)=false:=qd hneg;have Hfin:=qh (fun n=>Hend.out (W4.drewN n) 0 0 (Off.drewN [rb] W4 n) (Hr4.out.drewN n) (by rw[hR2];exact⟨rfl,rfl,rfl,rfl,rfl⟩));clear hR2;go_wp2_with fail;refine Hc40.out.mono ?_;rintro e w5 ⟨rfl,n7,rfl⟩;go_wp2_with fail;refine(Hme.out _).mono ?_;rintro e w5 ⟨rfl,rfl⟩;go_wp2_with fail;go_meet
           exact Hfin.out _
        ·have hbc:((zaa s (i+1)).toNat:Int)<97∨122<((zaa s (i+1)).toNat:Int):=by
          by_cases h1:((zaa s (i+1)).toNat:Int)<97
          ·exact .inl h1
          ·right;by_cases h2:122<((zaa s (i+1)).toNat:Int)
           ·exact h2
           ·refine absurd ?_ hin;rw[hin0,decide_eq_true (by omega),decide_eq_true (by omega)];rfl
         have HR2:Hid (R=.error (180,i+1)):=qh (by
          rw[←hMP];unfold za0;rw[hbx,if_neg HMQ.out,if_pos hlet,if_pos hin])
         have Hbad:=qh (fun n=>zbu rb s (i+1) 0 0 F (W3.drewN n) (Hr3.out.drewN n));have Hfin:Hid (∀n w4,RR w4 rb s (i+1) (wrN 0 180) (wrP 0 0 ((i+1:Nat):Int)) F→Off [rb] (W3.drewN n) w4→zj0 B rb xb s F cls ref a (.slice A ms.length cp) ms w R w4):=qh (fun n w4 hr4 ho4=>by
          have ho:=HO3.out.trans ((Off.drewN [rb] W3 n).trans ho4);refine⟨ho.mono (fun k hk=>.inl (by simp at hk⊢;exact .inl hk)),?_⟩;rw[HR2.out];exact⟨⟨_,hr4⟩,_,_,_,(((Off.drewN [rb] W3 n).trans ho4).block xb hxl3 (by simp;omega)).trans Hx3.out⟩)
         generalize zaa s (i+1)=b3 at*;clear hin0 hin hb3;rcases hbc with hlo|hhi
         ·have d1:decide ((b3.toNat:Int)<97)=true:=qt hlo;go_wp2_with fail;refine Hc30.out.mono ?_;rintro e w4 ⟨rfl,n4,rfl⟩;go_wp2_with fail;refine(Hbad.out _).mono ?_;rintro e w5 ⟨rfl,hr5,ho5⟩;have Hr5:=qh hr5;have Ho5:=qh ho5;clear hr5 ho5;go_wp2_with fail;refine bodyPost_ret (results_none rfl _ _ _) rfl ?_;exact⟨rfl,Hfin.out _ _ Hr5.out Ho5.out⟩
         ·have hnl:¬(b3.toNat:Int)<97:=(by omega);have d1:decide ((b3.toNat:Int)<97)=false:=qd hnl;have d2:decide (122<(b3.toNat:Int))=true:=qt hhi;go_wp2_with fail;refine Hc30.out.mono ?_;rintro e w4 ⟨rfl,n4,rfl⟩;go_wp2_with fail;refine(Hc3.out _).mono ?_;rintro e w4 ⟨rfl,n5,rfl⟩;go_wp2_with fail;refine(Hbad.out _).mono ?_;rintro e w5 ⟨rfl,hr5,ho5⟩;have Hr5:=qh hr5;have Ho5:=qh ho5;clear hr5 ho5;go_wp2_with fail;refine bodyPost_ret (results_none rfl _ _ _) rfl ?_;exact⟨rfl,Hfin.out _ _ Hr5.out Ho5.out⟩
       |false=>
        have Hnum:=qh (zcu rb s (i+1) 0 0 F 1 W3 Hr3.out (by omega) (by omega));have HRR:Hid (R=match numP s 1 (i+1) with|.error e=>.error e|.ok (v,e)=>if isB s i 126&&ms.any (fun m=>m.sign==126&&m.n==v) then .error (2,i+1) else .ok (⟨bc.toNat,v,i⟩,e)):=qh (by
         rw[←hMP];unfold za0;rw[hbx,if_neg HMQ.out,if_neg (by rw[hlet];simp)];rfl)
        have r31:=Hr3.out.c1;clear hlet;go_wp2_with fail;refine Hnum.out.mono ?_;rintro e w4 ⟨ho4,n,rfl,hn0,hn1,hok,hno⟩;have hsay:∃(no wh:Int) (j:Nat),RR w4 rb s j no wh F∧zj2 (numP s 1 (i+1)) n no wh j:=by
         have:=hok rfl;cases hp:numP s 1 (i+1) with
         |error e=>obtain⟨c,p⟩:=e;rw[hp] at this;obtain⟨j,hj⟩:=this;exact⟨_,_,j,hj,rfl,rfl⟩
         |ok ve=>obtain⟨v,e⟩:=ve;rw[hp] at this;exact⟨_,_,_,this.2,rfl,rfl,this.1⟩
        obtain⟨no,wh,j,hr4,hsays⟩:=hsay;have HSay:=qh hsays;have Hr4:=qh hr4;have Ho4:=qh ho4;have hm4:=(ho4.block mb hml3 (by simp;omega)).trans Hmb3.out;have Hm4:=qh hm4;have l1:w4.cell? ⟨mb,1,none⟩=some (.int .i64 0):=qc _ _ 1 _ _ (0,0) hm4;have lz1:w4.frozen? ⟨mb,1,none⟩=false:=qf _ _ 1 _ _ hm4;have Hn:=qh (show 0≤n∧n≤1000009 from⟨hn0,hn1⟩);clear hok hno hr4 hsays ho4 hm4 l0 r31 hn0 hn1;go_upto_region 17 with fail
        have hm5:=qs w4 mb 1 _ _ (.int .i64 n) Hm4.out;have ho5:=Off.setCell w4 mb 1 (.int .i64 n);have hr5:=Hr4.out.off ho5 (by simp;omega);generalize w4.setCell ⟨mb,1,none⟩ (.int .i64 n)=W5 at*;have Hm5:Hid (W5.heap[mb]?=some (.cells #[.int .u8 bc.toNat,.int .i64 n,.int .i64 i] 101 (0,0))):=qh hm5;have Ho5:Hid (Off [rb,mb] W3 W5):=qh ((Ho4.out.mono (fun k hk=>.inl (by simp at hk⊢;exact .inl hk))).trans (ho5.mono (fun k hk=>.inl (by simp at hk⊢;exact .inr hk))));have Hr5:=qh hr5;have Hx5:=qh ((Ho5.out.block xb hxl3 (by simp;omega)).trans Hx3.out);have HM5:Hid (MksM W5 B (.slice A ms.length cp) ms):=qh (Ho5.out.own HM3.out (fun k hk=>by
         have h1:=zac HM3.out Hr3.out.r (by decide);have h2:=(Hm.out.lt k hk).2;simp;refine⟨?_,by omega⟩;rintro rfl;rcases h1 with h1|h1
         ·rw[h1] at hk;cases hk
         ·exact h1 hk))
        clear hm5 ho5 hr5 Hm4 lz1 l1;obtain⟨W6,hW6⟩:∃W6:World,W6=W5:=⟨_,rfl⟩;have H6:Hid (W6=W5):=qh hW6;clear hW6;go_loopw [7] (fun v7 wr=>∃k:Nat,k≤ms.length∧v7=.int .i64 k∧Hid (Off [rb] W5 wr)∧Hid (RR wr rb s j (dNo (dupB s i ms n k) no) (dWh (dupB s i ms n k) no wh ((i:Int)+1)) F)) (fun v7 _=>ms.length-(intOf v7).toNat)
        case atStart=>exact⟨0,Nat.zero_le _,rfl,qh (Off.refl _ _),qh (by rw[show dupB s i ms n 0=false by simp[dupB]];exact Hr5.out)⟩
        case round=>
         obtain⟨k,hk,rfl,hof,hrr⟩:=hrel;have hm6:=(hof.out.block mb (qg Hm5.out).1 (by simp;omega)).trans Hm5.out;have hx6:=(hof.out.block xb (qg Hx5.out).1 (by simp;omega)).trans Hx5.out;have hM6:MksM wr B (.slice A ms.length cp) ms:=hof.out.own HM5.out (fun k hk=>by
          have h1:=zac HM5.out Hr5.out.r (by decide);simp;rintro rfl;rcases h1 with h1|h1
          ·rw[h1] at hk;cases hk
          ·exact h1 hk)
         have m0:wr.cell? ⟨mb,0,none⟩=some (.int .u8 bc.toNat):=qc _ _ 0 _ _ (0,0) hm6;have m1:wr.cell? ⟨mb,1,none⟩=some (.int .i64 n):=qc _ _ 1 _ _ (0,0) hm6;have x2:wr.cell? ⟨xb,2,none⟩=some (.slice A ms.length cp):=qc _ _ 2 _ _ (0,0) hx6;by_cases hlt:k<ms.length
         ·have hrow:=hM6.row hlt;have hdn:=zkW (s:=s) (i:=i) (n:=n) hlt;generalize hd0:dupB s i ms n k=d0 at*;generalize hd1:dupB s i ms n (k+1)=d1 at*;generalize (ms.getD k Mk0).sign=sg at*;generalize (ms.getD k Mk0).n=nk at*;obtain⟨g,rfl,_,k0,k1,_⟩:=hrow;have i1:(0:Int)≤(k:Int):=(by omega);have i2:(k:Int)<(ms.length:Int):=(by omega);have H1:=qh hd1;clear hd0 hd1 hm6 hx6 hM6;by_cases hD:isB s i 126=true∧sg=126∧nk=n
          ·obtain⟨h126,hsg,hnk⟩:=hD;have q126:((bc.toNat:Int)==126)=true:=(by rw[←His.out 126];exact h126);have e1:(sg==126)=true:=(by simpa using hsg);have e2:(nk==n)=true:=(by simpa using hnk);have hd2:d1=true:=(by rw[hdn,h126,e1,e2];simp);have Hw:=qh (fun nq=>zaO rb s j _ _ F 2 ((i:Int)+1) (wr.drewN nq) (hrr.out.drewN nq) (by decide));have Hd2:=qh hd2;clear hd2 hdn h126 hsg hnk;go_wp2_with fail;go_quiet (fail)
           go_wp2_with fail;refine(Hw.out _).mono ?_;rintro e w7 ⟨rfl,hr7,ho7⟩;rw[(zj3 d0 no wh ((i:Int)+1)).1,(zj3 d0 no wh ((i:Int)+1)).2] at hr7;have Hr7:=qh hr7;have Ho7:=qh ho7;clear hr7 ho7;go_wp2_with fail;go_roundw
           case rel=>exact⟨k+1,by omega,by go_num,qh ((hof.out.trans (Off.drewN _ _ _)).trans Ho7.out),qh (by rw[H1.out,Hd2.out];exact Hr7.out)⟩
           case measure=>simp[intOf];omega
          ·have hd2:d1=d0:=by
            rw[hdn];have:(isB s i 126&&(sg==126&&nk==n))=false:=by
             cases hc:(isB s i 126&&(sg==126&&nk==n)) with
             |false=>rfl
             |true=>
              simp only[Bool.and_eq_true,beq_iff_eq] at hc;exact absurd hc hD
            rw[this,Bool.or_false]
           have Hd2:=qh hd2;clear hd2 hdn;have hways:isB s i 126=false∨(isB s i 126=true∧((sg==126)=false∨((sg==126)=true∧(nk==n)=false))):=by
            cases h1:isB s i 126 with
            |false=>exact .inl rfl
            |true=>
             cases h2:(sg==126) with
             |false=>exact .inr ⟨rfl,.inl rfl⟩
             |true=>
              cases h3:(nk==n) with
              |false=>exact .inr ⟨rfl,.inr ⟨rfl,rfl⟩⟩
              |true=>exact absurd ⟨h1,by simpa using h2,by simpa using h3⟩ hD
           clear hD;rcases hways with h1|⟨h1,h2|⟨h2,h3⟩⟩
           ·have q126:((bc.toNat:Int)==126)=false:=(by rw[←His.out 126];exact h1);go_wp2_with fail;go_quiet (fail)
            go_wp2_with fail;go_roundw
            case rel=>exact⟨k+1,by omega,by go_num,qh (hof.out.trans (Off.drewN _ _ _)),qh (by rw[H1.out,Hd2.out];exact hrr.out.drewN _)⟩
            case measure=>simp[intOf];omega
           ·have q126:((bc.toNat:Int)==126)=true:=(by rw[←His.out 126];exact h1);go_wp2_with fail;go_quiet (fail)
            go_wp2_with fail;go_roundw
            case rel=>exact⟨k+1,by omega,by go_num,qh (hof.out.trans (Off.drewN _ _ _)),qh (by rw[H1.out,Hd2.out];exact hrr.out.drewN _)⟩
            case measure=>simp[intOf];omega
           ·have q126:((bc.toNat:Int)==126)=true:=(by rw[←His.out 126];exact h1);go_wp2_with fail;go_quiet (fail)
            go_wp2_with fail;go_roundw
            case rel=>exact⟨k+1,by omega,by go_num,qh (hof.out.trans (Off.drewN _ _ _)),qh (by rw[H1.out,Hd2.out];exact hrr.out.drewN _)⟩
            case measure=>simp[intOf];omega
         ·obtain rfl:k=ms.length:=by omega
          have hfin:zlU W3 wr rb mb s F bc.toNat i R:=by
           exact⟨Ho5.out.trans (hof.out.mono (fun k hk=>.inl (by simp at hk⊢;exact .inl hk))),n,_,_,j,hrr.out,hm6,zkX HSay.out (fun e=>((Hr4.out).ok e).2) HRR.out⟩
          have Hfin:=qh hfin;clear hfin;go_wp2_with fail;go_meet
          exact Hfin
      case rest=>
       obtain⟨ho4,n,no,wh,j,hr4,hm4,hs4⟩:=hcut.out;obtain⟨W4,hW4⟩:∃W4:World,W4=wc:=⟨_,rfl⟩;subst hW4;have hlw:w.heap.size≤W3.heap.size:=HO3.out.size;have ho5:Off [rb] w W4:=⟨ho4.os.trans HO3.out.os,ho4.tape.trans HO3.out.tape,ho4.output.trans HO3.out.output,qm hlw ho4.size,fun k hk hn=>(ho4.block k (Nat.lt_of_lt_of_le hk hlw) (by simp at hn⊢;exact⟨hn,by omega⟩)).trans (HO3.out.block k hk hn)⟩;have hM5:MksM W4 B (.slice A ms.length cp) ms:=ho4.own HM3.out (fun k hk=>by
        have h1:=zac HM3.out Hr3.out.r (by decide);have h2:=(Hm.out.lt k hk).2;simp;refine⟨?_,by omega⟩;rintro rfl;rcases h1 with h1|h1
        ·rw[h1] at hk;cases hk
        ·exact h1 hk)
       have hx5:=(ho4.block xb hxl3 (by simp;omega)).trans Hx3.out;have x2:W4.cell? ⟨xb,2,none⟩=some (.slice A ms.length cp):=qc _ _ 2 _ _ (0,0) hx5;have x2a:∀o,(W4.alloc o).cell? ⟨xb,2,none⟩=some (.slice A ms.length cp):=fun o=>(qw (qa W4 o xb (qg hx5).1)).trans x2;have m0:W4.cell? ⟨mb,0,none⟩=some (.int .u8 bc.toNat):=qc _ _ 0 _ _ (0,0) hm4;have m1:W4.cell? ⟨mb,1,none⟩=some (.int .i64 n):=qc _ _ 1 _ _ (0,0) hm4;have m2:W4.cell? ⟨mb,2,none⟩=some (.int .i64 i):=qc _ _ 2 _ _ (0,0) hm4;have Hmx:Hid (ms.length+1≤maxLen):=qh (by unfold maxLen;omega);have Hby:Hid ((ms.length+1)*24≤140737488355328):=qh (by omega);have Hpos:Hid (0<ms.length+1):=qh (by omega);have Hbs:Hid (B≤W4.drew.heap.size):=qh (qm hB ho5.size);have Hown:Hid (W4.drew.ownsRow B 101 3 (.slice A ms.length cp) ms.length (mksC ms)):=qh ((Off.drew [] W4).own hM5 (fun k hk=>by simp));have Hone:Hid (∀u∈(#[.int .u8 bc.toNat,.int .i64 n,.int .i64 i]:Array Value).toList,u.oneCell'=true):=qh (by intro u hu;simp at hu;rcases hu with rfl|rfl|rfl<;>rfl);have HF:=qh (fun w8 v8 hg hown=>zkY (w8:=w8) (v8:=v8) ho5 hr4 hx5 hM5 hxr hs4 hown hg);clear hcut ho4 hr4 hm4 hs4 ho5 hM5 hx5;go_wp2_with fail;go_region_law (refine zah W4.drew (by rfl) (.tmp 131) (.tmp 133) 97 (by rfl) B 101 _ _ 3 24 Tryz.underlying97 zmF zmG zmH zmh rfl (by decide) (.slice A ms.length cp) ms.length (mksC ms) _ _ (by simp[Act.eval,Act.put]) (by simp[Act.eval,Act.put];rfl) (by simp) (by exact Hown.out) rfl (by exact Hone.out) Hmx.out Hby.out (by exact Hbs.out) ?_;intro v8 w8 hown8 hg8 hat8;obtain⟨g8,cap8,rfl⟩:=zak hown8 Hpos.out;obtain⟨hfin8,c8,z8⟩:=HF.out w8 _ hg8 hown8;have HFin:=qh hfin8;clear hfin8 hown8 hg8 hat8)
       all_goals
        go_wp2_with fail;refine bodyPost_end (results_none rfl _ _ _) rfl ?_;exact⟨rfl,HFin.out⟩
end Go.Proofs.YtgklikkddckgbaaGreatDoor.Mo

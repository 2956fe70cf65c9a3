import Derived.Test.YtgklikkddckgbaaGreatDoorLDD
import Derived.Lib.OwnKind
/- Lemmas. -/
set_option linter.all false
set_option maxRecDepth 100000
set_option maxHeartbeats 8000000
namespace Go.Proofs.YtgklikkddckgbaaGreatDoor.Mo
open Go.RowKit
theorem zdp {s:ByteArray} {i:Nat} {c:Int} (h:pg s i c=true):((gZ s i).toNat:Int)=c:=by
 have hi:=XV h;rw[QX hi] at h;rw[Z3 hi];simpa using h
theorem zbD {s:ByteArray} {i:Nat} {c d:Int} (h:pg s i c=true) (hd:c≠d):pg s i d=false:=by
 have hi:=XV h;rw[QX hi] at h|-;have:(s[i].toNat:Int)=c:=by simpa using h
 rw[this];simpa using hd
def zjr (c:Int) (i:Nat) (r:Except (Int×Nat) (Int×Nat)):Except (Int×Nat) (Mk×Nat):=match r with
 |.error e=>.error e
 |.ok (v,e)=>.ok (⟨c,v,i⟩,e)
theorem zdq {s:ByteArray} {gN:List UInt8} {ms:List Mk} {i:Nat} {c:Int} (h:pg s i c=true) (h1:c≠126) (h2:c≠58) (h3:c≠39):
  QY s gN ms i=if pG ms c then .error (180,i) else zjr c i (yL s 1 (i+1)):=by
 unfold QY;rw[zbD h h1,zbD h h2,zbD h h3,zdp h];have hm:=zfK ms c;by_cases hk:1<=pO ms c
 ·rw[qy (by simpa using hk),<-hm,qK hk];rfl
 ·rw[qx (by simpa using hk),<-hm,zh hk];unfold zjr;cases yL s 1 (i+1)<;>rfl
def zca (B rb fb xb:Nat) (s:ByteArray) (gN:List UInt8) (cls ref:Int) (ms:List Mk) (a:Nat) (vh:Value) (r:Except (Int×Nat) (Mk×Nat)) (w:World) (e:Ending) (w':World):Prop:=
 Off (rb::xb::vh.ownBlock.toList) w w'/\
 match r with
 |.error (c,p)=>e=vU c p
 |.ok (m,j)=>e=.returned (.tuple #[])/\Rd w' rb fb s j/\∃vh',Xh w' B xb gN cls ref (ms++[m]) a vh'/\(vh'.ownBlock=vh.ownBlock∨∃b,vh'.ownBlock=some b/\w.heap.size<=b)
theorem zey {s:ByteArray} {i:Nat} {v:Int} {e:Nat} (h:yL s 1 i=.ok (v,e)):1<=v/\v<=512:=by
 unfold yL at h;split at h
 ·cases h
 ·split at h
  ·cases h
  ·cases h;omega
theorem zlJ {s:ByteArray} {l:Int} {i:Nat} {v:Int} {e:Nat} (hi:i<=s.size) (h:yL s l i=.ok (v,e)):i<=e/\e<=s.size:=by
 unfold yL at h;split at h
 ·cases h
 ·split at h
  ·cases h
  ·cases h;exact Vq i i hi
theorem zjs {gN:List UInt8} {cls ref:Int} {ms:List Mk} {a:Nat} {vh:Value} {v:Int} {i:Nat} (h0:pG ms 47=false):
  Qs gN cls ref (ms++[⟨47,v,i⟩]) a vh=((Qs gN cls ref ms a vh).setIfInBounds 12 (.bool true)).setIfInBounds 4 (.int .i64 v):=by
 unfold Qs;rw[zew (by decide:(47:Int)≠58),K5 (c:=58) (by decide:(47:Int)≠58),zjo (c:=47) h0 rfl,K5 (c:=94) (by decide:(47:Int)≠94),K5 (c:=64) (by decide:(47:Int)≠64),K5 (c:=39) (by decide:(47:Int)≠39),zex _ rfl,zbh,zbh];simp
theorem zkH {gN:List UInt8} {cls ref:Int} {ms:List Mk} {a:Nat} {vh:Value} {v:Int} {i:Nat} (h0:pG ms 94=false):
  Qs gN cls ref (ms++[⟨94,v,i⟩]) a vh=((Qs gN cls ref ms a vh).setIfInBounds 10 (.int .i64 (if Qt ms<0 then(i:Int) else Qt ms))).setIfInBounds 5 (.int .i64 v):=by
 unfold Qs;rw[zew (by decide:(94:Int)≠58),K5 (c:=58) (by decide:(94:Int)≠58),K5 (c:=47) (by decide:(94:Int)≠47),zjo (c:=94) h0 rfl,K5 (c:=64) (by decide:(94:Int)≠64),K5 (c:=39) (by decide:(94:Int)≠39),zfJ _ rfl,zbh,zbh];simp
theorem zkI {gN:List UInt8} {cls ref:Int} {ms:List Mk} {a:Nat} {vh:Value} {v:Int} {i:Nat} (h0:pG ms 64=false):
  Qs gN cls ref (ms++[⟨64,v,i⟩]) a vh=((Qs gN cls ref ms a vh).setIfInBounds 10 (.int .i64 (if Qt ms<0 then(i:Int) else Qt ms))).setIfInBounds 6 (.int .i64 v):=by
 unfold Qs;rw[zew (by decide:(64:Int)≠58),K5 (c:=58) (by decide:(64:Int)≠58),K5 (c:=47) (by decide:(64:Int)≠47),K5 (c:=94) (by decide:(64:Int)≠94),zjo (c:=64) h0 rfl,K5 (c:=39) (by decide:(64:Int)≠39),zfJ _ rfl,zbh,zbh];simp
theorem Xh.num {w:World} {B xb:Nat} {gN:List UInt8} {cls ref:Int} {ms:List Mk} {a:Nat} {vh:Value} {w':World} {c v:Int} {i:Nat} {L:List Nat} (h:Xh w B xb gN cls ref ms a vh) (ho:Off L w w') (hL:∀k,vh.ownBlock=some k->k∉L) (hc:c=47∨c=94∨c=64) (hv:1<=v/\v<=512)
  (hx:w'.heap[xb]?=some (.cells (Qs gN cls ref (ms++[⟨c,v,i⟩]) a vh) 108 (0,0))):Xh w' B xb gN cls ref (ms++[⟨c,v,i⟩]) a vh:=by
 have Ko:c≠126:=by omega
 have hh:pA (ms++[⟨c,v,i⟩])=pA ms:=zjp ms Ko;refine⟨hx,?_,?_,?_,h.hB⟩
 ·rw[hh];exact ho.own h.h hL
 ·intro m hm;rcases qJ.1 hm with hm|hm
  ·exact h.ok m hm
  ·obtain rfl:m=⟨c,v,i⟩:=by simpa using hm
   exact⟨by show c=58∨c=47∨c=94∨c=64∨c=126∨c=39;omega,λe=>by have e2:c=58∨c=39:=e;omega,λ_ _=>hv⟩
 ·unfold pO;rw[jy];have:List.countP (λm=>m.sign==126) [(⟨c,v,i⟩:Mk)]=0:=by simp[Ko]
  rw[this];exact h.four
theorem Xh.sep {w:World} {B xb:Nat} {gN:List UInt8} {cls ref:Int} {ms:List Mk} {a:Nat} {vh:Value} (h:Xh w B xb gN cls ref ms a vh) {rb fb i:Nat} {s:ByteArray} (hr:Rd w rb fb s i):rb≠xb/\∀k,vh.ownBlock=some k->k≠rb/\k≠xb:=by
 refine⟨λe=>?_,λk hk=>?_⟩
 ·have:=hr.r;rw[e,h.x] at this;simp only[yb,yE] at this;exact absurd this.2.1 (by decide)
 ·rcases h.h.2 with⟨e,_⟩|⟨g,cap,cur,e,_,hg,_⟩
  ·rw[e] at hk;cases hk
  ·rw[e] at hk;cases hk;refine⟨λe2=>?_,λe2=>?_⟩
   ·subst e2;have:=hr.r;rw[hg] at this;simp only[yb,yE] at this;exact absurd this.2.1 (by decide)
   ·subst e2;have:=h.x;rw[hg] at this;simp only[yb,yE] at this;exact absurd this.2.1 (by decide)
theorem zfM (B rb fb xb:Nat) (s:ByteArray) (i:Nat) (gN:List UInt8) (cls ref:Int) (ms:List Mk) (a:Nat) (vh:Value) (w:World) (h:Rd w rb fb s i) (hx:Xh w B xb gN cls ref ms a vh) (hs:pg s i 47=true) (hv:Vars w) (h9:9<=rb) (h9x:9<=xb):
  Calls Tryz.prog 182 #[.pointer (some ⟨rb,0,none⟩),.pointer (some ⟨xb,0,none⟩)] w (zca B rb fb xb s gN cls ref ms a vh (QY s gN ms i) w):=by
 rw[zdq (gN:=gN) (ms:=ms) hs (by decide) (by decide) (by decide)];have hi:=XV hs;obtain⟨hne,hsp⟩:=hx.sep h;have hxl:xb<w.heap.size:=(qg hx.x).1;have xf:w.cell? ⟨xb,12,none⟩=some (.bool (pG ms 47)):=qc _ _ 12 _ _ (0,0) hx.x;have Z5:=qh (zeg rb fb s i (pG ms 47) w h hi);have Hx:=qh hx;have Hv:=qh hv;clear h hx hv hs;cases hany:pG ms 47 with
 |true=>
  rw[hany] at Z5 xf;rw[qy rfl];clear hany;go_enter Tryz.func182,Tryz.ntmps182;go_wp2_with fail;refine Z5.out.mono ?_;rintro e w2 hst;unfold YG zgp at hst;simp only[kt] at hst;obtain⟨rfl,ho⟩:=hst;exact⟨rfl,ho.mono (λk hk=>.inl (by simp at hk|-;exact .inl hk)),rfl⟩
 |false=>
  rw[hany] at Z5 xf;rw[qx (by simp)];have X0:=qh hany;generalize hR:zjr 47 i (yL s 1 (i+1))=R;have HR:=qh hR;clear hany hR;go_enter Tryz.func182,Tryz.ntmps182;go_wp2_with fail;refine Z5.out.mono ?_;rintro e w2 hst;unfold YG zgp at hst;simp only[kC,yG] at hst;obtain⟨rfl,hrd,ho1⟩:=hst;have hx2:=(ho1.block xb hxl (by simp;omega)).trans Hx.out.x;have ho:Off [rb,xb] w w2:=ho1.mono (λk hk=>.inl (by simp at hk|-;exact .inl hk));have pE:=qh (zcq rb fb s (i+1) 1 w2 hrd (Vars.off Hv.out ho (by simp;exact⟨h9,h9x⟩)) h9 (by decide) (by decide));clear ho1;have Ho:=qh ho;have Zj:=qh hx2;have JW:xb<w2.heap.size:=by have:=ho.size;omega
  clear hrd ho hx2 xf;go_wp2_with fail;refine pE.out.mono ?_;rintro e w3 ⟨ho3,hres⟩;have hx3:=(ho3.block xb JW (by simp;omega)).trans Zj.out;have Kn:Off [rb,xb] w w3:=Ho.out.trans (ho3.mono (λk hk=>.inl (by simp at hk|-;exact .inl hk)));cases hN:yL s 1 (i+1) with
  |error ep=>
   obtain⟨c,p⟩:=ep;rw[hN] at hres;have hR2:R=.error (c,p):=(by rw[<-HR.out,hN];rfl);subst hres;refine⟨rfl,Kn.mono (λk hk=>.inl (by simp at hk|-;omega)),?_⟩;rw[hR2];rfl
  |ok vj=>
   obtain⟨v,j⟩:=vj;rw[hN] at hres;have HR2:Hid (R=.ok (⟨47,v,i⟩,j)):=qh (by rw[<-HR.out,hN];rfl);obtain⟨rfl,Qf⟩:=hres;have hbd:=zey hN;have x12:w3.cell? ⟨xb,12,none⟩=some (.bool (pG ms 47)):=qc _ _ 12 _ _ (0,0) hx3;have z12:=qf _ _ 12 _ _ hx3;have hx4:=qs w3 xb 12 _ _ (.bool true) hx3;have y4:(w3.setCell ⟨xb,12,none⟩ (.bool true)).cell? ⟨xb,4,none⟩=some (.int .i64 (gY ms 47)):=qc _ _ 4 _ _ (0,0) hx4;have z4:=qf _ _ 4 _ _ hx4;have hx5:=qs _ xb 4 _ _ (.int .i64 v) hx4;rw[<-zjs (i:=i) X0.out] at hx5;have hos:Off [xb] w3 ((w3.setCell ⟨xb,12,none⟩ (.bool true)).setCell ⟨xb,4,none⟩ (.int .i64 v)):=(Off.setCell w3 xb 12 _).trans (Off.setCell _ xb 4 _);clear hx4;have Ze:Off [rb,xb] w ((w3.setCell ⟨xb,12,none⟩ (.bool true)).setCell ⟨xb,4,none⟩ (.int .i64 v)):=Kn.trans (hos.mono (λk hk=>.inl (by simp at hk|-;exact .inr hk)));have pH:Off (rb::xb::vh.ownBlock.toList) w ((w3.setCell ⟨xb,12,none⟩ (.bool true)).setCell ⟨xb,4,none⟩ (.int .i64 v)):=Ze.mono (λk hk=>.inl (by simp at hk|-;omega));have gT:Hid (zca B rb fb xb s gN cls ref ms a vh R w (.returned (.tuple #[])) ((w3.setCell ⟨xb,12,none⟩ (.bool true)).setCell ⟨xb,4,none⟩ (.int .i64 v))):=qh (by
    rw[HR2.out];exact⟨pH,rfl,Qf.off hos (by simp;exact hne),vh,Hx.out.num Ze (λk hk=>by have:=hsp k hk;simp;exact this) (by decide) hbd hx5,.inl rfl⟩)
   clear hx3 Kn Qf hbd hx5 pH Ze hN ho3 hos;go_wp2_with fail;refine q9 (qI rfl _ _ _) rfl ?_;exact gT.out
theorem zgr (B rb fb xb:Nat) (s:ByteArray) (i:Nat) (gN:List UInt8) (cls ref:Int) (ms:List Mk) (a:Nat) (vh:Value) (w:World) (h:Rd w rb fb s i) (hx:Xh w B xb gN cls ref ms a vh) (hs:pg s i 94=true) (hv:Vars w) (h9:9<=rb) (h9x:9<=xb):
  Calls Tryz.prog 183 #[.pointer (some ⟨rb,0,none⟩),.pointer (some ⟨xb,0,none⟩)] w (zca B rb fb xb s gN cls ref ms a vh (QY s gN ms i) w):=by
 rw[zdq (gN:=gN) (ms:=ms) hs (by decide) (by decide) (by decide)];have hi:=XV hs;obtain⟨hne,hsp⟩:=hx.sep h;have hxl:xb<w.heap.size:=(qg hx.x).1;have xf:w.cell? ⟨xb,5,none⟩=some (.int .i64 (gY ms 94)):=qc _ _ 5 _ _ (0,0) hx.x;have hd:decide (0<gY ms 94)=pG ms 94:=by
  have:=(zlI hx.ok (c:=94)).1;cases hh:pG ms 94 with
  |true=>rw[hh] at this;exact qt (this.mpr rfl)
  |false=>rw[hh] at this;exact qd (λe=>by have:=this.mp e;cases this)
 have Z5:=qh (zcI rb fb xb s i (pG ms 94) ms (Qs gN cls ref ms a vh) w h hi hx.x rfl hne);have Hx:=qh hx;have Hv:=qh hv;clear h hx hv hs;cases hany:pG ms 94 with
 |true=>
  rw[hany] at Z5 hd;rw[qy rfl];clear hany;go_enter Tryz.func183,Tryz.ntmps183;go_wp2_with fail;refine Z5.out.mono ?_;rintro e w2 hst;obtain⟨ho,he⟩:=hst;rw[qy rfl] at he;subst he;exact⟨rfl,ho.mono (λk hk=>.inl (by simp at hk|-;omega)),rfl⟩
 |false=>
  rw[hany] at Z5 hd;rw[qx (by simp)];have X0:=qh hany;generalize hR:zjr 94 i (yL s 1 (i+1))=R;have HR:=qh hR;clear hany hR;go_enter Tryz.func183,Tryz.ntmps183;go_wp2_with fail;refine Z5.out.mono ?_;rintro e w2 hst;obtain⟨ho,he⟩:=hst;rw[qx (by simp)] at he;obtain⟨rfl,hrd,hx2⟩:=he;have pE:=qh (zcq rb fb s (i+1) 1 w2 hrd (Vars.off Hv.out ho (by simp;exact⟨h9,h9x⟩)) h9 (by decide) (by decide));have Ho:=qh ho;have Zj:=qh hx2;have JW:xb<w2.heap.size:=by have:=ho.size;omega
  clear hrd ho hx2 xf;go_wp2_with fail;refine pE.out.mono ?_;rintro e w3 ⟨ho3,hres⟩;have hx3:=(ho3.block xb JW (by simp;omega)).trans Zj.out;have Kn:Off [rb,xb] w w3:=Ho.out.trans (ho3.mono (λk hk=>.inl (by simp at hk|-;exact .inl hk)));cases hN:yL s 1 (i+1) with
  |error ep=>
   obtain⟨c,p⟩:=ep;rw[hN] at hres;have hR2:R=.error (c,p):=(by rw[<-HR.out,hN];rfl);subst hres;refine⟨rfl,Kn.mono (λk hk=>.inl (by simp at hk|-;omega)),?_⟩;rw[hR2];rfl
  |ok vj=>
   obtain⟨v,j⟩:=vj;rw[hN] at hres;have HR2:Hid (R=.ok (⟨94,v,i⟩,j)):=qh (by rw[<-HR.out,hN];rfl);obtain⟨rfl,Qf⟩:=hres;have hbd:=zey hN;have xq:w3.cell? ⟨xb,5,none⟩=some (.int .i64 (gY ms 94)):=qc _ _ 5 _ _ (0,0) hx3;have zq:=qf _ _ 5 _ _ hx3;have hx5:=qs _ xb 5 _ _ (.int .i64 v) hx3;rw[<-zkH (i:=i) X0.out] at hx5;have hos:Off [xb] w3 (w3.setCell ⟨xb,5,none⟩ (.int .i64 v)):=Off.setCell w3 xb 5 _;have Ze:Off [rb,xb] w (w3.setCell ⟨xb,5,none⟩ (.int .i64 v)):=Kn.trans (hos.mono (λk hk=>.inl (by simp at hk|-;exact .inr hk)));have pH:Off (rb::xb::vh.ownBlock.toList) w (w3.setCell ⟨xb,5,none⟩ (.int .i64 v)):=Ze.mono (λk hk=>.inl (by simp at hk|-;omega));have gT:Hid (zca B rb fb xb s gN cls ref ms a vh R w (.returned (.tuple #[])) (w3.setCell ⟨xb,5,none⟩ (.int .i64 v))):=qh (by
    rw[HR2.out];exact⟨pH,rfl,Qf.off hos (by simp;exact hne),vh,Hx.out.num Ze (λk hk=>by have:=hsp k hk;simp;exact this) (by decide) hbd hx5,.inl rfl⟩)
   clear hx3 Kn Qf hbd hx5 pH Ze hN ho3 hos;go_wp2_with fail;refine q9 (qI rfl _ _ _) rfl ?_;exact gT.out
theorem zgs (B rb fb xb:Nat) (s:ByteArray) (i:Nat) (gN:List UInt8) (cls ref:Int) (ms:List Mk) (a:Nat) (vh:Value) (w:World) (h:Rd w rb fb s i) (hx:Xh w B xb gN cls ref ms a vh) (hs:pg s i 64=true) (hv:Vars w) (h9:9<=rb) (h9x:9<=xb):
  Calls Tryz.prog 184 #[.pointer (some ⟨rb,0,none⟩),.pointer (some ⟨xb,0,none⟩)] w (zca B rb fb xb s gN cls ref ms a vh (QY s gN ms i) w):=by
 rw[zdq (gN:=gN) (ms:=ms) hs (by decide) (by decide) (by decide)];have hi:=XV hs;obtain⟨hne,hsp⟩:=hx.sep h;have hxl:xb<w.heap.size:=(qg hx.x).1;have xf:w.cell? ⟨xb,6,none⟩=some (.int .i64 (gY ms 64)):=qc _ _ 6 _ _ (0,0) hx.x;have hd:decide (0<gY ms 64)=pG ms 64:=by
  have:=(zlI hx.ok (c:=64)).1;cases hh:pG ms 64 with
  |true=>rw[hh] at this;exact qt (this.mpr rfl)
  |false=>rw[hh] at this;exact qd (λe=>by have:=this.mp e;cases this)
 have Z5:=qh (zcI rb fb xb s i (pG ms 64) ms (Qs gN cls ref ms a vh) w h hi hx.x rfl hne);have Hx:=qh hx;have Hv:=qh hv;clear h hx hv hs;cases hany:pG ms 64 with
 |true=>
  rw[hany] at Z5 hd;rw[qy rfl];clear hany;go_enter Tryz.func184,Tryz.ntmps184;go_wp2_with fail;refine Z5.out.mono ?_;rintro e w2 hst;obtain⟨ho,he⟩:=hst;rw[qy rfl] at he;subst he;exact⟨rfl,ho.mono (λk hk=>.inl (by simp at hk|-;omega)),rfl⟩
 |false=>
  rw[hany] at Z5 hd;rw[qx (by simp)];have X0:=qh hany;generalize hR:zjr 64 i (yL s 1 (i+1))=R;have HR:=qh hR;clear hany hR;go_enter Tryz.func184,Tryz.ntmps184;go_wp2_with fail;refine Z5.out.mono ?_;rintro e w2 hst;obtain⟨ho,he⟩:=hst;rw[qx (by simp)] at he;obtain⟨rfl,hrd,hx2⟩:=he;have pE:=qh (zcq rb fb s (i+1) 1 w2 hrd (Vars.off Hv.out ho (by simp;exact⟨h9,h9x⟩)) h9 (by decide) (by decide));have Ho:=qh ho;have Zj:=qh hx2;have JW:xb<w2.heap.size:=by have:=ho.size;omega
  clear hrd ho hx2 xf;go_wp2_with fail;refine pE.out.mono ?_;rintro e w3 ⟨ho3,hres⟩;have hx3:=(ho3.block xb JW (by simp;omega)).trans Zj.out;have Kn:Off [rb,xb] w w3:=Ho.out.trans (ho3.mono (λk hk=>.inl (by simp at hk|-;exact .inl hk)));cases hN:yL s 1 (i+1) with
  |error ep=>
   obtain⟨c,p⟩:=ep;rw[hN] at hres;have hR2:R=.error (c,p):=(by rw[<-HR.out,hN];rfl);subst hres;refine⟨rfl,Kn.mono (λk hk=>.inl (by simp at hk|-;omega)),?_⟩;rw[hR2];rfl
  |ok vj=>
   obtain⟨v,j⟩:=vj;rw[hN] at hres;have HR2:Hid (R=.ok (⟨64,v,i⟩,j)):=qh (by rw[<-HR.out,hN];rfl);obtain⟨rfl,Qf⟩:=hres;have hbd:=zey hN;have xq:w3.cell? ⟨xb,6,none⟩=some (.int .i64 (gY ms 64)):=qc _ _ 6 _ _ (0,0) hx3;have zq:=qf _ _ 6 _ _ hx3;have hx5:=qs _ xb 6 _ _ (.int .i64 v) hx3;rw[<-zkI (i:=i) X0.out] at hx5;have hos:Off [xb] w3 (w3.setCell ⟨xb,6,none⟩ (.int .i64 v)):=Off.setCell w3 xb 6 _;have Ze:Off [rb,xb] w (w3.setCell ⟨xb,6,none⟩ (.int .i64 v)):=Kn.trans (hos.mono (λk hk=>.inl (by simp at hk|-;exact .inr hk)));have pH:Off (rb::xb::vh.ownBlock.toList) w (w3.setCell ⟨xb,6,none⟩ (.int .i64 v)):=Ze.mono (λk hk=>.inl (by simp at hk|-;omega));have gT:Hid (zca B rb fb xb s gN cls ref ms a vh R w (.returned (.tuple #[])) (w3.setCell ⟨xb,6,none⟩ (.int .i64 v))):=qh (by
    rw[HR2.out];exact⟨pH,rfl,Qf.off hos (by simp;exact hne),vh,Hx.out.num Ze (λk hk=>by have:=hsp k hk;simp;exact this) (by decide) hbd hx5,.inl rfl⟩)
   clear hx3 Kn Qf hbd hx5 pH Ze hN ho3 hos;go_wp2_with fail;refine q9 (qI rfl _ _ _) rfl ?_;exact gT.out
theorem zd1 {s:ByteArray} {gN:List UInt8} {ms:List Mk} {i:Nat} (h:pg s i 39=true):
  QY s gN ms i=if pG ms 39 then .error (180,i) else if pY s (i+1) 97 122 then .ok (⟨39,(gZ s (i+1)).toNat,i⟩,i+2) else .error (180,i+1):=by
 unfold QY;rw[zbD h (by decide:(39:Int)≠126),zbD h (by decide:(39:Int)≠58),h,zdp h];have hm:=zfK ms 39;by_cases hk:1<=pO ms 39
 ·rw[qy (by simpa using hk),<-hm,qK hk];rfl
 ·rw[qx (by simpa using hk),<-hm,zh hk];by_cases hb:pY s (i+1) 97 122=true
  ·rw[qy (by rfl),qx (by simpa using hb),qx (by simp),qx (by simp),qy hb]
  ·rw[qy (by rfl),qy (by simpa using hb),qx (by simp),qx hb]
theorem zez {s:ByteArray} {gN:List UInt8} {ms:List Mk} {i:Nat} (h:pg s i 58=true):
  QY s gN ms i=if pG ms 58 then .error (180,i) else if pY s (i+1) 97 122 then(if Lib.indexByte gN (gZ s (i+1))<0 then .error (181,i+1) else .ok (⟨58,(gZ s (i+1)).toNat,i⟩,i+2)) else .error (180,i+1):=by
 unfold QY;rw[zbD h (by decide:(58:Int)≠126),h,zdp h];have hm:=zfK ms 58;by_cases hk:1<=pO ms 58
 ·rw[qy (by simpa using hk),<-hm,qK hk];rfl
 ·rw[qx (by simpa using hk),<-hm,zh hk];by_cases hb:pY s (i+1) 97 122=true
  ·rw[qy (by rfl),qx (by simpa using hb)];by_cases hl:Lib.indexByte gN (gZ s (i+1))<0
   ·rw[qy (by simpa using hl),qx (by simp),qy hb,qy hl]
   ·rw[qx (by simpa using hl),qx (by simp),qy hb,qx hl]
  ·rw[qy (by rfl),qy (by simpa using hb),qx (by simp),qx hb]
theorem ziI {gN:List UInt8} {cls ref:Int} {ms:List Mk} {a:Nat} {vh:Value} {v:Int} {i:Nat} (h0:pG ms 39=false):
  Qs gN cls ref (ms++[⟨39,v,i⟩]) a vh=(Qs gN cls ref ms a vh).setIfInBounds 8 (.int .i32 v):=by
 unfold Qs;rw[zew (by decide:(39:Int)≠58),K5 (c:=58) (by decide:(39:Int)≠58),K5 (c:=47) (by decide:(39:Int)≠47),K5 (c:=94) (by decide:(39:Int)≠94),K5 (c:=64) (by decide:(39:Int)≠64),zjo (c:=39) h0 rfl,zex _ rfl,zbh,zbh];simp
theorem zjt {gN:List UInt8} {cls ref:Int} {ms:List Mk} {a:Nat} {vh:Value} {v:UInt8} {i:Nat} (h0:pG ms 58=false):
  Qs gN cls ref (ms++[⟨58,v.toNat,i⟩]) a vh=(((Qs gN cls ref ms a vh).setIfInBounds 2 (.int .i64 (Lib.indexByte gN v))).setIfInBounds 11 (.bool true)).setIfInBounds 3 (.int .u8 v.toNat):=by
 have e:((v.toNat:Nat):Int).toNat.toUInt8=v:=by simp
 unfold Qs;rw[zlG h0 rfl,zjo (c:=58) h0 rfl,K5 (c:=47) (by decide:(58:Int)≠47),K5 (c:=94) (by decide:(58:Int)≠94),K5 (c:=64) (by decide:(58:Int)≠64),K5 (c:=39) (by decide:(58:Int)≠39),zex _ rfl,zbh,zbh];simp only[e];simp
theorem Xh.let_ {w:World} {B xb:Nat} {gN:List UInt8} {cls ref:Int} {ms:List Mk} {a:Nat} {vh:Value} {w':World} {c v:Int} {i:Nat} {L:List Nat} (h:Xh w B xb gN cls ref ms a vh) (ho:Off L w w') (hL:∀k,vh.ownBlock=some k->k∉L) (hc:c=58∨c=39) (hv:97<=v/\v<=122)
  (hx:w'.heap[xb]?=some (.cells (Qs gN cls ref (ms++[⟨c,v,i⟩]) a vh) 108 (0,0))):Xh w' B xb gN cls ref (ms++[⟨c,v,i⟩]) a vh:=by
 have Ko:c≠126:=by omega
 have hh:pA (ms++[⟨c,v,i⟩])=pA ms:=zjp ms Ko;refine⟨hx,?_,?_,?_,h.hB⟩
 ·rw[hh];exact ho.own h.h hL
 ·intro m hm;rcases qJ.1 hm with hm|hm
  ·exact h.ok m hm
  ·obtain rfl:m=⟨c,v,i⟩:=by simpa using hm
   exact⟨by show c=58∨c=47∨c=94∨c=64∨c=126∨c=39;omega,λ_=>hv,λe1 e2=>by have e3:c≠58:=e1;have e4:c≠39:=e2;omega⟩
 ·unfold pO;rw[jy];have:List.countP (λm=>m.sign==126) [(⟨c,v,i⟩:Mk)]=0:=by simp[Ko]
  rw[this];exact h.four
theorem zh1 {s:ByteArray} {i:Nat} (h:pY s i 97 122=true):97<=((gZ s i).toNat:Int)/\((gZ s i).toNat:Int)<=122:=by
 have hi:=zb7 h;rw[Vp hi] at h;rw[Z3 hi];simp only[qA,qC] at h;exact h
theorem ze4 (B rb fb xb:Nat) (s:ByteArray) (i:Nat) (gN:List UInt8) (cls ref:Int) (ms:List Mk) (a:Nat) (vh:Value) (w:World) (h:Rd w rb fb s i) (hx:Xh w B xb gN cls ref ms a vh) (hs:pg s i 39=true):
  Calls Tryz.prog 186 #[.pointer (some ⟨rb,0,none⟩),.pointer (some ⟨xb,0,none⟩)] w (zca B rb fb xb s gN cls ref ms a vh (QY s gN ms i) w):=by
 rw[zd1 (gN:=gN) (ms:=ms) hs];have hi:=XV hs;obtain⟨hne,hsp⟩:=hx.sep h;have hxl:xb<w.heap.size:=(qg hx.x).1;have xf:w.cell? ⟨xb,8,none⟩=some (.int .i32 (gY ms 39)):=qc _ _ 8 _ _ (0,0) hx.x;have hd:(gY ms 39 !=0)=pG ms 39:=(zlI hx.ok (c:=39)).2;have Z5:=qh (zeg rb fb s i (pG ms 39) w h hi);have Hx:=qh hx;clear h hx hs;cases hany:pG ms 39 with
 |true=>
  rw[hany] at Z5 hd;rw[qy rfl];clear hany;go_enter Tryz.func186,Tryz.ntmps186;go_wp2_with fail;refine Z5.out.mono ?_;rintro e w2 hst;unfold YG zgp at hst;simp only[kt] at hst;obtain⟨rfl,ho⟩:=hst;exact⟨rfl,ho.mono (λk hk=>.inl (by simp at hk|-;exact .inl hk)),rfl⟩
 |false=>
  rw[hany] at Z5 hd;rw[qx (by simp)];have X0:=qh hany;generalize hR:(if pY s (i+1) 97 122 then(.ok (⟨39,(gZ s (i+1)).toNat,i⟩,i+2):Except (Int×Nat) (Mk×Nat)) else .error (180,i+1))=R;have HR:=qh hR;clear hany hR;go_enter Tryz.func186,Tryz.ntmps186;go_wp2_with fail;refine Z5.out.mono ?_;rintro e w2 hst;unfold YG zgp at hst;simp only[kC,yG] at hst;obtain⟨rfl,hrd,ho1⟩:=hst;have hx2:=(ho1.block xb hxl (by simp;omega)).trans Hx.out.x;have zp8:=qh (zdN rb fb s (i+1) w2 hrd);have Ho:=qh ho1;have Zj:=qh hx2;have JW:xb<w2.heap.size:=by have:=ho1.size;omega
  clear hrd ho1 hx2 xf;go_wp2_with fail;refine zp8.out.mono ?_;rintro e w3 ⟨ho3,hres⟩;have hx3:=(ho3.block xb JW (by simp;omega)).trans Zj.out;have Kn:Off [rb,xb] w w3:=(Ho.out.trans ho3).mono (λk hk=>.inl (by simp at hk|-;exact .inl hk));cases hN:pY s (i+1) 97 122 with
  |false=>
   rw[hN,qx (by simp)] at hres;have hR2:R=.error (180,i+1):=(by rw[<-HR.out,hN];rfl);subst hres;refine⟨rfl,Kn.mono (λk hk=>.inl (by simp at hk|-;omega)),?_⟩;rw[hR2];rfl
  |true=>
   rw[hN,qy rfl] at hres;have HR2:Hid (R=.ok (⟨39,(gZ s (i+1)).toNat,i⟩,i+2)):=qh (by rw[<-HR.out,hN];rfl);obtain⟨rfl,Qf⟩:=hres;have hbd:=zh1 hN;generalize gZ s (i+1)=c at*;have hwc:IntKind.i32.wrap (c.toNat:Int)=(c.toNat:Int):=IntWalk.i32_in _ (by omega);have xq:w3.cell? ⟨xb,8,none⟩=some (.int .i32 (gY ms 39)):=qc _ _ 8 _ _ (0,0) hx3;have zq:=qf _ _ 8 _ _ hx3;have hx5:=qs _ xb 8 _ _ (.int .i32 c.toNat) hx3;rw[<-ziI (i:=i) X0.out] at hx5;have hos:Off [xb] w3 (w3.setCell ⟨xb,8,none⟩ (.int .i32 c.toNat)):=Off.setCell w3 xb 8 _;have Ze:Off [rb,xb] w (w3.setCell ⟨xb,8,none⟩ (.int .i32 c.toNat)):=Kn.trans (hos.mono (λk hk=>.inl (by simp at hk|-;exact .inr hk)));have pH:Off (rb::xb::vh.ownBlock.toList) w (w3.setCell ⟨xb,8,none⟩ (.int .i32 c.toNat)):=Ze.mono (λk hk=>.inl (by simp at hk|-;omega));have gT:Hid (zca B rb fb xb s gN cls ref ms a vh R w (.returned (.tuple #[])) (w3.setCell ⟨xb,8,none⟩ (.int .i32 c.toNat))):=qh (by
    rw[HR2.out];exact⟨pH,rfl,Qf.off hos (by simp;exact hne),vh,Hx.out.let_ Ze (λk hk=>by have:=hsp k hk;simp;exact this) (by decide) hbd hx5,.inl rfl⟩)
   clear hx3 Kn Qf hbd hx5 pH Ze hN ho3 hos;go_wp2_with fail;refine q9 (qI rfl _ _ _) rfl ?_;exact gT.out
def Z6 (l:List UInt8):List Value:=l.map λb=>.int .u8 b.toNat
structure YK (w:World) (B fb:Nat) (gN:List UInt8) (vl:Value):Prop where
 c:w.cell? ⟨fb,1,none⟩=some vl
 o:w.ownsRow B 5 1 vl gN.length (Z6 gN)
theorem YK.conv {w:World} {B fb:Nat} {gN:List UInt8} {vl:Value} (h:YK w B fb gN vl):(∃a l c,vl=.slice a l c)/\(convert 25 9 vl).run Tryz.prog w=.ok (.string ⟨gN.toArray⟩) w:=by
 rcases h.o.2 with⟨rfl,h0⟩|⟨g,cap,cur,rfl,_⟩
 ·have:gN=[]:=zF h0;subst this;exact⟨⟨_,_,_,rfl⟩,run_convert_bytes_nil w _ _ qX qV 0 0 _ qN⟩
 ·refine⟨⟨_,_,_,rfl⟩,zz w _ _ _ ⟨g,0,none⟩ cap gN qX qV qN (λj hj=>?_)⟩;have hplain:(⟨g,0,none⟩:Addr).add j=⟨g,j,none⟩:=by unfold Addr.add;split<;>simp_all
  rw[hplain,h.o.cellAt j (by omega)];unfold Z6;simp[hj]
theorem YK.off {w w':World} {B fb:Nat} {gN:List UInt8} {vl:Value} {L:List Nat} (h:YK w B fb gN vl) (ho:Off L w w') (hf:fb<w.heap.size) (hfl:fb∉L) (hvl:∀k,vl.ownBlock=some k->k∉L):YK w' B fb gN vl:=
 ⟨(ho.cell hf hfl).trans h.c,ho.own h.o hvl⟩
theorem zfN (B Bl rb fb xb:Nat) (s:ByteArray) (i:Nat) (gN:List UInt8) (cls ref:Int) (ms:List Mk) (a:Nat) (vh vl:Value) (w:World) (h:Rd w rb fb s i) (hx:Xh w B xb gN cls ref ms a vh) (hs:pg s i 58=true)
  (hl:YK w Bl fb gN vl) (hfs:fb<w.heap.size) (hfr:fb≠rb) (hfx:fb≠xb) (hvl:∀k,vl.ownBlock=some k->k≠rb/\k≠xb):
  Calls Tryz.prog 181 #[.pointer (some ⟨rb,0,none⟩),.pointer (some ⟨xb,0,none⟩)] w (zca B rb fb xb s gN cls ref ms a vh (QY s gN ms i) w):=by
 rw[zez (gN:=gN) (ms:=ms) hs];have hi:=XV hs;obtain⟨hne,hsp⟩:=hx.sep h;have hxl:xb<w.heap.size:=(qg hx.x).1;have xf:w.cell? ⟨xb,11,none⟩=some (.bool (pG ms 58)):=qc _ _ 11 _ _ (0,0) hx.x;have Z5:=qh (zeg rb fb s i (pG ms 58) w h hi);have Hx:=qh hx;have Hl:=qh hl;clear h hx hs hl;cases hany:pG ms 58 with
 |true=>
  rw[hany] at Z5 xf;rw[qy rfl];clear hany;go_enter Tryz.func181,Tryz.ntmps181;go_wp2_with fail;refine Z5.out.mono ?_;rintro e w2 hst;unfold YG zgp at hst;simp only[kt] at hst;obtain⟨rfl,ho⟩:=hst;exact⟨rfl,ho.mono (λk hk=>.inl (by simp at hk|-;exact .inl hk)),rfl⟩
 |false=>
  rw[hany] at Z5 xf;rw[qx (by simp)];have X0:=qh hany;generalize hR:(if pY s (i+1) 97 122 then(if Lib.indexByte gN (gZ s (i+1))<0 then(.error (181,i+1):Except (Int×Nat) (Mk×Nat)) else .ok (⟨58,(gZ s (i+1)).toNat,i⟩,i+2)) else .error (180,i+1))=R;have HR:=qh hR;clear hany hR;go_enter Tryz.func181,Tryz.ntmps181;go_wp2_with fail;refine Z5.out.mono ?_;rintro e w2 hst;unfold YG zgp at hst;simp only[kC,yG] at hst;obtain⟨rfl,hrd,ho1⟩:=hst;have hx2:=(ho1.block xb hxl (by simp;omega)).trans Hx.out.x;have zp8:=qh (zdN rb fb s (i+1) w2 hrd);have Ho:=qh ho1;have Zj:=qh hx2;have JW:xb<w2.heap.size:=by have:=ho1.size;omega
  clear hrd ho1 hx2 xf;go_wp2_with fail;refine zp8.out.mono ?_;rintro e w3 ⟨ho3,hres⟩;have hx3:=(ho3.block xb JW (by simp;omega)).trans Zj.out;have hor:=Ho.out.trans ho3;have Kn:Off [rb,xb] w w3:=hor.mono (λk hk=>.inl (by simp at hk|-;exact .inl hk));cases hN:pY s (i+1) 97 122 with
  |false=>
   rw[hN,qx (by simp)] at hres;have hR2:R=.error (180,i+1):=(by rw[<-HR.out,hN];rfl);subst hres;refine⟨rfl,Kn.mono (λk hk=>.inl (by simp at hk|-;omega)),?_⟩;rw[hR2];rfl
  |true=>
   rw[hN,qy rfl] at hres;have HR1:Hid (R=if Lib.indexByte gN (gZ s (i+1))<0 then .error (181,i+1) else .ok (⟨58,(gZ s (i+1)).toNat,i⟩,i+2)):=qh (by rw[<-HR.out,hN];rfl);obtain⟨rfl,Qf⟩:=hres;have hbd:=zh1 hN;generalize gZ s (i+1)=c at*;obtain⟨r0,r1,r2,r3⟩:=Qf.cells;have hl3:=Hl.out.off hor hfs (by simp;exact hfr) (λk hk=>by have:=hvl k hk;simp;exact this.1);obtain⟨⟨la,ll,lc,zqq⟩,hcv⟩:=hl3.conv;subst zqq;have hlc:=hl3.c;have hix:=qh (Tryz.strings_IndexByte ⟨gN.toArray⟩ c.toNat w3);have x2:w3.cell? ⟨xb,2,none⟩=some (.int .i64 (ZL gN ms)):=qc _ _ 2 _ _ (0,0) hx3;have z2:=qf _ _ 2 _ _ hx3;have hx4:=qs _ xb 2 _ _ (.int .i64 (Lib.indexByte gN c)) hx3;have y2:(w3.setCell ⟨xb,2,none⟩ (.int .i64 (Lib.indexByte gN c))).cell? ⟨xb,2,none⟩=some (.int .i64 (Lib.indexByte gN c)):=qc _ _ 2 _ _ (0,0) hx4;have YD:(w3.setCell ⟨xb,2,none⟩ (.int .i64 (Lib.indexByte gN c))).cell? ⟨xb,11,none⟩=some (.bool (pG ms 58)):=qc _ _ 11 _ _ (0,0) hx4;have z11:=qf _ _ 11 _ _ hx4;have e1:((c.toNat:Int)).toNat.toUInt8=c:=(by simp);rw[e1] at hix;have Hos:Hid (Off [xb] w3 (w3.setCell ⟨xb,2,none⟩ (.int .i64 (Lib.indexByte gN c)))):=qh (Off.setCell w3 xb 2 _);have Xs:=qh Qf;have Hoo:=qh Kn;have Hx4:=qh hx4;have X1:=qh hbd;clear hx3 Kn Qf hbd hx4 hN ho3 hor hl3;go_wp2_with fail;refine hix.out.mono ?_;rintro e w4 ⟨rfl,rfl⟩;generalize hn':Lib.indexByte gN c=n at*;have Hn':=qh hn';clear hn' hix;by_cases hn:n<0
   ·have hdn:decide (n<0)=true:=qt hn;have HR2:Hid (R=.error (181,i+1)):=qh (by rw[HR1.out,qy hn]);have hf:=qh (gX 181 (i+1) (w4.setCell ⟨xb,2,none⟩ (.int .i64 n)));clear hn;go_wp2_with fail;refine hf.out.mono ?_;rintro e w5 ⟨rfl,hb5⟩;refine⟨rfl,((Hoo.out.trans (Hos.out.mono (λk hk=>.inl (by simp at hk|-;exact .inr hk)))).trans (Off.of_below hb5 (ql _) _)).mono (λk hk=>.inl (by simp at hk|-;omega)),?_⟩;rw[HR2.out];rfl
   ·have hdn:decide (n<0)=false:=qd hn;have HR2:Hid (R=.ok (⟨58,c.toNat,i⟩,i+2)):=qh (by rw[HR1.out,qx hn]);have hx5:=qs _ xb 11 _ _ (.bool true) Hx4.out;have y3:((w4.setCell ⟨xb,2,none⟩ (.int .i64 n)).setCell ⟨xb,11,none⟩ (.bool true)).cell? ⟨xb,3,none⟩=some (.int .u8 (gY ms 58)):=qc _ _ 3 _ _ (0,0) hx5;have z3:=qf _ _ 3 _ _ hx5;have hx6:=qs _ xb 3 _ _ (.int .u8 c.toNat) hx5;have hit:=zjt (gN:=gN) (cls:=cls) (ref:=ref) (a:=a) (vh:=vh) (v:=c) (i:=i) X0.out;rw[Hn'.out] at hit;rw[<-hit] at hx6;have VK:Off [xb] w4 (((w4.setCell ⟨xb,2,none⟩ (.int .i64 n)).setCell ⟨xb,11,none⟩ (.bool true)).setCell ⟨xb,3,none⟩ (.int .u8 c.toNat)):=(Hos.out.trans (Off.setCell _ xb 11 _)).trans (Off.setCell _ xb 3 _);have Ze:Off [rb,xb] w (((w4.setCell ⟨xb,2,none⟩ (.int .i64 n)).setCell ⟨xb,11,none⟩ (.bool true)).setCell ⟨xb,3,none⟩ (.int .u8 c.toNat)):=Hoo.out.trans (VK.mono (λk hk=>.inl (by simp at hk|-;exact .inr hk)));have pH:Off (rb::xb::vh.ownBlock.toList) w (((w4.setCell ⟨xb,2,none⟩ (.int .i64 n)).setCell ⟨xb,11,none⟩ (.bool true)).setCell ⟨xb,3,none⟩ (.int .u8 c.toNat)):=Ze.mono (λk hk=>.inl (by simp at hk|-;omega));have gT:Hid (zca B rb fb xb s gN cls ref ms a vh R w (.returned (.tuple #[])) (((w4.setCell ⟨xb,2,none⟩ (.int .i64 n)).setCell ⟨xb,11,none⟩ (.bool true)).setCell ⟨xb,3,none⟩ (.int .u8 c.toNat))):=qh (by
     rw[HR2.out];exact⟨pH,rfl,Xs.out.off VK (by simp;exact hne),vh,Hx.out.let_ Ze (λk hk=>by have:=hsp k hk;simp;exact this) (by decide) X1.out hx6,.inl rfl⟩)
    clear hn hx5 hx6 hit VK Ze pH;go_wp2_with fail;refine q9 (qI rfl _ _ _) rfl ?_;exact gT.out
end Go.Proofs.YtgklikkddckgbaaGreatDoor.Mo
namespace Go.Proofs.YtgklikkddckgbaaGreatDoor
open Go.RowKit
def yK:Value:=.slice none 0 0
def Zn:List Ft->List Value->List Value
 |f::fs,v::vs=>.string f.own::v::Zn fs vs
 |_,_=>[]
def JC (l:List (Int×Int)):List Value:=l.flatMap λv=>[.int .i64 v.1,.int .i64 v.2]
theorem zcr:∀(fs:List Ft) (vs:List Value) (k:Nat),vs.length=fs.length->k<fs.length->
  (Zn fs vs)[k*2]?=some (.string (fs.getD k default).own)/\(Zn fs vs)[k*2+1]?=some (vs.getD k yK)
 |[],_,k,_,h=>by simp at h
 |f::fs,[],k,h,_=>by simp at h
 |f::fs,v::vs,0,_,_=>by simp[Zn]
 |f::fs,v::vs,k+1,h,hk=>by
  have ih:=zcr fs vs k (by simpa using h) (by simpa using hk);have e1:(k+1)*2=k*2+1+1:=by omega
  rw[e1];simpa [Zn] using ih
theorem zc9:∀(fs:List Ft) (vs:List Value) (k:Nat) (v:Value) (g:Ft),vs.length=fs.length->k<fs.length->g.own=(fs.getD k default).own->
  Zn (fs.set k g) (vs.set k v)=(Zn fs vs).set (k*2+1) v
 |[],_,k,_,_,_,h,_=>by simp at h
 |f::fs,[],k,_,_,h,_,_=>by simp at h
 |f::fs,u::vs,0,v,g,_,_,hg=>by simp at hg;simp[Zn,hg]
 |f::fs,u::vs,k+1,v,g,h,hk,hg=>by
  have ih:=zc9 fs vs k v g (by simpa using h) (by simpa using hk) (by simpa using hg);have e1:(k+1)*2+1=k*2+1+1+1:=by omega
  rw[e1];simp[Zn,ih]
theorem zcJ:∀(fs:List Ft) (vs:List Value) (f:Ft) (v:Value),vs.length=fs.length->Zn (fs++[f]) (vs++[v])=Zn fs vs++[.string f.own,v]
 |[],[],f,v,_=>rfl
 |g::fs,u::vs,f,v,h=>by simp[Zn,zcJ fs vs f v (by simpa using h)]
 |[],u::vs,f,v,h=>by simp at h
 |g::fs,[],f,v,h=>by simp at h
theorem zd2:∀(l:List Way) (k:Nat),k<l.length->(Qu l)[k*2]?=some (.string (l.getD k default).1)/\(Qu l)[k*2+1]?=some (.int .i64 (l.getD k default).2)
 |[],k,h=>by simp at h
 |x::l,0,_=>by simp[Qu]
 |x::l,k+1,hk=>by
  have ih:=zd2 l k (by simpa using hk);have e1:(k+1)*2=k*2+1+1:=by omega
  rw[e1];simpa [Qu] using ih
theorem zbH (l:List Way) (x:Way):Qu (l++[x])=Qu l++[.string x.1,.int .i64 x.2]:=by simp[Qu]
theorem zdr (l:List (Int×Int)) (x:Int×Int):JC (l++[x])=JC l++[.int .i64 x.1,.int .i64 x.2]:=by simp[JC]
theorem zd3:∀(l:List (Int×Int)) (k:Nat),k<l.length->(JC l)[k*2]?=some (.int .i64 (l.getD k default).1)/\(JC l)[k*2+1]?=some (.int .i64 (l.getD k default).2)
 |[],k,h=>by simp at h
 |x::l,0,_=>by simp[JC]
 |x::l,k+1,hk=>by
  have ih:=zd3 l k (by simpa using hk);have e1:(k+1)*2=k*2+1+1:=by omega
  rw[e1];simpa [JC] using ih
theorem zds {w:World} {base:Nat} {v:Value} {l:List Way} (h:w.ownsRow base 83 2 v l.length (Qu l)):∃A c,v=.slice A l.length c/\l.length<=c/\pn w w.heap.size A l:=by
 rcases h.2 with⟨rfl,h0⟩|⟨g,cap,cur,rfl,_,hg,hcap,_⟩
 ·rw[h0];exact⟨none,0,rfl,ql _,λhl=>by omega⟩
 ·refine⟨_,cap,rfl,hcap,λhl=>⟨g,0,rfl,(qg hg).1,λk hk=>?_⟩⟩;rw[kY,h.cellAt (k*2) (by omega),h.cellAt (k*2+1) (by omega)];exact zd2 l k hk
def Apart (vs:List Value):Prop:=∀i j k,i<vs.length->j<vs.length->i≠j->(vs.getD i yK).ownBlock=some k->(vs.getD j yK).ownBlock≠some k
structure RS (w:World) (base b:Nat) (s:ByteArray) (a:Nat) (t:ByteArray) (m:Met) (ah:Int) (vf ve vb:Value) (vs:List Value):Prop where
 rb:RB w b s a t vf ve vb ah
 hb:base<=b
 vl:vs.length=m.gO.length
 gO:w.ownsRow base 81 2 vf m.gO.length (Zn m.gO vs)
 gR:∀k,k<m.gO.length->w.ownsRow base 83 2 (vs.getD k yK) (m.gO.getD k default).gR.length (Qu (m.gO.getD k default).gR)
 ends:w.ownsRow base 83 2 ve m.ends.length (Qu m.ends)
 gS:w.ownsRow base 85 2 vb m.gS.length (JC m.gS)
 apart:Apart (ve::vs)
theorem Zu {w:World} {B B' e e' z z' n n':Nat} {v v':Value} {x x':List Value} (h:w.ownsRow B e z v n x) (h':w.ownsRow B' e' z' v' n' x') (hne:e≠e'):v.ownBlock=none∨v.ownBlock≠v'.ownBlock:=by
 cases hv:v.ownBlock with
 |none=>exact .inl rfl
 |some k=>
  right;intro hk;obtain⟨c,fz,h1⟩:=xi h k hv;obtain⟨c',fz',h2⟩:=xi h' k hk.symm;rw[h1] at h2;simp at h2;exact hne h2.2.1
theorem pI {w:World} {B e z n b:Nat} {v:Value} {x:List Value} {cs:Array Value} {e':Nat} {fz:Nat×Nat} (h:w.ownsRow B e z v n x) (hb:w.heap[b]?=some (.cells cs e' fz)) (hne:e≠e'):v.ownBlock=none∨v.ownBlock≠some b:=by
 cases hv:v.ownBlock with
 |none=>exact .inl rfl
 |some k=>
  right;intro hk;cases hk;obtain⟨c,fz',h1⟩:=xi h b hv;rw[hb] at h1;simp at h1;exact hne h1.2.1.symm
variable {w w':World} {base b a ah':Nat} {s t:ByteArray} {m:Met} {ah:Int} {vf ve vb:Value} {vs:List Value}
theorem RS.bl (h:RS w base b s a t m ah vf ve vb vs):b<w.heap.size:=(qg h.rb).1
theorem RS.only (h:RS w base b s a t m ah vf ve vb vs) {row:Option Nat} (hg:w.grownBy w' row) (h0:row≠some b) (h1:vf.ownBlock=none∨vf.ownBlock≠row) (h2:ve.ownBlock=none∨ve.ownBlock≠row) (h3:vb.ownBlock=none∨vb.ownBlock≠row)
  (h4:∀k,k<m.gO.length->(vs.getD k yK).ownBlock=none∨(vs.getD k yK).ownBlock≠row):RS w' base b s a t m ah vf ve vb vs:=
 ⟨(hg.block b h.bl (λe=>h0 e.symm)).trans h.rb,h.hb,h.vl,h.gO.kept hg h1,λk hk=>(h.gR k hk).kept hg (h4 k hk),h.ends.kept hg h2,h.gS.kept hg h3,h.apart⟩
theorem ZH {o:Option Nat}:o=none∨o≠none:=by cases o<;>simp
theorem RS.below (h:RS w base b s a t m ah vf ve vb vs) (hb:Below w.heap.size w w'):RS w' base b s a t m ah vf ve vb vs:=
 h.only (Zq hb none) (by simp) ZH ZH ZH (λ_ _=>ZH)
theorem RS.move (h:RS w base b s a t m ah vf ve vb vs) (hg:w.grownBy w' (some b)) {a2:Nat} {t2:ByteArray} {ah2:Int} (hr:RB w' b s a2 t2 vf ve vb ah2):RS w' base b s a2 t2 m ah2 vf ve vb vs:=
 ⟨hr,h.hb,h.vl,h.gO.kept hg (pI h.gO h.rb (by decide)),λk hk=>(h.gR k hk).kept hg (pI (h.gR k hk) h.rb (by decide)),h.ends.kept hg (pI h.ends h.rb (by decide)),h.gS.kept hg (pI h.gS h.rb (by decide)),h.apart⟩
theorem Apart.set {v:Value} {vs:List Value} (h:Apart vs) {j:Nat} (hj:j<vs.length) {N:Nat} (hN:∀k b,k<vs.length->(vs.getD k yK).ownBlock=some b->b<N)
  (hv:v.ownBlock=(vs.getD j yK).ownBlock∨v.ownBlock=some N):Apart (vs.set j v):=by
 have hget:∀i,i<vs.length->(vs.set j v).getD i yK=if j=i then v else vs.getD i yK:=λi hi=>by
  simp only[qj,List.getElem?_set,hi];split<;>simp[*]
 intro i k b hi hk hne h1 h2;simp only[ju] at hi hk;rw[hget i hi] at h1;rw[hget k hk] at h2;by_cases e1:j=i
 ·subst e1;rw[qy rfl] at h1;rw[qx hne] at h2;rcases hv with hv|hv
  ·exact h j k b hi hk hne (hv▸h1) h2
  ·have:=hN k b hk h2;rw[hv] at h1;cases h1;omega
 ·rw[qx e1] at h1;by_cases e2:j=k
  ·subst e2;rw[qy rfl] at h2;rcases hv with hv|hv
   ·exact h i j b hi hk hne h1 (hv▸h2)
   ·have:=hN i b hi h1;rw[hv] at h2;cases h2;omega
  ·rw[qx e2] at h2;exact h i k b hi hk hne h1 h2
theorem Apart.snoc {v:Value} {vs:List Value} (h:Apart vs) (hv:v.ownBlock=none):Apart (vs++[v]):=by
 intro i k b hi hk hne h1 h2;simp only[qv,qB,qG] at hi hk;have hget:∀i,i<vs.length->(vs++[v]).getD i yK=vs.getD i yK:=λi hi=>by simp[qj,qQ hi]
 have hlast:(vs++[v]).getD vs.length yK=v:=by simp[qj]
 by_cases e1:i<vs.length
 ·by_cases e2:k<vs.length
  ·rw[hget i e1] at h1;rw[hget k e2] at h2;exact h i k b e1 e2 hne h1 h2
  ·obtain rfl:k=vs.length:=by omega
   rw[hlast,hv] at h2;cases h2
 ·obtain rfl:i=vs.length:=by omega
  rw[hlast,hv] at h1;cases h1
theorem za7 (v:Value) (vs:List Value) (k:Nat):(v::vs).getD (k+1) yK=vs.getD k yK:=by simp[qj]
theorem RS.blocks (h:RS w base b s a t m ah vf ve vb vs):∀k b,k<(ve::vs).length->((ve::vs).getD k yK).ownBlock=some b->b<w.heap.size:=by
 intro k b hk hb;match k,hk,hb with
 |0,_,hb=>exact(h.ends.lt b (by simpa using hb)).2
 |k+1,hk,hb=>
  rw[za7] at hb;exact((h.gR k (by have:=h.vl;simp at hk;omega)).lt b hb).2
theorem zbX {α:Type} (l:List α) (j k:Nat) (x d:α) (hk:k<l.length):(l.set j x).getD k d=if j=k then x else l.getD k d:=by
 simp only[qj,List.getElem?_set,hk];split<;>simp[*]
variable {w w1:World} {base b a:Nat} {s t:ByteArray} {m:Met} {ah:Int} {vf ve vb:Value} {vs:List Value}
def Met.QE (m:Met) (j:Nat) (f:Ft):Met:={m with gO:=m.gO.set j f}
theorem RS.way (h:RS w base b s a t m ah vf ve vb vs) {j g cap:Nat} (hj:j<m.gO.length) (KE:vf=.slice (some ⟨g,0,none⟩) m.gO.length cap) (x:Way) {v':Value}
  (ho:w1.ownsRow base 83 2 v' ((m.gO.getD j default).gR.length+1) (Qu (m.gO.getD j default).gR++[.string x.1,.int .i64 x.2])) (hg:w.grownBy w1 (vs.getD j yK).ownBlock)
  (hat:v'.ownBlock=(vs.getD j yK).ownBlock∨∃N,v'.ownBlock=some N/\w.heap.size<=N):
  RS (w1.setCell ⟨g,j*2+1,none⟩ v') base b s a t (m.QE j ⟨(m.gO.getD j default).own,(m.gO.getD j default).gR++[x]⟩) ah vf ve vb (vs.set j v'):=by
 have hvl:=h.vl;have hjs:j+1<(ve::vs).length:=by simp;omega
 have JX:∀k,k<(ve::vs).length->k≠j+1->((ve::vs).getD k yK).ownBlock=none∨((ve::vs).getD k yK).ownBlock≠(vs.getD j yK).ownBlock:=λk hk hne=>by
  cases hv:((ve::vs).getD k yK).ownBlock with
  |none=>exact .inl rfl
  |some q=>
   right;intro e;exact h.apart k (j+1) q hk hjs hne hv (by rw[za7];exact e.symm)
 have zsa:(vs.getD j yK).ownBlock≠some b:=by
  rcases pI (h.gR j hj) h.rb (by decide) with e|e
  ·rw[e];simp
  ·exact e
 have f1:=h.gO.kept hg (Zu h.gO (h.gR j hj) (by decide));have e1:w1.ownsRow base 83 2 ve m.ends.length (Qu m.ends):=h.ends.kept hg (by simpa using JX 0 (by simp) (by omega));have k1:=h.gS.kept hg (Zu h.gS (h.gR j hj) (by decide));have r1:RB w1 b s a t vf ve vb ah:=(hg.block b h.bl (λe=>zsa e.symm)).trans h.rb;have o1:∀k,k<m.gO.length->k≠j->w1.ownsRow base 83 2 (vs.getD k yK) (m.gO.getD k default).gR.length (Qu (m.gO.getD k default).gR):=λk hk hne=>
  (h.gR k hk).kept hg (by have:=JX (k+1) (by simp;omega) (by omega);rwa [za7] at this)
 obtain⟨f2,g2⟩:=(KE▸f1).stored (j*2+1) v';have hgf:vf.ownBlock=some g:=by rw[KE];rfl
 have gne:∀{B e z n:Nat} {v:Value} {x:List Value},w1.ownsRow B e z v n x->e≠81->v.ownBlock=none∨v.ownBlock≠some g:=λhh hne=>by
  have:=Zu hh f1 hne;rwa [hgf] at this
 have hbg:b≠g:=by
  rintro rfl;rcases pI f1 r1 (by decide) with e|e
  ·rw[hgf] at e;cases e
  ·exact e hgf
 refine⟨?_,h.hb,by simp[Met.QE,hvl],?_,?_,e1.kept g2 (gne e1 (by decide)),k1.kept g2 (gne k1 (by decide)),?_⟩
 ·exact(g2.block b (qg r1).1 (by simpa using hbg)).trans r1
 ·have:(m.QE j ⟨(m.gO.getD j default).own,(m.gO.getD j default).gR++[x]⟩).gO.length=m.gO.length:=by simp[Met.QE]
  rw[this,KE];have hfs:=zc9 m.gO vs j v' ⟨(m.gO.getD j default).own,(m.gO.getD j default).gR++[x]⟩ hvl hj rfl;show World.ownsRow _ base 81 2 _ _ (Zn (m.gO.set j ⟨(m.gO.getD j default).own,(m.gO.getD j default).gR++[x]⟩) (vs.set j v'));rw[hfs];exact f2
 ·intro k hk;have hk':k<m.gO.length:=by simpa [Met.QE] using hk
  unfold Met.QE;simp only[];rw[zbX vs j k v' yK (by omega),zbX m.gO j k _ default hk'];by_cases e:j=k
  ·subst e;rw[qy rfl,qy rfl];simp only[qv,qB,qG,zbH];exact ho.kept g2 (gne ho (by decide))
  ·rw[qx e,qx e];exact(o1 k hk' (λe'=>e e'.symm)).kept g2 (gne (o1 k hk' (λe'=>e e'.symm)) (by decide))
 ·have hA:Apart ((ve::vs).set (j+1) v'):=by
   rcases hat with hat|⟨N,hN,hle⟩
   ·exact h.apart.set hjs (N:=w.heap.size) h.blocks (.inl (by rw[za7];exact hat))
   ·exact h.apart.set hjs (N:=N) (λk q hk hq=>qD (h.blocks k q hk hq) hle) (.inr hN)
  simpa using hA
theorem zgt (fs:List Ft) (i:Nat) (sg:ByteArray) (c:Int) (all:Bool):yY fs i 0 sg c all=fs:=by simp[yY]
theorem za5 (fs:List Ft) (i n:Nat) (sg:ByteArray) (c:Int) (all:Bool) (h:i+n<=fs.length):(yY fs i n sg c all).length=fs.length:=by
 simp[yY];omega
theorem zei (fs:List Ft) (i n k:Nat) (sg:ByteArray) (c:Int) (all:Bool) (h:i+n<=fs.length) (hk:k<fs.length):
  (yY fs i n sg c all).getD k default=if i<=k/\k<i+n then uk sg c all (fs.getD k default) else fs.getD k default:=by
 have e1:(fs.take i).length=i:=by simp;omega
 have e2:(((fs.drop i).take n).map (uk sg c all)).length=n:=by simp;omega
 unfold yY;simp only[qj];by_cases h1:k<i
 ·rw[qP,qQ (by omega),qx (by omega),kX,qy h1]
 ·by_cases h2:k<i+n
  ·rw[qQ (by simp;omega),zD (by omega),e1,qy ⟨by omega,h2⟩,List.getElem?_map,kX,qy (by omega),kD,show i+(k-i)=k by omega,qz hk];rfl
  ·rw[zD (by simp;omega),qx (by omega),kD];congr 2
   simp;omega
theorem zfO {α:Type} (d:α) {l l':List α} (hl:l.length=l'.length) (h:∀k,k<l.length->l.getD k d=l'.getD k d):l=l':=by
 apply List.ext_getElem hl;intro k h1 h2;have:=h k h1;simpa [qj,qz,h1,h2] using this
theorem zdt (fs:List Ft) (i n:Nat) (sg:ByteArray) (c:Int) (all:Bool) (h:i+n<fs.length):
  yY fs i (n+1) sg c all=(yY fs i n sg c all).set (i+n) (uk sg c all (fs.getD (i+n) default)):=by
 refine zfO default (by rw[ju,za5 _ _ _ _ _ _ (by omega),za5 _ _ _ _ _ _ (by omega)]) λk hk=>?_;rw[za5 _ _ _ _ _ _ (by omega)] at hk;rw[zei _ _ _ _ _ _ _ (by omega) hk,zbX _ _ _ _ _ (by rw[za5 _ _ _ _ _ _ (by omega)];exact hk),zei _ _ _ _ _ _ _ (by omega) hk];by_cases e:i+n=k
 ·subst e;rw[qy (by omega),qy rfl]
 ·rw[qx e];by_cases h1:i<=k/\k<i+n
  ·rw[qy h1,qy (by omega)]
  ·rw[qx h1,qx (by omega)]
theorem zcb (fs:List Ft) (i n:Nat) (sg:ByteArray) (c:Int) (all:Bool) (h:i+n<fs.length):(yY fs i n sg c all).getD (i+n) default=fs.getD (i+n) default:=by
 rw[zei _ _ _ _ _ _ _ (by omega) h,qx (by omega)]
theorem zc4 {w0 w':World} {o:Obj} {row:Option Nat} (h:(w0.alloc o).grownBy w' row):w0.grownBy w' row:=
 ⟨h.os,h.tape,h.output,qm (by simp) h.size,λk hk hne=>(h.block k (by simp;omega) hne).trans (qa w0 o k hk)⟩
theorem VL {P:Program} {ops:Array Oper} {rest:List Oper} {o:Oper} {a:Act} {Q:Exit->Act->World->Prop} (w0:World) (hgd:o.guard=none) (s x:Operand) (t:TypeId)
  (ho:o.op=.call {callee:=.builtin .append,args:=#[s,x],argTypes:=#[t,t]})
  (base:Nat) (e:TypeId) (i:TypeInfo) (z:Value) (size bytes:Nat) (ht:P.underlying t=some (.slice e)) (hi:P.info? e=some i) (hz:i.zero=some z)
  (hsize:i.size=size) (hby:i.bytes=bytes) (hzs:z.cells.size=size) (hsz:0<size)
  (v:Value) (n:Nat) (xs:List Value) (nw:Array Value) (g:Nat) (hs:a.eval s=v) (hx:a.eval x=.slice (some ⟨g,0,none⟩) 1 1) (hg:g=w0.heap.size) (hown:w0.ownsRow base e size v n xs)
  (hl:nw.size=size) (h1:∀u∈nw.toList,u.oneCell'=true)
  (h63:n+1<=maxLen) (hbytes:(n+1)*bytes<=140737488355328) (hbase:base<=w0.heap.size)
  (h:∀v' w',w'.ownsRow base e size v' (n+1) (xs++nw.toList)->w0.grownBy w' v.ownBlock->(v'.ownBlock=v.ownBlock∨∃b,v'.ownBlock=some b/\w0.heap.size<=b)->wpList P ops Q rest (a.put o.dst v') w'):wpList P ops Q (o::rest) a (w0.alloc (.cells nw e)):=by
 subst hg;refine wpList_append_own_at (w0.alloc (.cells nw e)) hgd s x t ho base e i z size bytes ht hi hz hsize hby hzs hsz v n xs hs (hown.alloc _) ⟨w0.heap.size,0,none⟩ 1 1 nw.toList hx (by simp[hl]) ?_ h1 h63 hbytes (by simp;omega) ?_
 ·intro j u hu;have e1:(⟨w0.heap.size,0,none⟩:Addr).add j=⟨w0.heap.size,j,none⟩:=by
   unfold Addr.add;by_cases hj:j=0
   ·simp[hj]
   ·simp[hj]
  rw[e1,jM (w0.alloc (.cells nw e)) w0.heap.size j nw e (0,0) (heap_alloc_new w0 _)];simpa using hu
 ·intro v' w' h2 h3 _ h5;refine h v' w' h2 (zc4 h3) ?_;rcases h5 with h5|h5
  ·exact .inl h5
  ·exact .inr ⟨_,h5,by simp⟩
theorem zeA:Tryz.prog.info? 83=some Tryz.t83:=by kernel_rfl
theorem zeB:Tryz.t83.zero=some (.agg #[.string ⟨#[]⟩,.int .i64 0]):=by kernel_rfl
theorem zeC:Tryz.t83.size=2:=by kernel_rfl
theorem zdu:Tryz.t83.bytes=24:=by kernel_rfl
theorem zh2:Tryz.prog.info? 81=some Tryz.t81:=by kernel_rfl
theorem zh3:Tryz.t81.zero=some (.agg #[.string ⟨#[]⟩,.slice none 0 0]):=by kernel_rfl
theorem zh4:Tryz.t81.size=2:=by kernel_rfl
theorem zfP:Tryz.t81.bytes=40:=by kernel_rfl
theorem zju:Tryz.prog.info? 85=some Tryz.t85:=by kernel_rfl
theorem zjv:Tryz.t85.zero=some (.agg #[.int .i64 0,.int .i64 0]):=by kernel_rfl
theorem zjw:Tryz.t85.size=2:=by kernel_rfl
theorem zhl:Tryz.t85.bytes=16:=by kernel_rfl
structure QP (w:World) (base b:Nat) (s:ByteArray) (a:Nat) (t:ByteArray) (m:Met) (ah:Int) (vf ve vb:Value) (i:Nat) (sg:ByteArray) (cost:Int) (all:Bool) (k:Nat) (vs:List Value) (wr:World):Prop where
 rs:RS wr base b s a t {m with gO:=yY m.gO i k sg cost all} ah vf ve vb vs
 box:wr.heap[w.heap.size]?=some (.cells #[.string sg,.int .i64 cost] 83 (0,0))
 off:∀j,j<vs.length->(vs.getD j yK).ownBlock≠some w.heap.size
 below:Below base w wr
theorem QP.start {w:World} {base b a:Nat} {s t:ByteArray} {m:Met} {ah:Int} {vf ve vb:Value} {vs:List Value} (h:RS w base b s a t m ah vf ve vb vs) (i:Nat) (sg:ByteArray) (cost:Int) (all:Bool):
  QP w base b s a t m ah vf ve vb i sg cost all 0 vs (w.alloc (.cells #[.string sg,.int .i64 cost] 83)):=by
 have hb:Below w.heap.size w (w.alloc (.cells #[.string sg,.int .i64 cost] 83)):=(qb _ w).alloc (ql _) _;refine⟨?_,qn w _,λj hj e=>?_,hb.mono (by have:=h.bl;have:=h.hb;omega)⟩
 ·rw[zgt];exact h.below hb
 ·have:=h.blocks (j+1) _ (by simp;omega) (by rw[za7];exact e);omega
theorem QP.skip {w wr wr':World} {base b a:Nat} {s t:ByteArray} {m:Met} {ah:Int} {vf ve vb:Value} {vs:List Value} {i k:Nat} {sg:ByteArray} {cost:Int} {all:Bool} (h:QP w base b s a t m ah vf ve vb i sg cost all k vs wr) (hik:i+k<m.gO.length)
  (hf:uk sg cost all (m.gO.getD (i+k) default)=m.gO.getD (i+k) default) (hb:Below wr.heap.size wr wr'):QP w base b s a t m ah vf ve vb i sg cost all (k+1) vs wr':=by
 have hbs:base<=wr.heap.size:=by have:=h.rs.bl;have:=h.rs.hb;omega
 have hlt:w.heap.size<wr.heap.size:=(qg h.box).1;refine⟨?_,(hb.block _ hlt).trans h.box,h.off,h.below.trans (hb.mono hbs)⟩;rw[zdt _ _ _ _ _ _ hik,hf];have e:(yY m.gO i k sg cost all).set (i+k) (m.gO.getD (i+k) default)=yY m.gO i k sg cost all:=by
  refine zfO default (by simp) λq hq=>?_;rw[ju] at hq;rw[zbX _ _ _ _ _ hq];by_cases e:i+k=q
  ·subst e;rw[qy rfl,zcb _ _ _ _ _ _ hik]
  ·rw[qx e]
 rw[e];exact h.rs.below hb
theorem QP.step {w wr w0 w1:World} {base b a:Nat} {s t:ByteArray} {m:Met} {ah:Int} {vf ve vb:Value} {vs:List Value} {i k g cap:Nat} {sg:ByteArray} {cost:Int} {all:Bool} (h:QP w base b s a t m ah vf ve vb i sg cost all k vs wr) (hik:i+k<m.gO.length)
  (KE:vf=.slice (some ⟨g,0,none⟩) m.gO.length cap) (hf:uk sg cost all (m.gO.getD (i+k) default)=⟨(m.gO.getD (i+k) default).own,(m.gO.getD (i+k) default).gR++[(sg,cost)]⟩) (hb:Below wr.heap.size wr w0) {v':Value}
  (ho:w1.ownsRow base 83 2 v' ((m.gO.getD (i+k) default).gR.length+1) (Qu (m.gO.getD (i+k) default).gR++[.string sg,.int .i64 cost])) (hg:w0.grownBy w1 (vs.getD (i+k) yK).ownBlock)
  (hat:v'.ownBlock=(vs.getD (i+k) yK).ownBlock∨∃N,v'.ownBlock=some N/\w0.heap.size<=N) (hgw:g<w.heap.size):
  QP w base b s a t m ah vf ve vb i sg cost all (k+1) (vs.set (i+k) v') (w1.setCell ⟨g,(i+k)*2+1,none⟩ v'):=by
 have hbs:base<=wr.heap.size:=by have:=h.rs.bl;have:=h.rs.hb;omega
 have hlt:w.heap.size<wr.heap.size:=(qg h.box).1;have h0:=h.rs.below hb;have hlen:(yY m.gO i k sg cost all).length=m.gO.length:=za5 _ _ _ _ _ _ (by omega);have hvl:vs.length=m.gO.length:=by rw[h.rs.vl,hlen]
 have hh:=zcb m.gO i k sg cost all hik;have hr:=h0.way (j:=i+k) (by simpa [hlen] using hik) (by simpa [hlen] using KE) (sg,cost) (by simp only[hh];exact ho) hg hat;simp only[hh] at hr;unfold Met.QE at hr;simp only[] at hr;have hbase:∀q,(vs.getD (i+k) yK).ownBlock=some q->base<=q:=λq hq=>((h0.gR (i+k) (by simpa [hlen] using hik)).lt q hq).1;have hgb:base<=g:=(h0.gO.lt g (by rw[KE];rfl)).1;have hbx0:w0.heap[w.heap.size]?=some (.cells #[.string sg,.int .i64 cost] 83 (0,0)):=(hb.block _ hlt).trans h.box;have hbx1:w1.heap[w.heap.size]?=some (.cells #[.string sg,.int .i64 cost] 83 (0,0)):=(hg.block _ (qD hlt hb.size) (λe=>h.off (i+k) (by omega) e.symm)).trans hbx0;refine⟨?_,(qT _ _ _ _ (by show w.heap.size≠g;omega)).trans hbx1,?_,?_⟩
 ·rw[zdt _ _ _ _ _ _ hik,hf];exact hr
 ·intro j hj e;rw[ju] at hj;rw[zbX _ _ _ _ _ hj] at e;by_cases e2:i+k=j
  ·rw[qy e2] at e;rcases hat with hat|⟨N,hN,hle⟩
   ·exact h.off (i+k) (by omega) (hat▸e)
   ·rw[hN] at e;cases e;have:=hb.size;omega
  ·rw[qx e2] at e;exact h.off j hj e
 ·refine Below.setCell ?_ (by show base<=g;exact hgb) _;refine(h.below.trans (hb.mono hbs)).grown hg (by have:=hb.size;omega) ?_;intro q hq;exact hbase q hq
end Go.Proofs.YtgklikkddckgbaaGreatDoor
namespace Go.Proofs.YtgklikkddckgbaaGreatDoor
open Go.RowKit
theorem Zv {w:World} {base:Nat} {e:TypeId} {size:Nat} {v:Value} {n:Nat} {xs:List Value} (h:w.ownsRow base e size v n xs) (hn:0<n):
  ∃g cap,v=.slice (some ⟨g,0,none⟩) n cap:=by
 rcases h.2 with⟨_,h0⟩|⟨g,cap,_,rfl,_⟩
 ·omega
 ·exact⟨g,cap,rfl⟩
theorem zkJ {sg:ByteArray} {c:Int} {all:Bool} {f:Ft} (h:(!all||!(ph f.own sg))=true):uk sg c all f=⟨f.own,f.gR++[(sg,c)]⟩:=by
 unfold uk;rw[qy h]
theorem zlK {sg:ByteArray} {c:Int} {all:Bool} {f:Ft} (h:(!all||!(ph f.own sg))=false):uk sg c all f=f:=by
 unfold uk;rw[qx (by rw[h];simp)]
theorem zlL {w:World} {base b a g cap:Nat} {s t:ByteArray} {m:Met} {ah:Int} {ve vb:Value} {vs:List Value} (h:RS w base b s a t m ah (.slice (some ⟨g,0,none⟩) m.gO.length cap) ve vb vs)
  (i n c:Nat) (hin:i+n<=m.gO.length) (h16:m.gO.length<=16) (QK:∀k,k<m.gO.length->(m.gO.getD k default).gR.length<=15) (sg:ByteArray) (cost:Int) (all:Bool):
  Calls Tryz.prog 173 #[.slice (some ⟨g,i*2,none⟩) n c,.agg #[.string sg,.int .i64 cost],.bool all] w λe w'=>e=.returned (.tuple #[])/\
   ∃vs',RS w' base b s a t {m with gO:=yY m.gO i n sg cost all} ah (.slice (some ⟨g,0,none⟩) m.gO.length cap) ve vb vs'/\Below base w w':=by
 have hst:=QP.start h i sg cost all;have hgw:g<w.heap.size:=(h.gO.lt g rfl).2;have po:=qh hst;have Hgw:=qh hgw;clear hst h;go_enter Tryz.func173,Tryz.ntmps173;go_wp2_with fail;go_loopw [10] (λq wr=>∃(k:Nat) (vs':List Value),k<=n/\q=.int .i64 k/\QP w base b s a t m ah (.slice (some ⟨g,0,none⟩) m.gO.length cap) ve vb i sg cost all k vs' wr) (λq _=>n-(intOf q).toNat)
 case atStart=>exact⟨0,vs,by omega,rfl,po.out⟩
 case round=>
  rename_i wr;obtain⟨k,vs',hk,rfl,hr⟩:=hrel;by_cases hlt:k<n
  ·have hik:i+k<m.gO.length:=(by omega);have hlen:(yY m.gO i k sg cost all).length=m.gO.length:=za5 _ _ _ _ _ _ (by omega);have hh:=zcb m.gO i k sg cost all hik;have hcl:=zcr (yY m.gO i k sg cost all) vs' (i+k) hr.rs.vl (by rw[hlen];exact hik);rw[hh] at hcl;have hfe:=hr.rs.gO;simp only[hlen] at hfe;have hz:=hfe.frozenAt ((i+k)*2+1);have e1:(i+k)*2=i*2+k*2:=(by omega);have hc1:=(hfe.cellAt ((i+k)*2) (by omega)).trans hcl.1;have hc2:=(hfe.cellAt ((i+k)*2+1) (by omega)).trans hcl.2;have hwv:=hr.rs.gR (i+k) (by simpa [hlen] using hik);simp only[hh] at hwv;have zqr:=QK (i+k) hik;have hgs:g<wr.heap.size:=(hfe.lt g rfl).2;have hxb:wr.cell? ⟨w.heap.size,0,none⟩=some (.string sg):=qc _ _ _ _ 83 (0,0) hr.box;have hxc:wr.cell? ⟨w.heap.size,1,none⟩=some (.int .i64 cost):=qc _ _ _ _ 83 (0,0) hr.box;have hxs:w.heap.size<wr.heap.size:=(qg hr.box).1;have hbw:base<=wr.heap.size:=(by have:=hr.rs.bl;have:=hr.rs.hb;omega);have YL:=qh λ(hf:(!all||!(ph (m.gO.getD (i+k) default).own sg))=true)=>λ(w0 w1:World) (v':Value) hb ho hg hat=>hr.step (w0:=w0) (w1:=w1) (v':=v') hik rfl (zkJ hf) hb ho hg hat Hgw.out;have Hno:=qh λ(hf:(!all||!(ph (m.gO.getD (i+k) default).own sg))=false)=>λ(w':World) hb=>hr.skip (wr':=w') hik (zlK hf) hb;rw[e1] at hc1 hc2 hz YL;obtain⟨A,cc,hve,hcc,hiw⟩:=zds hwv;have KF:=qh hwv;have Hneq:Hid ((vs'.getD (i+k) yK).ownBlock=none∨(vs'.getD (i+k) yK).ownBlock≠some g):=qh (by
    have:=Zu hwv hfe (by decide);simpa [Value.ownBlock] using this)
   clear hr hfe hcl hh hlen hwv hiw e1;generalize vs'.getD (i+k) yK=V at*;subst hve;generalize hfq:m.gO.getD (i+k) default=f at*;clear hfq;obtain⟨own,gR⟩:=f;simp only[] at hc1 hc2 zqr hcc YL Hno KF Hneq;have hbx:Below wr.heap.size wr (wr.alloc (.cells #[.string own,.slice A gR.length cc] 81)):=(qb _ wr).alloc (ql _) _;have Hbx:=qh hbx;have Hblk:Hid (∀w1:World,(wr.alloc (.cells #[.string own,.slice A gR.length cc] 81)).grownBy w1 (Value.slice A gR.length cc).ownBlock->w1.heap[g]?=wr.heap[g]?):=qh λw1 hg1=>
    (hg1.block g (by have:=hbx.size;omega) (by rcases Hneq.out with e|e;· rw[e];simp
                                               ·exact λe'=>e e'.symm)).trans (hbx.block g hgs)
   have Xi:=qh λ(w1:World) hg1=>qY ((zp (w:=wr) (w':=w1) (a:=⟨g,i*2+k*2+1,none⟩) (Hblk.out w1 hg1)).trans hz) ((qw (w:=wr) (w':=w1) (a:=⟨g,i*2+k*2+1,none⟩) (Hblk.out w1 hg1)).trans hc2);clear hbx;cases hy:(!all||!(ph own sg)) with
   |false=>
    have Hn:=qh (Hno.out hy);have h2:all=true/\ph own sg=true:=by cases all<;>cases hq:ph own sg<;>simp[hq] at hy|-
    obtain⟨rfl,hq⟩:=h2;unfold ph at hq;clear hy YL Hno;go_wp2_with fail;go_roundw
    case rel=>exact⟨k+1,vs',by omega,by go_num,Hn.out _ Hbx.out⟩
    case measure=>simp[intOf];omega
   |true=>
    have Hy:=qh (YL.out hy);have h2:all=false∨(all=true/\ph own sg=false):=by cases all<;>cases hq:ph own sg<;>simp[hq] at hy|-
    clear YL Hno hy;rcases h2 with rfl|⟨rfl,hq⟩
    rotate_right;unfold ph at hq
    rotate_right
    all_goals
     go_wp2_with (at_builtin;go_loud (refine VL _ rfl _ _ 76 rfl base 83 _ _ 2 24 jj zeA zeB zeC zdu rfl (by decide) (.slice A gR.length cc) gR.length (Qu gR) _ _ rfl rfl ?c0 (by exact(KF.out).alloc _) rfl ?c1 ?c2 ?c3 ?c4 ?_;rotate_right;intro v1 w1 hown1 hg1 pR;obtain⟨g1,Qn,rfl⟩:=Zv hown1 (by omega);obtain⟨hz1,hc3⟩:=Xi.out _ hg1;have gT:=qh (Hy.out _ _ _ Hbx.out hown1 hg1 pR);clear hown1 hg1 pR))
     case c0=>simp
     case c1=>exact⟨rfl,rfl⟩
     case c2=>unfold maxLen;omega
     case c3=>omega
     case c4=>have:=Hbx.out.size;omega
     go_roundw
     case rel=>exact⟨k+1,_,by omega,by go_num,gT.out⟩
     case measure=>simp[intOf];omega
  ·obtain rfl:k=n:=by omega
   have Hr:=qh hr;clear hr;go_wp2_with fail;go_end0;exact⟨rfl,vs',Hr.out.rs,Hr.out.below⟩
variable {w w1 w':World} {base b a:Nat} {s t:ByteArray} {m:Met} {ah:Int} {vf ve vb:Value} {vs:List Value}
theorem RB.zsb (h:RB w b s a t vf ve vb ah) (v:Value):RB (w.setCell ⟨b,3,none⟩ v) b s a t v ve vb ah:=qs w b 3 _ 210 v h
theorem RB.zsc (h:RB w b s a t vf ve vb ah) (v:Value):RB (w.setCell ⟨b,4,none⟩ v) b s a t vf v vb ah:=qs w b 4 _ 210 v h
theorem RB.zsd (h:RB w b s a t vf ve vb ah) (v:Value):RB (w.setCell ⟨b,5,none⟩ v) b s a t vf ve v ah:=qs w b 5 _ 210 v h
theorem RB.zse (h:RB w b s a t vf ve vb ah) (v:Int):RB (w.setCell ⟨b,6,none⟩ (.int .i64 v)) b s a t vf ve vb v:=qs w b 6 _ 210 _ h
theorem zaN (w:World) (b o:Nat) (v:Value):w.grownBy (w.setCell ⟨b,o,none⟩ v) (some b):=zaV (zb4 w _) (.inl rfl) _
theorem zdv {α:Type} (l:List α) (x d:α) (k:Nat) (hk:k<l.length):(l++[x]).getD k d=l.getD k d:=by simp[qj,qQ hk]
theorem zdw {α:Type} (l:List α) (x d:α):(l++[x]).getD l.length d=x:=by simp[qj]
theorem RS.foot (h:RS w base b s a t m ah vf ve vb vs) {own:ByteArray} {v':Value} (ho:w1.ownsRow base 81 2 v' (m.gO.length+1) (Zn m.gO vs++[.string own,yK])) (hg:w.grownBy w1 vf.ownBlock):
  RS (w1.setCell ⟨b,3,none⟩ v') base b s a t {m with gO:=m.gO++[zcn own]} ah v' ve vb (vs++[yK]):=by
 have hne:vf.ownBlock≠some b:=by rcases pI h.gO h.rb (by decide) with e|e;· rw[e];simp
                                 ·exact e
 have r1:RB w1 b s a t vf ve vb ah:=(hg.block b h.bl (λe=>hne e.symm)).trans h.rb;have g2:=zaN w1 b 3 v';have hvl:=h.vl;have wk:∀k,k<m.gO.length->(w1.setCell ⟨b,3,none⟩ v').ownsRow base 83 2 (vs.getD k yK) (m.gO.getD k default).gR.length (Qu (m.gO.getD k default).gR):=λk hk=>by
  have o1:=(h.gR k hk).kept hg (Zu (h.gR k hk) h.gO (by decide));exact o1.kept g2 (pI o1 r1 (by decide))
 have e1:=h.ends.kept hg (Zu h.ends h.gO (by decide));have k1:=h.gS.kept hg (Zu h.gS h.gO (by decide));refine⟨r1.zsb v',h.hb,by simp[hvl],?_,?_,e1.kept g2 (pI e1 r1 (by decide)),k1.kept g2 (pI k1 r1 (by decide)),?_⟩
 ·have e:Zn (m.gO++[zcn own]) (vs++[yK])=Zn m.gO vs++[.string own,yK]:=zcJ _ _ _ _ hvl;simp only[qv,qB,qG];rw[e];exact ho.kept g2 (pI ho r1 (by decide))
 ·intro k hk;simp only[qv,qB,qG] at hk;by_cases e:k<m.gO.length
  ·simp only[];rw[zdv _ _ _ _ (by omega),zdv _ _ _ _ e];exact wk k e
  ·obtain rfl:k=m.gO.length:=by omega
   simp only[];rw[zdw];have:(vs++[yK]).getD m.gO.length yK=yK:=(by rw[<-hvl];exact zdw _ _ _);rw[this];exact zP _ _ _ _
 ·exact h.apart.snoc (v:=yK) rfl
theorem RS.end_ (h:RS w base b s a t m ah vf ve vb vs) {x:Way} {v':Value} (ho:w1.ownsRow base 83 2 v' (m.ends.length+1) (Qu m.ends++[.string x.1,.int .i64 x.2])) (hg:w.grownBy w1 ve.ownBlock)
  (hat:v'.ownBlock=ve.ownBlock∨∃N,v'.ownBlock=some N/\w.heap.size<=N):
  RS (w1.setCell ⟨b,4,none⟩ v') base b s a t {m with ends:=m.ends++[x]} ah vf v' vb vs:=by
 have hne:ve.ownBlock≠some b:=by rcases pI h.ends h.rb (by decide) with e|e;· rw[e];simp
                                 ·exact e
 have r1:RB w1 b s a t vf ve vb ah:=(hg.block b h.bl (λe=>hne e.symm)).trans h.rb;have g2:=zaN w1 b 4 v';have hvl:=h.vl;have wk:∀k,k<m.gO.length->(w1.setCell ⟨b,4,none⟩ v').ownsRow base 83 2 (vs.getD k yK) (m.gO.getD k default).gR.length (Qu (m.gO.getD k default).gR):=λk hk=>by
  have ha:(vs.getD k yK).ownBlock=none∨(vs.getD k yK).ownBlock≠ve.ownBlock:=by
   cases hv:(vs.getD k yK).ownBlock with
   |none=>exact .inl rfl
   |some q=>
    right;intro e;exact h.apart (k+1) 0 q (by simp;omega) (by simp) (by omega) (by rw[za7];exact hv) (by simpa using e.symm)
  have o1:=(h.gR k hk).kept hg ha;exact o1.kept g2 (pI o1 r1 (by decide))
 have f1:=h.gO.kept hg (Zu h.gO h.ends (by decide));have k1:=h.gS.kept hg (Zu h.gS h.ends (by decide));refine⟨r1.zsc v',h.hb,hvl,f1.kept g2 (pI f1 r1 (by decide)),wk,?_,k1.kept g2 (pI k1 r1 (by decide)),?_⟩
 ·simp only[qv,qB,qG,zbH];exact ho.kept g2 (pI ho r1 (by decide))
 ·have hA:Apart ((ve::vs).set 0 v'):=by
   rcases hat with hat|⟨N,hN,hle⟩
   ·exact h.apart.set (by simp) (N:=w.heap.size) h.blocks (.inl (by simpa using hat))
   ·exact h.apart.set (by simp) (N:=N) (λk q hk hq=>qD (h.blocks k q hk hq) hle) (.inr hN)
  simpa using hA
theorem RS.brk (h:RS w base b s a t m ah vf ve vb vs) {x:Int×Int} {v':Value} (ho:w1.ownsRow base 85 2 v' (m.gS.length+1) (JC m.gS++[.int .i64 x.1,.int .i64 x.2])) (hg:w.grownBy w1 vb.ownBlock):
  RS (w1.setCell ⟨b,5,none⟩ v') base b s a t {m with gS:=m.gS++[x]} ah vf ve v' vs:=by
 have hne:vb.ownBlock≠some b:=by rcases pI h.gS h.rb (by decide) with e|e;· rw[e];simp
                                 ·exact e
 have r1:RB w1 b s a t vf ve vb ah:=(hg.block b h.bl (λe=>hne e.symm)).trans h.rb;have g2:=zaN w1 b 5 v';have wk:∀k,k<m.gO.length->(w1.setCell ⟨b,5,none⟩ v').ownsRow base 83 2 (vs.getD k yK) (m.gO.getD k default).gR.length (Qu (m.gO.getD k default).gR):=λk hk=>by
  have o1:=(h.gR k hk).kept hg (Zu (h.gR k hk) h.gS (by decide));exact o1.kept g2 (pI o1 r1 (by decide))
 have f1:=h.gO.kept hg (Zu h.gO h.gS (by decide));have e1:=h.ends.kept hg (Zu h.ends h.gS (by decide));refine⟨r1.zsd v',h.hb,h.vl,f1.kept g2 (pI f1 r1 (by decide)),wk,e1.kept g2 (pI e1 r1 (by decide)),?_,h.apart⟩;simp only[qv,qB,qG,zdr];exact ho.kept g2 (pI ho r1 (by decide))
def KG (s:ByteArray) (L:List Tok):Prop:=∃p,p<=s.size/\L=toks s p
theorem KG.gW {s:ByteArray} {L:List Tok} (h:KG s L):KG s (gW L):=by
 obtain⟨p,hp,rfl⟩:=h;exact⟨_,(zef hp).1,(zef hp).2.symm⟩
theorem KG.size {s:ByteArray} {L:List Tok} (h:KG s L):(hd L).2.size<=s.size:=by
 obtain⟨p,hp,rfl⟩:=h;exact zlB s hp
theorem YM {L:List Tok} (h:RS w base b s (hd L).1 (hd L).2 m ah vf ve vb vs) (hL:KG s L) (hs:s.size<=65536):
  Calls Tryz.prog 142 #[.pointer (some ⟨b,0,none⟩)] w λe w'=>e=.returned (.tuple #[])/\RS w' base b s (hd (gW L)).1 (hd (gW L)).2 m ah vf ve vb vs/\w.grownBy w' (some b):=by
 obtain⟨p,hp,rfl⟩:=hL;obtain⟨h1,h2⟩:=zef (s:=s) hp;refine(zhT b (hd (toks s p)).1 s (hd (toks s p)).2 vf ve vb ah w h.rb h1 (by omega)).mono ?_;rintro e w' ⟨rfl,hr,hg⟩;refine⟨rfl,h.move hg ?_,hg⟩;rw[<-h2,zfD h1];exact hr
theorem YN (h:RS w base b s a t m ah vf ve vb vs) (hg:w.grownBy w' (some b)):Below base w w':=
 (qb base w).grown hg (by have:=h.bl;have:=h.hb;omega) (λk e=>by cases e;exact h.hb)
theorem RS.bs (h:RS w base b s a t m ah vf ve vb vs):base<=w.heap.size:=by have:=h.bl;have:=h.hb;omega
end Go.Proofs.YtgklikkddckgbaaGreatDoor
namespace Go.Proofs.YtgklikkddckgbaaGreatDoor.Mo
open Go.RowKit
theorem zlM:Tryz.prog.info? 3=some Tryz.t3:=by kernel_rfl
theorem zlN:Tryz.t3.zero=some (.int .i64 0):=by kernel_rfl
theorem zlO:Tryz.t3.size=1:=by kernel_rfl
theorem zjx:Tryz.t3.bytes=8:=by kernel_rfl
theorem JB (ms:List Mk) (v:Int):ms.any (λm=>m.sign==126&&m.n==v)=(pA ms).any (λn=>n==v):=by
 unfold pA;induction ms with
 |nil=>rfl
 |cons m l ih=>
  rw[List.any_cons,ih,List.filter_cons];by_cases h:(m.sign==126)=true
  ·rw[qy h,xo,List.any_cons,h,zU]
  ·rw[qx h];simp only[Bool.not_eq_true] at h;rw[h];simp
def zkK (ms:List Mk) (i:Nat) (r:Except (Int×Nat) (Int×Nat)):Except (Int×Nat) (Mk×Nat):=match r with
 |.error e=>.error e
 |.ok (v,e)=>if(pA ms).any (λn=>n==v) then .error (2,i+1) else .ok (⟨126,v,i⟩,e)
theorem zgu {s:ByteArray} {gN:List UInt8} {ms:List Mk} {i:Nat} (h:pg s i 126=true):
  QY s gN ms i=if 4<=pO ms 126 then .error (180,i) else zkK ms i (yL s 1 (i+1)):=by
 unfold QY;rw[h,zbD h (by decide:(126:Int)≠58),zbD h (by decide:(126:Int)≠39),zdp h];by_cases hk:4<=pO ms 126
 ·rw[qy (by simpa using hk),qy hk]
 ·rw[qx (by simpa using hk),qx hk];unfold zkK;cases yL s 1 (i+1) with
  |error e=>rfl
  |ok ve=>
   obtain⟨v,e⟩:=ve;simp only[JB];rfl
theorem zlP {gN:List UInt8} {cls ref:Int} {ms:List Mk} {a:Nat} {vh vh':Value} {v:Int} {i:Nat}:
  Qs gN cls ref (ms++[⟨126,v,i⟩]) a vh'=((Qs gN cls ref ms a vh).setIfInBounds 10 (.int .i64 (if Qt ms<0 then(i:Int) else Qt ms))).setIfInBounds 7 vh':=by
 unfold Qs;rw[zew (by decide:(126:Int)≠58),K5 (c:=58) (by decide:(126:Int)≠58),K5 (c:=47) (by decide:(126:Int)≠47),K5 (c:=94) (by decide:(126:Int)≠94),K5 (c:=64) (by decide:(126:Int)≠64),K5 (c:=39) (by decide:(126:Int)≠39),zfJ _ rfl,zbh,zbh];simp
theorem zdO {w:World} {B:Nat} {v:Value} {l:List Int} (h:w.ownsRow B 3 1 v l.length (vY l)):∃A c,v=.slice A l.length c/\l.length<=c/\(0<l.length->∃g,A=some ⟨g,0,none⟩/\g<w.heap.size/\∀k,k<l.length->w.cell? ⟨g,k,none⟩=some (.int .i64 (l.getD k 0))):=by
 rcases h.2 with⟨rfl,h0⟩|⟨g,cap,cur,rfl,_,hg,hcap,_⟩
 ·rw[h0];exact⟨none,0,rfl,ql _,λhl=>by omega⟩
 ·refine⟨_,cap,rfl,hcap,λ_=>⟨g,rfl,(qg hg).1,λk hk=>?_⟩⟩;rw[h.cellAt k (by omega)];unfold vY;simp[qj,hk]
theorem zhm (B rb fb xb:Nat) (s:ByteArray) (i:Nat) (gN:List UInt8) (cls ref:Int) (ms:List Mk) (a:Nat) (vh:Value) (w:World) (h:Rd w rb fb s i) (hx:Xh w B xb gN cls ref ms a vh) (hs:pg s i 126=true) (hv:Vars w) (h9:9<=rb) (h9x:9<=xb):
  Calls Tryz.prog 185 #[.pointer (some ⟨rb,0,none⟩),.pointer (some ⟨xb,0,none⟩)] w (zca B rb fb xb s gN cls ref ms a vh (QY s gN ms i) w):=by
 rw[zgu (gN:=gN) (ms:=ms) hs];have hi:=XV hs;obtain⟨hne,hsp⟩:=hx.sep h;have hxl:xb<w.heap.size:=(qg hx.x).1;have hxB:=hx.hB;have hlen:=zfL ms;have h4:=hx.four;obtain⟨Ah,ch,rfl,hch,hrow⟩:=zdO hx.h;have xf:w.cell? ⟨xb,7,none⟩=some (.slice Ah (pA ms).length ch):=qc _ _ 7 _ _ (0,0) hx.x;have Hx:=qh hx;have Hv:=qh hv;have Z5:=qh (λ(b:Bool)=>zcI rb fb xb s i b ms (Qs gN cls ref ms a (.slice Ah (pA ms).length ch)) w h hi hx.x rfl hne);clear h hx hv hs;by_cases h4':4<=pO ms 126
 ·rw[qy h4'];have hd:(((pA ms).length:Int)==4)=true:=by
   have:((pA ms).length:Int)=4:=(by omega);simpa using this
  have hc:=qh (Z5.out true);clear Z5 h4 h4' hlen;go_enter Tryz.func185,Tryz.ntmps185;go_wp2_with fail;refine hc.out.mono ?_;rintro e w2 ⟨ho,he⟩;rw[qy rfl] at he;subst he;exact⟨rfl,ho.mono (λk hk=>.inl (by simp at hk|-;omega)),rfl⟩
 ·rw[qx h4'];have hd:(((pA ms).length:Int)==4)=false:=by
   have:¬((pA ms).length:Int)=4:=(by omega);simpa using this
  have hc:=qh (Z5.out false);have H4:=qh h4';have Hlen:=qh hlen;have hl4:(pA ms).length<=4:=by omega
  generalize hR:zkK ms i (yL s 1 (i+1))=R;have HR:=qh hR;clear Z5 h4 h4' hlen hR;go_enter Tryz.func185,Tryz.ntmps185;go_wp2_with fail;refine hc.out.mono ?_;rintro e w2 ⟨ho,he⟩;rw[qx (by simp)] at he;obtain⟨rfl,hrd,hx2⟩:=he;obtain⟨r0,r1,r2,r3⟩:=hrd.cells;have pE:=qh (zcq rb fb s (i+1) 1 w2 hrd (Vars.off Hv.out ho (by simp;exact⟨h9,h9x⟩)) h9 (by decide) (by decide));have Ho:=qh ho;have Zj:=qh hx2;have JW:xb<w2.heap.size:=by have:=ho.size;omega
  clear hrd ho hx2 xf hc;go_wp2_with fail;refine pE.out.mono ?_;rintro e w3 ⟨ho3,hres⟩;have hx3:=(ho3.block xb JW (by simp;omega)).trans Zj.out;have Kn:Off [rb,xb] w w3:=Ho.out.trans (ho3.mono (λk hk=>.inl (by simp at hk|-;exact .inl hk)));clear r0 r1 r2 r3;cases hN:yL s 1 (i+1) with
  |error ep=>
   obtain⟨c,p⟩:=ep;rw[hN] at hres;have hR2:R=.error (c,p):=(by rw[<-HR.out,hN];rfl);subst hres;refine⟨rfl,Kn.mono (λk hk=>.inl (by simp at hk|-;omega)),?_⟩;rw[hR2];rfl
  |ok vj=>
   obtain⟨v,j⟩:=vj;rw[hN] at hres;have HR1:Hid (R=if(pA ms).any (λn=>n==v) then .error (2,i+1) else .ok (⟨126,v,i⟩,j)):=qh (by rw[<-HR.out,hN];rfl);obtain⟨rfl,Qf⟩:=hres;have hbd:=zey hN;have x7:w3.cell? ⟨xb,7,none⟩=some (.slice Ah (pA ms).length ch):=qc _ _ 7 _ _ (0,0) hx3;have z7:=qf _ _ 7 _ _ hx3;have JY:=qh hx3;have Hoo:=qh Kn;have Xs:=qh Qf;have X1:=qh hbd;have hs3:w.heap.size<=w3.heap.size:=Kn.size;clear hx3 Kn Qf hbd hN ho3;generalize hh:pA ms=has at*;have Hh:=qh hh;clear hh;go_wp2_with fail;go_loopw [28] (λq wr=>∃k:Nat,k<=has.length/\q=.int .i64 k/\Hid ((has.take k).any (λn=>n==v)=false)/\wr=w3) (λq _=>has.length-(intOf q).toNat)
   case atStart=>exact⟨0,qF _,rfl,qh rfl,rfl⟩
   case round=>
    obtain⟨k,hk,rfl,hno,rfl⟩:=hrel;by_cases hlt:k<has.length
    ·obtain⟨g,rfl,hgs,hcells⟩:=hrow (by omega);have Xu:=hsp g rfl;have hck:=(Hoo.out.cell (b:=g) (o:=k) hgs (by simp;exact Xu)).trans (hcells k hlt);have htk:has.take (k+1)=has.take k++[has.getD k 0]:=by
      rw[qE hlt];simp[qj,hlt]
     have Zk:=qh htk;have zqs:Hid (has.getD k 0∈has):=qh (by rw[qj,qz hlt];exact qM hlt);clear hcells Xu htk;generalize has.getD k 0=n at*;cases heq:(n==v) with
     |true=>
      have HR2:Hid (R=.error (2,i+1)):=qh (by rw[HR1.out,qy (kA.2 ⟨n,zqs.out,heq⟩)]);have hf:=qh (gX 2 (i+1) wr);go_wp2_with fail;refine hf.out.mono ?_;rintro e w5 ⟨rfl,hb5⟩;refine⟨rfl,(Hoo.out.trans (Off.of_below hb5 (ql _) _)).mono (λk hk=>.inl (by simp at hk|-;omega)),?_⟩;rw[HR2.out];rfl
     |false=>
      have Hno2:Hid ((has.take (k+1)).any (λn=>n==v)=false):=qh (by rw[Zk.out,xx,hno.out];simp[heq]);go_wp2_with fail;go_roundw
      case rel=>exact⟨k+1,by omega,by go_num,Hno2,by first|rfl|trivial⟩
      case measure=>simp[intOf];omega
    ·obtain rfl:k=has.length:=by omega
     have HR2:Hid (R=.ok (⟨126,v,i⟩,j)):=qh (by rw[HR1.out,qx (by have:=hno.out;rw[qU] at this;rw[this];simp)]);clear hrow;have pv:Hid (wr.ownsRow B 3 1 (.slice Ah has.length ch) has.length (vY has)):=qh (by
      have:=Hoo.out.own Hx.out.h (λk hk=>by have:=hsp k hk;simp;exact this);rw[Hh.out] at this;exact this)
     have Hmid:Hid (∀(v5:Value) (w5:World),w5.ownsRow B 3 1 v5 (has.length+1) (vY has++[.int .i64 v])->wr.grownBy w5 (Value.slice Ah has.length ch).ownBlock->(v5.ownBlock=(Value.slice Ah has.length ch).ownBlock∨∃b,v5.ownBlock=some b/\wr.heap.size<=b)->
       w5.cell? ⟨xb,7,none⟩=some (.slice Ah has.length ch)/\w5.frozen? ⟨xb,7,none⟩=false/\Hid (zca B rb fb xb s gN cls ref ms a (.slice Ah has.length ch) R w (.returned (.tuple #[])) (w5.setCell ⟨xb,7,none⟩ v5))):=qh (by
      intro v5 w5 hown5 hgr5 hl5;have hxw:xb<wr.heap.size:=(by have:=Hoo.out.size;omega);have hg5:Off (Value.slice Ah has.length ch).ownBlock.toList wr w5:=Off.grown hgr5 (λk hk=>by simp[hk]);have hnx:xb∉(Value.slice Ah has.length ch).ownBlock.toList:=by
       intro hm;have hm2:(Value.slice Ah has.length ch).ownBlock=some xb:=(by simpa using hm);exact(hsp xb hm2).2 rfl
      have hnr:rb∉(Value.slice Ah has.length ch).ownBlock.toList:=by
       intro hm;have hm2:(Value.slice Ah has.length ch).ownBlock=some rb:=(by simpa using hm);exact(hsp rb hm2).1 rfl
      have hx5:=(hg5.block xb hxw hnx).trans JY.out;have hx6:=qs w5 xb 7 _ _ v5 hx5;rw[<-zlP (v:=v) (i:=i)] at hx6;have hos:Off [xb] w5 (w5.setCell ⟨xb,7,none⟩ v5):=Off.setCell w5 xb 7 _;have hv5x:∀k,v5.ownBlock=some k->k≠xb:=by
       intro k hk e;rcases hl5 with e5|⟨b,e5,hb⟩
       ·rw[e5] at hk;exact(hsp k hk).2 e
       ·rw[e5] at hk;cases hk;omega
      refine⟨qc _ _ 7 _ _ (0,0) hx5,qf _ _ 7 _ _ hx5,qh ⟨?_,?_⟩⟩
      ·refine(Hoo.out.mono (λk hk=>.inl (by simp at hk|-;omega))).trans ((hg5.mono (λk hk=>.inl (by simp at hk|-;exact .inr (.inr hk)))).trans (hos.mono (λk hk=>.inl (by simp at hk|-;exact .inr (.inl hk)))))
      ·rw[HR2.out];refine⟨rfl,(Xs.out.off hg5 hnr).off hos (by simp;exact hne),v5,⟨hx6,?_,?_,?_,hxB⟩,?_⟩
       ·rw[zlH ms rfl,Hh.out];have:=hos.own hown5 (λk hk=>by simp;exact hv5x k hk);rw[qv,zv];have e:vY (has++[v])=vY has++[.int .i64 v]:=(by simp[vY]);rw[e];exact this
       ·intro m hm;rcases qJ.1 hm with hm|hm
        ·exact Hx.out.ok m hm
        ·obtain rfl:m=⟨126,v,i⟩:=by simpa using hm
         exact⟨.inr (.inr (.inr (.inr (.inl rfl)))),λe=>by have e2:(126:Int)=58∨(126:Int)=39:=e;omega,λ_ _=>X1.out⟩
       ·have h4:=H4.out;have h5:pO (ms++[⟨126,v,i⟩]) 126=pO ms 126+1:=(by unfold pO;rw[jy];rfl);rw[h5];omega
       ·rcases hl5 with e5|⟨b,e5,hb⟩
        ·exact .inl e5
        ·exact .inr ⟨b,e5,by omega⟩)
     have hBw:B<=wr.heap.size:=(by omega);go_wp2_with (at_builtin;go_loud (refine VL wr rfl _ _ 43 rfl B 3 _ _ 1 8 Tryz.underlying43 zlM zlN zlO zjx rfl (by decide) (.slice Ah has.length ch) has.length (vY has) #[.int .i64 v] wr.heap.size rfl rfl rfl pv.out rfl (by intro u hu;simp at hu;subst hu;rfl) (by unfold maxLen;omega) (by omega) hBw ?_;intro v5 w5 hown5 hgr5 hl5;obtain⟨d7,f7,gT⟩:=Hmid.out v5 w5 hown5 hgr5 hl5;obtain⟨g5,cap5,rfl⟩:=Zv hown5 (by omega);clear hown5 hgr5 hl5));refine q9 (qI rfl _ _ _) rfl ?_;exact gT.out
def zfQ (c:UInt8):Nat:=if c=58 then 181 else if c=47 then 182 else if c=94 then 183 else if c=64 then 184 else if c=126 then 185 else 186
def zfR (s:ByteArray) (i rb:Nat):Value:=if i<s.size/\zd9 (gZ s i) then .func (.func (zfQ (gZ s i))) #[.pointer (some ⟨rb,0,none⟩)] #[] else .nilFunc
theorem zcV (c:UInt8):(zd9 c=true/\((c=58/\Lib.indexByte pZ c=0)∨(c=47/\Lib.indexByte pZ c=1)∨(c=94/\Lib.indexByte pZ c=2)∨(c=64/\Lib.indexByte pZ c=3)∨(c=126/\Lib.indexByte pZ c=4)∨(c=39/\Lib.indexByte pZ c=5)))∨(zd9 c=false/\Lib.indexByte pZ c<0):=by
 have h:∀n,n<256->(zd9 (UInt8.ofNat n)=true/\((UInt8.ofNat n=58/\Lib.indexByte pZ (UInt8.ofNat n)=0)∨(UInt8.ofNat n=47/\Lib.indexByte pZ (UInt8.ofNat n)=1)∨(UInt8.ofNat n=94/\Lib.indexByte pZ (UInt8.ofNat n)=2)∨(UInt8.ofNat n=64/\Lib.indexByte pZ (UInt8.ofNat n)=3)∨(UInt8.ofNat n=126/\Lib.indexByte pZ (UInt8.ofNat n)=4)∨(UInt8.ofNat n=39/\Lib.indexByte pZ (UInt8.ofNat n)=5)))∨(zd9 (UInt8.ofNat n)=false/\Lib.indexByte pZ (UInt8.ofNat n)<0):=by decide+kernel
 have:=h c.toNat c.toNat_lt;rw[xd] at this;exact this
theorem zfS {P:Program} {f:FuncId} {args:Array Value} {w:World} {v:Value} (h:Calls P f args w λe w'=>e=.returned v/\w'=w):Calls P f args w λe w'=>e=.returned v/\w=w':=
 h.mono λ_ _ ⟨a,b⟩=>⟨a,b.symm⟩
def mkC (rb:Nat):Array Value:=#[.func (.func 181) #[.pointer (some ⟨rb,0,none⟩)] #[],.func (.func 182) #[.pointer (some ⟨rb,0,none⟩)] #[],.func (.func 183) #[.pointer (some ⟨rb,0,none⟩)] #[],.func (.func 184) #[.pointer (some ⟨rb,0,none⟩)] #[],.func (.func 185) #[.pointer (some ⟨rb,0,none⟩)] #[],.func (.func 186) #[.pointer (some ⟨rb,0,none⟩)] #[]]
theorem zkL (rb fb:Nat) (s:ByteArray) (i:Nat) (w:World) (h:Rd w rb fb s i):
  Calls Tryz.prog 151 #[.pointer (some ⟨rb,0,none⟩)] w λe w'=>e=.returned (zfR s i rb)/\Below w.heap.size w w':=by
 have hsz:=h.sz;have hle:=h.le;have hrb:=h.lt;have hne0:rb≠w.heap.size:=by omega
 generalize hW1:w.alloc (.cells (mkC rb) 217)=W1;have hB1:Below w.heap.size w W1:=by rw[<-hW1];exact(qb _ _).alloc (ql _) _
 have hr1:=h.below hB1;obtain⟨r0,r1,r2,r3⟩:=hr1.cells;rw[<-hW1] at r0 r1 r2 r3;have HW1:=qh hW1;have HB1:=qh hB1;have HR1:=qh hr1;have hF1:=qn w (.cells (mkC rb) 217);rw[hW1] at hF1;have HF1:=qh hF1;unfold mkC at r0 r1 r2 r3 HW1 HF1;clear hF1;clear h hr1 hB1 hW1;by_cases hi:i<s.size
 ·have hne:((i:Int)==(s.size:Int))=false:=by
   have:¬((i:Int)=(s.size:Int)):=(by omega);simpa using this
  have Kl:=qh (Z3 hi);have Hv:Hid (zfR s i rb=if zd9 s[i] then .func (.func (zfQ s[i])) #[.pointer (some ⟨rb,0,none⟩)] #[] else .nilFunc):=qh (by unfold zfR;rw[Kl.out];by_cases hh:zd9 s[i]=true<;>simp[hh,hi]);have e1:∀c:UInt8,((c.toNat:Int)).toNat.toUInt8=c:=λc=>by simp
  have Hix:Hid (∀W,Calls Tryz.prog 114 #[.string ⟨#[58,47,94,64,126,39]⟩,.int .u8 s[i].toNat] W λe w'=>e=.returned (.int .i64 (Lib.indexByte pZ s[i]))/\w'=W):=qh (λW=>(by
   have:=Tryz.strings_IndexByte ⟨pZ.toArray⟩ s[i].toNat W;rw[e1 s[i]] at this;exact this))
  rcases zcV s[i] with⟨hs,hcs⟩|⟨hs,hneg⟩
  ·rw[hs,qy rfl] at Hv;clear e1 hs;rcases hcs with⟨hc,hk⟩|⟨hc,hk⟩|⟨hc,hk⟩|⟨hc,hk⟩|⟨hc,hk⟩|⟨hc,hk⟩
   all_goals
    rw[hk] at Hix;rw[hc] at Hv;clear hc hk;go_enter Tryz.func151,Tryz.ntmps151;go_wp2_with fail;go_quiet (fail)
    rw[HW1.out];have hr2:=HR1.out.drewN nq;have hf2:(W1.drewN nq).heap[w.heap.size]?=_:=HF1.out;have hb2:=ZG HB1.out nq;clear r0 r1 r2 r3;generalize W1.drewN nq=W2 at*;clear nq;obtain⟨r0,r1,r2,r3⟩:=hr2.cells;have k0:=qc _ _ 0 _ _ (0,0) hf2;have k1:=qc _ _ 1 _ _ (0,0) hf2;have k2:=qc _ _ 2 _ _ (0,0) hf2;have k3:=qc _ _ 3 _ _ (0,0) hf2;have k4:=qc _ _ 4 _ _ (0,0) hf2;have k5:=qc _ _ 5 _ _ (0,0) hf2;clear hf2 hr2;go_wp2_with fail;go_quiet ((go_at_call 114;exact kP (Hix.out _)))
    go_wp2_with fail;go_ret;exact⟨by rw[Hv.out];rfl,ZG hb2 _⟩
  ·rw[hs,qx (by simp)] at Hv;have hd:decide (0<=Lib.indexByte pZ s[i])=false:=qd (by omega);generalize Lib.indexByte pZ s[i]=n at*;clear e1 hs hneg;go_enter Tryz.func151,Tryz.ntmps151;go_wp2_with fail;go_quiet (fail)
   rw[HW1.out];have hr2:=HR1.out.drewN nq;have hf2:(W1.drewN nq).heap[w.heap.size]?=_:=HF1.out;have hb2:=ZG HB1.out nq;clear r0 r1 r2 r3;generalize W1.drewN nq=W2 at*;clear nq;obtain⟨r0,r1,r2,r3⟩:=hr2.cells;have k0:=qc _ _ 0 _ _ (0,0) hf2;have k1:=qc _ _ 1 _ _ (0,0) hf2;have k2:=qc _ _ 2 _ _ (0,0) hf2;have k3:=qc _ _ 3 _ _ (0,0) hf2;have k4:=qc _ _ 4 _ _ (0,0) hf2;have k5:=qc _ _ 5 _ _ (0,0) hf2;clear hf2 hr2;go_wp2_with fail;go_quiet ((go_at_call 114;exact kP (Hix.out _)))
   go_wp2_with fail;go_ret;exact⟨by rw[Hv.out];rfl,ZG hb2 _⟩
 ·have hne:((i:Int)==(s.size:Int))=true:=by
   have:(i:Int)=(s.size:Int):=(by omega);simpa using this
  have Hv:Hid (zfR s i rb=.nilFunc):=qh (by unfold zfR;rw[qx (λh=>hi h.1)]);go_enter Tryz.func151,Tryz.ntmps151;go_wp2_with fail;go_quiet (fail)
  go_wp2_with fail;go_ret;exact⟨by rw[Hv.out];rfl,by rw[HW1.out];exact ZG HB1.out _⟩
def JD:List Rw->List Value->List Value
 |r::rs,v::vs=>.bool r.round::v::JD rs vs
 |_,_=>[]
theorem zhn:∀(rows:List Rw) (vis:List Value),vis.length=rows.length->(JD rows vis).length=rows.length*2
 |[],vis,h=>by simp[JD]
 |r::rs,[],h=>by simp at h
 |r::rs,v::vs,h=>by
  have:=zhn rs vs (by simpa using h);simp only[JD,qB,this];omega
theorem zho:∀(rows:List Rw) (vis:List Value) (k:Nat),vis.length=rows.length->k<rows.length->(JD rows vis)[k*2]?=some (.bool (rows.getD k ⟨false,[]⟩).round)/\(JD rows vis)[k*2+1]?=some (vis.getD k .nilFunc)
 |[],vis,k,_,hk=>by simp at hk
 |r::rs,[],k,h,_=>by simp at h
 |r::rs,v::vs,0,h,_=>by simp[JD]
 |r::rs,v::vs,k+1,h,hk=>by
  have ih:=zho rs vs k (by simpa using h) (by simpa using hk);have e1:(k+1)*2=k*2+1+1:=by omega
  rw[e1];simpa [JD] using ih
theorem zfT:∀(rows:List Rw) (vis:List Value) (r:Rw) (v:Value),vis.length=rows.length->JD (rows++[r]) (vis++[v])=JD rows vis++[.bool r.round,v]
 |[],[],r,v,_=>by simp[JD]
 |[],_::_,_,_,h=>by simp at h
 |_::_,[],_,_,h=>by simp at h
 |q::rs,u::vs,r,v,h=>by
  have ih:=zfT rs vs r v (by simpa using h);simp only[kh,JD,ih]
structure RwM (w:World) (B:Nat) (vs:Value) (rows:List Rw) (vis:List Value):Prop where
 n:vis.length=rows.length
 o:w.ownsRow B 106 2 vs rows.length (JD rows vis)
 it:∀k,k<rows.length->∃A c,vis.getD k .nilFunc=.slice A (rows.getD k ⟨false,[]⟩).items.length c
def vQ (rows:List Rw):Nat:=(rows.map λr=>r.items.length).sum
theorem zej (rows:List Rw) (k:Nat) (h:k<rows.length):vQ (rows.take (k+1))=vQ (rows.take k)+(rows.getD k ⟨false,[]⟩).items.length:=by
 unfold vQ;rw[qE h,jv,yD];simp[qj,h]
theorem zlk (rows:List Rw) (k:Nat):vQ (rows.take k)<=vQ rows:=by
 unfold vQ;conv=>rhs;rw[<-List.take_append_drop k rows,jv,yD]
 omega
theorem zdx (rows:List Rw) (n:Int) (k:Nat) (h:k<rows.length):ZF (rows.take (k+1)) n=ziH n (ZF (rows.take k) n) (rows.getD k ⟨false,[]⟩):=by
 unfold ZF;rw[qE h,List.foldl_append];simp[qj,h]
theorem zll {n:Int} {m:Nat} (h0:0<=n) (h1:n<=512):0<=n*(m:Int)/\n*(m:Int)<=512*(m:Int):=
 ⟨Int.mul_nonneg h0 (by omega),kg h1 (by omega)⟩
theorem zhp (rows:List Rw) (n:Int) (h0:0<=n) (h1:n<=512):∀k,k<=rows.length->0<=ZF (rows.take k) n/\ZF (rows.take k) n<=512*(vQ (rows.take k):Int)
 |0,_=>by simp[ZF,vQ]
 |k+1,hk=>by
  have ih:=zhp rows n h0 h1 k (by omega);rw[zdx rows n k (by omega),zej rows k (by omega)];have hm:=zll (m:=(rows.getD k ⟨false,[]⟩).items.length) h0 h1;unfold ziH;split
  ·push_cast;omega
  ·push_cast;omega
theorem zjy (B fb:Nat) (vs:Value) (rows:List Rw) (vis:List Value) (n:Int) (w:World) (hc:w.cell? ⟨fb,3,none⟩=some vs) (hm:RwM w B vs rows vis) (h0:0<=n) (h1:n<=512) (ht:vQ rows<=65536) (hl:rows.length<=65536) (Qg:fb<w.heap.size):
  Calls Tryz.prog 36 #[.pointer (some ⟨fb,0,none⟩),.int .i64 n] w λe w'=>e=.returned (.int .i64 (ZF rows n))/\Below w.heap.size w w':=by
 have Hm:=qh hm;have hfm:∃A c,vs=.slice A rows.length c/\rows.length<=c/\(0<rows.length->∃g,A=some ⟨g,0,none⟩/\g<w.heap.size/\∀k,k<rows.length->w.cell? ⟨g,k*2,none⟩=some (.bool (rows.getD k ⟨false,[]⟩).round)/\w.cell? ⟨g,k*2+1,none⟩=some (vis.getD k .nilFunc)):=by
  rcases hm.o.2 with⟨rfl,e0⟩|⟨g,cap,cur,rfl,_,hg,hcap,_⟩
  ·rw[e0];exact⟨none,0,rfl,ql _,λh=>by omega⟩
  ·refine⟨_,cap,rfl,hcap,λ_=>⟨g,rfl,(qg hg).1,λk hk=>?_⟩⟩;have hlen:=zhn rows vis hm.n;have hget:=zho rows vis k hm.n hk;exact⟨(hm.o.cellAt (k*2) (by omega)).trans hget.1,(hm.o.cellAt (k*2+1) (by omega)).trans hget.2⟩
 obtain⟨A,c,rfl,hcap,hrow⟩:=hfm;have Hsz:=qh (zhp rows n h0 h1);have Htl:=qh (zlk rows);clear hm;go_enter Tryz.func36,Tryz.ntmps36;go_wp2_with fail;go_loopw [5,13] (λt q wr=>∃k:Nat,k<=rows.length/\q=.int .i64 k/\t=.int .i64 (ZF (rows.take k) n)/\Hid (Below w.heap.size w wr)) (λ_ q _=>rows.length-(intOf q).toNat)
 case atStart=>exact⟨0,qF _,rfl,rfl,qh (qb _ _)⟩
 case round=>
  obtain⟨k,hk,rfl,rfl,hb⟩:=hrel;by_cases hlt:k<rows.length
  ·obtain⟨g,rfl,hgs,hcells⟩:=hrow (by omega);obtain⟨Ai,ci,Xv⟩:=Hm.out.it k hlt;have hck:=hcells k hlt;rw[Xv] at hck;have k0:=(hb.out.cell (p:=⟨g,k*2,none⟩) hgs).trans hck.1;have k1:=(hb.out.cell (p:=⟨g,k*2+1,none⟩) hgs).trans hck.2;have hst:=zdx rows n k hlt;have hbd:=Hsz.out k hk;have htk:=zej rows k hlt;have htl:=Htl.out (k+1);have hmb:=zll (m:=(rows.getD k ⟨false,[]⟩).items.length) h0 h1;generalize rows.getD k ⟨false,[]⟩=r at*;obtain⟨rr,ri⟩:=r;simp only[] at k0 k1 hst htk hmb;unfold ziH at hst;simp only[] at hst;generalize ZF (rows.take k) n=S at*;have hS2:S<=512*65536:=(by have:=hbd.2;omega);have hri:ri.length<=65536:=(by omega);have hbs:=hb.out.size;have Hb2:=λ(v1 v2:Value)=>qh (hb.out.alloc hbs (.cells #[v1,v2] 106));have HB2:=qh Hb2;have hw1:IntKind.i64.wrap (n*(ri.length:Int))=n*(ri.length:Int):=qi _ (by omega);have hw2:IntKind.i64.wrap (S+n*(ri.length:Int))=S+n*(ri.length:Int):=qi _ (by omega);have hw3:IntKind.i64.wrap (S+(ri.length:Int))=S+(ri.length:Int):=qi _ (by omega);have po:=qh hst;clear hcells hck hst hbd htk htl hmb Hb2 Xv;cases rr with
   |true=>
    go_wp2_with fail;go_roundw
    case rel=>exact⟨k+1,by omega,by go_num,by rw[po.out,qy rfl],HB2.out _ _⟩
    case measure=>simp[intOf];omega
   |false=>
    go_wp2_with fail;go_roundw
    case rel=>exact⟨k+1,by omega,by go_num,by rw[po.out,qx (by simp)],HB2.out _ _⟩
    case measure=>simp[intOf];omega
  ·obtain rfl:k=rows.length:=by omega
   go_wp2_with fail;go_ret;exact⟨by rw[qU];rfl,hb.out⟩
end Go.Proofs.YtgklikkddckgbaaGreatDoor.Mo


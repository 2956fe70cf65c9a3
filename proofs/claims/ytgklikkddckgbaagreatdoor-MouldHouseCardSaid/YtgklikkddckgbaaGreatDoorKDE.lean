import Derived.Test.YtgklikkddckgbaaGreatDoorKDD
import Derived.Lib.OwnKind
/- Lemmas. -/
set_option linter.all false
set_option maxRecDepth 100000
set_option maxHeartbeats 8000000
namespace Go.Proofs.YtgklikkddckgbaaGreatDoor.Mo
open Go.RowKit
theorem zdp {s:ByteArray} {i:Nat} {c:Int} (h:gT s i c=true):((gO s i).toNat:Int)=c:=by
 have hi:=Xu h;rw[QH hi] at h;rw[ZI hi];simpa using h
theorem zbD {s:ByteArray} {i:Nat} {c d:Int} (h:gT s i c=true) (hd:c≠d):gT s i d=false:=by
 have hi:=Xu h;rw[QH hi] at h|-;have:(s[i].toNat:Int)=c:=by simpa using h
 rw[this];simpa using hd
def zjr (c:Int) (i:Nat) (r:Except (Int×Nat) (Int×Nat)):Except (Int×Nat) (Mk×Nat):=match r with
 |.error e=>.error e
 |.ok (v,e)=>.ok (⟨c,v,i⟩,e)
theorem zdq {s:ByteArray} {gC:List UInt8} {ms:List Mk} {i:Nat} {c:Int} (h:gT s i c=true) (h1:c≠126) (h2:c≠58) (h3:c≠39):
  QM s gC ms i=if pt ms c then .error (180,i) else zjr c i (yO s 1 (i+1)):=by
 unfold QM;rw[zbD h h1,zbD h h2,zbD h h3,zdp h];have hm:=zfK ms c;by_cases hk:1<=pB ms c
 ·rw[qx (by simpa using hk),<-hm,qP hk];rfl
 ·rw[qv (by simpa using hk),<-hm,zp hk];unfold zjr;cases yO s 1 (i+1)<;>rfl
def zca (B rb fb xb:Nat) (s:ByteArray) (gC:List UInt8) (cls ref:Int) (ms:List Mk) (a:Nat) (vh:Value) (r:Except (Int×Nat) (Mk×Nat)) (w:World) (e:Ending) (w':World):Prop:=
 Off (rb::xb::vh.ownBlock.toList) w w'/\
 match r with
 |.error (c,p)=>e=vY c p
 |.ok (m,j)=>e=.returned (.tuple #[])/\Rd w' rb fb s j/\∃vh',JO w' B xb gC cls ref (ms++[m]) a vh'/\(vh'.ownBlock=vh.ownBlock∨∃b,vh'.ownBlock=some b/\w.heap.size<=b)
theorem zey {s:ByteArray} {i:Nat} {v:Int} {e:Nat} (h:yO s 1 i=.ok (v,e)):1<=v/\v<=512:=by
 unfold yO at h;split at h
 ·cases h
 ·split at h
  ·cases h
  ·cases h;omega
theorem zlJ {s:ByteArray} {l:Int} {i:Nat} {v:Int} {e:Nat} (hi:i<=s.size) (h:yO s l i=.ok (v,e)):i<=e/\e<=s.size:=by
 unfold yO at h;split at h
 ·cases h
 ·split at h
  ·cases h
  ·cases h;exact Y1 i i hi
theorem zjs {gC:List UInt8} {cls ref:Int} {ms:List Mk} {a:Nat} {vh:Value} {v:Int} {i:Nat} (h0:pt ms 47=false):
  p9 gC cls ref (ms++[⟨47,v,i⟩]) a vh=((p9 gC cls ref ms a vh).setIfInBounds 12 (.bool true)).setIfInBounds 4 (.int .i64 v):=by
 unfold p9;rw[zew (by decide:(47:Int)≠58),KJ (c:=58) (by decide:(47:Int)≠58),zjo (c:=47) h0 rfl,KJ (c:=94) (by decide:(47:Int)≠94),KJ (c:=64) (by decide:(47:Int)≠64),KJ (c:=39) (by decide:(47:Int)≠39),zex _ rfl,zbh,zbh];simp
theorem zkH {gC:List UInt8} {cls ref:Int} {ms:List Mk} {a:Nat} {vh:Value} {v:Int} {i:Nat} (h0:pt ms 94=false):
  p9 gC cls ref (ms++[⟨94,v,i⟩]) a vh=((p9 gC cls ref ms a vh).setIfInBounds 10 (.int .i64 (if Qa ms<0 then(i:Int) else Qa ms))).setIfInBounds 5 (.int .i64 v):=by
 unfold p9;rw[zew (by decide:(94:Int)≠58),KJ (c:=58) (by decide:(94:Int)≠58),KJ (c:=47) (by decide:(94:Int)≠47),zjo (c:=94) h0 rfl,KJ (c:=64) (by decide:(94:Int)≠64),KJ (c:=39) (by decide:(94:Int)≠39),zfJ _ rfl,zbh,zbh];simp
theorem zkI {gC:List UInt8} {cls ref:Int} {ms:List Mk} {a:Nat} {vh:Value} {v:Int} {i:Nat} (h0:pt ms 64=false):
  p9 gC cls ref (ms++[⟨64,v,i⟩]) a vh=((p9 gC cls ref ms a vh).setIfInBounds 10 (.int .i64 (if Qa ms<0 then(i:Int) else Qa ms))).setIfInBounds 6 (.int .i64 v):=by
 unfold p9;rw[zew (by decide:(64:Int)≠58),KJ (c:=58) (by decide:(64:Int)≠58),KJ (c:=47) (by decide:(64:Int)≠47),KJ (c:=94) (by decide:(64:Int)≠94),zjo (c:=64) h0 rfl,KJ (c:=39) (by decide:(64:Int)≠39),zfJ _ rfl,zbh,zbh];simp
theorem JO.num {w:World} {B xb:Nat} {gC:List UInt8} {cls ref:Int} {ms:List Mk} {a:Nat} {vh:Value} {w':World} {c v:Int} {i:Nat} {L:List Nat} (h:JO w B xb gC cls ref ms a vh) (ho:Off L w w') (hL:∀k,vh.ownBlock=some k->k∉L) (hc:c=47∨c=94∨c=64) (hv:1<=v/\v<=512)
  (hx:w'.heap[xb]?=some (.cells (p9 gC cls ref (ms++[⟨c,v,i⟩]) a vh) 108 (0,0))):JO w' B xb gC cls ref (ms++[⟨c,v,i⟩]) a vh:=by
 have ZZ:c≠126:=by omega
 have hh:pm (ms++[⟨c,v,i⟩])=pm ms:=zjp ms ZZ;refine⟨hx,?_,?_,?_,h.hB⟩
 ·rw[hh];exact ho.own h.h hL
 ·intro m hm;rcases qJ.1 hm with hm|hm
  ·exact h.ok m hm
  ·obtain rfl:m=⟨c,v,i⟩:=by simpa using hm
   exact⟨by show c=58∨c=47∨c=94∨c=64∨c=126∨c=39;omega,λe=>by have e2:c=58∨c=39:=e;omega,λ_ _=>hv⟩
 ·unfold pB;rw[jG];have:List.countP (λm=>m.sign==126) [(⟨c,v,i⟩:Mk)]=0:=by simp[ZZ]
  rw[this];exact h.four
theorem JO.sep {w:World} {B xb:Nat} {gC:List UInt8} {cls ref:Int} {ms:List Mk} {a:Nat} {vh:Value} (h:JO w B xb gC cls ref ms a vh) {rb fb i:Nat} {s:ByteArray} (hr:Rd w rb fb s i):rb≠xb/\∀k,vh.ownBlock=some k->k≠rb/\k≠xb:=by
 refine⟨λe=>?_,λk hk=>?_⟩
 ·have:=hr.r;rw[e,h.x] at this;simp only[yc,yH] at this;exact absurd this.2.1 (by decide)
 ·rcases h.h.2 with⟨e,_⟩|⟨g,cap,cur,e,_,hg,_⟩
  ·rw[e] at hk;cases hk
  ·rw[e] at hk;cases hk;refine⟨λe2=>?_,λe2=>?_⟩
   ·subst e2;have:=hr.r;rw[hg] at this;simp only[yc,yH] at this;exact absurd this.2.1 (by decide)
   ·subst e2;have:=h.x;rw[hg] at this;simp only[yc,yH] at this;exact absurd this.2.1 (by decide)
theorem zfM (B rb fb xb:Nat) (s:ByteArray) (i:Nat) (gC:List UInt8) (cls ref:Int) (ms:List Mk) (a:Nat) (vh:Value) (w:World) (h:Rd w rb fb s i) (hx:JO w B xb gC cls ref ms a vh) (hs:gT s i 47=true) (hv:Vars w) (h9:9<=rb) (h9x:9<=xb):
  Calls Tryz.prog 182 #[.pointer (some ⟨rb,0,none⟩),.pointer (some ⟨xb,0,none⟩)] w (zca B rb fb xb s gC cls ref ms a vh (QM s gC ms i) w):=by
 rw[zdq (gC:=gC) (ms:=ms) hs (by decide) (by decide) (by decide)];have hi:=Xu hs;obtain⟨hne,hsp⟩:=hx.sep h;have hxl:xb<w.heap.size:=(qg hx.x).1;have xf:w.cell? ⟨xb,12,none⟩=some (.bool (pt ms 47)):=qc _ _ 12 _ _ (0,0) hx.x;have ZK:=qh (zeg rb fb s i (pt ms 47) w h hi);have Hx:=qh hx;have Hv:=qh hv;clear h hx hv hs;cases hany:pt ms 47 with
 |true=>
  rw[hany] at ZK xf;rw[qx rfl];clear hany;go_enter Tryz.func182,Tryz.ntmps182;go_wp2_with fail;refine ZK.out.mono ?_;rintro e w2 hst;unfold Yc zgp at hst;simp only[kV] at hst;obtain⟨rfl,ho⟩:=hst;exact⟨rfl,ho.mono (λk hk=>.inl (by simp at hk|-;exact .inl hk)),rfl⟩
 |false=>
  rw[hany] at ZK xf;rw[qv (by simp)];have Xx:=qh hany;generalize hR:zjr 47 i (yO s 1 (i+1))=R;have HR:=qh hR;clear hany hR;go_enter Tryz.func182,Tryz.ntmps182;go_wp2_with fail;refine ZK.out.mono ?_;rintro e w2 hst;unfold Yc zgp at hst;simp only[kj,yC] at hst;obtain⟨rfl,hrd,ho1⟩:=hst;have hx2:=(ho1.block xb hxl (by simp;omega)).trans Hx.out.x;have ho:Off [rb,xb] w w2:=ho1.mono (λk hk=>.inl (by simp at hk|-;exact .inl hk));have pr:=qh (zcq rb fb s (i+1) 1 w2 hrd (Vars.off Hv.out ho (by simp;exact⟨h9,h9x⟩)) h9 (by decide) (by decide));clear ho1;have Ho:=qh ho;have Q6:=qh hx2;have Jv:xb<w2.heap.size:=by have:=ho.size;omega
  clear hrd ho hx2 xf;go_wp2_with fail;refine pr.out.mono ?_;rintro e w3 ⟨ho3,hres⟩;have hx3:=(ho3.block xb Jv (by simp;omega)).trans Q6.out;have ZY:Off [rb,xb] w w3:=Ho.out.trans (ho3.mono (λk hk=>.inl (by simp at hk|-;exact .inl hk)));cases hN:yO s 1 (i+1) with
  |error ep=>
   obtain⟨c,p⟩:=ep;rw[hN] at hres;have hR2:R=.error (c,p):=(by rw[<-HR.out,hN];rfl);subst hres;refine⟨rfl,ZY.mono (λk hk=>.inl (by simp at hk|-;omega)),?_⟩;rw[hR2];rfl
  |ok vj=>
   obtain⟨v,j⟩:=vj;rw[hN] at hres;have HR2:Hid (R=.ok (⟨47,v,i⟩,j)):=qh (by rw[<-HR.out,hN];rfl);obtain⟨rfl,pV⟩:=hres;have hbd:=zey hN;have x12:w3.cell? ⟨xb,12,none⟩=some (.bool (pt ms 47)):=qc _ _ 12 _ _ (0,0) hx3;have z12:=qf _ _ 12 _ _ hx3;have hx4:=qs w3 xb 12 _ _ (.bool true) hx3;have y4:(w3.setCell ⟨xb,12,none⟩ (.bool true)).cell? ⟨xb,4,none⟩=some (.int .i64 (gN ms 47)):=qc _ _ 4 _ _ (0,0) hx4;have z4:=qf _ _ 4 _ _ hx4;have hx5:=qs _ xb 4 _ _ (.int .i64 v) hx4;rw[<-zjs (i:=i) Xx.out] at hx5;have hos:Off [xb] w3 ((w3.setCell ⟨xb,12,none⟩ (.bool true)).setCell ⟨xb,4,none⟩ (.int .i64 v)):=(Off.setCell w3 xb 12 _).trans (Off.setCell _ xb 4 _);clear hx4;have QY:Off [rb,xb] w ((w3.setCell ⟨xb,12,none⟩ (.bool true)).setCell ⟨xb,4,none⟩ (.int .i64 v)):=ZY.trans (hos.mono (λk hk=>.inl (by simp at hk|-;exact .inr hk)));have pu:Off (rb::xb::vh.ownBlock.toList) w ((w3.setCell ⟨xb,12,none⟩ (.bool true)).setCell ⟨xb,4,none⟩ (.int .i64 v)):=QY.mono (λk hk=>.inl (by simp at hk|-;omega));have gI:Hid (zca B rb fb xb s gC cls ref ms a vh R w (.returned (.tuple #[])) ((w3.setCell ⟨xb,12,none⟩ (.bool true)).setCell ⟨xb,4,none⟩ (.int .i64 v))):=qh (by
    rw[HR2.out];exact⟨pu,rfl,pV.off hos (by simp;exact hne),vh,Hx.out.num QY (λk hk=>by have:=hsp k hk;simp;exact this) (by decide) hbd hx5,.inl rfl⟩)
   clear hx3 ZY pV hbd hx5 pu QY hN ho3 hos;go_wp2_with fail;refine q9 (qI rfl _ _ _) rfl ?_;exact gI.out
theorem zgr (B rb fb xb:Nat) (s:ByteArray) (i:Nat) (gC:List UInt8) (cls ref:Int) (ms:List Mk) (a:Nat) (vh:Value) (w:World) (h:Rd w rb fb s i) (hx:JO w B xb gC cls ref ms a vh) (hs:gT s i 94=true) (hv:Vars w) (h9:9<=rb) (h9x:9<=xb):
  Calls Tryz.prog 183 #[.pointer (some ⟨rb,0,none⟩),.pointer (some ⟨xb,0,none⟩)] w (zca B rb fb xb s gC cls ref ms a vh (QM s gC ms i) w):=by
 rw[zdq (gC:=gC) (ms:=ms) hs (by decide) (by decide) (by decide)];have hi:=Xu hs;obtain⟨hne,hsp⟩:=hx.sep h;have hxl:xb<w.heap.size:=(qg hx.x).1;have xf:w.cell? ⟨xb,5,none⟩=some (.int .i64 (gN ms 94)):=qc _ _ 5 _ _ (0,0) hx.x;have hd:decide (0<gN ms 94)=pt ms 94:=by
  have:=(zlI hx.ok (c:=94)).1;cases hh:pt ms 94 with
  |true=>rw[hh] at this;exact qt (this.mpr rfl)
  |false=>rw[hh] at this;exact qd (λe=>by have:=this.mp e;cases this)
 have ZK:=qh (zcI rb fb xb s i (pt ms 94) ms (p9 gC cls ref ms a vh) w h hi hx.x rfl hne);have Hx:=qh hx;have Hv:=qh hv;clear h hx hv hs;cases hany:pt ms 94 with
 |true=>
  rw[hany] at ZK hd;rw[qx rfl];clear hany;go_enter Tryz.func183,Tryz.ntmps183;go_wp2_with fail;refine ZK.out.mono ?_;rintro e w2 hst;obtain⟨ho,he⟩:=hst;rw[qx rfl] at he;subst he;exact⟨rfl,ho.mono (λk hk=>.inl (by simp at hk|-;omega)),rfl⟩
 |false=>
  rw[hany] at ZK hd;rw[qv (by simp)];have Xx:=qh hany;generalize hR:zjr 94 i (yO s 1 (i+1))=R;have HR:=qh hR;clear hany hR;go_enter Tryz.func183,Tryz.ntmps183;go_wp2_with fail;refine ZK.out.mono ?_;rintro e w2 hst;obtain⟨ho,he⟩:=hst;rw[qv (by simp)] at he;obtain⟨rfl,hrd,hx2⟩:=he;have pr:=qh (zcq rb fb s (i+1) 1 w2 hrd (Vars.off Hv.out ho (by simp;exact⟨h9,h9x⟩)) h9 (by decide) (by decide));have Ho:=qh ho;have Q6:=qh hx2;have Jv:xb<w2.heap.size:=by have:=ho.size;omega
  clear hrd ho hx2 xf;go_wp2_with fail;refine pr.out.mono ?_;rintro e w3 ⟨ho3,hres⟩;have hx3:=(ho3.block xb Jv (by simp;omega)).trans Q6.out;have ZY:Off [rb,xb] w w3:=Ho.out.trans (ho3.mono (λk hk=>.inl (by simp at hk|-;exact .inl hk)));cases hN:yO s 1 (i+1) with
  |error ep=>
   obtain⟨c,p⟩:=ep;rw[hN] at hres;have hR2:R=.error (c,p):=(by rw[<-HR.out,hN];rfl);subst hres;refine⟨rfl,ZY.mono (λk hk=>.inl (by simp at hk|-;omega)),?_⟩;rw[hR2];rfl
  |ok vj=>
   obtain⟨v,j⟩:=vj;rw[hN] at hres;have HR2:Hid (R=.ok (⟨94,v,i⟩,j)):=qh (by rw[<-HR.out,hN];rfl);obtain⟨rfl,pV⟩:=hres;have hbd:=zey hN;have xq:w3.cell? ⟨xb,5,none⟩=some (.int .i64 (gN ms 94)):=qc _ _ 5 _ _ (0,0) hx3;have zq:=qf _ _ 5 _ _ hx3;have hx5:=qs _ xb 5 _ _ (.int .i64 v) hx3;rw[<-zkH (i:=i) Xx.out] at hx5;have hos:Off [xb] w3 (w3.setCell ⟨xb,5,none⟩ (.int .i64 v)):=Off.setCell w3 xb 5 _;have QY:Off [rb,xb] w (w3.setCell ⟨xb,5,none⟩ (.int .i64 v)):=ZY.trans (hos.mono (λk hk=>.inl (by simp at hk|-;exact .inr hk)));have pu:Off (rb::xb::vh.ownBlock.toList) w (w3.setCell ⟨xb,5,none⟩ (.int .i64 v)):=QY.mono (λk hk=>.inl (by simp at hk|-;omega));have gI:Hid (zca B rb fb xb s gC cls ref ms a vh R w (.returned (.tuple #[])) (w3.setCell ⟨xb,5,none⟩ (.int .i64 v))):=qh (by
    rw[HR2.out];exact⟨pu,rfl,pV.off hos (by simp;exact hne),vh,Hx.out.num QY (λk hk=>by have:=hsp k hk;simp;exact this) (by decide) hbd hx5,.inl rfl⟩)
   clear hx3 ZY pV hbd hx5 pu QY hN ho3 hos;go_wp2_with fail;refine q9 (qI rfl _ _ _) rfl ?_;exact gI.out
theorem zgs (B rb fb xb:Nat) (s:ByteArray) (i:Nat) (gC:List UInt8) (cls ref:Int) (ms:List Mk) (a:Nat) (vh:Value) (w:World) (h:Rd w rb fb s i) (hx:JO w B xb gC cls ref ms a vh) (hs:gT s i 64=true) (hv:Vars w) (h9:9<=rb) (h9x:9<=xb):
  Calls Tryz.prog 184 #[.pointer (some ⟨rb,0,none⟩),.pointer (some ⟨xb,0,none⟩)] w (zca B rb fb xb s gC cls ref ms a vh (QM s gC ms i) w):=by
 rw[zdq (gC:=gC) (ms:=ms) hs (by decide) (by decide) (by decide)];have hi:=Xu hs;obtain⟨hne,hsp⟩:=hx.sep h;have hxl:xb<w.heap.size:=(qg hx.x).1;have xf:w.cell? ⟨xb,6,none⟩=some (.int .i64 (gN ms 64)):=qc _ _ 6 _ _ (0,0) hx.x;have hd:decide (0<gN ms 64)=pt ms 64:=by
  have:=(zlI hx.ok (c:=64)).1;cases hh:pt ms 64 with
  |true=>rw[hh] at this;exact qt (this.mpr rfl)
  |false=>rw[hh] at this;exact qd (λe=>by have:=this.mp e;cases this)
 have ZK:=qh (zcI rb fb xb s i (pt ms 64) ms (p9 gC cls ref ms a vh) w h hi hx.x rfl hne);have Hx:=qh hx;have Hv:=qh hv;clear h hx hv hs;cases hany:pt ms 64 with
 |true=>
  rw[hany] at ZK hd;rw[qx rfl];clear hany;go_enter Tryz.func184,Tryz.ntmps184;go_wp2_with fail;refine ZK.out.mono ?_;rintro e w2 hst;obtain⟨ho,he⟩:=hst;rw[qx rfl] at he;subst he;exact⟨rfl,ho.mono (λk hk=>.inl (by simp at hk|-;omega)),rfl⟩
 |false=>
  rw[hany] at ZK hd;rw[qv (by simp)];have Xx:=qh hany;generalize hR:zjr 64 i (yO s 1 (i+1))=R;have HR:=qh hR;clear hany hR;go_enter Tryz.func184,Tryz.ntmps184;go_wp2_with fail;refine ZK.out.mono ?_;rintro e w2 hst;obtain⟨ho,he⟩:=hst;rw[qv (by simp)] at he;obtain⟨rfl,hrd,hx2⟩:=he;have pr:=qh (zcq rb fb s (i+1) 1 w2 hrd (Vars.off Hv.out ho (by simp;exact⟨h9,h9x⟩)) h9 (by decide) (by decide));have Ho:=qh ho;have Q6:=qh hx2;have Jv:xb<w2.heap.size:=by have:=ho.size;omega
  clear hrd ho hx2 xf;go_wp2_with fail;refine pr.out.mono ?_;rintro e w3 ⟨ho3,hres⟩;have hx3:=(ho3.block xb Jv (by simp;omega)).trans Q6.out;have ZY:Off [rb,xb] w w3:=Ho.out.trans (ho3.mono (λk hk=>.inl (by simp at hk|-;exact .inl hk)));cases hN:yO s 1 (i+1) with
  |error ep=>
   obtain⟨c,p⟩:=ep;rw[hN] at hres;have hR2:R=.error (c,p):=(by rw[<-HR.out,hN];rfl);subst hres;refine⟨rfl,ZY.mono (λk hk=>.inl (by simp at hk|-;omega)),?_⟩;rw[hR2];rfl
  |ok vj=>
   obtain⟨v,j⟩:=vj;rw[hN] at hres;have HR2:Hid (R=.ok (⟨64,v,i⟩,j)):=qh (by rw[<-HR.out,hN];rfl);obtain⟨rfl,pV⟩:=hres;have hbd:=zey hN;have xq:w3.cell? ⟨xb,6,none⟩=some (.int .i64 (gN ms 64)):=qc _ _ 6 _ _ (0,0) hx3;have zq:=qf _ _ 6 _ _ hx3;have hx5:=qs _ xb 6 _ _ (.int .i64 v) hx3;rw[<-zkI (i:=i) Xx.out] at hx5;have hos:Off [xb] w3 (w3.setCell ⟨xb,6,none⟩ (.int .i64 v)):=Off.setCell w3 xb 6 _;have QY:Off [rb,xb] w (w3.setCell ⟨xb,6,none⟩ (.int .i64 v)):=ZY.trans (hos.mono (λk hk=>.inl (by simp at hk|-;exact .inr hk)));have pu:Off (rb::xb::vh.ownBlock.toList) w (w3.setCell ⟨xb,6,none⟩ (.int .i64 v)):=QY.mono (λk hk=>.inl (by simp at hk|-;omega));have gI:Hid (zca B rb fb xb s gC cls ref ms a vh R w (.returned (.tuple #[])) (w3.setCell ⟨xb,6,none⟩ (.int .i64 v))):=qh (by
    rw[HR2.out];exact⟨pu,rfl,pV.off hos (by simp;exact hne),vh,Hx.out.num QY (λk hk=>by have:=hsp k hk;simp;exact this) (by decide) hbd hx5,.inl rfl⟩)
   clear hx3 ZY pV hbd hx5 pu QY hN ho3 hos;go_wp2_with fail;refine q9 (qI rfl _ _ _) rfl ?_;exact gI.out
theorem zd1 {s:ByteArray} {gC:List UInt8} {ms:List Mk} {i:Nat} (h:gT s i 39=true):
  QM s gC ms i=if pt ms 39 then .error (180,i) else if pK s (i+1) 97 122 then .ok (⟨39,(gO s (i+1)).toNat,i⟩,i+2) else .error (180,i+1):=by
 unfold QM;rw[zbD h (by decide:(39:Int)≠126),zbD h (by decide:(39:Int)≠58),h,zdp h];have hm:=zfK ms 39;by_cases hk:1<=pB ms 39
 ·rw[qx (by simpa using hk),<-hm,qP hk];rfl
 ·rw[qv (by simpa using hk),<-hm,zp hk];by_cases hb:pK s (i+1) 97 122=true
  ·rw[qx (by rfl),qv (by simpa using hb),qv (by simp),qv (by simp),qx hb]
  ·rw[qx (by rfl),qx (by simpa using hb),qv (by simp),qv hb]
theorem zez {s:ByteArray} {gC:List UInt8} {ms:List Mk} {i:Nat} (h:gT s i 58=true):
  QM s gC ms i=if pt ms 58 then .error (180,i) else if pK s (i+1) 97 122 then(if Lib.indexByte gC (gO s (i+1))<0 then .error (181,i+1) else .ok (⟨58,(gO s (i+1)).toNat,i⟩,i+2)) else .error (180,i+1):=by
 unfold QM;rw[zbD h (by decide:(58:Int)≠126),h,zdp h];have hm:=zfK ms 58;by_cases hk:1<=pB ms 58
 ·rw[qx (by simpa using hk),<-hm,qP hk];rfl
 ·rw[qv (by simpa using hk),<-hm,zp hk];by_cases hb:pK s (i+1) 97 122=true
  ·rw[qx (by rfl),qv (by simpa using hb)];by_cases hl:Lib.indexByte gC (gO s (i+1))<0
   ·rw[qx (by simpa using hl),qv (by simp),qx hb,qx hl]
   ·rw[qv (by simpa using hl),qv (by simp),qx hb,qv hl]
  ·rw[qx (by rfl),qx (by simpa using hb),qv (by simp),qv hb]
theorem ziI {gC:List UInt8} {cls ref:Int} {ms:List Mk} {a:Nat} {vh:Value} {v:Int} {i:Nat} (h0:pt ms 39=false):
  p9 gC cls ref (ms++[⟨39,v,i⟩]) a vh=(p9 gC cls ref ms a vh).setIfInBounds 8 (.int .i32 v):=by
 unfold p9;rw[zew (by decide:(39:Int)≠58),KJ (c:=58) (by decide:(39:Int)≠58),KJ (c:=47) (by decide:(39:Int)≠47),KJ (c:=94) (by decide:(39:Int)≠94),KJ (c:=64) (by decide:(39:Int)≠64),zjo (c:=39) h0 rfl,zex _ rfl,zbh,zbh];simp
theorem zjt {gC:List UInt8} {cls ref:Int} {ms:List Mk} {a:Nat} {vh:Value} {v:UInt8} {i:Nat} (h0:pt ms 58=false):
  p9 gC cls ref (ms++[⟨58,v.toNat,i⟩]) a vh=(((p9 gC cls ref ms a vh).setIfInBounds 2 (.int .i64 (Lib.indexByte gC v))).setIfInBounds 11 (.bool true)).setIfInBounds 3 (.int .u8 v.toNat):=by
 have e:((v.toNat:Nat):Int).toNat.toUInt8=v:=by simp
 unfold p9;rw[zlG h0 rfl,zjo (c:=58) h0 rfl,KJ (c:=47) (by decide:(58:Int)≠47),KJ (c:=94) (by decide:(58:Int)≠94),KJ (c:=64) (by decide:(58:Int)≠64),KJ (c:=39) (by decide:(58:Int)≠39),zex _ rfl,zbh,zbh];simp only[e];simp
theorem JO.let_ {w:World} {B xb:Nat} {gC:List UInt8} {cls ref:Int} {ms:List Mk} {a:Nat} {vh:Value} {w':World} {c v:Int} {i:Nat} {L:List Nat} (h:JO w B xb gC cls ref ms a vh) (ho:Off L w w') (hL:∀k,vh.ownBlock=some k->k∉L) (hc:c=58∨c=39) (hv:97<=v/\v<=122)
  (hx:w'.heap[xb]?=some (.cells (p9 gC cls ref (ms++[⟨c,v,i⟩]) a vh) 108 (0,0))):JO w' B xb gC cls ref (ms++[⟨c,v,i⟩]) a vh:=by
 have ZZ:c≠126:=by omega
 have hh:pm (ms++[⟨c,v,i⟩])=pm ms:=zjp ms ZZ;refine⟨hx,?_,?_,?_,h.hB⟩
 ·rw[hh];exact ho.own h.h hL
 ·intro m hm;rcases qJ.1 hm with hm|hm
  ·exact h.ok m hm
  ·obtain rfl:m=⟨c,v,i⟩:=by simpa using hm
   exact⟨by show c=58∨c=47∨c=94∨c=64∨c=126∨c=39;omega,λ_=>hv,λe1 e2=>by have e3:c≠58:=e1;have e4:c≠39:=e2;omega⟩
 ·unfold pB;rw[jG];have:List.countP (λm=>m.sign==126) [(⟨c,v,i⟩:Mk)]=0:=by simp[ZZ]
  rw[this];exact h.four
theorem zh1 {s:ByteArray} {i:Nat} (h:pK s i 97 122=true):97<=((gO s i).toNat:Int)/\((gO s i).toNat:Int)<=122:=by
 have hi:=zb7 h;rw[Y0 hi] at h;rw[ZI hi];simp only[qz,qC] at h;exact h
theorem ze4 (B rb fb xb:Nat) (s:ByteArray) (i:Nat) (gC:List UInt8) (cls ref:Int) (ms:List Mk) (a:Nat) (vh:Value) (w:World) (h:Rd w rb fb s i) (hx:JO w B xb gC cls ref ms a vh) (hs:gT s i 39=true):
  Calls Tryz.prog 186 #[.pointer (some ⟨rb,0,none⟩),.pointer (some ⟨xb,0,none⟩)] w (zca B rb fb xb s gC cls ref ms a vh (QM s gC ms i) w):=by
 rw[zd1 (gC:=gC) (ms:=ms) hs];have hi:=Xu hs;obtain⟨hne,hsp⟩:=hx.sep h;have hxl:xb<w.heap.size:=(qg hx.x).1;have xf:w.cell? ⟨xb,8,none⟩=some (.int .i32 (gN ms 39)):=qc _ _ 8 _ _ (0,0) hx.x;have hd:(gN ms 39 !=0)=pt ms 39:=(zlI hx.ok (c:=39)).2;have ZK:=qh (zeg rb fb s i (pt ms 39) w h hi);have Hx:=qh hx;clear h hx hs;cases hany:pt ms 39 with
 |true=>
  rw[hany] at ZK hd;rw[qx rfl];clear hany;go_enter Tryz.func186,Tryz.ntmps186;go_wp2_with fail;refine ZK.out.mono ?_;rintro e w2 hst;unfold Yc zgp at hst;simp only[kV] at hst;obtain⟨rfl,ho⟩:=hst;exact⟨rfl,ho.mono (λk hk=>.inl (by simp at hk|-;exact .inl hk)),rfl⟩
 |false=>
  rw[hany] at ZK hd;rw[qv (by simp)];have Xx:=qh hany;generalize hR:(if pK s (i+1) 97 122 then(.ok (⟨39,(gO s (i+1)).toNat,i⟩,i+2):Except (Int×Nat) (Mk×Nat)) else .error (180,i+1))=R;have HR:=qh hR;clear hany hR;go_enter Tryz.func186,Tryz.ntmps186;go_wp2_with fail;refine ZK.out.mono ?_;rintro e w2 hst;unfold Yc zgp at hst;simp only[kj,yC] at hst;obtain⟨rfl,hrd,ho1⟩:=hst;have hx2:=(ho1.block xb hxl (by simp;omega)).trans Hx.out.x;have zpQ:=qh (zdN rb fb s (i+1) w2 hrd);have Ho:=qh ho1;have Q6:=qh hx2;have Jv:xb<w2.heap.size:=by have:=ho1.size;omega
  clear hrd ho1 hx2 xf;go_wp2_with fail;refine zpQ.out.mono ?_;rintro e w3 ⟨ho3,hres⟩;have hx3:=(ho3.block xb Jv (by simp;omega)).trans Q6.out;have ZY:Off [rb,xb] w w3:=(Ho.out.trans ho3).mono (λk hk=>.inl (by simp at hk|-;exact .inl hk));cases hN:pK s (i+1) 97 122 with
  |false=>
   rw[hN,qv (by simp)] at hres;have hR2:R=.error (180,i+1):=(by rw[<-HR.out,hN];rfl);subst hres;refine⟨rfl,ZY.mono (λk hk=>.inl (by simp at hk|-;omega)),?_⟩;rw[hR2];rfl
  |true=>
   rw[hN,qx rfl] at hres;have HR2:Hid (R=.ok (⟨39,(gO s (i+1)).toNat,i⟩,i+2)):=qh (by rw[<-HR.out,hN];rfl);obtain⟨rfl,pV⟩:=hres;have hbd:=zh1 hN;generalize gO s (i+1)=c at*;have hwc:IntKind.i32.wrap (c.toNat:Int)=(c.toNat:Int):=IntWalk.i32_in _ (by omega);have xq:w3.cell? ⟨xb,8,none⟩=some (.int .i32 (gN ms 39)):=qc _ _ 8 _ _ (0,0) hx3;have zq:=qf _ _ 8 _ _ hx3;have hx5:=qs _ xb 8 _ _ (.int .i32 c.toNat) hx3;rw[<-ziI (i:=i) Xx.out] at hx5;have hos:Off [xb] w3 (w3.setCell ⟨xb,8,none⟩ (.int .i32 c.toNat)):=Off.setCell w3 xb 8 _;have QY:Off [rb,xb] w (w3.setCell ⟨xb,8,none⟩ (.int .i32 c.toNat)):=ZY.trans (hos.mono (λk hk=>.inl (by simp at hk|-;exact .inr hk)));have pu:Off (rb::xb::vh.ownBlock.toList) w (w3.setCell ⟨xb,8,none⟩ (.int .i32 c.toNat)):=QY.mono (λk hk=>.inl (by simp at hk|-;omega));have gI:Hid (zca B rb fb xb s gC cls ref ms a vh R w (.returned (.tuple #[])) (w3.setCell ⟨xb,8,none⟩ (.int .i32 c.toNat))):=qh (by
    rw[HR2.out];exact⟨pu,rfl,pV.off hos (by simp;exact hne),vh,Hx.out.let_ QY (λk hk=>by have:=hsp k hk;simp;exact this) (by decide) hbd hx5,.inl rfl⟩)
   clear hx3 ZY pV hbd hx5 pu QY hN ho3 hos;go_wp2_with fail;refine q9 (qI rfl _ _ _) rfl ?_;exact gI.out
def ZL (l:List UInt8):List Value:=l.map λb=>.int .u8 b.toNat
structure Yh (w:World) (B fb:Nat) (gC:List UInt8) (vl:Value):Prop where
 c:w.cell? ⟨fb,1,none⟩=some vl
 o:w.ownsRow B 5 1 vl gC.length (ZL gC)
theorem Yh.conv {w:World} {B fb:Nat} {gC:List UInt8} {vl:Value} (h:Yh w B fb gC vl):(∃a l c,vl=.slice a l c)/\(convert 25 9 vl).run Tryz.prog w=.ok (.string ⟨gC.toArray⟩) w:=by
 rcases h.o.2 with⟨rfl,h0⟩|⟨g,cap,cur,rfl,_⟩
 ·have:gC=[]:=zB h0;subst this;exact⟨⟨_,_,_,rfl⟩,run_convert_bytes_nil w _ _ qX qW 0 0 _ qN⟩
 ·refine⟨⟨_,_,_,rfl⟩,zx w _ _ _ ⟨g,0,none⟩ cap gC qX qW qN (λj hj=>?_)⟩;have hplain:(⟨g,0,none⟩:Addr).add j=⟨g,j,none⟩:=by unfold Addr.add;split<;>simp_all
  rw[hplain,h.o.cellAt j (by omega)];unfold ZL;simp[hj]
theorem Yh.off {w w':World} {B fb:Nat} {gC:List UInt8} {vl:Value} {L:List Nat} (h:Yh w B fb gC vl) (ho:Off L w w') (hf:fb<w.heap.size) (hfl:fb∉L) (hvl:∀k,vl.ownBlock=some k->k∉L):Yh w' B fb gC vl:=
 ⟨(ho.cell hf hfl).trans h.c,ho.own h.o hvl⟩
theorem zfN (B Bl rb fb xb:Nat) (s:ByteArray) (i:Nat) (gC:List UInt8) (cls ref:Int) (ms:List Mk) (a:Nat) (vh vl:Value) (w:World) (h:Rd w rb fb s i) (hx:JO w B xb gC cls ref ms a vh) (hs:gT s i 58=true)
  (hl:Yh w Bl fb gC vl) (hfs:fb<w.heap.size) (hfr:fb≠rb) (hfx:fb≠xb) (hvl:∀k,vl.ownBlock=some k->k≠rb/\k≠xb):
  Calls Tryz.prog 181 #[.pointer (some ⟨rb,0,none⟩),.pointer (some ⟨xb,0,none⟩)] w (zca B rb fb xb s gC cls ref ms a vh (QM s gC ms i) w):=by
 rw[zez (gC:=gC) (ms:=ms) hs];have hi:=Xu hs;obtain⟨hne,hsp⟩:=hx.sep h;have hxl:xb<w.heap.size:=(qg hx.x).1;have xf:w.cell? ⟨xb,11,none⟩=some (.bool (pt ms 58)):=qc _ _ 11 _ _ (0,0) hx.x;have ZK:=qh (zeg rb fb s i (pt ms 58) w h hi);have Hx:=qh hx;have Hl:=qh hl;clear h hx hs hl;cases hany:pt ms 58 with
 |true=>
  rw[hany] at ZK xf;rw[qx rfl];clear hany;go_enter Tryz.func181,Tryz.ntmps181;go_wp2_with fail;refine ZK.out.mono ?_;rintro e w2 hst;unfold Yc zgp at hst;simp only[kV] at hst;obtain⟨rfl,ho⟩:=hst;exact⟨rfl,ho.mono (λk hk=>.inl (by simp at hk|-;exact .inl hk)),rfl⟩
 |false=>
  rw[hany] at ZK xf;rw[qv (by simp)];have Xx:=qh hany;generalize hR:(if pK s (i+1) 97 122 then(if Lib.indexByte gC (gO s (i+1))<0 then(.error (181,i+1):Except (Int×Nat) (Mk×Nat)) else .ok (⟨58,(gO s (i+1)).toNat,i⟩,i+2)) else .error (180,i+1))=R;have HR:=qh hR;clear hany hR;go_enter Tryz.func181,Tryz.ntmps181;go_wp2_with fail;refine ZK.out.mono ?_;rintro e w2 hst;unfold Yc zgp at hst;simp only[kj,yC] at hst;obtain⟨rfl,hrd,ho1⟩:=hst;have hx2:=(ho1.block xb hxl (by simp;omega)).trans Hx.out.x;have zpQ:=qh (zdN rb fb s (i+1) w2 hrd);have Ho:=qh ho1;have Q6:=qh hx2;have Jv:xb<w2.heap.size:=by have:=ho1.size;omega
  clear hrd ho1 hx2 xf;go_wp2_with fail;refine zpQ.out.mono ?_;rintro e w3 ⟨ho3,hres⟩;have hx3:=(ho3.block xb Jv (by simp;omega)).trans Q6.out;have hor:=Ho.out.trans ho3;have ZY:Off [rb,xb] w w3:=hor.mono (λk hk=>.inl (by simp at hk|-;exact .inl hk));cases hN:pK s (i+1) 97 122 with
  |false=>
   rw[hN,qv (by simp)] at hres;have hR2:R=.error (180,i+1):=(by rw[<-HR.out,hN];rfl);subst hres;refine⟨rfl,ZY.mono (λk hk=>.inl (by simp at hk|-;omega)),?_⟩;rw[hR2];rfl
  |true=>
   rw[hN,qx rfl] at hres;have HR1:Hid (R=if Lib.indexByte gC (gO s (i+1))<0 then .error (181,i+1) else .ok (⟨58,(gO s (i+1)).toNat,i⟩,i+2)):=qh (by rw[<-HR.out,hN];rfl);obtain⟨rfl,pV⟩:=hres;have hbd:=zh1 hN;generalize gO s (i+1)=c at*;obtain⟨r0,r1,r2,r3⟩:=pV.cells;have hl3:=Hl.out.off hor hfs (by simp;exact hfr) (λk hk=>by have:=hvl k hk;simp;exact this.1);obtain⟨⟨la,ll,lc,zp4⟩,hcv⟩:=hl3.conv;subst zp4;have hlc:=hl3.c;have hix:=qh (Tryz.strings_IndexByte ⟨gC.toArray⟩ c.toNat w3);have x2:w3.cell? ⟨xb,2,none⟩=some (.int .i64 (Zn gC ms)):=qc _ _ 2 _ _ (0,0) hx3;have z2:=qf _ _ 2 _ _ hx3;have hx4:=qs _ xb 2 _ _ (.int .i64 (Lib.indexByte gC c)) hx3;have y2:(w3.setCell ⟨xb,2,none⟩ (.int .i64 (Lib.indexByte gC c))).cell? ⟨xb,2,none⟩=some (.int .i64 (Lib.indexByte gC c)):=qc _ _ 2 _ _ (0,0) hx4;have X9:(w3.setCell ⟨xb,2,none⟩ (.int .i64 (Lib.indexByte gC c))).cell? ⟨xb,11,none⟩=some (.bool (pt ms 58)):=qc _ _ 11 _ _ (0,0) hx4;have z11:=qf _ _ 11 _ _ hx4;have e1:((c.toNat:Int)).toNat.toUInt8=c:=(by simp);rw[e1] at hix;have Hos:Hid (Off [xb] w3 (w3.setCell ⟨xb,2,none⟩ (.int .i64 (Lib.indexByte gC c)))):=qh (Off.setCell w3 xb 2 _);have J2:=qh pV;have Hoo:=qh ZY;have Hx4:=qh hx4;have Xy:=qh hbd;clear hx3 ZY pV hbd hx4 hN ho3 hor hl3;go_wp2_with fail;refine hix.out.mono ?_;rintro e w4 ⟨rfl,rfl⟩;generalize hn':Lib.indexByte gC c=n at*;have Hn':=qh hn';clear hn' hix;by_cases hn:n<0
   ·have hdn:decide (n<0)=true:=qt hn;have HR2:Hid (R=.error (181,i+1)):=qh (by rw[HR1.out,qx hn]);have hf:=qh (gM 181 (i+1) (w4.setCell ⟨xb,2,none⟩ (.int .i64 n)));clear hn;go_wp2_with fail;refine hf.out.mono ?_;rintro e w5 ⟨rfl,hb5⟩;refine⟨rfl,((Hoo.out.trans (Hos.out.mono (λk hk=>.inl (by simp at hk|-;exact .inr hk)))).trans (Off.of_below hb5 (ql _) _)).mono (λk hk=>.inl (by simp at hk|-;omega)),?_⟩;rw[HR2.out];rfl
   ·have hdn:decide (n<0)=false:=qd hn;have HR2:Hid (R=.ok (⟨58,c.toNat,i⟩,i+2)):=qh (by rw[HR1.out,qv hn]);have hx5:=qs _ xb 11 _ _ (.bool true) Hx4.out;have y3:((w4.setCell ⟨xb,2,none⟩ (.int .i64 n)).setCell ⟨xb,11,none⟩ (.bool true)).cell? ⟨xb,3,none⟩=some (.int .u8 (gN ms 58)):=qc _ _ 3 _ _ (0,0) hx5;have z3:=qf _ _ 3 _ _ hx5;have hx6:=qs _ xb 3 _ _ (.int .u8 c.toNat) hx5;have hit:=zjt (gC:=gC) (cls:=cls) (ref:=ref) (a:=a) (vh:=vh) (v:=c) (i:=i) Xx.out;rw[Hn'.out] at hit;rw[<-hit] at hx6;have Vm:Off [xb] w4 (((w4.setCell ⟨xb,2,none⟩ (.int .i64 n)).setCell ⟨xb,11,none⟩ (.bool true)).setCell ⟨xb,3,none⟩ (.int .u8 c.toNat)):=(Hos.out.trans (Off.setCell _ xb 11 _)).trans (Off.setCell _ xb 3 _);have QY:Off [rb,xb] w (((w4.setCell ⟨xb,2,none⟩ (.int .i64 n)).setCell ⟨xb,11,none⟩ (.bool true)).setCell ⟨xb,3,none⟩ (.int .u8 c.toNat)):=Hoo.out.trans (Vm.mono (λk hk=>.inl (by simp at hk|-;exact .inr hk)));have pu:Off (rb::xb::vh.ownBlock.toList) w (((w4.setCell ⟨xb,2,none⟩ (.int .i64 n)).setCell ⟨xb,11,none⟩ (.bool true)).setCell ⟨xb,3,none⟩ (.int .u8 c.toNat)):=QY.mono (λk hk=>.inl (by simp at hk|-;omega));have gI:Hid (zca B rb fb xb s gC cls ref ms a vh R w (.returned (.tuple #[])) (((w4.setCell ⟨xb,2,none⟩ (.int .i64 n)).setCell ⟨xb,11,none⟩ (.bool true)).setCell ⟨xb,3,none⟩ (.int .u8 c.toNat))):=qh (by
     rw[HR2.out];exact⟨pu,rfl,J2.out.off Vm (by simp;exact hne),vh,Hx.out.let_ QY (λk hk=>by have:=hsp k hk;simp;exact this) (by decide) Xy.out hx6,.inl rfl⟩)
    clear hn hx5 hx6 hit Vm QY pu;go_wp2_with fail;refine q9 (qI rfl _ _ _) rfl ?_;exact gI.out
end Go.Proofs.YtgklikkddckgbaaGreatDoor.Mo
namespace Go.Proofs.YtgklikkddckgbaaGreatDoor
open Go.RowKit
def yN:Value:=.slice none 0 0
def Z0:List Ft->List Value->List Value
 |f::fs,v::vs=>.string f.own::v::Z0 fs vs
 |_,_=>[]
def Xj (l:List (Int×Int)):List Value:=l.flatMap λv=>[.int .i64 v.1,.int .i64 v.2]
theorem zcr:∀(fs:List Ft) (vs:List Value) (k:Nat),vs.length=fs.length->k<fs.length->
  (Z0 fs vs)[k*2]?=some (.string (fs.getD k default).own)/\(Z0 fs vs)[k*2+1]?=some (vs.getD k yN)
 |[],_,k,_,h=>by simp at h
 |f::fs,[],k,h,_=>by simp at h
 |f::fs,v::vs,0,_,_=>by simp[Z0]
 |f::fs,v::vs,k+1,h,hk=>by
  have ih:=zcr fs vs k (by simpa using h) (by simpa using hk);have e1:(k+1)*2=k*2+1+1:=by omega
  rw[e1];simpa [Z0] using ih
theorem zc9:∀(fs:List Ft) (vs:List Value) (k:Nat) (v:Value) (g:Ft),vs.length=fs.length->k<fs.length->g.own=(fs.getD k default).own->
  Z0 (fs.set k g) (vs.set k v)=(Z0 fs vs).set (k*2+1) v
 |[],_,k,_,_,_,h,_=>by simp at h
 |f::fs,[],k,_,_,h,_,_=>by simp at h
 |f::fs,u::vs,0,v,g,_,_,hg=>by simp at hg;simp[Z0,hg]
 |f::fs,u::vs,k+1,v,g,h,hk,hg=>by
  have ih:=zc9 fs vs k v g (by simpa using h) (by simpa using hk) (by simpa using hg);have e1:(k+1)*2+1=k*2+1+1+1:=by omega
  rw[e1];simp[Z0,ih]
theorem zcJ:∀(fs:List Ft) (vs:List Value) (f:Ft) (v:Value),vs.length=fs.length->Z0 (fs++[f]) (vs++[v])=Z0 fs vs++[.string f.own,v]
 |[],[],f,v,_=>rfl
 |g::fs,u::vs,f,v,h=>by simp[Z0,zcJ fs vs f v (by simpa using h)]
 |[],u::vs,f,v,h=>by simp at h
 |g::fs,[],f,v,h=>by simp at h
theorem zd2:∀(l:List Way) (k:Nat),k<l.length->(QG l)[k*2]?=some (.string (l.getD k default).1)/\(QG l)[k*2+1]?=some (.int .i64 (l.getD k default).2)
 |[],k,h=>by simp at h
 |x::l,0,_=>by simp[QG]
 |x::l,k+1,hk=>by
  have ih:=zd2 l k (by simpa using hk);have e1:(k+1)*2=k*2+1+1:=by omega
  rw[e1];simpa [QG] using ih
theorem zbH (l:List Way) (x:Way):QG (l++[x])=QG l++[.string x.1,.int .i64 x.2]:=by simp[QG]
theorem zdr (l:List (Int×Int)) (x:Int×Int):Xj (l++[x])=Xj l++[.int .i64 x.1,.int .i64 x.2]:=by simp[Xj]
theorem zd3:∀(l:List (Int×Int)) (k:Nat),k<l.length->(Xj l)[k*2]?=some (.int .i64 (l.getD k default).1)/\(Xj l)[k*2+1]?=some (.int .i64 (l.getD k default).2)
 |[],k,h=>by simp at h
 |x::l,0,_=>by simp[Xj]
 |x::l,k+1,hk=>by
  have ih:=zd3 l k (by simpa using hk);have e1:(k+1)*2=k*2+1+1:=by omega
  rw[e1];simpa [Xj] using ih
theorem zds {w:World} {base:Nat} {v:Value} {l:List Way} (h:w.ownsRow base 83 2 v l.length (QG l)):∃A c,v=.slice A l.length c/\l.length<=c/\pc w w.heap.size A l:=by
 rcases h.2 with⟨rfl,h0⟩|⟨g,cap,cur,rfl,_,hg,hcap,_⟩
 ·rw[h0];exact⟨none,0,rfl,ql _,λhl=>by omega⟩
 ·refine⟨_,cap,rfl,hcap,λhl=>⟨g,0,rfl,(qg hg).1,λk hk=>?_⟩⟩;rw[xK,h.cellAt (k*2) (by omega),h.cellAt (k*2+1) (by omega)];exact zd2 l k hk
def Apart (vs:List Value):Prop:=∀i j k,i<vs.length->j<vs.length->i≠j->(vs.getD i yN).ownBlock=some k->(vs.getD j yN).ownBlock≠some k
structure RS (w:World) (base b:Nat) (s:ByteArray) (a:Nat) (t:ByteArray) (m:Met) (ah:Int) (vf ve vb:Value) (vs:List Value):Prop where
 rb:RB w b s a t vf ve vb ah
 hb:base<=b
 vl:vs.length=m.gD.length
 gD:w.ownsRow base 81 2 vf m.gD.length (Z0 m.gD vs)
 gG:∀k,k<m.gD.length->w.ownsRow base 83 2 (vs.getD k yN) (m.gD.getD k default).gG.length (QG (m.gD.getD k default).gG)
 ends:w.ownsRow base 83 2 ve m.ends.length (QG m.ends)
 gH:w.ownsRow base 85 2 vb m.gH.length (Xj m.gH)
 apart:Apart (ve::vs)
theorem ZQ {w:World} {B B' e e' z z' n n':Nat} {v v':Value} {x x':List Value} (h:w.ownsRow B e z v n x) (h':w.ownsRow B' e' z' v' n' x') (hne:e≠e'):v.ownBlock=none∨v.ownBlock≠v'.ownBlock:=by
 cases hv:v.ownBlock with
 |none=>exact .inl rfl
 |some k=>
  right;intro hk;obtain⟨c,fz,h1⟩:=xv h k hv;obtain⟨c',fz',h2⟩:=xv h' k hk.symm;rw[h1] at h2;simp at h2;exact hne h2.2.1
theorem py {w:World} {B e z n b:Nat} {v:Value} {x:List Value} {cs:Array Value} {e':Nat} {fz:Nat×Nat} (h:w.ownsRow B e z v n x) (hb:w.heap[b]?=some (.cells cs e' fz)) (hne:e≠e'):v.ownBlock=none∨v.ownBlock≠some b:=by
 cases hv:v.ownBlock with
 |none=>exact .inl rfl
 |some k=>
  right;intro hk;cases hk;obtain⟨c,fz',h1⟩:=xv h b hv;rw[hb] at h1;simp at h1;exact hne h1.2.1.symm
variable {w w':World} {base b a ah':Nat} {s t:ByteArray} {m:Met} {ah:Int} {vf ve vb:Value} {vs:List Value}
theorem RS.bl (h:RS w base b s a t m ah vf ve vb vs):b<w.heap.size:=(qg h.rb).1
theorem RS.only (h:RS w base b s a t m ah vf ve vb vs) {row:Option Nat} (hg:w.grownBy w' row) (h0:row≠some b) (h1:vf.ownBlock=none∨vf.ownBlock≠row) (h2:ve.ownBlock=none∨ve.ownBlock≠row) (h3:vb.ownBlock=none∨vb.ownBlock≠row)
  (h4:∀k,k<m.gD.length->(vs.getD k yN).ownBlock=none∨(vs.getD k yN).ownBlock≠row):RS w' base b s a t m ah vf ve vb vs:=
 ⟨(hg.block b h.bl (λe=>h0 e.symm)).trans h.rb,h.hb,h.vl,h.gD.kept hg h1,λk hk=>(h.gG k hk).kept hg (h4 k hk),h.ends.kept hg h2,h.gH.kept hg h3,h.apart⟩
theorem Yi {o:Option Nat}:o=none∨o≠none:=by cases o<;>simp
theorem RS.below (h:RS w base b s a t m ah vf ve vb vs) (hb:Below w.heap.size w w'):RS w' base b s a t m ah vf ve vb vs:=
 h.only (XS hb none) (by simp) Yi Yi Yi (λ_ _=>Yi)
theorem RS.move (h:RS w base b s a t m ah vf ve vb vs) (hg:w.grownBy w' (some b)) {a2:Nat} {t2:ByteArray} {ah2:Int} (hr:RB w' b s a2 t2 vf ve vb ah2):RS w' base b s a2 t2 m ah2 vf ve vb vs:=
 ⟨hr,h.hb,h.vl,h.gD.kept hg (py h.gD h.rb (by decide)),λk hk=>(h.gG k hk).kept hg (py (h.gG k hk) h.rb (by decide)),h.ends.kept hg (py h.ends h.rb (by decide)),h.gH.kept hg (py h.gH h.rb (by decide)),h.apart⟩
theorem Apart.set {v:Value} {vs:List Value} (h:Apart vs) {j:Nat} (hj:j<vs.length) {N:Nat} (hN:∀k b,k<vs.length->(vs.getD k yN).ownBlock=some b->b<N)
  (hv:v.ownBlock=(vs.getD j yN).ownBlock∨v.ownBlock=some N):Apart (vs.set j v):=by
 have hget:∀i,i<vs.length->(vs.set j v).getD i yN=if j=i then v else vs.getD i yN:=λi hi=>by
  simp only[qj,List.getElem?_set,hi];split<;>simp[*]
 intro i k b hi hk hne h1 h2;simp only[jD] at hi hk;rw[hget i hi] at h1;rw[hget k hk] at h2;by_cases e1:j=i
 ·subst e1;rw[qx rfl] at h1;rw[qv hne] at h2;rcases hv with hv|hv
  ·exact h j k b hi hk hne (hv▸h1) h2
  ·have:=hN k b hk h2;rw[hv] at h1;cases h1;omega
 ·rw[qv e1] at h1;by_cases e2:j=k
  ·subst e2;rw[qx rfl] at h2;rcases hv with hv|hv
   ·exact h i j b hi hk hne h1 (hv▸h2)
   ·have:=hN i b hi h1;rw[hv] at h2;cases h2;omega
  ·rw[qv e2] at h2;exact h i k b hi hk hne h1 h2
theorem Apart.snoc {v:Value} {vs:List Value} (h:Apart vs) (hv:v.ownBlock=none):Apart (vs++[v]):=by
 intro i k b hi hk hne h1 h2;simp only[qq,qB,qE] at hi hk;have hget:∀i,i<vs.length->(vs++[v]).getD i yN=vs.getD i yN:=λi hi=>by simp[qj,qY hi]
 have hlast:(vs++[v]).getD vs.length yN=v:=by simp[qj]
 by_cases e1:i<vs.length
 ·by_cases e2:k<vs.length
  ·rw[hget i e1] at h1;rw[hget k e2] at h2;exact h i k b e1 e2 hne h1 h2
  ·obtain rfl:k=vs.length:=by omega
   rw[hlast,hv] at h2;cases h2
 ·obtain rfl:i=vs.length:=by omega
  rw[hlast,hv] at h1;cases h1
theorem za7 (v:Value) (vs:List Value) (k:Nat):(v::vs).getD (k+1) yN=vs.getD k yN:=by simp[qj]
theorem RS.blocks (h:RS w base b s a t m ah vf ve vb vs):∀k b,k<(ve::vs).length->((ve::vs).getD k yN).ownBlock=some b->b<w.heap.size:=by
 intro k b hk hb;match k,hk,hb with
 |0,_,hb=>exact(h.ends.lt b (by simpa using hb)).2
 |k+1,hk,hb=>
  rw[za7] at hb;exact((h.gG k (by have:=h.vl;simp at hk;omega)).lt b hb).2
theorem zbX {α:Type} (l:List α) (j k:Nat) (x d:α) (hk:k<l.length):(l.set j x).getD k d=if j=k then x else l.getD k d:=by
 simp only[qj,List.getElem?_set,hk];split<;>simp[*]
variable {w w1:World} {base b a:Nat} {s t:ByteArray} {m:Met} {ah:Int} {vf ve vb:Value} {vs:List Value}
def Met.Qn (m:Met) (j:Nat) (f:Ft):Met:={m with gD:=m.gD.set j f}
theorem RS.way (h:RS w base b s a t m ah vf ve vb vs) {j g cap:Nat} (hj:j<m.gD.length) (Kk:vf=.slice (some ⟨g,0,none⟩) m.gD.length cap) (x:Way) {v':Value}
  (ho:w1.ownsRow base 83 2 v' ((m.gD.getD j default).gG.length+1) (QG (m.gD.getD j default).gG++[.string x.1,.int .i64 x.2])) (hg:w.grownBy w1 (vs.getD j yN).ownBlock)
  (hat:v'.ownBlock=(vs.getD j yN).ownBlock∨∃N,v'.ownBlock=some N/\w.heap.size<=N):
  RS (w1.setCell ⟨g,j*2+1,none⟩ v') base b s a t (m.Qn j ⟨(m.gD.getD j default).own,(m.gD.getD j default).gG++[x]⟩) ah vf ve vb (vs.set j v'):=by
 have hvl:=h.vl;have hjs:j+1<(ve::vs).length:=by simp;omega
 have Jw:∀k,k<(ve::vs).length->k≠j+1->((ve::vs).getD k yN).ownBlock=none∨((ve::vs).getD k yN).ownBlock≠(vs.getD j yN).ownBlock:=λk hk hne=>by
  cases hv:((ve::vs).getD k yN).ownBlock with
  |none=>exact .inl rfl
  |some q=>
   right;intro e;exact h.apart k (j+1) q hk hjs hne hv (by rw[za7];exact e.symm)
 have zrO:(vs.getD j yN).ownBlock≠some b:=by
  rcases py (h.gG j hj) h.rb (by decide) with e|e
  ·rw[e];simp
  ·exact e
 have f1:=h.gD.kept hg (ZQ h.gD (h.gG j hj) (by decide));have e1:w1.ownsRow base 83 2 ve m.ends.length (QG m.ends):=h.ends.kept hg (by simpa using Jw 0 (by simp) (by omega));have k1:=h.gH.kept hg (ZQ h.gH (h.gG j hj) (by decide));have r1:RB w1 b s a t vf ve vb ah:=(hg.block b h.bl (λe=>zrO e.symm)).trans h.rb;have o1:∀k,k<m.gD.length->k≠j->w1.ownsRow base 83 2 (vs.getD k yN) (m.gD.getD k default).gG.length (QG (m.gD.getD k default).gG):=λk hk hne=>
  (h.gG k hk).kept hg (by have:=Jw (k+1) (by simp;omega) (by omega);rwa [za7] at this)
 obtain⟨f2,g2⟩:=(Kk▸f1).stored (j*2+1) v';have hgf:vf.ownBlock=some g:=by rw[Kk];rfl
 have gne:∀{B e z n:Nat} {v:Value} {x:List Value},w1.ownsRow B e z v n x->e≠81->v.ownBlock=none∨v.ownBlock≠some g:=λhh hne=>by
  have:=ZQ hh f1 hne;rwa [hgf] at this
 have hbg:b≠g:=by
  rintro rfl;rcases py f1 r1 (by decide) with e|e
  ·rw[hgf] at e;cases e
  ·exact e hgf
 refine⟨?_,h.hb,by simp[Met.Qn,hvl],?_,?_,e1.kept g2 (gne e1 (by decide)),k1.kept g2 (gne k1 (by decide)),?_⟩
 ·exact(g2.block b (qg r1).1 (by simpa using hbg)).trans r1
 ·have:(m.Qn j ⟨(m.gD.getD j default).own,(m.gD.getD j default).gG++[x]⟩).gD.length=m.gD.length:=by simp[Met.Qn]
  rw[this,Kk];have hfs:=zc9 m.gD vs j v' ⟨(m.gD.getD j default).own,(m.gD.getD j default).gG++[x]⟩ hvl hj rfl;show World.ownsRow _ base 81 2 _ _ (Z0 (m.gD.set j ⟨(m.gD.getD j default).own,(m.gD.getD j default).gG++[x]⟩) (vs.set j v'));rw[hfs];exact f2
 ·intro k hk;have hk':k<m.gD.length:=by simpa [Met.Qn] using hk
  unfold Met.Qn;simp only[];rw[zbX vs j k v' yN (by omega),zbX m.gD j k _ default hk'];by_cases e:j=k
  ·subst e;rw[qx rfl,qx rfl];simp only[qq,qB,qE,zbH];exact ho.kept g2 (gne ho (by decide))
  ·rw[qv e,qv e];exact(o1 k hk' (λe'=>e e'.symm)).kept g2 (gne (o1 k hk' (λe'=>e e'.symm)) (by decide))
 ·have hA:Apart ((ve::vs).set (j+1) v'):=by
   rcases hat with hat|⟨N,hN,hle⟩
   ·exact h.apart.set hjs (N:=w.heap.size) h.blocks (.inl (by rw[za7];exact hat))
   ·exact h.apart.set hjs (N:=N) (λk q hk hq=>qF (h.blocks k q hk hq) hle) (.inr hN)
  simpa using hA
theorem zgt (fs:List Ft) (i:Nat) (sg:ByteArray) (c:Int) (all:Bool):vc fs i 0 sg c all=fs:=by simp[vc]
theorem za5 (fs:List Ft) (i n:Nat) (sg:ByteArray) (c:Int) (all:Bool) (h:i+n<=fs.length):(vc fs i n sg c all).length=fs.length:=by
 simp[vc];omega
theorem zei (fs:List Ft) (i n k:Nat) (sg:ByteArray) (c:Int) (all:Bool) (h:i+n<=fs.length) (hk:k<fs.length):
  (vc fs i n sg c all).getD k default=if i<=k/\k<i+n then ul sg c all (fs.getD k default) else fs.getD k default:=by
 have e1:(fs.take i).length=i:=by simp;omega
 have e2:(((fs.drop i).take n).map (ul sg c all)).length=n:=by simp;omega
 unfold vc;simp only[qj];by_cases h1:k<i
 ·rw[qQ,qY (by omega),qv (by omega),je,qx h1]
 ·by_cases h2:k<i+n
  ·rw[qY (by simp;omega),kH (by omega),e1,qx ⟨by omega,h2⟩,List.getElem?_map,je,qx (by omega),jd,show i+(k-i)=k by omega,qA hk];rfl
  ·rw[kH (by simp;omega),qv (by omega),jd];congr 2
   simp;omega
theorem zfO {α:Type} (d:α) {l l':List α} (hl:l.length=l'.length) (h:∀k,k<l.length->l.getD k d=l'.getD k d):l=l':=by
 apply List.ext_getElem hl;intro k h1 h2;have:=h k h1;simpa [qj,qA,h1,h2] using this
theorem zdt (fs:List Ft) (i n:Nat) (sg:ByteArray) (c:Int) (all:Bool) (h:i+n<fs.length):
  vc fs i (n+1) sg c all=(vc fs i n sg c all).set (i+n) (ul sg c all (fs.getD (i+n) default)):=by
 refine zfO default (by rw[jD,za5 _ _ _ _ _ _ (by omega),za5 _ _ _ _ _ _ (by omega)]) λk hk=>?_;rw[za5 _ _ _ _ _ _ (by omega)] at hk;rw[zei _ _ _ _ _ _ _ (by omega) hk,zbX _ _ _ _ _ (by rw[za5 _ _ _ _ _ _ (by omega)];exact hk),zei _ _ _ _ _ _ _ (by omega) hk];by_cases e:i+n=k
 ·subst e;rw[qx (by omega),qx rfl]
 ·rw[qv e];by_cases h1:i<=k/\k<i+n
  ·rw[qx h1,qx (by omega)]
  ·rw[qv h1,qv (by omega)]
theorem zcb (fs:List Ft) (i n:Nat) (sg:ByteArray) (c:Int) (all:Bool) (h:i+n<fs.length):(vc fs i n sg c all).getD (i+n) default=fs.getD (i+n) default:=by
 rw[zei _ _ _ _ _ _ _ (by omega) h,qv (by omega)]
theorem zc4 {w0 w':World} {o:Obj} {row:Option Nat} (h:(w0.alloc o).grownBy w' row):w0.grownBy w' row:=
 ⟨h.os,h.tape,h.output,qm (by simp) h.size,λk hk hne=>(h.block k (by simp;omega) hne).trans (qa w0 o k hk)⟩
theorem zae {P:Program} {ops:Array Oper} {rest:List Oper} {o:Oper} {a:Act} {Q:Exit->Act->World->Prop} (w0:World) (hgd:o.guard=none) (s x:Operand) (t:TypeId)
  (ho:o.op=.call {callee:=.builtin .append,args:=#[s,x],argTypes:=#[t,t]})
  (base:Nat) (e:TypeId) (i:TypeInfo) (z:Value) (size bytes:Nat) (ht:P.underlying t=some (.slice e)) (hi:P.info? e=some i) (hz:i.zero=some z)
  (hsize:i.size=size) (hby:i.bytes=bytes) (hzs:z.cells.size=size) (hsz:0<size)
  (v:Value) (n:Nat) (xs:List Value) (nw:Array Value) (g:Nat) (hs:a.eval s=v) (hx:a.eval x=.slice (some ⟨g,0,none⟩) 1 1) (hg:g=w0.heap.size) (hown:w0.ownsRow base e size v n xs)
  (hl:nw.size=size) (h1:∀u∈nw.toList,u.oneCell'=true)
  (h63:n+1<=maxLen) (hbytes:(n+1)*bytes<=140737488355328) (hbase:base<=w0.heap.size)
  (h:∀v' w',w'.ownsRow base e size v' (n+1) (xs++nw.toList)->w0.grownBy w' v.ownBlock->(v'.ownBlock=v.ownBlock∨∃b,v'.ownBlock=some b/\w0.heap.size<=b)->wpList P ops Q rest (a.put o.dst v') w'):wpList P ops Q (o::rest) a (w0.alloc (.cells nw e)):=by
 subst hg;refine wpList_append_own_at (w0.alloc (.cells nw e)) hgd s x t ho base e i z size bytes ht hi hz hsize hby hzs hsz v n xs hs (hown.alloc _) ⟨w0.heap.size,0,none⟩ 1 1 nw.toList hx (by simp[hl]) ?_ h1 h63 hbytes (by simp;omega) ?_
 ·intro j u hu;have e1:(⟨w0.heap.size,0,none⟩:Addr).add j=⟨w0.heap.size,j,none⟩:=by
   unfold Addr.add;by_cases hj:j=0
   ·simp[hj]
   ·simp[hj]
  rw[e1,jU (w0.alloc (.cells nw e)) w0.heap.size j nw e (0,0) (heap_alloc_new w0 _)];simpa using hu
 ·intro v' w' h2 h3 _ h5;refine h v' w' h2 (zc4 h3) ?_;rcases h5 with h5|h5
  ·exact .inl h5
  ·exact .inr ⟨_,h5,by simp⟩
theorem zeA:Tryz.prog.info? 83=some Tryz.t83:=by kernel_rfl
theorem zeB:Tryz.t83.zero=some (.agg #[.string ⟨#[]⟩,.int .i64 0]):=by kernel_rfl
theorem zeC:Tryz.t83.size=2:=by kernel_rfl
theorem zdu:Tryz.t83.bytes=24:=by kernel_rfl
theorem zh2:Tryz.prog.info? 81=some Tryz.t81:=by kernel_rfl
theorem zh3:Tryz.t81.zero=some (.agg #[.string ⟨#[]⟩,.slice none 0 0]):=by kernel_rfl
theorem zh4:Tryz.t81.size=2:=by kernel_rfl
theorem zfP:Tryz.t81.bytes=40:=by kernel_rfl
theorem zju:Tryz.prog.info? 85=some Tryz.t85:=by kernel_rfl
theorem zjv:Tryz.t85.zero=some (.agg #[.int .i64 0,.int .i64 0]):=by kernel_rfl
theorem zjw:Tryz.t85.size=2:=by kernel_rfl
theorem zhl:Tryz.t85.bytes=16:=by kernel_rfl
structure QA (w:World) (base b:Nat) (s:ByteArray) (a:Nat) (t:ByteArray) (m:Met) (ah:Int) (vf ve vb:Value) (i:Nat) (sg:ByteArray) (cost:Int) (all:Bool) (k:Nat) (vs:List Value) (wr:World):Prop where
 rs:RS wr base b s a t {m with gD:=vc m.gD i k sg cost all} ah vf ve vb vs
 box:wr.heap[w.heap.size]?=some (.cells #[.string sg,.int .i64 cost] 83 (0,0))
 off:∀j,j<vs.length->(vs.getD j yN).ownBlock≠some w.heap.size
 below:Below base w wr
theorem QA.start {w:World} {base b a:Nat} {s t:ByteArray} {m:Met} {ah:Int} {vf ve vb:Value} {vs:List Value} (h:RS w base b s a t m ah vf ve vb vs) (i:Nat) (sg:ByteArray) (cost:Int) (all:Bool):
  QA w base b s a t m ah vf ve vb i sg cost all 0 vs (w.alloc (.cells #[.string sg,.int .i64 cost] 83)):=by
 have hb:Below w.heap.size w (w.alloc (.cells #[.string sg,.int .i64 cost] 83)):=(qb _ w).alloc (ql _) _;refine⟨?_,qn w _,λj hj e=>?_,hb.mono (by have:=h.bl;have:=h.hb;omega)⟩
 ·rw[zgt];exact h.below hb
 ·have:=h.blocks (j+1) _ (by simp;omega) (by rw[za7];exact e);omega
theorem QA.skip {w wr wr':World} {base b a:Nat} {s t:ByteArray} {m:Met} {ah:Int} {vf ve vb:Value} {vs:List Value} {i k:Nat} {sg:ByteArray} {cost:Int} {all:Bool} (h:QA w base b s a t m ah vf ve vb i sg cost all k vs wr) (hik:i+k<m.gD.length)
  (hf:ul sg cost all (m.gD.getD (i+k) default)=m.gD.getD (i+k) default) (hb:Below wr.heap.size wr wr'):QA w base b s a t m ah vf ve vb i sg cost all (k+1) vs wr':=by
 have hbs:base<=wr.heap.size:=by have:=h.rs.bl;have:=h.rs.hb;omega
 have hlt:w.heap.size<wr.heap.size:=(qg h.box).1;refine⟨?_,(hb.block _ hlt).trans h.box,h.off,h.below.trans (hb.mono hbs)⟩;rw[zdt _ _ _ _ _ _ hik,hf];have e:(vc m.gD i k sg cost all).set (i+k) (m.gD.getD (i+k) default)=vc m.gD i k sg cost all:=by
  refine zfO default (by simp) λq hq=>?_;rw[jD] at hq;rw[zbX _ _ _ _ _ hq];by_cases e:i+k=q
  ·subst e;rw[qx rfl,zcb _ _ _ _ _ _ hik]
  ·rw[qv e]
 rw[e];exact h.rs.below hb
theorem QA.step {w wr w0 w1:World} {base b a:Nat} {s t:ByteArray} {m:Met} {ah:Int} {vf ve vb:Value} {vs:List Value} {i k g cap:Nat} {sg:ByteArray} {cost:Int} {all:Bool} (h:QA w base b s a t m ah vf ve vb i sg cost all k vs wr) (hik:i+k<m.gD.length)
  (Kk:vf=.slice (some ⟨g,0,none⟩) m.gD.length cap) (hf:ul sg cost all (m.gD.getD (i+k) default)=⟨(m.gD.getD (i+k) default).own,(m.gD.getD (i+k) default).gG++[(sg,cost)]⟩) (hb:Below wr.heap.size wr w0) {v':Value}
  (ho:w1.ownsRow base 83 2 v' ((m.gD.getD (i+k) default).gG.length+1) (QG (m.gD.getD (i+k) default).gG++[.string sg,.int .i64 cost])) (hg:w0.grownBy w1 (vs.getD (i+k) yN).ownBlock)
  (hat:v'.ownBlock=(vs.getD (i+k) yN).ownBlock∨∃N,v'.ownBlock=some N/\w0.heap.size<=N) (hgw:g<w.heap.size):
  QA w base b s a t m ah vf ve vb i sg cost all (k+1) (vs.set (i+k) v') (w1.setCell ⟨g,(i+k)*2+1,none⟩ v'):=by
 have hbs:base<=wr.heap.size:=by have:=h.rs.bl;have:=h.rs.hb;omega
 have hlt:w.heap.size<wr.heap.size:=(qg h.box).1;have h0:=h.rs.below hb;have hlen:(vc m.gD i k sg cost all).length=m.gD.length:=za5 _ _ _ _ _ _ (by omega);have hvl:vs.length=m.gD.length:=by rw[h.rs.vl,hlen]
 have hh:=zcb m.gD i k sg cost all hik;have hr:=h0.way (j:=i+k) (by simpa [hlen] using hik) (by simpa [hlen] using Kk) (sg,cost) (by simp only[hh];exact ho) hg hat;simp only[hh] at hr;unfold Met.Qn at hr;simp only[] at hr;have hbase:∀q,(vs.getD (i+k) yN).ownBlock=some q->base<=q:=λq hq=>((h0.gG (i+k) (by simpa [hlen] using hik)).lt q hq).1;have hgb:base<=g:=(h0.gD.lt g (by rw[Kk];rfl)).1;have hbx0:w0.heap[w.heap.size]?=some (.cells #[.string sg,.int .i64 cost] 83 (0,0)):=(hb.block _ hlt).trans h.box;have hbx1:w1.heap[w.heap.size]?=some (.cells #[.string sg,.int .i64 cost] 83 (0,0)):=(hg.block _ (qF hlt hb.size) (λe=>h.off (i+k) (by omega) e.symm)).trans hbx0;refine⟨?_,(qT _ _ _ _ (by show w.heap.size≠g;omega)).trans hbx1,?_,?_⟩
 ·rw[zdt _ _ _ _ _ _ hik,hf];exact hr
 ·intro j hj e;rw[jD] at hj;rw[zbX _ _ _ _ _ hj] at e;by_cases e2:i+k=j
  ·rw[qx e2] at e;rcases hat with hat|⟨N,hN,hle⟩
   ·exact h.off (i+k) (by omega) (hat▸e)
   ·rw[hN] at e;cases e;have:=hb.size;omega
  ·rw[qv e2] at e;exact h.off j hj e
 ·refine Below.setCell ?_ (by show base<=g;exact hgb) _;refine(h.below.trans (hb.mono hbs)).grown hg (by have:=hb.size;omega) ?_;intro q hq;exact hbase q hq
end Go.Proofs.YtgklikkddckgbaaGreatDoor
namespace Go.Proofs.YtgklikkddckgbaaGreatDoor
open Go.RowKit
theorem ZR {w:World} {base:Nat} {e:TypeId} {size:Nat} {v:Value} {n:Nat} {xs:List Value} (h:w.ownsRow base e size v n xs) (hn:0<n):
  ∃g cap,v=.slice (some ⟨g,0,none⟩) n cap:=by
 rcases h.2 with⟨_,h0⟩|⟨g,cap,_,rfl,_⟩
 ·omega
 ·exact⟨g,cap,rfl⟩
theorem zkJ {sg:ByteArray} {c:Int} {all:Bool} {f:Ft} (h:(!all||!(gU f.own sg))=true):ul sg c all f=⟨f.own,f.gG++[(sg,c)]⟩:=by
 unfold ul;rw[qx h]
theorem zlK {sg:ByteArray} {c:Int} {all:Bool} {f:Ft} (h:(!all||!(gU f.own sg))=false):ul sg c all f=f:=by
 unfold ul;rw[qv (by rw[h];simp)]
theorem zlL {w:World} {base b a g cap:Nat} {s t:ByteArray} {m:Met} {ah:Int} {ve vb:Value} {vs:List Value} (h:RS w base b s a t m ah (.slice (some ⟨g,0,none⟩) m.gD.length cap) ve vb vs)
  (i n c:Nat) (hin:i+n<=m.gD.length) (h16:m.gD.length<=16) (Qs:∀k,k<m.gD.length->(m.gD.getD k default).gG.length<=15) (sg:ByteArray) (cost:Int) (all:Bool):
  Calls Tryz.prog 173 #[.slice (some ⟨g,i*2,none⟩) n c,.agg #[.string sg,.int .i64 cost],.bool all] w λe w'=>e=.returned (.tuple #[])/\
   ∃vs',RS w' base b s a t {m with gD:=vc m.gD i n sg cost all} ah (.slice (some ⟨g,0,none⟩) m.gD.length cap) ve vb vs'/\Below base w w':=by
 have hst:=QA.start h i sg cost all;have hgw:g<w.heap.size:=(h.gD.lt g rfl).2;have pg:=qh hst;have Hgw:=qh hgw;clear hst h;go_enter Tryz.func173,Tryz.ntmps173;go_wp2_with fail;go_loopw [10] (λq wr=>∃(k:Nat) (vs':List Value),k<=n/\q=.int .i64 k/\QA w base b s a t m ah (.slice (some ⟨g,0,none⟩) m.gD.length cap) ve vb i sg cost all k vs' wr) (λq _=>n-(intOf q).toNat)
 case atStart=>exact⟨0,vs,by omega,rfl,pg.out⟩
 case round=>
  rename_i wr;obtain⟨k,vs',hk,rfl,hr⟩:=hrel;by_cases hlt:k<n
  ·have hik:i+k<m.gD.length:=(by omega);have hlen:(vc m.gD i k sg cost all).length=m.gD.length:=za5 _ _ _ _ _ _ (by omega);have hh:=zcb m.gD i k sg cost all hik;have hcl:=zcr (vc m.gD i k sg cost all) vs' (i+k) hr.rs.vl (by rw[hlen];exact hik);rw[hh] at hcl;have hfe:=hr.rs.gD;simp only[hlen] at hfe;have hz:=hfe.frozenAt ((i+k)*2+1);have e1:(i+k)*2=i*2+k*2:=(by omega);have hc1:=(hfe.cellAt ((i+k)*2) (by omega)).trans hcl.1;have hc2:=(hfe.cellAt ((i+k)*2+1) (by omega)).trans hcl.2;have hwv:=hr.rs.gG (i+k) (by simpa [hlen] using hik);simp only[hh] at hwv;have zp5:=Qs (i+k) hik;have hgs:g<wr.heap.size:=(hfe.lt g rfl).2;have hxb:wr.cell? ⟨w.heap.size,0,none⟩=some (.string sg):=qc _ _ _ _ 83 (0,0) hr.box;have hxc:wr.cell? ⟨w.heap.size,1,none⟩=some (.int .i64 cost):=qc _ _ _ _ 83 (0,0) hr.box;have hxs:w.heap.size<wr.heap.size:=(qg hr.box).1;have hbw:base<=wr.heap.size:=(by have:=hr.rs.bl;have:=hr.rs.hb;omega);have Yj:=qh λ(hf:(!all||!(gU (m.gD.getD (i+k) default).own sg))=true)=>λ(w0 w1:World) (v':Value) hb ho hg hat=>hr.step (w0:=w0) (w1:=w1) (v':=v') hik rfl (zkJ hf) hb ho hg hat Hgw.out;have Hno:=qh λ(hf:(!all||!(gU (m.gD.getD (i+k) default).own sg))=false)=>λ(w':World) hb=>hr.skip (wr':=w') hik (zlK hf) hb;rw[e1] at hc1 hc2 hz Yj;obtain⟨A,cc,hve,hcc,hiw⟩:=zds hwv;have Kl:=qh hwv;have Hneq:Hid ((vs'.getD (i+k) yN).ownBlock=none∨(vs'.getD (i+k) yN).ownBlock≠some g):=qh (by
    have:=ZQ hwv hfe (by decide);simpa [Value.ownBlock] using this)
   clear hr hfe hcl hh hlen hwv hiw e1;generalize vs'.getD (i+k) yN=V at*;subst hve;generalize hfq:m.gD.getD (i+k) default=f at*;clear hfq;obtain⟨own,gG⟩:=f;simp only[] at hc1 hc2 zp5 hcc Yj Hno Kl Hneq;have hbx:Below wr.heap.size wr (wr.alloc (.cells #[.string own,.slice A gG.length cc] 81)):=(qb _ wr).alloc (ql _) _;have Hbx:=qh hbx;have Hblk:Hid (∀w1:World,(wr.alloc (.cells #[.string own,.slice A gG.length cc] 81)).grownBy w1 (Value.slice A gG.length cc).ownBlock->w1.heap[g]?=wr.heap[g]?):=qh λw1 hg1=>
    (hg1.block g (by have:=hbx.size;omega) (by rcases Hneq.out with e|e;· rw[e];simp
                                               ·exact λe'=>e e'.symm)).trans (hbx.block g hgs)
   have JP:=qh λ(w1:World) hg1=>qV ((zo (w:=wr) (w':=w1) (a:=⟨g,i*2+k*2+1,none⟩) (Hblk.out w1 hg1)).trans hz) ((qw (w:=wr) (w':=w1) (a:=⟨g,i*2+k*2+1,none⟩) (Hblk.out w1 hg1)).trans hc2);clear hbx;cases hy:(!all||!(gU own sg)) with
   |false=>
    have Hn:=qh (Hno.out hy);have h2:all=true/\gU own sg=true:=by cases all<;>cases hq:gU own sg<;>simp[hq] at hy|-
    obtain⟨rfl,hq⟩:=h2;unfold gU at hq;clear hy Yj Hno;go_wp2_with fail;go_roundw
    case rel=>exact⟨k+1,vs',by omega,by go_num,Hn.out _ Hbx.out⟩
    case measure=>simp[intOf];omega
   |true=>
    have Hy:=qh (Yj.out hy);have h2:all=false∨(all=true/\gU own sg=false):=by cases all<;>cases hq:gU own sg<;>simp[hq] at hy|-
    clear Yj Hno hy;rcases h2 with rfl|⟨rfl,hq⟩
    rotate_left
    unfold gU at hq
    all_goals
     go_wp2_with (at_builtin;go_loud (refine zae _ rfl _ _ 76 rfl base 83 _ _ 2 24 xd zeA zeB zeC zdu rfl (by decide) (.slice A gG.length cc) gG.length (QG gG) _ _ rfl rfl ?c0 (by exact(Kl.out).alloc _) rfl ?c1 ?c2 ?c3 ?c4 ?_;rotate_right;intro v1 w1 hown1 hg1 pF;obtain⟨g1,p5,rfl⟩:=ZR hown1 (by omega);obtain⟨hz1,hc3⟩:=JP.out _ hg1;have gI:=qh (Hy.out _ _ _ Hbx.out hown1 hg1 pF);clear hown1 hg1 pF))
     case c0=>simp
     case c1=>exact⟨rfl,rfl⟩
     case c2=>unfold maxLen;omega
     case c3=>omega
     case c4=>have:=Hbx.out.size;omega
     go_roundw
     case rel=>exact⟨k+1,_,by omega,by go_num,gI.out⟩
     case measure=>simp[intOf];omega
  ·obtain rfl:k=n:=by omega
   have Hr:=qh hr;clear hr;go_wp2_with fail;go_end0;exact⟨rfl,vs',Hr.out.rs,Hr.out.below⟩
variable {w w1 w':World} {base b a:Nat} {s t:ByteArray} {m:Met} {ah:Int} {vf ve vb:Value} {vs:List Value}
theorem RB.zrP (h:RB w b s a t vf ve vb ah) (v:Value):RB (w.setCell ⟨b,3,none⟩ v) b s a t v ve vb ah:=qs w b 3 _ 210 v h
theorem RB.zrQ (h:RB w b s a t vf ve vb ah) (v:Value):RB (w.setCell ⟨b,4,none⟩ v) b s a t vf v vb ah:=qs w b 4 _ 210 v h
theorem RB.zrR (h:RB w b s a t vf ve vb ah) (v:Value):RB (w.setCell ⟨b,5,none⟩ v) b s a t vf ve v ah:=qs w b 5 _ 210 v h
theorem RB.zrS (h:RB w b s a t vf ve vb ah) (v:Int):RB (w.setCell ⟨b,6,none⟩ (.int .i64 v)) b s a t vf ve vb v:=qs w b 6 _ 210 _ h
theorem zaN (w:World) (b o:Nat) (v:Value):w.grownBy (w.setCell ⟨b,o,none⟩ v) (some b):=zaV (zb4 w _) (.inl rfl) _
theorem zdv {α:Type} (l:List α) (x d:α) (k:Nat) (hk:k<l.length):(l++[x]).getD k d=l.getD k d:=by simp[qj,qY hk]
theorem zdw {α:Type} (l:List α) (x d:α):(l++[x]).getD l.length d=x:=by simp[qj]
theorem RS.foot (h:RS w base b s a t m ah vf ve vb vs) {own:ByteArray} {v':Value} (ho:w1.ownsRow base 81 2 v' (m.gD.length+1) (Z0 m.gD vs++[.string own,yN])) (hg:w.grownBy w1 vf.ownBlock):
  RS (w1.setCell ⟨b,3,none⟩ v') base b s a t {m with gD:=m.gD++[zcn own]} ah v' ve vb (vs++[yN]):=by
 have hne:vf.ownBlock≠some b:=by rcases py h.gD h.rb (by decide) with e|e;· rw[e];simp
                                 ·exact e
 have r1:RB w1 b s a t vf ve vb ah:=(hg.block b h.bl (λe=>hne e.symm)).trans h.rb;have g2:=zaN w1 b 3 v';have hvl:=h.vl;have wk:∀k,k<m.gD.length->(w1.setCell ⟨b,3,none⟩ v').ownsRow base 83 2 (vs.getD k yN) (m.gD.getD k default).gG.length (QG (m.gD.getD k default).gG):=λk hk=>by
  have o1:=(h.gG k hk).kept hg (ZQ (h.gG k hk) h.gD (by decide));exact o1.kept g2 (py o1 r1 (by decide))
 have e1:=h.ends.kept hg (ZQ h.ends h.gD (by decide));have k1:=h.gH.kept hg (ZQ h.gH h.gD (by decide));refine⟨r1.zrP v',h.hb,by simp[hvl],?_,?_,e1.kept g2 (py e1 r1 (by decide)),k1.kept g2 (py k1 r1 (by decide)),?_⟩
 ·have e:Z0 (m.gD++[zcn own]) (vs++[yN])=Z0 m.gD vs++[.string own,yN]:=zcJ _ _ _ _ hvl;simp only[qq,qB,qE];rw[e];exact ho.kept g2 (py ho r1 (by decide))
 ·intro k hk;simp only[qq,qB,qE] at hk;by_cases e:k<m.gD.length
  ·simp only[];rw[zdv _ _ _ _ (by omega),zdv _ _ _ _ e];exact wk k e
  ·obtain rfl:k=m.gD.length:=by omega
   simp only[];rw[zdw];have:(vs++[yN]).getD m.gD.length yN=yN:=(by rw[<-hvl];exact zdw _ _ _);rw[this];exact kd _ _ _ _
 ·exact h.apart.snoc (v:=yN) rfl
theorem RS.end_ (h:RS w base b s a t m ah vf ve vb vs) {x:Way} {v':Value} (ho:w1.ownsRow base 83 2 v' (m.ends.length+1) (QG m.ends++[.string x.1,.int .i64 x.2])) (hg:w.grownBy w1 ve.ownBlock)
  (hat:v'.ownBlock=ve.ownBlock∨∃N,v'.ownBlock=some N/\w.heap.size<=N):
  RS (w1.setCell ⟨b,4,none⟩ v') base b s a t {m with ends:=m.ends++[x]} ah vf v' vb vs:=by
 have hne:ve.ownBlock≠some b:=by rcases py h.ends h.rb (by decide) with e|e;· rw[e];simp
                                 ·exact e
 have r1:RB w1 b s a t vf ve vb ah:=(hg.block b h.bl (λe=>hne e.symm)).trans h.rb;have g2:=zaN w1 b 4 v';have hvl:=h.vl;have wk:∀k,k<m.gD.length->(w1.setCell ⟨b,4,none⟩ v').ownsRow base 83 2 (vs.getD k yN) (m.gD.getD k default).gG.length (QG (m.gD.getD k default).gG):=λk hk=>by
  have ha:(vs.getD k yN).ownBlock=none∨(vs.getD k yN).ownBlock≠ve.ownBlock:=by
   cases hv:(vs.getD k yN).ownBlock with
   |none=>exact .inl rfl
   |some q=>
    right;intro e;exact h.apart (k+1) 0 q (by simp;omega) (by simp) (by omega) (by rw[za7];exact hv) (by simpa using e.symm)
  have o1:=(h.gG k hk).kept hg ha;exact o1.kept g2 (py o1 r1 (by decide))
 have f1:=h.gD.kept hg (ZQ h.gD h.ends (by decide));have k1:=h.gH.kept hg (ZQ h.gH h.ends (by decide));refine⟨r1.zrQ v',h.hb,hvl,f1.kept g2 (py f1 r1 (by decide)),wk,?_,k1.kept g2 (py k1 r1 (by decide)),?_⟩
 ·simp only[qq,qB,qE,zbH];exact ho.kept g2 (py ho r1 (by decide))
 ·have hA:Apart ((ve::vs).set 0 v'):=by
   rcases hat with hat|⟨N,hN,hle⟩
   ·exact h.apart.set (by simp) (N:=w.heap.size) h.blocks (.inl (by simpa using hat))
   ·exact h.apart.set (by simp) (N:=N) (λk q hk hq=>qF (h.blocks k q hk hq) hle) (.inr hN)
  simpa using hA
theorem RS.brk (h:RS w base b s a t m ah vf ve vb vs) {x:Int×Int} {v':Value} (ho:w1.ownsRow base 85 2 v' (m.gH.length+1) (Xj m.gH++[.int .i64 x.1,.int .i64 x.2])) (hg:w.grownBy w1 vb.ownBlock):
  RS (w1.setCell ⟨b,5,none⟩ v') base b s a t {m with gH:=m.gH++[x]} ah vf ve v' vs:=by
 have hne:vb.ownBlock≠some b:=by rcases py h.gH h.rb (by decide) with e|e;· rw[e];simp
                                 ·exact e
 have r1:RB w1 b s a t vf ve vb ah:=(hg.block b h.bl (λe=>hne e.symm)).trans h.rb;have g2:=zaN w1 b 5 v';have wk:∀k,k<m.gD.length->(w1.setCell ⟨b,5,none⟩ v').ownsRow base 83 2 (vs.getD k yN) (m.gD.getD k default).gG.length (QG (m.gD.getD k default).gG):=λk hk=>by
  have o1:=(h.gG k hk).kept hg (ZQ (h.gG k hk) h.gH (by decide));exact o1.kept g2 (py o1 r1 (by decide))
 have f1:=h.gD.kept hg (ZQ h.gD h.gH (by decide));have e1:=h.ends.kept hg (ZQ h.ends h.gH (by decide));refine⟨r1.zrR v',h.hb,h.vl,f1.kept g2 (py f1 r1 (by decide)),wk,e1.kept g2 (py e1 r1 (by decide)),?_,h.apart⟩;simp only[qq,qB,qE,zdr];exact ho.kept g2 (py ho r1 (by decide))
def Km (s:ByteArray) (L:List Tok):Prop:=∃p,p<=s.size/\L=toks s p
theorem Km.gL {s:ByteArray} {L:List Tok} (h:Km s L):Km s (gL L):=by
 obtain⟨p,hp,rfl⟩:=h;exact⟨_,(zef hp).1,(zef hp).2.symm⟩
theorem Km.size {s:ByteArray} {L:List Tok} (h:Km s L):(hd L).2.size<=s.size:=by
 obtain⟨p,hp,rfl⟩:=h;exact zlB s hp
theorem Yk {L:List Tok} (h:RS w base b s (hd L).1 (hd L).2 m ah vf ve vb vs) (hL:Km s L) (hs:s.size<=65536):
  Calls Tryz.prog 142 #[.pointer (some ⟨b,0,none⟩)] w λe w'=>e=.returned (.tuple #[])/\RS w' base b s (hd (gL L)).1 (hd (gL L)).2 m ah vf ve vb vs/\w.grownBy w' (some b):=by
 obtain⟨p,hp,rfl⟩:=hL;obtain⟨h1,h2⟩:=zef (s:=s) hp;refine(zhT b (hd (toks s p)).1 s (hd (toks s p)).2 vf ve vb ah w h.rb h1 (by omega)).mono ?_;rintro e w' ⟨rfl,hr,hg⟩;refine⟨rfl,h.move hg ?_,hg⟩;rw[<-h2,zfD h1];exact hr
theorem Yl (h:RS w base b s a t m ah vf ve vb vs) (hg:w.grownBy w' (some b)):Below base w w':=
 (qb base w).grown hg (by have:=h.bl;have:=h.hb;omega) (λk e=>by cases e;exact h.hb)
theorem RS.bs (h:RS w base b s a t m ah vf ve vb vs):base<=w.heap.size:=by have:=h.bl;have:=h.hb;omega
end Go.Proofs.YtgklikkddckgbaaGreatDoor
namespace Go.Proofs.YtgklikkddckgbaaGreatDoor.Mo
open Go.RowKit
theorem zlM:Tryz.prog.info? 3=some Tryz.t3:=by kernel_rfl
theorem zlN:Tryz.t3.zero=some (.int .i64 0):=by kernel_rfl
theorem zlO:Tryz.t3.size=1:=by kernel_rfl
theorem zjx:Tryz.t3.bytes=8:=by kernel_rfl
theorem Jb (ms:List Mk) (v:Int):ms.any (λm=>m.sign==126&&m.n==v)=(pm ms).any (λn=>n==v):=by
 unfold pm;induction ms with
 |nil=>rfl
 |cons m l ih=>
  rw[List.any_cons,ih,List.filter_cons];by_cases h:(m.sign==126)=true
  ·rw[qx h,xy,List.any_cons,h,zX]
  ·rw[qv h];simp only[Bool.not_eq_true] at h;rw[h];simp
def zkK (ms:List Mk) (i:Nat) (r:Except (Int×Nat) (Int×Nat)):Except (Int×Nat) (Mk×Nat):=match r with
 |.error e=>.error e
 |.ok (v,e)=>if(pm ms).any (λn=>n==v) then .error (2,i+1) else .ok (⟨126,v,i⟩,e)
theorem zgu {s:ByteArray} {gC:List UInt8} {ms:List Mk} {i:Nat} (h:gT s i 126=true):
  QM s gC ms i=if 4<=pB ms 126 then .error (180,i) else zkK ms i (yO s 1 (i+1)):=by
 unfold QM;rw[h,zbD h (by decide:(126:Int)≠58),zbD h (by decide:(126:Int)≠39),zdp h];by_cases hk:4<=pB ms 126
 ·rw[qx (by simpa using hk),qx hk]
 ·rw[qv (by simpa using hk),qv hk];unfold zkK;cases yO s 1 (i+1) with
  |error e=>rfl
  |ok ve=>
   obtain⟨v,e⟩:=ve;simp only[Jb];rfl
theorem zlP {gC:List UInt8} {cls ref:Int} {ms:List Mk} {a:Nat} {vh vh':Value} {v:Int} {i:Nat}:
  p9 gC cls ref (ms++[⟨126,v,i⟩]) a vh'=((p9 gC cls ref ms a vh).setIfInBounds 10 (.int .i64 (if Qa ms<0 then(i:Int) else Qa ms))).setIfInBounds 7 vh':=by
 unfold p9;rw[zew (by decide:(126:Int)≠58),KJ (c:=58) (by decide:(126:Int)≠58),KJ (c:=47) (by decide:(126:Int)≠47),KJ (c:=94) (by decide:(126:Int)≠94),KJ (c:=64) (by decide:(126:Int)≠64),KJ (c:=39) (by decide:(126:Int)≠39),zfJ _ rfl,zbh,zbh];simp
theorem zdO {w:World} {B:Nat} {v:Value} {l:List Int} (h:w.ownsRow B 3 1 v l.length (ud l)):∃A c,v=.slice A l.length c/\l.length<=c/\(0<l.length->∃g,A=some ⟨g,0,none⟩/\g<w.heap.size/\∀k,k<l.length->w.cell? ⟨g,k,none⟩=some (.int .i64 (l.getD k 0))):=by
 rcases h.2 with⟨rfl,h0⟩|⟨g,cap,cur,rfl,_,hg,hcap,_⟩
 ·rw[h0];exact⟨none,0,rfl,ql _,λhl=>by omega⟩
 ·refine⟨_,cap,rfl,hcap,λ_=>⟨g,rfl,(qg hg).1,λk hk=>?_⟩⟩;rw[h.cellAt k (by omega)];unfold ud;simp[qj,hk]
theorem zhm (B rb fb xb:Nat) (s:ByteArray) (i:Nat) (gC:List UInt8) (cls ref:Int) (ms:List Mk) (a:Nat) (vh:Value) (w:World) (h:Rd w rb fb s i) (hx:JO w B xb gC cls ref ms a vh) (hs:gT s i 126=true) (hv:Vars w) (h9:9<=rb) (h9x:9<=xb):
  Calls Tryz.prog 185 #[.pointer (some ⟨rb,0,none⟩),.pointer (some ⟨xb,0,none⟩)] w (zca B rb fb xb s gC cls ref ms a vh (QM s gC ms i) w):=by
 rw[zgu (gC:=gC) (ms:=ms) hs];have hi:=Xu hs;obtain⟨hne,hsp⟩:=hx.sep h;have hxl:xb<w.heap.size:=(qg hx.x).1;have hxB:=hx.hB;have hlen:=zfL ms;have h4:=hx.four;obtain⟨Ah,ch,rfl,hch,hrow⟩:=zdO hx.h;have xf:w.cell? ⟨xb,7,none⟩=some (.slice Ah (pm ms).length ch):=qc _ _ 7 _ _ (0,0) hx.x;have Hx:=qh hx;have Hv:=qh hv;have ZK:=qh (λ(b:Bool)=>zcI rb fb xb s i b ms (p9 gC cls ref ms a (.slice Ah (pm ms).length ch)) w h hi hx.x rfl hne);clear h hx hv hs;by_cases h4':4<=pB ms 126
 ·rw[qx h4'];have hd:(((pm ms).length:Int)==4)=true:=by
   have:((pm ms).length:Int)=4:=(by omega);simpa using this
  have hc:=qh (ZK.out true);clear ZK h4 h4' hlen;go_enter Tryz.func185,Tryz.ntmps185;go_wp2_with fail;refine hc.out.mono ?_;rintro e w2 ⟨ho,he⟩;rw[qx rfl] at he;subst he;exact⟨rfl,ho.mono (λk hk=>.inl (by simp at hk|-;omega)),rfl⟩
 ·rw[qv h4'];have hd:(((pm ms).length:Int)==4)=false:=by
   have:¬((pm ms).length:Int)=4:=(by omega);simpa using this
  have hc:=qh (ZK.out false);have H4:=qh h4';have Hlen:=qh hlen;have hl4:(pm ms).length<=4:=by omega
  generalize hR:zkK ms i (yO s 1 (i+1))=R;have HR:=qh hR;clear ZK h4 h4' hlen hR;go_enter Tryz.func185,Tryz.ntmps185;go_wp2_with fail;refine hc.out.mono ?_;rintro e w2 ⟨ho,he⟩;rw[qv (by simp)] at he;obtain⟨rfl,hrd,hx2⟩:=he;obtain⟨r0,r1,r2,r3⟩:=hrd.cells;have pr:=qh (zcq rb fb s (i+1) 1 w2 hrd (Vars.off Hv.out ho (by simp;exact⟨h9,h9x⟩)) h9 (by decide) (by decide));have Ho:=qh ho;have Q6:=qh hx2;have Jv:xb<w2.heap.size:=by have:=ho.size;omega
  clear hrd ho hx2 xf hc;go_wp2_with fail;refine pr.out.mono ?_;rintro e w3 ⟨ho3,hres⟩;have hx3:=(ho3.block xb Jv (by simp;omega)).trans Q6.out;have ZY:Off [rb,xb] w w3:=Ho.out.trans (ho3.mono (λk hk=>.inl (by simp at hk|-;exact .inl hk)));clear r0 r1 r2 r3;cases hN:yO s 1 (i+1) with
  |error ep=>
   obtain⟨c,p⟩:=ep;rw[hN] at hres;have hR2:R=.error (c,p):=(by rw[<-HR.out,hN];rfl);subst hres;refine⟨rfl,ZY.mono (λk hk=>.inl (by simp at hk|-;omega)),?_⟩;rw[hR2];rfl
  |ok vj=>
   obtain⟨v,j⟩:=vj;rw[hN] at hres;have HR1:Hid (R=if(pm ms).any (λn=>n==v) then .error (2,i+1) else .ok (⟨126,v,i⟩,j)):=qh (by rw[<-HR.out,hN];rfl);obtain⟨rfl,pV⟩:=hres;have hbd:=zey hN;have x7:w3.cell? ⟨xb,7,none⟩=some (.slice Ah (pm ms).length ch):=qc _ _ 7 _ _ (0,0) hx3;have z7:=qf _ _ 7 _ _ hx3;have Jy:=qh hx3;have Hoo:=qh ZY;have J2:=qh pV;have Xy:=qh hbd;have hs3:w.heap.size<=w3.heap.size:=ZY.size;clear hx3 ZY pV hbd hN ho3;generalize hh:pm ms=has at*;have Hh:=qh hh;clear hh;go_wp2_with fail;go_loopw [28] (λq wr=>∃k:Nat,k<=has.length/\q=.int .i64 k/\Hid ((has.take k).any (λn=>n==v)=false)/\wr=w3) (λq _=>has.length-(intOf q).toNat)
   case atStart=>exact⟨0,qH _,rfl,qh rfl,rfl⟩
   case round=>
    obtain⟨k,hk,rfl,hno,rfl⟩:=hrel;by_cases hlt:k<has.length
    ·obtain⟨g,rfl,hgs,hcells⟩:=hrow (by omega);have J4:=hsp g rfl;have hck:=(Hoo.out.cell (b:=g) (o:=k) hgs (by simp;exact J4)).trans (hcells k hlt);have htk:has.take (k+1)=has.take k++[has.getD k 0]:=by
      rw[qD hlt];simp[qj,hlt]
     have Q0:=qh htk;have zp6:Hid (has.getD k 0∈has):=qh (by rw[qj,qA hlt];exact qM hlt);clear hcells J4 htk;generalize has.getD k 0=n at*;cases heq:(n==v) with
     |true=>
      have HR2:Hid (R=.error (2,i+1)):=qh (by rw[HR1.out,qx (kE.2 ⟨n,zp6.out,heq⟩)]);have hf:=qh (gM 2 (i+1) wr);go_wp2_with fail;refine hf.out.mono ?_;rintro e w5 ⟨rfl,hb5⟩;refine⟨rfl,(Hoo.out.trans (Off.of_below hb5 (ql _) _)).mono (λk hk=>.inl (by simp at hk|-;omega)),?_⟩;rw[HR2.out];rfl
     |false=>
      have Hno2:Hid ((has.take (k+1)).any (λn=>n==v)=false):=qh (by rw[Q0.out,xE,hno.out];simp[heq]);go_wp2_with fail;go_roundw
      case rel=>exact⟨k+1,by omega,by go_num,Hno2,by first|rfl|trivial⟩
      case measure=>simp[intOf];omega
    ·obtain rfl:k=has.length:=by omega
     have HR2:Hid (R=.ok (⟨126,v,i⟩,j)):=qh (by rw[HR1.out,qv (by have:=hno.out;rw[qZ] at this;rw[this];simp)]);clear hrow;have pj:Hid (wr.ownsRow B 3 1 (.slice Ah has.length ch) has.length (ud has)):=qh (by
      have:=Hoo.out.own Hx.out.h (λk hk=>by have:=hsp k hk;simp;exact this);rw[Hh.out] at this;exact this)
     have Hmid:Hid (∀(v5:Value) (w5:World),w5.ownsRow B 3 1 v5 (has.length+1) (ud has++[.int .i64 v])->wr.grownBy w5 (Value.slice Ah has.length ch).ownBlock->(v5.ownBlock=(Value.slice Ah has.length ch).ownBlock∨∃b,v5.ownBlock=some b/\wr.heap.size<=b)->
       w5.cell? ⟨xb,7,none⟩=some (.slice Ah has.length ch)/\w5.frozen? ⟨xb,7,none⟩=false/\Hid (zca B rb fb xb s gC cls ref ms a (.slice Ah has.length ch) R w (.returned (.tuple #[])) (w5.setCell ⟨xb,7,none⟩ v5))):=qh (by
      intro v5 w5 hown5 hgr5 hl5;have hxw:xb<wr.heap.size:=(by have:=Hoo.out.size;omega);have hg5:Off (Value.slice Ah has.length ch).ownBlock.toList wr w5:=Off.grown hgr5 (λk hk=>by simp[hk]);have hnx:xb∉(Value.slice Ah has.length ch).ownBlock.toList:=by
       intro hm;have hm2:(Value.slice Ah has.length ch).ownBlock=some xb:=(by simpa using hm);exact(hsp xb hm2).2 rfl
      have hnr:rb∉(Value.slice Ah has.length ch).ownBlock.toList:=by
       intro hm;have hm2:(Value.slice Ah has.length ch).ownBlock=some rb:=(by simpa using hm);exact(hsp rb hm2).1 rfl
      have hx5:=(hg5.block xb hxw hnx).trans Jy.out;have hx6:=qs w5 xb 7 _ _ v5 hx5;rw[<-zlP (v:=v) (i:=i)] at hx6;have hos:Off [xb] w5 (w5.setCell ⟨xb,7,none⟩ v5):=Off.setCell w5 xb 7 _;have hv5x:∀k,v5.ownBlock=some k->k≠xb:=by
       intro k hk e;rcases hl5 with e5|⟨b,e5,hb⟩
       ·rw[e5] at hk;exact(hsp k hk).2 e
       ·rw[e5] at hk;cases hk;omega
      refine⟨qc _ _ 7 _ _ (0,0) hx5,qf _ _ 7 _ _ hx5,qh ⟨?_,?_⟩⟩
      ·refine(Hoo.out.mono (λk hk=>.inl (by simp at hk|-;omega))).trans ((hg5.mono (λk hk=>.inl (by simp at hk|-;exact .inr (.inr hk)))).trans (hos.mono (λk hk=>.inl (by simp at hk|-;exact .inr (.inl hk)))))
      ·rw[HR2.out];refine⟨rfl,(J2.out.off hg5 hnr).off hos (by simp;exact hne),v5,⟨hx6,?_,?_,?_,hxB⟩,?_⟩
       ·rw[zlH ms rfl,Hh.out];have:=hos.own hown5 (λk hk=>by simp;exact hv5x k hk);rw[qq,zm];have e:ud (has++[v])=ud has++[.int .i64 v]:=(by simp[ud]);rw[e];exact this
       ·intro m hm;rcases qJ.1 hm with hm|hm
        ·exact Hx.out.ok m hm
        ·obtain rfl:m=⟨126,v,i⟩:=by simpa using hm
         exact⟨.inr (.inr (.inr (.inr (.inl rfl)))),λe=>by have e2:(126:Int)=58∨(126:Int)=39:=e;omega,λ_ _=>Xy.out⟩
       ·have h4:=H4.out;have h5:pB (ms++[⟨126,v,i⟩]) 126=pB ms 126+1:=(by unfold pB;rw[jG];rfl);rw[h5];omega
       ·rcases hl5 with e5|⟨b,e5,hb⟩
        ·exact .inl e5
        ·exact .inr ⟨b,e5,by omega⟩)
     have hBw:B<=wr.heap.size:=(by omega);go_wp2_with (at_builtin;go_loud (refine zae wr rfl _ _ 43 rfl B 3 _ _ 1 8 Tryz.underlying43 zlM zlN zlO zjx rfl (by decide) (.slice Ah has.length ch) has.length (ud has) #[.int .i64 v] wr.heap.size rfl rfl rfl pj.out rfl (by intro u hu;simp at hu;subst hu;rfl) (by unfold maxLen;omega) (by omega) hBw ?_;intro v5 w5 hown5 hgr5 hl5;obtain⟨d7,f7,gI⟩:=Hmid.out v5 w5 hown5 hgr5 hl5;obtain⟨g5,cap5,rfl⟩:=ZR hown5 (by omega);clear hown5 hgr5 hl5));refine q9 (qI rfl _ _ _) rfl ?_;exact gI.out
def zfQ (c:UInt8):Nat:=if c=58 then 181 else if c=47 then 182 else if c=94 then 183 else if c=64 then 184 else if c=126 then 185 else 186
def zfR (s:ByteArray) (i rb:Nat):Value:=if i<s.size/\zd9 (gO s i) then .func (.func (zfQ (gO s i))) #[.pointer (some ⟨rb,0,none⟩)] #[] else .nilFunc
theorem zcV (c:UInt8):(zd9 c=true/\((c=58/\Lib.indexByte pL c=0)∨(c=47/\Lib.indexByte pL c=1)∨(c=94/\Lib.indexByte pL c=2)∨(c=64/\Lib.indexByte pL c=3)∨(c=126/\Lib.indexByte pL c=4)∨(c=39/\Lib.indexByte pL c=5)))∨(zd9 c=false/\Lib.indexByte pL c<0):=by
 have h:∀n,n<256->(zd9 (UInt8.ofNat n)=true/\((UInt8.ofNat n=58/\Lib.indexByte pL (UInt8.ofNat n)=0)∨(UInt8.ofNat n=47/\Lib.indexByte pL (UInt8.ofNat n)=1)∨(UInt8.ofNat n=94/\Lib.indexByte pL (UInt8.ofNat n)=2)∨(UInt8.ofNat n=64/\Lib.indexByte pL (UInt8.ofNat n)=3)∨(UInt8.ofNat n=126/\Lib.indexByte pL (UInt8.ofNat n)=4)∨(UInt8.ofNat n=39/\Lib.indexByte pL (UInt8.ofNat n)=5)))∨(zd9 (UInt8.ofNat n)=false/\Lib.indexByte pL (UInt8.ofNat n)<0):=by decide+kernel
 have:=h c.toNat c.toNat_lt;rw[xp] at this;exact this
theorem zfS {P:Program} {f:FuncId} {args:Array Value} {w:World} {v:Value} (h:Calls P f args w λe w'=>e=.returned v/\w'=w):Calls P f args w λe w'=>e=.returned v/\w=w':=
 h.mono λ_ _ ⟨a,b⟩=>⟨a,b.symm⟩
def mkC (rb:Nat):Array Value:=#[.func (.func 181) #[.pointer (some ⟨rb,0,none⟩)] #[],.func (.func 182) #[.pointer (some ⟨rb,0,none⟩)] #[],.func (.func 183) #[.pointer (some ⟨rb,0,none⟩)] #[],.func (.func 184) #[.pointer (some ⟨rb,0,none⟩)] #[],.func (.func 185) #[.pointer (some ⟨rb,0,none⟩)] #[],.func (.func 186) #[.pointer (some ⟨rb,0,none⟩)] #[]]
theorem zkL (rb fb:Nat) (s:ByteArray) (i:Nat) (w:World) (h:Rd w rb fb s i):
  Calls Tryz.prog 151 #[.pointer (some ⟨rb,0,none⟩)] w λe w'=>e=.returned (zfR s i rb)/\Below w.heap.size w w':=by
 have hsz:=h.sz;have hle:=h.le;have hrb:=h.lt;have hne0:rb≠w.heap.size:=by omega
 generalize hW1:w.alloc (.cells (mkC rb) 217)=W1;have hB1:Below w.heap.size w W1:=by rw[<-hW1];exact(qb _ _).alloc (ql _) _
 have hr1:=h.below hB1;obtain⟨r0,r1,r2,r3⟩:=hr1.cells;rw[<-hW1] at r0 r1 r2 r3;have HW1:=qh hW1;have HB1:=qh hB1;have HR1:=qh hr1;have hF1:=qn w (.cells (mkC rb) 217);rw[hW1] at hF1;have HF1:=qh hF1;unfold mkC at r0 r1 r2 r3 HW1 HF1;clear hF1;clear h hr1 hB1 hW1;by_cases hi:i<s.size
 ·have hne:((i:Int)==(s.size:Int))=false:=by
   have:¬((i:Int)=(s.size:Int)):=(by omega);simpa using this
  have ZW:=qh (ZI hi);have Hv:Hid (zfR s i rb=if zd9 s[i] then .func (.func (zfQ s[i])) #[.pointer (some ⟨rb,0,none⟩)] #[] else .nilFunc):=qh (by unfold zfR;rw[ZW.out];by_cases hh:zd9 s[i]=true<;>simp[hh,hi]);have e1:∀c:UInt8,((c.toNat:Int)).toNat.toUInt8=c:=λc=>by simp
  have Hix:Hid (∀W,Calls Tryz.prog 114 #[.string ⟨#[58,47,94,64,126,39]⟩,.int .u8 s[i].toNat] W λe w'=>e=.returned (.int .i64 (Lib.indexByte pL s[i]))/\w'=W):=qh (λW=>(by
   have:=Tryz.strings_IndexByte ⟨pL.toArray⟩ s[i].toNat W;rw[e1 s[i]] at this;exact this))
  rcases zcV s[i] with⟨hs,hcs⟩|⟨hs,hneg⟩
  ·rw[hs,qx rfl] at Hv;clear e1 hs;rcases hcs with⟨hc,hk⟩|⟨hc,hk⟩|⟨hc,hk⟩|⟨hc,hk⟩|⟨hc,hk⟩|⟨hc,hk⟩
   all_goals
    rw[hk] at Hix;rw[hc] at Hv;clear hc hk;go_enter Tryz.func151,Tryz.ntmps151;go_wp2_with fail;go_quiet (fail)
    rw[HW1.out];have hr2:=HR1.out.drewN nq;have hf2:(W1.drewN nq).heap[w.heap.size]?=_:=HF1.out;have hb2:=Zi HB1.out nq;clear r0 r1 r2 r3;generalize W1.drewN nq=W2 at*;clear nq;obtain⟨r0,r1,r2,r3⟩:=hr2.cells;have k0:=qc _ _ 0 _ _ (0,0) hf2;have k1:=qc _ _ 1 _ _ (0,0) hf2;have k2:=qc _ _ 2 _ _ (0,0) hf2;have k3:=qc _ _ 3 _ _ (0,0) hf2;have k4:=qc _ _ 4 _ _ (0,0) hf2;have k5:=qc _ _ 5 _ _ (0,0) hf2;clear hf2 hr2;go_wp2_with fail;go_quiet ((go_at_call 114;exact kX (Hix.out _)))
    go_wp2_with fail;go_ret;exact⟨by rw[Hv.out];rfl,Zi hb2 _⟩
  ·rw[hs,qv (by simp)] at Hv;have hd:decide (0<=Lib.indexByte pL s[i])=false:=qd (by omega);generalize Lib.indexByte pL s[i]=n at*;clear e1 hs hneg;go_enter Tryz.func151,Tryz.ntmps151;go_wp2_with fail;go_quiet (fail)
   rw[HW1.out];have hr2:=HR1.out.drewN nq;have hf2:(W1.drewN nq).heap[w.heap.size]?=_:=HF1.out;have hb2:=Zi HB1.out nq;clear r0 r1 r2 r3;generalize W1.drewN nq=W2 at*;clear nq;obtain⟨r0,r1,r2,r3⟩:=hr2.cells;have k0:=qc _ _ 0 _ _ (0,0) hf2;have k1:=qc _ _ 1 _ _ (0,0) hf2;have k2:=qc _ _ 2 _ _ (0,0) hf2;have k3:=qc _ _ 3 _ _ (0,0) hf2;have k4:=qc _ _ 4 _ _ (0,0) hf2;have k5:=qc _ _ 5 _ _ (0,0) hf2;clear hf2 hr2;go_wp2_with fail;go_quiet ((go_at_call 114;exact kX (Hix.out _)))
   go_wp2_with fail;go_ret;exact⟨by rw[Hv.out];rfl,Zi hb2 _⟩
 ·have hne:((i:Int)==(s.size:Int))=true:=by
   have:(i:Int)=(s.size:Int):=(by omega);simpa using this
  have Hv:Hid (zfR s i rb=.nilFunc):=qh (by unfold zfR;rw[qv (λh=>hi h.1)]);go_enter Tryz.func151,Tryz.ntmps151;go_wp2_with fail;go_quiet (fail)
  go_wp2_with fail;go_ret;exact⟨by rw[Hv.out];rfl,by rw[HW1.out];exact Zi HB1.out _⟩
def Jc:List Rw->List Value->List Value
 |r::rs,v::vs=>.bool r.round::v::Jc rs vs
 |_,_=>[]
theorem zhn:∀(rows:List Rw) (vis:List Value),vis.length=rows.length->(Jc rows vis).length=rows.length*2
 |[],vis,h=>by simp[Jc]
 |r::rs,[],h=>by simp at h
 |r::rs,v::vs,h=>by
  have:=zhn rs vs (by simpa using h);simp only[Jc,qB,this];omega
theorem zho:∀(rows:List Rw) (vis:List Value) (k:Nat),vis.length=rows.length->k<rows.length->(Jc rows vis)[k*2]?=some (.bool (rows.getD k ⟨false,[]⟩).round)/\(Jc rows vis)[k*2+1]?=some (vis.getD k .nilFunc)
 |[],vis,k,_,hk=>by simp at hk
 |r::rs,[],k,h,_=>by simp at h
 |r::rs,v::vs,0,h,_=>by simp[Jc]
 |r::rs,v::vs,k+1,h,hk=>by
  have ih:=zho rs vs k (by simpa using h) (by simpa using hk);have e1:(k+1)*2=k*2+1+1:=by omega
  rw[e1];simpa [Jc] using ih
theorem zfT:∀(rows:List Rw) (vis:List Value) (r:Rw) (v:Value),vis.length=rows.length->Jc (rows++[r]) (vis++[v])=Jc rows vis++[.bool r.round,v]
 |[],[],r,v,_=>by simp[Jc]
 |[],_::_,_,_,h=>by simp at h
 |_::_,[],_,_,h=>by simp at h
 |q::rs,u::vs,r,v,h=>by
  have ih:=zfT rs vs r v (by simpa using h);simp only[zO,Jc,ih]
structure RwM (w:World) (B:Nat) (vs:Value) (rows:List Rw) (vis:List Value):Prop where
 n:vis.length=rows.length
 o:w.ownsRow B 106 2 vs rows.length (Jc rows vis)
 it:∀k,k<rows.length->∃A c,vis.getD k .nilFunc=.slice A (rows.getD k ⟨false,[]⟩).items.length c
def vV (rows:List Rw):Nat:=(rows.map λr=>r.items.length).sum
theorem zej (rows:List Rw) (k:Nat) (h:k<rows.length):vV (rows.take (k+1))=vV (rows.take k)+(rows.getD k ⟨false,[]⟩).items.length:=by
 unfold vV;rw[qD h,jE,yG];simp[qj,h]
theorem zlk (rows:List Rw) (k:Nat):vV (rows.take k)<=vV rows:=by
 unfold vV;conv=>rhs;rw[<-List.take_append_drop k rows,jE,yG]
 omega
theorem zdx (rows:List Rw) (n:Int) (k:Nat) (h:k<rows.length):Zh (rows.take (k+1)) n=ziH n (Zh (rows.take k) n) (rows.getD k ⟨false,[]⟩):=by
 unfold Zh;rw[qD h,List.foldl_append];simp[qj,h]
theorem zll {n:Int} {m:Nat} (h0:0<=n) (h1:n<=512):0<=n*(m:Int)/\n*(m:Int)<=512*(m:Int):=
 ⟨Int.mul_nonneg h0 (by omega),kk h1 (by omega)⟩
theorem zhp (rows:List Rw) (n:Int) (h0:0<=n) (h1:n<=512):∀k,k<=rows.length->0<=Zh (rows.take k) n/\Zh (rows.take k) n<=512*(vV (rows.take k):Int)
 |0,_=>by simp[Zh,vV]
 |k+1,hk=>by
  have ih:=zhp rows n h0 h1 k (by omega);rw[zdx rows n k (by omega),zej rows k (by omega)];have hm:=zll (m:=(rows.getD k ⟨false,[]⟩).items.length) h0 h1;unfold ziH;split
  ·push_cast;omega
  ·push_cast;omega
theorem zjy (B fb:Nat) (vs:Value) (rows:List Rw) (vis:List Value) (n:Int) (w:World) (hc:w.cell? ⟨fb,3,none⟩=some vs) (hm:RwM w B vs rows vis) (h0:0<=n) (h1:n<=512) (ht:vV rows<=65536) (hl:rows.length<=65536) (pW:fb<w.heap.size):
  Calls Tryz.prog 36 #[.pointer (some ⟨fb,0,none⟩),.int .i64 n] w λe w'=>e=.returned (.int .i64 (Zh rows n))/\Below w.heap.size w w':=by
 have Hm:=qh hm;have hfm:∃A c,vs=.slice A rows.length c/\rows.length<=c/\(0<rows.length->∃g,A=some ⟨g,0,none⟩/\g<w.heap.size/\∀k,k<rows.length->w.cell? ⟨g,k*2,none⟩=some (.bool (rows.getD k ⟨false,[]⟩).round)/\w.cell? ⟨g,k*2+1,none⟩=some (vis.getD k .nilFunc)):=by
  rcases hm.o.2 with⟨rfl,e0⟩|⟨g,cap,cur,rfl,_,hg,hcap,_⟩
  ·rw[e0];exact⟨none,0,rfl,ql _,λh=>by omega⟩
  ·refine⟨_,cap,rfl,hcap,λ_=>⟨g,rfl,(qg hg).1,λk hk=>?_⟩⟩;have hlen:=zhn rows vis hm.n;have hget:=zho rows vis k hm.n hk;exact⟨(hm.o.cellAt (k*2) (by omega)).trans hget.1,(hm.o.cellAt (k*2+1) (by omega)).trans hget.2⟩
 obtain⟨A,c,rfl,hcap,hrow⟩:=hfm;have Hsz:=qh (zhp rows n h0 h1);have Htl:=qh (zlk rows);clear hm;go_enter Tryz.func36,Tryz.ntmps36;go_wp2_with fail;go_loopw [5,13] (λt q wr=>∃k:Nat,k<=rows.length/\q=.int .i64 k/\t=.int .i64 (Zh (rows.take k) n)/\Hid (Below w.heap.size w wr)) (λ_ q _=>rows.length-(intOf q).toNat)
 case atStart=>exact⟨0,qH _,rfl,rfl,qh (qb _ _)⟩
 case round=>
  obtain⟨k,hk,rfl,rfl,hb⟩:=hrel;by_cases hlt:k<rows.length
  ·obtain⟨g,rfl,hgs,hcells⟩:=hrow (by omega);obtain⟨Ai,ci,J5⟩:=Hm.out.it k hlt;have hck:=hcells k hlt;rw[J5] at hck;have k0:=(hb.out.cell (p:=⟨g,k*2,none⟩) hgs).trans hck.1;have k1:=(hb.out.cell (p:=⟨g,k*2+1,none⟩) hgs).trans hck.2;have hst:=zdx rows n k hlt;have hbd:=Hsz.out k hk;have htk:=zej rows k hlt;have htl:=Htl.out (k+1);have hmb:=zll (m:=(rows.getD k ⟨false,[]⟩).items.length) h0 h1;generalize rows.getD k ⟨false,[]⟩=r at*;obtain⟨rr,ri⟩:=r;simp only[] at k0 k1 hst htk hmb;unfold ziH at hst;simp only[] at hst;generalize Zh (rows.take k) n=S at*;have hS2:S<=512*65536:=(by have:=hbd.2;omega);have hri:ri.length<=65536:=(by omega);have hbs:=hb.out.size;have Hb2:=λ(v1 v2:Value)=>qh (hb.out.alloc hbs (.cells #[v1,v2] 106));have HB2:=qh Hb2;have hw1:IntKind.i64.wrap (n*(ri.length:Int))=n*(ri.length:Int):=qi _ (by omega);have hw2:IntKind.i64.wrap (S+n*(ri.length:Int))=S+n*(ri.length:Int):=qi _ (by omega);have hw3:IntKind.i64.wrap (S+(ri.length:Int))=S+(ri.length:Int):=qi _ (by omega);have pg:=qh hst;clear hcells hck hst hbd htk htl hmb Hb2 J5;cases rr with
   |true=>
    go_wp2_with fail;go_roundw
    case rel=>exact⟨k+1,by omega,by go_num,by rw[pg.out,qx rfl],HB2.out _ _⟩
    case measure=>simp[intOf];omega
   |false=>
    go_wp2_with fail;go_roundw
    case rel=>exact⟨k+1,by omega,by go_num,by rw[pg.out,qv (by simp)],HB2.out _ _⟩
    case measure=>simp[intOf];omega
  ·obtain rfl:k=rows.length:=by omega
   go_wp2_with fail;go_ret;exact⟨by rw[qZ];rfl,hb.out⟩
end Go.Proofs.YtgklikkddckgbaaGreatDoor.Mo


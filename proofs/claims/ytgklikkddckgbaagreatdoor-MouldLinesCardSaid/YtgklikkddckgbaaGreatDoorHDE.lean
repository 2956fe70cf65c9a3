import Derived.Lib.OwnKind
import Derived.Test.YtgklikkddckgbaaGreatDoorHDD
/- Lemmas of the claim. -/
set_option linter.all false
namespace Go.Proofs.YtgklikkddckgbaaGreatDoor.Mo
open Go.RowKit
theorem zdp {s:ByteArray} {i:Nat} {c:Int} (h:isB s i c=true):((zaa s i).toNat:Int)=c:=by
 have hi:=zbr h;rw[zaA hi] at h;rw[zar hi];simpa using h
theorem zbD {s:ByteArray} {i:Nat} {c d:Int} (h:isB s i c=true) (hd:c≠d):isB s i d=false:=by
 have hi:=zbr h;rw[zaA hi] at h⊢;have:(s[i].toNat:Int)=c:=by simpa using h
 rw[this];simpa using hd
def zjr (c:Int) (i:Nat) (r:Except (Int×Nat) (Int×Nat)):Except (Int×Nat) (Mk×Nat):=match r with
 |.error e=>.error e
 |.ok (v,e)=>.ok (⟨c,v,i⟩,e)
theorem zdq {s:ByteArray} {letters:List UInt8} {ms:List Mk} {i:Nat} {c:Int} (h:isB s i c=true) (h1:c≠126) (h2:c≠58) (h3:c≠39):
  za0 s letters ms i=if zat ms c then .error (180,i) else zjr c i (numP s 1 (i+1)):=by
 unfold za0;rw[zbD h h1,zbD h h2,zbD h h3,zdp h];have hm:=zfK ms c;by_cases hk:1≤zaC ms c
 ·rw[if_pos (by simpa using hk),←hm,decide_eq_true hk];rfl
 ·rw[if_neg (by simpa using hk),←hm,decide_eq_false hk];unfold zjr;cases numP s 1 (i+1)<;>rfl
def zca (B rb fb xb:Nat) (s:ByteArray) (letters:List UInt8) (cls ref:Int) (ms:List Mk) (a:Nat) (vh:Value) (r:Except (Int×Nat) (Mk×Nat)) (w:World) (e:Ending) (w':World):Prop:=
 Off (rb::xb::vh.ownBlock.toList) w w'∧
 match r with
 |.error (c,p)=>e=PanE c p
 |.ok (m,j)=>e=.returned (.tuple #[])∧Rd w' rb fb s j∧∃vh',ItM w' B xb letters cls ref (ms++[m]) a vh'∧(vh'.ownBlock=vh.ownBlock∨∃b,vh'.ownBlock=some b∧w.heap.size≤b)
theorem zey {s:ByteArray} {i:Nat} {v:Int} {e:Nat} (h:numP s 1 i=.ok (v,e)):1≤v∧v≤512:=by
 unfold numP at h;split at h
 ·cases h
 ·split at h
  ·cases h
  ·cases h;omega
theorem zlJ {s:ByteArray} {l:Int} {i:Nat} {v:Int} {e:Nat} (hi:i≤s.size) (h:numP s l i=.ok (v,e)):i≤e∧e≤s.size:=by
 unfold numP at h;split at h
 ·cases h
 ·split at h
  ·cases h
  ·cases h;exact za2 i i hi
theorem zjs {letters:List UInt8} {cls ref:Int} {ms:List Mk} {a:Nat} {vh:Value} {v:Int} {i:Nat} (h0:zat ms 47=false):
  itC letters cls ref (ms++[⟨47,v,i⟩]) a vh=((itC letters cls ref ms a vh).setIfInBounds 12 (.bool true)).setIfInBounds 4 (.int .i64 v):=by
 unfold itC;rw[zew (by decide:(47:Int)≠58),zbE (c:=58) (by decide:(47:Int)≠58),zjo (c:=47) h0 rfl,zbE (c:=94) (by decide:(47:Int)≠94),zbE (c:=64) (by decide:(47:Int)≠64),zbE (c:=39) (by decide:(47:Int)≠39),zex _ rfl,zbh,zbh];simp
theorem zkH {letters:List UInt8} {cls ref:Int} {ms:List Mk} {a:Nat} {vh:Value} {v:Int} {i:Nat} (h0:zat ms 94=false):
  itC letters cls ref (ms++[⟨94,v,i⟩]) a vh=((itC letters cls ref ms a vh).setIfInBounds 10 (.int .i64 (if zai ms<0 then(i:Int) else zai ms))).setIfInBounds 5 (.int .i64 v):=by
 unfold itC;rw[zew (by decide:(94:Int)≠58),zbE (c:=58) (by decide:(94:Int)≠58),zbE (c:=47) (by decide:(94:Int)≠47),zjo (c:=94) h0 rfl,zbE (c:=64) (by decide:(94:Int)≠64),zbE (c:=39) (by decide:(94:Int)≠39),zfJ _ rfl,zbh,zbh];simp
theorem zkI {letters:List UInt8} {cls ref:Int} {ms:List Mk} {a:Nat} {vh:Value} {v:Int} {i:Nat} (h0:zat ms 64=false):
  itC letters cls ref (ms++[⟨64,v,i⟩]) a vh=((itC letters cls ref ms a vh).setIfInBounds 10 (.int .i64 (if zai ms<0 then(i:Int) else zai ms))).setIfInBounds 6 (.int .i64 v):=by
 unfold itC;rw[zew (by decide:(64:Int)≠58),zbE (c:=58) (by decide:(64:Int)≠58),zbE (c:=47) (by decide:(64:Int)≠47),zbE (c:=94) (by decide:(64:Int)≠94),zjo (c:=64) h0 rfl,zbE (c:=39) (by decide:(64:Int)≠39),zfJ _ rfl,zbh,zbh];simp
theorem ItM.num {w:World} {B xb:Nat} {letters:List UInt8} {cls ref:Int} {ms:List Mk} {a:Nat} {vh:Value} {w':World} {c v:Int} {i:Nat} {L:List Nat} (h:ItM w B xb letters cls ref ms a vh) (ho:Off L w w') (hL:∀k,vh.ownBlock=some k→k∉L) (hc:c=47∨c=94∨c=64) (hv:1≤v∧v≤512)
  (hx:w'.heap[xb]?=some (.cells (itC letters cls ref (ms++[⟨c,v,i⟩]) a vh) 108 (0,0))):ItM w' B xb letters cls ref (ms++[⟨c,v,i⟩]) a vh:=by
 have h126:c≠126:=by omega
 have hh:zau (ms++[⟨c,v,i⟩])=zau ms:=zjp ms h126;refine⟨hx,?_,?_,?_,h.hB⟩
 ·rw[hh];exact ho.own h.h hL
 ·intro m hm;rcases List.mem_append.1 hm with hm|hm
  ·exact h.ok m hm
  ·obtain rfl:m=⟨c,v,i⟩:=by simpa using hm
   exact⟨by show c=58∨c=47∨c=94∨c=64∨c=126∨c=39;omega,fun e=>by have e2:c=58∨c=39:=e;omega,fun _ _=>hv⟩
 ·unfold zaC;rw[List.countP_append];have:List.countP (fun m=>m.sign==126) [(⟨c,v,i⟩:Mk)]=0:=by simp[h126]
  rw[this];exact h.four
theorem ItM.sep {w:World} {B xb:Nat} {letters:List UInt8} {cls ref:Int} {ms:List Mk} {a:Nat} {vh:Value} (h:ItM w B xb letters cls ref ms a vh) {rb fb i:Nat} {s:ByteArray} (hr:Rd w rb fb s i):rb≠xb∧∀k,vh.ownBlock=some k→k≠rb∧k≠xb:=by
 refine⟨fun e=>?_,fun k hk=>?_⟩
 ·have:=hr.r;rw[e,h.x] at this;simp only[Option.some.injEq,Obj.cells.injEq] at this;exact absurd this.2.1 (by decide)
 ·rcases h.h.2 with⟨e,_⟩|⟨g,cap,cur,e,_,hg,_⟩
  ·rw[e] at hk;cases hk
  ·rw[e] at hk;cases hk;refine⟨fun e2=>?_,fun e2=>?_⟩
   ·subst e2;have:=hr.r;rw[hg] at this;simp only[Option.some.injEq,Obj.cells.injEq] at this;exact absurd this.2.1 (by decide)
   ·subst e2;have:=h.x;rw[hg] at this;simp only[Option.some.injEq,Obj.cells.injEq] at this;exact absurd this.2.1 (by decide)
set_option maxRecDepth 100000 in
theorem zfM (B rb fb xb:Nat) (s:ByteArray) (i:Nat) (letters:List UInt8) (cls ref:Int) (ms:List Mk) (a:Nat) (vh:Value) (w:World) (h:Rd w rb fb s i) (hx:ItM w B xb letters cls ref ms a vh) (hs:isB s i 47=true) (hv:Vars w) (h9:9≤rb) (h9x:9≤xb):
  Calls Tryz.prog 182 #[.pointer (some ⟨rb,0,none⟩),.pointer (some ⟨xb,0,none⟩)] w (zca B rb fb xb s letters cls ref ms a vh (za0 s letters ms i) w):=by
 rw[zdq (letters:=letters) (ms:=ms) hs (by decide) (by decide) (by decide)];have hi:=zbr hs;obtain⟨hne,hsp⟩:=hx.sep h;have hxl:xb<w.heap.size:=(qg hx.x).1;have xf:w.cell? ⟨xb,12,none⟩=some (.bool (zat ms 47)):=qc _ _ 12 _ _ (0,0) hx.x;have Hon:=qh (zeg rb fb s i (zat ms 47) w h hi);have Hx:=qh hx;have Hv:=qh hv;clear h hx hv hs;cases hany:zat ms 47 with
 |true=>
  rw[hany] at Hon xf;rw[if_pos rfl];clear hany;go_enter Tryz.func182,Tryz.ntmps182;go_wp2_with fail;refine Hon.out.mono ?_;rintro e w2 hst;unfold zbx zgp at hst;simp only[if_true] at hst;obtain⟨rfl,ho⟩:=hst;exact⟨rfl,ho.mono (fun k hk=>.inl (by simp at hk⊢;exact .inl hk)),rfl⟩
 |false=>
  rw[hany] at Hon xf;rw[if_neg (by simp)];have Hany:=qh hany;generalize hR:zjr 47 i (numP s 1 (i+1))=R;have HR:=qh hR;clear hany hR;go_enter Tryz.func182,Tryz.ntmps182;go_wp2_with fail;refine Hon.out.mono ?_;rintro e w2 hst;unfold zbx zgp at hst;simp only[Bool.false_eq_true,if_false] at hst;obtain⟨rfl,hrd,ho1⟩:=hst;have hx2:=(ho1.block xb hxl (by simp;omega)).trans Hx.out.x;have ho:Off [rb,xb] w w2:=ho1.mono (fun k hk=>.inl (by simp at hk⊢;exact .inl hk));have Hnum:=qh (zcq rb fb s (i+1) 1 w2 hrd (Vars.off Hv.out ho (by simp;exact⟨h9,h9x⟩)) h9 (by decide) (by decide));clear ho1;have Ho:=qh ho;have Hx2:=qh hx2;have hxl2:xb<w2.heap.size:=by have:=ho.size;omega
  clear hrd ho hx2 xf;go_wp2_with fail;refine Hnum.out.mono ?_;rintro e w3 ⟨ho3,hres⟩;have hx3:=(ho3.block xb hxl2 (by simp;omega)).trans Hx2.out;have hoo:Off [rb,xb] w w3:=Ho.out.trans (ho3.mono (fun k hk=>.inl (by simp at hk⊢;exact .inl hk)));cases hN:numP s 1 (i+1) with
  |error ep=>
   obtain⟨c,p⟩:=ep;rw[hN] at hres;have hR2:R=.error (c,p):=(by rw[←HR.out,hN];rfl);subst hres;refine⟨rfl,hoo.mono (fun k hk=>.inl (by simp at hk⊢;omega)),?_⟩;rw[hR2];rfl
  |ok vj=>
   obtain⟨v,j⟩:=vj;rw[hN] at hres;have HR2:Hid (R=.ok (⟨47,v,i⟩,j)):=qh (by rw[←HR.out,hN];rfl);obtain⟨rfl,hrd3⟩:=hres;have hbd:=zey hN;have x12:w3.cell? ⟨xb,12,none⟩=some (.bool (zat ms 47)):=qc _ _ 12 _ _ (0,0) hx3;have z12:=qf _ _ 12 _ _ hx3;have hx4:=qs w3 xb 12 _ _ (.bool true) hx3;have y4:(w3.setCell ⟨xb,12,none⟩ (.bool true)).cell? ⟨xb,4,none⟩=some (.int .i64 (nOf ms 47)):=qc _ _ 4 _ _ (0,0) hx4;have z4:=qf _ _ 4 _ _ hx4;have hx5:=qs _ xb 4 _ _ (.int .i64 v) hx4;rw[←zjs (i:=i) Hany.out] at hx5;have hos:Off [xb] w3 ((w3.setCell ⟨xb,12,none⟩ (.bool true)).setCell ⟨xb,4,none⟩ (.int .i64 v)):=(Off.setCell w3 xb 12 _).trans (Off.setCell _ xb 4 _);clear hx4;have ho6:Off [rb,xb] w ((w3.setCell ⟨xb,12,none⟩ (.bool true)).setCell ⟨xb,4,none⟩ (.int .i64 v)):=hoo.trans (hos.mono (fun k hk=>.inl (by simp at hk⊢;exact .inr hk)));have ho5:Off (rb::xb::vh.ownBlock.toList) w ((w3.setCell ⟨xb,12,none⟩ (.bool true)).setCell ⟨xb,4,none⟩ (.int .i64 v)):=ho6.mono (fun k hk=>.inl (by simp at hk⊢;omega));have Hfin:Hid (zca B rb fb xb s letters cls ref ms a vh R w (.returned (.tuple #[])) ((w3.setCell ⟨xb,12,none⟩ (.bool true)).setCell ⟨xb,4,none⟩ (.int .i64 v))):=qh (by
    rw[HR2.out];exact⟨ho5,rfl,hrd3.off hos (by simp;exact hne),vh,Hx.out.num ho6 (fun k hk=>by have:=hsp k hk;simp;exact this) (by decide) hbd hx5,.inl rfl⟩)
   clear hx3 hoo hrd3 hbd hx5 ho5 ho6 hN ho3 hos;go_wp2_with fail;refine bodyPost_end (results_none rfl _ _ _) rfl ?_;exact Hfin.out
set_option maxRecDepth 100000 in
theorem zgr (B rb fb xb:Nat) (s:ByteArray) (i:Nat) (letters:List UInt8) (cls ref:Int) (ms:List Mk) (a:Nat) (vh:Value) (w:World) (h:Rd w rb fb s i) (hx:ItM w B xb letters cls ref ms a vh) (hs:isB s i 94=true) (hv:Vars w) (h9:9≤rb) (h9x:9≤xb):
  Calls Tryz.prog 183 #[.pointer (some ⟨rb,0,none⟩),.pointer (some ⟨xb,0,none⟩)] w (zca B rb fb xb s letters cls ref ms a vh (za0 s letters ms i) w):=by
 rw[zdq (letters:=letters) (ms:=ms) hs (by decide) (by decide) (by decide)];have hi:=zbr hs;obtain⟨hne,hsp⟩:=hx.sep h;have hxl:xb<w.heap.size:=(qg hx.x).1;have xf:w.cell? ⟨xb,5,none⟩=some (.int .i64 (nOf ms 94)):=qc _ _ 5 _ _ (0,0) hx.x;have hd:decide (0<nOf ms 94)=zat ms 94:=by
  have:=(zlI hx.ok (c:=94)).1;cases hh:zat ms 94 with
  |true=>rw[hh] at this;exact qt (this.mpr rfl)
  |false=>rw[hh] at this;exact qd (fun e=>by have:=this.mp e;cases this)
 have Hon:=qh (zcI rb fb xb s i (zat ms 94) ms (itC letters cls ref ms a vh) w h hi hx.x rfl hne);have Hx:=qh hx;have Hv:=qh hv;clear h hx hv hs;cases hany:zat ms 94 with
 |true=>
  rw[hany] at Hon hd;rw[if_pos rfl];clear hany;go_enter Tryz.func183,Tryz.ntmps183;go_wp2_with fail;refine Hon.out.mono ?_;rintro e w2 hst;obtain⟨ho,he⟩:=hst;rw[if_pos rfl] at he;subst he;exact⟨rfl,ho.mono (fun k hk=>.inl (by simp at hk⊢;omega)),rfl⟩
 |false=>
  rw[hany] at Hon hd;rw[if_neg (by simp)];have Hany:=qh hany;generalize hR:zjr 94 i (numP s 1 (i+1))=R;have HR:=qh hR;clear hany hR;go_enter Tryz.func183,Tryz.ntmps183;go_wp2_with fail;refine Hon.out.mono ?_;rintro e w2 hst;obtain⟨ho,he⟩:=hst;rw[if_neg (by simp)] at he;obtain⟨rfl,hrd,hx2⟩:=he;have Hnum:=qh (zcq rb fb s (i+1) 1 w2 hrd (Vars.off Hv.out ho (by simp;exact⟨h9,h9x⟩)) h9 (by decide) (by decide));have Ho:=qh ho;have Hx2:=qh hx2;have hxl2:xb<w2.heap.size:=by have:=ho.size;omega
  clear hrd ho hx2 xf;go_wp2_with fail;refine Hnum.out.mono ?_;rintro e w3 ⟨ho3,hres⟩;have hx3:=(ho3.block xb hxl2 (by simp;omega)).trans Hx2.out;have hoo:Off [rb,xb] w w3:=Ho.out.trans (ho3.mono (fun k hk=>.inl (by simp at hk⊢;exact .inl hk)));cases hN:numP s 1 (i+1) with
  |error ep=>
   obtain⟨c,p⟩:=ep;rw[hN] at hres;have hR2:R=.error (c,p):=(by rw[←HR.out,hN];rfl);subst hres;refine⟨rfl,hoo.mono (fun k hk=>.inl (by simp at hk⊢;omega)),?_⟩;rw[hR2];rfl
  |ok vj=>
   obtain⟨v,j⟩:=vj;rw[hN] at hres;have HR2:Hid (R=.ok (⟨94,v,i⟩,j)):=qh (by rw[←HR.out,hN];rfl);obtain⟨rfl,hrd3⟩:=hres;have hbd:=zey hN;have xq:w3.cell? ⟨xb,5,none⟩=some (.int .i64 (nOf ms 94)):=qc _ _ 5 _ _ (0,0) hx3;have zq:=qf _ _ 5 _ _ hx3;have hx5:=qs _ xb 5 _ _ (.int .i64 v) hx3;rw[←zkH (i:=i) Hany.out] at hx5;have hos:Off [xb] w3 (w3.setCell ⟨xb,5,none⟩ (.int .i64 v)):=Off.setCell w3 xb 5 _;have ho6:Off [rb,xb] w (w3.setCell ⟨xb,5,none⟩ (.int .i64 v)):=hoo.trans (hos.mono (fun k hk=>.inl (by simp at hk⊢;exact .inr hk)));have ho5:Off (rb::xb::vh.ownBlock.toList) w (w3.setCell ⟨xb,5,none⟩ (.int .i64 v)):=ho6.mono (fun k hk=>.inl (by simp at hk⊢;omega));have Hfin:Hid (zca B rb fb xb s letters cls ref ms a vh R w (.returned (.tuple #[])) (w3.setCell ⟨xb,5,none⟩ (.int .i64 v))):=qh (by
    rw[HR2.out];exact⟨ho5,rfl,hrd3.off hos (by simp;exact hne),vh,Hx.out.num ho6 (fun k hk=>by have:=hsp k hk;simp;exact this) (by decide) hbd hx5,.inl rfl⟩)
   clear hx3 hoo hrd3 hbd hx5 ho5 ho6 hN ho3 hos;go_wp2_with fail;refine bodyPost_end (results_none rfl _ _ _) rfl ?_;exact Hfin.out
set_option maxRecDepth 100000 in
theorem zgs (B rb fb xb:Nat) (s:ByteArray) (i:Nat) (letters:List UInt8) (cls ref:Int) (ms:List Mk) (a:Nat) (vh:Value) (w:World) (h:Rd w rb fb s i) (hx:ItM w B xb letters cls ref ms a vh) (hs:isB s i 64=true) (hv:Vars w) (h9:9≤rb) (h9x:9≤xb):
  Calls Tryz.prog 184 #[.pointer (some ⟨rb,0,none⟩),.pointer (some ⟨xb,0,none⟩)] w (zca B rb fb xb s letters cls ref ms a vh (za0 s letters ms i) w):=by
 rw[zdq (letters:=letters) (ms:=ms) hs (by decide) (by decide) (by decide)];have hi:=zbr hs;obtain⟨hne,hsp⟩:=hx.sep h;have hxl:xb<w.heap.size:=(qg hx.x).1;have xf:w.cell? ⟨xb,6,none⟩=some (.int .i64 (nOf ms 64)):=qc _ _ 6 _ _ (0,0) hx.x;have hd:decide (0<nOf ms 64)=zat ms 64:=by
  have:=(zlI hx.ok (c:=64)).1;cases hh:zat ms 64 with
  |true=>rw[hh] at this;exact qt (this.mpr rfl)
  |false=>rw[hh] at this;exact qd (fun e=>by have:=this.mp e;cases this)
 have Hon:=qh (zcI rb fb xb s i (zat ms 64) ms (itC letters cls ref ms a vh) w h hi hx.x rfl hne);have Hx:=qh hx;have Hv:=qh hv;clear h hx hv hs;cases hany:zat ms 64 with
 |true=>
  rw[hany] at Hon hd;rw[if_pos rfl];clear hany;go_enter Tryz.func184,Tryz.ntmps184;go_wp2_with fail;refine Hon.out.mono ?_;rintro e w2 hst;obtain⟨ho,he⟩:=hst;rw[if_pos rfl] at he;subst he;exact⟨rfl,ho.mono (fun k hk=>.inl (by simp at hk⊢;omega)),rfl⟩
 |false=>
  rw[hany] at Hon hd;rw[if_neg (by simp)];have Hany:=qh hany;generalize hR:zjr 64 i (numP s 1 (i+1))=R;have HR:=qh hR;clear hany hR;go_enter Tryz.func184,Tryz.ntmps184;go_wp2_with fail;refine Hon.out.mono ?_;rintro e w2 hst;obtain⟨ho,he⟩:=hst;rw[if_neg (by simp)] at he;obtain⟨rfl,hrd,hx2⟩:=he;have Hnum:=qh (zcq rb fb s (i+1) 1 w2 hrd (Vars.off Hv.out ho (by simp;exact⟨h9,h9x⟩)) h9 (by decide) (by decide));have Ho:=qh ho;have Hx2:=qh hx2;have hxl2:xb<w2.heap.size:=by have:=ho.size;omega
  clear hrd ho hx2 xf;go_wp2_with fail;refine Hnum.out.mono ?_;rintro e w3 ⟨ho3,hres⟩;have hx3:=(ho3.block xb hxl2 (by simp;omega)).trans Hx2.out;have hoo:Off [rb,xb] w w3:=Ho.out.trans (ho3.mono (fun k hk=>.inl (by simp at hk⊢;exact .inl hk)));cases hN:numP s 1 (i+1) with
  |error ep=>
   obtain⟨c,p⟩:=ep;rw[hN] at hres;have hR2:R=.error (c,p):=(by rw[←HR.out,hN];rfl);subst hres;refine⟨rfl,hoo.mono (fun k hk=>.inl (by simp at hk⊢;omega)),?_⟩;rw[hR2];rfl
  |ok vj=>
   obtain⟨v,j⟩:=vj;rw[hN] at hres;have HR2:Hid (R=.ok (⟨64,v,i⟩,j)):=qh (by rw[←HR.out,hN];rfl);obtain⟨rfl,hrd3⟩:=hres;have hbd:=zey hN;have xq:w3.cell? ⟨xb,6,none⟩=some (.int .i64 (nOf ms 64)):=qc _ _ 6 _ _ (0,0) hx3;have zq:=qf _ _ 6 _ _ hx3;have hx5:=qs _ xb 6 _ _ (.int .i64 v) hx3;rw[←zkI (i:=i) Hany.out] at hx5;have hos:Off [xb] w3 (w3.setCell ⟨xb,6,none⟩ (.int .i64 v)):=Off.setCell w3 xb 6 _;have ho6:Off [rb,xb] w (w3.setCell ⟨xb,6,none⟩ (.int .i64 v)):=hoo.trans (hos.mono (fun k hk=>.inl (by simp at hk⊢;exact .inr hk)));have ho5:Off (rb::xb::vh.ownBlock.toList) w (w3.setCell ⟨xb,6,none⟩ (.int .i64 v)):=ho6.mono (fun k hk=>.inl (by simp at hk⊢;omega));have Hfin:Hid (zca B rb fb xb s letters cls ref ms a vh R w (.returned (.tuple #[])) (w3.setCell ⟨xb,6,none⟩ (.int .i64 v))):=qh (by
    rw[HR2.out];exact⟨ho5,rfl,hrd3.off hos (by simp;exact hne),vh,Hx.out.num ho6 (fun k hk=>by have:=hsp k hk;simp;exact this) (by decide) hbd hx5,.inl rfl⟩)
   clear hx3 hoo hrd3 hbd hx5 ho5 ho6 hN ho3 hos;go_wp2_with fail;refine bodyPost_end (results_none rfl _ _ _) rfl ?_;exact Hfin.out
theorem zd1 {s:ByteArray} {letters:List UInt8} {ms:List Mk} {i:Nat} (h:isB s i 39=true):
  za0 s letters ms i=if zat ms 39 then .error (180,i) else if inB s (i+1) 97 122 then .ok (⟨39,(zaa s (i+1)).toNat,i⟩,i+2) else .error (180,i+1):=by
 unfold za0;rw[zbD h (by decide:(39:Int)≠126),zbD h (by decide:(39:Int)≠58),h,zdp h];have hm:=zfK ms 39;by_cases hk:1≤zaC ms 39
 ·rw[if_pos (by simpa using hk),←hm,decide_eq_true hk];rfl
 ·rw[if_neg (by simpa using hk),←hm,decide_eq_false hk];by_cases hb:inB s (i+1) 97 122=true
  ·rw[if_pos (by rfl),if_neg (by simpa using hb),if_neg (by simp),if_neg (by simp),if_pos hb]
  ·rw[if_pos (by rfl),if_pos (by simpa using hb),if_neg (by simp),if_neg hb]
theorem zez {s:ByteArray} {letters:List UInt8} {ms:List Mk} {i:Nat} (h:isB s i 58=true):
  za0 s letters ms i=if zat ms 58 then .error (180,i) else if inB s (i+1) 97 122 then(if Lib.indexByte letters (zaa s (i+1))<0 then .error (181,i+1) else .ok (⟨58,(zaa s (i+1)).toNat,i⟩,i+2)) else .error (180,i+1):=by
 unfold za0;rw[zbD h (by decide:(58:Int)≠126),h,zdp h];have hm:=zfK ms 58;by_cases hk:1≤zaC ms 58
 ·rw[if_pos (by simpa using hk),←hm,decide_eq_true hk];rfl
 ·rw[if_neg (by simpa using hk),←hm,decide_eq_false hk];by_cases hb:inB s (i+1) 97 122=true
  ·rw[if_pos (by rfl),if_neg (by simpa using hb)];by_cases hl:Lib.indexByte letters (zaa s (i+1))<0
   ·rw[if_pos (by simpa using hl),if_neg (by simp),if_pos hb,if_pos hl]
   ·rw[if_neg (by simpa using hl),if_neg (by simp),if_pos hb,if_neg hl]
  ·rw[if_pos (by rfl),if_pos (by simpa using hb),if_neg (by simp),if_neg hb]
theorem ziI {letters:List UInt8} {cls ref:Int} {ms:List Mk} {a:Nat} {vh:Value} {v:Int} {i:Nat} (h0:zat ms 39=false):
  itC letters cls ref (ms++[⟨39,v,i⟩]) a vh=(itC letters cls ref ms a vh).setIfInBounds 8 (.int .i32 v):=by
 unfold itC;rw[zew (by decide:(39:Int)≠58),zbE (c:=58) (by decide:(39:Int)≠58),zbE (c:=47) (by decide:(39:Int)≠47),zbE (c:=94) (by decide:(39:Int)≠94),zbE (c:=64) (by decide:(39:Int)≠64),zjo (c:=39) h0 rfl,zex _ rfl,zbh,zbh];simp
theorem zjt {letters:List UInt8} {cls ref:Int} {ms:List Mk} {a:Nat} {vh:Value} {v:UInt8} {i:Nat} (h0:zat ms 58=false):
  itC letters cls ref (ms++[⟨58,v.toNat,i⟩]) a vh=(((itC letters cls ref ms a vh).setIfInBounds 2 (.int .i64 (Lib.indexByte letters v))).setIfInBounds 11 (.bool true)).setIfInBounds 3 (.int .u8 v.toNat):=by
 have e:((v.toNat:Nat):Int).toNat.toUInt8=v:=by simp
 unfold itC;rw[zlG h0 rfl,zjo (c:=58) h0 rfl,zbE (c:=47) (by decide:(58:Int)≠47),zbE (c:=94) (by decide:(58:Int)≠94),zbE (c:=64) (by decide:(58:Int)≠64),zbE (c:=39) (by decide:(58:Int)≠39),zex _ rfl,zbh,zbh];simp only[e];simp
theorem ItM.let_ {w:World} {B xb:Nat} {letters:List UInt8} {cls ref:Int} {ms:List Mk} {a:Nat} {vh:Value} {w':World} {c v:Int} {i:Nat} {L:List Nat} (h:ItM w B xb letters cls ref ms a vh) (ho:Off L w w') (hL:∀k,vh.ownBlock=some k→k∉L) (hc:c=58∨c=39) (hv:97≤v∧v≤122)
  (hx:w'.heap[xb]?=some (.cells (itC letters cls ref (ms++[⟨c,v,i⟩]) a vh) 108 (0,0))):ItM w' B xb letters cls ref (ms++[⟨c,v,i⟩]) a vh:=by
 have h126:c≠126:=by omega
 have hh:zau (ms++[⟨c,v,i⟩])=zau ms:=zjp ms h126;refine⟨hx,?_,?_,?_,h.hB⟩
 ·rw[hh];exact ho.own h.h hL
 ·intro m hm;rcases List.mem_append.1 hm with hm|hm
  ·exact h.ok m hm
  ·obtain rfl:m=⟨c,v,i⟩:=by simpa using hm
   exact⟨by show c=58∨c=47∨c=94∨c=64∨c=126∨c=39;omega,fun _=>hv,fun e1 e2=>by have e3:c≠58:=e1;have e4:c≠39:=e2;omega⟩
 ·unfold zaC;rw[List.countP_append];have:List.countP (fun m=>m.sign==126) [(⟨c,v,i⟩:Mk)]=0:=by simp[h126]
  rw[this];exact h.four
theorem zh1 {s:ByteArray} {i:Nat} (h:inB s i 97 122=true):97≤((zaa s i).toNat:Int)∧((zaa s i).toNat:Int)≤122:=by
 have hi:=zb7 h;rw[zbw hi] at h;rw[zar hi];simp only[Bool.and_eq_true,decide_eq_true_eq] at h;exact h
set_option maxRecDepth 100000 in
theorem ze4 (B rb fb xb:Nat) (s:ByteArray) (i:Nat) (letters:List UInt8) (cls ref:Int) (ms:List Mk) (a:Nat) (vh:Value) (w:World) (h:Rd w rb fb s i) (hx:ItM w B xb letters cls ref ms a vh) (hs:isB s i 39=true):
  Calls Tryz.prog 186 #[.pointer (some ⟨rb,0,none⟩),.pointer (some ⟨xb,0,none⟩)] w (zca B rb fb xb s letters cls ref ms a vh (za0 s letters ms i) w):=by
 rw[zd1 (letters:=letters) (ms:=ms) hs];have hi:=zbr hs;obtain⟨hne,hsp⟩:=hx.sep h;have hxl:xb<w.heap.size:=(qg hx.x).1;have xf:w.cell? ⟨xb,8,none⟩=some (.int .i32 (nOf ms 39)):=qc _ _ 8 _ _ (0,0) hx.x;have hd:(nOf ms 39 !=0)=zat ms 39:=(zlI hx.ok (c:=39)).2;have Hon:=qh (zeg rb fb s i (zat ms 39) w h hi);have Hx:=qh hx;clear h hx hs;cases hany:zat ms 39 with
 |true=>
  rw[hany] at Hon hd;rw[if_pos rfl];clear hany;go_enter Tryz.func186,Tryz.ntmps186;go_wp2_with fail;refine Hon.out.mono ?_;rintro e w2 hst;unfold zbx zgp at hst;simp only[if_true] at hst;obtain⟨rfl,ho⟩:=hst;exact⟨rfl,ho.mono (fun k hk=>.inl (by simp at hk⊢;exact .inl hk)),rfl⟩
 |false=>
  rw[hany] at Hon hd;rw[if_neg (by simp)];have Hany:=qh hany;generalize hR:(if inB s (i+1) 97 122 then(.ok (⟨39,(zaa s (i+1)).toNat,i⟩,i+2):Except (Int×Nat) (Mk×Nat)) else .error (180,i+1))=R;have HR:=qh hR;clear hany hR;go_enter Tryz.func186,Tryz.ntmps186;go_wp2_with fail;refine Hon.out.mono ?_;rintro e w2 hst;unfold zbx zgp at hst;simp only[Bool.false_eq_true,if_false] at hst;obtain⟨rfl,hrd,ho1⟩:=hst;have hx2:=(ho1.block xb hxl (by simp;omega)).trans Hx.out.x;have Hlet:=qh (zdN rb fb s (i+1) w2 hrd);have Ho:=qh ho1;have Hx2:=qh hx2;have hxl2:xb<w2.heap.size:=by have:=ho1.size;omega
  clear hrd ho1 hx2 xf;go_wp2_with fail;refine Hlet.out.mono ?_;rintro e w3 ⟨ho3,hres⟩;have hx3:=(ho3.block xb hxl2 (by simp;omega)).trans Hx2.out;have hoo:Off [rb,xb] w w3:=(Ho.out.trans ho3).mono (fun k hk=>.inl (by simp at hk⊢;exact .inl hk));cases hN:inB s (i+1) 97 122 with
  |false=>
   rw[hN,if_neg (by simp)] at hres;have hR2:R=.error (180,i+1):=(by rw[←HR.out,hN];rfl);subst hres;refine⟨rfl,hoo.mono (fun k hk=>.inl (by simp at hk⊢;omega)),?_⟩;rw[hR2];rfl
  |true=>
   rw[hN,if_pos rfl] at hres;have HR2:Hid (R=.ok (⟨39,(zaa s (i+1)).toNat,i⟩,i+2)):=qh (by rw[←HR.out,hN];rfl);obtain⟨rfl,hrd3⟩:=hres;have hbd:=zh1 hN;generalize zaa s (i+1)=c at*;have hwc:IntKind.i32.wrap (c.toNat:Int)=(c.toNat:Int):=IntWalk.i32_in _ (by omega);have xq:w3.cell? ⟨xb,8,none⟩=some (.int .i32 (nOf ms 39)):=qc _ _ 8 _ _ (0,0) hx3;have zq:=qf _ _ 8 _ _ hx3;have hx5:=qs _ xb 8 _ _ (.int .i32 c.toNat) hx3;rw[←ziI (i:=i) Hany.out] at hx5;have hos:Off [xb] w3 (w3.setCell ⟨xb,8,none⟩ (.int .i32 c.toNat)):=Off.setCell w3 xb 8 _;have ho6:Off [rb,xb] w (w3.setCell ⟨xb,8,none⟩ (.int .i32 c.toNat)):=hoo.trans (hos.mono (fun k hk=>.inl (by simp at hk⊢;exact .inr hk)));have ho5:Off (rb::xb::vh.ownBlock.toList) w (w3.setCell ⟨xb,8,none⟩ (.int .i32 c.toNat)):=ho6.mono (fun k hk=>.inl (by simp at hk⊢;omega));have Hfin:Hid (zca B rb fb xb s letters cls ref ms a vh R w (.returned (.tuple #[])) (w3.setCell ⟨xb,8,none⟩ (.int .i32 c.toNat))):=qh (by
    rw[HR2.out];exact⟨ho5,rfl,hrd3.off hos (by simp;exact hne),vh,Hx.out.let_ ho6 (fun k hk=>by have:=hsp k hk;simp;exact this) (by decide) hbd hx5,.inl rfl⟩)
   clear hx3 hoo hrd3 hbd hx5 ho5 ho6 hN ho3 hos;go_wp2_with fail;refine bodyPost_end (results_none rfl _ _ _) rfl ?_;exact Hfin.out
def byC (l:List UInt8):List Value:=l.map fun b=>.int .u8 b.toNat
structure LetM (w:World) (B fb:Nat) (letters:List UInt8) (vl:Value):Prop where
 c:w.cell? ⟨fb,1,none⟩=some vl
 o:w.ownsRow B 5 1 vl letters.length (byC letters)
theorem LetM.conv {w:World} {B fb:Nat} {letters:List UInt8} {vl:Value} (h:LetM w B fb letters vl):(∃a l c,vl=.slice a l c)∧(convert 25 9 vl).run Tryz.prog w=.ok (.string ⟨letters.toArray⟩) w:=by
 rcases h.o.2 with⟨rfl,h0⟩|⟨g,cap,cur,rfl,_⟩
 ·have:letters=[]:=List.eq_nil_of_length_eq_zero h0;subst this;exact⟨⟨_,_,_,rfl⟩,run_convert_bytes_nil w _ _ Tryz.underlying25 Tryz.underlying5 0 0 _ Tryz.underlying9⟩
 ·refine⟨⟨_,_,_,rfl⟩,run_convert_bytes_back w _ _ _ ⟨g,0,none⟩ cap letters Tryz.underlying25 Tryz.underlying5 Tryz.underlying9 (fun j hj=>?_)⟩;have hplain:(⟨g,0,none⟩:Addr).add j=⟨g,j,none⟩:=by unfold Addr.add;split<;>simp_all
  rw[hplain,h.o.cellAt j (by omega)];unfold byC;simp[hj]
theorem LetM.off {w w':World} {B fb:Nat} {letters:List UInt8} {vl:Value} {L:List Nat} (h:LetM w B fb letters vl) (ho:Off L w w') (hf:fb<w.heap.size) (hfl:fb∉L) (hvl:∀k,vl.ownBlock=some k→k∉L):LetM w' B fb letters vl:=
 ⟨(ho.cell hf hfl).trans h.c,ho.own h.o hvl⟩
set_option maxRecDepth 100000 in
theorem zfN (B Bl rb fb xb:Nat) (s:ByteArray) (i:Nat) (letters:List UInt8) (cls ref:Int) (ms:List Mk) (a:Nat) (vh vl:Value) (w:World) (h:Rd w rb fb s i) (hx:ItM w B xb letters cls ref ms a vh) (hs:isB s i 58=true)
  (hl:LetM w Bl fb letters vl) (hfs:fb<w.heap.size) (hfr:fb≠rb) (hfx:fb≠xb) (hvl:∀k,vl.ownBlock=some k→k≠rb∧k≠xb):
  Calls Tryz.prog 181 #[.pointer (some ⟨rb,0,none⟩),.pointer (some ⟨xb,0,none⟩)] w (zca B rb fb xb s letters cls ref ms a vh (za0 s letters ms i) w):=by
 rw[zez (letters:=letters) (ms:=ms) hs];have hi:=zbr hs;obtain⟨hne,hsp⟩:=hx.sep h;have hxl:xb<w.heap.size:=(qg hx.x).1;have xf:w.cell? ⟨xb,11,none⟩=some (.bool (zat ms 58)):=qc _ _ 11 _ _ (0,0) hx.x;have Hon:=qh (zeg rb fb s i (zat ms 58) w h hi);have Hx:=qh hx;have Hl:=qh hl;clear h hx hs hl;cases hany:zat ms 58 with
 |true=>
  rw[hany] at Hon xf;rw[if_pos rfl];clear hany;go_enter Tryz.func181,Tryz.ntmps181;go_wp2_with fail;refine Hon.out.mono ?_;rintro e w2 hst;unfold zbx zgp at hst;simp only[if_true] at hst;obtain⟨rfl,ho⟩:=hst;exact⟨rfl,ho.mono (fun k hk=>.inl (by simp at hk⊢;exact .inl hk)),rfl⟩
 |false=>
  rw[hany] at Hon xf;rw[if_neg (by simp)];have Hany:=qh hany;generalize hR:(if inB s (i+1) 97 122 then(if Lib.indexByte letters (zaa s (i+1))<0 then(.error (181,i+1):Except (Int×Nat) (Mk×Nat)) else .ok (⟨58,(zaa s (i+1)).toNat,i⟩,i+2)) else .error (180,i+1))=R;have HR:=qh hR;clear hany hR;go_enter Tryz.func181,Tryz.ntmps181;go_wp2_with fail;refine Hon.out.mono ?_;rintro e w2 hst;unfold zbx zgp at hst;simp only[Bool.false_eq_true,if_false] at hst;obtain⟨rfl,hrd,ho1⟩:=hst;have hx2:=(ho1.block xb hxl (by simp;omega)).trans Hx.out.x;have Hlet:=qh (zdN rb fb s (i+1) w2 hrd);have Ho:=qh ho1;have Hx2:=qh hx2;have hxl2:xb<w2.heap.size:=by have:=ho1.size;omega
  clear hrd ho1 hx2 xf;go_wp2_with fail;refine Hlet.out.mono ?_;rintro e w3 ⟨ho3,hres⟩;have hx3:=(ho3.block xb hxl2 (by simp;omega)).trans Hx2.out;have hor:=Ho.out.trans ho3;have hoo:Off [rb,xb] w w3:=hor.mono (fun k hk=>.inl (by simp at hk⊢;exact .inl hk));cases hN:inB s (i+1) 97 122 with
  |false=>
   rw[hN,if_neg (by simp)] at hres;have hR2:R=.error (180,i+1):=(by rw[←HR.out,hN];rfl);subst hres;refine⟨rfl,hoo.mono (fun k hk=>.inl (by simp at hk⊢;omega)),?_⟩;rw[hR2];rfl
  |true=>
   rw[hN,if_pos rfl] at hres;have HR1:Hid (R=if Lib.indexByte letters (zaa s (i+1))<0 then .error (181,i+1) else .ok (⟨58,(zaa s (i+1)).toNat,i⟩,i+2)):=qh (by rw[←HR.out,hN];rfl);obtain⟨rfl,hrd3⟩:=hres;have hbd:=zh1 hN;generalize zaa s (i+1)=c at*;obtain⟨r0,r1,r2,r3⟩:=hrd3.cells;have hl3:=Hl.out.off hor hfs (by simp;exact hfr) (fun k hk=>by have:=hvl k hk;simp;exact this.1);obtain⟨⟨la,ll,lc,hvl'⟩,hcv⟩:=hl3.conv;subst hvl';have hlc:=hl3.c;have hix:=qh (Tryz.strings_IndexByte ⟨letters.toArray⟩ c.toNat w3);have x2:w3.cell? ⟨xb,2,none⟩=some (.int .i64 (zbQ letters ms)):=qc _ _ 2 _ _ (0,0) hx3;have z2:=qf _ _ 2 _ _ hx3;have hx4:=qs _ xb 2 _ _ (.int .i64 (Lib.indexByte letters c)) hx3;have y2:(w3.setCell ⟨xb,2,none⟩ (.int .i64 (Lib.indexByte letters c))).cell? ⟨xb,2,none⟩=some (.int .i64 (Lib.indexByte letters c)):=qc _ _ 2 _ _ (0,0) hx4;have y11:(w3.setCell ⟨xb,2,none⟩ (.int .i64 (Lib.indexByte letters c))).cell? ⟨xb,11,none⟩=some (.bool (zat ms 58)):=qc _ _ 11 _ _ (0,0) hx4;have z11:=qf _ _ 11 _ _ hx4;have e1:((c.toNat:Int)).toNat.toUInt8=c:=(by simp);rw[e1] at hix;have Hos:Hid (Off [xb] w3 (w3.setCell ⟨xb,2,none⟩ (.int .i64 (Lib.indexByte letters c)))):=qh (Off.setCell w3 xb 2 _);have Hrd3:=qh hrd3;have Hoo:=qh hoo;have Hx4:=qh hx4;have Hbd:=qh hbd;clear hx3 hoo hrd3 hbd hx4 hN ho3 hor hl3;go_wp2_with fail;refine hix.out.mono ?_;rintro e w4 ⟨rfl,rfl⟩;generalize hn':Lib.indexByte letters c=n at*;have Hn':=qh hn';clear hn' hix;by_cases hn:n<0
   ·have hdn:decide (n<0)=true:=qt hn;have HR2:Hid (R=.error (181,i+1)):=qh (by rw[HR1.out,if_pos hn]);have hf:=qh (fail_any 181 (i+1) (w4.setCell ⟨xb,2,none⟩ (.int .i64 n)));clear hn;go_wp2_with fail;refine hf.out.mono ?_;rintro e w5 ⟨rfl,hb5⟩;refine⟨rfl,((Hoo.out.trans (Hos.out.mono (fun k hk=>.inl (by simp at hk⊢;exact .inr hk)))).trans (Off.of_below hb5 (ql _) _)).mono (fun k hk=>.inl (by simp at hk⊢;omega)),?_⟩;rw[HR2.out];rfl
   ·have hdn:decide (n<0)=false:=qd hn;have HR2:Hid (R=.ok (⟨58,c.toNat,i⟩,i+2)):=qh (by rw[HR1.out,if_neg hn]);have hx5:=qs _ xb 11 _ _ (.bool true) Hx4.out;have y3:((w4.setCell ⟨xb,2,none⟩ (.int .i64 n)).setCell ⟨xb,11,none⟩ (.bool true)).cell? ⟨xb,3,none⟩=some (.int .u8 (nOf ms 58)):=qc _ _ 3 _ _ (0,0) hx5;have z3:=qf _ _ 3 _ _ hx5;have hx6:=qs _ xb 3 _ _ (.int .u8 c.toNat) hx5;have hit:=zjt (letters:=letters) (cls:=cls) (ref:=ref) (a:=a) (vh:=vh) (v:=c) (i:=i) Hany.out;rw[Hn'.out] at hit;rw[←hit] at hx6;have hos2:Off [xb] w4 (((w4.setCell ⟨xb,2,none⟩ (.int .i64 n)).setCell ⟨xb,11,none⟩ (.bool true)).setCell ⟨xb,3,none⟩ (.int .u8 c.toNat)):=(Hos.out.trans (Off.setCell _ xb 11 _)).trans (Off.setCell _ xb 3 _);have ho6:Off [rb,xb] w (((w4.setCell ⟨xb,2,none⟩ (.int .i64 n)).setCell ⟨xb,11,none⟩ (.bool true)).setCell ⟨xb,3,none⟩ (.int .u8 c.toNat)):=Hoo.out.trans (hos2.mono (fun k hk=>.inl (by simp at hk⊢;exact .inr hk)));have ho5:Off (rb::xb::vh.ownBlock.toList) w (((w4.setCell ⟨xb,2,none⟩ (.int .i64 n)).setCell ⟨xb,11,none⟩ (.bool true)).setCell ⟨xb,3,none⟩ (.int .u8 c.toNat)):=ho6.mono (fun k hk=>.inl (by simp at hk⊢;omega));have Hfin:Hid (zca B rb fb xb s letters cls ref ms a vh R w (.returned (.tuple #[])) (((w4.setCell ⟨xb,2,none⟩ (.int .i64 n)).setCell ⟨xb,11,none⟩ (.bool true)).setCell ⟨xb,3,none⟩ (.int .u8 c.toNat))):=qh (by
     rw[HR2.out];exact⟨ho5,rfl,Hrd3.out.off hos2 (by simp;exact hne),vh,Hx.out.let_ ho6 (fun k hk=>by have:=hsp k hk;simp;exact this) (by decide) Hbd.out hx6,.inl rfl⟩)
    clear hn hx5 hx6 hit hos2 ho6 ho5;go_wp2_with fail;refine bodyPost_end (results_none rfl _ _ _) rfl ?_;exact Hfin.out
end Go.Proofs.YtgklikkddckgbaaGreatDoor.Mo
namespace Go.Proofs.YtgklikkddckgbaaGreatDoor
open Go.RowKit
def nilV:Value:=.slice none 0 0
def zaD:List Ft→List Value→List Value
 |f::fs,v::vs=>.string f.own::v::zaD fs vs
 |_,_=>[]
def zaL (l:List (Int×Int)):List Value:=l.flatMap fun v=>[.int .i64 v.1,.int .i64 v.2]
theorem zcr:∀(fs:List Ft) (vs:List Value) (k:Nat),vs.length=fs.length→k<fs.length→
  (zaD fs vs)[k*2]?=some (.string (fs.getD k default).own)∧(zaD fs vs)[k*2+1]?=some (vs.getD k nilV)
 |[],_,k,_,h=>by simp at h
 |f::fs,[],k,h,_=>by simp at h
 |f::fs,v::vs,0,_,_=>by simp[zaD]
 |f::fs,v::vs,k+1,h,hk=>by
  have ih:=zcr fs vs k (by simpa using h) (by simpa using hk);have e1:(k+1)*2=k*2+1+1:=by omega
  rw[e1];simpa [zaD] using ih
theorem zc9:∀(fs:List Ft) (vs:List Value) (k:Nat) (v:Value) (g:Ft),vs.length=fs.length→k<fs.length→g.own=(fs.getD k default).own→
  zaD (fs.set k g) (vs.set k v)=(zaD fs vs).set (k*2+1) v
 |[],_,k,_,_,_,h,_=>by simp at h
 |f::fs,[],k,_,_,h,_,_=>by simp at h
 |f::fs,u::vs,0,v,g,_,_,hg=>by simp at hg;simp[zaD,hg]
 |f::fs,u::vs,k+1,v,g,h,hk,hg=>by
  have ih:=zc9 fs vs k v g (by simpa using h) (by simpa using hk) (by simpa using hg);have e1:(k+1)*2+1=k*2+1+1+1:=by omega
  rw[e1];simp[zaD,ih]
theorem zcJ:∀(fs:List Ft) (vs:List Value) (f:Ft) (v:Value),vs.length=fs.length→zaD (fs++[f]) (vs++[v])=zaD fs vs++[.string f.own,v]
 |[],[],f,v,_=>rfl
 |g::fs,u::vs,f,v,h=>by simp[zaD,zcJ fs vs f v (by simpa using h)]
 |[],u::vs,f,v,h=>by simp at h
 |g::fs,[],f,v,h=>by simp at h
theorem zd2:∀(l:List Way) (k:Nat),k<l.length→(zaf l)[k*2]?=some (.string (l.getD k default).1)∧(zaf l)[k*2+1]?=some (.int .i64 (l.getD k default).2)
 |[],k,h=>by simp at h
 |x::l,0,_=>by simp[zaf]
 |x::l,k+1,hk=>by
  have ih:=zd2 l k (by simpa using hk);have e1:(k+1)*2=k*2+1+1:=by omega
  rw[e1];simpa [zaf] using ih
theorem zbH (l:List Way) (x:Way):zaf (l++[x])=zaf l++[.string x.1,.int .i64 x.2]:=by simp[zaf]
theorem zdr (l:List (Int×Int)) (x:Int×Int):zaL (l++[x])=zaL l++[.int .i64 x.1,.int .i64 x.2]:=by simp[zaL]
theorem zd3:∀(l:List (Int×Int)) (k:Nat),k<l.length→(zaL l)[k*2]?=some (.int .i64 (l.getD k default).1)∧(zaL l)[k*2+1]?=some (.int .i64 (l.getD k default).2)
 |[],k,h=>by simp at h
 |x::l,0,_=>by simp[zaL]
 |x::l,k+1,hk=>by
  have ih:=zd3 l k (by simpa using hk);have e1:(k+1)*2=k*2+1+1:=by omega
  rw[e1];simpa [zaL] using ih
theorem zds {w:World} {base:Nat} {v:Value} {l:List Way} (h:w.ownsRow base 83 2 v l.length (zaf l)):∃A c,v=.slice A l.length c∧l.length≤c∧IsWays w w.heap.size A l:=by
 rcases h.2 with⟨rfl,h0⟩|⟨g,cap,cur,rfl,_,hg,hcap,_⟩
 ·rw[h0];exact⟨none,0,rfl,ql _,fun hl=>by omega⟩
 ·refine⟨_,cap,rfl,hcap,fun hl=>⟨g,0,rfl,(qg hg).1,fun k hk=>?_⟩⟩;rw[Nat.zero_add,h.cellAt (k*2) (by omega),h.cellAt (k*2+1) (by omega)];exact zd2 l k hk
def Apart (vs:List Value):Prop:=∀i j k,i<vs.length→j<vs.length→i≠j→(vs.getD i nilV).ownBlock=some k→(vs.getD j nilV).ownBlock≠some k
structure RS (w:World) (base b:Nat) (s:ByteArray) (a:Nat) (t:ByteArray) (m:Met) (ah:Int) (vf ve vb:Value) (vs:List Value):Prop where
 rb:RB w b s a t vf ve vb ah
 hb:base≤b
 vl:vs.length=m.feet.length
 feet:w.ownsRow base 81 2 vf m.feet.length (zaD m.feet vs)
 ways:∀k,k<m.feet.length→w.ownsRow base 83 2 (vs.getD k nilV) (m.feet.getD k default).ways.length (zaf (m.feet.getD k default).ways)
 ends:w.ownsRow base 83 2 ve m.ends.length (zaf m.ends)
 brks:w.ownsRow base 85 2 vb m.brks.length (zaL m.brks)
 apart:Apart (ve::vs)
theorem zaP {w:World} {B B' e e' z z' n n':Nat} {v v':Value} {x x':List Value} (h:w.ownsRow B e z v n x) (h':w.ownsRow B' e' z' v' n' x') (hne:e≠e'):v.ownBlock=none∨v.ownBlock≠v'.ownBlock:=by
 cases hv:v.ownBlock with
 |none=>exact .inl rfl
 |some k=>
  right;intro hk;obtain⟨c,fz,h1⟩:=Lib.ownsRow_kind h k hv;obtain⟨c',fz',h2⟩:=Lib.ownsRow_kind h' k hk.symm;rw[h1] at h2;simp at h2;exact hne h2.2.1
theorem zac {w:World} {B e z n b:Nat} {v:Value} {x:List Value} {cs:Array Value} {e':Nat} {fz:Nat×Nat} (h:w.ownsRow B e z v n x) (hb:w.heap[b]?=some (.cells cs e' fz)) (hne:e≠e'):v.ownBlock=none∨v.ownBlock≠some b:=by
 cases hv:v.ownBlock with
 |none=>exact .inl rfl
 |some k=>
  right;intro hk;cases hk;obtain⟨c,fz',h1⟩:=Lib.ownsRow_kind h b hv;rw[hb] at h1;simp at h1;exact hne h1.2.1.symm
variable {w w':World} {base b a ah':Nat} {s t:ByteArray} {m:Met} {ah:Int} {vf ve vb:Value} {vs:List Value}
theorem RS.bl (h:RS w base b s a t m ah vf ve vb vs):b<w.heap.size:=(qg h.rb).1
theorem RS.only (h:RS w base b s a t m ah vf ve vb vs) {row:Option Nat} (hg:w.grownBy w' row) (h0:row≠some b) (h1:vf.ownBlock=none∨vf.ownBlock≠row) (h2:ve.ownBlock=none∨ve.ownBlock≠row) (h3:vb.ownBlock=none∨vb.ownBlock≠row)
  (h4:∀k,k<m.feet.length→(vs.getD k nilV).ownBlock=none∨(vs.getD k nilV).ownBlock≠row):RS w' base b s a t m ah vf ve vb vs:=
 ⟨(hg.block b h.bl (fun e=>h0 e.symm)).trans h.rb,h.hb,h.vl,h.feet.kept hg h1,fun k hk=>(h.ways k hk).kept hg (h4 k hk),h.ends.kept hg h2,h.brks.kept hg h3,h.apart⟩
theorem zbj {o:Option Nat}:o=none∨o≠none:=by cases o<;>simp
theorem RS.below (h:RS w base b s a t m ah vf ve vb vs) (hb:Below w.heap.size w w'):RS w' base b s a t m ah vf ve vb vs:=
 h.only (zaq hb none) (by simp) zbj zbj zbj (fun _ _=>zbj)
theorem RS.move (h:RS w base b s a t m ah vf ve vb vs) (hg:w.grownBy w' (some b)) {a2:Nat} {t2:ByteArray} {ah2:Int} (hr:RB w' b s a2 t2 vf ve vb ah2):RS w' base b s a2 t2 m ah2 vf ve vb vs:=
 ⟨hr,h.hb,h.vl,h.feet.kept hg (zac h.feet h.rb (by decide)),fun k hk=>(h.ways k hk).kept hg (zac (h.ways k hk) h.rb (by decide)),h.ends.kept hg (zac h.ends h.rb (by decide)),h.brks.kept hg (zac h.brks h.rb (by decide)),h.apart⟩
theorem Apart.set {v:Value} {vs:List Value} (h:Apart vs) {j:Nat} (hj:j<vs.length) {N:Nat} (hN:∀k b,k<vs.length→(vs.getD k nilV).ownBlock=some b→b<N)
  (hv:v.ownBlock=(vs.getD j nilV).ownBlock∨v.ownBlock=some N):Apart (vs.set j v):=by
 have hget:∀i,i<vs.length→(vs.set j v).getD i nilV=if j=i then v else vs.getD i nilV:=fun i hi=>by
  simp only[List.getD_eq_getElem?_getD,List.getElem?_set,hi];split<;>simp[*]
 intro i k b hi hk hne h1 h2;simp only[List.length_set] at hi hk;rw[hget i hi] at h1;rw[hget k hk] at h2;by_cases e1:j=i
 ·subst e1;rw[if_pos rfl] at h1;rw[if_neg hne] at h2;rcases hv with hv|hv
  ·exact h j k b hi hk hne (hv▸h1) h2
  ·have:=hN k b hk h2;rw[hv] at h1;cases h1;omega
 ·rw[if_neg e1] at h1;by_cases e2:j=k
  ·subst e2;rw[if_pos rfl] at h2;rcases hv with hv|hv
   ·exact h i j b hi hk hne h1 (hv▸h2)
   ·have:=hN i b hi h1;rw[hv] at h2;cases h2;omega
  ·rw[if_neg e2] at h2;exact h i k b hi hk hne h1 h2
theorem Apart.snoc {v:Value} {vs:List Value} (h:Apart vs) (hv:v.ownBlock=none):Apart (vs++[v]):=by
 intro i k b hi hk hne h1 h2;simp only[List.length_append,List.length_cons,List.length_nil] at hi hk;have hget:∀i,i<vs.length→(vs++[v]).getD i nilV=vs.getD i nilV:=fun i hi=>by simp[List.getD_eq_getElem?_getD,List.getElem?_append_left hi]
 have hlast:(vs++[v]).getD vs.length nilV=v:=by simp[List.getD_eq_getElem?_getD]
 by_cases e1:i<vs.length
 ·by_cases e2:k<vs.length
  ·rw[hget i e1] at h1;rw[hget k e2] at h2;exact h i k b e1 e2 hne h1 h2
  ·obtain rfl:k=vs.length:=by omega
   rw[hlast,hv] at h2;cases h2
 ·obtain rfl:i=vs.length:=by omega
  rw[hlast,hv] at h1;cases h1
theorem za7 (v:Value) (vs:List Value) (k:Nat):(v::vs).getD (k+1) nilV=vs.getD k nilV:=by simp[List.getD_eq_getElem?_getD]
theorem RS.blocks (h:RS w base b s a t m ah vf ve vb vs):∀k b,k<(ve::vs).length→((ve::vs).getD k nilV).ownBlock=some b→b<w.heap.size:=by
 intro k b hk hb;match k,hk,hb with
 |0,_,hb=>exact(h.ends.lt b (by simpa using hb)).2
 |k+1,hk,hb=>
  rw[za7] at hb;exact((h.ways k (by have:=h.vl;simp at hk;omega)).lt b hb).2
theorem zbX {α:Type} (l:List α) (j k:Nat) (x d:α) (hk:k<l.length):(l.set j x).getD k d=if j=k then x else l.getD k d:=by
 simp only[List.getD_eq_getElem?_getD,List.getElem?_set,hk];split<;>simp[*]
variable {w w1:World} {base b a:Nat} {s t:ByteArray} {m:Met} {ah:Int} {vf ve vb:Value} {vs:List Value}
def Met.setFt (m:Met) (j:Nat) (f:Ft):Met:={m with feet:=m.feet.set j f}
theorem RS.way (h:RS w base b s a t m ah vf ve vb vs) {j g cap:Nat} (hj:j<m.feet.length) (hvf:vf=.slice (some ⟨g,0,none⟩) m.feet.length cap) (x:Way) {v':Value}
  (ho:w1.ownsRow base 83 2 v' ((m.feet.getD j default).ways.length+1) (zaf (m.feet.getD j default).ways++[.string x.1,.int .i64 x.2])) (hg:w.grownBy w1 (vs.getD j nilV).ownBlock)
  (hat:v'.ownBlock=(vs.getD j nilV).ownBlock∨∃N,v'.ownBlock=some N∧w.heap.size≤N):
  RS (w1.setCell ⟨g,j*2+1,none⟩ v') base b s a t (m.setFt j ⟨(m.feet.getD j default).own,(m.feet.getD j default).ways++[x]⟩) ah vf ve vb (vs.set j v'):=by
 have hvl:=h.vl;have hjs:j+1<(ve::vs).length:=by simp;omega
 have ne_oth:∀k,k<(ve::vs).length→k≠j+1→((ve::vs).getD k nilV).ownBlock=none∨((ve::vs).getD k nilV).ownBlock≠(vs.getD j nilV).ownBlock:=fun k hk hne=>by
  cases hv:((ve::vs).getD k nilV).ownBlock with
  |none=>exact .inl rfl
  |some q=>
   right;intro e;exact h.apart k (j+1) q hk hjs hne hv (by rw[za7];exact e.symm)
 have ne_b:(vs.getD j nilV).ownBlock≠some b:=by
  rcases zac (h.ways j hj) h.rb (by decide) with e|e
  ·rw[e];simp
  ·exact e
 have f1:=h.feet.kept hg (zaP h.feet (h.ways j hj) (by decide));have e1:w1.ownsRow base 83 2 ve m.ends.length (zaf m.ends):=h.ends.kept hg (by simpa using ne_oth 0 (by simp) (by omega));have k1:=h.brks.kept hg (zaP h.brks (h.ways j hj) (by decide));have r1:RB w1 b s a t vf ve vb ah:=(hg.block b h.bl (fun e=>ne_b e.symm)).trans h.rb;have o1:∀k,k<m.feet.length→k≠j→w1.ownsRow base 83 2 (vs.getD k nilV) (m.feet.getD k default).ways.length (zaf (m.feet.getD k default).ways):=fun k hk hne=>
  (h.ways k hk).kept hg (by have:=ne_oth (k+1) (by simp;omega) (by omega);rwa [za7] at this)
 obtain⟨f2,g2⟩:=(hvf▸f1).stored (j*2+1) v';have hgf:vf.ownBlock=some g:=by rw[hvf];rfl
 have gne:∀{B e z n:Nat} {v:Value} {x:List Value},w1.ownsRow B e z v n x→e≠81→v.ownBlock=none∨v.ownBlock≠some g:=fun hh hne=>by
  have:=zaP hh f1 hne;rwa [hgf] at this
 have hbg:b≠g:=by
  rintro rfl;rcases zac f1 r1 (by decide) with e|e
  ·rw[hgf] at e;cases e
  ·exact e hgf
 refine⟨?_,h.hb,by simp[Met.setFt,hvl],?_,?_,e1.kept g2 (gne e1 (by decide)),k1.kept g2 (gne k1 (by decide)),?_⟩
 ·exact(g2.block b (qg r1).1 (by simpa using hbg)).trans r1
 ·have:(m.setFt j ⟨(m.feet.getD j default).own,(m.feet.getD j default).ways++[x]⟩).feet.length=m.feet.length:=by simp[Met.setFt]
  rw[this,hvf];have hfs:=zc9 m.feet vs j v' ⟨(m.feet.getD j default).own,(m.feet.getD j default).ways++[x]⟩ hvl hj rfl;show World.ownsRow _ base 81 2 _ _ (zaD (m.feet.set j ⟨(m.feet.getD j default).own,(m.feet.getD j default).ways++[x]⟩) (vs.set j v'));rw[hfs];exact f2
 ·intro k hk;have hk':k<m.feet.length:=by simpa [Met.setFt] using hk
  unfold Met.setFt;simp only[];rw[zbX vs j k v' nilV (by omega),zbX m.feet j k _ default hk'];by_cases e:j=k
  ·subst e;rw[if_pos rfl,if_pos rfl];simp only[List.length_append,List.length_cons,List.length_nil,zbH];exact ho.kept g2 (gne ho (by decide))
  ·rw[if_neg e,if_neg e];exact(o1 k hk' (fun e'=>e e'.symm)).kept g2 (gne (o1 k hk' (fun e'=>e e'.symm)) (by decide))
 ·have hA:Apart ((ve::vs).set (j+1) v'):=by
   rcases hat with hat|⟨N,hN,hle⟩
   ·exact h.apart.set hjs (N:=w.heap.size) h.blocks (.inl (by rw[za7];exact hat))
   ·exact h.apart.set hjs (N:=N) (fun k q hk hq=>Nat.lt_of_lt_of_le (h.blocks k q hk hq) hle) (.inr hN)
  simpa using hA
theorem zgt (fs:List Ft) (i:Nat) (sg:ByteArray) (c:Int) (all:Bool):layR fs i 0 sg c all=fs:=by simp[layR]
theorem za5 (fs:List Ft) (i n:Nat) (sg:ByteArray) (c:Int) (all:Bool) (h:i+n≤fs.length):(layR fs i n sg c all).length=fs.length:=by
 simp[layR];omega
theorem zei (fs:List Ft) (i n k:Nat) (sg:ByteArray) (c:Int) (all:Bool) (h:i+n≤fs.length) (hk:k<fs.length):
  (layR fs i n sg c all).getD k default=if i≤k∧k<i+n then layF sg c all (fs.getD k default) else fs.getD k default:=by
 have e1:(fs.take i).length=i:=by simp;omega
 have e2:(((fs.drop i).take n).map (layF sg c all)).length=n:=by simp;omega
 unfold layR;simp only[List.getD_eq_getElem?_getD];by_cases h1:k<i
 ·rw[List.append_assoc,List.getElem?_append_left (by omega),if_neg (by omega),List.getElem?_take,if_pos h1]
 ·by_cases h2:k<i+n
  ·rw[List.getElem?_append_left (by simp;omega),List.getElem?_append_right (by omega),e1,if_pos ⟨by omega,h2⟩,List.getElem?_map,List.getElem?_take,if_pos (by omega),List.getElem?_drop,show i+(k-i)=k by omega,List.getElem?_eq_getElem hk];rfl
  ·rw[List.getElem?_append_right (by simp;omega),if_neg (by omega),List.getElem?_drop];congr 2
   simp;omega
theorem zfO {α:Type} (d:α) {l l':List α} (hl:l.length=l'.length) (h:∀k,k<l.length→l.getD k d=l'.getD k d):l=l':=by
 apply List.ext_getElem hl;intro k h1 h2;have:=h k h1;simpa [List.getD_eq_getElem?_getD,List.getElem?_eq_getElem,h1,h2] using this
theorem zdt (fs:List Ft) (i n:Nat) (sg:ByteArray) (c:Int) (all:Bool) (h:i+n<fs.length):
  layR fs i (n+1) sg c all=(layR fs i n sg c all).set (i+n) (layF sg c all (fs.getD (i+n) default)):=by
 refine zfO default (by rw[List.length_set,za5 _ _ _ _ _ _ (by omega),za5 _ _ _ _ _ _ (by omega)]) fun k hk=>?_;rw[za5 _ _ _ _ _ _ (by omega)] at hk;rw[zei _ _ _ _ _ _ _ (by omega) hk,zbX _ _ _ _ _ (by rw[za5 _ _ _ _ _ _ (by omega)];exact hk),zei _ _ _ _ _ _ _ (by omega) hk];by_cases e:i+n=k
 ·subst e;rw[if_pos (by omega),if_pos rfl]
 ·rw[if_neg e];by_cases h1:i≤k∧k<i+n
  ·rw[if_pos h1,if_pos (by omega)]
  ·rw[if_neg h1,if_neg (by omega)]
theorem zcb (fs:List Ft) (i n:Nat) (sg:ByteArray) (c:Int) (all:Bool) (h:i+n<fs.length):(layR fs i n sg c all).getD (i+n) default=fs.getD (i+n) default:=by
 rw[zei _ _ _ _ _ _ _ (by omega) h,if_neg (by omega)]
theorem zc4 {w0 w':World} {o:Obj} {row:Option Nat} (h:(w0.alloc o).grownBy w' row):w0.grownBy w' row:=
 ⟨h.os,h.tape,h.output,qm (by simp) h.size,fun k hk hne=>(h.block k (by simp;omega) hne).trans (qa w0 o k hk)⟩
theorem zae {P:Program} {ops:Array Oper} {rest:List Oper} {o:Oper} {a:Act} {Q:Exit→Act→World→Prop} (w0:World) (hgd:o.guard=none) (s x:Operand) (t:TypeId)
  (ho:o.op=.call {callee:=.builtin .append,args:=#[s,x],argTypes:=#[t,t]})
  (base:Nat) (e:TypeId) (i:TypeInfo) (z:Value) (size bytes:Nat) (ht:P.underlying t=some (.slice e)) (hi:P.info? e=some i) (hz:i.zero=some z)
  (hsize:i.size=size) (hby:i.bytes=bytes) (hzs:z.cells.size=size) (hsz:0<size)
  (v:Value) (n:Nat) (xs:List Value) (nw:Array Value) (g:Nat) (hs:a.eval s=v) (hx:a.eval x=.slice (some ⟨g,0,none⟩) 1 1) (hg:g=w0.heap.size) (hown:w0.ownsRow base e size v n xs)
  (hl:nw.size=size) (h1:∀u∈nw.toList,u.oneCell'=true)
  (h63:n+1≤maxLen) (hbytes:(n+1)*bytes≤140737488355328) (hbase:base≤w0.heap.size)
  (h:∀v' w',w'.ownsRow base e size v' (n+1) (xs++nw.toList)→w0.grownBy w' v.ownBlock→(v'.ownBlock=v.ownBlock∨∃b,v'.ownBlock=some b∧w0.heap.size≤b)→wpList P ops Q rest (a.put o.dst v') w'):wpList P ops Q (o::rest) a (w0.alloc (.cells nw e)):=by
 subst hg;refine wpList_append_own_at (w0.alloc (.cells nw e)) hgd s x t ho base e i z size bytes ht hi hz hsize hby hzs hsz v n xs hs (hown.alloc _) ⟨w0.heap.size,0,none⟩ 1 1 nw.toList hx (by simp[hl]) ?_ h1 h63 hbytes (by simp;omega) ?_
 ·intro j u hu;have e1:(⟨w0.heap.size,0,none⟩:Addr).add j=⟨w0.heap.size,j,none⟩:=by
   unfold Addr.add;by_cases hj:j=0
   ·simp[hj]
   ·simp[hj]
  rw[e1,cell_of_row (w0.alloc (.cells nw e)) w0.heap.size j nw e (0,0) (heap_alloc_new w0 _)];simpa using hu
 ·intro v' w' h2 h3 _ h5;refine h v' w' h2 (zc4 h3) ?_;rcases h5 with h5|h5
  ·exact .inl h5
  ·exact .inr ⟨_,h5,by simp⟩
theorem zeA:Tryz.prog.info? 83=some Tryz.t83:=by kernel_rfl
theorem zeB:Tryz.t83.zero=some (.agg #[.string ⟨#[]⟩,.int .i64 0]):=by kernel_rfl
theorem zeC:Tryz.t83.size=2:=by kernel_rfl
theorem zdu:Tryz.t83.bytes=24:=by kernel_rfl
theorem zh2:Tryz.prog.info? 81=some Tryz.t81:=by kernel_rfl
theorem zh3:Tryz.t81.zero=some (.agg #[.string ⟨#[]⟩,.slice none 0 0]):=by kernel_rfl
theorem zh4:Tryz.t81.size=2:=by kernel_rfl
theorem zfP:Tryz.t81.bytes=40:=by kernel_rfl
theorem zju:Tryz.prog.info? 85=some Tryz.t85:=by kernel_rfl
theorem zjv:Tryz.t85.zero=some (.agg #[.int .i64 0,.int .i64 0]):=by kernel_rfl
theorem zjw:Tryz.t85.size=2:=by kernel_rfl
theorem zhl:Tryz.t85.bytes=16:=by kernel_rfl
structure LayRel (w:World) (base b:Nat) (s:ByteArray) (a:Nat) (t:ByteArray) (m:Met) (ah:Int) (vf ve vb:Value) (i:Nat) (sg:ByteArray) (cost:Int) (all:Bool) (k:Nat) (vs:List Value) (wr:World):Prop where
 rs:RS wr base b s a t {m with feet:=layR m.feet i k sg cost all} ah vf ve vb vs
 box:wr.heap[w.heap.size]?=some (.cells #[.string sg,.int .i64 cost] 83 (0,0))
 off:∀j,j<vs.length→(vs.getD j nilV).ownBlock≠some w.heap.size
 below:Below base w wr
theorem LayRel.start {w:World} {base b a:Nat} {s t:ByteArray} {m:Met} {ah:Int} {vf ve vb:Value} {vs:List Value} (h:RS w base b s a t m ah vf ve vb vs) (i:Nat) (sg:ByteArray) (cost:Int) (all:Bool):
  LayRel w base b s a t m ah vf ve vb i sg cost all 0 vs (w.alloc (.cells #[.string sg,.int .i64 cost] 83)):=by
 have hb:Below w.heap.size w (w.alloc (.cells #[.string sg,.int .i64 cost] 83)):=(qb _ w).alloc (ql _) _;refine⟨?_,qn w _,fun j hj e=>?_,hb.mono (by have:=h.bl;have:=h.hb;omega)⟩
 ·rw[zgt];exact h.below hb
 ·have:=h.blocks (j+1) _ (by simp;omega) (by rw[za7];exact e);omega
theorem LayRel.skip {w wr wr':World} {base b a:Nat} {s t:ByteArray} {m:Met} {ah:Int} {vf ve vb:Value} {vs:List Value} {i k:Nat} {sg:ByteArray} {cost:Int} {all:Bool} (h:LayRel w base b s a t m ah vf ve vb i sg cost all k vs wr) (hik:i+k<m.feet.length)
  (hf:layF sg cost all (m.feet.getD (i+k) default)=m.feet.getD (i+k) default) (hb:Below wr.heap.size wr wr'):LayRel w base b s a t m ah vf ve vb i sg cost all (k+1) vs wr':=by
 have hbs:base≤wr.heap.size:=by have:=h.rs.bl;have:=h.rs.hb;omega
 have hlt:w.heap.size<wr.heap.size:=(qg h.box).1;refine⟨?_,(hb.block _ hlt).trans h.box,h.off,h.below.trans (hb.mono hbs)⟩;rw[zdt _ _ _ _ _ _ hik,hf];have e:(layR m.feet i k sg cost all).set (i+k) (m.feet.getD (i+k) default)=layR m.feet i k sg cost all:=by
  refine zfO default (by simp) fun q hq=>?_;rw[List.length_set] at hq;rw[zbX _ _ _ _ _ hq];by_cases e:i+k=q
  ·subst e;rw[if_pos rfl,zcb _ _ _ _ _ _ hik]
  ·rw[if_neg e]
 rw[e];exact h.rs.below hb
theorem LayRel.step {w wr w0 w1:World} {base b a:Nat} {s t:ByteArray} {m:Met} {ah:Int} {vf ve vb:Value} {vs:List Value} {i k g cap:Nat} {sg:ByteArray} {cost:Int} {all:Bool} (h:LayRel w base b s a t m ah vf ve vb i sg cost all k vs wr) (hik:i+k<m.feet.length)
  (hvf:vf=.slice (some ⟨g,0,none⟩) m.feet.length cap) (hf:layF sg cost all (m.feet.getD (i+k) default)=⟨(m.feet.getD (i+k) default).own,(m.feet.getD (i+k) default).ways++[(sg,cost)]⟩) (hb:Below wr.heap.size wr w0) {v':Value}
  (ho:w1.ownsRow base 83 2 v' ((m.feet.getD (i+k) default).ways.length+1) (zaf (m.feet.getD (i+k) default).ways++[.string sg,.int .i64 cost])) (hg:w0.grownBy w1 (vs.getD (i+k) nilV).ownBlock)
  (hat:v'.ownBlock=(vs.getD (i+k) nilV).ownBlock∨∃N,v'.ownBlock=some N∧w0.heap.size≤N) (hgw:g<w.heap.size):
  LayRel w base b s a t m ah vf ve vb i sg cost all (k+1) (vs.set (i+k) v') (w1.setCell ⟨g,(i+k)*2+1,none⟩ v'):=by
 have hbs:base≤wr.heap.size:=by have:=h.rs.bl;have:=h.rs.hb;omega
 have hlt:w.heap.size<wr.heap.size:=(qg h.box).1;have h0:=h.rs.below hb;have hlen:(layR m.feet i k sg cost all).length=m.feet.length:=za5 _ _ _ _ _ _ (by omega);have hvl:vs.length=m.feet.length:=by rw[h.rs.vl,hlen]
 have hh:=zcb m.feet i k sg cost all hik;have hr:=h0.way (j:=i+k) (by simpa [hlen] using hik) (by simpa [hlen] using hvf) (sg,cost) (by simp only[hh];exact ho) hg hat;simp only[hh] at hr;unfold Met.setFt at hr;simp only[] at hr;have hbase:∀q,(vs.getD (i+k) nilV).ownBlock=some q→base≤q:=fun q hq=>((h0.ways (i+k) (by simpa [hlen] using hik)).lt q hq).1;have hgb:base≤g:=(h0.feet.lt g (by rw[hvf];rfl)).1;have hbx0:w0.heap[w.heap.size]?=some (.cells #[.string sg,.int .i64 cost] 83 (0,0)):=(hb.block _ hlt).trans h.box;have hbx1:w1.heap[w.heap.size]?=some (.cells #[.string sg,.int .i64 cost] 83 (0,0)):=(hg.block _ (Nat.lt_of_lt_of_le hlt hb.size) (fun e=>h.off (i+k) (by omega) e.symm)).trans hbx0;refine⟨?_,(qT _ _ _ _ (by show w.heap.size≠g;omega)).trans hbx1,?_,?_⟩
 ·rw[zdt _ _ _ _ _ _ hik,hf];exact hr
 ·intro j hj e;rw[List.length_set] at hj;rw[zbX _ _ _ _ _ hj] at e;by_cases e2:i+k=j
  ·rw[if_pos e2] at e;rcases hat with hat|⟨N,hN,hle⟩
   ·exact h.off (i+k) (by omega) (hat▸e)
   ·rw[hN] at e;cases e;have:=hb.size;omega
  ·rw[if_neg e2] at e;exact h.off j hj e
 ·refine Below.setCell ?_ (by show base≤g;exact hgb) _;refine(h.below.trans (hb.mono hbs)).grown hg (by have:=hb.size;omega) ?_;intro q hq;exact hbase q hq
end Go.Proofs.YtgklikkddckgbaaGreatDoor

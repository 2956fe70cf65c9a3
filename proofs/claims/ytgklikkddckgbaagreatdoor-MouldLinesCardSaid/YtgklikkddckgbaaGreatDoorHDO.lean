import Derived.Test.YtgklikkddckgbaaGreatDoorHDN
/- Lemmas of the claim. -/
set_option linter.all false
namespace Go.Proofs.YtgklikkddckgbaaGreatDoor.Mo
open Go.RowKit
theorem zgU {s:ByteArray}:∀{t:List Int} {i j:Nat},zal s t i=.ok j→j=i+t.length
 |[],i,j,h=>by unfold zal at h;cases h;rfl
 |c::t,i,j,h=>by
  unfold zal at h;split at h
  ·have:=zgU h;simp only[List.length_cons];omega
  ·cases h
theorem zaw {s:ByteArray} {t:List Int} {i j:Nat} (h:zao (zal s t i)=.ok j):j=i+t.length:=by
 cases hm:zal s t i with
 |error e=>rw[hm] at h;cases h
 |ok k=>rw[hm] at h;cases h;exact zgU hm
theorem zf1 {s:ByteArray} {least v:Int} {i j:Nat} (hi:i≤s.size) (h:numP s least i=.ok (v,j)):least≤v∧v≤512∧i<j:=by
 unfold numP at h;split at h
 ·cases h
 ·rename_i h1;split at h
  ·cases h
  ·rename_i h2;cases h;have:=za2 (s:=s) i i hi;omega
theorem Off.keep {rb B:Nat} {w w':World} (h:Off [rb] w w') (hB:B≤w.heap.size) (hr:B≤rb):Below B w w':=h.below hB (fun k hk=>by simp at hk;omega)
theorem FmM.set5 {w:World} {B fb:Nat} {f:Fm} {vl vm vs:Value} (h:FmM w B fb f vl vm vs) (n:Int):FmM (w.setCell ⟨fb,5,none⟩ (.int .i64 n)) B fb {f with least:=n} vl vm vs:=by
 have hos:Off [fb] w (w.setCell ⟨fb,5,none⟩ (.int .i64 n)):=Off.setCell w fb 5 _;have hts:TyAt w [fb] [92]:=TyAt.one h.x;obtain⟨cs,hm⟩:=h.m;obtain⟨vis,hr,hi⟩:=h.r;exact⟨qs w fb 5 _ _ _ h.x,h.hB,hos.ownT h.l hts (by decide),⟨cs,hm.off hos hts (by decide) (by decide) (by decide) (by decide)⟩,⟨vis,hr.off hos hts (by decide),fun k hk=>by
  obtain⟨vhs,h2⟩:=hi k hk;exact⟨vhs,h2.off hos hts (by decide) (by decide)⟩⟩⟩
theorem FmM.set6 {w:World} {B fb:Nat} {f:Fm} {vl vm vs:Value} (h:FmM w B fb f vl vm vs) (n:Int):FmM (w.setCell ⟨fb,6,none⟩ (.int .i64 n)) B fb {f with most:=n} vl vm vs:=by
 have hos:Off [fb] w (w.setCell ⟨fb,6,none⟩ (.int .i64 n)):=Off.setCell w fb 6 _;have hts:TyAt w [fb] [92]:=TyAt.one h.x;obtain⟨cs,hm⟩:=h.m;obtain⟨vis,hr,hi⟩:=h.r;exact⟨qs w fb 6 _ _ _ h.x,h.hB,hos.ownT h.l hts (by decide),⟨cs,hm.off hos hts (by decide) (by decide) (by decide) (by decide)⟩,⟨vis,hr.off hos hts (by decide),fun k hk=>by
  obtain⟨vhs,h2⟩:=hi k hk;exact⟨vhs,h2.off hos hts (by decide) (by decide)⟩⟩⟩
theorem FmM.set7 {w:World} {B fb:Nat} {f:Fm} {vl vm vs:Value} (h:FmM w B fb f vl vm vs) (n:Int):FmM (w.setCell ⟨fb,7,none⟩ (.int .i64 n)) B fb {f with shift:=n} vl vm vs:=by
 have hos:Off [fb] w (w.setCell ⟨fb,7,none⟩ (.int .i64 n)):=Off.setCell w fb 7 _;have hts:TyAt w [fb] [92]:=TyAt.one h.x;obtain⟨cs,hm⟩:=h.m;obtain⟨vis,hr,hi⟩:=h.r;exact⟨qs w fb 7 _ _ _ h.x,h.hB,hos.ownT h.l hts (by decide),⟨cs,hm.off hos hts (by decide) (by decide) (by decide) (by decide)⟩,⟨vis,hr.off hos hts (by decide),fun k hk=>by
  obtain⟨vhs,h2⟩:=hi k hk;exact⟨vhs,h2.off hos hts (by decide) (by decide)⟩⟩⟩
theorem FmM.set4 {w:World} {B fb:Nat} {f:Fm} {vl vm vs:Value} (h:FmM w B fb f vl vm vs) (n:Bool):FmM (w.setCell ⟨fb,4,none⟩ (.bool n)) B fb {f with rounds:=n} vl vm vs:=by
 have hos:Off [fb] w (w.setCell ⟨fb,4,none⟩ (.bool n)):=Off.setCell w fb 4 _;have hts:TyAt w [fb] [92]:=TyAt.one h.x;obtain⟨cs,hm⟩:=h.m;obtain⟨vis,hr,hi⟩:=h.r;exact⟨qs w fb 4 _ _ _ h.x,h.hB,hos.ownT h.l hts (by decide),⟨cs,hm.off hos hts (by decide) (by decide) (by decide) (by decide)⟩,⟨vis,hr.off hos hts (by decide),fun k hk=>by
  obtain⟨vhs,h2⟩:=hi k hk;exact⟨vhs,h2.off hos hts (by decide) (by decide)⟩⟩⟩
theorem FmOk.set {f:Fm} {i j:Nat} {a b c:Int} (h:FmOk f i) (hij:i≤j) (ha:0≤a∧a≤512) (hb:0≤b∧b≤512) (hc:0≤c∧c≤512) (hab:a≤b):FmOk {f with least:=a,most:=b,shift:=c} j:=
 ⟨qm h.le hij,ha,hb,hc,hab,⟨h.ll.1,qm h.ll.2 hij⟩,h.it,h.nd,h.lt⟩
structure R3 (W W':World) (B rb fb j:Nat) (s:ByteArray) (f:Fm) (vl vm vs:Value):Prop where
 f:FmM W' B fb f vl vm vs
 r:Rd W' rb fb s j
 o:Off [fb] W W'
theorem R3.b0 {W:World} {B rb fb j:Nat} {s:ByteArray} {f:Fm} {vl vm vs:Value} (hf:FmM W B fb f vl vm vs) (hr:Rd W rb fb s j):R3 W W B rb fb j s f vl vm vs:=⟨hf,hr,Off.refl _ _⟩
theorem R3.s5 {W W':World} {B rb fb j:Nat} {s:ByteArray} {f:Fm} {vl vm vs:Value} (h:R3 W W' B rb fb j s f vl vm vs) (n:Int):R3 W (W'.setCell ⟨fb,5,none⟩ (.int .i64 n)) B rb fb j s {f with least:=n} vl vm vs:=
 ⟨h.f.set5 n,h.r.off (Off.setCell W' fb 5 _) (by have:=h.f.ne h.r;simp;omega),h.o.trans (Off.setCell W' fb 5 _)⟩
theorem R3.s6 {W W':World} {B rb fb j:Nat} {s:ByteArray} {f:Fm} {vl vm vs:Value} (h:R3 W W' B rb fb j s f vl vm vs) (n:Int):R3 W (W'.setCell ⟨fb,6,none⟩ (.int .i64 n)) B rb fb j s {f with most:=n} vl vm vs:=
 ⟨h.f.set6 n,h.r.off (Off.setCell W' fb 6 _) (by have:=h.f.ne h.r;simp;omega),h.o.trans (Off.setCell W' fb 6 _)⟩
theorem R3.s7 {W W':World} {B rb fb j:Nat} {s:ByteArray} {f:Fm} {vl vm vs:Value} (h:R3 W W' B rb fb j s f vl vm vs) (n:Int):R3 W (W'.setCell ⟨fb,7,none⟩ (.int .i64 n)) B rb fb j s {f with shift:=n} vl vm vs:=
 ⟨h.f.set7 n,h.r.off (Off.setCell W' fb 7 _) (by have:=h.f.ne h.r;simp;omega),h.o.trans (Off.setCell W' fb 7 _)⟩
theorem R3.dr {W W':World} {B rb fb j:Nat} {s:ByteArray} {f:Fm} {vl vm vs:Value} (h:R3 W W' B rb fb j s f vl vm vs):R3 W.drew W'.drew B rb fb j s f vl vm vs:=
 ⟨h.f.below (zad (qb _ _) 1),h.r.below (zad (qb _ _) 1),⟨h.o.os,h.o.tape,h.o.output,h.o.size,h.o.block⟩⟩
set_option maxRecDepth 100000 in
set_option maxHeartbeats 4000000 in
theorem zgV (B rb fb:Nat) (s:ByteArray) (f:Fm) (i i0:Nat) (vl vm vs:Value) (w:World) (h:Rd w rb fb s i) (hv:Vars w) (h9:9≤B) (hB:B≤rb) (hm:FmM w B fb f vl vm vs) (hk:FmOk f i0) (hi0:i0≤i):
  Calls Tryz.prog 94 #[.pointer (some ⟨rb,0,none⟩),.int .i64 i] w (zfY B rb fb s vl vm w (zbF s f i)):=by
 have hsz:=h.sz;have hle:=h.le;have hrb:=h.lt;have hfb:=hm.lt;have hBw:B≤w.heap.size:=by omega
 obtain⟨q0,q1,q2,q3⟩:=h.cells;have g4:=hm.cells.2.2.2.2.1;generalize hR:zbF s f i=R;have H:=qh h;have Hv:=qh hv;have Hm:=qh hm;have Hk:=qh hk;unfold zbF at hR;cases hrs:f.rounds with
 |true=>
  rw[hrs] at g4;rw[if_pos hrs] at hR;clear h hv hm hk;go_enter Tryz.func94,Tryz.ntmps94;go_wp2_with fail;refine(fail_any 180 i w).mono ?_;rintro e w1 ⟨rfl,hb1⟩;exact⟨rfl,(Off.of_below hb1 (ql _) [rb]).keep hBw hB,by rw[←hR];rfl⟩
 |false=>
  rw[hrs] at g4;rw[if_neg (by rw[hrs];simp)] at hR;have HR:=qh hR;clear hR;have Hr0:=qh h;have Ho0:Hid (Off [rb] w w):=qh (Off.refl _ _);have HU0:Hid (0≤i):=qh (by omega);have Hms:=qh (zbW rb fb s ⟨#[114,111,117,110,100,32]⟩ i w h (by decide));clear h hv hm hk;go_enter Tryz.func94,Tryz.ntmps94;go_wp2_with fail;refine Hms.out.mono ?_;rintro e w1 hst0;have hst:zbx rb fb s w (.tuple #[]) (zao (zal s ROUND i)) e w1:=hst0;clear hst0 Hms;cases hX:zao (zal s ROUND i) with
  |error ep=>
   obtain⟨c,p⟩:=ep;have hR2:=HR.out;rw[hX] at hst hR2;obtain⟨rfl,ho⟩:=hst;exact⟨rfl,(Ho0.out.trans ho).keep hBw hB,by rw[←hR2];rfl⟩
  |ok j1=>
   have hR2:=HR.out;rw[hX] at hst hR2;simp only[] at hR2;obtain⟨rfl,hrd,ho⟩:=hst;have hlen:=zaw hX;have Hj1:Hid (i≤j1):=qh (by omega);clear HR hlen hX;have HR:=qh hR2;have Hr1:=qh hrd;have Ho1:=qh (Ho0.out.trans ho);clear hR2 hrd ho;have Hnm:=qh (zcq rb fb s j1 0 w1 Hr1.out (Vars.off Hv.out Ho1.out (by simp;omega)) (by omega) (by omega) (by omega));go_wp2_with fail;refine Hnm.out.mono ?_;rintro e w2 ⟨ho,hst⟩;clear Hnm;cases hX:numP s 0 j1 with
   |error ep=>
    obtain⟨c,p⟩:=ep;have hR2:=HR.out;rw[hX] at hst hR2;subst hst;exact⟨rfl,(Ho1.out.trans ho).keep hBw hB,by rw[←hR2];rfl⟩
   |ok vj=>
    obtain⟨v2,j2⟩:=vj;have hR2:=HR.out;rw[hX] at hst hR2;simp only[] at hR2;obtain⟨rfl,hrd⟩:=hst;have Hb2:=qh (zf1 Hr1.out.le hX);clear HR hX;have HR:=qh hR2;have Hr2:=qh hrd;have Ho2:=qh (Ho1.out.trans ho);clear hR2 hrd ho;have Hms:=qh (zbW rb fb s ⟨#[32]⟩ j2 w2 Hr2.out (by decide));go_wp2_with fail;refine Hms.out.mono ?_;rintro e w3 hst0;have hst:zbx rb fb s w2 (.tuple #[]) (zao (zal s [32] j2)) e w3:=hst0;clear hst0 Hms;cases hX:zao (zal s [32] j2) with
    |error ep=>
     obtain⟨c,p⟩:=ep;have hR2:=HR.out;rw[hX] at hst hR2;obtain⟨rfl,ho⟩:=hst;exact⟨rfl,(Ho2.out.trans ho).keep hBw hB,by rw[←hR2];rfl⟩
    |ok j3=>
     have hR2:=HR.out;rw[hX] at hst hR2;simp only[] at hR2;obtain⟨rfl,hrd,ho⟩:=hst;have hlen:=zaw hX;have Hj3:Hid (j2≤j3):=qh (by omega);clear HR hlen hX;have HR:=qh hR2;have Hr3:=qh hrd;have Ho3:=qh (Ho2.out.trans ho);clear hR2 hrd ho;obtain⟨a0,a1,a2,a3⟩:=Hr3.out.cells;have Hnm:=qh (zcq rb fb s j3 0 w3 Hr3.out (Vars.off Hv.out Ho3.out (by simp;omega)) (by omega) (by omega) (by omega));go_wp2_with fail;refine Hnm.out.mono ?_;rintro e w4 ⟨ho,hst⟩;clear Hnm;cases hX:numP s 0 j3 with
     |error ep=>
      obtain⟨c,p⟩:=ep;have hR2:=HR.out;rw[hX] at hst hR2;subst hst;exact⟨rfl,(Ho3.out.trans ho).keep hBw hB,by rw[←hR2];rfl⟩
     |ok vj=>
      obtain⟨v4,j4⟩:=vj;have hR2:=HR.out;rw[hX] at hst hR2;simp only[] at hR2;obtain⟨rfl,hrd⟩:=hst;have Hb4:=qh (zf1 Hr3.out.le hX);clear HR hX;have HR:=qh hR2;have Hr4:=qh hrd;have Ho4:=qh (Ho3.out.trans ho);clear hR2 hrd ho;by_cases hlt:v4<v2
      ·have HR2:Hid (R=.error (2,j3)):=qh (by rw[←HR.out,if_pos hlt]);go_wp2_with fail;refine(fail_any 2 j3 w4).mono ?_;rintro e w5 ⟨rfl,hb5⟩;exact⟨rfl,(Ho4.out.trans (Off.of_below hb5 (ql _) [rb])).keep hBw hB,by rw[HR2.out];rfl⟩
      ·have hR3:=HR.out;rw[if_neg hlt] at hR3;clear HR;have HR:=qh hR3;clear hR3;have Hms:=qh (zbW rb fb s ⟨#[32]⟩ j4 w4 Hr4.out (by decide));go_wp2_with fail;refine Hms.out.mono ?_;rintro e w5 hst0;have hst:zbx rb fb s w4 (.tuple #[]) (zao (zal s [32] j4)) e w5:=hst0;clear hst0 Hms;cases hX:zao (zal s [32] j4) with
       |error ep=>
        obtain⟨c,p⟩:=ep;have hR2:=HR.out;rw[hX] at hst hR2;obtain⟨rfl,ho⟩:=hst;exact⟨rfl,(Ho4.out.trans ho).keep hBw hB,by rw[←hR2];rfl⟩
       |ok j5=>
        have hR2:=HR.out;rw[hX] at hst hR2;simp only[] at hR2;obtain⟨rfl,hrd,ho⟩:=hst;have hlen:=zaw hX;have Hj5:Hid (j4≤j5):=qh (by omega);clear HR hlen hX;have HR:=qh hR2;have Hr5:=qh hrd;have Ho5:=qh (Ho4.out.trans ho);clear hR2 hrd ho;have Hnm:=qh (zcq rb fb s j5 0 w5 Hr5.out (Vars.off Hv.out Ho5.out (by simp;omega)) (by omega) (by omega) (by omega));go_wp2_with fail;refine Hnm.out.mono ?_;rintro e w6 ⟨ho,hst⟩;clear Hnm;cases hX:numP s 0 j5 with
        |error ep=>
         obtain⟨c,p⟩:=ep;have hR2:=HR.out;rw[hX] at hst hR2;subst hst;exact⟨rfl,(Ho5.out.trans ho).keep hBw hB,by rw[←hR2];rfl⟩
        |ok vj=>
         obtain⟨v6,j6⟩:=vj;have hR2:=HR.out;rw[hX] at hst hR2;simp only[] at hR2;obtain⟨rfl,hrd⟩:=hst;have Hb6:=qh (zf1 Hr5.out.le hX);clear HR hX;have HR:=qh hR2;have Hr6:=qh hrd;have Ho6:=qh (Ho5.out.trans ho);clear hR2 hrd ho;have hm6:=Hm.out.offR H.out Ho6.out;obtain⟨b0,b1,b2,b3⟩:=Hr6.out.cells;obtain⟨f0,f1,f2,f3,f4,f5,f6,f7⟩:=hm6.cells;have z5:=hm6.z 5;have z6:=hm6.z 6;have z7:=hm6.z 7;have hnf:=hm6.ne Hr6.out;have hnf2:rb≠fb:=fun e=>hnf e.symm;have Hm6:=qh hm6;have HF:=qh (R3.b0 hm6 Hr6.out);have Hfl:=qh hm6.lt;clear a0 a1 a2 a3 q0 q1 q2 q3 g4 hm6 f0 f1 f2 f3 f4;go_upto_region 11 with fail
         go_cut [57] from 38 to 58 (fun v57 wx=>Hid (∃W7,R3 W7 wx B rb fb j6 s {f with least:=v2,most:=v4,shift:=v6} vl vm vs∧Below w6.heap.size w6 W7∧fb<w6.heap.size))
         case first=>
          go_region
          all_goals
           go_wp2_with fail;go_meet
           first
            |exact qh ⟨w6.drew,R3.s7 (R3.s6 (R3.s5 HF.out.dr v2) v4) v6,zad (qb _ _) 1,Hfl.out⟩
            |exact qh ⟨w6.drew,R3.s7 (R3.s5 (R3.s6 HF.out.dr v4) v2) v6,zad (qb _ _) 1,Hfl.out⟩
            |exact qh ⟨w6.drew,R3.s6 (R3.s7 (R3.s5 HF.out.dr v2) v6) v4,zad (qb _ _) 1,Hfl.out⟩
            |exact qh ⟨w6.drew,R3.s6 (R3.s5 (R3.s7 HF.out.dr v6) v2) v4,zad (qb _ _) 1,Hfl.out⟩
            |exact qh ⟨w6.drew,R3.s5 (R3.s7 (R3.s6 HF.out.dr v4) v6) v2,zad (qb _ _) 1,Hfl.out⟩
            |exact qh ⟨w6.drew,R3.s5 (R3.s6 (R3.s7 HF.out.dr v6) v4) v2,zad (qb _ _) 1,Hfl.out⟩
         case rest=>
          obtain⟨W8,hW8⟩:∃W8:World,W8=wc:=⟨_,rfl⟩;subst hW8;obtain⟨W7,h3,hb7,hf7⟩:=hcut.out;have hbB6:=Ho6.out.keep hBw hB;have hbB7:=hbB6.trans ((Off.of_below hb7 (ql _) []).below (qm hBw hbB6.size) (fun _ h=>by cases h));have hbB8:=hbB7.trans (h3.o.below (qm hBw hbB7.size) (fun k hk=>by have:=Hm.out.hB;simp at hk;omega));have Hb8:=qh hbB8;have b2:=Hb2.out;have b4:=Hb4.out;have b6:=Hb6.out;have hj1:=Hj1.out;have hj3:=Hj3.out;have hj5:=Hj5.out;have Hst:=qh (zdR B rb fb s {f with least:=v2,most:=v4,shift:=v6} true i j6 i0 vl vm vs W8 h3.r (Vars.below Hv.out hbB8 h9) h9 hB h3.f (Hk.out.set (ql _) ⟨by omega,by omega⟩ ⟨by omega,by omega⟩ ⟨by omega,by omega⟩ (by omega)) (by omega));clear hcut h3 hb7 hf7 hbB6 hbB7 hbB8 b0 b1 b2 b3 f5 f6 f7 z5 z6 z7;go_wp2_with fail;refine Hst.out.mono ?_;rintro e w9 ⟨hb9,hst⟩;cases hX:zaF s {f with least:=v2,most:=v4,shift:=v6} true i j6 with
          |error ep=>
           obtain⟨c,p⟩:=ep;have hR2:=HR.out;rw[hX] at hst hR2;subst hst;exact⟨rfl,Hb8.out.trans hb9,by rw[←hR2];rfl⟩
          |ok fj=>
           obtain⟨f',j⟩:=fj;have hR2:=HR.out;rw[hX] at hst hR2;simp only[] at hR2;obtain⟨rfl,hrd,hk9,vs',hm9⟩:=hst;obtain⟨c0,c1,c2,c3⟩:=hrd.cells;have g4:=hm9.cells.2.2.2.2.1;have z4:=hm9.z 4;have hos:=Off.setCell w9 fb 4 (.bool true);have hne:=hm9.ne hrd;have hfb9:=hm9.hB;have Hfin:Hid (zfY B rb fb s vl vm w R (.returned (.tuple #[])) (w9.setCell ⟨fb,4,none⟩ (.bool true))):=qh (by
            rw[←hR2];exact⟨(Hb8.out.trans hb9).trans (hos.below (by have:=hm9.lt;omega) (fun k hk=>by simp at hk;omega)),rfl,hrd.off hos (by simp;omega),⟨hk9.le,hk9.l0,hk9.m0,hk9.s0,hk9.lm,hk9.ll,hk9.it,hk9.nd,hk9.lt⟩,vs',hm9.set4 true⟩)
           clear HR hR2 hX hrd hk9 hm9 hos hb9 Hst;go_wp2_with fail;refine bodyPost_end (results_none rfl _ _ _) rfl ?_;exact Hfin.out
end Go.Proofs.YtgklikkddckgbaaGreatDoor.Mo
namespace Go.Proofs.YtgklikkddckgbaaGreatDoor
open Go
def zeb:List Bool→Nat
 |[]=>0
 |b::l=>(if b then 0 else 1)+zeb l
theorem zeN:∀(l:List Bool) (i:Nat),l[i]?=some false→zeb (l.set i true)+1=zeb l
 |[],i,h=>by simp at h
 |b::l,0,h=>by
  simp at h;subst h;simp[zeb];omega
 |b::l,i+1,h=>by
  simp at h;have:=zeN l i h;simp[zeb];omega
theorem zdS:∀(l:List Bool),zeb l=0→∀i:Nat,l[i]?≠some false
 |[],_,i=>by simp
 |b::l,h,0=>by
  simp[zeb] at h;intro e;simp at e;rw[e] at h;simp at h
 |b::l,h,i+1=>by
  simp only[zeb] at h;simpa using zdS l (by omega) i
section
variable {P:Program} {ops:Array Oper} {Q:Exit→Act→World→Prop} {md:Region.Mode} {S:World→Prop} {X:Nat→Bool}
theorem zcg {listed:Array Bool} {i:Nat} (h:i∈Region.ready md ops listed):listed.toList[i]?=some false:=by
 have h1:=(mem_ready.1 h).1;rw[Array.getElem?_toList];cases hq:listed[i]? with
 |none=>simp[Array.getD_eq_getD_getElem?,hq] at h1
 |some b=>simp[Array.getD_eq_getD_getElem?,hq] at h1;rw[h1]
def zbS (P:Program) (md:Region.Mode) (ops:Array Oper) (Q:Exit→Act→World→Prop) (S:World→Prop) (X:Nat→Bool):Nat→Array Bool→Act→World→Prop
 |0,listed,a,w=>Region.ready md ops listed=[]∧Q .normal a w
 |fuel+1,listed,a,w=>
  (Region.ready md ops listed=[]→Q .normal a w)∧
  ∀i∈Region.ready md ops listed,wpOp P ops Q i (fun a' w'=>(X i=true∨S w')∧zbS P md ops Q S X fuel (listed.setIfInBounds i true) a' w') a w
theorem zfq:∀(fuel:Nat) (listed:Array Bool) (a:Act) (w:World),zbS P md ops Q S X fuel listed a w→wpAny P md ops Q fuel listed a w
 |0,_,_,_,h=>h
 |fuel+1,_,_,_,h=>⟨h.1,fun i hi=>wpOp_mono (fun a' w' h'=>zfq fuel _ a' w' h'.2) (h.2 i hi)⟩
def zj8 (md:Region.Mode) (ops:Array Oper) (X:Nat→Bool) (i:Nat):Prop:=∀x o,X x=true→ops[x]?=some o→∃e∈o.after,Region.binds md e=true∧e.on=i
theorem zgW {i:Nat} {oi:Oper} {v:Value} (hi:ops[i]?=some oi) (hsel:∀(j:Nat) (o:Oper) cs b,ops[j]?=some o→o.op≠.select cs b)
  (hQ:∀c a w,Q (.panic c) (a.put oi.dst v) w→Q (.panic c) a w) (hX:zj8 md ops X i) (hXi:X i=false):
  ∀(fuel:Nat) (listed:Array Bool) (a:Act) (w:World),
   (∀j oj,ops[j]?=some oj→j≠i→listed.getD j true=false→(∀e∈oj.after,Region.binds md e=true→e.on≠i)→oi.apart ops oj=true)→
   i∈Region.ready md ops listed→YieldsIf P ops S oi v a→S w→
   zbS P md ops Q S X fuel (listed.setIfInBounds i true) (a.put oi.dst v) w→zbS P md ops Q S X (fuel+1) listed a w:=by
 intro fuel;induction fuel with
 |zero=>
  intro listed a w _ hr hy hS H;refine⟨fun h=>(by rw[h] at hr;cases hr),fun j hj=>?_⟩;by_cases hji:j=i
  ·subst hji;exact hy.wpOp hi hS ⟨.inr hS,H⟩
  ·have:=ready_mono hj hji;rw[H.1] at this;cases this
 |succ fuel ih=>
  intro listed a w hfree hr hy hS H;refine⟨fun h=>(by rw[h] at hr;cases hr),fun j hj=>?_⟩;by_cases hji:j=i
  ·subst hji;exact hy.wpOp hi hS ⟨.inr hS,H⟩
  ·have h1:=H.2 j (ready_mono hj hji);obtain⟨hjun,oj,hoj,hall⟩:=mem_ready.1 hj;have hnot:∀e∈oj.after,Region.binds md e=true→e.on≠i:=fun e he hb heq=>by
    have h1:=hall e he hb;have h0:=(mem_ready.1 hr).1;rw[heq] at h1;rcases Nat.lt_or_ge i listed.size with h'|h'
    ·simp[h'] at h0 h1;rw[h0] at h1;cases h1
    ·simp[Array.getElem?_eq_none h'] at h1
   have hXj:¬X j=true:=fun hx=>by
    obtain⟨e,he,hb,ho⟩:=hX j oj hx hoj;exact hnot e he hb ho
   have h2:=wpOp_putIf hoj (hfree j oj hoj hji hjun hnot) (fun cs b=>hsel i oi cs b hi) (fun cs b=>hsel j oj cs b hoj) hQ hy h1
   have hfree':∀k ok,ops[k]?=some ok→k≠i→(listed.setIfInBounds j true).getD k true=false→
     (∀e∈ok.after,Region.binds md e=true→e.on≠i)→oi.apart ops ok=true:=fun k ok hk hki hun hno=>by
    refine hfree k ok hk hki ?_ hno;by_cases hjk:j=k
    ·subst hjk;exact hjun
    ·rw[getD_set_ne true hjk] at hun;exact hun
   refine wpOp_mono (fun a' w' h3=>?_) h2;have hSw:S w':=h3.2.1.resolve_left hXj;refine⟨.inr hSw,ih (listed.setIfInBounds j true) a' w' hfree' (ready_mono hr (Ne.symm hji)) h3.1 hSw ?_⟩;rw[Array.setIfInBounds_comm _ _ hji];exact h3.2.2
def zmi (md:Region.Mode) (ops:Array Oper) (xs:List Nat) (i:Nat):Bool:=xs.all fun x=>match ops[x]? with|some o=>o.after.any fun e=>Region.binds md e&&e.on==i|none=>true
theorem ziP {xs:List Nat} {i:Nat} (h:zmi md ops xs i=true):zj8 md ops (fun x=>xs.contains x) i:=fun x o hx ho=>by
 have h1:=List.all_eq_true.1 h x (by simpa using hx);rw[ho] at h1;obtain⟨k,hk,h2⟩:=Array.any_eq_true.1 h1;simp only[Bool.and_eq_true,beq_iff_eq] at h2;exact⟨_,Array.getElem_mem hk,h2.1,h2.2⟩
variable {xs:List Nat}
theorem zaj {i:Nat} {oi:Oper} {v:Value} {fuel:Nat} {listed:Array Bool} {a:Act} {w:World} (hi:ops[i]?=some oi)
  (hs:Region.noSelect ops=true) (hf:Region.free md ops listed i=true) (hr:(Region.ready md ops listed).contains i=true) (hx:(zmi md ops xs i&&!xs.contains i)=true)
  (hQ:∀c a w,Q (.panic c) (a.put oi.dst v) w→Q (.panic c) a w) (hy:YieldsIf P ops S oi v a) (hS:S w)
  (h:zbS P md ops Q S (fun x=>xs.contains x) fuel (listed.setIfInBounds i true) (a.put oi.dst v) w):zbS P md ops Q S (fun x=>xs.contains x) (fuel+1) listed a w:=
 zgW hi (Region.noSelect_spec hs) hQ (ziP (Bool.and_eq_true_iff.1 hx).1) (by simpa using(Bool.and_eq_true_iff.1 hx).2) fuel listed a w (Region.free_spec hi hf) (by simpa using hr) hy hS h
theorem zbL {i:Nat} {fuel:Nat} {listed:Array Bool} {a:Act} {w:World} (hr:Region.ready md ops listed=[i])
  (h:wpOp P ops Q i (fun a' w'=>(X i=true∨S w')∧zbS P md ops Q S X fuel (listed.setIfInBounds i true) a' w') a w):zbS P md ops Q S X (fuel+1) listed a w:=
 ⟨(fun h0=>absurd (hr▸h0) (by simp)),fun j hj=>by
   rw[hr] at hj;obtain rfl:j=i:=by simpa using hj
   exact h⟩
theorem zhv {listed:Array Bool} {a:Act} {w:World} (hr:Region.ready md ops listed=[]) (h:Q .normal a w):∀fuel,zbS P md ops Q S X fuel listed a w
 |0=>⟨hr,h⟩
 |_+1=>⟨fun _=>h,by rw[hr];simp⟩
theorem zhw {id:Nat} {a:Act} {w:World} (hm:P.follows .mixedOrders=true)
  (h:zbS P .any ops Q S X ops.size (Array.replicate ops.size false) a w.drew):(Code.region id ops true).wp P Q a w:=
 wp_region_any hm (zfq _ _ _ _ h)
theorem zfr (I:Array Bool→Act→World→Prop)
  (hend:∀listed a w,I listed a w→Region.ready md ops listed=[]→Q .normal a w)
  (hstep:∀listed a w i,I listed a w→i∈Region.ready md ops listed→wpOp P ops Q i (fun a' w'=>(X i=true∨S w')∧I (listed.setIfInBounds i true) a' w') a w):
  ∀(fuel:Nat) (listed:Array Bool) (a:Act) (w:World),zeb listed.toList≤fuel→I listed a w→zbS P md ops Q S X fuel listed a w
 |0,listed,a,w,hf,hI=>by
  have hr:Region.ready md ops listed=[]:=List.eq_nil_iff_forall_not_mem.2 fun i hi=>zdS _ (by omega) i (zcg hi);exact⟨hr,hend _ _ _ hI hr⟩
 |fuel+1,listed,a,w,hf,hI=>by
  refine⟨fun hr=>hend _ _ _ hI hr,fun i hi=>wpOp_mono (fun a' w' h=>⟨h.1,zfr I hend hstep fuel _ a' w' ?_ h.2⟩) (hstep _ _ _ i hI hi)⟩;have:=zeN _ _ (zcg hi);rw[Array.toList_setIfInBounds];omega
theorem zeO (I:Array Bool→Act→World→Prop)
  (hend:∀listed a w,I listed a w→Region.ready md ops listed=[]→False)
  (hstep:∀fuel listed a w i,zeb listed.toList≤fuel+1→I listed a w→i∈Region.ready md ops listed→wpOp P ops Q i (fun a' w'=>(X i=true∨S w')∧(I (listed.setIfInBounds i true) a' w'∨zbS P md ops Q S X fuel (listed.setIfInBounds i true) a' w')) a w):
  ∀(fuel:Nat) (listed:Array Bool) (a:Act) (w:World),zeb listed.toList≤fuel→I listed a w→zbS P md ops Q S X fuel listed a w
 |0,listed,a,w,hf,hI=>by
  have hr:Region.ready md ops listed=[]:=List.eq_nil_iff_forall_not_mem.2 fun i hi=>zdS _ (by omega) i (zcg hi);exact(hend _ _ _ hI hr).elim
 |fuel+1,listed,a,w,hf,hI=>by
  refine⟨fun hr=>(hend _ _ _ hI hr).elim,fun i hi=>wpOp_mono (fun a' w' h=>⟨h.1,?_⟩) (hstep fuel _ _ _ i hf hI hi)⟩;rcases h.2 with h2|h2
  ·refine zeO I hend hstep fuel _ a' w' ?_ h2;have:=zeN _ _ (zcg hi);rw[Array.toList_setIfInBounds];omega
  ·exact h2
theorem zbT {i:Nat} {o:Oper} {a:Act} {w:World} {K:Act→World→Prop} (hi:ops[i]?=some o) (hg:o.guard=none) (h:o.wp P a w K Q):wpOp P ops Q i K a w:=by
 unfold wpOp;rw[hi];have hw:Region.wanted o (yielded ops a.tmps)=true:=by simp[Region.wanted,hg]
 simp only[hw,if_true];exact .inl h
theorem zcM {listed:Array Bool} {i:Nat} {o:Oper} (hr:Region.ready md ops listed=[]) (ho:ops[i]?=some o) (hall:(o.after.all fun e=>!Region.binds md e||listed.getD e.on false)=true):listed.getD i true=true:=by
 cases hq:listed.getD i true with
 |true=>rfl
 |false=>
  have hm:i∈Region.ready md ops listed:=mem_ready.2 ⟨hq,o,ho,fun e he hb=>by
   have h1:=Array.all_eq_true'.1 hall e he;rw[hb] at h1;simpa using h1⟩
  rw[hr] at hm;cases hm
theorem zcN {listed:Array Bool} {i:Nat} {o:Oper} (h:i∈Region.ready md ops listed) (ho:ops[i]?=some o) (k:Nat) (hk:(o.after.any fun e=>Region.binds md e&&e.on==k)=true):listed.getD k false=true:=by
 obtain⟨_,o',ho',hall⟩:=mem_ready.1 h;obtain rfl:o=o':=Option.some.inj (ho.symm.trans ho');obtain⟨j,hj,h2⟩:=Array.any_eq_true.1 hk;simp only[Bool.and_eq_true,beq_iff_eq] at h2;have:=hall _ (Array.getElem_mem hj) h2.1;rw[h2.2] at this;exact this
end
end Go.Proofs.YtgklikkddckgbaaGreatDoor
namespace Go.Proofs.YtgklikkddckgbaaGreatDoor.Mo
open Go.RowKit
def PB (N:Nat) (L:List Tok):Prop:=∀t∈L,t.1≤N
theorem PB.hd {N:Nat} {L:List Tok} (h:PB N L):(hd L).1≤N:=by
 cases L with
 |nil=>exact Nat.zero_le _
 |cons t l=>exact h t (by simp)
theorem PB.adv {N:Nat} {L:List Tok} (h:PB N L):PB N (adv L):=by
 match L,h with
 |[],h=>exact h
 |[x],h=>exact h
 |x::y::l,h=>exact fun t ht=>h t (List.mem_cons_of_mem _ ht)
theorem PB.toks {s:ByteArray}:∀(n p:Nat),s.size-p=n→p≤s.size→PB s.size (toks s p):=by
 intro n;induction n using Nat.strongRecOn with
 |_ n ih=>
  intro p hn hp;by_cases h:zaz s p<s.size
  ·rw[zc8 h hp];intro t ht;rcases List.mem_cons.1 ht with rfl|ht
   ·exact Nat.le_of_lt h
   ·have h1:=zch (s:=s) p hp;have h2:=zed (s:=s) (zaz s p) h;have h3:=zcU (s:=s) (zaz s p) (by omega);exact ih (s.size-zbb s (zaz s p)) (by omega) _ rfl (by omega) t ht
  ·rw[zcm h];intro t ht;obtain rfl:t=_:=by simpa using ht
   exact ql _
def ziQ (N:Nat):Res→Prop
 |.error (c,p)=>c≠0∧p≤N
 |.ok (L,_)=>PB N L
def zlq (N:Nat):Except (Int×Nat) Met→Prop
 |.error (c,p)=>c≠0∧p≤N
 |.ok _=>True
theorem zlr {N:Nat} {n:Int} {a:Nat} {L:List Tok} {m:Met} (h:PB N L) (ha:a≤N):ziQ N (zaE n a L m):=by
 unfold zaE;split
 ·split
  ·exact h.adv
  ·exact⟨by decide,ha⟩
 ·rename_i hc;exact⟨hc,h.hd⟩
theorem zlV {N:Nat} {L:List Tok} {m:Met} (h:PB N L):ziQ N (zbv L m):=by
 unfold zbv;split
 ·split
  ·exact zlr h.adv h.hd
  ·rename_i hc;exact⟨hc,h.hd⟩
 ·exact zlr h h.hd
theorem zj9 {N:Nat}:∀(f:Nat) (L:List Tok) (m:Met) (i n:Nat) (all:Bool),PB N L→ziQ N (zbm f L m i n all)
 |0,_,_,_,_,_,_=>⟨by decide,Nat.zero_le _⟩
 |f+1,L,m,i,n,all,h=>by
  unfold zbm;split
  ·split
   ·split
    ·split
     ·exact zj9 f _ _ _ _ _ h.adv.adv.adv
     ·exact h.adv.adv
    ·rename_i hc;exact⟨hc,h.adv.hd⟩
   ·rename_i hc;exact⟨hc,h.hd⟩
  ·rename_i hc;exact⟨hc,h.hd⟩
theorem zls {N:Nat}:∀(f:Nat) (L:List Tok) (m:Met),PB N L→ziQ N (zbq f L m)
 |0,_,_,_=>⟨by decide,Nat.zero_le _⟩
 |f+1,L,m,h=>by
  unfold zbq;split
  ·split
   ·exact⟨by decide,h.hd⟩
   ·split
    ·exact⟨by decide,h.hd⟩
    ·split
     ·split
      ·exact zls f _ _ h.adv.adv.adv
      ·exact h.adv.adv
     ·rename_i hc;exact⟨hc,h.adv.hd⟩
  ·exact⟨by decide,h.hd⟩
theorem zlW {N:Nat} {L:List Tok} {m:Met} (h:PB N L):ziQ N (zbN L m):=by
 unfold zbN;split
 ·split
  ·exact h.adv.adv
  ·rename_i hc;exact⟨hc,h.adv.hd⟩
 ·rename_i hc;exact⟨hc,h.hd⟩
theorem zk0 {N:Nat} {L:List Tok} {m:Met} (h:PB N L):ziQ N (zas L m):=by
 unfold zas;split
 ·exact zj9 _ _ _ _ _ _ h.adv
 ·split
  ·exact zls _ _ _ h.adv
  ·split
   ·exact zlW h.adv
   ·split
    ·split
     ·exact zj9 _ _ _ _ _ _ h.adv
     ·rename_i hc;exact⟨hc,h.hd⟩
    ·exact⟨by decide,h.hd⟩
theorem zgX {N:Nat}:∀(f:Nat) (L:List Tok) (m:Met),PB N L→zlq N (zax f L m)
 |0,_,_,_=>⟨by decide,Nat.zero_le _⟩
 |f+1,L,m,h=>by
  unfold zax;split
  ·trivial
  ·split
   ·have hc:=zk0 (m:=m) h.adv;cases hq:zas (adv L) m with
    |error x=>rw[hq] at hc;exact hc
    |ok x=>rw[hq] at hc;exact zgX f _ _ hc
   ·exact⟨by decide,h.hd⟩
theorem ziu {N:Nat}:∀(f:Nat) (L:List Tok) (m:Met),PB N L→zlq N (zaS f L m)
 |0,_,_,_=>⟨by decide,Nat.zero_le _⟩
 |f+1,L,m,h=>by
  unfold zaS;have hc:=zlV (m:=m) h;cases hq:zbv L m with
  |error x=>rw[hq] at hc;exact hc
  |ok x=>
   rw[hq] at hc;simp only[];split
   ·exact ziu f _ _ hc.adv
   ·exact zgX _ _ _ hc
theorem zf2 {s:ByteArray} {c:Int} {p:Nat} (hs:s.size≤65536) (h:zbd s=.error (c,p)):c≠0∧p≤s.size:=by
 unfold zbd at h;rw[if_neg (by omega)] at h;have:=ziu (toks s 0).length (toks s 0) Met.zero (PB.toks (s:=s) _ 0 rfl (Nat.zero_le _));rw[h] at this;exact this
def zmj (B rb fb:Nat) (s:ByteArray) (w:World) (r:Except (Int×Nat) (Fm×Nat)) (e:Ending) (w':World):Prop:=Below B w w'∧
 match r with
 |.error (c,p)=>e=PanE c p
 |.ok (f',j)=>e=.returned (.tuple #[])∧Rd w' rb fb s j∧FmOk f' j∧∃vl' vm' vs',FmM w' B fb f' vl' vm' vs'
end Go.Proofs.YtgklikkddckgbaaGreatDoor.Mo

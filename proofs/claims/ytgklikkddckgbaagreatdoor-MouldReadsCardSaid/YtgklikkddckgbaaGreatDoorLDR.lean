import Derived.Test.YtgklikkddckgbaaGreatDoorLDQ
/- Lemmas. -/
set_option linter.all false
set_option maxRecDepth 100000
set_option maxHeartbeats 8000000
namespace Go.Proofs.YtgklikkddckgbaaGreatDoor.Mo
open Go.RowKit
theorem zhA (s:ByteArray) (a b:Nat):s.extract a b=⟨(yM s a b).toArray⟩:=by
 rw[<-zcp]
theorem ziv {s:ByteArray}:∀{t:List Int} {i j:Nat},py s t i=.ok j->i<=s.size->j<=s.size
 |[],i,j,h,hi=>by unfold py at h;cases h;exact hi
 |c::t,i,j,h,hi=>by
  unfold py at h;split at h
  ·rename_i hb;exact ziv h (XV hb)
  ·cases h
theorem zhB {s:ByteArray} {t:List Int} {i j:Nat} (h:pF (py s t i)=.ok j) (hi:i<=s.size):j<=s.size:=by
 cases hm:py s t i with
 |error e=>rw[hm] at h;cases h
 |ok k=>rw[hm] at h;cases h;exact ziv hm hi
theorem zcw {r:Except Nat Nat} {c:Int} {p:Nat} (h:pF r=.error (c,p)):c=180:=by
 cases r with
 |error e=>cases h;rfl
 |ok k=>cases h
def J9 (rb:Nat) (s:ByteArray) (no wh:Int) (F:RF) (w:World) (i:Nat) (r:Except (Int×Nat) Nat) (w':World):Prop:=Off [rb] w w'/\
 (no=0->match r with|.ok j=>j<=s.size/\RR w' rb s j 0 0 F|.error (c,p)=>∃j,j<=s.size/\RR w' rb s j c p F)/\(no≠0->∃j,j=i/\RR w' rb s j no wh F)
theorem zbA (rb:Nat) (s t:ByteArray) (i:Nat) (no wh:Int) (F:RF) (w:World) (h:RR w rb s i no wh F) (hi:no=0->i<=s.size) (ht:t.size<=100) (hz:∀k (hk:k<t.size),t[k]≠0):
  Calls Tryz.prog 65 #[.pointer (some ⟨rb,0,none⟩),.string t] w λe w'=>e=.returned (.tuple #[])/\J9 rb s no wh F w i (pF (py s (JN t) i)) w':=by
 have hsz:=h.sz;have hle:=h.le;have H:=qh h;generalize hR:pF (py s (JN t) i)=R;have Kk:Hid (pF (py s ((JN t).drop 0) (i+0))=R):=qh (by rw[xL,xG];exact hR);clear h hR;go_enter Tryz.func65,Tryz.ntmps65;go_wp2_with fail;go_loopw [4] (λj wr=>∃k:Nat,k<=t.size/\j=.int .i64 k/\Hid (pF (py s ((JN t).drop k) (i+k))=R)/\Hid (RR wr rb s (i+k) no wh F)/\Hid (Off [rb] w wr)/\Hid (no≠0->k=0)/\Hid (no=0->i+k<=s.size)) (λj _=>t.size-(intOf j).toNat)
 case atStart=>exact⟨0,qF _,rfl,Kk,H,qh (Off.refl _ _),qh (λ_=>rfl),qh hi⟩
 case round=>
  obtain⟨k,hk,rfl,hRk,hrd,hof,hno,hle9⟩:=hrel;clear Kk;by_cases hlt:k<t.size
  ·have Hq:=qh (λn=>vZ rb s (i+k) no wh F (wr.drewN n) (hrd.out.drewN n));have hst:=hRk.out;rw[zfe t k hlt] at hst;unfold py at hst;have hzk:=hz k hlt;by_cases hok:no=0/\pg s (i+k) (t[k].toNat:Int)=true
   ·obtain⟨h0,hb⟩:=hok;have hlt2:=XV hb;have hne:(((yQ no s (i+k)).toNat:Int) !=(t[k].toNat:Int))=false:=by
     unfold yQ;rw[qy h0,zjX hzk,hb];rfl
    have HR2:Hid (pF (py s ((JN t).drop (k+1)) (i+(k+1)))=R):=qh (by
     have h1:=hst;rw[hb,qy rfl] at h1;exact h1)
    have r1:=λn=>(hrd.out.drewN n).c1;have z1:=λn=>(hrd.out.drewN n).z 1;have hw:IntKind.i64.wrap (((i+k:Nat):Int)+1)=((i+k:Nat):Int)+1:=qi _ (by omega);have hc:((i+k:Nat):Int)+1=((i+(k+1):Nat):Int):=(by omega);have hfin:∀n,RR ((wr.drewN n).setCell ⟨rb,1,none⟩ (.int .i64 (((i+k:Nat):Int)+1))) rb s (i+(k+1)) no wh F/\Off [rb] w ((wr.drewN n).setCell ⟨rb,1,none⟩ (.int .i64 (((i+k:Nat):Int)+1))):=λn=>by
     rw[hc];exact⟨(hrd.out.drewN n).to (by omega),(hof.out.trans (Off.drewN _ _ n)).trans (Off.setCell _ rb 1 _)⟩
    have gT:=qh hfin;generalize yQ no s (i+k)=bc at*;clear hst hb hc hfin;go_wp2_with fail;go_quiet ((go_at_call 67;exact Calls.quiet_of (Hq.out _)))
    go_wp2_with fail;go_roundw
    case rel=>exact⟨k+1,by omega,by go_num,HR2,qh (gT.out _).1,qh (gT.out _).2,qh (λe=>absurd h0 e),qh (λ_=>by omega)⟩
    case measure=>simp[intOf];omega
   ·have hne:(((yQ no s (i+k)).toNat:Int) !=(t[k].toNat:Int))=true:=by
     unfold yQ;by_cases h0:no=0
     ·rw[qy h0,zjX hzk];cases hb:pg s (i+k) (t[k].toNat:Int) with
      |true=>exact absurd ⟨h0,hb⟩ hok
      |false=>rfl
     ·rw[qx h0];exact zlT hzk
    have HR2:Hid (no=0->R=.error (180,i+k)):=qh (λh0=>by
     cases hb:pg s (i+k) (t[k].toNat:Int) with
     |true=>exact absurd ⟨h0,hb⟩ hok
     |false=>rw[<-hst,hb];rfl)
    have HL:Hid (no=0->i+k<=s.size):=hle9;have Hb:=qh (λn=>zbu rb s (i+k) no wh F (wr.drewN n) (hrd.out.drewN n));generalize yQ no s (i+k)=bc at*;clear hst hok;go_wp2_with fail;go_quiet ((go_at_call 67;exact Calls.quiet_of (Hq.out _)))
    go_wp2_with fail;refine(Hb.out _).mono ?_;rintro e w2 ⟨rfl,hr2,ho2⟩;have Hr2:=qh hr2;have Ho2:=qh ((hof.out.trans (Off.drewN _ _ _)).trans ho2);clear hr2 ho2;go_wp2_with fail;refine zt (qI rfl _ _ _) rfl ?_;refine⟨rfl,Ho2.out,λh0=>?_,λh0=>?_⟩
    ·rw[HR2.out h0];have:=Hr2.out;unfold QQ ZV at this;rw[qy h0,qy h0] at this;exact⟨_,HL.out h0,this⟩
    ·have:=Hr2.out;unfold QQ ZV at this;rw[qx h0,qx h0] at this;exact⟨_,by rw[hno.out h0,xG],this⟩
  ·obtain rfl:k=t.size:=by omega
   have HR2:Hid (R=.ok (i+t.size)):=qh (by rw[<-hRk.out,zgo t _ hlt];rfl);clear hRk;go_wp2_with fail;refine q9 (qI rfl _ _ _) rfl ?_;refine⟨rfl,hof.out,λh0=>?_,λh0=>⟨_,by rw[hno.out h0,xG],hrd.out⟩⟩;rw[HR2.out];have hwh:=(hrd.out.ok h0).2;have:=hrd.out;rw[h0,hwh] at this;exact⟨hle9.out h0,this⟩
structure Sg (w:World) (rb:Nat) (s:ByteArray) (F:RF) {α:Type} (R:Except (Int×Nat) α) (k:Nat->Except (Int×Nat) α) (j:Nat) (no wh:Int):Prop where
 rr:RR w rb s j no wh F
 ok:no=0->R=k j/\j<=s.size
 er:no≠0->∃p:Nat,wh=p/\R=.error (no,p)
theorem Sg.must {w w':World} {rb:Nat} {s:ByteArray} {F:RF} {α:Type} {R:Except (Int×Nat) α} {k:Nat->Except (Int×Nat) α} {j:Nat} {no wh:Int} {t:List Int} (h:Sg w rb s F R (λi=>match pF (py s t i) with|.error e=>.error e|.ok a=>k a) j no wh)
  (hr:J9 rb s no wh F w j (pF (py s t j)) w'):∃j' no' wh',Sg w' rb s F R k j' no' wh':=by
 obtain⟨ho,h0,h1⟩:=hr;by_cases hn:no=0
 ·have h2:=h0 hn;obtain⟨h3,h4⟩:=h.ok hn;cases hm:pF (py s t j) with
  |error e=>
   obtain⟨c,p⟩:=e;rw[hm] at h2 h3;obtain⟨j',hj,hr'⟩:=h2;have hc:=zcw hm;exact⟨j',c,p,hr',λe=>absurd e (by rw[hc];decide),λ_=>⟨p,rfl,h3⟩⟩
  |ok a=>
   rw[hm] at h2 h3;exact⟨a,0,0,h2.2,λ_=>⟨h3,h2.1⟩,λe=>absurd rfl e⟩
 ·obtain⟨j',hj,hr'⟩:=h1 hn;subst hj;exact⟨_,no,wh,hr',λe=>absurd e hn,λ_=>h.er hn⟩
theorem zdG {s:ByteArray} {l v:Int} {i j:Nat} (h:yL s l i=.ok (v,j)):l<=v/\v<=512:=by
 unfold yL at h;split at h
 ·cases h
 ·split at h
  ·cases h
  ·cases h;omega
theorem Sg.num {w w':World} {rb:Nat} {s:ByteArray} {F:RF} {α:Type} {R:Except (Int×Nat) α} {k:Int->Nat->Except (Int×Nat) α} {j:Nat} {no wh:Int} {l:Int} {e:Ending} (h:Sg w rb s F R (λi=>match yL s l i with|.error e=>.error e|.ok (v,b)=>k v b) j no wh)
  (hr:zqF rb s no wh F l j w e w'):∃n j' no' wh',e=.returned (.int .i64 n)/\0<=n/\n<=1000009/\(no'=0->no=0/\l<=n/\n<=512)/\Sg w' rb s F R (k n) j' no' wh':=by
 obtain⟨ho,n,he,hn0,hn1,h0,h1⟩:=hr;by_cases hn:no=0
 ·have h2:=h0 hn;obtain⟨h3,h4⟩:=h.ok hn;cases hm:yL s l j with
  |error e=>
   obtain⟨c,p⟩:=e;rw[hm] at h2;simp only[hm] at h3;obtain⟨j',hr'⟩:=h2;have hc:=zbI hm;exact⟨n,j',c,p,he,hn0,hn1,λe=>absurd e hc,hr',λe=>absurd e hc,λ_=>⟨p,rfl,h3⟩⟩
  |ok vb=>
   obtain⟨v,b⟩:=vb;rw[hm] at h2;simp only[hm] at h3;obtain⟨rfl,hr'⟩:=h2;have hl:=zdG hm;exact⟨n,b,0,0,he,hn0,hn1,λ_=>⟨hn,hl⟩,hr',λ_=>⟨h3,(zlJ h4 hm).2⟩,λe=>absurd rfl e⟩
 ·obtain⟨j',hr'⟩:=h1 hn;exact⟨n,j',no,wh,he,hn0,hn1,λe=>absurd e hn,hr',λe=>absurd e hn,λ_=>h.er hn⟩
theorem RR.VW {w:World} {rb:Nat} {s:ByteArray} {i:Nat} {no wh:Int} {F:RF} (h:RR w rb s i no wh F) (v:Value):RR (w.setCell ⟨rb,4,none⟩ v) rb s i no wh {F with nm:=v}:=⟨qs w rb 4 _ _ v h.r,h.le,h.sz,h.ok⟩
theorem RR.zrv {w:World} {rb:Nat} {s:ByteArray} {i:Nat} {no wh:Int} {F:RF} (h:RR w rb s i no wh F) (b:Bool):RR (w.setCell ⟨rb,8,none⟩ (.bool b)) rb s i no wh {F with rd:=b}:=⟨qs w rb 8 _ _ _ h.r,h.le,h.sz,h.ok⟩
theorem RR.set9 {w:World} {rb:Nat} {s:ByteArray} {i:Nat} {no wh:Int} {F:RF} (h:RR w rb s i no wh F) (a:Int):RR (w.setCell ⟨rb,9,none⟩ (.int .i64 a)) rb s i no wh {F with a:=a}:=⟨qs w rb 9 _ _ _ h.r,h.le,h.sz,h.ok⟩
theorem RR.ztv {w:World} {rb:Nat} {s:ByteArray} {i:Nat} {no wh:Int} {F:RF} (h:RR w rb s i no wh F) (a:Int):RR (w.setCell ⟨rb,10,none⟩ (.int .i64 a)) rb s i no wh {F with b:=a}:=⟨qs w rb 10 _ _ _ h.r,h.le,h.sz,h.ok⟩
theorem RR.ztw {w:World} {rb:Nat} {s:ByteArray} {i:Nat} {no wh:Int} {F:RF} (h:RR w rb s i no wh F) (a:Int):RR (w.setCell ⟨rb,11,none⟩ (.int .i64 a)) rb s i no wh {F with c:=a}:=⟨qs w rb 11 _ _ _ h.r,h.le,h.sz,h.ok⟩
theorem zk2 (B rb:Nat) (s:ByteArray) (F:RF) (rows:List Rw) (vis:List Value) (round:Bool) (start i:Nat) (no wh:Int) (w:World) (h:RR w rb s i no wh F) (hn:no≠0) (hrm:Z8 w B F.vr rows vis) (ha0:0<=F.a) (ha1:F.a<=1000009) (ht:vQ rows<=65536) (hl:rows.length<=65536) (hB:B<=w.heap.size) (hBr:B<=rb):
  Calls Tryz.prog 71 #[.pointer (some ⟨rb,0,none⟩),.bool round,.int .i64 start] w λe w'=>e=.returned (.tuple #[])/\Off [rb] w w'/\RR w' rb s i no wh F:=by
 obtain⟨f4,f5,f6,f7,f8,f9,f10,f11⟩:=h.form;have HS:=qh (zeL B F.nm F.vl F.vm F.vr F.rd F.a F.b F.c rows vis F.a w.drew (hrm.off (T:=[]) (Off.drew [] w) pc.nil (by simp) (by simp) (by simp)) ha0 ha1 ht hl);have H:=qh h;have Hn:=qh hn;generalize ZF rows F.a=ah at*;clear h hn hrm;go_enter Tryz.func71,Tryz.ntmps71;go_wp2_with fail;go_cut [6] from 6 to 24 (λv6 wx=>v6=.int .i64 ah/\Hid (Below w.heap.size w wx))
 case first=>
  go_region_law (go_simp;go_at_call 16;refine HS.out.mono ?_;rintro e w2 ⟨rfl,hb2⟩;have Hb2:=qh ((ZG (qb w.heap.size w) 1).trans hb2);clear hb2)
  all_goals
   go_wp2_with fail;go_meet
   exact⟨rfl,Hb2⟩
 case rest=>
  clear f4 f5 f6 f7 f8 f9 f10 f11 HS;obtain⟨rfl,hb1⟩:=hcut;obtain⟨W1,hW1⟩:∃W1:World,W1=wc:=⟨_,rfl⟩;subst hW1;have hr1:=H.out.below hb1.out;have Za:Below W1.heap.size W1 (W1.alloc (.cells #[.bool round,.slice none 0 0] 96)):=(qb _ _).alloc (ql _) _;have hrA:=hr1.below Za;have HoA:Hid (Off [rb] w (W1.alloc (.cells #[.bool round,.slice none 0 0] 96))):=qh ((Off.of_below hb1.out (ql _) _).trans (Off.alloc _ W1 _));have hb0:yQ no s i=0:=by unfold yQ;rw[qx Hn.out]
  have Hc:=qh (vZ rb s i no wh F _ hrA);have Qx:=qh (λn=>zbu rb s i no wh F _ (hrA.drewN n));rw[hb0] at Hc;clear hr1 Za hrA hb0;go_wp2_with fail;generalize W1.alloc (.cells #[.bool round,.slice none 0 0] 96)=W2 at*;refine Hc.out.mono ?_;rintro e w3 ⟨rfl,n3,rfl⟩;go_wp2_with fail;refine(Qx.out _).mono ?_;rintro e w4 ⟨rfl,hr4,QI⟩;have e1:QQ no 180=no:=by unfold QQ;rw[qx Hn.out]
  have e2:ZV no wh (i:Int)=wh:=by unfold ZV;rw[qx Hn.out]
  rw[e1,e2] at hr4;have Yc:=qh hr4;have YX:=qh (HoA.out.trans ((Off.drewN [rb] W2 _).trans QI));clear hr4 QI e1 e2;obtain⟨W4,J8⟩:∃W4:World,W4=w4:=⟨_,rfl⟩;have H4:Hid (w4=W4):=qh J8.symm;clear J8;go_wp2_with fail;go_loopw [] (λwr=>Hid (RR wr rb s i no wh F/\Off [rb] w wr)) (λ_=>0)
  case atStart=>exact qh ⟨Yc.out,YX.out⟩
  case round=>
   obtain⟨pi,pH⟩:=hrel.out;have hb0:yQ no s i=0:=(by unfold yQ;rw[qx Hn.out]);have Hc:=qh (vZ rb s i no wh F _ pi);rw[hb0] at Hc;have q1:(no !=0)=true:=(by simpa using Hn.out);have r2:=pi.c2;have gT:=qh (λn=>qY (pH.trans (Off.drewN [rb] wr n)) (pi.drewN n));clear hrel pi pH hb0;go_wp2_with fail;refine Hc.out.mono ?_;rintro e w6 ⟨rfl,n6,rfl⟩;go_wp2_with fail;refine zt (qI rfl _ _ _) rfl ?_;exact⟨rfl,gT.out _⟩
theorem Qc.VW {w:World} {B rb:Nat} {f:Fm} {F:RF} {s:ByteArray} {i:Nat} {no wh:Int} {F':RF} (h:Qc w B f F) (hr:RR w rb s i no wh F') (n:List UInt8):Qc (w.setCell ⟨rb,4,none⟩ (.string ⟨n.toArray⟩)) B {f with name:=n} {F with nm:=.string ⟨n.toArray⟩}:=by
 have h':=h.pz hr (Off.setCell w rb 4 (.string ⟨n.toArray⟩));exact⟨rfl,h'.l,h'.m,h'.r,h'.rd,h'.a,h'.b,h'.c⟩
theorem Qc.zrv {w:World} {B rb:Nat} {f:Fm} {F:RF} {s:ByteArray} {i:Nat} {no wh:Int} {F':RF} (h:Qc w B f F) (hr:RR w rb s i no wh F') (b:Bool):Qc (w.setCell ⟨rb,8,none⟩ (.bool b)) B {f with rounds:=b} {F with rd:=b}:=by
 have h':=h.pz hr (Off.setCell w rb 8 (.bool b));exact⟨h'.nm,h'.l,h'.m,h'.r,rfl,h'.a,h'.b,h'.c⟩
theorem ZA.err {B rb:Nat} {s:ByteArray} {w w':World} {c:Int} {p j:Nat} {F:RF} (hb:Below B w w') (hc:c≠0) (hr:RR w' rb s j c p F):ZA B rb s w (.error (c,p)) (.returned (.tuple #[])) w':=⟨rfl,hb,hc,j,F,hr⟩
theorem zkc:JN ⟨#[102,111,114,109,32]⟩=znf:=by kernel_rfl
theorem zhC:JN ⟨#[32]⟩=[32]:=by kernel_rfl
theorem ziR:JN ⟨#[114,111,117,110,100,32]⟩=ROUND:=by kernel_rfl
theorem zhD:JN ⟨#[115,116,97,110,122,97]⟩=pM:=by kernel_rfl
theorem ziS:JN ⟨#[109,101,116,114,101,32]⟩=Zt:=by kernel_rfl
theorem zhE (B rb:Nat) (s:ByteArray) (f:Fm) (F:RF) (i:Nat) (w:World) (h:RR w rb s i 0 0 F) (hf:Qc w B f F) (hi:i<s.size) (hB:B<=w.heap.size) (hBr:B<=rb):
  Calls Tryz.prog 46 #[.pointer (some ⟨rb,0,none⟩),.bool false] w (ZA B rb s w (QZ s f false i)):=by
 have hsz:=h.sz;have r1:=h.c1;have hms:=zbA rb s ⟨#[102,111,114,109,32]⟩ i 0 0 F w h (λ_=>by omega) (by decide) (by decide);rw[zkc] at hms;have p8:=qh hms;have hP:QZ s f false i=match pF (py s znf i) with|.error e=>.error e|.ok a=>if vG s a then .error (180,a) else .ok ({f with name:=yM s a (zap s a)},zap s a):=rfl
 generalize QZ s f false i=R at*;have HP:=qh hP;have H:=qh h;have Hf:=qh hf;clear h hf hms hP;go_enter Tryz.func46,Tryz.ntmps46;go_wp2_with fail;refine p8.out.mono ?_;rintro e w2 ⟨rfl,ho2,hok,_⟩;have hk:=hok rfl;have Ho2:=qh ho2;have Hf2:=qh (Hf.out.pz H.out ho2);have KS:=HP;clear hok ho2;cases hm:pF (py s znf i) with
 |error e=>
  obtain⟨c,p⟩:=e;rw[hm] at hk;obtain⟨j,hj,hr2⟩:=hk;have hc:c≠0:=by rw[zcw hm];decide
  have HR:Hid (R=.error (c,p)):=qh (by rw[HP.out,hm]);have q0:(c==0)=false:=by simpa using hc
  have r2:=hr2.c2;have hrest:=zcL rb s j c p F w2 hr2 hj;rw[qx hc] at hrest;have Zi:=qh hrest;have Hc:=qh hc;clear hm hr2 hrest hc;go_wp2_with fail;refine Zi.out.mono ?_;rintro e w3 ⟨ho3,rfl,hr3⟩;generalize s.extract j j=nm9 at*;have z4:=hr3.z 4;have f4:=hr3.form.1;have Yc:=qh (hr3.VW (.string nm9));have YX:=qh ((Ho2.out.trans ho3).trans (Off.setCell w3 rb 4 (.string nm9)));clear hr3 ho3;go_wp2_with fail;refine zt (qI rfl _ _ _) rfl ?_;rw[HR.out];exact ZA.err (YX.out.below hB (λk hk=>by simp at hk;omega)) Hc.out Yc.out
 |ok a=>
  rw[hm] at hk;obtain⟨ha,hr2⟩:=hk;have r2:=hr2.c2;have He:=qh (zht rb s a 0 0 F w2 hr2);have Yq:zmV 0 s a=vG s a:=by unfold zmV;rw[qy rfl]
  rw[Yq] at He;have Hr2:=qh hr2;cases hen:vG s a with
  |true=>
   have HR:Hid (R=.error (180,a)):=qh (by rw[HP.out,hm];simp only;rw[qy hen]);have Qx:=qh (λn=>zbu rb s a 0 0 F (w2.drewN n) (hr2.drewN n));rw[hen] at He;clear hm hr2 Yq hen;go_wp2_with fail;refine He.out.mono ?_;rintro e w3 ⟨rfl,n3,rfl⟩;go_wp2_with fail;refine(Qx.out _).mono ?_;rintro e w4 ⟨rfl,hr4,QI⟩;have hr4':RR w4 rb s a 180 a F:=hr4;have hrest:=zcL rb s a 180 a F w4 hr4' ha;rw[qx (by decide)] at hrest;have Zi:=qh hrest;have YX:=qh (Ho2.out.trans ((Off.drewN [rb] w2 n3).trans QI));clear hr4 hr4' QI hrest;go_wp2_with fail;refine Zi.out.mono ?_;rintro e w5 ⟨pH,rfl,pi⟩;generalize s.extract a a=nm9 at*;have z4:=pi.z 4;have f4:=pi.form.1;have Hr6:=qh (pi.VW (.string nm9));have Vv:=qh ((YX.out.trans pH).trans (Off.setCell w5 rb 4 (.string nm9)));clear pi pH;go_wp2_with fail;refine zt (qI rfl _ _ _) rfl ?_;rw[HR.out];exact ZA.err (Vv.out.below hB (λk hk=>by simp at hk;omega)) (by decide) Hr6.out
  |false=>
   have HR:Hid (R=.ok ({f with name:=yM s a (zap s a)},zap s a)):=qh (by rw[HP.out,hm];simp only;rw[qx (by rw[hen];simp)]);have hrest:=λn=>zcL rb s a 0 0 F (w2.drewN n) (hr2.drewN n) ha;rw[qy rfl,zhA] at hrest;have Zi:=qh hrest;rw[hen] at He;clear hm hr2 Yq hen hrest;go_wp2_with fail;refine He.out.mono ?_;rintro e w3 ⟨rfl,n3,rfl⟩;go_wp2_with fail;refine(Zi.out _).mono ?_;rintro e w5 ⟨pH,rfl,pi⟩;have z4:=pi.z 4;have f4:=pi.form.1;have zsF:=(Off.drewN [rb] w2 n3).trans pH;have Hr6:=qh (pi.VW (.string ⟨(yM s a (zap s a)).toArray⟩));have Hf6:=qh ((Hf2.out.pz Hr2.out zsF).VW pi (yM s a (zap s a)));have Vv:=qh ((Ho2.out.trans zsF).trans (Off.setCell w5 rb 4 (.string ⟨(yM s a (zap s a)).toArray⟩)));clear pi pH zsF;go_wp2_with fail;refine zt (qI rfl _ _ _) rfl ?_;rw[HR.out];exact⟨rfl,Vv.out.below hB (λk hk=>by simp at hk;omega),(zbs a ha).2,_,Hr6.out,Hf6.out⟩
theorem ziw (B rb:Nat) (s:ByteArray) (f:Fm) (F:RF) (round:Bool) (start i i0:Nat) (no wh:Int) (w:World) (h:RR w rb s i no wh F) (hrm:∃rows vis,Z8 w B F.vr rows vis/\vQ rows<=65536/\rows.length<=65536) (ha0:0<=F.a) (ha1:F.a<=1000009)
  (hB:B<=w.heap.size) (hBr:B<=rb) (hon:no=0->wh=0/\Qc w B f F/\pq f i0/\i0+1<=i/\i<=s.size):
  Calls Tryz.prog 71 #[.pointer (some ⟨rb,0,none⟩),.bool round,.int .i64 start] w λe w'=>e=.returned (.tuple #[])/\Below B w w'/\
   (no=0->match Kd s f round start i with
    |.ok (f',j)=>j<=s.size/\∃F',RR w' rb s j 0 0 F'/\Qc w' B f' F'
    |.error (c,p)=>c≠0/\∃j F',RR w' rb s j c p F')/\(no≠0->RR w' rb s i no wh F):=by
 by_cases hn:no=0
 ·obtain⟨h1,h2,h3,h4,h5⟩:=hon hn;subst hn;subst h1;exact(zl0 B rb s f F round start i i0 w h h2 h3 h4 h5 hB hBr).mono λe w' ⟨a,b,c⟩=>⟨a,b,λ_=>c,λe=>absurd rfl e⟩
 ·obtain⟨rows,vis,hm,ht,hl⟩:=hrm;exact(zk2 B rb s F rows vis round start i no wh w h hn hm ha0 ha1 ht hl hB hBr).mono λe w' ⟨a,b,c⟩=>⟨a,b.below hB (λk hk=>by simp at hk;omega),λe=>absurd e hn,λ_=>c⟩
theorem Qc.rows {w:World} {B:Nat} {f:Fm} {F:RF} {i:Nat} (h:Qc w B f F) (hk:pq f i) (hi:i<=65536):∃rows vis,Z8 w B F.vr rows vis/\vQ rows<=65536/\rows.length<=65536:=by
 obtain⟨vis,hr⟩:=h.r;have:=hk.le;exact⟨f.rows,vis,hr,by omega,by omega⟩
theorem Qc.len {w:World} {B:Nat} {f:Fm} {F:RF} (h:Qc w B f F):∃A c,F.vr=.slice A f.rows.length c:=by
 obtain⟨vis,hr⟩:=h.r;exact pJ hr.o
theorem zg0 (B rb:Nat) (s:ByteArray) (f:Fm) (F:RF) (i i0:Nat) (w:World) (h:RR w rb s i 0 0 F) (hf:Qc w B f F) (hk:pq f i0) (hi0:i0<=i) (hi:i<s.size) (hB:B<=w.heap.size) (hBr:B<=rb)
  (h1:¬(pg s i 109=true/\f.rows.isEmpty=true)) (h2:¬(pg s i 114=true/\f.rounds=false)):
  Calls Tryz.prog 46 #[.pointer (some ⟨rb,0,none⟩),.bool true] w (ZA B rb s w (QZ s f true i)):=by
 have hsz:=h.sz;have r1:=h.c1;have hR0:QZ s f true i=match pF (py s pM i) with|.error e=>.error e|.ok a=>Kd s f false i a:=by
  unfold QZ;rw[qx (by simp)];by_cases h3:pg s i 109=true
  ·have h4:f.rows.isEmpty=false:=by
    cases hh:f.rows.isEmpty with
    |false=>rfl
    |true=>exact absurd ⟨h3,hh⟩ h1
   rw[qx (by rw[h4];simp),qx (by rw[QX hi] at h3|-;simp at h3|-;omega)];rfl
  ·rw[qx (by simp[h3])];by_cases h5:pg s i 114=true
   ·have h6:f.rounds=true:=by
     cases hh:f.rounds with
     |true=>rfl
     |false=>exact absurd ⟨h5,hh⟩ h2
    rw[qy h5];unfold XW;rw[qy h6];have h7:py s pM i=.error i:=by
     unfold pM py;rw[qx (by rw[QX hi] at h5|-;simp at h5|-;omega)]
    rw[h7];rfl
   ·rw[qx h5];rfl
 generalize QZ s f true i=R at*;have hb0:yQ 0 s i=gZ s i:=by unfold yQ;rw[qy rfl]
 have Hc:=qh (λn=>vZ rb s i 0 0 F (w.drewN n) (h.drewN n));rw[hb0] at Hc;have J6:=qh (Hc.out 0);have p8:=qh (λn=>zbA rb s ⟨#[115,116,97,110,122,97]⟩ i 0 0 F (w.drewN n) (h.drewN n) (λ_=>by omega) (by decide) (by decide));rw[zhD] at p8;have hib:∀c:Int,pg s i c=(((gZ s i).toNat:Int)==c):=λc=>by rw[QX hi,Z3 hi]
 rw[hib] at h1 h2;have hrd:F.rd=f.rounds:=hf.rd;obtain⟨Ar,cr,Zg⟩:=hf.len;have f7:w.cell? ⟨rb,7,none⟩=some (.slice Ar f.rows.length cr):=by rw[h.form.2.2.2.1,Zg]
 have f8:w.cell? ⟨rb,8,none⟩=some (.bool f.rounds):=by rw[h.form.2.2.2.2.1,hrd]
 have J7:((((gZ s i).toNat:Int)==109)=true/\((f.rows.length:Int)==0)=false/\(((gZ s i).toNat:Int)==114)=false)∨
   ((((gZ s i).toNat:Int)==109)=false/\(((gZ s i).toNat:Int)==114)=false)∨
   ((((gZ s i).toNat:Int)==109)=false/\(((gZ s i).toNat:Int)==114)=true/\f.rounds=true):=by
  cases g1:(((gZ s i).toNat:Int)==109) with
  |true=>
   left;refine⟨rfl,?_,?_⟩
   ·have h4:¬f.rows=[]:=λe=>h1 ⟨g1,by rw[e];rfl⟩;have:f.rows.length≠0:=λe=>h4 (List.length_eq_zero_iff.1 e);simpa using h4
   ·simp at g1|-;omega
  |false=>
   right;cases g2:(((gZ s i).toNat:Int)==114) with
   |false=>exact .inl ⟨rfl,rfl⟩
   |true=>
    right;refine⟨rfl,rfl,?_⟩;cases hh:f.rounds with
    |true=>rfl
    |false=>exact absurd ⟨g2,hh⟩ h2
 have Kk:=qh hR0;have H:=qh h;have Hf:=qh hf;have Hk:=qh hk;generalize gZ s i=bi at*;clear h hf hk hR0 hb0 hib h1 h2 hrd Zg
 have KF:Hid (∀(n:Nat) (w3:World) (e:Ending),e=.returned (.tuple #[])/\J9 rb s 0 0 F (w.drewN n) i (pF (py s pM i)) w3->∃(j:Nat) (no wh:Int),RR w3 rb s j no wh F/\Off [rb] w w3/\
   Calls Tryz.prog 71 #[.pointer (some ⟨rb,0,none⟩),.bool false,.int .i64 i] w3 (λe w'=>ZA B rb s w R e w')):=qh (λn w3 e ⟨_,hst⟩=>by
  have hsg:Sg (w.drewN n) rb s F R (λi'=>match pF (py s pM i') with|.error e=>.error e|.ok a=>Kd s f false i a) i 0 0:=⟨H.out.drewN n,λ_=>⟨Kk.out,by omega⟩,λe=>absurd rfl e⟩;have ho:Off [rb] w w3:=(Off.drewN _ w n).trans hst.1;have hm2:=hst.2.1 rfl;obtain⟨j,no,wh,hs⟩:=hsg.must hst;have hf3:=Hf.out.pz H.out ho;have hBw:Below B w w3:=ho.below hB (λk hk=>by simp at hk;omega);refine⟨j,no,wh,hs.rr,ho,?_⟩;have hij:no=0->i+6=j:=λh0=>by
   obtain⟨e1,_⟩:=hs.ok h0;cases hm:pF (py s pM i) with
   |error ep=>
    obtain⟨c,p⟩:=ep;rw[hm] at hm2;obtain⟨j',_,hr'⟩:=hm2;have h9:=hs.rr.c2;rw[hr'.c2,h0] at h9;have:=zcw hm;simp at h9;omega
   |ok a=>
    rw[hm] at hm2;have h9:=hs.rr.c1;rw[hm2.2.c1] at h9;simp at h9;have h8:=Ji hm;have h7:pM.length=6:=rfl;omega
  refine(ziw B rb s f F false i j i0 no wh w3 hs.rr (hf3.rows Hk.out (by omega)) (by rw[Hf.out.a];exact Hk.out.l0.1) (by rw[Hf.out.a];have:=Hk.out.l0.2;omega) (qm hB ho.size) hBr (λh0=>⟨(hs.rr.ok h0).2,hf3,Hk.out,by have:=hij h0;omega,(hs.ok h0).2⟩)).mono ?_;rintro e' w' ⟨rfl,hb',h0',h1'⟩;refine⟨rfl,hBw.trans hb',?_⟩;by_cases hn:no=0
  ·have:=h0' hn;rw[<-(hs.ok hn).1] at this;exact this
  ·obtain⟨p,hp,hR⟩:=hs.er hn;rw[hR];have:=h1' hn;rw[hp] at this;exact⟨hn,_,_,this⟩)
 go_enter Tryz.func46,Tryz.ntmps46;rcases J7 with⟨g1,g2,g3⟩|⟨g1,g3⟩|⟨g1,g3,g4⟩
 rotate_right
 rotate_right
 rotate_right
 all_goals(go_wp2_with fail;refine J6.out.mono ?_;rintro e w2 ⟨rfl,n2,rfl⟩;go_wp2_with fail;refine(Hc.out _).mono ?_;rintro e w2 ⟨rfl,n3,rfl⟩;go_wp2_with fail;refine(p8.out _).mono ?_;intro e w3 h3;obtain⟨j,no,wh,hr3,ho3,hrow⟩:=KF.out _ _ _ h3;obtain⟨rfl,_⟩:=h3;have Hro:=qh hrow;clear hrow hr3 ho3;go_wp2_with fail;refine Hro.out.mono ?_;intro e w4 h4;have H4:=qh h4;obtain⟨rfl,_⟩:=h4;go_wp2_with fail;refine q9 (qI rfl _ _ _) rfl ?_;exact H4.out)
theorem zcP (s:ByteArray) (j:Nat):j<=ZK s j:=by unfold ZK;split<;>omega
theorem zcQ {s:ByteArray} {i j:Nat} (hi:i<s.size) (hij:i<=j):i+1<=ZK s j:=by unfold ZK;split<;>omega
theorem zmt {s:ByteArray} {i:Nat} (hi:i<s.size):vG s i=pg s i 10:=by rw[zeu hi,QX hi]
theorem pq.mono {f:Fm} {i j:Nat} (h:pq f i) (hij:i<=j):pq f j:=⟨qm h.le hij,h.l0,h.m0,h.s0,h.lm,⟨h.ll.1,qm h.ll.2 hij⟩,h.it,h.nd,h.lt⟩
theorem pL.set0 {w:World} {B fb:Nat} {f:Fm} {vl vm vs:Value} (h:pL w B fb f vl vm vs) (n:List UInt8):pL (w.setCell ⟨fb,0,none⟩ (.string ⟨n.toArray⟩)) B fb {f with name:=n} vl vm vs:=by
 have hos:Off [fb] w (w.setCell ⟨fb,0,none⟩ (.string ⟨n.toArray⟩)):=Off.setCell w fb 0 _;have hts:pc w [fb] [92]:=pc.one h.x;obtain⟨cs,hm⟩:=h.m;obtain⟨vis,hr,hi⟩:=h.r;exact⟨qs w fb 0 _ _ _ h.x,h.hB,hos.pp h.l hts (by decide),⟨cs,hm.off hos hts (by decide) (by decide) (by decide) (by decide)⟩,⟨vis,hr.off hos hts (by decide),λk hk=>by
  obtain⟨pD,h2⟩:=hi k hk;exact⟨pD,h2.off hos hts (by decide) (by decide)⟩⟩⟩
structure V2 (w W:World) (B rb fb:Nat) (s:ByteArray) (f:Fm) (i:Nat) (vl vm vs:Value):Prop where
 rd:Rd W rb fb s i
 fm:pL W B fb f vl vm vs
 ok:pq f i
 bl:Below B w W
 vars:Vars W
theorem V2.off {w W W':World} {B rb fb:Nat} {s:ByteArray} {f:Fm} {i j:Nat} {vl vm vs:Value} (h:V2 w W B rb fb s f i vl vm vs) (hr:Rd W' rb fb s j) (ho:Off [rb] W W') (hij:i<=j) (h9:9<=B) (hB:B<=rb) (hBw:B<=w.heap.size):V2 w W' B rb fb s f j vl vm vs:=
 ⟨hr,h.fm.pz h.rd ho,h.ok.mono hij,h.bl.trans (ho.keep (qm hBw h.bl.size) hB),Vars.off h.vars ho (by simp;omega)⟩
theorem V2.below {w W W':World} {B rb fb:Nat} {s:ByteArray} {f:Fm} {i:Nat} {vl vm vs:Value} (h:V2 w W B rb fb s f i vl vm vs) (hb:Below W.heap.size W W') (h9:9<=B) (hB:B<=rb) (hBw:B<=w.heap.size):V2 w W' B rb fb s f i vl vm vs:=
 h.off (h.rd.below hb) (Off.of_below hb (ql _) _) (ql _) h9 hB hBw
theorem V2.line {w W W':World} {B rb fb:Nat} {s:ByteArray} {f f':Fm} {i j:Nat} {vl vm vs Y3 VY vs':Value} (h:V2 w W B rb fb s f i vl vm vs) (hb:Below B W W') (hr:Rd W' rb fb s j) (hk:pq f' j) (hm:pL W' B fb f' Y3 VY vs') (h9:9<=B):V2 w W' B rb fb s f' j Y3 VY vs':=
 ⟨hr,hm,hk,h.bl.trans hb,Vars.below h.vars hb h9⟩
def zkd (B rb fb:Nat) (s:ByteArray) (w:World) (r:Except (Int×Nat) Fm) (e:Ending) (w':World):Prop:=Below B w w'/\
 match r with
 |.error (c,p)=>e=vU c p
 |.ok f'=>e=.returned (.tuple #[])/\∃j Y3 VY vs',Rd w' rb fb s j/\pq f' j/\pL w' B fb f' Y3 VY vs'
theorem zg1 {s:ByteArray} {q:Nat} {f:Fm} {t:Bool} {i:Nat} (hi:¬i<s.size):Q8 s (q+1) f t i=if f.rows.isEmpty then .error (180,s.size) else .ok f:=by
 unfold Q8;rw[qy hi]
theorem zix {s:ByteArray} {q:Nat} {f:Fm} {t:Bool} {i:Nat} (h:pg s i 10=true):Q8 s (q+1) f t i=Q8 s q f t (ZK s i):=by
 conv=>lhs;unfold Q8
 rw[qx (by have:=XV h;omega),qy h]
theorem zfu {s:ByteArray} {q:Nat} {f:Fm} {t:Bool} {i:Nat} (h0:pg s i 10=false) (h:pg s i 35=true):Q8 s (q+1) f t i=Q8 s q f t (ZK s (zap s i)):=by
 conv=>lhs;unfold Q8
 rw[qx (by have:=XV h;omega),qx (by rw[h0];simp),qy h]
theorem zfv {s:ByteArray} {q:Nat} {f:Fm} {t:Bool} {i:Nat} (hi:i<s.size) (h0:pg s i 10=false) (h:pg s i 35=false):Q8 s (q+1) f t i=match QZ s f t i with|.error e=>.error e|.ok (f',j)=>Q8 s q f' true (ZK s j):=by
 conv=>lhs;unfold Q8
 rw[qx (by omega),qx (by rw[h0];simp),qx (by rw[h];simp)];rfl
theorem V2.name {w W:World} {B rb fb:Nat} {s:ByteArray} {f:Fm} {i:Nat} {vl vm vs:Value} (h:V2 w W B rb fb s f i vl vm vs) (n:List UInt8) (hB:B<=rb) (h9:9<=B) (hBw:B<=w.heap.size):
  V2 w (W.setCell ⟨fb,0,none⟩ (.string ⟨n.toArray⟩)) B rb fb s {f with name:=n} i vl vm vs/\(∃v,W.cell? ⟨fb,0,none⟩=some v)/\W.frozen? ⟨fb,0,none⟩=false:=by
 have hos:Off [fb] W (W.setCell ⟨fb,0,none⟩ (.string ⟨n.toArray⟩)):=Off.setCell W fb 0 _;have hne:=h.fm.ne h.rd;have hfB:=h.fm.hB;have hbb:Below B W (W.setCell ⟨fb,0,none⟩ (.string ⟨n.toArray⟩)):=hos.below (qm hBw h.bl.size) (λk hk=>by simp at hk;omega);exact⟨h.line hbb (h.rd.off hos (by simp;omega)) ⟨h.ok.le,h.ok.l0,h.ok.m0,h.ok.s0,h.ok.lm,h.ok.ll,h.ok.it,h.ok.nd,h.ok.lt⟩ (h.fm.set0 n) h9,⟨_,h.fm.cells.1⟩,h.fm.z 0⟩
theorem zg2 {s:ByteArray} {f:Fm} {round:Bool}:∀(q:Nat) (l:List It) (i:Nat) {l':List It} {j:Nat},Ka s f round q l i=.ok (l',j)->i<=j
 |0,l,i,l',j,h=>by unfold Ka at h;cases h;exact ql _
 |q+1,l,i,l',j,h=>by
  unfold Ka at h;split at h
  ·cases hm:Kj s f.gN (ZT f round l.length) (i+1) with
   |error e=>rw[hm] at h;cases h
   |ok xk=>
    obtain⟨x,k⟩:=xk;rw[hm] at h;have h1:=zg2 q _ k h;have h2:=zdD hm;omega
  ·cases h;exact ql _
theorem zcZ {s:ByteArray} {f f':Fm} {round:Bool} {start i j:Nat} (h:Kd s f round start i=.ok (f',j)):i<=j:=by
 cases hb:pg s i 32 with
 |false=>unfold Kd at h;rw[qy (by rw[hb];simp)] at h;cases h
 |true=>
  rw[zd5 hb] at h;cases hx:Ka s f round (s.size+1) [] i with
  |error e=>rw[hx] at h;cases h
  |ok lj=>
   obtain⟨l,k⟩:=lj;rw[hx] at h;unfold zbk at h;simp only[] at h;have:=zg2 _ _ _ hx;split at h
   ·cases h
   ·split at h
    ·cases h
    ·cases h;exact this
theorem zcx {s:ByteArray} {least v:Int} {i j:Nat} (h:yL s least i=.ok (v,j)):i<=j:=by
 unfold yL at h;split at h
 ·cases h
 ·split at h
  ·cases h
  ·cases h;by_cases hi:i<=s.size
   ·exact(Vq (s:=s) i i hi).1
   ·have:vc s i i=false:=(by unfold vc;rw[zcF (by omega)];rfl);rw[zaZ this];exact ql _
theorem zg3 {s:ByteArray} {f f':Fm} {i j:Nat} (h:YF s f i=.ok (f',j)):i<=j:=by
 unfold YF at h;cases h1:pF (py s Zt i) with
 |error e=>rw[h1] at h;cases h
 |ok a=>
  rw[h1] at h;simp only[] at h;have l1:=Ji h1;split at h
  ·cases h
  ·split at h
   ·cases h
   ·cases h2:pF (py s [32] (a+1)) with
    |error e=>rw[h2] at h;cases h
    |ok b=>
     rw[h2] at h;simp only[] at h;have l2:=Ji h2;cases h3:Zs ⟨(yM s b (zap s b)).toArray⟩ with
     |error e=>rw[h3] at h;obtain⟨e1,e2⟩:=e;cases h
     |ok m=>
      rw[h3] at h;simp only[zY,kz] at h;have hh:=h.2;by_cases hb:b<=s.size
      ·have:=(zbs (s:=s) b hb).1;omega
      ·have:zap s b=b:=zb8 (zco (by omega));omega
theorem zeQ {s:ByteArray} {f f':Fm} {i j:Nat} (h:XW s f i=.ok (f',j)):i<=j:=by
 unfold XW at h;split at h
 ·cases h
 ·cases h1:pF (py s ROUND i) with
  |error e=>rw[h1] at h;cases h
  |ok a=>
   rw[h1] at h;simp only[] at h;have l1:=Ji h1;cases h2:yL s 0 a with
   |error e=>rw[h2] at h;cases h
   |ok vb=>
    obtain⟨v,b⟩:=vb;rw[h2] at h;simp only[] at h;have l2:=zcx h2;cases h3:pF (py s [32] b) with
    |error e=>rw[h3] at h;cases h
    |ok c=>
     rw[h3] at h;simp only[] at h;have l3:=Ji h3;cases h4:yL s 0 c with
     |error e=>rw[h4] at h;cases h
     |ok vd=>
      obtain⟨v2,d⟩:=vd;rw[h4] at h;simp only[] at h;have l4:=zcx h4;split at h
      ·cases h
      ·cases h5:pF (py s [32] d) with
       |error e=>rw[h5] at h;cases h
       |ok g=>
        rw[h5] at h;simp only[] at h;have l5:=Ji h5;cases h6:yL s 0 g with
        |error e=>rw[h6] at h;cases h
        |ok vh=>
         obtain⟨v3,k⟩:=vh;rw[h6] at h;simp only[] at h;have l6:=zcx h6;cases h7:Kd s {f with least:=v,most:=v2,shift:=v3} true i k with
         |error e=>rw[h7] at h;cases h
         |ok fj=>
          obtain⟨f2,j2⟩:=fj;rw[h7] at h;simp only[zY,kz] at h;have:=zcZ h7;omega
def rK6 (s:ByteArray) (f:Fm) (i:Nat) (least most shift:Int) (h:Nat):Except (Int×Nat) (Fm×Nat):=match Kd s {f with least:=least,most:=most,shift:=shift} true i h with
 |.error e=>.error e
 |.ok (f',j)=>.ok ({f' with rounds:=true},j)
def rK5 (s:ByteArray) (f:Fm) (i:Nat) (least most:Int) (g:Nat):Except (Int×Nat) (Fm×Nat):=match yL s 0 g with
 |.error e=>.error e
 |.ok (shift,h)=>rK6 s f i least most shift h
def rK4 (s:ByteArray) (f:Fm) (i:Nat) (least:Int) (c:Nat) (most:Int) (d:Nat):Except (Int×Nat) (Fm×Nat):=if most<least then .error (2,c) else match pF (py s [32] d) with
 |.error e=>.error e
 |.ok g=>rK5 s f i least most g
def zrw (s:ByteArray) (f:Fm) (i:Nat) (least:Int) (most:Int) (d:Nat):Except (Int×Nat) (Fm×Nat):=match pF (py s [32] d) with
 |.error e=>.error e
 |.ok g=>rK5 s f i least most g
def rK3 (s:ByteArray) (f:Fm) (i:Nat) (least:Int) (c:Nat):Except (Int×Nat) (Fm×Nat):=match yL s 0 c with
 |.error e=>.error e
 |.ok (most,d)=>rK4 s f i least c most d
def rK2 (s:ByteArray) (f:Fm) (i:Nat) (least:Int) (b:Nat):Except (Int×Nat) (Fm×Nat):=match pF (py s [32] b) with
 |.error e=>.error e
 |.ok c=>rK3 s f i least c
def rK1 (s:ByteArray) (f:Fm) (i:Nat) (a:Nat):Except (Int×Nat) (Fm×Nat):=match yL s 0 a with
 |.error e=>.error e
 |.ok (least,b)=>rK2 s f i least b
theorem zf3 {s:ByteArray} {f:Fm} {i:Nat} (h:f.rounds=false):XW s f i=match pF (py s ROUND i) with|.error e=>.error e|.ok a=>rK1 s f i a:=by
 unfold XW;rw[qx (by rw[h];simp)];rfl
theorem Sg.at {w:World} {rb:Nat} {s:ByteArray} {F:RF} {α:Type} {R:Except (Int×Nat) α} {k k':Nat->Except (Int×Nat) α} {j:Nat} {no wh:Int} (h:Sg w rb s F R k j no wh) (e:k j=k' j):Sg w rb s F R k' j no wh:=⟨h.rr,λh0=>by rw[<-e];exact h.ok h0,h.er⟩
theorem Sg.rr' {w w':World} {rb:Nat} {s:ByteArray} {F F':RF} {α:Type} {R:Except (Int×Nat) α} {k:Nat->Except (Int×Nat) α} {j:Nat} {no wh:Int} (h:Sg w rb s F R k j no wh) (hr:RR w' rb s j no wh F'):Sg w' rb s F' R k j no wh:=⟨hr,h.ok,h.er⟩
theorem zhF (B rb:Nat) (s:ByteArray) (f:Fm) (F:RF) (i i0:Nat) (w:World) (h:RR w rb s i 0 0 F) (hf:Qc w B f F) (hk:pq f i0) (hi0:i0<=i) (hi:i<s.size) (hB:B<=w.heap.size) (hBr:B<=rb)
  (h1:pg s i 114=true) (h2:f.rounds=false):
  Calls Tryz.prog 46 #[.pointer (some ⟨rb,0,none⟩),.bool true] w (ZA B rb s w (QZ s f true i)):=by
 have hsz:=h.sz;have r1:=h.c1;have hR0:QZ s f true i=match pF (py s ROUND i) with|.error e=>.error e|.ok a=>rK1 s f i a:=by
  rw[<-zf3 h2];unfold QZ;rw[qx (by simp),qx (by rw[QX hi] at h1|-;simp at h1|-;omega),qy h1]
 generalize QZ s f true i=R at*;have hb0:yQ 0 s i=gZ s i:=by unfold yQ;rw[qy rfl]
 have Hc:=qh (λn=>vZ rb s i 0 0 F (w.drewN n) (h.drewN n));rw[hb0] at Hc;have J6:=qh (Hc.out 0);have p8:=qh (λn=>zbA rb s ⟨#[114,111,117,110,100,32]⟩ i 0 0 F (w.drewN n) (h.drewN n) (λ_=>by omega) (by decide) (by decide));rw[ziR] at p8;have hib:∀c:Int,pg s i c=(((gZ s i).toNat:Int)==c):=λc=>by rw[QX hi,Z3 hi]
 rw[hib] at h1;have f8:w.cell? ⟨rb,8,none⟩=some (.bool false):=by rw[h.form.2.2.2.2.1,hf.rd,h2]
 have g1:(((gZ s i).toNat:Int)==109)=false:=by simp at h1|-;omega
 have Kk:=qh hR0;have H:=qh h;have Hf:=qh hf;have Hk:=qh hk;generalize gZ s i=bi at*;clear h hf hk hR0 hb0 hib h2;have zqT:∀k (hk:k<(⟨#[32]⟩:ByteArray).size),(⟨#[32]⟩:ByteArray)[k]≠0:=by decide
 have zrx:=qh zqT;clear zqT;go_enter Tryz.func46,Tryz.ntmps46;go_wp2_with fail;refine J6.out.mono ?_;rintro e w2 ⟨rfl,n2,rfl⟩;go_wp2_with fail;refine(Hc.out _).mono ?_;rintro e w2 ⟨rfl,n3,rfl⟩;go_wp2_with fail;refine(p8.out _).mono ?_;rintro e w3 ⟨rfl,hst⟩;have hsg:Sg (w.drewN (n2+n3)) rb s F R (λi'=>match pF (py s ROUND i') with|.error e=>.error e|.ok a=>rK1 s f i a) i 0 0:=⟨H.out.drewN _,λ_=>⟨Kk.out,by omega⟩,λe=>absurd rfl e⟩;have ho3:Off [rb] w w3:=(Off.drewN _ w _).trans hst.1;obtain⟨j3,no3,wh3,hs3⟩:=hsg.must hst;have Hs3:=qh hs3;have Ho3:=qh ho3;have Hn3:=qh (zcu rb s j3 no3 wh3 F 0 w3 hs3.rr (by decide) (by decide));have HL3:Hid (no3=0->i+6<=j3):=qh (λh0=>by
  obtain⟨e1,_⟩:=hs3.ok h0;have hm2:=hst.2.1 rfl;cases hm:pF (py s ROUND i) with
  |error ep=>
   obtain⟨c,p⟩:=ep;rw[hm] at hm2;obtain⟨j',_,hr'⟩:=hm2;have h9:=hs3.rr.c2;rw[hr'.c2,h0] at h9;have:=zcw hm;simp at h9;omega
  |ok a=>
   rw[hm] at hm2;have h9:=hs3.rr.c1;rw[hm2.2.c1] at h9;simp at h9;have h8:=Ji hm;have h7:ROUND.length=6:=rfl;omega)
 clear hst hsg ho3 hs3 r1 f8;go_wp2_with fail;refine Hn3.out.mono ?_;intro e w4 h4;have QI:=h4.1;have hnl:=h4;obtain⟨n4,j4,no4,wh4,rfl,a0,a1,a2,hs4⟩:=Sg.num (k:=rK2 s f i) Hs3.out h4;have Zo:Hid (no4=0->i+6<=j4):=qh (λh0=>by
  have h9:=(a2 h0).1;have h8:=HL3.out h9;obtain⟨_,n,_,_,_,h5,_⟩:=hnl;have h6:=h5 h9;cases hp:yL s 0 j3 with
  |error ep=>
   obtain⟨c,p⟩:=ep;rw[hp] at h6;obtain⟨j',hr'⟩:=h6;have h7:=hs4.rr.c2;rw[hr'.c2,h0] at h7;have:=zbI hp;simp at h7;omega
  |ok vb=>
   obtain⟨v,b⟩:=vb;rw[hp] at h6;have h7:=hs4.rr.c1;rw[h6.2.c1] at h7;simp at h7;have:=zcx hp;omega)
 have Ha:=qh (show 0<=n4/\n4<=1000009/\(no4=0->no3=0/\0<=n4/\n4<=512) from⟨a0,a1,a2⟩);have Hs4:=qh hs4;have YX:=qh (Ho3.out.trans QI);have Hm4:=qh (zbA rb s ⟨#[32]⟩ j4 no4 wh4 F w4 hs4.rr (λh0=>(hs4.ok h0).2) (by decide) zrx.out);rw[zhC] at Hm4;clear h4 QI hnl a0 a1 a2 hs4;go_wp2_with fail;refine Hm4.out.mono ?_;rintro e w5 ⟨rfl,hst⟩;have pH:=hst.1;obtain⟨j5,no5,wh5,hs5⟩:=Sg.must (k:=rK3 s f i n4) (t:=[32]) Hs4.out hst;have HE5:Hid (no5=0->no4=0/\j4<=j5):=qh (λh0=>by
  by_cases h4:no4=0
  ·refine⟨h4,?_⟩;have hm2:=hst.2.1 h4;cases hm:pF (py s [32] j4) with
   |error ep=>
    obtain⟨c,p⟩:=ep;rw[hm] at hm2;obtain⟨j',_,hr'⟩:=hm2;have h9:=hs5.rr.c2;rw[hr'.c2,h0] at h9;have:=zcw hm;simp at h9;omega
   |ok a=>
    rw[hm] at hm2;have h9:=hs5.rr.c1;rw[hm2.2.c1] at h9;simp at h9;have h8:=Ji hm;omega
  ·obtain⟨j',_,hr'⟩:=hst.2.2 h4;have h9:=hs5.rr.c2;rw[hr'.c2,h0] at h9;simp at h9;exact absurd h9 h4)
 have Hs5:=qh hs5;have ZW:=qh (YX.out.trans pH);have r5:=hs5.rr.c1;have Hn5:=qh (zcu rb s j5 no5 wh5 F 0 w5 hs5.rr (by decide) (by decide));clear hst pH hs5;go_wp2_with fail;refine Hn5.out.mono ?_;intro e w6 h6;have Ze:=h6.1;have hnl:=h6;obtain⟨n6,j6,no6,wh6,rfl,b0,b1,b2,hs6⟩:=Sg.num (k:=rK4 s f i n4 j5) (Hs5.out.at (k':=λc=>match yL s 0 c with|.error e=>.error e|.ok (most,d)=>rK4 s f i n4 j5 most d) rfl) h6;have Vx:Hid (no6=0->j5<=j6):=qh (λh0=>by
  have h9:=(b2 h0).1;obtain⟨_,n,_,_,_,h5,_⟩:=hnl;have h6:=h5 h9;cases hp:yL s 0 j5 with
  |error ep=>
   obtain⟨c,p⟩:=ep;rw[hp] at h6;obtain⟨j',hr'⟩:=h6;have h7:=hs6.rr.c2;rw[hr'.c2,h0] at h7;have:=zbI hp;simp at h7;omega
  |ok vb=>
   obtain⟨v,b⟩:=vb;rw[hp] at h6;have h7:=hs6.rr.c1;rw[h6.2.c1] at h7;simp at h7;have:=zcx hp;omega)
 have Hb:=qh (show 0<=n6/\n6<=1000009/\(no6=0->no5=0/\0<=n6/\n6<=512) from⟨b0,b1,b2⟩);have Hs6:=qh hs6;have Vv:=qh (ZW.out.trans Ze);clear h6 Ze hnl b0 b1 b2 hs6 r5;go_upto_if 158 with fail
 go_cut [161] from 158 to 161 (λv161 wx=>Hid (∃no wh,Sg wx rb s F R (zrw s f i n4 n6) j6 no wh/\Off [rb] w wx/\(no=0->no6=0/\n4<=n6)))
 case first=>
  by_cases hlt:n6<n4
  ·have d1:decide (n6<n4)=true:=qt hlt;have Hw:=qh (zaO rb s j6 no6 wh6 F 2 (j5:Int) w6 Hs6.out.rr (by decide));go_wp2_with fail;refine Hw.out.mono ?_;rintro e w7 ⟨rfl,KK,QS⟩;have hfin:∃no wh,Sg w7 rb s F R (zrw s f i n4 n6) j6 no wh/\Off [rb] w w7/\(no=0->no6=0/\n4<=n6):=by
    refine⟨_,_,⟨KK,λe=>?_,λ_=>?_⟩,Vv.out.trans QS,λe=>?_⟩
    ·unfold QQ at e;split at e<;>omega
    ·by_cases h0:no6=0
     ·unfold QQ ZV;rw[qy h0,qy h0];refine⟨j5,rfl,?_⟩;have:=(Hs6.out.ok h0).1;unfold rK4 at this;rw[qy hlt] at this;exact this
     ·unfold QQ ZV;rw[qx h0,qx h0];exact Hs6.out.er h0
    ·unfold QQ at e;split at e<;>omega
   have gT:=qh hfin;clear KK QS hfin;go_wp2_with fail;go_meet
   exact gT
  ·have d1:decide (n6<n4)=false:=qd hlt;have gT:Hid (∃no wh,Sg w6 rb s F R (zrw s f i n4 n6) j6 no wh/\Off [rb] w w6/\(no=0->no6=0/\n4<=n6)):=qh ⟨no6,wh6,Hs6.out.at (by unfold rK4 zrw;rw[qx hlt]),Vv.out,λe=>⟨e,by omega⟩⟩;go_wp2_with fail;go_meet
   exact gT
 case rest=>
  obtain⟨no7,wh7,hs7,QS,he7⟩:=hcut.out;obtain⟨W7,hW7⟩:∃W7:World,W7=wc:=⟨_,rfl⟩;subst hW7;have Hs7:=qh hs7;have Ho7:=qh QS;have He7:=qh he7;have Hm7:=qh (zbA rb s ⟨#[32]⟩ j6 no7 wh7 F W7 hs7.rr (λh0=>(hs7.ok h0).2) (by decide) zrx.out);rw[zhC] at Hm7;clear hcut hs7 QS he7;go_wp2_with fail;refine Hm7.out.mono ?_;rintro e w8 ⟨rfl,hst⟩;have Je:=hst.1;obtain⟨j8,no8,wh8,hs8⟩:=Sg.must (k:=rK5 s f i n4 n6) (t:=[32]) Hs7.out hst;have HE8:Hid (no8=0->no7=0/\j6<=j8):=qh (λh0=>by
   by_cases h4:no7=0
   ·refine⟨h4,?_⟩;have hm2:=hst.2.1 h4;cases hm:pF (py s [32] j6) with
    |error ep=>
     obtain⟨c,p⟩:=ep;rw[hm] at hm2;obtain⟨j',_,hr'⟩:=hm2;have h9:=hs8.rr.c2;rw[hr'.c2,h0] at h9;have:=zcw hm;simp at h9;omega
    |ok a=>
     rw[hm] at hm2;have h9:=hs8.rr.c1;rw[hm2.2.c1] at h9;simp at h9;have h8:=Ji hm;omega
   ·obtain⟨j',_,hr'⟩:=hst.2.2 h4;have h9:=hs8.rr.c2;rw[hr'.c2,h0] at h9;simp at h9;exact absurd h9 h4)
  have Hs8:=qh hs8;have Ho8:=qh (Ho7.out.trans Je);have Hn8:=qh (zcu rb s j8 no8 wh8 F 0 w8 hs8.rr (by decide) (by decide));clear hst Je hs8;go_wp2_with fail;refine Hn8.out.mono ?_;intro e w9 h9;have Jg:=h9.1;have hnl:=h9;obtain⟨n9,j9,no9,wh9,rfl,c0,c1,c2,hs9⟩:=Sg.num (k:=rK6 s f i n4 n6) Hs8.out h9;have HJ9:Hid (no9=0->j8<=j9):=qh (λh0=>by
   have h9:=(c2 h0).1;obtain⟨_,n,_,_,_,h5,_⟩:=hnl;have h6:=h5 h9;cases hp:yL s 0 j8 with
   |error ep=>
    obtain⟨c,p⟩:=ep;rw[hp] at h6;obtain⟨j',hr'⟩:=h6;have h7:=hs9.rr.c2;rw[hr'.c2,h0] at h7;have:=zbI hp;simp at h7;omega
   |ok vb=>
    obtain⟨v,b⟩:=vb;rw[hp] at h6;have h7:=hs9.rr.c1;rw[h6.2.c1] at h7;simp at h7;have:=zcx hp;omega)
  have Hcc:=qh (show 0<=n9/\n9<=1000009/\(no9=0->no8=0/\0<=n9/\n9<=512) from⟨c0,c1,c2⟩);have Ho9:=qh (Ho8.out.trans Jg);have Hs9:=qh hs9;obtain⟨_,_,_,_,_,t9,t10,t11⟩:=hs9.rr.form;have z9:=hs9.rr.z 9;have z10:=hs9.rr.z 10;have z11:=hs9.rr.z 11;clear h9 Jg hnl c0 c1 c2 hs9;have Y6:=((Hs9.out.rr.set9 n4).ztv n6).ztw n9;have zry:Off [rb] w (((w9.setCell ⟨rb,9,none⟩ (.int .i64 n4)).setCell ⟨rb,10,none⟩ (.int .i64 n6)).setCell ⟨rb,11,none⟩ (.int .i64 n9)):=((Ho9.out.trans (Off.setCell w9 rb 9 _)).trans (Off.setCell _ rb 10 _)).trans (Off.setCell _ rb 11 _);have Yk:=Hs9.out.rr' Y6;have zqS:Qc (((w9.setCell ⟨rb,9,none⟩ (.int .i64 n4)).setCell ⟨rb,10,none⟩ (.int .i64 n6)).setCell ⟨rb,11,none⟩ (.int .i64 n9)) B {f with least:=n4,most:=n6,shift:=n9} {F with a:=n4,b:=n6,c:=n9}:=by
   have h':=Hf.out.pz H.out zry;exact⟨h'.nm,h'.l,h'.m,h'.r,h'.rd,rfl,rfl,rfl⟩
  have KF:=qh (ziw B rb s {f with least:=n4,most:=n6,shift:=n9} {F with a:=n4,b:=n6,c:=n9} true i j9 i0 no9 wh9 _ Y6 (by
    obtain⟨vis,hr⟩:=zqS.r;have:=Hk.out.le;exact⟨f.rows,vis,hr,by omega,by omega⟩) Ha.out.1 Ha.out.2.1 (qm hB zry.size) hBr (λh0=>by
    have h8:=(Hcc.out.2.2 h0).1;have h7:=HE8.out h8;have h6:=He7.out h7.1;have h5:=(Hb.out.2.2 h6.1);have h4:=HE5.out h5.1;have h3:=Ha.out.2.2 h4.1;refine⟨(Y6.ok h0).2,zqS,Hk.out.set (ql _) h3.2 h5.2 (Hcc.out.2.2 h0).2 h6.2,?_,(Yk.ok h0).2⟩;have:=Zo.out h4.1;have:=Vx.out h6.1;have:=HJ9.out h0;omega))
  have Hs10:=qh Yk;have Ho10:=qh zry;clear Y6 zry Yk zqS;go_wp2_with fail;refine KF.out.mono ?_;rintro e K9 ⟨rfl,QF,h0,h1'⟩;have hbw:Below B w K9:=(Ho10.out.below hB (λk hk=>by simp at hk;omega)).trans QF;have hX:∃(R2:Except (Int×Nat) (Fm×Nat)) (j:Nat) (no wh:Int) (F2:RF),RR K9 rb s j no wh F2/\(match R2 with|.ok (f2,j2)=>no=0/\wh=0/\j=j2/\j2<=s.size/\Qc K9 B f2 F2/\R=.ok ({f2 with rounds:=true},j2)|.error (c,p)=>no=c/\wh=p/\c≠0/\R=.error (c,p)):=by
   by_cases hn:no9=0
   ·have h2:=h0 hn;have h3:=(Hs10.out.ok hn).1;unfold rK6 at h3;cases hst:Kd s {f with least:=n4,most:=n6,shift:=n9} true i j9 with
    |error ep=>
     obtain⟨c,p⟩:=ep;rw[hst] at h2 h3;obtain⟨hc,j,F',hr⟩:=h2;exact⟨.error (c,p),j,_,_,F',hr,rfl,rfl,hc,h3⟩
    |ok fj=>
     obtain⟨f2,j2⟩:=fj;rw[hst] at h2 h3;obtain⟨hj,F',hr,hfm⟩:=h2;exact⟨.ok (f2,j2),j2,0,0,F',hr,rfl,rfl,rfl,hj,hfm,h3⟩
   ·obtain⟨p,hp,hR⟩:=Hs10.out.er hn;exact⟨.error (no9,p),_,_,_,_,h1' hn,rfl,hp,hn,hR⟩
  obtain⟨R2,j,no,wh,F2,Jo,zsG⟩:=hX;have z8:=Jo.z 8;have f8:=Jo.form.2.2.2.2.1;have gT:Hid (ZA B rb s w R (.returned (.tuple #[])) (K9.setCell ⟨rb,8,none⟩ (.bool true))):=qh (by
   have KJ:Below B w (K9.setCell ⟨rb,8,none⟩ (.bool true)):=hbw.trans ((Off.setCell K9 rb 8 (.bool true)).below (qm hB hbw.size) (λk hk=>by simp at hk;omega));cases R2 with
   |error ep=>
    obtain⟨c,p⟩:=ep;obtain⟨rfl,rfl,hc,hR⟩:=zsG;rw[hR];exact ZA.err KJ hc (Jo.zrv true)
   |ok fj=>
    obtain⟨f2,j2⟩:=fj;obtain⟨rfl,rfl,rfl,hj,hfm,hR⟩:=zsG;rw[hR];exact⟨rfl,KJ,hj,_,Jo.zrv true,hfm.zrv Jo true⟩)
  clear hbw Jo zsG h0 h1' QF;go_wp2_with fail;refine zt (qI rfl _ _ _) rfl ?_;exact gT.out
end Go.Proofs.YtgklikkddckgbaaGreatDoor.Mo
namespace Go.Proofs.YtgklikkddckgbaaGreatDoor
open Go.RowKit Go.Shelf Go.Lib
attribute [local go_sem] jd
def Y7:Array Value:=((List.range 14).flatMap λj=>[vT (pu j).1,vT (pu j).2.1,vT (pu j).2.2]).toArray
theorem zg4 (w:World):
  Calls Tryz.prog 111 #[] w λe w'=>e=.returned (.slice (some ⟨w.heap.size,0,none⟩) 14 14)/\w'=w.alloc (.cells Y7 173):=by
 go_enter Tryz.func111,Tryz.ntmps111;have e:∀(c:Array Value),c=Y7->w.alloc (.cells c 173)=w.alloc (.cells Y7 173):=λc h=>by rw[h]
 have He:=qh e;clear e;go_wp2_with fail;go_ret;exact⟨rfl,He.out _ (by kernel_rfl)⟩
end Go.Proofs.YtgklikkddckgbaaGreatDoor
namespace Go.Proofs.YtgklikkddckgbaaGreatDoor
open Go.RowKit
theorem ziT {s:ByteArray} {i:Nat} (h:i<s.size) (h2:((s[i].toNat:Int)==32)=true):toks s i=toks s (i+1):=by
 have e:=zc5 h h2;by_cases h3:pX s i<s.size
 ·rw[zc8 (p:=i) h3 (by omega),zc8 (p:=i+1) (by rw[<-e];exact h3) (by omega),e]
 ·rw[zcm h3,zcm (by rw[<-e];exact h3)]
theorem zke {s:ByteArray} {i:Nat} (h:i<s.size) (h2:((s[i].toNat:Int)==32)=false):toks s i=(i,s.extract i (ZE s i))::toks s (ZE s i):=by
 have e:=zdJ h h2;rw[zc8 (by rw[e];exact h) (by omega),e]
theorem zkf (s:ByteArray):toks s s.size=[(s.size,⟨#[]⟩)]:=zcm (by have:=zch (s:=s) s.size (ql _);omega)
def Yu (l:List Tok):List Value:=l.flatMap λv=>[.int .i64 v.1,.string v.2]
theorem zdH (l:List Tok) (x:Tok):Yu (l++[x])=Yu l++[.int .i64 x.1,.string x.2]:=by simp[Yu]
theorem zcR:∀(l:List Tok) (k:Nat),k<l.length->(Yu l)[k*2]?=some (.int .i64 (l.getD k zkC).1)/\(Yu l)[k*2+1]?=some (.string (l.getD k zkC).2)
 |[],k,h=>by simp at h
 |x::l,0,h=>by simp[Yu]
 |x::l,k+1,h=>by
  have ih:=zcR l k (by simpa using h);have e1:(k+1)*2=k*2+1+1:=by omega
  rw[e1];simpa [Yu] using ih
theorem zdb:Tryz.prog.info? 187=some Tryz.t187:=by kernel_rfl
theorem zdc:Tryz.t187.zero=some (.agg #[.int .i64 0,.string ⟨#[]⟩]):=by kernel_rfl
theorem zdd:Tryz.t187.size=2:=by kernel_rfl
theorem zcy:Tryz.t187.bytes=24:=by kernel_rfl
theorem zmu {w:World} {B e z n:Nat} {v:Value} {x:List Value} (h:w.ownsRow B e z v n x):∃A c,v=.slice A n c:=by
 rcases h.2 with⟨rfl,h0⟩|⟨g,cap,cur,rfl,_⟩
 ·exact⟨none,0,by rw[h0]⟩
 ·exact⟨_,cap,rfl⟩
structure Xa (w:World) (s:ByteArray) (i:Nat) (l:List Tok) (v:Value) (wr:World):Prop where
 hi:i<=s.size
 hl:l++toks s i=toks s 0
 hn:l.length<=i
 own:wr.ownsRow w.heap.size 187 2 v l.length (Yu l)
 below:Below w.heap.size w wr
theorem Xa.word {w wr:World} {s:ByteArray} {i k:Nat} {l:List Tok} {v:Value} (h:Xa w s i l v wr) (hlt:i<s.size) (htw:toks s i=(i,s.extract i (ZE s i))::toks s (ZE s i)) (hk:k=ZE s i):
  ∀(v':Value) (w1:World),w1.ownsRow w.heap.size 187 2 v' (l.length+1) (Yu l++[.int .i64 i,.string (s.extract i k)])->wr.grownBy w1 v.ownBlock->Xa w s k (l++[(i,s.extract i k)]) v' w1:=by
 intro v' w1 ho hg;subst hk;have h1:=zcU (s:=s) i (by omega);have h2:=zed (s:=s) i hlt;refine⟨h1.2,?_,by have:=h.hn;simp;omega,by rw[zdH];simpa using ho,h.below.grown hg h.below.size (λq hq=>(h.own.lt q hq).1)⟩;rw[<-h.hl,htw,qP];rfl
theorem ziU (s:ByteArray) (w:World) (hs:s.size<=65536):
  Calls Tryz.prog 100 #[.string s] w λe w'=>∃g cap,e=.returned (.slice (some ⟨g,0,none⟩) (toks s 0).length cap)/\w'.ownsRow w.heap.size 187 2 (.slice (some ⟨g,0,none⟩) (toks s 0).length cap) (toks s 0).length (Yu (toks s 0))/\Below w.heap.size w w':=by
 go_enter Tryz.func100,Tryz.ntmps100;go_wp2_with fail;go_loopw [3,4] (λv q wr=>∃(i:Nat) (l:List Tok),q=.int .i64 i/\Hid (Xa w s i l v wr)) (λ_ q _=>s.size-(intOf q).toNat)
 case atStart=>exact⟨0,[],rfl,qh ⟨by omega,rfl,by simp,⟨rfl,.inl ⟨rfl,rfl⟩⟩,qb _ _⟩⟩
 case round=>
  rename_i wr;obtain⟨i,l,rfl,hr⟩:=hrel;obtain⟨A,cc,hv⟩:=zmu hr.out.own;subst hv;have hi:=hr.out.hi;have hn:=hr.out.hn;have hbs:=hr.out.below.size;by_cases hlt:i<s.size
  ·cases h32:((s[i].toNat:Int)==32) with
   |true=>
    have Hr:Hid (Xa w s (i+1) l (.slice A l.length cc) wr):=qh ⟨by omega,by rw[<-ziT hlt h32];exact hr.out.hl,by omega,hr.out.own,hr.out.below⟩;go_wp2_with fail;go_roundw
    case rel=>exact⟨i+1,l,by go_num,Hr⟩
    case measure=>simp[intOf];omega
   |false=>
    have Htw:=qh (zke hlt h32);have hse:=zcU (s:=s) i (by omega);have hsl:=zed (s:=s) i hlt;go_wp2_with fail;go_loop [5] (λq=>∃k:Nat,q=.int .i64 k/\i<k/\k<=s.size/\(zdj s[i]=true->k=i+1)/\(zdj s[i]=false->ZE s i=VE s k)) (λq=>s.size-(intOf q).toNat)
    case atStart=>exact⟨i+1,by go_num,by omega,by omega,λ_=>rfl,λh=>zcT hlt h⟩
    case round=>
     obtain⟨k,rfl,hik,hks,hm1,hm2⟩:=hrel;have hmd:zdj s[i]=((((s[i].toNat:Int)==44))||((s[i].toNat:Int)==59)):=rfl;have Hap:=qh λ(hk:k=ZE s i)=>hr.out.word hlt Htw.out hk;have pv:=qh hr.out.own;have hl65:l.length<=65536:=(by omega);cases hmk:zdj s[i] with
     |true=>
      have hki:=hm1 hmk;have hk:k=ZE s i:=(by rw[hki,zb2 hlt hmk]);have gT:=qh (Hap.out hk);have hcase:((s[i].toNat:Int)==44)=true∨(((s[i].toNat:Int)==44)=false/\((s[i].toNat:Int)==59)=true):=by
       rw[hmk] at hmd;cases h44:((s[i].toNat:Int)==44) with
       |true=>exact .inl rfl
       |false=>rw[h44,zg] at hmd;exact .inr ⟨rfl,hmd.symm⟩
      clear hm1 hm2 hmd hmk hki Hap hk;rcases hcase with h44|⟨h44,h59⟩
      rotate_right;have h44':((s[i].toNat:Int) !=44)=true:=(by simp only[bne,h44];rfl);have h59':((s[i].toNat:Int) !=59)=false:=(by simp only[bne,h59];rfl)
      rotate_right;have h44':((s[i].toNat:Int) !=44)=false:=(by simp only[bne,h44];rfl)
      all_goals
       go_wp2_with (at_builtin;go_loud (refine VL wr rfl _ _ 164 rfl w.heap.size 187 _ _ 2 24 jD zdb zdc zdd zcy rfl (by decide) (.slice A l.length cc) l.length (Yu l) _ _ rfl rfl ?c0 (by exact pv.out) rfl ?c1 ?c2 ?c3 ?c4 ?_;rotate_right;intro v1 w4 hown1 hg1 pR;obtain⟨g1,Qn,rfl⟩:=Zv hown1 (by omega);have Hf:=qh (gT.out _ _ hown1 hg1);clear hown1 hg1 pR))
       case c0=>rfl
       case c1=>exact⟨rfl,rfl⟩
       case c2=>unfold maxLen;omega
       case c3=>omega
       go_roundw
       case rel=>exact⟨k,_,rfl,by simpa using Hf⟩
       case measure=>simp[intOf];omega
     |false=>
      have hw:=hm2 hmk;have hcase:((s[i].toNat:Int)==44)=false/\((s[i].toNat:Int)==59)=false:=by
       rw[hmk] at hmd;cases h44:((s[i].toNat:Int)==44) with
       |true=>rw[h44,zr] at hmd;cases hmd
       |false=>rw[h44,zg] at hmd;exact⟨rfl,hmd.symm⟩
      obtain⟨h44,h59⟩:=hcase;have h44':((s[i].toNat:Int) !=44)=true:=(by simp only[bne,h44];rfl);have h59':((s[i].toNat:Int) !=59)=true:=(by simp only[bne,h59];rfl);by_cases zsH:k<s.size
      ·have hst:zdi s[k]=((((s[k].toNat:Int)==32)||((s[k].toNat:Int)==44))||((s[k].toNat:Int)==59)):=rfl;cases hsc:zdi s[k] with
       |true=>
        have gT:=qh (Hap.out (by rw[hw,zdK zsH hsc]));have hcase:((s[k].toNat:Int)==32)=true∨(((s[k].toNat:Int)==32)=false/\((s[k].toNat:Int)==44)=true)∨(((s[k].toNat:Int)==32)=false/\((s[k].toNat:Int)==44)=false/\((s[k].toNat:Int)==59)=true):=by
         rw[hsc] at hst;cases a1:((s[k].toNat:Int)==32) with
         |true=>exact .inl rfl
         |false=>
          cases a2:((s[k].toNat:Int)==44) with
          |true=>exact .inr (.inl ⟨rfl,rfl⟩)
          |false=>rw[a1,a2] at hst;exact .inr (.inr ⟨rfl,rfl,by simpa using hst.symm⟩)
        clear hm1 hm2 hmd hmk Hap hst hsc hw;rcases hcase with h1|⟨h1,h2⟩|⟨h1,h2,h3⟩
        rotate_right;have h1':((s[k].toNat:Int) !=32)=true:=(by simp only[bne,h1];rfl);have h2':((s[k].toNat:Int) !=44)=true:=(by simp only[bne,h2];rfl);have h3':((s[k].toNat:Int) !=59)=false:=(by simp only[bne,h3];rfl)
        rotate_right;have h1':((s[k].toNat:Int) !=32)=true:=(by simp only[bne,h1];rfl);have h2':((s[k].toNat:Int) !=44)=false:=(by simp only[bne,h2];rfl)
        rotate_right;have h1':((s[k].toNat:Int) !=32)=false:=(by simp only[bne,h1];rfl)
        all_goals
         go_wp2_with (at_builtin;go_loud (refine VL wr rfl _ _ 164 rfl w.heap.size 187 _ _ 2 24 jD zdb zdc zdd zcy rfl (by decide) (.slice A l.length cc) l.length (Yu l) _ _ rfl rfl ?c0 (by exact pv.out) rfl ?c1 ?c2 ?c3 ?c4 ?_;rotate_right;intro v1 w4 hown1 hg1 pR;obtain⟨g1,Qn,rfl⟩:=Zv hown1 (by omega);have Hf:=qh (gT.out _ _ hown1 hg1);clear hown1 hg1 pR))
         case c0=>rfl
         case c1=>exact⟨rfl,rfl⟩
         case c2=>unfold maxLen;omega
         case c3=>omega
         go_roundw
         case rel=>exact⟨k,_,rfl,by simpa using Hf⟩
         case measure=>simp[intOf];omega
       |false=>
        have Hgo:=qh (hw.trans (zec zsH hsc));have hcase:((s[k].toNat:Int)==32)=false/\((s[k].toNat:Int)==44)=false/\((s[k].toNat:Int)==59)=false:=by
         rw[hsc] at hst;have:=hst.symm;simp only[zM] at this;exact⟨this.1.1,this.1.2,this.2⟩
        obtain⟨h1,h2,h3⟩:=hcase;have h1':((s[k].toNat:Int) !=32)=true:=(by simp only[bne,h1];rfl);have h2':((s[k].toNat:Int) !=44)=true:=(by simp only[bne,h2];rfl);have h3':((s[k].toNat:Int) !=59)=true:=(by simp only[bne,h3];rfl);have VM:=qh hmk;clear hm1 hm2 hmd hmk Hap hst hsc hw;go_wp2_with fail;go_round
        case rel=>exact⟨k+1,by go_num,by omega,by omega,λh=>(by first|(cases h;done)|(rw[VM.out] at h;cases h)),λ_=>Hgo.out⟩
        case measure=>simp[intOf];omega
      ·have hkk:k=s.size:=(by omega);have gT:=qh (Hap.out (by rw[hw,hkk,zeq (by omega)]));have hnk:decide (k<s.size)=false:=(by simpa using zsH);clear hm1 hm2 hmd hmk Hap hw hkk;go_wp2_with (at_builtin;go_loud (refine VL wr rfl _ _ 164 rfl w.heap.size 187 _ _ 2 24 jD zdb zdc zdd zcy rfl (by decide) (.slice A l.length cc) l.length (Yu l) _ _ rfl rfl ?c0 (by exact pv.out) rfl ?c1 ?c2 ?c3 ?c4 ?_;rotate_right;intro v1 w4 hown1 hg1 pR;obtain⟨g1,Qn,rfl⟩:=Zv hown1 (by omega);have Hf:=qh (gT.out _ _ hown1 hg1);clear hown1 hg1 pR))
       case c0=>rfl
       case c1=>exact⟨rfl,rfl⟩
       case c2=>unfold maxLen;omega
       case c3=>omega
       go_roundw
       case rel=>exact⟨k,_,rfl,by simpa using Hf⟩
       case measure=>simp[intOf];omega
  ·obtain rfl:i=s.size:=by omega
   have gT:Hid (∀(v':Value) (w1:World),w1.ownsRow w.heap.size 187 2 v' (l.length+1) (Yu l++[.int .i64 s.size,.string ⟨#[]⟩])->wr.grownBy w1 (Value.slice A l.length cc).ownBlock->
     w1.ownsRow w.heap.size 187 2 v' (toks s 0).length (Yu (toks s 0))/\(toks s 0).length=l.length+1/\Below w.heap.size w w1):=qh (λv' w1 ho hg=>by
    have e:toks s 0=l++[(s.size,⟨#[]⟩)]:=(by rw[<-hr.out.hl,zkf]);refine⟨by rw[e,zdH];simpa using ho,by rw[e];simp,hr.out.below.grown hg hr.out.below.size (λq hq=>(hr.out.own.lt q hq).1)⟩)
   have pv:=qh hr.out.own;have hl65:l.length<=65536:=(by omega);clear hlt;go_wp2_with (at_builtin;go_loud (refine VL wr rfl _ _ 164 rfl w.heap.size 187 _ _ 2 24 jD zdb zdc zdd zcy rfl (by decide) (.slice A l.length cc) l.length (Yu l) _ _ rfl rfl ?c0 (by exact pv.out) rfl ?c1 ?c2 ?c3 ?c4 ?_;rotate_right;intro v1 w4 hown1 hg1 pR;obtain⟨g1,Qn,rfl⟩:=Zv hown1 (by omega);have Hf:=qh (gT.out _ _ hown1 hg1);clear hown1 hg1 pR))
   case c0=>rfl
   case c1=>exact⟨rfl,rfl⟩
   case c2=>unfold maxLen;omega
   case c3=>omega
   go_ret;refine⟨g1,Qn,?_,?_,Hf.out.2.2⟩
   ·rw[Hf.out.2.1];rfl
   ·have h:=Hf.out.1;rw[<-Hf.out.2.1] at h;exact h
def Q5 (w:World) (b:Nat) (lv vf ve vb:Value) (ec ep:Int):Prop:=w.heap[b]?=some (.cells #[lv,vf,ve,vb,.int .i64 ec,.int .i64 ep] 167 (0,0))
section
variable {w:World} {b:Nat} {lv vf ve vb:Value} {ec ep:Int}
theorem Q5.c0 (h:Q5 w b lv vf ve vb ec ep):w.cell? ⟨b,0,none⟩=some lv:=qc w b 0 _ 167 (0,0) h
theorem Q5.c1 (h:Q5 w b lv vf ve vb ec ep):w.cell? ⟨b,1,none⟩=some vf:=qc w b 1 _ 167 (0,0) h
theorem Q5.c2 (h:Q5 w b lv vf ve vb ec ep):w.cell? ⟨b,2,none⟩=some ve:=qc w b 2 _ 167 (0,0) h
theorem Q5.c3 (h:Q5 w b lv vf ve vb ec ep):w.cell? ⟨b,3,none⟩=some vb:=qc w b 3 _ 167 (0,0) h
theorem Q5.c4 (h:Q5 w b lv vf ve vb ec ep):w.cell? ⟨b,4,none⟩=some (.int .i64 ec):=qc w b 4 _ 167 (0,0) h
theorem Q5.c5 (h:Q5 w b lv vf ve vb ec ep):w.cell? ⟨b,5,none⟩=some (.int .i64 ep):=qc w b 5 _ 167 (0,0) h
theorem Q5.z (h:Q5 w b lv vf ve vb ec ep) (j:Nat):w.frozen? ⟨b,j,none⟩=false:=qf w b j _ 167 h
theorem Q5.put0 (h:Q5 w b lv vf ve vb ec ep) (v:Value):Q5 (w.setCell ⟨b,0,none⟩ v) b v vf ve vb ec ep:=qs w b 0 _ 167 v h
theorem Q5.put1 (h:Q5 w b lv vf ve vb ec ep) (v:Value):Q5 (w.setCell ⟨b,1,none⟩ v) b lv v ve vb ec ep:=qs w b 1 _ 167 v h
theorem Q5.put2 (h:Q5 w b lv vf ve vb ec ep) (v:Value):Q5 (w.setCell ⟨b,2,none⟩ v) b lv vf v vb ec ep:=qs w b 2 _ 167 v h
theorem Q5.zsb (h:Q5 w b lv vf ve vb ec ep) (v:Value):Q5 (w.setCell ⟨b,3,none⟩ v) b lv vf ve v ec ep:=qs w b 3 _ 167 v h
theorem Q5.zsc (h:Q5 w b lv vf ve vb ec ep) (v:Int):Q5 (w.setCell ⟨b,4,none⟩ (.int .i64 v)) b lv vf ve vb v ep:=qs w b 4 _ 167 _ h
theorem Q5.zsd (h:Q5 w b lv vf ve vb ec ep) (v:Int):Q5 (w.setCell ⟨b,5,none⟩ (.int .i64 v)) b lv vf ve vb ec v:=qs w b 5 _ 167 _ h
end
structure RR (w:World) (base b:Nat) (lv:Value) (m:Met) (ec ep:Int) (vf ve vb:Value) (vs:List Value):Prop where
 rb:Q5 w b lv vf ve vb ec ep
 hb:base<=b
 vl:vs.length=m.gO.length
 gO:w.ownsRow base 81 2 vf m.gO.length (Zn m.gO vs)
 gR:∀k,k<m.gO.length->w.ownsRow base 83 2 (vs.getD k yK) (m.gO.getD k default).gR.length (Qu (m.gO.getD k default).gR)
 ends:w.ownsRow base 83 2 ve m.ends.length (Qu m.ends)
 gS:w.ownsRow base 85 2 vb m.gS.length (JC m.gS)
 apart:Apart (ve::vs)
variable {w w1 w':World} {base b:Nat} {lv lv':Value} {m:Met} {ec ep KM KN:Int} {vf ve vb:Value} {vs:List Value}
theorem RR.bl (h:RR w base b lv m ec ep vf ve vb vs):b<w.heap.size:=(qg h.rb).1
theorem RR.bs (h:RR w base b lv m ec ep vf ve vb vs):base<=w.heap.size:=by have:=h.bl;have:=h.hb;omega
theorem RR.only (h:RR w base b lv m ec ep vf ve vb vs) {row:Option Nat} (hg:w.grownBy w' row) (h0:row≠some b) (h1:vf.ownBlock=none∨vf.ownBlock≠row) (h2:ve.ownBlock=none∨ve.ownBlock≠row) (h3:vb.ownBlock=none∨vb.ownBlock≠row)
  (h4:∀k,k<m.gO.length->(vs.getD k yK).ownBlock=none∨(vs.getD k yK).ownBlock≠row):RR w' base b lv m ec ep vf ve vb vs:=
 ⟨(hg.block b h.bl (λe=>h0 e.symm)).trans h.rb,h.hb,h.vl,h.gO.kept hg h1,λk hk=>(h.gR k hk).kept hg (h4 k hk),h.ends.kept hg h2,h.gS.kept hg h3,h.apart⟩
theorem RR.below (h:RR w base b lv m ec ep vf ve vb vs) (hb:Below w.heap.size w w'):RR w' base b lv m ec ep vf ve vb vs:=
 h.only (Zq hb none) (by simp) ZH ZH ZH (λ_ _=>ZH)
theorem RR.blocks (h:RR w base b lv m ec ep vf ve vb vs):∀k b,k<(ve::vs).length->((ve::vs).getD k yK).ownBlock=some b->b<w.heap.size:=by
 intro k b hk hb;match k,hk,hb with
 |0,_,hb=>exact(h.ends.lt b (by simpa using hb)).2
 |k+1,hk,hb=>
  rw[za7] at hb;exact((h.gR k (by have:=h.vl;simp at hk;omega)).lt b hb).2
theorem RR.way (h:RR w base b lv m ec ep vf ve vb vs) {j g cap:Nat} (hj:j<m.gO.length) (KE:vf=.slice (some ⟨g,0,none⟩) m.gO.length cap) (x:Way) {v':Value}
  (ho:w1.ownsRow base 83 2 v' ((m.gO.getD j default).gR.length+1) (Qu (m.gO.getD j default).gR++[.string x.1,.int .i64 x.2])) (hg:w.grownBy w1 (vs.getD j yK).ownBlock)
  (hat:v'.ownBlock=(vs.getD j yK).ownBlock∨∃N,v'.ownBlock=some N/\w.heap.size<=N):
  RR (w1.setCell ⟨g,j*2+1,none⟩ v') base b lv (m.QE j ⟨(m.gO.getD j default).own,(m.gO.getD j default).gR++[x]⟩) ec ep vf ve vb (vs.set j v'):=by
 have hvl:=h.vl;have hjs:j+1<(ve::vs).length:=by simp;omega
 have JX:∀k,k<(ve::vs).length->k≠j+1->((ve::vs).getD k yK).ownBlock=none∨((ve::vs).getD k yK).ownBlock≠(vs.getD j yK).ownBlock:=λk hk hne=>by
  cases hv:((ve::vs).getD k yK).ownBlock with
  |none=>exact .inl rfl
  |some q=>
   right;intro e;exact h.apart k (j+1) q hk hjs hne hv (by rw[za7];exact e.symm)
 have zsa:(vs.getD j yK).ownBlock≠some b:=by
  rcases pI (h.gR j hj) h.rb (by decide) with e|e
  ·rw[e];simp
  ·exact e
 have f1:=h.gO.kept hg (Zu h.gO (h.gR j hj) (by decide));have e1:w1.ownsRow base 83 2 ve m.ends.length (Qu m.ends):=h.ends.kept hg (by simpa using JX 0 (by simp) (by omega));have k1:=h.gS.kept hg (Zu h.gS (h.gR j hj) (by decide));have r1:Q5 w1 b lv vf ve vb ec ep:=(hg.block b h.bl (λe=>zsa e.symm)).trans h.rb;have o1:∀k,k<m.gO.length->k≠j->w1.ownsRow base 83 2 (vs.getD k yK) (m.gO.getD k default).gR.length (Qu (m.gO.getD k default).gR):=λk hk hne=>
  (h.gR k hk).kept hg (by have:=JX (k+1) (by simp;omega) (by omega);rwa [za7] at this)
 obtain⟨f2,g2⟩:=(KE▸f1).stored (j*2+1) v';have hgf:vf.ownBlock=some g:=by rw[KE];rfl
 have gne:∀{B e z n:Nat} {v:Value} {x:List Value},w1.ownsRow B e z v n x->e≠81->v.ownBlock=none∨v.ownBlock≠some g:=λhh hne=>by
  have:=Zu hh f1 hne;rwa [hgf] at this
 have hbg:b≠g:=by
  rintro rfl;rcases pI f1 r1 (by decide) with e|e
  ·rw[hgf] at e;cases e
  ·exact e hgf
 refine⟨?_,h.hb,by simp[Met.QE,hvl],?_,?_,e1.kept g2 (gne e1 (by decide)),k1.kept g2 (gne k1 (by decide)),?_⟩
 ·exact(g2.block b (qg r1).1 (by simpa using hbg)).trans r1
 ·have:(m.QE j ⟨(m.gO.getD j default).own,(m.gO.getD j default).gR++[x]⟩).gO.length=m.gO.length:=by simp[Met.QE]
  rw[this,KE];have hfs:=zc9 m.gO vs j v' ⟨(m.gO.getD j default).own,(m.gO.getD j default).gR++[x]⟩ hvl hj rfl;show World.ownsRow _ base 81 2 _ _ (Zn (m.gO.set j ⟨(m.gO.getD j default).own,(m.gO.getD j default).gR++[x]⟩) (vs.set j v'));rw[hfs];exact f2
 ·intro k hk;have hk':k<m.gO.length:=by simpa [Met.QE] using hk
  unfold Met.QE;simp only[];rw[zbX vs j k v' yK (by omega),zbX m.gO j k _ default hk'];by_cases e:j=k
  ·subst e;rw[qy rfl,qy rfl];simp only[qv,qB,qG,zbH];exact ho.kept g2 (gne ho (by decide))
  ·rw[qx e,qx e];exact(o1 k hk' (λe'=>e e'.symm)).kept g2 (gne (o1 k hk' (λe'=>e e'.symm)) (by decide))
 ·have hA:Apart ((ve::vs).set (j+1) v'):=by
   rcases hat with hat|⟨N,hN,hle⟩
   ·exact h.apart.set hjs (N:=w.heap.size) h.blocks (.inl (by rw[za7];exact hat))
   ·exact h.apart.set hjs (N:=N) (λk q hk hq=>qD (h.blocks k q hk hq) hle) (.inr hN)
  simpa using hA
theorem RR.foot (h:RR w base b lv m ec ep vf ve vb vs) {own:ByteArray} {v':Value} (ho:w1.ownsRow base 81 2 v' (m.gO.length+1) (Zn m.gO vs++[.string own,yK])) (hg:w.grownBy w1 vf.ownBlock):
  RR (w1.setCell ⟨b,1,none⟩ v') base b lv {m with gO:=m.gO++[zcn own]} ec ep v' ve vb (vs++[yK]):=by
 have hne:vf.ownBlock≠some b:=by rcases pI h.gO h.rb (by decide) with e|e;· rw[e];simp
                                 ·exact e
 have r1:Q5 w1 b lv vf ve vb ec ep:=(hg.block b h.bl (λe=>hne e.symm)).trans h.rb;have g2:=zaN w1 b 1 v';have hvl:=h.vl;have wk:∀k,k<m.gO.length->(w1.setCell ⟨b,1,none⟩ v').ownsRow base 83 2 (vs.getD k yK) (m.gO.getD k default).gR.length (Qu (m.gO.getD k default).gR):=λk hk=>by
  have o1:=(h.gR k hk).kept hg (Zu (h.gR k hk) h.gO (by decide));exact o1.kept g2 (pI o1 r1 (by decide))
 have e1:=h.ends.kept hg (Zu h.ends h.gO (by decide));have k1:=h.gS.kept hg (Zu h.gS h.gO (by decide));refine⟨r1.put1 v',h.hb,by simp[hvl],?_,?_,e1.kept g2 (pI e1 r1 (by decide)),k1.kept g2 (pI k1 r1 (by decide)),?_⟩
 ·have e:Zn (m.gO++[zcn own]) (vs++[yK])=Zn m.gO vs++[.string own,yK]:=zcJ _ _ _ _ hvl;simp only[qv,qB,qG];rw[e];exact ho.kept g2 (pI ho r1 (by decide))
 ·intro k hk;simp only[qv,qB,qG] at hk;by_cases e:k<m.gO.length
  ·simp only[];rw[zdv _ _ _ _ (by omega),zdv _ _ _ _ e];exact wk k e
  ·obtain rfl:k=m.gO.length:=by omega
   simp only[];rw[zdw];have:(vs++[yK]).getD m.gO.length yK=yK:=(by rw[<-hvl];exact zdw _ _ _);rw[this];exact zP _ _ _ _
 ·exact h.apart.snoc (v:=yK) rfl
theorem RR.end_ (h:RR w base b lv m ec ep vf ve vb vs) {x:Way} {v':Value} (ho:w1.ownsRow base 83 2 v' (m.ends.length+1) (Qu m.ends++[.string x.1,.int .i64 x.2])) (hg:w.grownBy w1 ve.ownBlock)
  (hat:v'.ownBlock=ve.ownBlock∨∃N,v'.ownBlock=some N/\w.heap.size<=N):
  RR (w1.setCell ⟨b,2,none⟩ v') base b lv {m with ends:=m.ends++[x]} ec ep vf v' vb vs:=by
 have hne:ve.ownBlock≠some b:=by rcases pI h.ends h.rb (by decide) with e|e;· rw[e];simp
                                 ·exact e
 have r1:Q5 w1 b lv vf ve vb ec ep:=(hg.block b h.bl (λe=>hne e.symm)).trans h.rb;have g2:=zaN w1 b 2 v';have hvl:=h.vl;have wk:∀k,k<m.gO.length->(w1.setCell ⟨b,2,none⟩ v').ownsRow base 83 2 (vs.getD k yK) (m.gO.getD k default).gR.length (Qu (m.gO.getD k default).gR):=λk hk=>by
  have ha:(vs.getD k yK).ownBlock=none∨(vs.getD k yK).ownBlock≠ve.ownBlock:=by
   cases hv:(vs.getD k yK).ownBlock with
   |none=>exact .inl rfl
   |some q=>
    right;intro e;exact h.apart (k+1) 0 q (by simp;omega) (by simp) (by omega) (by rw[za7];exact hv) (by simpa using e.symm)
  have o1:=(h.gR k hk).kept hg ha;exact o1.kept g2 (pI o1 r1 (by decide))
 have f1:=h.gO.kept hg (Zu h.gO h.ends (by decide));have k1:=h.gS.kept hg (Zu h.gS h.ends (by decide));refine⟨r1.put2 v',h.hb,hvl,f1.kept g2 (pI f1 r1 (by decide)),wk,?_,k1.kept g2 (pI k1 r1 (by decide)),?_⟩
 ·simp only[qv,qB,qG,zbH];exact ho.kept g2 (pI ho r1 (by decide))
 ·have hA:Apart ((ve::vs).set 0 v'):=by
   rcases hat with hat|⟨N,hN,hle⟩
   ·exact h.apart.set (by simp) (N:=w.heap.size) h.blocks (.inl (by simpa using hat))
   ·exact h.apart.set (by simp) (N:=N) (λk q hk hq=>qD (h.blocks k q hk hq) hle) (.inr hN)
  simpa using hA
theorem RR.brk (h:RR w base b lv m ec ep vf ve vb vs) {x:Int×Int} {v':Value} (ho:w1.ownsRow base 85 2 v' (m.gS.length+1) (JC m.gS++[.int .i64 x.1,.int .i64 x.2])) (hg:w.grownBy w1 vb.ownBlock):
  RR (w1.setCell ⟨b,3,none⟩ v') base b lv {m with gS:=m.gS++[x]} ec ep vf ve v' vs:=by
 have hne:vb.ownBlock≠some b:=by rcases pI h.gS h.rb (by decide) with e|e;· rw[e];simp
                                 ·exact e
 have r1:Q5 w1 b lv vf ve vb ec ep:=(hg.block b h.bl (λe=>hne e.symm)).trans h.rb;have g2:=zaN w1 b 3 v';have wk:∀k,k<m.gO.length->(w1.setCell ⟨b,3,none⟩ v').ownsRow base 83 2 (vs.getD k yK) (m.gO.getD k default).gR.length (Qu (m.gO.getD k default).gR):=λk hk=>by
  have o1:=(h.gR k hk).kept hg (Zu (h.gR k hk) h.gS (by decide));exact o1.kept g2 (pI o1 r1 (by decide))
 have f1:=h.gO.kept hg (Zu h.gO h.gS (by decide));have e1:=h.ends.kept hg (Zu h.ends h.gS (by decide));refine⟨r1.zsb v',h.hb,h.vl,f1.kept g2 (pI f1 r1 (by decide)),wk,e1.kept g2 (pI e1 r1 (by decide)),?_,h.apart⟩;simp only[qv,qB,qG,zdr];exact ho.kept g2 (pI ho r1 (by decide))
theorem RR.move (h:RR w base b lv m ec ep vf ve vb vs) (hg:w.grownBy w' (some b)) (hr:Q5 w' b lv' vf ve vb KM KN):RR w' base b lv' m KM KN vf ve vb vs:=
 ⟨hr,h.hb,h.vl,h.gO.kept hg (pI h.gO h.rb (by decide)),λk hk=>(h.gR k hk).kept hg (pI (h.gR k hk) h.rb (by decide)),h.ends.kept hg (pI h.ends h.rb (by decide)),h.gS.kept hg (pI h.gS h.rb (by decide)),h.apart⟩
def uH (s:ByteArray) (T cap i:Nat):Value:=.slice (some ⟨T,i*2,none⟩) ((toks s 0).length-i) (cap-i)
structure RQ (w:World) (base b:Nat) (s:ByteArray) (T cap i:Nat) (m:Met) (ec ep:Int) (vf ve vb:Value) (vs:List Value):Prop where
 rr:RR w base b (uH s T cap i) m ec ep vf ve vb vs
 tk:w.ownsRow base 187 2 (.slice (some ⟨T,0,none⟩) (toks s 0).length cap) (toks s 0).length (Yu (toks s 0))
 hi:i<(toks s 0).length
variable {s:ByteArray} {T cap i:Nat}
theorem RQ.bl (h:RQ w base b s T cap i m ec ep vf ve vb vs):b<w.heap.size:=h.rr.bl
theorem RQ.bs (h:RQ w base b s T cap i m ec ep vf ve vb vs):base<=w.heap.size:=h.rr.bs
theorem RQ.below (h:RQ w base b s T cap i m ec ep vf ve vb vs) (hb:Below w.heap.size w w'):RQ w' base b s T cap i m ec ep vf ve vb vs:=
 ⟨h.rr.below hb,h.tk.kept (Zq hb none) ZH,h.hi⟩
theorem RQ.move (h:RQ w base b s T cap i m ec ep vf ve vb vs) (hg:w.grownBy w' (some b)) {i':Nat} (hi:i'<(toks s 0).length) (hr:Q5 w' b (uH s T cap i') vf ve vb KM KN):RQ w' base b s T cap i' m KM KN vf ve vb vs:=
 ⟨h.rr.move hg hr,h.tk.kept hg (pI h.tk h.rr.rb (by decide)),hi⟩
theorem zkg {n:Nat} {x:List Value} {v:Value} (h:w.ownsRow base 187 2 v n x) {row:Option Nat} (hg:w.grownBy w1 row) (h1:v.ownBlock=none∨v.ownBlock≠row) (hr:w1.heap[b]?=some (.cells #[lv,vf,ve,vb,.int .i64 ec,.int .i64 ep] 167 (0,0))) (j:Nat) (u:Value):
  (w1.setCell ⟨b,j,none⟩ u).ownsRow base 187 2 v n x:=by
 have o:=h.kept hg h1;exact o.kept (zaN w1 b j u) (pI o hr (by decide))
theorem RQ.foot (h:RQ w base b s T cap i m ec ep vf ve vb vs) {own:ByteArray} {v':Value} (ho:w1.ownsRow base 81 2 v' (m.gO.length+1) (Zn m.gO vs++[.string own,yK])) (hg:w.grownBy w1 vf.ownBlock):
  RQ (w1.setCell ⟨b,1,none⟩ v') base b s T cap i {m with gO:=m.gO++[zcn own]} ec ep v' ve vb (vs++[yK]):=by
 have hne:vf.ownBlock≠some b:=by rcases pI h.rr.gO h.rr.rb (by decide) with e|e;· rw[e];simp
                                 ·exact e
 exact⟨h.rr.foot ho hg,zkg h.tk hg (Zu h.tk h.rr.gO (by decide)) ((hg.block b h.bl (λe=>hne e.symm)).trans h.rr.rb) _ _,h.hi⟩
theorem RQ.end_ (h:RQ w base b s T cap i m ec ep vf ve vb vs) {x:Way} {v':Value} (ho:w1.ownsRow base 83 2 v' (m.ends.length+1) (Qu m.ends++[.string x.1,.int .i64 x.2])) (hg:w.grownBy w1 ve.ownBlock)
  (hat:v'.ownBlock=ve.ownBlock∨∃N,v'.ownBlock=some N/\w.heap.size<=N):
  RQ (w1.setCell ⟨b,2,none⟩ v') base b s T cap i {m with ends:=m.ends++[x]} ec ep vf v' vb vs:=by
 have hne:ve.ownBlock≠some b:=by rcases pI h.rr.ends h.rr.rb (by decide) with e|e;· rw[e];simp
                                 ·exact e
 exact⟨h.rr.end_ ho hg hat,zkg h.tk hg (Zu h.tk h.rr.ends (by decide)) ((hg.block b h.bl (λe=>hne e.symm)).trans h.rr.rb) _ _,h.hi⟩
theorem RQ.brk (h:RQ w base b s T cap i m ec ep vf ve vb vs) {x:Int×Int} {v':Value} (ho:w1.ownsRow base 85 2 v' (m.gS.length+1) (JC m.gS++[.int .i64 x.1,.int .i64 x.2])) (hg:w.grownBy w1 vb.ownBlock):
  RQ (w1.setCell ⟨b,3,none⟩ v') base b s T cap i {m with gS:=m.gS++[x]} ec ep vf ve v' vs:=by
 have hne:vb.ownBlock≠some b:=by rcases pI h.rr.gS h.rr.rb (by decide) with e|e;· rw[e];simp
                                 ·exact e
 exact⟨h.rr.brk ho hg,zkg h.tk hg (Zu h.tk h.rr.gS (by decide)) ((hg.block b h.bl (λe=>hne e.symm)).trans h.rr.rb) _ _,h.hi⟩
theorem RQ.way (h:RQ w base b s T cap i m ec ep vf ve vb vs) {j g cp:Nat} (hj:j<m.gO.length) (KE:vf=.slice (some ⟨g,0,none⟩) m.gO.length cp) (x:Way) {v':Value}
  (ho:w1.ownsRow base 83 2 v' ((m.gO.getD j default).gR.length+1) (Qu (m.gO.getD j default).gR++[.string x.1,.int .i64 x.2])) (hg:w.grownBy w1 (vs.getD j yK).ownBlock)
  (hat:v'.ownBlock=(vs.getD j yK).ownBlock∨∃N,v'.ownBlock=some N/\w.heap.size<=N):
  RQ (w1.setCell ⟨g,j*2+1,none⟩ v') base b s T cap i (m.QE j ⟨(m.gO.getD j default).own,(m.gO.getD j default).gR++[x]⟩) ec ep vf ve vb (vs.set j v'):=by
 refine⟨h.rr.way hj KE x ho hg hat,?_,h.hi⟩;have o:=h.tk.kept hg (Zu h.tk (h.rr.gR j hj) (by decide));have f1:=h.rr.gO.kept hg (Zu h.rr.gO (h.rr.gR j hj) (by decide));have hne:=Zu o f1 (by decide);refine o.kept (zaN w1 g _ _) ?_;rw[KE] at hne;exact hne
theorem V3:∀{j:Nat},j<(toks s 0).length->KG s ((toks s 0).drop j)
 |0,_=>⟨0,qF _,rfl⟩
 |k+1,h=>by
  have ih:=(V3 (j:=k) (by omega)).gW;have e:gW ((toks s 0).drop k)=(toks s 0).drop (k+1):=by
   rw[zm (by omega:k<(toks s 0).length)];cases hq:(toks s 0).drop (k+1) with
   |nil=>have:=List.drop_eq_nil_iff.1 hq;omega
   |cons x l=>rfl
  rw[<-e];exact ih
theorem zcz {L:List Tok} (h:KG s L) (h0:(hd L).2.size≠0):2<=L.length:=by
 obtain⟨p,hp,rfl⟩:=h;have h1:=zjk (s:=s) (p:=p) (λe=>h0 (by rw[e];rfl));have h2:=zbV s p;have h3:=zlC h2;omega
theorem zkh {i:Nat} (h:i<(toks s 0).length):hd ((toks s 0).drop i)=(toks s 0).getD i zkC:=by
 rw[zm h];simp[hd,qj,h]
theorem V4 {i:Nat} (h:i<(toks s 0).length) (h0:(hd ((toks s 0).drop i)).2.size≠0):i+1<(toks s 0).length/\(toks s 0).drop (i+1)=gW ((toks s 0).drop i):=by
 have h2:=zcz (V3 (j:=i) h) h0;rw[zK] at h2;refine⟨by omega,?_⟩;rw[zm h];cases hq:(toks s 0).drop (i+1) with
 |nil=>have:=List.drop_eq_nil_iff.1 hq;omega
 |cons x l=>rfl
theorem RQ.t0 (h:RQ w base b s T cap i m ec ep vf ve vb vs):w.cell? ⟨T,i*2,none⟩=some (.int .i64 (hd ((toks s 0).drop i)).1):=by
 rw[h.tk.cellAt (i*2) (by have:=h.hi;omega),(zcR (toks s 0) i h.hi).1,zkh h.hi]
theorem RQ.t1 (h:RQ w base b s T cap i m ec ep vf ve vb vs):w.cell? ⟨T,i*2+1,none⟩=some (.string (hd ((toks s 0).drop i)).2):=by
 rw[h.tk.cellAt (i*2+1) (by have:=h.hi;omega),(zcR (toks s 0) i h.hi).2,zkh h.hi]
theorem RQ.caps (h:RQ w base b s T cap i m ec ep vf ve vb vs):(toks s 0).length<=cap:=by
 rcases h.tk.2 with⟨h1,_⟩|⟨g,cp,cur,h1,_,_,h2,_⟩
 ·cases h1
 ·cases h1;exact h2
theorem RQ.next (h:RQ w base b s T cap i m ec ep vf ve vb vs) (h0:(hd ((toks s 0).drop i)).2.size≠0):
  RQ (w.setCell ⟨b,0,none⟩ (.slice (some ⟨T,i*2+2,none⟩) ((toks s 0).length-i-1) (cap-i-1))) base b s T cap (i+1) m ec ep vf ve vb vs:=by
 have e:uH s T cap (i+1)=.slice (some ⟨T,i*2+2,none⟩) ((toks s 0).length-i-1) (cap-i-1):=by
  unfold uH;rw[show(i+1)*2=i*2+2 by omega,Nat.sub_sub,Nat.sub_sub]
 refine h.move (zaN w b 0 _) (V4 h.hi h0).1 ?_;rw[e];exact h.rr.rb.put0 _
variable {w w1 w':World} {base b:Nat} {s:ByteArray} {T cap i:Nat} {m:Met} {ec ep:Int} {vf ve vb:Value} {vs:List Value}
def ue (t:Tok):Value:=.agg #[.int .i64 t.1,.string t.2]
theorem gtr {w w1 w2:World} {row:Option Nat} (h:w.grownBy w1 row) (k:w1.grownBy w2 row):w.grownBy w2 row:=
 ⟨k.os.trans h.os,k.tape.trans h.tape,k.output.trans h.output,qm h.size k.size,λi hi hne=>(k.block i (qD hi h.size) hne).trans (h.block i hi hne)⟩
theorem zf4 {w w':World} {base b:Nat} (h:w.grownBy w' (some b)) (h1:base<=w.heap.size) (h2:base<=b):Below base w w':=
 (qb base w).grown h h1 (λk e=>by cases e;exact h2)
theorem gX (c:Int) (t:Tok) (h:RQ w base b s T cap i m ec ep vf ve vb vs):
  Calls Tryz.prog 128 #[.pointer (some ⟨b,0,none⟩),.int .i64 c,ue t] w λe w'=>e=.returned (.bool false)/\RQ w' base b s T cap i m c t.1 vf ve vb vs/\w.grownBy w' (some b):=by
 obtain⟨p,x⟩:=t;unfold ue;simp only[];have hg:w.grownBy ((w.setCell ⟨b,4,none⟩ (.int .i64 c)).setCell ⟨b,5,none⟩ (.int .i64 p)) (some b):=zaV (zaN w b 4 _) (.inl rfl) _;have H1:=qh (h.move hg h.hi ((h.rr.rb.zsc c).zsd p));have Hb:=qh hg;have hbl:=h.bl;have c4:=h.rr.rb.c4;have c5:=h.rr.rb.c5;have z4:=h.rr.rb.z 4;have z5:=h.rr.rb.z 5;have Hs:=qh h.bs;clear h hg;go_enter Tryz.func128,Tryz.ntmps128;go_wp2_with fail;go_ret;exact⟨rfl,H1.out.below ((qb _ _).alloc (ql _) _),zb3 Hb.out _⟩
theorem zfw (A:Option Addr) (c:Nat) (l:List Way) (sg:ByteArray) (w:World) (hl:pn w w.heap.size A l) (hn:l.length<=4611686018427387904):
  Calls Tryz.prog 189 #[.slice A l.length c,.string sg] w λe w'=>e=.returned (.bool (vI l sg))/\Below w.heap.size w w':=by
 have Hl:=qh hl;clear hl;go_enter Tryz.func189,Tryz.ntmps189;go_wp2_with fail;go_loopw [9] (λq wr=>∃k:Nat,k<=l.length/\q=.int .i64 k/\(l.take k).any (λv=>ph v.1 sg)=false/\Below w.heap.size w wr) (λq _=>l.length-(intOf q).toNat)
 case atStart=>exact⟨0,by omega,rfl,by simp,qb _ _⟩
 case round=>
  rename_i wr;obtain⟨k,hk,rfl,hno,hb⟩:=hrel;by_cases hlt:k<l.length
  ·have hil:=Hl.out.below hb;obtain⟨g,o,hA,hg,hc⟩:=hil (by omega);obtain⟨c1,c2⟩:=hc k hlt;subst hA;have hs:=hb.size;have hst:=zbp l (λv=>ph v.1 sg) k hlt;have hhit:=zhi l (λv=>ph v.1 sg) k hlt;rw[hno,zg] at hst;have po:=qh hst;have Hhit:=qh hhit;have Hno:=qh hno;clear hst hhit hno hc;have hqe:ph (l.getD k default).1 sg=((l.getD k default).1.toList==sg.toList):=rfl;generalize l.getD k default=v at*;obtain⟨v1,v2⟩:=v;simp only[] at c1 c2 hqe po Hhit;have hbx:Below w.heap.size w (wr.alloc (.cells #[.string v1,.int .i64 v2] 83)):=hb.alloc hs _;have Hbx:=qh hbx;clear hbx;cases hq:ph v1 sg with
   |true=>
    have hq2:(v1.toList==sg.toList)=true:=(by rw[<-hqe,hq]);have Hq:=qh (Hhit.out hq);clear hq hqe;go_wp2_with fail;go_ret;refine⟨?_,Hbx.out⟩;unfold vI;rw[Hq.out];rfl
   |false=>
    have hq2:(v1.toList==sg.toList)=false:=(by rw[<-hqe,hq]);have Hq:=qh (po.out.trans hq);clear hq hqe;go_wp2_with fail;go_roundw
    case rel=>exact⟨k+1,by omega,by go_num,Hq.out,Hbx.out⟩
    case measure=>simp[intOf];omega
  ·obtain rfl:k=l.length:=by omega
   have Hno:=qh hno;clear hno;go_wp2_with fail;go_ret;refine⟨?_,hb⟩;have:=Hno.out;rw[qU] at this;unfold vI;rw[this];rfl
end Go.Proofs.YtgklikkddckgbaaGreatDoor
namespace Go.Proofs.YtgklikkddckgbaaGreatDoor
open Go.Lib
theorem zk3 {D:List UInt8} {j a:Nat} {c:UInt8} (hc:D[j]?=some c) (h1:48<=c.toNat) (h2:c.toNat<=57) (h:decFrom a (D.drop j)=decFrom 0 D):decFrom (a*10+(c.toNat-48)) (D.drop (j+1))=decFrom 0 D:=by
 obtain⟨hj,hc⟩:=zx.1 hc;rw[zm hj,hc] at h;rw[<-h];have hd:digitVal c=some (c.toNat-48):=by
  unfold digitVal;first|rw[qy ⟨h1,h2⟩]|(rw[qy (by simp;omega)])|(simp[h1,h2])
 simp only[decFrom,hd]
theorem zl1 {D:List UInt8} {j a:Nat} {c:UInt8} (hc:D[j]?=some c) (h1:c.toNat<48∨57<c.toNat) (h:decFrom a (D.drop j)=decFrom 0 D):decFrom 0 D=none:=by
 obtain⟨hj,hc⟩:=zx.1 hc;rw[zm hj,hc] at h;rw[<-h];have hd:digitVal c=none:=by
  unfold digitVal;first|rw[qx (by omega)]|(rw[qx (by simp;omega)])
 simp only[decFrom,hd]
theorem zl2 {t:ByteArray} (h:decFrom 0 (yX t.data.toList)=none):vE t=none:=by
 unfold vE;have:decNat (yX t.data.toList)=none:=by unfold decNat;split<;>simp[h]
 rw[this];split<;>(try rfl)
 split<;>rfl
theorem zl3 {t:ByteArray} {a:Nat} (hl:(yX t.data.toList).length<=18) (h:decFrom 0 (yX t.data.toList)=some a):vE t=if pm t=true/\itoa (Xm t.data.toList a)=t.data.toList then some (Xm t.data.toList a) else none:=by
 unfold vE;by_cases hf:pm t=true
 ·rw[qy hf,qy hl];by_cases he:yX t.data.toList=[]
  ·have e:t.data.toList=[45]:=by
    rcases zgb rfl hf with⟨r,e,hm⟩|⟨c,r,e,hm,_,_⟩
    ·unfold yX at he;rw[hm,e] at he;rw[e];simp at he;rw[he]
    ·unfold yX at he;rw[hm,e] at he;simp at he
   have ha:a=0:=(by rw[he] at h;simpa [decFrom] using h.symm);subst ha;have hd:decNat (yX t.data.toList)=none:=(by rw[he];rfl);rw[hd,qx];rintro⟨_,h2⟩;rw[e] at h2;exact absurd h2 (by decide+kernel)
  ·have hd:decNat (yX t.data.toList)=some a:=by
    unfold decNat;rw[qx (by simpa using he)];exact h
   rw[hd];simp only[];by_cases h2:itoa (Xm t.data.toList a)=t.data.toList
   ·rw[qy h2,qy ⟨hf,h2⟩]
   ·rw[qx h2,qx (λh=>h2 h.2)]
 ·rw[qx hf,qx (λh=>hf h.1)]
theorem zk4 {t:ByteArray} (h:18<(yX t.data.toList).length):vE t=none:=ze9 (by omega)
end Go.Proofs.YtgklikkddckgbaaGreatDoor
namespace Go.Proofs.YtgklikkddckgbaaGreatDoor
open Go.RowKit
theorem zeR:∀j,j<14->Y7[j*3]?=some (vT (pu j).1)/\Y7[j*3+1]?=some (vT (pu j).2.1)/\Y7[j*3+2]?=some (vT (pu j).2.2)
 |0,_=>⟨rfl,rfl,rfl⟩|1,_=>⟨rfl,rfl,rfl⟩|2,_=>⟨rfl,rfl,rfl⟩|3,_=>⟨rfl,rfl,rfl⟩|4,_=>⟨rfl,rfl,rfl⟩|5,_=>⟨rfl,rfl,rfl⟩|6,_=>⟨rfl,rfl,rfl⟩
 |7,_=>⟨rfl,rfl,rfl⟩|8,_=>⟨rfl,rfl,rfl⟩|9,_=>⟨rfl,rfl,rfl⟩|10,_=>⟨rfl,rfl,rfl⟩|11,_=>⟨rfl,rfl,rfl⟩|12,_=>⟨rfl,rfl,rfl⟩|13,_=>⟨rfl,rfl,rfl⟩
 |n+14,h=>by omega
end Go.Proofs.YtgklikkddckgbaaGreatDoor


import Derived.Test.YtgklikkddckgbaaGreatDoorHDQ
/- Lemmas of the claim. -/
set_option linter.all false
namespace Go.Proofs.YtgklikkddckgbaaGreatDoor.Mo
open Go.RowKit
theorem zhA (s:ByteArray) (a b:Nat):s.extract a b=⟨(cutB s a b).toArray⟩:=by
 rw[←zcp]
theorem ziv {s:ByteArray}:∀{t:List Int} {i j:Nat},zal s t i=.ok j→i≤s.size→j≤s.size
 |[],i,j,h,hi=>by unfold zal at h;cases h;exact hi
 |c::t,i,j,h,hi=>by
  unfold zal at h;split at h
  ·rename_i hb;exact ziv h (zbr hb)
  ·cases h
theorem zhB {s:ByteArray} {t:List Int} {i j:Nat} (h:zao (zal s t i)=.ok j) (hi:i≤s.size):j≤s.size:=by
 cases hm:zal s t i with
 |error e=>rw[hm] at h;cases h
 |ok k=>rw[hm] at h;cases h;exact ziv hm hi
theorem zcw {r:Except Nat Nat} {c:Int} {p:Nat} (h:zao r=.error (c,p)):c=180:=by
 cases r with
 |error e=>cases h;rfl
 |ok k=>cases h
def RStep2 (rb:Nat) (s:ByteArray) (no wh:Int) (F:RF) (w:World) (i:Nat) (r:Except (Int×Nat) Nat) (w':World):Prop:=Off [rb] w w'∧
 (no=0→match r with|.ok j=>j≤s.size∧RR w' rb s j 0 0 F|.error (c,p)=>∃j,j≤s.size∧RR w' rb s j c p F)∧(no≠0→∃j,j=i∧RR w' rb s j no wh F)
set_option maxRecDepth 100000 in
set_option maxHeartbeats 1000000 in
theorem zbA (rb:Nat) (s t:ByteArray) (i:Nat) (no wh:Int) (F:RF) (w:World) (h:RR w rb s i no wh F) (hi:no=0→i≤s.size) (ht:t.size≤100) (hz:∀k (hk:k<t.size),t[k]≠0):
  Calls Tryz.prog 65 #[.pointer (some ⟨rb,0,none⟩),.string t] w fun e w'=>e=.returned (.tuple #[])∧RStep2 rb s no wh F w i (zao (zal s (zbP t) i)) w':=by
 have hsz:=h.sz;have hle:=h.le;have H:=qh h;generalize hR:zao (zal s (zbP t) i)=R;have HR0:Hid (zao (zal s ((zbP t).drop 0) (i+0))=R):=qh (by rw[List.drop_zero,Nat.add_zero];exact hR);clear h hR;go_enter Tryz.func65,Tryz.ntmps65;go_wp2_with fail;go_loopw [4] (fun j wr=>∃k:Nat,k≤t.size∧j=.int .i64 k∧Hid (zao (zal s ((zbP t).drop k) (i+k))=R)∧Hid (RR wr rb s (i+k) no wh F)∧Hid (Off [rb] w wr)∧Hid (no≠0→k=0)∧Hid (no=0→i+k≤s.size)) (fun j _=>t.size-(intOf j).toNat)
 case atStart=>exact⟨0,Nat.zero_le _,rfl,HR0,H,qh (Off.refl _ _),qh (fun _=>rfl),qh hi⟩
 case round=>
  obtain⟨k,hk,rfl,hRk,hrd,hof,hno,hle9⟩:=hrel;clear HR0;by_cases hlt:k<t.size
  ·have Hq:=qh (fun n=>rc_q rb s (i+k) no wh F (wr.drewN n) (hrd.out.drewN n));have hst:=hRk.out;rw[zfe t k hlt] at hst;unfold zal at hst;have hzk:=hz k hlt;by_cases hok:no=0∧isB s (i+k) (t[k].toNat:Int)=true
   ·obtain⟨h0,hb⟩:=hok;have hlt2:=zbr hb;have hne:(((byC0 no s (i+k)).toNat:Int) !=(t[k].toNat:Int))=false:=by
     unfold byC0;rw[if_pos h0,zjX hzk,hb];rfl
    have HR2:Hid (zao (zal s ((zbP t).drop (k+1)) (i+(k+1)))=R):=qh (by
     have h1:=hst;rw[hb,if_pos rfl] at h1;exact h1)
    have r1:=fun n=>(hrd.out.drewN n).c1;have z1:=fun n=>(hrd.out.drewN n).z 1;have hw:IntKind.i64.wrap (((i+k:Nat):Int)+1)=((i+k:Nat):Int)+1:=qi _ (by omega);have hc:((i+k:Nat):Int)+1=((i+(k+1):Nat):Int):=(by omega);have hfin:∀n,RR ((wr.drewN n).setCell ⟨rb,1,none⟩ (.int .i64 (((i+k:Nat):Int)+1))) rb s (i+(k+1)) no wh F∧Off [rb] w ((wr.drewN n).setCell ⟨rb,1,none⟩ (.int .i64 (((i+k:Nat):Int)+1))):=fun n=>by
     rw[hc];exact⟨(hrd.out.drewN n).to (by omega),(hof.out.trans (Off.drewN _ _ n)).trans (Off.setCell _ rb 1 _)⟩
    have Hfin:=qh hfin;generalize byC0 no s (i+k)=bc at*;clear hst hb hc hfin;go_wp2_with fail;go_quiet ((go_at_call 67;exact Calls.quiet_of (Hq.out _)))
    go_wp2_with fail;go_roundw
    case rel=>exact⟨k+1,by omega,by go_num,HR2,qh (Hfin.out _).1,qh (Hfin.out _).2,qh (fun e=>absurd h0 e),qh (fun _=>by omega)⟩
    case measure=>simp[intOf];omega
   ·have hne:(((byC0 no s (i+k)).toNat:Int) !=(t[k].toNat:Int))=true:=by
     unfold byC0;by_cases h0:no=0
     ·rw[if_pos h0,zjX hzk];cases hb:isB s (i+k) (t[k].toNat:Int) with
      |true=>exact absurd ⟨h0,hb⟩ hok
      |false=>rfl
     ·rw[if_neg h0];exact zlT hzk
    have HR2:Hid (no=0→R=.error (180,i+k)):=qh (fun h0=>by
     cases hb:isB s (i+k) (t[k].toNat:Int) with
     |true=>exact absurd ⟨h0,hb⟩ hok
     |false=>rw[←hst,hb];rfl)
    have HL:Hid (no=0→i+k≤s.size):=hle9;have Hb:=qh (fun n=>zbu rb s (i+k) no wh F (wr.drewN n) (hrd.out.drewN n));generalize byC0 no s (i+k)=bc at*;clear hst hok;go_wp2_with fail;go_quiet ((go_at_call 67;exact Calls.quiet_of (Hq.out _)))
    go_wp2_with fail;refine(Hb.out _).mono ?_;rintro e w2 ⟨rfl,hr2,ho2⟩;have Hr2:=qh hr2;have Ho2:=qh ((hof.out.trans (Off.drewN _ _ _)).trans ho2);clear hr2 ho2;go_wp2_with fail;refine bodyPost_ret (results_none rfl _ _ _) rfl ?_;refine⟨rfl,Ho2.out,fun h0=>?_,fun h0=>?_⟩
    ·rw[HR2.out h0];have:=Hr2.out;unfold wrN wrP at this;rw[if_pos h0,if_pos h0] at this;exact⟨_,HL.out h0,this⟩
    ·have:=Hr2.out;unfold wrN wrP at this;rw[if_neg h0,if_neg h0] at this;exact⟨_,by rw[hno.out h0,Nat.add_zero],this⟩
  ·obtain rfl:k=t.size:=by omega
   have HR2:Hid (R=.ok (i+t.size)):=qh (by rw[←hRk.out,zgo t _ hlt];rfl);clear hRk;go_wp2_with fail;refine bodyPost_end (results_none rfl _ _ _) rfl ?_;refine⟨rfl,hof.out,fun h0=>?_,fun h0=>⟨_,by rw[hno.out h0,Nat.add_zero],hrd.out⟩⟩;rw[HR2.out];have hwh:=(hrd.out.ok h0).2;have:=hrd.out;rw[h0,hwh] at this;exact⟨hle9.out h0,this⟩
structure Sg (w:World) (rb:Nat) (s:ByteArray) (F:RF) {α:Type} (R:Except (Int×Nat) α) (k:Nat→Except (Int×Nat) α) (j:Nat) (no wh:Int):Prop where
 rr:RR w rb s j no wh F
 ok:no=0→R=k j∧j≤s.size
 er:no≠0→∃p:Nat,wh=p∧R=.error (no,p)
theorem Sg.must {w w':World} {rb:Nat} {s:ByteArray} {F:RF} {α:Type} {R:Except (Int×Nat) α} {k:Nat→Except (Int×Nat) α} {j:Nat} {no wh:Int} {t:List Int} (h:Sg w rb s F R (fun i=>match zao (zal s t i) with|.error e=>.error e|.ok a=>k a) j no wh)
  (hr:RStep2 rb s no wh F w j (zao (zal s t j)) w'):∃j' no' wh',Sg w' rb s F R k j' no' wh':=by
 obtain⟨ho,h0,h1⟩:=hr;by_cases hn:no=0
 ·have h2:=h0 hn;obtain⟨h3,h4⟩:=h.ok hn;cases hm:zao (zal s t j) with
  |error e=>
   obtain⟨c,p⟩:=e;rw[hm] at h2 h3;obtain⟨j',hj,hr'⟩:=h2;have hc:=zcw hm;exact⟨j',c,p,hr',fun e=>absurd e (by rw[hc];decide),fun _=>⟨p,rfl,h3⟩⟩
  |ok a=>
   rw[hm] at h2 h3;exact⟨a,0,0,h2.2,fun _=>⟨h3,h2.1⟩,fun e=>absurd rfl e⟩
 ·obtain⟨j',hj,hr'⟩:=h1 hn;subst hj;exact⟨_,no,wh,hr',fun e=>absurd e hn,fun _=>h.er hn⟩
theorem zdG {s:ByteArray} {l v:Int} {i j:Nat} (h:numP s l i=.ok (v,j)):l≤v∧v≤512:=by
 unfold numP at h;split at h
 ·cases h
 ·split at h
  ·cases h
  ·cases h;omega
theorem Sg.num {w w':World} {rb:Nat} {s:ByteArray} {F:RF} {α:Type} {R:Except (Int×Nat) α} {k:Int→Nat→Except (Int×Nat) α} {j:Nat} {no wh:Int} {l:Int} {e:Ending} (h:Sg w rb s F R (fun i=>match numP s l i with|.error e=>.error e|.ok (v,b)=>k v b) j no wh)
  (hr:RNum rb s no wh F l j w e w'):∃n j' no' wh',e=.returned (.int .i64 n)∧0≤n∧n≤1000009∧(no'=0→no=0∧l≤n∧n≤512)∧Sg w' rb s F R (k n) j' no' wh':=by
 obtain⟨ho,n,he,hn0,hn1,h0,h1⟩:=hr;by_cases hn:no=0
 ·have h2:=h0 hn;obtain⟨h3,h4⟩:=h.ok hn;cases hm:numP s l j with
  |error e=>
   obtain⟨c,p⟩:=e;rw[hm] at h2;simp only[hm] at h3;obtain⟨j',hr'⟩:=h2;have hc:=zbI hm;exact⟨n,j',c,p,he,hn0,hn1,fun e=>absurd e hc,hr',fun e=>absurd e hc,fun _=>⟨p,rfl,h3⟩⟩
  |ok vb=>
   obtain⟨v,b⟩:=vb;rw[hm] at h2;simp only[hm] at h3;obtain⟨rfl,hr'⟩:=h2;have hl:=zdG hm;exact⟨n,b,0,0,he,hn0,hn1,fun _=>⟨hn,hl⟩,hr',fun _=>⟨h3,(zlJ h4 hm).2⟩,fun e=>absurd rfl e⟩
 ·obtain⟨j',hr'⟩:=h1 hn;exact⟨n,j',no,wh,he,hn0,hn1,fun e=>absurd e hn,hr',fun e=>absurd e hn,fun _=>h.er hn⟩
theorem RR.set4 {w:World} {rb:Nat} {s:ByteArray} {i:Nat} {no wh:Int} {F:RF} (h:RR w rb s i no wh F) (v:Value):RR (w.setCell ⟨rb,4,none⟩ v) rb s i no wh {F with nm:=v}:=⟨qs w rb 4 _ _ v h.r,h.le,h.sz,h.ok⟩
theorem RR.set8 {w:World} {rb:Nat} {s:ByteArray} {i:Nat} {no wh:Int} {F:RF} (h:RR w rb s i no wh F) (b:Bool):RR (w.setCell ⟨rb,8,none⟩ (.bool b)) rb s i no wh {F with rd:=b}:=⟨qs w rb 8 _ _ _ h.r,h.le,h.sz,h.ok⟩
theorem RR.set9 {w:World} {rb:Nat} {s:ByteArray} {i:Nat} {no wh:Int} {F:RF} (h:RR w rb s i no wh F) (a:Int):RR (w.setCell ⟨rb,9,none⟩ (.int .i64 a)) rb s i no wh {F with a:=a}:=⟨qs w rb 9 _ _ _ h.r,h.le,h.sz,h.ok⟩
theorem RR.set10 {w:World} {rb:Nat} {s:ByteArray} {i:Nat} {no wh:Int} {F:RF} (h:RR w rb s i no wh F) (a:Int):RR (w.setCell ⟨rb,10,none⟩ (.int .i64 a)) rb s i no wh {F with b:=a}:=⟨qs w rb 10 _ _ _ h.r,h.le,h.sz,h.ok⟩
theorem RR.set11 {w:World} {rb:Nat} {s:ByteArray} {i:Nat} {no wh:Int} {F:RF} (h:RR w rb s i no wh F) (a:Int):RR (w.setCell ⟨rb,11,none⟩ (.int .i64 a)) rb s i no wh {F with c:=a}:=⟨qs w rb 11 _ _ _ h.r,h.le,h.sz,h.ok⟩
set_option maxRecDepth 100000 in
set_option maxHeartbeats 1000000 in
theorem zk2 (B rb:Nat) (s:ByteArray) (F:RF) (rows:List Rw) (vis:List Value) (round:Bool) (start i:Nat) (no wh:Int) (w:World) (h:RR w rb s i no wh F) (hn:no≠0) (hrm:RRwM w B F.vr rows vis) (ha0:0≤F.a) (ha1:F.a≤1000009) (ht:totN rows≤65536) (hl:rows.length≤65536) (hB:B≤w.heap.size) (hBr:B≤rb):
  Calls Tryz.prog 71 #[.pointer (some ⟨rb,0,none⟩),.bool round,.int .i64 start] w fun e w'=>e=.returned (.tuple #[])∧Off [rb] w w'∧RR w' rb s i no wh F:=by
 obtain⟨f4,f5,f6,f7,f8,f9,f10,f11⟩:=h.form;have HS:=qh (zeL B F.nm F.vl F.vm F.vr F.rd F.a F.b F.c rows vis F.a w.drew (hrm.off (T:=[]) (Off.drew [] w) TyAt.nil (by simp) (by simp) (by simp)) ha0 ha1 ht hl);have H:=qh h;have Hn:=qh hn;generalize za6 rows F.a=ah at*;clear h hn hrm;go_enter Tryz.func71,Tryz.ntmps71;go_wp2_with fail;go_cut [6] from 6 to 24 (fun v6 wx=>v6=.int .i64 ah∧Hid (Below w.heap.size w wx))
 case first=>
  go_region_law (go_simp;go_at_call 16;refine HS.out.mono ?_;rintro e w2 ⟨rfl,hb2⟩;have Hb2:=qh ((zad (qb w.heap.size w) 1).trans hb2);clear hb2)
  all_goals
   go_wp2_with fail;go_meet
   exact⟨rfl,Hb2⟩
 case rest=>
  clear f4 f5 f6 f7 f8 f9 f10 f11 HS;obtain⟨rfl,hb1⟩:=hcut;obtain⟨W1,hW1⟩:∃W1:World,W1=wc:=⟨_,rfl⟩;subst hW1;have hr1:=H.out.below hb1.out;have hbA:Below W1.heap.size W1 (W1.alloc (.cells #[.bool round,.slice none 0 0] 96)):=(qb _ _).alloc (ql _) _;have hrA:=hr1.below hbA;have HoA:Hid (Off [rb] w (W1.alloc (.cells #[.bool round,.slice none 0 0] 96))):=qh ((Off.of_below hb1.out (ql _) _).trans (Off.alloc _ W1 _));have hb0:byC0 no s i=0:=by unfold byC0;rw[if_neg Hn.out]
  have Hc:=qh (rc_q rb s i no wh F _ hrA);have Hbad:=qh (fun n=>zbu rb s i no wh F _ (hrA.drewN n));rw[hb0] at Hc;clear hr1 hbA hrA hb0;go_wp2_with fail;generalize W1.alloc (.cells #[.bool round,.slice none 0 0] 96)=W2 at*;refine Hc.out.mono ?_;rintro e w3 ⟨rfl,n3,rfl⟩;go_wp2_with fail;refine(Hbad.out _).mono ?_;rintro e w4 ⟨rfl,hr4,ho4⟩;have e1:wrN no 180=no:=by unfold wrN;rw[if_neg Hn.out]
  have e2:wrP no wh (i:Int)=wh:=by unfold wrP;rw[if_neg Hn.out]
  rw[e1,e2] at hr4;have Hr4:=qh hr4;have Ho4:=qh (HoA.out.trans ((Off.drewN [rb] W2 _).trans ho4));clear hr4 ho4 e1 e2;obtain⟨W4,hW4⟩:∃W4:World,W4=w4:=⟨_,rfl⟩;have H4:Hid (w4=W4):=qh hW4.symm;clear hW4;go_wp2_with fail;go_loopw [] (fun wr=>Hid (RR wr rb s i no wh F∧Off [rb] w wr)) (fun _=>0)
  case atStart=>exact qh ⟨Hr4.out,Ho4.out⟩
  case round=>
   obtain⟨hr5,ho5⟩:=hrel.out;have hb0:byC0 no s i=0:=(by unfold byC0;rw[if_neg Hn.out]);have Hc:=qh (rc_q rb s i no wh F _ hr5);rw[hb0] at Hc;have q1:(no !=0)=true:=(by simpa using Hn.out);have r2:=hr5.c2;have Hfin:=qh (fun n=>And.intro (ho5.trans (Off.drewN [rb] wr n)) (hr5.drewN n));clear hrel hr5 ho5 hb0;go_wp2_with fail;refine Hc.out.mono ?_;rintro e w6 ⟨rfl,n6,rfl⟩;go_wp2_with fail;refine bodyPost_ret (results_none rfl _ _ _) rfl ?_;exact⟨rfl,Hfin.out _⟩
theorem RFM.set4 {w:World} {B rb:Nat} {f:Fm} {F:RF} {s:ByteArray} {i:Nat} {no wh:Int} {F':RF} (h:RFM w B f F) (hr:RR w rb s i no wh F') (n:List UInt8):RFM (w.setCell ⟨rb,4,none⟩ (.string ⟨n.toArray⟩)) B {f with name:=n} {F with nm:=.string ⟨n.toArray⟩}:=by
 have h':=h.offR hr (Off.setCell w rb 4 (.string ⟨n.toArray⟩));exact⟨rfl,h'.l,h'.m,h'.r,h'.rd,h'.a,h'.b,h'.c⟩
theorem RFM.set8 {w:World} {B rb:Nat} {f:Fm} {F:RF} {s:ByteArray} {i:Nat} {no wh:Int} {F':RF} (h:RFM w B f F) (hr:RR w rb s i no wh F') (b:Bool):RFM (w.setCell ⟨rb,8,none⟩ (.bool b)) B {f with rounds:=b} {F with rd:=b}:=by
 have h':=h.offR hr (Off.setCell w rb 8 (.bool b));exact⟨h'.nm,h'.l,h'.m,h'.r,rfl,h'.a,h'.b,h'.c⟩
theorem RRow.err {B rb:Nat} {s:ByteArray} {w w':World} {c:Int} {p j:Nat} {F:RF} (hb:Below B w w') (hc:c≠0) (hr:RR w' rb s j c p F):RRow B rb s w (.error (c,p)) (.returned (.tuple #[])) w':=⟨rfl,hb,hc,j,F,hr⟩
theorem zkc:zbP ⟨#[102,111,114,109,32]⟩=FORM:=by kernel_rfl
theorem zhC:zbP ⟨#[32]⟩=[32]:=by kernel_rfl
theorem ziR:zbP ⟨#[114,111,117,110,100,32]⟩=ROUND:=by kernel_rfl
theorem zhD:zbP ⟨#[115,116,97,110,122,97]⟩=STANZA:=by kernel_rfl
theorem ziS:zbP ⟨#[109,101,116,114,101,32]⟩=METRE:=by kernel_rfl
set_option maxRecDepth 100000 in
set_option maxHeartbeats 1000000 in
theorem zhE (B rb:Nat) (s:ByteArray) (f:Fm) (F:RF) (i:Nat) (w:World) (h:RR w rb s i 0 0 F) (hf:RFM w B f F) (hi:i<s.size) (hB:B≤w.heap.size) (hBr:B≤rb):
  Calls Tryz.prog 46 #[.pointer (some ⟨rb,0,none⟩),.bool false] w (RRow B rb s w (za3 s f false i)):=by
 have hsz:=h.sz;have r1:=h.c1;have hms:=zbA rb s ⟨#[102,111,114,109,32]⟩ i 0 0 F w h (fun _=>by omega) (by decide) (by decide);rw[zkc] at hms;have Hms:=qh hms;have hP:za3 s f false i=match zao (zal s FORM i) with|.error e=>.error e|.ok a=>if endB s a then .error (180,a) else .ok ({f with name:=cutB s a (zap s a)},zap s a):=rfl
 generalize za3 s f false i=R at*;have HP:=qh hP;have H:=qh h;have Hf:=qh hf;clear h hf hms hP;go_enter Tryz.func46,Tryz.ntmps46;go_wp2_with fail;refine Hms.out.mono ?_;rintro e w2 ⟨rfl,ho2,hok,_⟩;have hk:=hok rfl;have Ho2:=qh ho2;have Hf2:=qh (Hf.out.offR H.out ho2);have HP2:=HP;clear hok ho2;cases hm:zao (zal s FORM i) with
 |error e=>
  obtain⟨c,p⟩:=e;rw[hm] at hk;obtain⟨j,hj,hr2⟩:=hk;have hc:c≠0:=by rw[zcw hm];decide
  have HR:Hid (R=.error (c,p)):=qh (by rw[HP.out,hm]);have q0:(c==0)=false:=by simpa using hc
  have r2:=hr2.c2;have hrest:=zcL rb s j c p F w2 hr2 hj;rw[if_neg hc] at hrest;have Hrest:=qh hrest;have Hc:=qh hc;clear hm hr2 hrest hc;go_wp2_with fail;refine Hrest.out.mono ?_;rintro e w3 ⟨ho3,rfl,hr3⟩;generalize s.extract j j=nm9 at*;have z4:=hr3.z 4;have f4:=hr3.form.1;have Hr4:=qh (hr3.set4 (.string nm9));have Ho4:=qh ((Ho2.out.trans ho3).trans (Off.setCell w3 rb 4 (.string nm9)));clear hr3 ho3;go_wp2_with fail;refine bodyPost_ret (results_none rfl _ _ _) rfl ?_;rw[HR.out];exact RRow.err (Ho4.out.below hB (fun k hk=>by simp at hk;omega)) Hc.out Hr4.out
 |ok a=>
  rw[hm] at hk;obtain⟨ha,hr2⟩:=hk;have r2:=hr2.c2;have He:=qh (zht rb s a 0 0 F w2 hr2);have hec:endC 0 s a=endB s a:=by unfold endC;rw[if_pos rfl]
  rw[hec] at He;have Hr2:=qh hr2;cases hen:endB s a with
  |true=>
   have HR:Hid (R=.error (180,a)):=qh (by rw[HP.out,hm];simp only;rw[if_pos hen]);have Hbad:=qh (fun n=>zbu rb s a 0 0 F (w2.drewN n) (hr2.drewN n));rw[hen] at He;clear hm hr2 hec hen;go_wp2_with fail;refine He.out.mono ?_;rintro e w3 ⟨rfl,n3,rfl⟩;go_wp2_with fail;refine(Hbad.out _).mono ?_;rintro e w4 ⟨rfl,hr4,ho4⟩;have hr4':RR w4 rb s a 180 a F:=hr4;have hrest:=zcL rb s a 180 a F w4 hr4' ha;rw[if_neg (by decide)] at hrest;have Hrest:=qh hrest;have Ho4:=qh (Ho2.out.trans ((Off.drewN [rb] w2 n3).trans ho4));clear hr4 hr4' ho4 hrest;go_wp2_with fail;refine Hrest.out.mono ?_;rintro e w5 ⟨ho5,rfl,hr5⟩;generalize s.extract a a=nm9 at*;have z4:=hr5.z 4;have f4:=hr5.form.1;have Hr6:=qh (hr5.set4 (.string nm9));have Ho6:=qh ((Ho4.out.trans ho5).trans (Off.setCell w5 rb 4 (.string nm9)));clear hr5 ho5;go_wp2_with fail;refine bodyPost_ret (results_none rfl _ _ _) rfl ?_;rw[HR.out];exact RRow.err (Ho6.out.below hB (fun k hk=>by simp at hk;omega)) (by decide) Hr6.out
  |false=>
   have HR:Hid (R=.ok ({f with name:=cutB s a (zap s a)},zap s a)):=qh (by rw[HP.out,hm];simp only;rw[if_neg (by rw[hen];simp)]);have hrest:=fun n=>zcL rb s a 0 0 F (w2.drewN n) (hr2.drewN n) ha;rw[if_pos rfl,zhA] at hrest;have Hrest:=qh hrest;rw[hen] at He;clear hm hr2 hec hen hrest;go_wp2_with fail;refine He.out.mono ?_;rintro e w3 ⟨rfl,n3,rfl⟩;go_wp2_with fail;refine(Hrest.out _).mono ?_;rintro e w5 ⟨ho5,rfl,hr5⟩;have z4:=hr5.z 4;have f4:=hr5.form.1;have ho5':=(Off.drewN [rb] w2 n3).trans ho5;have Hr6:=qh (hr5.set4 (.string ⟨(cutB s a (zap s a)).toArray⟩));have Hf6:=qh ((Hf2.out.offR Hr2.out ho5').set4 hr5 (cutB s a (zap s a)));have Ho6:=qh ((Ho2.out.trans ho5').trans (Off.setCell w5 rb 4 (.string ⟨(cutB s a (zap s a)).toArray⟩)));clear hr5 ho5 ho5';go_wp2_with fail;refine bodyPost_ret (results_none rfl _ _ _) rfl ?_;rw[HR.out];exact⟨rfl,Ho6.out.below hB (fun k hk=>by simp at hk;omega),(zbs a ha).2,_,Hr6.out,Hf6.out⟩
theorem ziw (B rb:Nat) (s:ByteArray) (f:Fm) (F:RF) (round:Bool) (start i i0:Nat) (no wh:Int) (w:World) (h:RR w rb s i no wh F) (hrm:∃rows vis,RRwM w B F.vr rows vis∧totN rows≤65536∧rows.length≤65536) (ha0:0≤F.a) (ha1:F.a≤1000009)
  (hB:B≤w.heap.size) (hBr:B≤rb) (hon:no=0→wh=0∧RFM w B f F∧FmOk f i0∧i0+1≤i∧i≤s.size):
  Calls Tryz.prog 71 #[.pointer (some ⟨rb,0,none⟩),.bool round,.int .i64 start] w fun e w'=>e=.returned (.tuple #[])∧Below B w w'∧
   (no=0→match zaF s f round start i with
    |.ok (f',j)=>j≤s.size∧∃F',RR w' rb s j 0 0 F'∧RFM w' B f' F'
    |.error (c,p)=>c≠0∧∃j F',RR w' rb s j c p F')∧(no≠0→RR w' rb s i no wh F):=by
 by_cases hn:no=0
 ·obtain⟨h1,h2,h3,h4,h5⟩:=hon hn;subst hn;subst h1;exact(zl0 B rb s f F round start i i0 w h h2 h3 h4 h5 hB hBr).mono fun e w' ⟨a,b,c⟩=>⟨a,b,fun _=>c,fun e=>absurd rfl e⟩
 ·obtain⟨rows,vis,hm,ht,hl⟩:=hrm;exact(zk2 B rb s F rows vis round start i no wh w h hn hm ha0 ha1 ht hl hB hBr).mono fun e w' ⟨a,b,c⟩=>⟨a,b.below hB (fun k hk=>by simp at hk;omega),fun e=>absurd e hn,fun _=>c⟩
theorem RFM.rows {w:World} {B:Nat} {f:Fm} {F:RF} {i:Nat} (h:RFM w B f F) (hk:FmOk f i) (hi:i≤65536):∃rows vis,RRwM w B F.vr rows vis∧totN rows≤65536∧rows.length≤65536:=by
 obtain⟨vis,hr⟩:=h.r;have:=hk.le;exact⟨f.rows,vis,hr,by omega,by omega⟩
theorem RFM.len {w:World} {B:Nat} {f:Fm} {F:RF} (h:RFM w B f F):∃A c,F.vr=.slice A f.rows.length c:=by
 obtain⟨vis,hr⟩:=h.r;exact zab hr.o
set_option maxRecDepth 100000 in
set_option maxHeartbeats 2000000 in
theorem zg0 (B rb:Nat) (s:ByteArray) (f:Fm) (F:RF) (i i0:Nat) (w:World) (h:RR w rb s i 0 0 F) (hf:RFM w B f F) (hk:FmOk f i0) (hi0:i0≤i) (hi:i<s.size) (hB:B≤w.heap.size) (hBr:B≤rb)
  (h1:¬(isB s i 109=true∧f.rows.isEmpty=true)) (h2:¬(isB s i 114=true∧f.rounds=false)):
  Calls Tryz.prog 46 #[.pointer (some ⟨rb,0,none⟩),.bool true] w (RRow B rb s w (za3 s f true i)):=by
 have hsz:=h.sz;have r1:=h.c1;have hR0:za3 s f true i=match zao (zal s STANZA i) with|.error e=>.error e|.ok a=>zaF s f false i a:=by
  unfold za3;rw[if_neg (by simp)];by_cases h3:isB s i 109=true
  ·have h4:f.rows.isEmpty=false:=by
    cases hh:f.rows.isEmpty with
    |false=>rfl
    |true=>exact absurd ⟨h3,hh⟩ h1
   rw[if_neg (by rw[h4];simp),if_neg (by rw[zaA hi] at h3⊢;simp at h3⊢;omega)];rfl
  ·rw[if_neg (by simp[h3])];by_cases h5:isB s i 114=true
   ·have h6:f.rounds=true:=by
     cases hh:f.rounds with
     |true=>rfl
     |false=>exact absurd ⟨h5,hh⟩ h2
    rw[if_pos h5];unfold zbF;rw[if_pos h6];have h7:zal s STANZA i=.error i:=by
     unfold STANZA zal;rw[if_neg (by rw[zaA hi] at h5⊢;simp at h5⊢;omega)]
    rw[h7];rfl
   ·rw[if_neg h5];rfl
 generalize za3 s f true i=R at*;have hb0:byC0 0 s i=zaa s i:=by unfold byC0;rw[if_pos rfl]
 have Hc:=qh (fun n=>rc_q rb s i 0 0 F (w.drewN n) (h.drewN n));rw[hb0] at Hc;have Hc0:=qh (Hc.out 0);have Hms:=qh (fun n=>zbA rb s ⟨#[115,116,97,110,122,97]⟩ i 0 0 F (w.drewN n) (h.drewN n) (fun _=>by omega) (by decide) (by decide));rw[zhD] at Hms;have hib:∀c:Int,isB s i c=(((zaa s i).toNat:Int)==c):=fun c=>by rw[zaA hi,zar hi]
 rw[hib] at h1 h2;have hrd:F.rd=f.rounds:=hf.rd;obtain⟨Ar,cr,hvr⟩:=hf.len;have f7:w.cell? ⟨rb,7,none⟩=some (.slice Ar f.rows.length cr):=by rw[h.form.2.2.2.1,hvr]
 have f8:w.cell? ⟨rb,8,none⟩=some (.bool f.rounds):=by rw[h.form.2.2.2.2.1,hrd]
 have hways:((((zaa s i).toNat:Int)==109)=true∧((f.rows.length:Int)==0)=false∧(((zaa s i).toNat:Int)==114)=false)∨
   ((((zaa s i).toNat:Int)==109)=false∧(((zaa s i).toNat:Int)==114)=false)∨
   ((((zaa s i).toNat:Int)==109)=false∧(((zaa s i).toNat:Int)==114)=true∧f.rounds=true):=by
  cases g1:(((zaa s i).toNat:Int)==109) with
  |true=>
   left;refine⟨rfl,?_,?_⟩
   ·have h4:¬f.rows=[]:=fun e=>h1 ⟨g1,by rw[e];rfl⟩;have:f.rows.length≠0:=fun e=>h4 (List.length_eq_zero_iff.1 e);simpa using h4
   ·simp at g1⊢;omega
  |false=>
   right;cases g2:(((zaa s i).toNat:Int)==114) with
   |false=>exact .inl ⟨rfl,rfl⟩
   |true=>
    right;refine⟨rfl,rfl,?_⟩;cases hh:f.rounds with
    |true=>rfl
    |false=>exact absurd ⟨g2,hh⟩ h2
 have HR0:=qh hR0;have H:=qh h;have Hf:=qh hf;have Hk:=qh hk;generalize zaa s i=bi at*;clear h hf hk hR0 hb0 hib h1 h2 hrd hvr
 have Hrow:Hid (∀(n:Nat) (w3:World) (e:Ending),e=.returned (.tuple #[])∧RStep2 rb s 0 0 F (w.drewN n) i (zao (zal s STANZA i)) w3→∃(j:Nat) (no wh:Int),RR w3 rb s j no wh F∧Off [rb] w w3∧
   Calls Tryz.prog 71 #[.pointer (some ⟨rb,0,none⟩),.bool false,.int .i64 i] w3 (fun e w'=>RRow B rb s w R e w')):=qh (fun n w3 e ⟨_,hst⟩=>by
  have hsg:Sg (w.drewN n) rb s F R (fun i'=>match zao (zal s STANZA i') with|.error e=>.error e|.ok a=>zaF s f false i a) i 0 0:=⟨H.out.drewN n,fun _=>⟨HR0.out,by omega⟩,fun e=>absurd rfl e⟩;have ho:Off [rb] w w3:=(Off.drewN _ w n).trans hst.1;have hm2:=hst.2.1 rfl;obtain⟨j,no,wh,hs⟩:=hsg.must hst;have hf3:=Hf.out.offR H.out ho;have hBw:Below B w w3:=ho.below hB (fun k hk=>by simp at hk;omega);refine⟨j,no,wh,hs.rr,ho,?_⟩;have hij:no=0→i+6=j:=fun h0=>by
   obtain⟨e1,_⟩:=hs.ok h0;cases hm:zao (zal s STANZA i) with
   |error ep=>
    obtain⟨c,p⟩:=ep;rw[hm] at hm2;obtain⟨j',_,hr'⟩:=hm2;have h9:=hs.rr.c2;rw[hr'.c2,h0] at h9;have:=zcw hm;simp at h9;omega
   |ok a=>
    rw[hm] at hm2;have h9:=hs.rr.c1;rw[hm2.2.c1] at h9;simp at h9;have h8:=zaw hm;have h7:STANZA.length=6:=rfl;omega
  refine(ziw B rb s f F false i j i0 no wh w3 hs.rr (hf3.rows Hk.out (by omega)) (by rw[Hf.out.a];exact Hk.out.l0.1) (by rw[Hf.out.a];have:=Hk.out.l0.2;omega) (qm hB ho.size) hBr (fun h0=>⟨(hs.rr.ok h0).2,hf3,Hk.out,by have:=hij h0;omega,(hs.ok h0).2⟩)).mono ?_;rintro e' w' ⟨rfl,hb',h0',h1'⟩;refine⟨rfl,hBw.trans hb',?_⟩;by_cases hn:no=0
  ·have:=h0' hn;rw[←(hs.ok hn).1] at this;exact this
  ·obtain⟨p,hp,hR⟩:=hs.er hn;rw[hR];have:=h1' hn;rw[hp] at this;exact⟨hn,_,_,this⟩)
 go_enter Tryz.func46,Tryz.ntmps46;rcases hways with⟨g1,g2,g3⟩|⟨g1,g3⟩|⟨g1,g3,g4⟩
 ·go_wp2_with fail;refine Hc0.out.mono ?_;rintro e w2 ⟨rfl,n2,rfl⟩;go_wp2_with fail;refine(Hc.out _).mono ?_;rintro e w2 ⟨rfl,n3,rfl⟩;go_wp2_with fail;refine(Hms.out _).mono ?_;intro e w3 h3;obtain⟨j,no,wh,hr3,ho3,hrow⟩:=Hrow.out _ _ _ h3;obtain⟨rfl,_⟩:=h3;have Hro:=qh hrow;clear hrow hr3 ho3;go_wp2_with fail;refine Hro.out.mono ?_;intro e w4 h4;have H4:=qh h4;obtain⟨rfl,_⟩:=h4;go_wp2_with fail;refine bodyPost_end (results_none rfl _ _ _) rfl ?_;exact H4.out
 ·go_wp2_with fail;refine Hc0.out.mono ?_;rintro e w2 ⟨rfl,n2,rfl⟩;go_wp2_with fail;refine(Hc.out _).mono ?_;rintro e w2 ⟨rfl,n3,rfl⟩;go_wp2_with fail;refine(Hms.out _).mono ?_;intro e w3 h3;obtain⟨j,no,wh,hr3,ho3,hrow⟩:=Hrow.out _ _ _ h3;obtain⟨rfl,_⟩:=h3;have Hro:=qh hrow;clear hrow hr3 ho3;go_wp2_with fail;refine Hro.out.mono ?_;intro e w4 h4;have H4:=qh h4;obtain⟨rfl,_⟩:=h4;go_wp2_with fail;refine bodyPost_end (results_none rfl _ _ _) rfl ?_;exact H4.out
 ·go_wp2_with fail;refine Hc0.out.mono ?_;rintro e w2 ⟨rfl,n2,rfl⟩;go_wp2_with fail;refine(Hc.out _).mono ?_;rintro e w2 ⟨rfl,n3,rfl⟩;go_wp2_with fail;refine(Hms.out _).mono ?_;intro e w3 h3;obtain⟨j,no,wh,hr3,ho3,hrow⟩:=Hrow.out _ _ _ h3;obtain⟨rfl,_⟩:=h3;have Hro:=qh hrow;clear hrow hr3 ho3;go_wp2_with fail;refine Hro.out.mono ?_;intro e w4 h4;have H4:=qh h4;obtain⟨rfl,_⟩:=h4;go_wp2_with fail;refine bodyPost_end (results_none rfl _ _ _) rfl ?_;exact H4.out
theorem zcP (s:ByteArray) (j:Nat):j≤za4 s j:=by unfold za4;split<;>omega
theorem zcQ {s:ByteArray} {i j:Nat} (hi:i<s.size) (hij:i≤j):i+1≤za4 s j:=by unfold za4;split<;>omega
theorem zmt {s:ByteArray} {i:Nat} (hi:i<s.size):endB s i=isB s i 10:=by rw[zeu hi,zaA hi]
theorem FmOk.mono {f:Fm} {i j:Nat} (h:FmOk f i) (hij:i≤j):FmOk f j:=⟨qm h.le hij,h.l0,h.m0,h.s0,h.lm,⟨h.ll.1,qm h.ll.2 hij⟩,h.it,h.nd,h.lt⟩
theorem FmM.set0 {w:World} {B fb:Nat} {f:Fm} {vl vm vs:Value} (h:FmM w B fb f vl vm vs) (n:List UInt8):FmM (w.setCell ⟨fb,0,none⟩ (.string ⟨n.toArray⟩)) B fb {f with name:=n} vl vm vs:=by
 have hos:Off [fb] w (w.setCell ⟨fb,0,none⟩ (.string ⟨n.toArray⟩)):=Off.setCell w fb 0 _;have hts:TyAt w [fb] [92]:=TyAt.one h.x;obtain⟨cs,hm⟩:=h.m;obtain⟨vis,hr,hi⟩:=h.r;exact⟨qs w fb 0 _ _ _ h.x,h.hB,hos.ownT h.l hts (by decide),⟨cs,hm.off hos hts (by decide) (by decide) (by decide) (by decide)⟩,⟨vis,hr.off hos hts (by decide),fun k hk=>by
  obtain⟨vhs,h2⟩:=hi k hk;exact⟨vhs,h2.off hos hts (by decide) (by decide)⟩⟩⟩
structure WhJ (w W:World) (B rb fb:Nat) (s:ByteArray) (f:Fm) (i:Nat) (vl vm vs:Value):Prop where
 rd:Rd W rb fb s i
 fm:FmM W B fb f vl vm vs
 ok:FmOk f i
 bl:Below B w W
 vars:Vars W
theorem WhJ.off {w W W':World} {B rb fb:Nat} {s:ByteArray} {f:Fm} {i j:Nat} {vl vm vs:Value} (h:WhJ w W B rb fb s f i vl vm vs) (hr:Rd W' rb fb s j) (ho:Off [rb] W W') (hij:i≤j) (h9:9≤B) (hB:B≤rb) (hBw:B≤w.heap.size):WhJ w W' B rb fb s f j vl vm vs:=
 ⟨hr,h.fm.offR h.rd ho,h.ok.mono hij,h.bl.trans (ho.keep (qm hBw h.bl.size) hB),Vars.off h.vars ho (by simp;omega)⟩
theorem WhJ.below {w W W':World} {B rb fb:Nat} {s:ByteArray} {f:Fm} {i:Nat} {vl vm vs:Value} (h:WhJ w W B rb fb s f i vl vm vs) (hb:Below W.heap.size W W') (h9:9≤B) (hB:B≤rb) (hBw:B≤w.heap.size):WhJ w W' B rb fb s f i vl vm vs:=
 h.off (h.rd.below hb) (Off.of_below hb (ql _) _) (ql _) h9 hB hBw
theorem WhJ.line {w W W':World} {B rb fb:Nat} {s:ByteArray} {f f':Fm} {i j:Nat} {vl vm vs vl' vm' vs':Value} (h:WhJ w W B rb fb s f i vl vm vs) (hb:Below B W W') (hr:Rd W' rb fb s j) (hk:FmOk f' j) (hm:FmM W' B fb f' vl' vm' vs') (h9:9≤B):WhJ w W' B rb fb s f' j vl' vm' vs':=
 ⟨hr,hm,hk,h.bl.trans hb,Vars.below h.vars hb h9⟩
def zkd (B rb fb:Nat) (s:ByteArray) (w:World) (r:Except (Int×Nat) Fm) (e:Ending) (w':World):Prop:=Below B w w'∧
 match r with
 |.error (c,p)=>e=PanE c p
 |.ok f'=>e=.returned (.tuple #[])∧∃j vl' vm' vs',Rd w' rb fb s j∧FmOk f' j∧FmM w' B fb f' vl' vm' vs'
theorem zg1 {s:ByteArray} {q:Nat} {f:Fm} {t:Bool} {i:Nat} (hi:¬i<s.size):zaK s (q+1) f t i=if f.rows.isEmpty then .error (180,s.size) else .ok f:=by
 unfold zaK;rw[if_pos hi]
theorem zix {s:ByteArray} {q:Nat} {f:Fm} {t:Bool} {i:Nat} (h:isB s i 10=true):zaK s (q+1) f t i=zaK s q f t (za4 s i):=by
 conv=>lhs;unfold zaK
 rw[if_neg (by have:=zbr h;omega),if_pos h]
theorem zfu {s:ByteArray} {q:Nat} {f:Fm} {t:Bool} {i:Nat} (h0:isB s i 10=false) (h:isB s i 35=true):zaK s (q+1) f t i=zaK s q f t (za4 s (zap s i)):=by
 conv=>lhs;unfold zaK
 rw[if_neg (by have:=zbr h;omega),if_neg (by rw[h0];simp),if_pos h]
theorem zfv {s:ByteArray} {q:Nat} {f:Fm} {t:Bool} {i:Nat} (hi:i<s.size) (h0:isB s i 10=false) (h:isB s i 35=false):zaK s (q+1) f t i=match za3 s f t i with|.error e=>.error e|.ok (f',j)=>zaK s q f' true (za4 s j):=by
 conv=>lhs;unfold zaK
 rw[if_neg (by omega),if_neg (by rw[h0];simp),if_neg (by rw[h];simp)];rfl
theorem WhJ.name {w W:World} {B rb fb:Nat} {s:ByteArray} {f:Fm} {i:Nat} {vl vm vs:Value} (h:WhJ w W B rb fb s f i vl vm vs) (n:List UInt8) (hB:B≤rb) (h9:9≤B) (hBw:B≤w.heap.size):
  WhJ w (W.setCell ⟨fb,0,none⟩ (.string ⟨n.toArray⟩)) B rb fb s {f with name:=n} i vl vm vs∧(∃v,W.cell? ⟨fb,0,none⟩=some v)∧W.frozen? ⟨fb,0,none⟩=false:=by
 have hos:Off [fb] W (W.setCell ⟨fb,0,none⟩ (.string ⟨n.toArray⟩)):=Off.setCell W fb 0 _;have hne:=h.fm.ne h.rd;have hfB:=h.fm.hB;have hbb:Below B W (W.setCell ⟨fb,0,none⟩ (.string ⟨n.toArray⟩)):=hos.below (qm hBw h.bl.size) (fun k hk=>by simp at hk;omega);exact⟨h.line hbb (h.rd.off hos (by simp;omega)) ⟨h.ok.le,h.ok.l0,h.ok.m0,h.ok.s0,h.ok.lm,h.ok.ll,h.ok.it,h.ok.nd,h.ok.lt⟩ (h.fm.set0 n) h9,⟨_,h.fm.cells.1⟩,h.fm.z 0⟩
theorem zg2 {s:ByteArray} {f:Fm} {round:Bool}:∀(q:Nat) (l:List It) (i:Nat) {l':List It} {j:Nat},za1 s f round q l i=.ok (l',j)→i≤j
 |0,l,i,l',j,h=>by unfold za1 at h;cases h;exact ql _
 |q+1,l,i,l',j,h=>by
  unfold za1 at h;split at h
  ·cases hm:zbC s f.letters (zbi f round l.length) (i+1) with
   |error e=>rw[hm] at h;cases h
   |ok xk=>
    obtain⟨x,k⟩:=xk;rw[hm] at h;have h1:=zg2 q _ k h;have h2:=zdD hm;omega
  ·cases h;exact ql _
theorem zcZ {s:ByteArray} {f f':Fm} {round:Bool} {start i j:Nat} (h:zaF s f round start i=.ok (f',j)):i≤j:=by
 cases hb:isB s i 32 with
 |false=>unfold zaF at h;rw[if_pos (by rw[hb];simp)] at h;cases h
 |true=>
  rw[zd5 hb] at h;cases hx:za1 s f round (s.size+1) [] i with
  |error e=>rw[hx] at h;cases h
  |ok lj=>
   obtain⟨l,k⟩:=lj;rw[hx] at h;unfold zbk at h;simp only[] at h;have:=zg2 _ _ _ hx;split at h
   ·cases h
   ·split at h
    ·cases h
    ·cases h;exact this
theorem zcx {s:ByteArray} {least v:Int} {i j:Nat} (h:numP s least i=.ok (v,j)):i≤j:=by
 unfold numP at h;split at h
 ·cases h
 ·split at h
  ·cases h
  ·cases h;by_cases hi:i≤s.size
   ·exact(za2 (s:=s) i i hi).1
   ·have:digB s i i=false:=(by unfold digB;rw[zcF (by omega)];rfl);rw[zaZ this];exact ql _
theorem zg3 {s:ByteArray} {f f':Fm} {i j:Nat} (h:zb9 s f i=.ok (f',j)):i≤j:=by
 unfold zb9 at h;cases h1:zao (zal s METRE i) with
 |error e=>rw[h1] at h;cases h
 |ok a=>
  rw[h1] at h;simp only[] at h;have l1:=zaw h1;split at h
  ·cases h
  ·split at h
   ·cases h
   ·cases h2:zao (zal s [32] (a+1)) with
    |error e=>rw[h2] at h;cases h
    |ok b=>
     rw[h2] at h;simp only[] at h;have l2:=zaw h2;cases h3:zbd ⟨(cutB s b (zap s b)).toArray⟩ with
     |error e=>rw[h3] at h;obtain⟨e1,e2⟩:=e;cases h
     |ok m=>
      rw[h3] at h;simp only[Except.ok.injEq,Prod.mk.injEq] at h;have hh:=h.2;by_cases hb:b≤s.size
      ·have:=(zbs (s:=s) b hb).1;omega
      ·have:zap s b=b:=zb8 (zco (by omega));omega
theorem zeQ {s:ByteArray} {f f':Fm} {i j:Nat} (h:zbF s f i=.ok (f',j)):i≤j:=by
 unfold zbF at h;split at h
 ·cases h
 ·cases h1:zao (zal s ROUND i) with
  |error e=>rw[h1] at h;cases h
  |ok a=>
   rw[h1] at h;simp only[] at h;have l1:=zaw h1;cases h2:numP s 0 a with
   |error e=>rw[h2] at h;cases h
   |ok vb=>
    obtain⟨v,b⟩:=vb;rw[h2] at h;simp only[] at h;have l2:=zcx h2;cases h3:zao (zal s [32] b) with
    |error e=>rw[h3] at h;cases h
    |ok c=>
     rw[h3] at h;simp only[] at h;have l3:=zaw h3;cases h4:numP s 0 c with
     |error e=>rw[h4] at h;cases h
     |ok vd=>
      obtain⟨v2,d⟩:=vd;rw[h4] at h;simp only[] at h;have l4:=zcx h4;split at h
      ·cases h
      ·cases h5:zao (zal s [32] d) with
       |error e=>rw[h5] at h;cases h
       |ok g=>
        rw[h5] at h;simp only[] at h;have l5:=zaw h5;cases h6:numP s 0 g with
        |error e=>rw[h6] at h;cases h
        |ok vh=>
         obtain⟨v3,k⟩:=vh;rw[h6] at h;simp only[] at h;have l6:=zcx h6;cases h7:zaF s {f with least:=v,most:=v2,shift:=v3} true i k with
         |error e=>rw[h7] at h;cases h
         |ok fj=>
          obtain⟨f2,j2⟩:=fj;rw[h7] at h;simp only[Except.ok.injEq,Prod.mk.injEq] at h;have:=zcZ h7;omega
def rK6 (s:ByteArray) (f:Fm) (i:Nat) (least most shift:Int) (h:Nat):Except (Int×Nat) (Fm×Nat):=match zaF s {f with least:=least,most:=most,shift:=shift} true i h with
 |.error e=>.error e
 |.ok (f',j)=>.ok ({f' with rounds:=true},j)
def rK5 (s:ByteArray) (f:Fm) (i:Nat) (least most:Int) (g:Nat):Except (Int×Nat) (Fm×Nat):=match numP s 0 g with
 |.error e=>.error e
 |.ok (shift,h)=>rK6 s f i least most shift h
def rK4 (s:ByteArray) (f:Fm) (i:Nat) (least:Int) (c:Nat) (most:Int) (d:Nat):Except (Int×Nat) (Fm×Nat):=if most<least then .error (2,c) else match zao (zal s [32] d) with
 |.error e=>.error e
 |.ok g=>rK5 s f i least most g
def rK4' (s:ByteArray) (f:Fm) (i:Nat) (least:Int) (most:Int) (d:Nat):Except (Int×Nat) (Fm×Nat):=match zao (zal s [32] d) with
 |.error e=>.error e
 |.ok g=>rK5 s f i least most g
def rK3 (s:ByteArray) (f:Fm) (i:Nat) (least:Int) (c:Nat):Except (Int×Nat) (Fm×Nat):=match numP s 0 c with
 |.error e=>.error e
 |.ok (most,d)=>rK4 s f i least c most d
def rK2 (s:ByteArray) (f:Fm) (i:Nat) (least:Int) (b:Nat):Except (Int×Nat) (Fm×Nat):=match zao (zal s [32] b) with
 |.error e=>.error e
 |.ok c=>rK3 s f i least c
def rK1 (s:ByteArray) (f:Fm) (i:Nat) (a:Nat):Except (Int×Nat) (Fm×Nat):=match numP s 0 a with
 |.error e=>.error e
 |.ok (least,b)=>rK2 s f i least b
theorem zf3 {s:ByteArray} {f:Fm} {i:Nat} (h:f.rounds=false):zbF s f i=match zao (zal s ROUND i) with|.error e=>.error e|.ok a=>rK1 s f i a:=by
 unfold zbF;rw[if_neg (by rw[h];simp)];rfl
theorem Sg.at {w:World} {rb:Nat} {s:ByteArray} {F:RF} {α:Type} {R:Except (Int×Nat) α} {k k':Nat→Except (Int×Nat) α} {j:Nat} {no wh:Int} (h:Sg w rb s F R k j no wh) (e:k j=k' j):Sg w rb s F R k' j no wh:=⟨h.rr,fun h0=>by rw[←e];exact h.ok h0,h.er⟩
theorem Sg.rr' {w w':World} {rb:Nat} {s:ByteArray} {F F':RF} {α:Type} {R:Except (Int×Nat) α} {k:Nat→Except (Int×Nat) α} {j:Nat} {no wh:Int} (h:Sg w rb s F R k j no wh) (hr:RR w' rb s j no wh F'):Sg w' rb s F' R k j no wh:=⟨hr,h.ok,h.er⟩
set_option maxRecDepth 100000 in
set_option maxHeartbeats 4000000 in
theorem zhF (B rb:Nat) (s:ByteArray) (f:Fm) (F:RF) (i i0:Nat) (w:World) (h:RR w rb s i 0 0 F) (hf:RFM w B f F) (hk:FmOk f i0) (hi0:i0≤i) (hi:i<s.size) (hB:B≤w.heap.size) (hBr:B≤rb)
  (h1:isB s i 114=true) (h2:f.rounds=false):
  Calls Tryz.prog 46 #[.pointer (some ⟨rb,0,none⟩),.bool true] w (RRow B rb s w (za3 s f true i)):=by
 have hsz:=h.sz;have r1:=h.c1;have hR0:za3 s f true i=match zao (zal s ROUND i) with|.error e=>.error e|.ok a=>rK1 s f i a:=by
  rw[←zf3 h2];unfold za3;rw[if_neg (by simp),if_neg (by rw[zaA hi] at h1⊢;simp at h1⊢;omega),if_pos h1]
 generalize za3 s f true i=R at*;have hb0:byC0 0 s i=zaa s i:=by unfold byC0;rw[if_pos rfl]
 have Hc:=qh (fun n=>rc_q rb s i 0 0 F (w.drewN n) (h.drewN n));rw[hb0] at Hc;have Hc0:=qh (Hc.out 0);have Hms:=qh (fun n=>zbA rb s ⟨#[114,111,117,110,100,32]⟩ i 0 0 F (w.drewN n) (h.drewN n) (fun _=>by omega) (by decide) (by decide));rw[ziR] at Hms;have hib:∀c:Int,isB s i c=(((zaa s i).toNat:Int)==c):=fun c=>by rw[zaA hi,zar hi]
 rw[hib] at h1;have f8:w.cell? ⟨rb,8,none⟩=some (.bool false):=by rw[h.form.2.2.2.2.1,hf.rd,h2]
 have g1:(((zaa s i).toNat:Int)==109)=false:=by simp at h1⊢;omega
 have HR0:=qh hR0;have H:=qh h;have Hf:=qh hf;have Hk:=qh hk;generalize zaa s i=bi at*;clear h hf hk hR0 hb0 hib h2;have hsp0:∀k (hk:k<(⟨#[32]⟩:ByteArray).size),(⟨#[32]⟩:ByteArray)[k]≠0:=by decide
 have Hsp0:=qh hsp0;clear hsp0;go_enter Tryz.func46,Tryz.ntmps46;go_wp2_with fail;refine Hc0.out.mono ?_;rintro e w2 ⟨rfl,n2,rfl⟩;go_wp2_with fail;refine(Hc.out _).mono ?_;rintro e w2 ⟨rfl,n3,rfl⟩;go_wp2_with fail;refine(Hms.out _).mono ?_;rintro e w3 ⟨rfl,hst⟩;have hsg:Sg (w.drewN (n2+n3)) rb s F R (fun i'=>match zao (zal s ROUND i') with|.error e=>.error e|.ok a=>rK1 s f i a) i 0 0:=⟨H.out.drewN _,fun _=>⟨HR0.out,by omega⟩,fun e=>absurd rfl e⟩;have ho3:Off [rb] w w3:=(Off.drewN _ w _).trans hst.1;obtain⟨j3,no3,wh3,hs3⟩:=hsg.must hst;have Hs3:=qh hs3;have Ho3:=qh ho3;have Hn3:=qh (zcu rb s j3 no3 wh3 F 0 w3 hs3.rr (by decide) (by decide));have HL3:Hid (no3=0→i+6≤j3):=qh (fun h0=>by
  obtain⟨e1,_⟩:=hs3.ok h0;have hm2:=hst.2.1 rfl;cases hm:zao (zal s ROUND i) with
  |error ep=>
   obtain⟨c,p⟩:=ep;rw[hm] at hm2;obtain⟨j',_,hr'⟩:=hm2;have h9:=hs3.rr.c2;rw[hr'.c2,h0] at h9;have:=zcw hm;simp at h9;omega
  |ok a=>
   rw[hm] at hm2;have h9:=hs3.rr.c1;rw[hm2.2.c1] at h9;simp at h9;have h8:=zaw hm;have h7:ROUND.length=6:=rfl;omega)
 clear hst hsg ho3 hs3 r1 f8;go_wp2_with fail;refine Hn3.out.mono ?_;intro e w4 h4;have ho4:=h4.1;have hnl:=h4;obtain⟨n4,j4,no4,wh4,rfl,a0,a1,a2,hs4⟩:=Sg.num (k:=rK2 s f i) Hs3.out h4;have HJ4:Hid (no4=0→i+6≤j4):=qh (fun h0=>by
  have h9:=(a2 h0).1;have h8:=HL3.out h9;obtain⟨_,n,_,_,_,h5,_⟩:=hnl;have h6:=h5 h9;cases hp:numP s 0 j3 with
  |error ep=>
   obtain⟨c,p⟩:=ep;rw[hp] at h6;obtain⟨j',hr'⟩:=h6;have h7:=hs4.rr.c2;rw[hr'.c2,h0] at h7;have:=zbI hp;simp at h7;omega
  |ok vb=>
   obtain⟨v,b⟩:=vb;rw[hp] at h6;have h7:=hs4.rr.c1;rw[h6.2.c1] at h7;simp at h7;have:=zcx hp;omega)
 have Ha:=qh (show 0≤n4∧n4≤1000009∧(no4=0→no3=0∧0≤n4∧n4≤512) from⟨a0,a1,a2⟩);have Hs4:=qh hs4;have Ho4:=qh (Ho3.out.trans ho4);have Hm4:=qh (zbA rb s ⟨#[32]⟩ j4 no4 wh4 F w4 hs4.rr (fun h0=>(hs4.ok h0).2) (by decide) Hsp0.out);rw[zhC] at Hm4;clear h4 ho4 hnl a0 a1 a2 hs4;go_wp2_with fail;refine Hm4.out.mono ?_;rintro e w5 ⟨rfl,hst⟩;have ho5:=hst.1;obtain⟨j5,no5,wh5,hs5⟩:=Sg.must (k:=rK3 s f i n4) (t:=[32]) Hs4.out hst;have HE5:Hid (no5=0→no4=0∧j4≤j5):=qh (fun h0=>by
  by_cases h4:no4=0
  ·refine⟨h4,?_⟩;have hm2:=hst.2.1 h4;cases hm:zao (zal s [32] j4) with
   |error ep=>
    obtain⟨c,p⟩:=ep;rw[hm] at hm2;obtain⟨j',_,hr'⟩:=hm2;have h9:=hs5.rr.c2;rw[hr'.c2,h0] at h9;have:=zcw hm;simp at h9;omega
   |ok a=>
    rw[hm] at hm2;have h9:=hs5.rr.c1;rw[hm2.2.c1] at h9;simp at h9;have h8:=zaw hm;omega
  ·obtain⟨j',_,hr'⟩:=hst.2.2 h4;have h9:=hs5.rr.c2;rw[hr'.c2,h0] at h9;simp at h9;exact absurd h9 h4)
 have Hs5:=qh hs5;have Ho5:=qh (Ho4.out.trans ho5);have r5:=hs5.rr.c1;have Hn5:=qh (zcu rb s j5 no5 wh5 F 0 w5 hs5.rr (by decide) (by decide));clear hst ho5 hs5;go_wp2_with fail;refine Hn5.out.mono ?_;intro e w6 h6;have ho6:=h6.1;have hnl:=h6;obtain⟨n6,j6,no6,wh6,rfl,b0,b1,b2,hs6⟩:=Sg.num (k:=rK4 s f i n4 j5) (Hs5.out.at (k':=fun c=>match numP s 0 c with|.error e=>.error e|.ok (most,d)=>rK4 s f i n4 j5 most d) rfl) h6;have HJ6:Hid (no6=0→j5≤j6):=qh (fun h0=>by
  have h9:=(b2 h0).1;obtain⟨_,n,_,_,_,h5,_⟩:=hnl;have h6:=h5 h9;cases hp:numP s 0 j5 with
  |error ep=>
   obtain⟨c,p⟩:=ep;rw[hp] at h6;obtain⟨j',hr'⟩:=h6;have h7:=hs6.rr.c2;rw[hr'.c2,h0] at h7;have:=zbI hp;simp at h7;omega
  |ok vb=>
   obtain⟨v,b⟩:=vb;rw[hp] at h6;have h7:=hs6.rr.c1;rw[h6.2.c1] at h7;simp at h7;have:=zcx hp;omega)
 have Hb:=qh (show 0≤n6∧n6≤1000009∧(no6=0→no5=0∧0≤n6∧n6≤512) from⟨b0,b1,b2⟩);have Hs6:=qh hs6;have Ho6:=qh (Ho5.out.trans ho6);clear h6 ho6 hnl b0 b1 b2 hs6 r5;go_upto_if 158 with fail
 go_cut [161] from 158 to 161 (fun v161 wx=>Hid (∃no wh,Sg wx rb s F R (rK4' s f i n4 n6) j6 no wh∧Off [rb] w wx∧(no=0→no6=0∧n4≤n6)))
 case first=>
  by_cases hlt:n6<n4
  ·have d1:decide (n6<n4)=true:=qt hlt;have Hw:=qh (zaO rb s j6 no6 wh6 F 2 (j5:Int) w6 Hs6.out.rr (by decide));go_wp2_with fail;refine Hw.out.mono ?_;rintro e w7 ⟨rfl,hr7,ho7⟩;have hfin:∃no wh,Sg w7 rb s F R (rK4' s f i n4 n6) j6 no wh∧Off [rb] w w7∧(no=0→no6=0∧n4≤n6):=by
    refine⟨_,_,⟨hr7,fun e=>?_,fun _=>?_⟩,Ho6.out.trans ho7,fun e=>?_⟩
    ·unfold wrN at e;split at e<;>omega
    ·by_cases h0:no6=0
     ·unfold wrN wrP;rw[if_pos h0,if_pos h0];refine⟨j5,rfl,?_⟩;have:=(Hs6.out.ok h0).1;unfold rK4 at this;rw[if_pos hlt] at this;exact this
     ·unfold wrN wrP;rw[if_neg h0,if_neg h0];exact Hs6.out.er h0
    ·unfold wrN at e;split at e<;>omega
   have Hfin:=qh hfin;clear hr7 ho7 hfin;go_wp2_with fail;go_meet
   exact Hfin
  ·have d1:decide (n6<n4)=false:=qd hlt;have Hfin:Hid (∃no wh,Sg w6 rb s F R (rK4' s f i n4 n6) j6 no wh∧Off [rb] w w6∧(no=0→no6=0∧n4≤n6)):=qh ⟨no6,wh6,Hs6.out.at (by unfold rK4 rK4';rw[if_neg hlt]),Ho6.out,fun e=>⟨e,by omega⟩⟩;go_wp2_with fail;go_meet
   exact Hfin
 case rest=>
  obtain⟨no7,wh7,hs7,ho7,he7⟩:=hcut.out;obtain⟨W7,hW7⟩:∃W7:World,W7=wc:=⟨_,rfl⟩;subst hW7;have Hs7:=qh hs7;have Ho7:=qh ho7;have He7:=qh he7;have Hm7:=qh (zbA rb s ⟨#[32]⟩ j6 no7 wh7 F W7 hs7.rr (fun h0=>(hs7.ok h0).2) (by decide) Hsp0.out);rw[zhC] at Hm7;clear hcut hs7 ho7 he7;go_wp2_with fail;refine Hm7.out.mono ?_;rintro e w8 ⟨rfl,hst⟩;have ho8:=hst.1;obtain⟨j8,no8,wh8,hs8⟩:=Sg.must (k:=rK5 s f i n4 n6) (t:=[32]) Hs7.out hst;have HE8:Hid (no8=0→no7=0∧j6≤j8):=qh (fun h0=>by
   by_cases h4:no7=0
   ·refine⟨h4,?_⟩;have hm2:=hst.2.1 h4;cases hm:zao (zal s [32] j6) with
    |error ep=>
     obtain⟨c,p⟩:=ep;rw[hm] at hm2;obtain⟨j',_,hr'⟩:=hm2;have h9:=hs8.rr.c2;rw[hr'.c2,h0] at h9;have:=zcw hm;simp at h9;omega
    |ok a=>
     rw[hm] at hm2;have h9:=hs8.rr.c1;rw[hm2.2.c1] at h9;simp at h9;have h8:=zaw hm;omega
   ·obtain⟨j',_,hr'⟩:=hst.2.2 h4;have h9:=hs8.rr.c2;rw[hr'.c2,h0] at h9;simp at h9;exact absurd h9 h4)
  have Hs8:=qh hs8;have Ho8:=qh (Ho7.out.trans ho8);have Hn8:=qh (zcu rb s j8 no8 wh8 F 0 w8 hs8.rr (by decide) (by decide));clear hst ho8 hs8;go_wp2_with fail;refine Hn8.out.mono ?_;intro e w9 h9;have ho9:=h9.1;have hnl:=h9;obtain⟨n9,j9,no9,wh9,rfl,c0,c1,c2,hs9⟩:=Sg.num (k:=rK6 s f i n4 n6) Hs8.out h9;have HJ9:Hid (no9=0→j8≤j9):=qh (fun h0=>by
   have h9:=(c2 h0).1;obtain⟨_,n,_,_,_,h5,_⟩:=hnl;have h6:=h5 h9;cases hp:numP s 0 j8 with
   |error ep=>
    obtain⟨c,p⟩:=ep;rw[hp] at h6;obtain⟨j',hr'⟩:=h6;have h7:=hs9.rr.c2;rw[hr'.c2,h0] at h7;have:=zbI hp;simp at h7;omega
   |ok vb=>
    obtain⟨v,b⟩:=vb;rw[hp] at h6;have h7:=hs9.rr.c1;rw[h6.2.c1] at h7;simp at h7;have:=zcx hp;omega)
  have Hcc:=qh (show 0≤n9∧n9≤1000009∧(no9=0→no8=0∧0≤n9∧n9≤512) from⟨c0,c1,c2⟩);have Ho9:=qh (Ho8.out.trans ho9);have Hs9:=qh hs9;obtain⟨_,_,_,_,_,t9,t10,t11⟩:=hs9.rr.form;have z9:=hs9.rr.z 9;have z10:=hs9.rr.z 10;have z11:=hs9.rr.z 11;clear h9 ho9 hnl c0 c1 c2 hs9;have hr10:=((Hs9.out.rr.set9 n4).set10 n6).set11 n9;have ho10:Off [rb] w (((w9.setCell ⟨rb,9,none⟩ (.int .i64 n4)).setCell ⟨rb,10,none⟩ (.int .i64 n6)).setCell ⟨rb,11,none⟩ (.int .i64 n9)):=((Ho9.out.trans (Off.setCell w9 rb 9 _)).trans (Off.setCell _ rb 10 _)).trans (Off.setCell _ rb 11 _);have hs10:=Hs9.out.rr' hr10;have hf10:RFM (((w9.setCell ⟨rb,9,none⟩ (.int .i64 n4)).setCell ⟨rb,10,none⟩ (.int .i64 n6)).setCell ⟨rb,11,none⟩ (.int .i64 n9)) B {f with least:=n4,most:=n6,shift:=n9} {F with a:=n4,b:=n6,c:=n9}:=by
   have h':=Hf.out.offR H.out ho10;exact⟨h'.nm,h'.l,h'.m,h'.r,h'.rd,rfl,rfl,rfl⟩
  have Hrow:=qh (ziw B rb s {f with least:=n4,most:=n6,shift:=n9} {F with a:=n4,b:=n6,c:=n9} true i j9 i0 no9 wh9 _ hr10 (by
    obtain⟨vis,hr⟩:=hf10.r;have:=Hk.out.le;exact⟨f.rows,vis,hr,by omega,by omega⟩) Ha.out.1 Ha.out.2.1 (qm hB ho10.size) hBr (fun h0=>by
    have h8:=(Hcc.out.2.2 h0).1;have h7:=HE8.out h8;have h6:=He7.out h7.1;have h5:=(Hb.out.2.2 h6.1);have h4:=HE5.out h5.1;have h3:=Ha.out.2.2 h4.1;refine⟨(hr10.ok h0).2,hf10,Hk.out.set (ql _) h3.2 h5.2 (Hcc.out.2.2 h0).2 h6.2,?_,(hs10.ok h0).2⟩;have:=HJ4.out h4.1;have:=HJ6.out h6.1;have:=HJ9.out h0;omega))
  have Hs10:=qh hs10;have Ho10:=qh ho10;clear hr10 ho10 hs10 hf10;go_wp2_with fail;refine Hrow.out.mono ?_;rintro e w11 ⟨rfl,hb11,h0,h1'⟩;have hbw:Below B w w11:=(Ho10.out.below hB (fun k hk=>by simp at hk;omega)).trans hb11;have hX:∃(R2:Except (Int×Nat) (Fm×Nat)) (j:Nat) (no wh:Int) (F2:RF),RR w11 rb s j no wh F2∧(match R2 with|.ok (f2,j2)=>no=0∧wh=0∧j=j2∧j2≤s.size∧RFM w11 B f2 F2∧R=.ok ({f2 with rounds:=true},j2)|.error (c,p)=>no=c∧wh=p∧c≠0∧R=.error (c,p)):=by
   by_cases hn:no9=0
   ·have h2:=h0 hn;have h3:=(Hs10.out.ok hn).1;unfold rK6 at h3;cases hst:zaF s {f with least:=n4,most:=n6,shift:=n9} true i j9 with
    |error ep=>
     obtain⟨c,p⟩:=ep;rw[hst] at h2 h3;obtain⟨hc,j,F',hr⟩:=h2;exact⟨.error (c,p),j,_,_,F',hr,rfl,rfl,hc,h3⟩
    |ok fj=>
     obtain⟨f2,j2⟩:=fj;rw[hst] at h2 h3;obtain⟨hj,F',hr,hfm⟩:=h2;exact⟨.ok (f2,j2),j2,0,0,F',hr,rfl,rfl,rfl,hj,hfm,h3⟩
   ·obtain⟨p,hp,hR⟩:=Hs10.out.er hn;exact⟨.error (no9,p),_,_,_,_,h1' hn,rfl,hp,hn,hR⟩
  obtain⟨R2,j,no,wh,F2,hr11,hm11⟩:=hX;have z8:=hr11.z 8;have f8:=hr11.form.2.2.2.2.1;have Hfin:Hid (RRow B rb s w R (.returned (.tuple #[])) (w11.setCell ⟨rb,8,none⟩ (.bool true))):=qh (by
   have hb12:Below B w (w11.setCell ⟨rb,8,none⟩ (.bool true)):=hbw.trans ((Off.setCell w11 rb 8 (.bool true)).below (qm hB hbw.size) (fun k hk=>by simp at hk;omega));cases R2 with
   |error ep=>
    obtain⟨c,p⟩:=ep;obtain⟨rfl,rfl,hc,hR⟩:=hm11;rw[hR];exact RRow.err hb12 hc (hr11.set8 true)
   |ok fj=>
    obtain⟨f2,j2⟩:=fj;obtain⟨rfl,rfl,rfl,hj,hfm,hR⟩:=hm11;rw[hR];exact⟨rfl,hb12,hj,_,hr11.set8 true,hfm.set8 hr11 true⟩)
  clear hbw hr11 hm11 h0 h1' hb11;go_wp2_with fail;refine bodyPost_ret (results_none rfl _ _ _) rfl ?_;exact Hfin.out
end Go.Proofs.YtgklikkddckgbaaGreatDoor.Mo
namespace Go.Proofs.YtgklikkddckgbaaGreatDoor
open Go.RowKit Go.Shelf Go.Lib
attribute [local go_sem] Oper.semAt_some
def zd7:Array Value:=((List.range 14).flatMap fun j=>[strL (zan j).1,strL (zan j).2.1,strL (zan j).2.2]).toArray
set_option maxRecDepth 100000 in
set_option maxHeartbeats 4000000 in
theorem zg4 (w:World):
  Calls Tryz.prog 111 #[] w fun e w'=>e=.returned (.slice (some ⟨w.heap.size,0,none⟩) 14 14)∧w'=w.alloc (.cells zd7 173):=by
 go_enter Tryz.func111,Tryz.ntmps111;have e:∀(c:Array Value),c=zd7→w.alloc (.cells c 173)=w.alloc (.cells zd7 173):=fun c h=>by rw[h]
 have He:=qh e;clear e;go_wp2_with fail;go_ret;exact⟨rfl,He.out _ (by kernel_rfl)⟩
end Go.Proofs.YtgklikkddckgbaaGreatDoor

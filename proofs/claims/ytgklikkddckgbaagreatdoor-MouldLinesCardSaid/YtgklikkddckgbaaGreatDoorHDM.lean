import Derived.Test.YtgklikkddckgbaaGreatDoorHDL
/- Lemmas of the claim. -/
set_option linter.all false
namespace Go.Proofs.YtgklikkddckgbaaGreatDoor.Mo
open Go.RowKit
def zcv (s:ByteArray) (letters:List UInt8) (i:Nat):Except (Int×Nat) (It×Nat):=match zav s i with
 |.error e=>.error e
 |.ok (cls,ref,j)=>match zaB s letters (s.size+1) [] j with
  |.error e=>.error e
  |.ok (ms,k)=>if¬endB s k∧¬isB s k 32 then .error (180,k) else .ok (⟨cls,ref,ms,i⟩,k)
def zfo (line:Int) (ms:List Mk):Option Mk:=if 0≤line then ms.find? (fun m=>zb0 m&&decide (line<m.n)) else none
theorem zdQ {s:ByteArray} {letters:List UInt8} {line:Int} {i:Nat}:zbC s letters line i=match zcv s letters i with
  |.error e=>.error e
  |.ok (x,k)=>match zfo line x.marks with|some m=>.error (182,m.at_)|none=>.ok (x,k):=by
 unfold zbC zcv zfo;cases hr:zav s i with
 |error e=>rfl
 |ok r=>
  obtain⟨cls,ref,j⟩:=r;simp only;cases hm:zaB s letters (s.size+1) [] j with
  |error e=>rfl
  |ok mk=>
   obtain⟨ms,k⟩:=mk;simp only;by_cases he:¬endB s k=true∧¬isB s k 32=true
   ·rw[if_pos he,if_pos he]
   ·rw[if_neg he,if_neg he];rfl
theorem zkZ:clsN 0<0:=by decide+kernel
theorem zmI (b:UInt8) (h0:65≤(b.toNat:Int)) (h1:(b.toNat:Int)≤90):(b.toNat:Int)-65+97=((b|||32).toNat:Int):=by
 have h:∀n,n<256→65≤n→n≤90→(((UInt8.ofNat n).toNat:Nat):Int)-65+97=(((UInt8.ofNat n|||32).toNat:Nat):Int):=by decide+kernel
 have:=h b.toNat b.toNat_lt (by omega) (by omega);rw[UInt8.ofNat_toNat] at this;exact this
theorem zfp (s:ByteArray) (i:Nat) (hi:i≤s.size):
  ((zaa s i).toNat=120∧i<s.size∧zav s i=.ok (-1,0,i+1))∨
  ((zaa s i).toNat≠120∧0≤clsN (zaa s i)∧i<s.size∧zav s i=.ok (clsN (zaa s i),0,i+1))∨
  ((zaa s i).toNat≠120∧clsN (zaa s i)<0∧65≤(zaa s i).toNat∧(zaa s i).toNat≤90∧0≤clsN (zaa s i|||32)∧i<s.size∧inB s (i+1) 49 57=false∧zav s i=.error (180,i+1))∨
  ((zaa s i).toNat≠120∧clsN (zaa s i)<0∧65≤(zaa s i).toNat∧(zaa s i).toNat≤90∧0≤clsN (zaa s i|||32)∧i<s.size∧inB s (i+1) 49 57=true∧zav s i=.ok (clsN (zaa s i|||32),(zaa s (i+1)).toNat-48,i+2))∨
  ((zaa s i).toNat≠120∧clsN (zaa s i)<0∧((zaa s i).toNat<65∨90<(zaa s i).toNat∨(65≤(zaa s i).toNat∧(zaa s i).toNat≤90∧clsN (zaa s i|||32)<0))∧zav s i=.error (180,i)):=by
 by_cases hlt:i<s.size
 ·have hb:isB s i 120=(((zaa s i).toNat:Int)==120):=by rw[zaA hlt,zar hlt]
  have hin:inB s i 65 90=(decide (65≤((zaa s i).toNat:Int))&&decide (((zaa s i).toNat:Int)≤90)):=by rw[zbw hlt,zar hlt]
  unfold zav;generalize zaa s i=b at*;by_cases h0:b.toNat=120
  ·left;refine⟨h0,hlt,?_⟩;rw[hb,if_pos (by simp[h0])]
  ·right;rw[if_neg (by rw[hb];simp;omega),if_neg (by simpa using hlt)];by_cases h1:0≤clsN b
   ·left;exact⟨h0,h1,hlt,by rw[if_pos h1]⟩
   ·right;rw[if_neg h1];by_cases h2:65≤b.toNat∧b.toNat≤90
    ·have hi2:inB s i 65 90=true:=(by rw[hin,decide_eq_true (by omega),decide_eq_true (by omega)];rfl);by_cases h3:0≤clsN (b|||32)
     ·rw[if_neg (by rw[hi2];simp;omega)];cases h4:inB s (i+1) 49 57 with
      |false=>left;exact⟨h0,by omega,h2.1,h2.2,h3,hlt,rfl,by rw[if_pos (by simp)]⟩
      |true=>right;left;exact⟨h0,by omega,h2.1,h2.2,h3,hlt,rfl,by rw[if_neg (by simp)]⟩
     ·right;right;exact⟨h0,by omega,.inr (.inr ⟨h2.1,h2.2,by omega⟩),by rw[if_pos (.inr (by omega))]⟩
    ·right;right;have hi2:inB s i 65 90=false:=by
      rw[hin];by_cases h3:65≤b.toNat
      ·rw[decide_eq_false (p:=((b.toNat:Int)≤90)) (by omega),Bool.and_false]
      ·rw[decide_eq_false (p:=(65≤(b.toNat:Int))) (by omega)];rfl
     exact⟨h0,by omega,by omega,by rw[if_pos (.inl (by rw[hi2];simp))]⟩
 ·right;right;right;right;have hb:zaa s i=0:=zbe hlt;rw[hb];refine⟨by decide,zkZ,.inl (by decide),?_⟩;unfold zav;rw[if_neg (by rw[zcE hlt];simp),if_pos hlt]
theorem zgR {s:ByteArray} {letters:List UInt8} {ms:List Mk} {i p:Nat} {c:Int} (h:za0 s letters ms i=.error (c,p)):c≠0:=by
 unfold za0 at h;by_cases hm:(if isB s i 126=true then 4 else 1)≤zaC ms (zaa s i).toNat
 ·rw[if_pos hm] at h;cases h;decide
 ·rw[if_neg hm] at h;split at h
  ·split at h
   ·cases h;decide
   ·split at h
    ·cases h;decide
    ·cases h
  ·cases hn:numP s 1 (i+1) with
   |error e=>
    obtain⟨c',p'⟩:=e;rw[hn] at h;cases h;exact zbI hn
   |ok ve=>
    rw[hn] at h;simp only at h;split at h
    ·cases h;decide
    ·cases h
theorem zj5 {s:ByteArray} {i j:Nat} {cls ref:Int} (h:zav s i=.ok (cls,ref,j)):j≤s.size:=by
 by_cases hi:i<s.size
 ·rcases zfp s i (by omega) with⟨_,h1,h2⟩|⟨_,_,h1,h2⟩|⟨_,_,_,_,_,_,_,h2⟩|⟨_,_,_,_,_,h1,h3,h2⟩|⟨_,_,_,h2⟩
  ·rw[h2] at h;cases h;omega
  ·rw[h2] at h;cases h;omega
  ·rw[h2] at h;cases h
  ·rw[h2] at h;cases h;have:=zb7 h3;omega
  ·rw[h2] at h;cases h
 ·unfold zav at h;rw[if_neg (by rw[zcE hi];simp),if_pos hi] at h;cases h
theorem zgS {s:ByteArray} {letters:List UInt8}:∀(f:Nat) (ms:List Mk) (i:Nat) {ms':List Mk} {k:Nat},i≤s.size→zaB s letters f ms i=.ok (ms',k)→k≤s.size
 |0,ms,i,ms',k,hi,h=>by unfold zaB at h;cases h;exact hi
 |f+1,ms,i,ms',k,hi,h=>by
  unfold zaB at h;split at h
  ·rename_i hc;cases hm:za0 s letters ms i with
   |error e=>rw[hm] at h;cases h
   |ok mj=>
    obtain⟨m,j⟩:=mj;rw[hm] at h;obtain⟨h1,h2,h3⟩:=zcW hc.1 hc.2 hm;exact zgS f _ j (by have:=(zdz h2).2;omega) h
  ·cases h;exact hi
theorem zim {s:ByteArray} {letters:List UInt8} {i k:Nat} {x:It} (h:zcv s letters i=.ok (x,k)):k≤s.size:=by
 unfold zcv at h;cases hr:zav s i with
 |error e=>rw[hr] at h;cases h
 |ok r=>
  obtain⟨cls,ref,j⟩:=r;rw[hr] at h;simp only at h;cases hm:zaB s letters (s.size+1) [] j with
  |error e=>rw[hm] at h;cases h
  |ok mk=>
   obtain⟨ms,k2⟩:=mk;rw[hm] at h;simp only at h;split at h
   ·cases h
   ·cases h;exact zgS _ _ _ (zj5 hr) hm
theorem Off.into {L L':List Nat} {w W W':World} (h:Off L w W) (h':Off L' W W') (hl:∀k∈L',k∈L∨w.heap.size≤k):Off L w W':=
 ⟨h'.os.trans h.os,h'.tape.trans h.tape,h'.output.trans h.output,qm h.size h'.size,fun k hk hn=>(h'.block k (Nat.lt_of_lt_of_le hk h.size) (fun hm=>(hl k hm).elim hn (fun h=>by omega))).trans (h.block k hk hn)⟩
structure RhJ (w W:World) (rb:Nat) (cls ref:Int) (v:Value) (a:Nat):Prop where
 off:Off [rb] w W
 res:W.heap[w.heap.size]?=some (.cells #[.int .i64 0,.int .i64 0,.slice none 0 0,.int .i64 0] 99 (0,0))
 x:W.heap[w.heap.size+1]?=some (.cells (xrC cls ref v a) 99 (0,0))
theorem RhJ.offR {w W W':World} {rb:Nat} {cls ref:Int} {v:Value} {a:Nat} (h:RhJ w W rb cls ref v a) (hr:rb<w.heap.size) (ho:Off [rb] W W'):RhJ w W' rb cls ref v a:=
 ⟨h.off.trans ho,(ho.block _ (qg h.res).1 (by simp;omega)).trans h.res,(ho.block _ (qg h.x).1 (by simp;omega)).trans h.x⟩
theorem RhJ.setX {w W:World} {rb:Nat} {cls ref:Int} {v:Value} {a:Nat} (h:RhJ w W rb cls ref v a) (hr:rb<w.heap.size) (c:Int):
  RhJ w (W.setCell ⟨w.heap.size+1,0,none⟩ (.int .i64 c)) rb c ref v a∧RhJ w (W.setCell ⟨w.heap.size+1,1,none⟩ (.int .i64 c)) rb cls c v a:=by
 have o0:=Off.setCell W (w.heap.size+1) 0 (.int .i64 c);have o1:=Off.setCell W (w.heap.size+1) 1 (.int .i64 c);have hl:=(qg h.res).1;have hk:∀{W':World},Off [w.heap.size+1] W W'→Off [rb] w W':=fun{W'} o=>⟨o.os.trans h.off.os,o.tape.trans h.off.tape,o.output.trans h.off.output,qm h.off.size o.size,fun k hk hn=>(o.block k (by omega) (by simp;omega)).trans (h.off.block k hk hn)⟩;exact⟨⟨hk o0,(o0.block _ hl (by simp)).trans h.res,qs W _ 0 _ _ (.int .i64 c) h.x⟩,⟨hk o1,(o1.block _ hl (by simp)).trans h.res,qs W _ 1 _ _ (.int .i64 c) h.x⟩⟩
theorem RR.setX {w W:World} {rb:Nat} {s:ByteArray} {F:RF} {j:Nat} {no wh:Int} (h:RR W rb s j no wh F) (hr:rb<w.heap.size) (o:Nat) (c:Value):RR (W.setCell ⟨w.heap.size+1,o,none⟩ c) rb s j no wh F:=
 h.off (Off.setCell W (w.heap.size+1) o c) (by simp;omega)
def RhyJ (w wx:World) (rb:Nat) (s:ByteArray) (F:RF) (i:Nat):Prop:=∃cls ref,RhJ w wx rb cls ref (.slice none 0 0) i∧match zav s i with
 |.ok (c,r,j)=>cls=c∧ref=r∧j≤s.size∧RR wx rb s j 0 0 F
 |.error (c,p)=>c≠0∧∃j,RR wx rb s j c p F
def RhL (w W:World) (rb:Nat) (s:ByteArray) (F:RF) (letters:List UInt8) (cls ref:Int) (i:Nat) (RM:Except (Int×Nat) (List Mk×Nat)):Prop:=
 (∃ms v j q,RhJ w W rb cls ref v i∧MksM W w.heap.size v ms∧RR W rb s j 0 0 F∧j≤s.size∧s.size-j<q∧zaB s letters q ms j=RM∧ms.length≤j)∨
 (∃(c:Int) (p j:Nat) (A:Option Addr) (n cp:Nat),c≠0∧RhJ w W rb cls ref (.slice A n cp) i∧RR W rb s j c p F∧RM=.error (c,p))
def RhM (w w':World) (rb:Nat) (s:ByteArray) (F:RF) (cls ref:Int) (a:Nat) (ms:List Mk) (R:Except (Int×Nat) (Mk×Nat)):Prop:=match R with
 |.ok (m,j)=>RR w' rb s j 0 0 F∧∃v',RhJ w w' rb cls ref v' a∧MksM w' w.heap.size v' (ms++[m])
 |.error (c,p)=>∃j,RR w' rb s j c p F∧∃A n cp,RhJ w w' rb cls ref (.slice A n cp) a
theorem RhJ.mark {w W w':World} {rb:Nat} {s:ByteArray} {F:RF} {cls ref:Int} {v:Value} {a:Nat} {ms:List Mk} {R:Except (Int×Nat) (Mk×Nat)} (h:RhJ w W rb cls ref v a) (hr:rb<w.heap.size) (hm:MksM W w.heap.size v ms) (hR:zj0 w.heap.size rb (w.heap.size+1) s F cls ref a v ms W R w'):RhM w w' rb s F cls ref a ms R:=by
 obtain⟨ho,hR⟩:=hR;have hge:∀k∈v.ownBlock.toList,w.heap.size≤k:=fun k hk=>by rw[Option.mem_toList] at hk;exact(hm.lt k hk).1
 have hno:w.heap.size∉v.ownBlock.toList:=fun hk=>by
  rw[Option.mem_toList] at hk;rcases zac hm h.res (by decide) with h1|h1
  ·rw[h1] at hk;cases hk
  ·exact h1 hk
 have hof:Off [rb] w w':=h.off.into ho (fun k hk=>by
  simp only[List.mem_cons] at hk;rcases hk with rfl|rfl|hk
  ·exact .inl (by simp)
  ·right;omega
  ·exact .inr (hge k hk))
 have hres:=(ho.block w.heap.size (qg h.res).1 (by simp only[List.mem_cons,not_or];exact⟨by omega,by omega,hno⟩)).trans h.res;cases R with
 |error e=>
  obtain⟨c,p⟩:=e;obtain⟨⟨j,hr'⟩,A,n,cp,hx⟩:=hR;exact⟨j,hr',A,n,cp,hof,hres,hx⟩
 |ok mj=>
  obtain⟨m,j⟩:=mj;obtain⟨hr',v',hx,hm'⟩:=hR;exact⟨hr',v',⟨hof,hres,hx⟩,hm'⟩
def zmJ (rb:Nat) (s:ByteArray) (F:RF) (w:World) (r:Except (Int×Nat) (It×Nat)) (e:Ending) (w':World):Prop:=Off [rb] w w'∧
 match r with
 |.ok (x,k)=>∃v,e=.returned (.agg (xrC x.cls x.ref v x.at_))∧MksM w' w.heap.size v x.marks∧RR w' rb s k 0 0 F∧k≤s.size
 |.error (c,p)=>c≠0∧(∃j,RR w' rb s j c p F)∧∃cls ref a A n cp,e=.returned (.agg (xrC cls ref (.slice A n cp) a))
theorem zcf {W:World} {T:Array Value} {Q:Ending→World→Prop} {P:Nat} {v0 v1 v2 v3:Value} (h2:T.getD 2 undef=.pointer (some ⟨P,0,none⟩)) (r:W.heap[P]?=some (.cells #[v0,v1,v2,v3] 99 (0,0))) (hQ:Q (.returned (.agg #[v0,v1,v2,v3])) W):
  bodyPost Tryz.prog Tryz.f102 Q Exit.ret {tmps:=T,defers:=[]} W:=by
 have d0:W.cell? ⟨P,0,none⟩=some v0:=qc _ _ _ _ _ (0,0) r;have d1:W.cell? ⟨P,1,none⟩=some v1:=qc _ _ _ _ _ (0,0) r;have d2:W.cell? ⟨P,2,none⟩=some v2:=qc _ _ _ _ _ (0,0) r;have d3:W.cell? ⟨P,3,none⟩=some v3:=qc _ _ _ _ _ (0,0) r;have h2':T[2]?.getD undef=.pointer (some ⟨P,0,none⟩):=by simpa using h2
 refine bodyPost_ret (v:=.agg #[v0,v1,v2,v3]) ?_ rfl hQ;simp[results,Tryz.f102,go_sem,h2',d0,d1,d2,d3,Tryz.isAgg99,Tryz.sizeOf99]
theorem RhJ.fin {w W:World} {rb:Nat} {cls ref:Int} {v:Value} {a:Nat} (h:RhJ w W rb cls ref v a) (v0 v1 v2 v3:Value):
  Off [w.heap.size] W ((((W.setCell ⟨w.heap.size,0,none⟩ v0).setCell ⟨w.heap.size,1,none⟩ v1).setCell ⟨w.heap.size,2,none⟩ v2).setCell ⟨w.heap.size,3,none⟩ v3)∧
  ((((W.setCell ⟨w.heap.size,0,none⟩ v0).setCell ⟨w.heap.size,1,none⟩ v1).setCell ⟨w.heap.size,2,none⟩ v2).setCell ⟨w.heap.size,3,none⟩ v3).heap[w.heap.size]?=some (.cells #[v0,v1,v2,v3] 99 (0,0)):=
 ⟨(((Off.setCell W w.heap.size 0 v0).trans (Off.setCell _ w.heap.size 1 v1)).trans (Off.setCell _ w.heap.size 2 v2)).trans (Off.setCell _ w.heap.size 3 v3),
  qs _ _ 3 _ _ v3 (qs _ _ 2 _ _ v2 (qs _ _ 1 _ _ v1 (qs W _ 0 _ _ v0 h.res)))⟩
set_option maxRecDepth 100000 in
set_option maxHeartbeats 4000000 in
theorem zj6 (Bl rb:Nat) (s:ByteArray) (i:Nat) (F:RF) (letters:List UInt8) (w:World) (h:RR w rb s i 0 0 F) (hi:i≤s.size) (hl:w.ownsRow Bl 5 1 F.vl letters.length (byC letters)) (hll:letters.length≤70000):
  Calls Tryz.prog 102 #[.pointer (some ⟨rb,0,none⟩)] w (zmJ rb s F w (zcv s letters i)):=by
 have hrb:=h.lt;have hsz:=h.sz;have h0:RhJ w ((w.alloc (.cells #[.int .i64 0,.int .i64 0,.slice none 0 0,.int .i64 0] 99)).alloc (.cells #[.int .i64 (-1),.int .i64 0,.slice none 0 0,.int .i64 i] 99)) rb (-1) 0 (.slice none 0 0) i:=by
  refine⟨((Off.alloc _ w _).trans (Off.alloc _ _ _)),(qa _ _ _ (by simp)).trans (qn w _),?_⟩;have:=qn (w.alloc (.cells #[.int .i64 0,.int .i64 0,.slice none 0 0,.int .i64 0] 99)) (.cells #[.int .i64 (-1),.int .i64 0,.slice none 0 0,.int .i64 i] 99);rw[World.size_alloc] at this;exact this
 have r1a:=h.c1;have hbA:Below w.heap.size w ((w.alloc (.cells #[.int .i64 0,.int .i64 0,.slice none 0 0,.int .i64 0] 99)).alloc (.cells #[.int .i64 (-1),.int .i64 0,.slice none 0 0,.int .i64 i] 99)):=((qb _ _).alloc (ql _) _).alloc (by simp) _;have hb0:byC0 0 s i=zaa s i:=by unfold byC0;rw[if_pos rfl]
 have Hc:=qh (rc_q rb s i 0 0 F _ (h.below hbA));rw[hb0] at Hc;have H1:=qh (fun n=>And.intro (h0.offR hrb (Off.drewN _ _ n)) ((h.below hbA).drewN n));have H:=qh h;have Hl:=qh hl;generalize hR:zcv s letters i=R;have HR:=qh hR;clear h h0 hbA hl hR hb0;go_enter Tryz.func102,Tryz.ntmps102;go_wp2_with fail;refine Hc.out.mono ?_;rintro e w2 ⟨rfl,n2,rfl⟩;obtain⟨hJ1,hr1⟩:=H1.out n2;have HJ1:=qh hJ1;have Hr1:=qh hr1;clear hJ1 hr1 H1 Hc r1a;go_upto_if 13 with fail
 generalize ((w.alloc (.cells #[.int .i64 0,.int .i64 0,.slice none 0 0,.int .i64 0] 99)).alloc (.cells #[.int .i64 (-1),.int .i64 0,.slice none 0 0,.int .i64 i] 99)).drewN n2=W1 at*;have hw1:IntKind.i64.wrap ((i:Int)+1)=(i:Int)+1:=qi _ (by omega);have hc1:((i+1:Nat):Int)=(i:Int)+1:=by omega
 have H2:Hid (RR (W1.setCell ⟨rb,1,none⟩ (.int .i64 ((i:Int)+1))) rb s (i+1) 0 0 F∧RhJ w (W1.setCell ⟨rb,1,none⟩ (.int .i64 ((i:Int)+1))) rb (-1) 0 (.slice none 0 0) i):=qh (by
  rw[←hc1];exact⟨Hr1.out.to (by omega),HJ1.out.offR hrb (Off.setCell W1 rb 1 _)⟩)
 have hways:=zfp s i hi;have Hcl:=qh (fun W=>zfS (zfn (zaa s i) W));have Hcl2:=qh (fun W=>zfS (zfn (zaa s i|||32) W));have Hor:=qh (zmI (zaa s i));generalize hbc:zaa s i=bc at*;obtain⟨uc,huc⟩:∃uc:UInt8,bc|||32=uc:=⟨_,rfl⟩
 rw[huc] at hways Hcl2 Hor;clear huc;go_cut [83] from 13 to 83 (fun v83 wx=>Hid (RhyJ w wx rb s F i))
 case first=>
  have r1:=Hr1.out.c1;have z1:=Hr1.out.z 1;rcases hways with⟨h1,hlt,hP⟩|⟨h1,h2,hlt,hP⟩|⟨h1,h2,h3,h4,h5,hlt,h6,hP⟩|⟨h1,h2,h3,h4,h5,hlt,h6,hP⟩|⟨h1,h2,h3,hP⟩
  ·have q0:((bc.toNat:Int)==120)=true:=(by simp[h1]);have Hfin:Hid (RhyJ w (W1.setCell ⟨rb,1,none⟩ (.int .i64 ((i:Int)+1))) rb s F i):=qh ⟨-1,0,H2.out.2,by rw[hP];exact⟨rfl,rfl,by omega,H2.out.1⟩⟩;clear hP h1;go_wp2_with fail;go_meet
   exact Hfin
  ·have q0:((bc.toNat:Int)==120)=false:=(by simp;omega);have d1:decide (0≤clsN bc)=true:=qt h2;have hx:=HJ1.out.x;have x0:=qc _ _ 0 _ _ (0,0) hx;have xz0:=qf _ _ 0 _ _ hx;have Hs:=qh (RR.setX Hr1.out hrb 0 (.int .i64 (clsN bc)));have r2:=Hs.out.c1;have rz2:=Hs.out.z 1;have hfin:RhyJ w ((W1.setCell ⟨w.heap.size+1,0,none⟩ (.int .i64 (clsN bc))).setCell ⟨rb,1,none⟩ (.int .i64 ((i:Int)+1))) rb s F i:=by
    rw[←hc1];exact⟨clsN bc,0,(HJ1.out.setX hrb (clsN bc)).1.offR hrb (Off.setCell _ rb 1 _),by rw[hP];exact⟨rfl,rfl,by omega,Hs.out.to (by omega)⟩⟩
   have Hfin:=qh hfin;clear hP h1 h2 hfin hx;go_wp2_with fail;refine(Hcl.out _).mono ?_;rintro e w2 ⟨rfl,rfl⟩;go_wp2_with fail;refine(Hcl.out _).mono ?_;rintro e w2 ⟨rfl,rfl⟩;go_wp2_with fail;go_meet
   exact Hfin
  ·have q0:((bc.toNat:Int)==120)=false:=(by simp;omega);have d1:decide (0≤clsN bc)=false:=qd (by omega);have d2:decide (0≤clsN uc)=true:=qt h5;have d3:decide (65≤(bc.toNat:Int))=true:=qt (by omega);have d4:decide ((bc.toNat:Int)≤90)=true:=qt (by omega);have hu1:IntKind.u8.wrap ((bc.toNat:Int)-65)=(bc.toNat:Int)-65:=zfI (by omega) (by omega);have hu2:IntKind.u8.wrap ((bc.toNat:Int)-65+97)=(uc.toNat:Int):=(by rw[Hor.out (by omega) (by omega)];exact zfI (by omega) (by have:=uc.toNat_lt;omega));have hx:=HJ1.out.x;have x0:=qc _ _ 0 _ _ (0,0) hx;have xz0:=qf _ _ 0 _ _ hx;have Hs:=qh (RR.setX Hr1.out hrb 0 (.int .i64 (clsN uc)));have r2:=Hs.out.c1;have rz2:=Hs.out.z 1;have h7:RR ((W1.setCell ⟨w.heap.size+1,0,none⟩ (.int .i64 (clsN uc))).setCell ⟨rb,1,none⟩ (.int .i64 ((i:Int)+1))) rb s (i+1) 0 0 F∧RhJ w ((W1.setCell ⟨w.heap.size+1,0,none⟩ (.int .i64 (clsN uc))).setCell ⟨rb,1,none⟩ (.int .i64 ((i:Int)+1))) rb (clsN uc) 0 (.slice none 0 0) i:=by
    rw[←hc1];exact⟨Hs.out.to (by omega),(HJ1.out.setX hrb (clsN uc)).1.offR hrb (Off.setCell _ rb 1 _)⟩
   have H7:=qh h7;have HP:=qh hP;clear hP h1 h2 h7 hx h5;go_wp2_with fail;refine(Hcl.out _).mono ?_;rintro e w2 ⟨rfl,rfl⟩;go_wp2_with fail;refine(Hcl2.out _).mono ?_;rintro e w2 ⟨rfl,rfl⟩;go_wp2_with fail;refine(Hcl2.out _).mono ?_;rintro e w2 ⟨rfl,rfl⟩;go_wp2_with fail;obtain⟨hr7,hJ7⟩:=H7.out;generalize (W1.setCell ⟨w.heap.size+1,0,none⟩ (.int .i64 (clsN uc))).setCell ⟨rb,1,none⟩ (.int .i64 ((i:Int)+1))=W2 at*;have Hr7:=qh hr7;have HJ7:=qh hJ7;have hb2:byC0 0 s (i+1)=zaa s (i+1):=(by unfold byC0;rw[if_pos rfl]);have Hc2:=qh (fun n=>rc_q rb s (i+1) 0 0 F (W2.drewN n) (hr7.drewN n));have Hc20:=qh (Hc2.out 0);have hin:=zgP (no:=0) (s:=s) (i:=i+1) (a:=49) (b:=57) rfl (by omega);have h6':=h6;rw[hb2] at Hc2 Hc20 hin;rw[hin] at h6;clear hin H7 r2 rz2 x0 xz0 r1 z1 hr7 hJ7 Hs hb2;have hR3:R=.error (180,i+1):=(by rw[←HR.out];unfold zcv;rw[HP.out]);have HR3:=qh hR3;clear h6' hR3;have hb3:((zaa s (i+1)).toNat:Int)<49∨(49≤((zaa s (i+1)).toNat:Int)∧57<((zaa s (i+1)).toNat:Int)):=by
    by_cases g1:((zaa s (i+1)).toNat:Int)<49
    ·exact .inl g1
    ·right;refine⟨by omega,?_⟩;by_cases g2:57<((zaa s (i+1)).toNat:Int)
     ·exact g2
     ·rw[decide_eq_true (by omega),decide_eq_true (by omega)] at h6;cases h6
   generalize zaa s (i+1)=b2 at*;have Hbad:=qh (fun n=>zbu rb s (i+1) 0 0 F (W2.drewN n) (Hr7.out.drewN n));have HE:Hid (∀n w5,RR w5 rb s (i+1) (wrN 0 180) (wrP 0 0 ((i+1:Nat):Int)) F→Off [rb] (W2.drewN n) w5→RhJ w w5 rb (clsN uc) 0 (.slice none 0 0) i):=qh (fun n w5 hr5 ho5=>HJ7.out.offR hrb ((Off.drewN _ W2 n).trans ho5));clear h6;rcases hb3 with g1|⟨g1,g2⟩
   ·have e1:decide ((b2.toNat:Int)<49)=true:=qt g1;refine Hc20.out.mono ?_;rintro e w4 ⟨rfl,n4,rfl⟩;go_wp2_with fail;refine(Hbad.out _).mono ?_;rintro e w5 ⟨rfl,hr5,ho5⟩;have hJ5:=HE.out _ _ hr5 ho5;have x0:w5.cell? ⟨w.heap.size+1,0,none⟩=some (.int .i64 (clsN uc)):=qc _ _ 0 _ _ (0,0) hJ5.x;have x1:w5.cell? ⟨w.heap.size+1,1,none⟩=some (.int .i64 0):=qc _ _ 1 _ _ (0,0) hJ5.x;have x2:w5.cell? ⟨w.heap.size+1,2,none⟩=some (.slice none 0 0):=qc _ _ 2 _ _ (0,0) hJ5.x;have x3:w5.cell? ⟨w.heap.size+1,3,none⟩=some (.int .i64 i):=qc _ _ 3 _ _ (0,0) hJ5.x;have y0:=qc _ _ 0 _ _ (0,0) hJ5.res;have y1:=qc _ _ 1 _ _ (0,0) hJ5.res;have y2:=qc _ _ 2 _ _ (0,0) hJ5.res;have y3:=qc _ _ 3 _ _ (0,0) hJ5.res;have z0:=qf _ _ 0 _ _ hJ5.res;have z1:=qf _ _ 1 _ _ hJ5.res;have z2:=qf _ _ 2 _ _ hJ5.res;have z3:=qf _ _ 3 _ _ hJ5.res;have hfin:=hJ5.fin (.int .i64 (clsN uc)) (.int .i64 0) (.slice none 0 0) (.int .i64 i);have hofin:Off [rb] w _:=Off.into hJ5.off hfin.1 (fun k hk=>by simp at hk;omega);have hrfin:=hr5.off hfin.1 (by simp;omega);have Hfin:=qh hfin;have Hofin:=qh hofin;have Hrfin:=qh hrfin;clear hr5 ho5 hJ5 hfin hofin hrfin;go_wp2_with fail;refine zcf rfl Hfin.out.2 ⟨Hofin.out,?_⟩;rw[HR3.out];exact⟨by decide,⟨_,Hrfin.out⟩,_,_,_,_,_,_,rfl⟩
   ·have n1:¬(b2.toNat:Int)<49:=(by omega);have e1:decide ((b2.toNat:Int)<49)=false:=qd n1;have e2:decide (57<(b2.toNat:Int))=true:=qt g2;refine Hc20.out.mono ?_;rintro e w4 ⟨rfl,n4,rfl⟩;go_wp2_with fail;refine(Hc2.out _).mono ?_;rintro e w4 ⟨rfl,n5,rfl⟩;go_wp2_with fail;refine(Hbad.out _).mono ?_;rintro e w5 ⟨rfl,hr5,ho5⟩;have hJ5:=HE.out _ _ hr5 ho5;have x0:w5.cell? ⟨w.heap.size+1,0,none⟩=some (.int .i64 (clsN uc)):=qc _ _ 0 _ _ (0,0) hJ5.x;have x1:w5.cell? ⟨w.heap.size+1,1,none⟩=some (.int .i64 0):=qc _ _ 1 _ _ (0,0) hJ5.x;have x2:w5.cell? ⟨w.heap.size+1,2,none⟩=some (.slice none 0 0):=qc _ _ 2 _ _ (0,0) hJ5.x;have x3:w5.cell? ⟨w.heap.size+1,3,none⟩=some (.int .i64 i):=qc _ _ 3 _ _ (0,0) hJ5.x;have y0:=qc _ _ 0 _ _ (0,0) hJ5.res;have y1:=qc _ _ 1 _ _ (0,0) hJ5.res;have y2:=qc _ _ 2 _ _ (0,0) hJ5.res;have y3:=qc _ _ 3 _ _ (0,0) hJ5.res;have z0:=qf _ _ 0 _ _ hJ5.res;have z1:=qf _ _ 1 _ _ hJ5.res;have z2:=qf _ _ 2 _ _ hJ5.res;have z3:=qf _ _ 3 _ _ hJ5.res;have hfin:=hJ5.fin (.int .i64 (clsN uc)) (.int .i64 0) (.slice none 0 0) (.int .i64 i);have hofin:Off [rb] w _:=Off.into hJ5.off hfin.1 (fun k hk=>by simp at hk;omega);have hrfin:=hr5.off hfin.1 (by simp;omega);have Hfin:=qh hfin;have Hofin:=qh hofin;have Hrfin:=qh hrfin;clear hr5 ho5 hJ5 hfin hofin hrfin;go_wp2_with fail;refine zcf rfl Hfin.out.2 ⟨Hofin.out,?_⟩;rw[HR3.out];exact⟨by decide,⟨_,Hrfin.out⟩,_,_,_,_,_,_,rfl⟩
  ·have q0:((bc.toNat:Int)==120)=false:=(by simp;omega);have d1:decide (0≤clsN bc)=false:=qd (by omega);have d2:decide (0≤clsN uc)=true:=qt h5;have d3:decide (65≤(bc.toNat:Int))=true:=qt (by omega);have d4:decide ((bc.toNat:Int)≤90)=true:=qt (by omega);have hu1:IntKind.u8.wrap ((bc.toNat:Int)-65)=(bc.toNat:Int)-65:=zfI (by omega) (by omega);have hu2:IntKind.u8.wrap ((bc.toNat:Int)-65+97)=(uc.toNat:Int):=(by rw[Hor.out (by omega) (by omega)];exact zfI (by omega) (by have:=uc.toNat_lt;omega));have hx:=HJ1.out.x;have x0:=qc _ _ 0 _ _ (0,0) hx;have xz0:=qf _ _ 0 _ _ hx;have Hs:=qh (RR.setX Hr1.out hrb 0 (.int .i64 (clsN uc)));have r2:=Hs.out.c1;have rz2:=Hs.out.z 1;have h7:RR ((W1.setCell ⟨w.heap.size+1,0,none⟩ (.int .i64 (clsN uc))).setCell ⟨rb,1,none⟩ (.int .i64 ((i:Int)+1))) rb s (i+1) 0 0 F∧RhJ w ((W1.setCell ⟨w.heap.size+1,0,none⟩ (.int .i64 (clsN uc))).setCell ⟨rb,1,none⟩ (.int .i64 ((i:Int)+1))) rb (clsN uc) 0 (.slice none 0 0) i:=by
    rw[←hc1];exact⟨Hs.out.to (by omega),(HJ1.out.setX hrb (clsN uc)).1.offR hrb (Off.setCell _ rb 1 _)⟩
   have H7:=qh h7;have HP:=qh hP;clear hP h1 h2 h7 hx h5;go_wp2_with fail;refine(Hcl.out _).mono ?_;rintro e w2 ⟨rfl,rfl⟩;go_wp2_with fail;refine(Hcl2.out _).mono ?_;rintro e w2 ⟨rfl,rfl⟩;go_wp2_with fail;refine(Hcl2.out _).mono ?_;rintro e w2 ⟨rfl,rfl⟩;go_wp2_with fail;obtain⟨hr7,hJ7⟩:=H7.out;generalize (W1.setCell ⟨w.heap.size+1,0,none⟩ (.int .i64 (clsN uc))).setCell ⟨rb,1,none⟩ (.int .i64 ((i:Int)+1))=W2 at*;have Hr7:=qh hr7;have HJ7:=qh hJ7;have hb2:byC0 0 s (i+1)=zaa s (i+1):=(by unfold byC0;rw[if_pos rfl]);have Hc2:=qh (fun n=>rc_q rb s (i+1) 0 0 F (W2.drewN n) (hr7.drewN n));have Hc20:=qh (Hc2.out 0);have hin:=zgP (no:=0) (s:=s) (i:=i+1) (a:=49) (b:=57) rfl (by omega);have h6':=h6;rw[hb2] at Hc2 Hc20 hin;rw[hin] at h6;clear hin H7 r2 rz2 x0 xz0 r1 z1 hr7 hJ7 Hs hb2;have HI:Hid (i+1<s.size):=qh (zb7 (h6':inB s (i+1) 49 57=true));simp only[Bool.and_eq_true,decide_eq_true_eq] at h6;generalize zaa s (i+1)=b2 at*;have e1:decide ((b2.toNat:Int)<49)=false:=qd (by omega);have e2:decide (57<(b2.toNat:Int))=false:=qd (by omega);have n1:¬(b2.toNat:Int)<49:=(by omega);have n2':¬57<(b2.toNat:Int):=(by omega);have hu3:IntKind.u8.wrap ((b2.toNat:Int)-48)=(b2.toNat:Int)-48:=zfI (by omega) (by omega);have hc2:((i+2:Nat):Int)=(i:Int)+1+1:=(by omega);have hw2:IntKind.i64.wrap ((i:Int)+1+1)=(i:Int)+1+1:=qi _ (by omega);have hx7:=HJ7.out.x;have y1:=qc _ _ 1 _ _ (0,0) hx7;have yz1:=qf _ _ 1 _ _ hx7;have Hs2:=qh (fun n=>RR.setX (Hr7.out.drewN n) hrb 1 (.int .i64 ((b2.toNat:Int)-48)));have t1:=fun n=>(Hs2.out n).c1;have tz1:=fun n=>(Hs2.out n).z 1;have hfin:∀n,RhyJ w (((W2.drewN n).setCell ⟨w.heap.size+1,1,none⟩ (.int .i64 ((b2.toNat:Int)-48))).setCell ⟨rb,1,none⟩ (.int .i64 ((i:Int)+1+1))) rb s F i:=fun n=>by
    rw[←hc2];have hlt2:=Hr7.out.sz;have h9:=HI.out;exact⟨clsN uc,(b2.toNat:Int)-48,((HJ7.out.offR hrb (Off.drewN _ W2 n)).setX hrb ((b2.toNat:Int)-48)).2.offR hrb (Off.setCell _ rb 1 _),by rw[HP.out];exact⟨rfl,rfl,by omega,(Hs2.out n).to (by omega)⟩⟩
   have Hfin:=qh hfin;clear hc2 hfin hx7;refine Hc20.out.mono ?_;rintro e w4 ⟨rfl,n4,rfl⟩;go_wp2_with fail;refine(Hc2.out _).mono ?_;rintro e w4 ⟨rfl,n5,rfl⟩;go_wp2_with fail;refine(Hc2.out _).mono ?_;rintro e w4 ⟨rfl,n6,rfl⟩;go_wp2_with fail;go_meet
   exact Hfin.out _
  ·have q0:((bc.toNat:Int)==120)=false:=(by simp;omega);have d1:decide (0≤clsN bc)=false:=qd (by omega);have Hbad:=qh (zbu rb s i 0 0 F W1 Hr1.out);have HB:Hid (∀w4,RR w4 rb s i (wrN 0 180) (wrP 0 0 (i:Int)) F→Off [rb] W1 w4→RhyJ w w4 rb s F i):=qh (fun w4 hr4 ho4=>⟨-1,0,HJ1.out.offR hrb ho4,by rw[hP];exact⟨by decide,_,hr4⟩⟩);clear hP h1 h2;have hw3:((bc.toNat:Int)<65)∨(65≤(bc.toNat:Int)∧90<(bc.toNat:Int))∨(65≤(bc.toNat:Int)∧(bc.toNat:Int)≤90∧clsN uc<0):=(by omega);clear h3;rcases hw3 with g1|⟨g1,g2⟩|⟨g1,g2,g3⟩
   ·have d3:decide (65≤(bc.toNat:Int))=false:=qd (by omega);go_wp2_with fail;refine(Hcl.out _).mono ?_;rintro e w2 ⟨rfl,rfl⟩;go_wp2_with fail;refine Hbad.out.mono ?_;rintro e w4 ⟨rfl,hr4,ho4⟩;have Hfin:=qh (HB.out w4 hr4 ho4);clear hr4 ho4;go_wp2_with fail;go_meet
    exact Hfin
   ·have d3:decide (65≤(bc.toNat:Int))=true:=qt g1;have d4:decide ((bc.toNat:Int)≤90)=false:=qd (by omega);go_wp2_with fail;refine(Hcl.out _).mono ?_;rintro e w2 ⟨rfl,rfl⟩;go_wp2_with fail;refine Hbad.out.mono ?_;rintro e w4 ⟨rfl,hr4,ho4⟩;have Hfin:=qh (HB.out w4 hr4 ho4);clear hr4 ho4;go_wp2_with fail;go_meet
    exact Hfin
   ·have d3:decide (65≤(bc.toNat:Int))=true:=qt g1;have d4:decide ((bc.toNat:Int)≤90)=true:=qt g2;have d2:decide (0≤clsN uc)=false:=qd (by omega);have hu1:IntKind.u8.wrap ((bc.toNat:Int)-65)=(bc.toNat:Int)-65:=zfI (by omega) (by omega);have hu2:IntKind.u8.wrap ((bc.toNat:Int)-65+97)=(uc.toNat:Int):=(by rw[Hor.out g1 g2];exact zfI (by omega) (by have:=uc.toNat_lt;omega));go_wp2_with fail;refine(Hcl.out _).mono ?_;rintro e w2 ⟨rfl,rfl⟩;go_wp2_with fail;refine(Hcl2.out _).mono ?_;rintro e w2 ⟨rfl,rfl⟩;go_wp2_with fail;refine Hbad.out.mono ?_;rintro e w4 ⟨rfl,hr4,ho4⟩;have Hfin:=qh (HB.out w4 hr4 ho4);clear hr4 ho4;go_wp2_with fail;go_meet
    exact Hfin
 case rest=>
  obtain⟨W2,hW2⟩:∃W2:World,W2=wc:=⟨_,rfl⟩;subst hW2;obtain⟨cls,ref,hJ2,hm2⟩:=hcut.out;clear hways Hcl Hcl2 Hor H2 HJ1 Hr1 hw1 hc1 hbc;obtain⟨RM,hRM⟩:∃RM:Except (Int×Nat) (List Mk×Nat),RM=match zav s i with|.error e=>.error e|.ok (_,_,j)=>zaB s letters (s.size+1) [] j:=⟨_,rfl⟩
  have hL2:RhL w W2 rb s F letters cls ref i RM∧(∀ms k,RM=.ok (ms,k)→R=if¬endB s k∧¬isB s k 32 then .error (180,k) else .ok (⟨cls,ref,ms,i⟩,k))∧(∀e,RM=.error e→R=.error e):=by
   have hR:=HR.out;unfold zcv at hR;cases hP:zav s i with
   |error e=>
    obtain⟨c,p⟩:=e;rw[hP] at hm2 hRM hR;obtain⟨hc,j,hr⟩:=hm2;simp only at hRM hR;exact⟨.inr ⟨c,p,j,none,0,0,hc,hJ2,hr,hRM⟩,(fun ms k h=>by rw[hRM] at h;cases h),(fun e h=>by rw[hRM] at h;cases h;exact hR.symm)⟩
   |ok r=>
    obtain⟨c1,c2,j⟩:=r;rw[hP] at hm2 hRM hR;obtain⟨rfl,rfl,hj,hr⟩:=hm2;simp only at hRM hR;refine⟨.inl ⟨[],_,j,s.size+1,hJ2,⟨rfl,.inl ⟨rfl,rfl⟩⟩,hr,hj,by omega,hRM.symm,by simp⟩,fun ms k h=>?_,fun e h=>?_⟩
    ·rw[←hRM,h] at hR;exact hR.symm
    ·rw[←hRM,h] at hR;exact hR.symm
  obtain⟨hL,hRok,hRer⟩:=hL2;have HL:=qh hL;have HRok:=qh hRok;have HRer:=qh hRer;clear hcut hJ2 hm2 hRM hL hRok hRer;go_wp2_with fail;go_loopw [] (fun wr=>Hid (RhL w wr rb s F letters cls ref i RM)) (fun wr=>match wr.cell? ⟨rb,2,none⟩ with|some v=>if intOf v=0 then s.size+2-(match wr.cell? ⟨rb,1,none⟩ with|some u=>(intOf u).toNat|none=>0) else 0|none=>0)
  case atStart=>exact HL
  case round=>
   clear HL;rcases hrel.out with⟨ms,v,j,q,hJ,hm,hr,hj,hq,hT,hml⟩|⟨c,p,j,A,n,cp,hc,hJ5,hr5,hRM⟩
   ·obtain⟨A,cp,rfl⟩:=zab hm;have Hms:Hid (wr.cell? ⟨rb,2,none⟩=some (.int .i64 0)∧wr.cell? ⟨rb,1,none⟩=some (.int .i64 j)):=qh ⟨hr.c2,hr.c1⟩;have hb0:byC0 0 s j=zaa s j:=(by unfold byC0;rw[if_pos rfl]);have Hc:=qh (fun n=>rc_q rb s j 0 0 F (wr.drewN n) (hr.drewN n));rw[hb0] at Hc;have Hc0:=qh (Hc.out 0);have his:∀c:UInt8,c≠0→zaa s j=c→j<s.size:=fun c h0 hb=>by
     by_cases hlt:j<s.size
     ·exact hlt
     ·rw[zbe hlt] at hb;exact absurd hb.symm h0
    have HJ:=qh hJ;have Hm:=qh hm;have Hr:=qh hr;rcases zcV (zaa s j) with⟨hsb,hsg⟩|⟨hsb,_⟩
    ·have hlt:j<s.size:=by
      rcases hsg with⟨h,_⟩|⟨h,_⟩|⟨h,_⟩|⟨h,_⟩|⟨h,_⟩|⟨h,_⟩<;>exact his _ (by decide) h
     have hLm:wr.ownsRow Bl 5 1 F.vl letters.length (byC letters):=hJ.off.ownT Hl.out (TyAt.one H.out.r) (by decide);have Hmark:=qh (fun n=>zj4 w.heap.size Bl rb (w.heap.size+1) s j F letters cls ref i (.slice A ms.length cp) ms (wr.drewN n) (hr.drewN n) hlt ((Off.drewN [] wr n).own hLm (fun k hk=>by simp)) hll hJ.x ((Off.drewN [] wr n).own hm (fun k hk=>by simp)) (by omega) hJ.off.size)
     have HN:Hid (∀n w5,zj0 w.heap.size rb (w.heap.size+1) s F cls ref i (.slice A ms.length cp) ms (wr.drewN n) (za0 s letters ms j) w5→
       RhL w w5 rb s F letters cls ref i RM∧∃(no:Int) (j':Nat),w5.cell? ⟨rb,2,none⟩=some (.int .i64 no)∧w5.cell? ⟨rb,1,none⟩=some (.int .i64 j')∧(no=0→j<j')):=qh (fun n w5 h5=>by
      have h6:=(hJ.offR hrb (Off.drewN [rb] wr n)).mark hrb ((Off.drewN [] wr n).own hm (fun k hk=>by simp)) h5;cases q with
      |zero=>omega
      |succ q'=>
       unfold zaB at hT;rw[if_pos ⟨hlt,hsb⟩] at hT;cases hmp:za0 s letters ms j with
       |error e=>
        obtain⟨c,p⟩:=e;rw[hmp] at h6 hT;obtain⟨j',hr6,A',n',cp',hJ6⟩:=h6;have hc:=zgR hmp;exact⟨.inr ⟨c,p,j',A',n',cp',hc,hJ6,hr6,hT.symm⟩,c,j',hr6.c2,hr6.c1,fun e=>absurd e hc⟩
       |ok mj=>
        obtain⟨m,j'⟩:=mj;rw[hmp] at h6 hT;obtain⟨hr6,v',hJ6,hm6⟩:=h6;obtain⟨e1,e2,e3⟩:=zcW hlt hsb hmp;have e4:=zdz e2;exact⟨.inl ⟨ms++[m],v',j',q',hJ6,hm6,hr6,by omega,by omega,hT,by simp;omega⟩,0,j',hr6.c2,hr6.c1,fun _=>by omega⟩)
     generalize zaa s j=bj at*;clear hrel hJ hm hr hT hsb his hb0 hLm;rcases hsg with⟨hbj,_⟩|⟨hbj,_⟩|⟨hbj,_⟩|⟨hbj,_⟩|⟨hbj,_⟩|⟨hbj,_⟩
     ·have g0:((bj.toNat:Int)==58)=true:=(by rw[hbj];rfl);clear hbj;go_wp2_with fail;refine Hc0.out.mono ?_;rintro e w4 ⟨rfl,n0,rfl⟩;go_wp2_with fail;refine(Hmark.out _).mono ?_;rintro e w5 ⟨rfl,hm5⟩;have hn5:=HN.out _ _ hm5;have Hn5:=qh hn5;clear hm5 hn5;go_wp2_with fail;go_roundw
      case rel=>exact qh Hn5.out.1
      case measure=>
       obtain⟨no,j',hc2,hc1,hlt9⟩:=Hn5.out.2;rw[hc2,hc1,Hms.out.1,Hms.out.2];simp only[intOf];by_cases h0:no=0
       ·have:=hlt9 h0;simp[h0];omega
       ·simp[h0];omega
     ·have g0:((bj.toNat:Int)==58)=false:=(by rw[hbj];rfl);have g1:((bj.toNat:Int)==47)=true:=(by rw[hbj];rfl);clear hbj;go_wp2_with fail;refine Hc0.out.mono ?_;rintro e w4 ⟨rfl,n0,rfl⟩;go_wp2_with fail;refine(Hc.out _).mono ?_;rintro e w4 ⟨rfl,n1,rfl⟩;go_wp2_with fail;refine(Hmark.out _).mono ?_;rintro e w5 ⟨rfl,hm5⟩;have hn5:=HN.out _ _ hm5;have Hn5:=qh hn5;clear hm5 hn5;go_wp2_with fail;go_roundw
      case rel=>exact qh Hn5.out.1
      case measure=>
       obtain⟨no,j',hc2,hc1,hlt9⟩:=Hn5.out.2;rw[hc2,hc1,Hms.out.1,Hms.out.2];simp only[intOf];by_cases h0:no=0
       ·have:=hlt9 h0;simp[h0];omega
       ·simp[h0];omega
     ·have g0:((bj.toNat:Int)==58)=false:=(by rw[hbj];rfl);have g1:((bj.toNat:Int)==47)=false:=(by rw[hbj];rfl);have g2:((bj.toNat:Int)==94)=true:=(by rw[hbj];rfl);clear hbj;go_wp2_with fail;refine Hc0.out.mono ?_;rintro e w4 ⟨rfl,n0,rfl⟩;go_wp2_with fail;refine(Hc.out _).mono ?_;rintro e w4 ⟨rfl,n1,rfl⟩;go_wp2_with fail;refine(Hc.out _).mono ?_;rintro e w4 ⟨rfl,n2,rfl⟩;go_wp2_with fail;refine(Hmark.out _).mono ?_;rintro e w5 ⟨rfl,hm5⟩;have hn5:=HN.out _ _ hm5;have Hn5:=qh hn5;clear hm5 hn5;go_wp2_with fail;go_roundw
      case rel=>exact qh Hn5.out.1
      case measure=>
       obtain⟨no,j',hc2,hc1,hlt9⟩:=Hn5.out.2;rw[hc2,hc1,Hms.out.1,Hms.out.2];simp only[intOf];by_cases h0:no=0
       ·have:=hlt9 h0;simp[h0];omega
       ·simp[h0];omega
     ·have g0:((bj.toNat:Int)==58)=false:=(by rw[hbj];rfl);have g1:((bj.toNat:Int)==47)=false:=(by rw[hbj];rfl);have g2:((bj.toNat:Int)==94)=false:=(by rw[hbj];rfl);have g3:((bj.toNat:Int)==64)=true:=(by rw[hbj];rfl);clear hbj;go_wp2_with fail;refine Hc0.out.mono ?_;rintro e w4 ⟨rfl,n0,rfl⟩;go_wp2_with fail;refine(Hc.out _).mono ?_;rintro e w4 ⟨rfl,n1,rfl⟩;go_wp2_with fail;refine(Hc.out _).mono ?_;rintro e w4 ⟨rfl,n2,rfl⟩;go_wp2_with fail;refine(Hc.out _).mono ?_;rintro e w4 ⟨rfl,n3,rfl⟩;go_wp2_with fail;refine(Hmark.out _).mono ?_;rintro e w5 ⟨rfl,hm5⟩;have hn5:=HN.out _ _ hm5;have Hn5:=qh hn5;clear hm5 hn5;go_wp2_with fail;go_roundw
      case rel=>exact qh Hn5.out.1
      case measure=>
       obtain⟨no,j',hc2,hc1,hlt9⟩:=Hn5.out.2;rw[hc2,hc1,Hms.out.1,Hms.out.2];simp only[intOf];by_cases h0:no=0
       ·have:=hlt9 h0;simp[h0];omega
       ·simp[h0];omega
     ·have g0:((bj.toNat:Int)==58)=false:=(by rw[hbj];rfl);have g1:((bj.toNat:Int)==47)=false:=(by rw[hbj];rfl);have g2:((bj.toNat:Int)==94)=false:=(by rw[hbj];rfl);have g3:((bj.toNat:Int)==64)=false:=(by rw[hbj];rfl);have g4:((bj.toNat:Int)==126)=true:=(by rw[hbj];rfl);clear hbj;go_wp2_with fail;refine Hc0.out.mono ?_;rintro e w4 ⟨rfl,n0,rfl⟩;go_wp2_with fail;refine(Hc.out _).mono ?_;rintro e w4 ⟨rfl,n1,rfl⟩;go_wp2_with fail;refine(Hc.out _).mono ?_;rintro e w4 ⟨rfl,n2,rfl⟩;go_wp2_with fail;refine(Hc.out _).mono ?_;rintro e w4 ⟨rfl,n3,rfl⟩;go_wp2_with fail;refine(Hc.out _).mono ?_;rintro e w4 ⟨rfl,n4,rfl⟩;go_wp2_with fail;refine(Hmark.out _).mono ?_;rintro e w5 ⟨rfl,hm5⟩;have hn5:=HN.out _ _ hm5;have Hn5:=qh hn5;clear hm5 hn5;go_wp2_with fail;go_roundw
      case rel=>exact qh Hn5.out.1
      case measure=>
       obtain⟨no,j',hc2,hc1,hlt9⟩:=Hn5.out.2;rw[hc2,hc1,Hms.out.1,Hms.out.2];simp only[intOf];by_cases h0:no=0
       ·have:=hlt9 h0;simp[h0];omega
       ·simp[h0];omega
     ·have g0:((bj.toNat:Int)==58)=false:=(by rw[hbj];rfl);have g1:((bj.toNat:Int)==47)=false:=(by rw[hbj];rfl);have g2:((bj.toNat:Int)==94)=false:=(by rw[hbj];rfl);have g3:((bj.toNat:Int)==64)=false:=(by rw[hbj];rfl);have g4:((bj.toNat:Int)==126)=false:=(by rw[hbj];rfl);have g5:((bj.toNat:Int)==39)=true:=(by rw[hbj];rfl);clear hbj;go_wp2_with fail;refine Hc0.out.mono ?_;rintro e w4 ⟨rfl,n0,rfl⟩;go_wp2_with fail;refine(Hc.out _).mono ?_;rintro e w4 ⟨rfl,n1,rfl⟩;go_wp2_with fail;refine(Hc.out _).mono ?_;rintro e w4 ⟨rfl,n2,rfl⟩;go_wp2_with fail;refine(Hc.out _).mono ?_;rintro e w4 ⟨rfl,n3,rfl⟩;go_wp2_with fail;refine(Hc.out _).mono ?_;rintro e w4 ⟨rfl,n4,rfl⟩;go_wp2_with fail;refine(Hc.out _).mono ?_;rintro e w4 ⟨rfl,n5,rfl⟩;go_wp2_with fail;refine(Hmark.out _).mono ?_;rintro e w5 ⟨rfl,hm5⟩;have hn5:=HN.out _ _ hm5;have Hn5:=qh hn5;clear hm5 hn5;go_wp2_with fail;go_roundw
      case rel=>exact qh Hn5.out.1
      case measure=>
       obtain⟨no,j',hc2,hc1,hlt9⟩:=Hn5.out.2;rw[hc2,hc1,Hms.out.1,Hms.out.2];simp only[intOf];by_cases h0:no=0
       ·have:=hlt9 h0;simp[h0];omega
       ·simp[h0];omega
    ·have hng:∀c:UInt8,zd9 c=true→((zaa s j).toNat:Int)≠(c.toNat:Int):=fun c hc he=>by
      have:zaa s j=c:=(by apply UInt8.toNat_inj.1;omega);rw[this,hc] at hsb;cases hsb
     have g0:(((zaa s j).toNat:Int)==58)=false:=(by simpa using hng 58 (by decide+kernel));have g1:(((zaa s j).toNat:Int)==47)=false:=(by simpa using hng 47 (by decide+kernel));have g2:(((zaa s j).toNat:Int)==94)=false:=(by simpa using hng 94 (by decide+kernel));have g3:(((zaa s j).toNat:Int)==64)=false:=(by simpa using hng 64 (by decide+kernel));have g4:(((zaa s j).toNat:Int)==126)=false:=(by simpa using hng 126 (by decide+kernel));have g5:(((zaa s j).toNat:Int)==39)=false:=(by simpa using hng 39 (by decide+kernel));have hRM:RM=.ok (ms,j):=by
      cases q with
      |zero=>omega
      |succ q'=>
       unfold zaB at hT;rw[if_neg (by rw[hsb];simp)] at hT;exact hT.symm
     have HRM:=qh (HRok.out ms j hRM);have He:=qh (fun n=>zht rb s j 0 0 F (wr.drewN n) (hr.drewN n));have hec:endC 0 s j=endB s j:=(by unfold endC;rw[if_pos rfl]);rw[hec] at He;have Hbad:=qh (fun n=>zbu rb s j 0 0 F (wr.drewN n) (hr.drewN n));have r2:=hr.c2;have hi32:isB s j 32=(((zaa s j).toNat:Int)==32):=by
      by_cases hlt:j<s.size
      ·rw[zaA hlt,zar hlt]
      ·rw[zcE hlt,zbe hlt];rfl
     have Hlen:=qh hj;generalize zaa s j=bj at*;clear hrel hT hsb hng hb0 his hec;cases hend:endB s j with
     |true=>
      have hnot:(!endB s j)=false:=(by rw[hend];rfl);go_wp2_with fail;refine Hc0.out.mono ?_;rintro e w4 ⟨rfl,n0,rfl⟩;go_wp2_with fail;refine(Hc.out _).mono ?_;rintro e w4 ⟨rfl,n1,rfl⟩;go_wp2_with fail;refine(Hc.out _).mono ?_;rintro e w4 ⟨rfl,n2,rfl⟩;go_wp2_with fail;refine(Hc.out _).mono ?_;rintro e w4 ⟨rfl,n3,rfl⟩;go_wp2_with fail;refine(Hc.out _).mono ?_;rintro e w4 ⟨rfl,n4,rfl⟩;go_wp2_with fail;refine(Hc.out _).mono ?_;rintro e w4 ⟨rfl,n5,rfl⟩;go_wp2_with fail;refine(He.out _).mono ?_;rintro e w4 ⟨rfl,n6,rfl⟩;rw[hend];have x0:wr.cell? ⟨w.heap.size+1,0,none⟩=some (.int .i64 cls):=qc _ _ 0 _ _ (0,0) HJ.out.x;have x1:wr.cell? ⟨w.heap.size+1,1,none⟩=some (.int .i64 ref):=qc _ _ 1 _ _ (0,0) HJ.out.x;have x2:wr.cell? ⟨w.heap.size+1,2,none⟩=some (.slice A ms.length cp):=qc _ _ 2 _ _ (0,0) HJ.out.x;have x3:wr.cell? ⟨w.heap.size+1,3,none⟩=some (.int .i64 i):=qc _ _ 3 _ _ (0,0) HJ.out.x;have y0:=qc _ _ 0 _ _ (0,0) HJ.out.res;have y1:=qc _ _ 1 _ _ (0,0) HJ.out.res;have y2:=qc _ _ 2 _ _ (0,0) HJ.out.res;have y3:=qc _ _ 3 _ _ (0,0) HJ.out.res;have z0:=qf _ _ 0 _ _ HJ.out.res;have z1:=qf _ _ 1 _ _ HJ.out.res;have z2:=qf _ _ 2 _ _ HJ.out.res;have z3:=qf _ _ 3 _ _ HJ.out.res;have Hfin:=qh (fun nn=>(HJ.out.offR hrb (Off.drewN [rb] wr nn)).fin (.int .i64 cls) (.int .i64 ref) (.slice A ms.length cp) (.int .i64 i));have Hofin:=qh (fun n=>Off.into (HJ.out.off.trans (Off.drewN [rb] wr n)) (Hfin.out n).1 (fun k hk=>by simp at hk;omega));have Hrfin:=qh (fun n=>(Hr.out.drewN n).off (Hfin.out n).1 (by simp;omega));have HmX:=qh (fun n=>(Off.drewN [] wr n).own Hm.out (fun k hk=>by simp));go_wp2_with fail;refine zcf rfl (Hfin.out _).2 ⟨Hofin.out _,?_⟩;rw[HRM.out,if_neg (by simp[hend])];exact⟨_,rfl,(Hfin.out _).1.ownT (HmX.out _) (TyAt.one HJ.out.res) (by decide),Hrfin.out _,Hlen.out⟩
     |false=>
      cases h32:isB s j 32 with
      |true=>
       have q32:((bj.toNat:Int) !=32)=false:=(by rw[h32] at hi32;simp[bne,←hi32]);go_wp2_with fail;refine Hc0.out.mono ?_;rintro e w4 ⟨rfl,n0,rfl⟩;go_wp2_with fail;refine(Hc.out _).mono ?_;rintro e w4 ⟨rfl,n1,rfl⟩;go_wp2_with fail;refine(Hc.out _).mono ?_;rintro e w4 ⟨rfl,n2,rfl⟩;go_wp2_with fail;refine(Hc.out _).mono ?_;rintro e w4 ⟨rfl,n3,rfl⟩;go_wp2_with fail;refine(Hc.out _).mono ?_;rintro e w4 ⟨rfl,n4,rfl⟩;go_wp2_with fail;refine(Hc.out _).mono ?_;rintro e w4 ⟨rfl,n5,rfl⟩;go_wp2_with fail;refine(He.out _).mono ?_;rintro e w4 ⟨rfl,n6,rfl⟩;rw[hend];go_wp2_with fail;refine(Hc.out _).mono ?_;rintro e w4 ⟨rfl,n7,rfl⟩;have x0:wr.cell? ⟨w.heap.size+1,0,none⟩=some (.int .i64 cls):=qc _ _ 0 _ _ (0,0) HJ.out.x;have x1:wr.cell? ⟨w.heap.size+1,1,none⟩=some (.int .i64 ref):=qc _ _ 1 _ _ (0,0) HJ.out.x;have x2:wr.cell? ⟨w.heap.size+1,2,none⟩=some (.slice A ms.length cp):=qc _ _ 2 _ _ (0,0) HJ.out.x;have x3:wr.cell? ⟨w.heap.size+1,3,none⟩=some (.int .i64 i):=qc _ _ 3 _ _ (0,0) HJ.out.x;have y0:=qc _ _ 0 _ _ (0,0) HJ.out.res;have y1:=qc _ _ 1 _ _ (0,0) HJ.out.res;have y2:=qc _ _ 2 _ _ (0,0) HJ.out.res;have y3:=qc _ _ 3 _ _ (0,0) HJ.out.res;have z0:=qf _ _ 0 _ _ HJ.out.res;have z1:=qf _ _ 1 _ _ HJ.out.res;have z2:=qf _ _ 2 _ _ HJ.out.res;have z3:=qf _ _ 3 _ _ HJ.out.res;have Hfin:=qh (fun nn=>(HJ.out.offR hrb (Off.drewN [rb] wr nn)).fin (.int .i64 cls) (.int .i64 ref) (.slice A ms.length cp) (.int .i64 i));have Hofin:=qh (fun n=>Off.into (HJ.out.off.trans (Off.drewN [rb] wr n)) (Hfin.out n).1 (fun k hk=>by simp at hk;omega));have Hrfin:=qh (fun n=>(Hr.out.drewN n).off (Hfin.out n).1 (by simp;omega));have HmX:=qh (fun n=>(Off.drewN [] wr n).own Hm.out (fun k hk=>by simp));go_wp2_with fail;refine zcf rfl (Hfin.out _).2 ⟨Hofin.out _,?_⟩;rw[HRM.out,if_neg (by simp[hend,h32])];exact⟨_,rfl,(Hfin.out _).1.ownT (HmX.out _) (TyAt.one HJ.out.res) (by decide),Hrfin.out _,Hlen.out⟩
      |false=>
       have q32:((bj.toNat:Int) !=32)=true:=(by rw[h32] at hi32;simp[bne,←hi32]);go_wp2_with fail;refine Hc0.out.mono ?_;rintro e w4 ⟨rfl,n0,rfl⟩;go_wp2_with fail;refine(Hc.out _).mono ?_;rintro e w4 ⟨rfl,n1,rfl⟩;go_wp2_with fail;refine(Hc.out _).mono ?_;rintro e w4 ⟨rfl,n2,rfl⟩;go_wp2_with fail;refine(Hc.out _).mono ?_;rintro e w4 ⟨rfl,n3,rfl⟩;go_wp2_with fail;refine(Hc.out _).mono ?_;rintro e w4 ⟨rfl,n4,rfl⟩;go_wp2_with fail;refine(Hc.out _).mono ?_;rintro e w4 ⟨rfl,n5,rfl⟩;go_wp2_with fail;refine(He.out _).mono ?_;rintro e w4 ⟨rfl,n6,rfl⟩;rw[hend];go_wp2_with fail;refine(Hc.out _).mono ?_;rintro e w4 ⟨rfl,n7,rfl⟩;go_wp2_with fail;refine(Hbad.out _).mono ?_;rintro e w5 ⟨rfl,hr5,ho5⟩;have hJ5:=HJ.out.offR hrb ((Off.drewN [rb] wr _).trans ho5);have HmX:Hid True:=qh trivial;have x0:w5.cell? ⟨w.heap.size+1,0,none⟩=some (.int .i64 cls):=qc _ _ 0 _ _ (0,0) hJ5.x;have x1:w5.cell? ⟨w.heap.size+1,1,none⟩=some (.int .i64 ref):=qc _ _ 1 _ _ (0,0) hJ5.x;have x2:w5.cell? ⟨w.heap.size+1,2,none⟩=some (.slice A ms.length cp):=qc _ _ 2 _ _ (0,0) hJ5.x;have x3:w5.cell? ⟨w.heap.size+1,3,none⟩=some (.int .i64 i):=qc _ _ 3 _ _ (0,0) hJ5.x;have y0:=qc _ _ 0 _ _ (0,0) hJ5.res;have y1:=qc _ _ 1 _ _ (0,0) hJ5.res;have y2:=qc _ _ 2 _ _ (0,0) hJ5.res;have y3:=qc _ _ 3 _ _ (0,0) hJ5.res;have z0:=qf _ _ 0 _ _ hJ5.res;have z1:=qf _ _ 1 _ _ hJ5.res;have z2:=qf _ _ 2 _ _ hJ5.res;have z3:=qf _ _ 3 _ _ hJ5.res;have hfin:=hJ5.fin (.int .i64 cls) (.int .i64 ref) (.slice A ms.length cp) (.int .i64 i);have hofin:Off [rb] w _:=Off.into hJ5.off hfin.1 (fun k hk=>by simp at hk;omega);have hrfin:=hr5.off hfin.1 (by simp;omega);have Hfin:=qh hfin;have Hofin:=qh hofin;have Hrfin:=qh hrfin;clear hr5 ho5 hJ5 hfin hofin hrfin;go_wp2_with fail;refine zcf rfl Hfin.out.2 ⟨Hofin.out,?_⟩;rw[HRM.out,if_pos (by simp[hend,h32])];exact⟨by decide,⟨_,Hrfin.out⟩,_,_,_,_,_,_,rfl⟩
   ·have hb0:byC0 c s j=0:=(by unfold byC0;rw[if_neg hc]);have Hc:=qh (fun n=>rc_q rb s j c p F (wr.drewN n) (hr5.drewN n));rw[hb0] at Hc;have Hc0:=qh (Hc.out 0);have q0:(c==0)=false:=(by simpa using hc);have HRM:=qh (HRer.out _ hRM);have Hne:=qh hc;have HJ:=qh hJ5;have Hr:=qh hr5;have r2:=hr5.c2;clear hrel hJ5 hr5 hb0 hc hRM;go_wp2_with fail;refine Hc0.out.mono ?_;rintro e w4 ⟨rfl,n0,rfl⟩;go_wp2_with fail;refine(Hc.out _).mono ?_;rintro e w4 ⟨rfl,n1,rfl⟩;go_wp2_with fail;refine(Hc.out _).mono ?_;rintro e w4 ⟨rfl,n2,rfl⟩;go_wp2_with fail;refine(Hc.out _).mono ?_;rintro e w4 ⟨rfl,n3,rfl⟩;go_wp2_with fail;refine(Hc.out _).mono ?_;rintro e w4 ⟨rfl,n4,rfl⟩;go_wp2_with fail;refine(Hc.out _).mono ?_;rintro e w4 ⟨rfl,n5,rfl⟩;have x0:wr.cell? ⟨w.heap.size+1,0,none⟩=some (.int .i64 cls):=qc _ _ 0 _ _ (0,0) HJ.out.x;have x1:wr.cell? ⟨w.heap.size+1,1,none⟩=some (.int .i64 ref):=qc _ _ 1 _ _ (0,0) HJ.out.x;have x2:wr.cell? ⟨w.heap.size+1,2,none⟩=some (.slice A n cp):=qc _ _ 2 _ _ (0,0) HJ.out.x;have x3:wr.cell? ⟨w.heap.size+1,3,none⟩=some (.int .i64 i):=qc _ _ 3 _ _ (0,0) HJ.out.x;have y0:=qc _ _ 0 _ _ (0,0) HJ.out.res;have y1:=qc _ _ 1 _ _ (0,0) HJ.out.res;have y2:=qc _ _ 2 _ _ (0,0) HJ.out.res;have y3:=qc _ _ 3 _ _ (0,0) HJ.out.res;have z0:=qf _ _ 0 _ _ HJ.out.res;have z1:=qf _ _ 1 _ _ HJ.out.res;have z2:=qf _ _ 2 _ _ HJ.out.res;have z3:=qf _ _ 3 _ _ HJ.out.res;have Hfin:=qh (fun nn=>(HJ.out.offR hrb (Off.drewN [rb] wr nn)).fin (.int .i64 cls) (.int .i64 ref) (.slice A n cp) (.int .i64 i));have Hofin:=qh (fun n=>Off.into (HJ.out.off.trans (Off.drewN [rb] wr n)) (Hfin.out n).1 (fun k hk=>by simp at hk;omega));have Hrfin:=qh (fun n=>(Hr.out.drewN n).off (Hfin.out n).1 (by simp;omega));go_wp2_with fail;refine zcf rfl (Hfin.out _).2 ⟨Hofin.out _,?_⟩;rw[HRM.out];exact⟨Hne.out,⟨_,Hrfin.out _⟩,_,_,_,_,_,_,rfl⟩
def ritC:List It→List Value→List Value
 |x::xs,v::vs=>.int .i64 x.cls::.int .i64 x.ref::v::.int .i64 x.at_::ritC xs vs
 |_,_=>[]
theorem zin:∀(l:List It) (vs:List Value),vs.length=l.length→(ritC l vs).length=l.length*4
 |[],vs,h=>by simp[ritC]
 |x::xs,[],h=>by simp at h
 |x::xs,v::vs,h=>by
  have:=zin xs vs (by simpa using h);simp only[ritC,List.length_cons,this];omega
theorem zgT:∀(l:List It) (vs:List Value) (x:It) (v:Value),vs.length=l.length→ritC (l++[x]) (vs++[v])=ritC l vs++[.int .i64 x.cls,.int .i64 x.ref,v,.int .i64 x.at_]
 |[],[],x,v,_=>by simp[ritC]
 |[],_::_,_,_,h=>by simp at h
 |_::_,[],_,_,h=>by simp at h
 |q::rs,u::vs,r,v,h=>by
  have ih:=zgT rs vs r v (by simpa using h);simp only[List.cons_append,ritC,ih]
theorem zio:∀(l:List It) (vs:List Value) (k:Nat),vs.length=l.length→k<l.length→(ritC l vs)[k*4]?=some (.int .i64 (l.getD k It0).cls)∧(ritC l vs)[k*4+1]?=some (.int .i64 (l.getD k It0).ref)∧(ritC l vs)[k*4+2]?=some (vs.getD k .nilFunc)∧(ritC l vs)[k*4+3]?=some (.int .i64 (l.getD k It0).at_)
 |[],vs,k,_,hk=>by simp at hk
 |x::xs,[],k,h,_=>by simp at h
 |x::xs,v::vs,0,h,_=>by simp[ritC]
 |x::xs,v::vs,k+1,h,hk=>by
  have ih:=zio xs vs k (by simpa using h) (by simpa using hk);rw[show(k+1)*4=k*4+4 by omega,show k*4+4+1=(k*4+1)+4 by omega,show k*4+4+2=(k*4+2)+4 by omega,show k*4+4+3=(k*4+3)+4 by omega];simpa [ritC] using ih
structure RItsM (w:World) (B:Nat) (v:Value) (l:List It) (vms:List Value):Prop where
 n:vms.length=l.length
 o:w.ownsRow B 99 4 v l.length (ritC l vms)
 m:∀k,k<l.length→MksM w B (vms.getD k .nilFunc) (l.getD k It0).marks
theorem RItsM.off {w w':World} {B:Nat} {v:Value} {l:List It} {vms:List Value} {L T:List Nat} (h:RItsM w B v l vms) (ho:Off L w w') (ht:TyAt w L T) (h1:99∉T) (h2:101∉T):RItsM w' B v l vms:=
 ⟨h.n,ho.ownT h.o ht h1,fun k hk=>ho.ownT (h.m k hk) ht h2⟩
theorem RItsM.mono {w:World} {B C:Nat} {v:Value} {l:List It} {vms:List Value} (h:RItsM w B v l vms) (hC:C≤B):RItsM w C v l vms:=⟨h.n,zaT h.o hC,fun k hk=>zaT (h.m k hk) hC⟩
structure RRwM (w:World) (B:Nat) (v:Value) (rows:List Rw) (vis:List Value):Prop where
 n:vis.length=rows.length
 o:w.ownsRow B 96 2 v rows.length (rwC rows vis)
 i:∀k,k<rows.length→∃vms,RItsM w B (vis.getD k .nilFunc) (rows.getD k ⟨false,[]⟩).items vms
theorem RRwM.off {w w':World} {B:Nat} {v:Value} {rows:List Rw} {vis:List Value} {L T:List Nat} (h:RRwM w B v rows vis) (ho:Off L w w') (ht:TyAt w L T) (h0:96∉T) (h1:99∉T) (h2:101∉T):RRwM w' B v rows vis:=
 ⟨h.n,ho.ownT h.o ht h0,fun k hk=>by
  obtain⟨vms,hi⟩:=h.i k hk;exact⟨vms,hi.off ho ht h1 h2⟩⟩
theorem RRwM.mono {w:World} {B C:Nat} {v:Value} {rows:List Rw} {vis:List Value} (h:RRwM w B v rows vis) (hC:C≤B):RRwM w C v rows vis:=⟨h.n,zaT h.o hC,fun k hk=>by
 obtain⟨vms,hi⟩:=h.i k hk;exact⟨vms,hi.mono hC⟩⟩
theorem RRwM.row {w:World} {B:Nat} {v:Value} {rows:List Rw} {vis:List Value} (h:RRwM w B v rows vis):
  ∃A c,v=.slice A rows.length c∧(0<rows.length→∃g,A=some ⟨g,0,none⟩∧g<w.heap.size∧∀k,k<rows.length→w.cell? ⟨g,k*2,none⟩=some (.bool (rows.getD k ⟨false,[]⟩).round)∧w.cell? ⟨g,k*2+1,none⟩=some (vis.getD k .nilFunc)):=by
 rcases h.o.2 with⟨rfl,e0⟩|⟨g,cap,cur,rfl,_,hg,hcap,_⟩
 ·rw[e0];exact⟨none,0,rfl,fun h=>by omega⟩
 ·refine⟨_,cap,rfl,fun _=>⟨g,rfl,(qg hg).1,fun k hk=>?_⟩⟩;have hlen:=zhn rows vis h.n;have hget:=zho rows vis k h.n hk;exact⟨(h.o.cellAt (k*2) (by omega)).trans hget.1,(h.o.cellAt (k*2+1) (by omega)).trans hget.2⟩
theorem zj7 {n M:Int} {m:Nat} (h0:0≤n) (h1:n≤M):0≤n*(m:Int)∧n*(m:Int)≤M*(m:Int):=
 ⟨Int.mul_nonneg h0 (by omega),Int.mul_le_mul_of_nonneg_right h1 (by omega)⟩
theorem ziq (rows:List Rw) (n:Int) (h0:0≤n) (h1:n≤1000009):∀k,k≤rows.length→0≤za6 (rows.take k) n∧za6 (rows.take k) n≤1000009*(totN (rows.take k):Int)
 |0,_=>by simp[za6,totN]
 |k+1,hk=>by
  have ih:=ziq rows n h0 h1 k (by omega);rw[zdx rows n k (by omega),zej rows k (by omega)];have hm:=zj7 (m:=(rows.getD k ⟨false,[]⟩).items.length) h0 h1;unfold ziH;split
  ·push_cast;omega
  ·push_cast;omega
set_option maxRecDepth 100000 in
set_option maxHeartbeats 1000000 in
theorem zeL (B:Nat) (nm vl vm vr:Value) (rd:Bool) (a b c:Int) (rows:List Rw) (vis:List Value) (n:Int) (w:World) (hm:RRwM w B vr rows vis) (h0:0≤n) (h1:n≤1000009) (ht:totN rows≤65536) (hl:rows.length≤65536):
  Calls Tryz.prog 16 #[.agg #[nm,vl,vm,vr,.bool rd,.int .i64 a,.int .i64 b,.int .i64 c],.int .i64 n] w fun e w'=>e=.returned (.int .i64 (za6 rows n))∧Below w.heap.size w w':=by
 have hbA:Below w.heap.size w (w.alloc (.cells #[nm,vl,vm,vr,.bool rd,.int .i64 a,.int .i64 b,.int .i64 c] 29)):=(qb _ _).alloc (ql _) _;have hmA:RRwM (w.alloc (.cells #[nm,vl,vm,vr,.bool rd,.int .i64 a,.int .i64 b,.int .i64 c] 29)) B vr rows vis:=hm.off (T:=[]) (Off.alloc [] w _) TyAt.nil (by simp) (by simp) (by simp);have Hi:=qh hmA.i;obtain⟨A,cp,rfl,hrow⟩:=hmA.row;have hc3:(w.alloc (.cells #[nm,vl,vm,.slice A rows.length cp,.bool rd,.int .i64 a,.int .i64 b,.int .i64 c] 29)).cell? ⟨w.heap.size,3,none⟩=some (.slice A rows.length cp):=qc _ _ 3 _ _ (0,0) (qn w _);have Hsz:=qh (ziq rows n h0 h1);have Htl:=qh (zlk rows);have HbA:=qh hbA;have Hc3:=qh hc3;clear hm hmA hbA hc3;go_enter Tryz.func16,Tryz.ntmps16;go_wp2_with fail;have hc3:=Hc3.out;have HB:=HbA;generalize w.alloc (.cells #[nm,vl,vm,.slice A rows.length cp,.bool rd,.int .i64 a,.int .i64 b,.int .i64 c] 29)=W1 at*;go_loopw [5,6] (fun t q wr=>∃k:Nat,k≤rows.length∧q=.int .i64 k∧t=.int .i64 (za6 (rows.take k) n)∧Hid (wr=W1)) (fun _ q _=>rows.length-(intOf q).toNat)
 case atStart=>exact⟨0,Nat.zero_le _,rfl,rfl,qh rfl⟩
 case round=>
  obtain⟨k,hk,rfl,rfl,hw⟩:=hrel;have hw2:=hw.out;subst hw2;clear hw;by_cases hlt:k<rows.length
  ·obtain⟨g,rfl,hgs,hcells⟩:=hrow (by omega);obtain⟨vms,hits⟩:=Hi.out k hlt;obtain⟨Ai,ci,hvi⟩:=zab hits.o;have hck:=hcells k hlt;rw[hvi] at hck;have k0:=hck.1;have k1:=hck.2;have hst:=zdx rows n k hlt;have hbd:=Hsz.out k hk;have htk:=zej rows k hlt;have htl:=Htl.out (k+1);have hmb:=zj7 (m:=(rows.getD k ⟨false,[]⟩).items.length) h0 h1;clear hits hvi;generalize rows.getD k ⟨false,[]⟩=r at*;obtain⟨rr,ri⟩:=r;simp only[] at k0 k1 hst htk hmb;unfold ziH at hst;simp only[] at hst;generalize za6 (rows.take k) n=S at*;have hS2:S≤1000009*65536:=(by have:=hbd.2;omega);have hri:ri.length≤65536:=(by omega);have hw1:IntKind.i64.wrap (n*(ri.length:Int))=n*(ri.length:Int):=qi _ (by omega);have hw2:IntKind.i64.wrap (S+n*(ri.length:Int))=S+n*(ri.length:Int):=qi _ (by omega);have hw3:IntKind.i64.wrap (S+(ri.length:Int))=S+(ri.length:Int):=qi _ (by omega);have i1:(0:Int)≤(k:Int):=(by omega);have i2:(k:Int)<(rows.length:Int):=(by omega);have Hst:=qh hst;clear hcells hck hst hbd htk htl hmb;cases rr with
   |true=>
    go_wp2_with fail;go_roundw
    case rel=>exact⟨k+1,by omega,by go_num,by rw[Hst.out,if_pos rfl],qh trivial⟩
    case measure=>simp[intOf];omega
   |false=>
    go_wp2_with fail;go_roundw
    case rel=>exact⟨k+1,by omega,by go_num,by rw[Hst.out,if_neg (by simp)],qh trivial⟩
    case measure=>simp[intOf];omega
  ·obtain rfl:k=rows.length:=by omega
   go_wp2_with fail;go_ret;exact⟨by rw[List.take_length];rfl,HB.out⟩
structure RFM (w:World) (B:Nat) (f:Fm) (F:RF):Prop where
 nm:F.nm=.string ⟨f.name.toArray⟩
 l:w.ownsRow B 5 1 F.vl f.letters.length (byC f.letters)
 m:∃cs,MetsM w B F.vm f.metres cs
 r:∃vis,RRwM w B F.vr f.rows vis
 rd:F.rd=f.rounds
 a:F.a=f.least
 b:F.b=f.most
 c:F.c=f.shift
theorem RFM.off {w w':World} {B:Nat} {f:Fm} {F:RF} {L T:List Nat} (h:RFM w B f F) (ho:Off L w w') (ht:TyAt w L T) (h1:∀t∈T,t∈[115,29]):RFM w' B f F:=by
 obtain⟨cs,hm⟩:=h.m;obtain⟨vis,hr⟩:=h.r;have hn:∀t,t∉[115,29]→t∉T:=fun t ht hT=>ht (h1 t hT);exact⟨h.nm,ho.ownT h.l ht (hn _ (by decide)),⟨cs,hm.off ho ht (hn _ (by decide)) (hn _ (by decide)) (hn _ (by decide)) (hn _ (by decide))⟩,⟨vis,hr.off ho ht (hn _ (by decide)) (hn _ (by decide)) (hn _ (by decide))⟩,h.rd,h.a,h.b,h.c⟩
theorem RFM.offR {w w':World} {B rb:Nat} {f:Fm} {F F':RF} {s:ByteArray} {i:Nat} {no wh:Int} (h:RFM w B f F) (hr:RR w rb s i no wh F') (ho:Off [rb] w w'):RFM w' B f F:=h.off ho (TyAt.one hr.r) (by simp)
theorem RFM.below {w w':World} {B:Nat} {f:Fm} {F:RF} (h:RFM w B f F) (hb:Below w.heap.size w w'):RFM w' B f F:=h.off (T:=[]) (Off.of_below hb (ql _) []) TyAt.nil (by simp)
theorem RFM.mono {w:World} {B C:Nat} {f:Fm} {F:RF} (h:RFM w B f F) (hC:C≤B):RFM w C f F:=by
 obtain⟨cs,hm⟩:=h.m;obtain⟨vis,hr⟩:=h.r;exact⟨h.nm,zaT h.l hC,⟨cs,hm.n,zaT hm.o hC,fun k hk=>by
  obtain⟨a,vs,b⟩:=hm.m k hk;exact⟨a,vs,OM.mono b hC⟩⟩,⟨vis,hr.mono hC⟩,h.rd,h.a,h.b,h.c⟩
end Go.Proofs.YtgklikkddckgbaaGreatDoor.Mo

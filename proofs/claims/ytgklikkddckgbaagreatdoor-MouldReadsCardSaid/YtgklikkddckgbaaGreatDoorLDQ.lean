import Derived.Test.YtgklikkddckgbaaGreatDoorLDP
/- Lemmas. -/
set_option linter.all false
set_option maxRecDepth 100000
set_option maxHeartbeats 4000000
namespace Go.Proofs.YtgklikkddckgbaaGreatDoor.Mo
open Go.RowKit
theorem zgZ {s:ByteArray} {gN:List UInt8}:∀(f:Nat) (ms:List Mk) (i:Nat) {ms':List Mk} {k:Nat},QV s gN f ms i=.ok (ms',k)->(∀m∈ms,uw m)->∀m∈ms',uw m
 |0,ms,i,ms',k,h,hh=>by unfold QV at h;cases h;exact hh
 |f+1,ms,i,ms',k,h,hh=>by
  unfold QV at h;split at h
  ·rename_i hc;cases hm:QY s gN ms i with
   |error e=>rw[hm] at h;cases h
   |ok mj=>
    obtain⟨m,j⟩:=mj;rw[hm] at h;refine zgZ f _ j h λq hq=>?_;rcases qJ.1 hq with hq|hq
    ·exact hh q hq
    ·obtain rfl:=zj.1 hq;exact(zcW hc.1 hc.2 hm).2.1.ok
  ·cases h;exact hh
theorem zhy {s:ByteArray} {gN:List UInt8} {i k:Nat} {x:It} (h:Yd s gN i=.ok (x,k)):∃cls ref j,QH s i=.ok (cls,ref,j)/\QV s gN (s.size+1) [] j=.ok (x.gP,k):=by
 unfold Yd at h;cases hr:QH s i with
 |error e=>rw[hr] at h;cases h
 |ok r=>
  obtain⟨cls,ref,j⟩:=r;rw[hr] at h;simp only at h;cases hm:QV s gN (s.size+1) [] j with
  |error e=>rw[hm] at h;cases h
  |ok mk=>
   obtain⟨ms,k2⟩:=mk;rw[hm] at h;simp only at h;split at h
   ·cases h
   ·cases h;exact⟨cls,ref,j,rfl,hm⟩
theorem zep {s:ByteArray} {gN:List UInt8} {i k:Nat} {x:It} (h:Yd s gN i=.ok (x,k)):uy x/\i<k/\x.gP.length<=k/\∀m∈x.gP,uw m:=by
 obtain⟨cls,ref,j,h1,h2⟩:=zhy h;have h3:Kj s gN (-1) i=.ok (x,k):=by rw[zdQ,h];rfl
 have h4:=zgZ _ _ _ h2 (by simp);have h5:=zft _ _ _ h2;exact⟨zen h3 h4,zdD h3,by simp at h5;omega,h4⟩
def bkB (line:Int) (m:Mk):Bool:=Xr m&&decide (line<m.n)
def InS (s:ByteArray) (f:Fm) (round:Bool) (n0:Nat) (j:Nat) (W:World) (B:Nat) (cls ref:Int) (v:Value) (n a j5:Nat) (k:Nat) (no wh:Int):Prop:=
 (no≠0/\∃p:Nat,wh=p/\Kj s f.gN (ZT f round n0) j=.error (no,p))∨
 (no=0/\wh=0/\∃x,Yd s f.gN j=.ok (x,j5)/\cls=x.cls/\ref=x.ref/\a=x.at_/\n=x.gP.length/\Qy W B v x.gP/\(0<=ZT f round n0->(x.gP.take k).find? (bkB (ZT f round n0))=none))
def InF (s:ByteArray) (f:Fm) (round:Bool) (n0:Nat) (j:Nat) (W:World) (B:Nat) (cls ref:Int) (v:Value) (a j5:Nat) (no wh:Int):Prop:=
 (no≠0/\∃p:Nat,wh=p/\Kj s f.gN (ZT f round n0) j=.error (no,p))∨
 (no=0/\wh=0/\∃x,Kj s f.gN (ZT f round n0) j=.ok (x,j5)/\Yd s f.gN j=.ok (x,j5)/\cls=x.cls/\ref=x.ref/\a=x.at_/\Qy W B v x.gP)
theorem InS.fin {s:ByteArray} {f:Fm} {round:Bool} {n0 j:Nat} {W:World} {B:Nat} {cls ref:Int} {v:Value} {n a j5 k:Nat} {no wh:Int} (h:InS s f round n0 j W B cls ref v n a j5 k no wh) (hk:0<=ZT f round n0->no=0->n<=k):InF s f round n0 j W B cls ref v a j5 no wh:=by
 rcases h with h|⟨h0,hw,x,h1,h2,h3,h4,h5,h6,h7⟩
 ·exact .inl h
 ·refine .inr ⟨h0,hw,x,?_,h1,h2,h3,h4,h6⟩;rw[zdQ,h1];simp only;have hb:zfo (ZT f round n0) x.gP=none:=by
   unfold zfo;by_cases hl:0<=ZT f round n0
   ·have:=h7 hl;rw[jO (by rw[<-h5];exact hk hl h0)] at this;rw[qy hl];exact this
   ·rw[qx hl]
  rw[hb]
theorem InS.off {s:ByteArray} {f:Fm} {round:Bool} {n0 j:Nat} {W W':World} {B rb i:Nat} {cls ref:Int} {v:Value} {n a j5 k:Nat} {no wh no' wh':Int} {F:RF} (h:InS s f round n0 j W B cls ref v n a j5 k no wh) (hr:RR W rb s i no' wh' F) (ho:Off [rb] W W'):InS s f round n0 j W' B cls ref v n a j5 k no wh:=by
 rcases h with h|⟨h0,hw,x,h1,h2,h3,h4,h5,h6,h7⟩
 ·exact .inl h
 ·exact .inr ⟨h0,hw,x,h1,h2,h3,h4,h5,ho.pp h6 (pc.one hr.r) (by decide),h7⟩
theorem InS.bad {s:ByteArray} {f:Fm} {round:Bool} {n0 j:Nat} {W':World} {B:Nat} {cls ref:Int} {v:Value} {n a j5 k k':Nat} {x:It} (h1:Yd s f.gN j=.ok (x,j5)) (hl:0<=ZT f round n0) (hf:x.gP.find? (bkB (ZT f round n0))=some (x.gP.getD k ZQ)):InS s f round n0 j W' B cls ref v n a j5 k' 182 ((x.gP.getD k ZQ).at_:Int):=by
 refine .inl ⟨by decide,_,rfl,?_⟩;rw[zdQ,h1];simp only;have hb:zfo (ZT f round n0) x.gP=some (x.gP.getD k ZQ):=by unfold zfo;rw[qy hl];exact hf
 rw[hb]
theorem zeP {α:Type} (p:α->Bool) (l:List α) (d:α) (k:Nat) (hk:k<l.length) (h:(l.take k).find? p=none):(p (l.getD k d)=true->l.find? p=some (l.getD k d))/\(p (l.getD k d)=false->(l.take (k+1)).find? p=none):=by
 have e:l.getD k d=l[k]:=by simp[qj,hk]
 rw[e];refine⟨λhp=>?_,λhp=>?_⟩
 ·have h2:l=l.take k++l[k]::l.drop (k+1):=by
   rw[List.getElem_cons_drop,List.take_append_drop]
  have h3:l.find? p=(l.take k++l[k]::l.drop (k+1)).find? p:=congrArg _ h2;rw[h3,List.find?_append,h,Option.none_or,List.find?_cons_of_pos hp]
 ·rw[qE hk,zbR,h,hp];rfl
def znP (f:Fm) (round:Bool) (x:It):Bool:=decide (0<=x.cls)&&decide (25<=x.cls+VG f round)&&!(round&&f.most==0)
def zhz (s:ByteArray) (f:Fm) (round:Bool) (i:Nat):Except (Int×Nat) (List It×Nat):=if¬pg s i 32 then .error (180,i) else Ka s f round (s.size+1) [] i
theorem zdF {s:ByteArray} {f:Fm} {round:Bool} {start i:Nat}:Kd s f round start i=match zhz s f round i with
  |.error e=>.error e
  |.ok (l,j)=>
   if 512<ZF (f.rows++[⟨round,l⟩]) f.most then .error (3,start)
   else match l.find? (znP f round) with
    |some x=>.error (5,x.at_)
    |none=>.ok ({f with rows:=f.rows++[⟨round,l⟩]},j):=by
 unfold Kd zhz;by_cases h:¬pg s i 32=true
 ·rw[qy h,qy h]
 ·rw[qx h,qx h];cases Ka s f round (s.size+1) [] i with
  |error e=>rfl
  |ok lj=>rfl
def RoL (w W:World) (rb wb:Nat) (s:ByteArray) (f:Fm) (F:RF) (round:Bool) (i1:Nat) (RI:Except (Int×Nat) (List It×Nat)):Prop:=
 (∃l j vi p5 q,RoJ w W rb wb s F round i1 l j vi p5/\Ka s f round q l j=RI/\s.size-j<q)∨
 (∃(c:Int) (p j:Nat) (A:Option Addr) (n cp:Nat),c≠0/\RR W rb s j c p F/\W.heap[wb]?=some (.cells #[.bool round,.slice A n cp] 96 (0,0))/\Off [rb] w W/\RI=.error (c,p))
def ZA (B rb:Nat) (s:ByteArray) (w:World) (r:Except (Int×Nat) (Fm×Nat)) (e:Ending) (w':World):Prop:=e=.returned (.tuple #[])/\Below B w w'/\match r with
 |.ok (f',j)=>j<=s.size/\∃F',RR w' rb s j 0 0 F'/\Qc w' B f' F'
 |.error (c,p)=>c≠0/\∃j F',RR w' rb s j c p F'
theorem zk1 {f:Fm} {round:Bool} {n:Nat} (h0:0<=ZF f.rows f.least):(0<=ZT f round n<->(!(round&&f.most==0))=true)/\((!(round&&f.most==0))=true->ZT f round n=ZF f.rows f.least+n):=by
 unfold ZT;cases hb:(round&&f.most==0) with
 |true=>simp
 |false=>simp;omega
theorem zmn:Tryz.prog.info? 99=some Tryz.t99:=by kernel_rfl
theorem zmo:Tryz.t99.zero=some (.agg #[.int .i64 0,.int .i64 0,.slice none 0 0,.int .i64 0]):=by kernel_rfl
theorem zmp:Tryz.t99.size=4:=by kernel_rfl
theorem zlY:Tryz.t99.bytes=48:=by kernel_rfl
theorem zmq:Tryz.prog.info? 96=some Tryz.t96:=by kernel_rfl
theorem zmr:Tryz.t96.zero=some (.agg #[.bool false,.slice none 0 0]):=by kernel_rfl
theorem zms:Tryz.t96.size=2:=by kernel_rfl
theorem zlZ:Tryz.t96.bytes=32:=by kernel_rfl
theorem RR.form {w:World} {rb:Nat} {s:ByteArray} {i:Nat} {no wh:Int} {F:RF} (h:RR w rb s i no wh F):w.cell? ⟨rb,4,none⟩=some F.nm/\w.cell? ⟨rb,5,none⟩=some F.vl/\w.cell? ⟨rb,6,none⟩=some F.vm/\w.cell? ⟨rb,7,none⟩=some F.vr/\w.cell? ⟨rb,8,none⟩=some (.bool F.rd)/\w.cell? ⟨rb,9,none⟩=some (.int .i64 F.a)/\w.cell? ⟨rb,10,none⟩=some (.int .i64 F.b)/\w.cell? ⟨rb,11,none⟩=some (.int .i64 F.c):=
 ⟨qc _ _ 4 _ _ (0,0) h.r,qc _ _ 5 _ _ (0,0) h.r,qc _ _ 6 _ _ (0,0) h.r,qc _ _ 7 _ _ (0,0) h.r,qc _ _ 8 _ _ (0,0) h.r,qc _ _ 9 _ _ (0,0) h.r,qc _ _ 10 _ _ (0,0) h.r,qc _ _ 11 _ _ (0,0) h.r⟩
theorem RoJ.dr {w W:World} {rb wb:Nat} {s:ByteArray} {F:RF} {round:Bool} {i1:Nat} {l:List It} {j:Nat} {vi:Value} {p5:List Value} (h:RoJ w W rb wb s F round i1 l j vi p5) (n:Nat):RoJ w (W.drewN n) rb wb s F round i1 l j vi p5:=
 ⟨h.rr.drewN n,h.bx,h.its.off (T:=[]) (Off.drewN [] W n) pc.nil (by simp) (by simp),h.off.trans (Off.drewN _ W n),h.len,h.jle,h.ok⟩
theorem Qc.more {W w8:World} {B C rb wb:Nat} {s:ByteArray} {f:Fm} {F:RF} {j cr:Nat} {Ar:Option Addr} {l:List It} {vi v8:Value} {p5 vis:List Value} {round:Bool} (hf:Qc W B f F) (hr:RR W rb s j 0 0 F) (hBr:B<=rb) (hv:F.vr=.slice Ar f.rows.length cr) (hi:p4 W C vi l p5) (hC:B<=C) (zqQ:Z8 W B F.vr f.rows vis)
  (hb:W.heap[wb]?=some (.cells #[.bool round,vi] 96 (0,0))) (hwb:∀k∈F.vr.ownBlock.toList,k≠wb) (hwr:wb≠rb) (hown:w8.ownsRow B 96 2 v8 (f.rows.length+1) (JD f.rows vis++[.bool round,vi])) (hg:W.grownBy w8 (Value.slice Ar f.rows.length cr).ownBlock):
  (RR (w8.setCell ⟨rb,7,none⟩ v8) rb s j 0 0 {F with vr:=v8}/\Qc (w8.setCell ⟨rb,7,none⟩ v8) B {f with rows:=f.rows++[(⟨round,l⟩:Rw)]} {F with vr:=v8}/\Below B W (w8.setCell ⟨rb,7,none⟩ v8)/\(w8.setCell ⟨rb,7,none⟩ v8).heap[wb]?=some (.cells #[.bool round,vi] 96 (0,0))/\p4 (w8.setCell ⟨rb,7,none⟩ v8) C vi l p5)/\w8.cell? ⟨rb,7,none⟩=some (.slice Ar f.rows.length cr)/\w8.frozen? ⟨rb,7,none⟩=false:=by
 rw[<-hv] at hg;have hog:Off F.vr.ownBlock.toList W w8:=Off.grown hg (λk hk=>by rw[hk];simp);have ht:pc W F.vr.ownBlock.toList [96]:=zea zqQ.o;have ZX:=hr.off hog (zcO zqQ.o hr.r (by decide));have hos:=Off.setCell w8 rb 7 v8;have hts:pc w8 [rb] [115]:=pc.one ZX.r;have pB:RR (w8.setCell ⟨rb,7,none⟩ v8) rb s j 0 0 {F with vr:=v8}:=⟨qs w8 rb 7 _ _ v8 ZX.r,ZX.le,ZX.sz,ZX.ok⟩;have hw:=(qg hb).1;have Qo:=(hog.block wb hw (λhm=>hwb _ hm rfl)).trans hb;have pb:=(hos.block wb (qg Qo).1 (by simp;exact hwr)).trans Qo;have hi9:∀{v:Value} {l:List It} {p5:List Value} {D:Nat},p4 W D v l p5->p4 (w8.setCell ⟨rb,7,none⟩ v8) D v l p5:=λh=>(h.off hog ht (by decide) (by decide)).off hos hts (by decide) (by decide);have hn:=zqQ.n;obtain⟨cs,hm⟩:=hf.m;refine⟨⟨pB,⟨hf.nm,hos.pp (hog.pp hf.l ht (by decide)) hts (by decide),⟨cs,(hm.off hog ht (by decide) (by decide) (by decide) (by decide)).off hos hts (by decide) (by decide) (by decide) (by decide)⟩,⟨vis++[vi],by simp[hn],?_,λk hk=>?_⟩,hf.rd,hf.a,hf.b,hf.c⟩,?_,pb,hi9 hi⟩,?_,qf _ _ 7 _ _ ZX.r⟩
 ·rw[zfT f.rows vis ⟨round,l⟩ vi hn,qv];exact hos.pp hown hts (by decide)
 ·by_cases hkl:k<f.rows.length
  ·have e1:(vis++[vi]).getD k .nilFunc=vis.getD k .nilFunc:=zaR _ _ _ _ (by omega);have e2:(f.rows++[(⟨round,l⟩:Rw)]).getD k ⟨false,[]⟩=f.rows.getD k ⟨false,[]⟩:=zaR _ _ _ _ hkl;rw[e1];simp only;rw[e2];obtain⟨vms',h'⟩:=zqQ.i k hkl;exact⟨vms',hi9 h'⟩
  ·obtain rfl:k=f.rows.length:=by simp at hk;omega
   have e1:(vis++[vi]).getD f.rows.length .nilFunc=vi:=(by rw[<-hn];exact zaM _ _ _);have e2:(f.rows++[(⟨round,l⟩:Rw)]).getD f.rows.length ⟨false,[]⟩=⟨round,l⟩:=zaM _ _ _;rw[e1];simp only;rw[e2];exact⟨p5,(hi9 hi).mono hC⟩
 ·have h1:=hr.lt;have h2:=ZX.lt;exact(hog.below (by omega) (λk hk=>(zfs zqQ.o k hk).1)).trans (hos.below (by omega) (λk hk=>by simp at hk;omega))
 ·rw[<-hv];exact qc _ _ 7 _ _ (0,0) ZX.r
def RRnx (w W wx:World) (B rb wb:Nat) (s:ByteArray) (f:Fm) (round:Bool) (F:RF) (j:Nat) (l:List It) (vi:Value) (p5:List Value):Prop:=
 ∃F',RR wx rb s j 0 0 F'/\Qc wx B {f with rows:=f.rows++[(⟨round,l⟩:Rw)]} F'/\Below B W wx/\wx.heap[wb]?=some (.cells #[.bool round,vi] 96 (0,0))/\p4 wx w.heap.size vi l p5/\F'.rd=F.rd
theorem p4.row {w:World} {B:Nat} {A:Option Addr} {n c:Nat} {l:List It} {p5:List Value} (h:p4 w B (.slice A n c) l p5) {k:Nat} (hk:k<l.length):
  ∃g,A=some ⟨g,0,none⟩/\w.cell? ⟨g,k*4,none⟩=some (.int .i64 (l.getD k px).cls)/\w.cell? ⟨g,k*4+3,none⟩=some (.int .i64 (l.getD k px).at_):=by
 have hlen:=zin l p5 h.n;have hget:=zio l p5 k h.n hk;rcases h.o.2 with⟨e,e0⟩|⟨g,cap,cur,e,_,hg,_⟩
 ·omega
 ·have ho:=h.o;simp only[jl] at e;obtain⟨rfl,rfl,rfl⟩:=e;exact⟨g,rfl,(ho.cellAt (k*4) (by omega)).trans hget.1,(ho.cellAt (k*4+3) (by omega)).trans hget.2.2.2⟩
def RgS (S:Int) (start:Nat) (f:Fm) (round:Bool) (l:List It) (k:Nat) (no wh:Int):Prop:=
 (512<S/\no=3/\wh=start)∨(¬512<S/\((no=0/\wh=0/\(l.take k).find? (znP f round)=none)∨(∃x:It,no=5/\wh=x.at_/\l.find? (znP f round)=some x)))
theorem RgS.no {S:Int} {start:Nat} {f:Fm} {round:Bool} {l:List It} {k:Nat} {no wh:Int} (h:RgS S start f round l k no wh) (hk:k<l.length) (hx:znP f round (l.getD k px)=false):RgS S start f round l (k+1) no wh:=by
 rcases h with h|⟨hs,⟨h0,hw,hf⟩|h⟩
 ·exact .inl h
 ·exact .inr ⟨hs,.inl ⟨h0,hw,(zeP _ l px k hk hf).2 hx⟩⟩
 ·exact .inr ⟨hs,.inr h⟩
theorem RgS.yes {S:Int} {start:Nat} {f:Fm} {round:Bool} {l:List It} {k:Nat} {no wh:Int} (h:RgS S start f round l k no wh) (hk:k<l.length) (hx:znP f round (l.getD k px)=true):RgS S start f round l (k+1) (QQ no 5) (ZV no wh ((l.getD k px).at_:Int)):=by
 rcases h with⟨hs,rfl,rfl⟩|⟨hs,⟨rfl,rfl,hf⟩|⟨x,rfl,rfl,hf⟩⟩
 ·exact .inl ⟨hs,by simp[QQ],by simp[ZV]⟩
 ·exact .inr ⟨hs,.inr ⟨_,by simp[QQ],by simp[ZV],(zeP _ l px k hk hf).1 hx⟩⟩
 ·exact .inr ⟨hs,.inr ⟨x,by simp[QQ],by simp[ZV],hf⟩⟩
theorem zl0 (B rb:Nat) (s:ByteArray) (f:Fm) (F:RF) (round:Bool) (start i i0:Nat) (w:World) (h:RR w rb s i 0 0 F) (hf:Qc w B f F) (hk:pq f i0) (hi0:i0+1<=i) (hi:i<=s.size) (hB:B<=w.heap.size) (hBr:B<=rb):
  Calls Tryz.prog 71 #[.pointer (some ⟨rb,0,none⟩),.bool round,.int .i64 start] w (ZA B rb s w (Kd s f round start i)):=by
 have hsz:=h.sz;have hrb:=h.lt;obtain⟨vis,hrm⟩:=hf.r;have htot:=hk.le;obtain⟨f4,f5,f6,f7,f8,f9,f10,f11⟩:=h.form;have hS:=zeL B F.nm F.vl F.vm F.vr F.rd F.a F.b F.c f.rows vis F.a w.drew (hrm.off (T:=[]) (Off.drew [] w) pc.nil (by simp) (by simp) (by simp)) (by rw[hf.a];exact hk.l0.1) (by rw[hf.a];have:=hk.l0.2;omega) (by omega) (by omega);rw[show ZF f.rows F.a=ZF f.rows f.least by rw[hf.a]] at hS;have HS:=qh hS;have hbd:=zij hk (by omega) hk.l0.1 hk.l0.2;obtain⟨ah,hah⟩:∃ah:Int,ah=ZF f.rows f.least:=⟨_,rfl⟩;rw[<-hah] at HS hbd;have Hah:=qh hah;have H:=qh h;have Hf:=qh hf;have Hk:=qh hk;generalize hR:Kd s f round start i=R;have HR:=qh hR;have hVlt:∀k∈F.vr.ownBlock.toList,k<w.heap.size:=λk hk=>(zfs hrm.o k hk).2;have HVlt:=qh hVlt;clear hS hah h hf hk hR hrm hVlt;go_enter Tryz.func71,Tryz.ntmps71;go_wp2_with fail;go_cut [6] from 6 to 24 (λv6 wx=>v6=.int .i64 ah/\Hid (Below w.heap.size w wx))
 case first=>
  go_region_law (go_simp;go_at_call 16;refine HS.out.mono ?_;rintro e w2 ⟨rfl,hb2⟩;have Hb2:=qh ((ZG (qb w.heap.size w) 1).trans hb2);clear hb2)
  all_goals
   go_wp2_with fail;go_meet
   exact⟨rfl,Hb2⟩
 case rest=>
  clear f4 f5 f6 f7 f8 f9 f10 f11 HS;obtain⟨rfl,hb1⟩:=hcut;obtain⟨W1,hW1⟩:∃W1:World,W1=wc:=⟨_,rfl⟩;subst hW1;have hr1:=H.out.below hb1.out;have Za:Below W1.heap.size W1 (W1.alloc (.cells #[.bool round,.slice none 0 0] 96)):=(qb _ _).alloc (ql _) _;have hbx:=qn W1 (.cells #[.bool round,.slice none 0 0] 96);have HA:Hid (∀n,RoJ w ((W1.alloc (.cells #[.bool round,.slice none 0 0] 96)).drewN n) rb W1.heap.size s F round i [] i (.slice none 0 0) []):=qh (λn=>
   ⟨(hr1.below Za).drewN n,hbx,⟨rfl,⟨rfl,.inl ⟨rfl,rfl⟩⟩,λk hk=>by simp at hk⟩,((Off.of_below hb1.out (ql _) _).trans (Off.alloc _ W1 _)).trans (Off.drewN _ _ n),by simp,hi,by simp⟩)
  have Hc:=qh (vZ rb s i 0 0 F _ (hr1.below Za));have hb0:yQ 0 s i=gZ s i:=by unfold yQ;rw[qy rfl]
  rw[hb0] at Hc;have hwb:w.heap.size<=W1.heap.size:=hb1.out.size;have hwr:W1.heap.size≠rb:=by omega
  clear hr1 Za hbx hb0;have his:pg s i 32=(((gZ s i).toNat:Int)==32):=by
   by_cases hlt:i<s.size
   ·rw[QX hlt,Z3 hlt]
   ·rw[zcE hlt,zbe hlt];rfl
  obtain⟨RI,hRI⟩:∃RI,zhz s f round i=RI:=⟨_,rfl⟩;have HRI:=qh hRI;clear hRI;have X1:=qh (rfl:gZ s i=gZ s i);generalize gZ s i=bc at Hc his;go_wp2_with fail;refine Hc.out.mono ?_;rintro e w3 ⟨rfl,n3,rfl⟩;go_upto_if 29 with fail
  have Y5:=qh (HA.out n3);generalize (W1.alloc (.cells #[.bool round,.slice none 0 0] 96)).drewN n3=W3 at*;clear HA Hc;generalize hwbe:W1.heap.size=wb at*;clear hwbe;go_cut [31] from 29 to 31 (λv31 wx=>Hid (RoL w wx rb wb s f F round i RI))
  case first=>
   cases hsp:pg s i 32 with
   |true=>
    have q32:((bc.toNat:Int) !=32)=false:=(by rw[hsp] at his;simp[bne,<-his]);have gT:Hid (RoL w W3 rb wb s f F round i RI):=qh (.inl ⟨[],i,_,_,s.size+1,Y5.out,by rw[<-HRI.out];unfold zhz;rw[qx (by simpa using hsp)],by omega⟩);clear his;go_wp2_with fail;go_meet
    exact gT
   |false=>
    have q32:((bc.toNat:Int) !=32)=true:=(by rw[hsp] at his;simp[bne,<-his]);have Qx:=qh (zbu rb s i 0 0 F W3 Y5.out.rr);clear his;go_wp2_with fail;refine Qx.out.mono ?_;rintro e w4 ⟨rfl,hr4,QI⟩;have hfin:RoL w w4 rb wb s f F round i RI:=.inr ⟨180,i,i,none,0,0,by decide,hr4,(Y5.out.pz hwr QI).1,(Y5.out.pz hwr QI).2.2,by rw[<-HRI.out];unfold zhz;rw[qy (by simp[hsp])]⟩;have gT:=qh hfin;clear hr4 QI hfin;go_wp2_with fail;go_meet
    exact gT
  case rest=>
   have zqR:=hcut;clear hcut Y5 his;go_wp2_with fail;go_loopw [] (λwr=>Hid (RoL w wr rb wb s f F round i RI)) (λwr=>match wr.cell? ⟨rb,2,none⟩ with|some v=>if intOf v=0 then s.size+2-(match wr.cell? ⟨rb,1,none⟩ with|some u=>(intOf u).toNat|none=>0) else 0|none=>0)
   case atStart=>exact zqR
   case round=>
    have hrl:=hrel.out;clear zqR;rcases hrl with⟨l,j,vi,p5,q,hJ,hT,hq⟩|⟨c,p,j,A,n,cp,hc,hr,hbx,hof,hRI⟩
    ·have HJ:=qh hJ;have HT:=qh hT;clear hrel hJ hT;have hq2:=HJ.out.rr.c2;have hq1:=HJ.out.rr.c1;have p8:Hid (wr.cell? ⟨rb,2,none⟩=some (.int .i64 0)/\wr.cell? ⟨rb,1,none⟩=some (.int .i64 j)):=qh ⟨hq2,hq1⟩;clear hq2 hq1;have Hc:=qh (vZ rb s j 0 0 F wr HJ.out.rr);have hb0:yQ 0 s j=gZ s j:=(by unfold yQ;rw[qy rfl]);rw[hb0] at Hc;have his:pg s j 32=(((gZ s j).toNat:Int)==32):=by
      by_cases hlt:j<s.size
      ·rw[QX hlt,Z3 hlt]
      ·rw[zcE hlt,zbe hlt];rfl
     clear hb0 X1;have X1:=qh (rfl:gZ s j=gZ s j);generalize gZ s j=bj at Hc his;cases hsp:pg s j 32 with
     |false=>
      have q32:((bj.toNat:Int)==32)=false:=(by rw[<-his];exact hsp);have hRI:RI=.ok (l,j):=by
       have hT:=HT.out;cases q with
       |zero=>omega
       |succ q'=>
        unfold Ka at hT;rw[qx (by rw[hsp];simp)] at hT;exact hT.symm
      obtain⟨S,hS⟩:∃S:Int,ZF (f.rows++[(⟨round,l⟩:Rw)]) f.most=S:=⟨_,rfl⟩;have HRR:Hid (R=if 512<S then .error (3,start) else match l.find? (znP f round) with|some x=>.error (5,x.at_)|none=>.ok ({f with rows:=f.rows++[(⟨round,l⟩:Rw)]},j)):=qh (by
       rw[<-HR.out,zdF,HRI.out,hRI];simp only;rw[hS])
      have HS2:=qh hS;have hJ3:=λn=>HJ.out.dr n;have r2:=λn=>(hJ3 n).rr.c2;have r8:=λn=>(hJ3 n).rr.form.2.2.2.2.1;clear hRI hS his hJ3;go_wp2_with fail;refine Hc.out.mono ?_;rintro e w3 ⟨rfl,n3,rfl⟩;go_wp2_with fail;have QT:=qh (HJ.out.dr n3);clear r2 r8 Hc;generalize wr.drewN n3=W5 at*;obtain⟨Ai,ci,Xv⟩:=pJ QT.out.its.o;subst Xv;have Xy:=Hf.out.pz H.out QT.out.off;obtain⟨zsC,zp0⟩:=Xy.r;obtain⟨Ar,cr,Zg⟩:=pJ zp0.o;have hd5:Off [] W5 W5.drew:=Off.drew [] W5;have f7:W5.cell? ⟨rb,7,none⟩=some (.slice Ar f.rows.length cr):=(by rw[QT.out.rr.form.2.2.2.1,Zg]);have f7a:∀o,(W5.alloc o).cell? ⟨rb,7,none⟩=some (.slice Ar f.rows.length cr):=λo=>(qw (qa W5 o rb QT.out.rr.lt)).trans f7;have w0:W5.cell? ⟨wb,0,none⟩=some (.bool round):=qc _ _ 0 _ _ (0,0) QT.out.bx;have w1:W5.cell? ⟨wb,1,none⟩=some (.slice Ai l.length ci):=qc _ _ 1 _ _ (0,0) QT.out.bx;have htot:=Hk.out.le;have X6:Hid (f.rows.length+1<=maxLen):=qh (by unfold maxLen;omega);have Kl:Hid ((f.rows.length+1)*32<=140737488355328):=qh (by omega);have Hpos:Hid (0<f.rows.length+1):=qh (by omega);have YR:Hid (B<=W5.drew.heap.size):=qh (qm hB QT.out.off.size);have pv:Hid (W5.drew.ownsRow B 96 2 (.slice Ar f.rows.length cr) f.rows.length (JD f.rows zsC)):=qh (by rw[<-Zg];exact hd5.own zp0.o (λk hk=>by simp));have Qw:Hid (∀u∈(#[.bool round,.slice Ai l.length ci]:Array Value).toList,u.oneCell'=true):=qh (by intro u hu;simp at hu;rcases hu with rfl|rfl<;>rfl);have hJd:=QT.out
      have HF:Hid (∀w8 v8,W5.drew.grownBy w8 (Value.slice Ar f.rows.length cr).ownBlock->w8.ownsRow B 96 2 v8 (f.rows.length+1) (JD f.rows zsC++[.bool round,.slice Ai l.length ci])->
        (RRnx w W5 (w8.setCell ⟨rb,7,none⟩ v8) B rb wb s f round F j l (.slice Ai l.length ci) p5/\w8.cell? ⟨rb,7,none⟩=some (.slice Ar f.rows.length cr)/\w8.frozen? ⟨rb,7,none⟩=false)):=qh (λw8 v8 hg hown=>by
       have hi':=hJd.its.off (T:=[]) hd5 pc.nil (by simp) (by simp);have ztu:=zp0.off (T:=[]) hd5 pc.nil (by simp) (by simp) (by simp);have hf':=Xy.off (T:=[]) hd5 pc.nil (by simp);obtain⟨⟨e1,e2,e3,e4,e5⟩,e6,e7⟩:=Qc.more (wb:=wb) (W:=W5.drew) (w8:=w8) hf' (hJd.rr.drewN 1) hBr Zg hi' hB ztu hJd.bx (λk hk=>by have:=HVlt.out k hk;omega) hwr hown hg;exact⟨⟨_,e1,e2,(ZG (qb B W5) 1).trans e3,e4,e5,rfl⟩,e6,e7⟩)
      clear Xy zp0 Zg hd5 hJd htot;go_cut [130] from 119 to 130 (λv130 wx=>Hid (RRnx w W5 wx B rb wb s f round F j l (.slice Ai l.length ci) p5))
      case first=>
       go_region_law (refine zah W5.drew (by rfl) (.tmp 124) (.tmp 126) 27 (by rfl) B 96 _ _ 2 32 Tryz.underlying27 zmq zmr zms zlZ rfl (by decide) (.slice Ar f.rows.length cr) f.rows.length (JD f.rows zsC) _ _ (by simp[Act.eval,Act.put]) (by simp[Act.eval,Act.put];rfl) (by simp) (by exact pv.out) rfl (by exact Qw.out) X6.out Kl.out (by exact YR.out) ?_;intro v8 w8 pj ZU Zz;obtain⟨g8,Qz,rfl⟩:=Zv pj Hpos.out;obtain⟨Qi,c8,z8⟩:=HF.out w8 _ ZU pj;have HFin:=qh Qi;clear Qi pj ZU Zz)
       all_goals
        go_wp2_with fail;go_meet
        exact HFin
      case rest=>
       obtain⟨W7,hW7⟩:∃W7:World,W7=wc:=⟨_,rfl⟩;subst hW7;obtain⟨F2,KK,hf7,QW,hbx7,hi7,hF2⟩:=hcut.out;have hbw7:Below B w W7:=(QT.out.off.below hB (λk hk=>by simp at hk;omega)).trans QW;obtain⟨vis7,hrm7⟩:=hf7.r;have hlen5:=QT.out.len;have hjle5:=QT.out.jle;have htot:=Hk.out.le;have hnr:vQ (f.rows++[(⟨round,l⟩:Rw)])<=65536/\(f.rows++[(⟨round,l⟩:Rw)]).length<=65536:=by
        unfold vQ at htot|-;simp only[jv,yD,xo,yB,List.sum_cons,List.sum_nil,qv,qB,qG];omega
       have hb2:F2.b=f.most:=hf7.b;have hm0:=Hk.out.m0;have hS7:=zeL B F2.nm F2.vl F2.vm F2.vr F2.rd F2.a F2.b F2.c (f.rows++[(⟨round,l⟩:Rw)]) vis7 F2.b W7.drew (hrm7.off (T:=[]) (Off.drew [] W7) pc.nil (by simp) (by simp) (by simp)) (by rw[hb2];exact hm0.1) (by rw[hb2];have:=hm0.2;omega) hnr.1 hnr.2;rw[show ZF (f.rows++[(⟨round,l⟩:Rw)]) F2.b=S by rw[hb2];exact HS2.out] at hS7;have HS7:=qh hS7;obtain⟨f4,f5,f6,f7,f8,f9,f10,f11⟩:=KK.form;have Hr7:=qh KK;have Hf7:=qh hf7;have Hbw7:=qh hbw7;have Hbx7:=qh hbx7;have Hi7:=qh hi7;have HF2:=qh (show F2.rd=F.rd/\F2.b=f.most/\F2.c=f.shift from⟨hF2,hb2,hf7.c⟩);clear hcut KK hf7 QW hbx7 hi7 hF2 hbw7 hrm7 hb2 hS7 hnr;go_wp2_with fail;go_cut [141] from 131 to 141 (λv141 wx=>v141=.bool (decide (512<S))/\Hid (Below W7.heap.size W7 wx))
       case first=>
        go_region_law (go_simp;go_at_call 16;refine HS7.out.mono ?_;rintro e w2 ⟨rfl,hb2⟩;have Hb2:=qh ((ZG (qb W7.heap.size W7) 1).trans hb2);clear hb2)
        all_goals
         go_wp2_with fail;go_meet
         exact⟨rfl,Hb2⟩
       case rest=>
        clear f4 f5 f6 f7 f8 f9 f10 f11 HS7;obtain⟨rfl,Qo⟩:=hcut;obtain⟨W8,hW8⟩:∃W8:World,W8=wc:=⟨_,rfl⟩;subst hW8;have ZX:=Hr7.out.below Qo.out;have hf8:=Hf7.out.below Qo.out;have hbx8:=(Qo.out.block wb (qg Hbx7.out).1).trans Hbx7.out;have hi8:=Hi7.out.off (T:=[]) (Off.of_below Qo.out (ql _) []) pc.nil (by simp) (by simp);have Hr8:=qh ZX;have Hf8:=qh hf8;have Hbx8:=qh hbx8;have Hi8:=qh hi8;have Hbw8:Hid (Below B w W8):=qh (Hbw7.out.trans ((Off.of_below Qo.out (ql _) []).below (qm hB Hbw7.out.size) (λ_ h=>by cases h)));clear ZX hf8 hbx8 hi8;go_upto_if 141 with fail
        go_cut [144] from 141 to 144 (λv144 wx=>Hid (∃no wh,RR wx rb s j no wh F2/\Off [rb] W8 wx/\RgS S start f round l 0 no wh))
        case first=>
         by_cases zrt:512<S
         ·have d1:decide (512<S)=true:=qt zrt;have Hw:=qh (zaO rb s j 0 0 F2 3 (start:Int) W8 Hr8.out (by decide));go_wp2_with fail;refine Hw.out.mono ?_;rintro e w9 ⟨rfl,pB,Jg⟩;have gT:Hid (∃no wh,RR w9 rb s j no wh F2/\Off [rb] W8 w9/\RgS S start f round l 0 no wh):=qh ⟨_,_,pB,Jg,.inl ⟨zrt,rfl,rfl⟩⟩;clear pB Jg;go_wp2_with fail;go_meet
          exact gT
         ·have d1:decide (512<S)=false:=qd zrt;have gT:Hid (∃no wh,RR W8 rb s j no wh F2/\Off [rb] W8 W8/\RgS S start f round l 0 no wh):=qh ⟨0,0,Hr8.out,Off.refl _ _,.inr ⟨zrt,.inl ⟨rfl,rfl,rfl⟩⟩⟩;go_wp2_with fail;go_meet
          exact gT
        case rest=>
         have zqR:=hcut;clear hcut;go_wp2_with fail;go_loopw [13,14] (λv13 v14 wr=>∃k:Nat,k<=l.length/\v13=.int .i64 k/\Hid (∃no wh,RR wr rb s j no wh F2/\Off [rb] W8 wr/\RgS S start f round l k no wh)) (λv13 _ _=>l.length-(intOf v13).toNat)
         case atStart=>exact⟨0,qF _,rfl,zqR⟩
         case round=>
          clear zqR;obtain⟨k,hk,rfl,hS⟩:=hrel;obtain⟨no,wh,hr,hof,hrg⟩:=hS.out;have Hr:=qh hr;have Xl:=qh hof;have Hrg:=qh hrg;have w1:wr.cell? ⟨wb,1,none⟩=some (.slice Ai l.length ci):=qc _ _ 1 _ _ (0,0) ((hof.block wb (qg Hbx8.out).1 (by simp;exact hwr)).trans Hbx8.out);have hi:=Hi8.out.off hof (pc.one Hr8.out.r) (by decide) (by decide);clear hS hr hof hrg;by_cases hlt:k<l.length
          ·obtain⟨g,hg,c0,c3⟩:=hi.row hlt;subst hg;have hxo:=QT.out.ok (l.getD k px) (by rw[qj];simp[hlt]);have hcl:=hxo.cl;have i1:(0:Int)<=(k:Int):=(by omega);have i2:(k:Int)<(l.length:Int):=(by omega);have V1:F.rd=f.rounds:=Hf.out.rd;have hyes:=Hrg.out.yes hlt;have hno:=Hrg.out.no hlt;have hrb:znP f round (l.getD k px)=(decide (0<=(l.getD k px).cls)&&decide (25<=(l.getD k px).cls+VG f round)&&!(round&&f.most==0)):=rfl;have b10:∀n,(wr.drewN n).cell? ⟨rb,10,none⟩=some (.int .i64 f.most):=λn=>by rw[(Hr.out.drewN n).form.2.2.2.2.2.2.1,HF2.out.2.1]
           have b11:∀n,(wr.drewN n).cell? ⟨rb,11,none⟩=some (.int .i64 f.shift):=λn=>by rw[(Hr.out.drewN n).form.2.2.2.2.2.2.2,HF2.out.2.2]
           have zsD:=b10 0;have zru:=b11 0;rw[show wr.drewN 0=wr from rfl] at zsD zru;have hm0:=Hk.out.m0;have hs0:=Hk.out.s0;have Hw:=qh (λn=>zaO rb s j no wh F2 5 ((l.getD k px).at_:Int) (wr.drewN n) (Hr.out.drewN n) (by decide));clear hxo hi;generalize (l.getD k px).cls=cl at*;generalize (l.getD k px).at_=at9 at*;generalize znP f round (l.getD k px)=rg at*;have YL:=qh hyes;have Hno:=qh hno;clear hyes hno;by_cases hc0:cl<0
           ·have d1:decide (cl<0)=true:=qt hc0;have Hrb:Hid (rg=false):=qh (by rw[hrb,zh (by omega)];rfl);clear hrb V1 b10 b11 zsD zru;go_wp2_with fail;go_roundw
            case rel=>exact⟨k+1,by omega,by go_num,qh ⟨_,_,Hr.out,Xl.out,Hno.out Hrb.out⟩⟩
            case measure=>simp[intOf];omega
           ·have d1:decide (cl<0)=false:=qd hc0;have d0:decide (0<=cl)=true:=qt (by omega);rw[d0,zU] at hrb;cases round with
            |true=>
             by_cases hmz:f.most=0
             ·have Hrb:Hid (rg=false):=qh (by rw[hrb,hmz];simp);have e1:decide (0<f.most)=false:=qd (by omega);have e1':¬0<f.most:=(by omega);have e2:decide (24<cl)=false:=qd (by omega);have e2':¬24<cl:=(by omega);clear hrb V1 b10 b11 zru hmz;go_wp2_with fail;go_roundw
              case rel=>exact⟨k+1,by omega,by go_num,qh ⟨_,_,Hr.out,Xl.out,Hno.out Hrb.out⟩⟩
              case measure=>simp[intOf];omega
             ·have e1:decide (0<f.most)=true:=qt (by omega);have e1':0<f.most:=(by omega);have hup:VG f true=(f.most-1)*f.shift:=rfl;have hmb:=zeM (a:=f.most-1) (b:=f.shift) (by omega) (by omega) hs0.1 hs0.2;have hwa:IntKind.i64.wrap (f.most-1)=f.most-1:=qi _ (by omega);have hwm:IntKind.i64.wrap ((f.most-1)*f.shift)=(f.most-1)*f.shift:=qi _ (by omega);have hws:IntKind.i64.wrap (cl+(f.most-1)*f.shift)=cl+(f.most-1)*f.shift:=qi _ (by omega);rw[hup,show(f.most==0)=false by simpa using hmz] at hrb;clear V1 hmz hup;by_cases hg:25<=cl+(f.most-1)*f.shift
              ·have Hrb:Hid (rg=true):=qh (by rw[hrb,qK hg];rfl);have e2:decide (24<cl+(f.most-1)*f.shift)=true:=qt (by omega);have e2':24<cl+(f.most-1)*f.shift:=(by omega);clear hrb hmb hg;go_wp2_with fail;go_quiet (fail)
               go_wp2_with fail;refine(Hw.out _).mono ?_;rintro e w9 ⟨rfl,pB,Jg⟩;have Hr9:=qh pB;have Ho9:=qh ((Xl.out.trans (Off.drewN _ wr _)).trans Jg);clear pB Jg;go_wp2_with fail;go_roundw
               case rel=>exact⟨k+1,by omega,by go_num,qh ⟨_,_,Hr9.out,Ho9.out,YL.out Hrb.out⟩⟩
               case measure=>simp[intOf];omega
              ·have Hrb:Hid (rg=false):=qh (by rw[hrb,zh hg];rfl);have e2:decide (24<cl+(f.most-1)*f.shift)=false:=qd (by omega);have e2':¬24<cl+(f.most-1)*f.shift:=(by omega);clear hrb hmb hg;go_wp2_with fail;go_quiet (fail)
               go_wp2_with fail;go_roundw
               case rel=>exact⟨k+1,by omega,by go_num,qh ⟨_,_,Hr.out.drewN _,Xl.out.trans (Off.drewN _ wr _),Hno.out Hrb.out⟩⟩
               case measure=>simp[intOf];omega
            |false=>
             cases hrd:F.rd with
             |true=>
              have hup:VG f false=f.most*f.shift:=(by unfold VG;rw[qx (by simp),<-V1,hrd,qy rfl]);have hmb:=zeM (a:=f.most) (b:=f.shift) (by omega) (by omega) hs0.1 hs0.2;have hwm:IntKind.i64.wrap (f.most*f.shift)=f.most*f.shift:=qi _ (by omega);have hws:IntKind.i64.wrap (cl+f.most*f.shift)=cl+f.most*f.shift:=qi _ (by omega);rw[hup] at hrb;clear V1 hup;by_cases hg:25<=cl+f.most*f.shift
              ·have Hrb:Hid (rg=true):=qh (by rw[hrb,qK hg];rfl);have e2:decide (24<cl+f.most*f.shift)=true:=qt (by omega);have e2':24<cl+f.most*f.shift:=(by omega);clear hrb hmb hg;go_wp2_with fail;go_quiet (fail)
               go_wp2_with fail;refine(Hw.out _).mono ?_;rintro e w9 ⟨rfl,pB,Jg⟩;have Hr9:=qh pB;have Ho9:=qh ((Xl.out.trans (Off.drewN _ wr _)).trans Jg);clear pB Jg;go_wp2_with fail;go_roundw
               case rel=>exact⟨k+1,by omega,by go_num,qh ⟨_,_,Hr9.out,Ho9.out,YL.out Hrb.out⟩⟩
               case measure=>simp[intOf];omega
              ·have Hrb:Hid (rg=false):=qh (by rw[hrb,zh hg];rfl);have e2:decide (24<cl+f.most*f.shift)=false:=qd (by omega);have e2':¬24<cl+f.most*f.shift:=(by omega);clear hrb hmb hg;go_wp2_with fail;go_quiet (fail)
               go_wp2_with fail;go_roundw
               case rel=>exact⟨k+1,by omega,by go_num,qh ⟨_,_,Hr.out.drewN _,Xl.out.trans (Off.drewN _ wr _),Hno.out Hrb.out⟩⟩
               case measure=>simp[intOf];omega
             |false=>
              have hup:VG f false=0:=(by unfold VG;rw[qx (by simp),<-V1,hrd,qx (by simp)]);have Hrb:Hid (rg=false):=qh (by rw[hrb,hup,zh (by omega)];rfl);have e2:decide (24<cl)=false:=qd (by omega);have e2':¬24<cl:=(by omega);clear hrb V1 hup b10 b11 zsD zru;go_wp2_with fail;go_roundw
              case rel=>exact⟨k+1,by omega,by go_num,qh ⟨_,_,Hr.out,Xl.out,Hno.out Hrb.out⟩⟩
              case measure=>simp[intOf];omega
          ·obtain rfl:k=l.length:=by omega
           have gT:Hid (ZA B rb s w R (.returned (.tuple #[])) wr):=qh (by
            refine⟨rfl,Hbw8.out.trans (Xl.out.below (qm hB Hbw8.out.size) (λk hk=>by simp at hk;omega)),?_⟩;rw[HRR.out];rcases Hrg.out with⟨hs,rfl,rfl⟩|⟨hs,⟨rfl,rfl,hf⟩|⟨x,rfl,rfl,hf⟩⟩
            ·rw[qy hs];exact⟨by decide,_,_,Hr.out⟩
            ·rw[qx hs];rw[qU] at hf;rw[hf];exact⟨QT.out.jle,F2,Hr.out,Hf8.out.pz Hr8.out Xl.out⟩
            ·rw[qx hs,hf];exact⟨by decide,_,_,Hr.out⟩)
           clear hi;go_wp2_with fail;refine q9 (qI rfl _ _ _) rfl ?_;exact gT.out
     |true=>
      have hlt:=XV hsp;have q32:((bj.toNat:Int)==32)=true:=(by rw[<-his];exact hsp);have hw1:IntKind.i64.wrap ((j:Int)+1)=(j:Int)+1:=qi _ (by omega);have hc1:((j+1:Nat):Int)=(j:Int)+1:=(by omega);have H4:Hid (∀n,RR ((wr.drewN n).setCell ⟨rb,1,none⟩ (.int .i64 ((j:Int)+1))) rb s (j+1) 0 0 F/\Off [rb] wr ((wr.drewN n).setCell ⟨rb,1,none⟩ (.int .i64 ((j:Int)+1)))):=qh (λn=>by
       rw[<-hc1];exact⟨(HJ.out.rr.drewN n).to (by omega),(Off.drewN _ _ n).trans (Off.setCell _ rb 1 _)⟩)
      have r1:=HJ.out.rr.c1;have z1:=HJ.out.rr.z 1;clear his hc1;go_wp2_with fail;refine Hc.out.mono ?_;rintro e w3 ⟨rfl,n3,rfl⟩;go_wp2_with fail;obtain⟨hr4,QI⟩:=H4.out n3;clear r1 z1 H4;generalize (wr.drewN n3).setCell ⟨rb,1,none⟩ (.int .i64 ((j:Int)+1))=W4 at*;have XY:=HJ.out.off.trans QI;have hf4:=Hf.out.pz H.out XY;have zrX:=qh (zj6 B rb s (j+1) F f.gN W4 hr4 (by omega) hf4.l (by have:=Hk.out.ll.2;omega));have Hof4:=qh XY;have YX:=qh QI;have Yc:=qh hr4;clear hr4 QI XY hf4;refine zrX.out.mono ?_;rintro e w5 ⟨pH,hres⟩;have hx:∃(cls ref:Int) (A:Option Addr) (n cp a j5:Nat) (no wh:Int),e=.returned (.agg (xrC cls ref (.slice A n cp) a))/\RR w5 rb s j5 no wh F/\(no=0->n<=70000)/\InS s f round l.length (j+1) w5 W4.heap.size cls ref (.slice A n cp) n a j5 0 no wh:=by
       cases hIR:Yd s f.gN (j+1) with
       |error ep=>
        obtain⟨c,p⟩:=ep;rw[hIR] at hres;obtain⟨hc,⟨j5,pi⟩,cls,ref,a,A,n,cp,he⟩:=hres;exact⟨cls,ref,A,n,cp,a,j5,c,p,he,pi,λe=>absurd e hc,.inl ⟨hc,p,rfl,by rw[zdQ,hIR]⟩⟩
       |ok xk=>
        obtain⟨x,k⟩:=xk;rw[hIR] at hres;obtain⟨v,he,YY,pi,hks⟩:=hres;obtain⟨A,cp,rfl⟩:=pJ YY;have hmk:=zep hIR;exact⟨x.cls,x.ref,A,_,cp,x.at_,k,0,0,he,pi,λ_=>by have:=hmk.2.2.1;omega,.inr ⟨rfl,rfl,x,hIR,rfl,rfl,rfl,rfl,YY,λ_=>by simp⟩⟩
      obtain⟨cls,ref,A,n,cp,a,j5,no5,wh5,rfl,pi,hn5,hs5⟩:=hx;have JF:=qh pi;have Hn5:=qh hn5;have HS5:=qh hs5;have VO:=qh (Hof4.out.trans pH);have ZW:=qh pH;clear hres pi hn5 hs5 pH zrX;unfold xrC;go_upto_region 7 with fail
      obtain⟨xb,hxb⟩:∃xb:Nat,xb=w5.heap.size:=⟨_,rfl⟩;have hx6:=qn w5 (.cells #[.int .i64 cls,.int .i64 ref,.slice A n cp,.int .i64 a] 99);have Ze:Off [rb] w5 (w5.alloc (.cells #[.int .i64 cls,.int .i64 ref,.slice A n cp,.int .i64 a] 99)):=Off.alloc _ w5 _;have ZY:=JF.out.off (Off.alloc [] w5 (.cells #[.int .i64 cls,.int .i64 ref,.slice A n cp,.int .i64 a] 99)) (by simp);rw[<-hxb] at hx6;rw[<-hxb];have QR:xb≠rb:=(by have:=VO.out.size;omega);clear hxb;generalize w5.alloc (.cells #[.int .i64 cls,.int .i64 ref,.slice A n cp,.int .i64 a] 99)=W6 at*;have HX6:=qh hx6;have Vv:=qh Ze;have Hr6:=qh ZY;have zqS:W6.cell? ⟨rb,10,none⟩=some (.int .i64 f.most):=(by rw[ZY.form.2.2.2.2.2.2.1,Hf.out.b]);have hm0:=Hk.out.m0.1;clear hx6 Ze ZY;obtain⟨st,hst⟩:∃st:Bool,st=!(round&&f.most==0):=⟨_,rfl⟩;have po:=qh hst;clear hst;go_cut [9] from 44 to 53 (λv9 wx=>v9=.bool st/\wx=W6)
      case first=>
       cases round with
       |false=>
        have hs:st=true:=(by rw[po.out];rfl);subst hs;go_wp2_with fail;go_meet
        exact⟨rfl,rfl⟩
       |true=>
        by_cases hm:f.most=0
        ·have hs:st=false:=(by rw[po.out,hm];rfl);have d1:decide ((0:Int)<f.most)=false:=qd (by omega);subst hs;clear hm;go_wp2_with fail;go_meet
         exact⟨rfl,rfl⟩
        ·have hs:st=true:=(by rw[po.out];simpa using hm);have d1:decide ((0:Int)<f.most)=true:=qt (by omega);have d2:(0:Int)<f.most:=(by omega);subst hs;clear hm;go_wp2_with fail;go_meet
         exact⟨rfl,rfl⟩
      case rest=>
       obtain⟨rfl,hwn⟩:=hcut;subst hwn;clear zqS;obtain⟨W6,X8⟩:∃W6:World,W6=wc:=⟨_,rfl⟩;subst X8;obtain⟨wo,hwo⟩:∃wo:World,wo=wr:=⟨_,rfl⟩;subst hwo;have hS6:InS s f round l.length (j+1) W6 W4.heap.size cls ref (.slice A n cp) n a j5 0 no5 wh5:=HS5.out.off JF.out Vv.out;have HS6:=qh hS6;have HO6:Hid (Off [rb] wo W6):=qh ((YX.out.trans ZW.out).trans Vv.out);obtain⟨Ai,ci,Xv⟩:=pJ HJ.out.its.o;subst Xv;clear hS6;go_upto_block 2 with fail
       go_cut [10,11] from 54 to 102 (λv10 v11 wx=>Hid (∃no wh,RR wx rb s j5 no wh F/\Off [rb] W6 wx/\InF s f round l.length (j+1) wx W4.heap.size cls ref (.slice A n cp) a j5 no wh))
       case first=>
        go_wp2_with fail;go_loopw [10,11] (λv10 v11 wr=>∃k:Nat,k<=n/\v10=.int .i64 k/\Hid (∃no wh,RR wr rb s j5 no wh F/\Off [rb] W6 wr/\InS s f round l.length (j+1) wr W4.heap.size cls ref (.slice A n cp) n a j5 k no wh)) (λv10 _ _=>n-(intOf v10).toNat)
        case atStart=>exact⟨0,qF _,rfl,qh ⟨no5,wh5,Hr6.out,Off.refl _ _,HS6.out⟩⟩
        case round=>
         obtain⟨k,hk,rfl,hS⟩:=hrel;obtain⟨no,wh,hr,hof,hin⟩:=hS.out;have x2:wr.cell? ⟨xb,2,none⟩=some (.slice A n cp):=qc _ _ 2 _ _ (0,0) ((hof.block xb (qg HX6.out).1 (by simp;exact QR)).trans HX6.out);have r2:=hr.c2;have Hr:=qh hr;have Xl:=qh hof;have QN:=qh hin;clear hS hr hof hin;have zsE:=zk1 (f:=f) (round:=round) (n:=l.length) (by rw[<-Hah.out];exact hbd.1);rw[<-po.out] at zsE;have HL:=qh zsE;clear zsE;by_cases h0:no=0
         ·have q0:(no==0)=true:=(by simpa using h0);by_cases hlt2:k<n
          ·cases st with
           |false=>
            have d1:decide (k<n)=true:=qt hlt2;have gT:Hid (∃no wh,RR wr rb s j5 no wh F/\Off [rb] W6 wr/\InF s f round l.length (j+1) wr W4.heap.size cls ref (.slice A n cp) a j5 no wh):=qh ⟨no,wh,Hr.out,Xl.out,QN.out.fin (λh _=>by have:=HL.out.1.1 h;cases this)⟩;clear h0;go_wp2_with fail;go_meet
            exact gT
           |true=>
            rcases QN.out with⟨hne,_⟩|⟨_,hw,x,h1,h2,h3,h4,h5,h6,h7⟩
            ·exact absurd h0 hne
            ·subst h0;subst hw;have hmr:=h6;rw[h5] at hmr;obtain⟨g,hA,hg,k0,k1,k2⟩:=hmr.row (k:=k) (by omega);subst hA;have hl:0<=ZT f round l.length:=HL.out.1.2 rfl;have hle:ZT f round l.length=ah+l.length:=(by rw[HL.out.2 rfl,Hah.out]);have hft:=zeP (bkB (ZT f round l.length)) x.gP ZQ k (by omega) (h7 hl);have Qx:=qh (λW' hf=>InS.bad (s:=s) (f:=f) (round:=round) (n0:=l.length) (j:=j+1) (W':=W') (B:=W4.heap.size) (cls:=cls) (ref:=ref) (v:=.slice (some ⟨g,0,none⟩) n cp) (n:=n) (a:=a) (j5:=j5) (k:=k) (k':=k+1) h1 hl hf);have zrY:Hid (∀W',Off [rb] wr W'->(x.gP.take (k+1)).find? (bkB (ZT f round l.length))=none->InS s f round l.length (j+1) W' W4.heap.size cls ref (.slice (some ⟨g,0,none⟩) n cp) n a j5 (k+1) 0 0):=qh (λW' ho hf=>.inr ⟨rfl,rfl,x,h1,h2,h3,h4,h5,ho.pp h6 (pc.one Hr.out.r) (by decide),λ_=>hf⟩);have hbk:bkB (ZT f round l.length) (x.gP.getD k ZQ)=(((x.gP.getD k ZQ).sign==94||(x.gP.getD k ZQ).sign==64||(x.gP.getD k ZQ).sign==126)&&decide (ah+(l.length:Int)<(x.gP.getD k ZQ).n)):=(by unfold bkB Xr;rw[hle]);have hnb:n<=65536:=(by have e1:=(zep h1).2.2.1;have e2:=zim h1;omega);clear hmr h1 h2 h3 h4 h5 h6 h7 hl hle;have hwb1:wr.cell? ⟨wb,1,none⟩=some (.slice Ai l.length ci):=by
              have:=(HO6.out.trans Xl.out).cell (o:=1) (qg HJ.out.bx).1 (by simp;exact hwr);rw[this];exact qc _ _ 1 _ _ (0,0) HJ.out.bx
             have hwbl:wb<wr.heap.size:=qD (qg HJ.out.bx).1 (HO6.out.trans Xl.out).size;generalize (x.gP.getD k ZQ).sign=sg at*;generalize (x.gP.getD k ZQ).n=mn at*;generalize (x.gP.getD k ZQ).at_=ma at*;generalize bkB (ZT f round l.length) (x.gP.getD k ZQ)=bk at*;have d1:decide (k<n)=true:=qt hlt2;have i1:(0:Int)<=(k:Int):=(by omega);have i2:(k:Int)<(n:Int):=(by omega);have hll:=HJ.out.len;have hjl:=HJ.out.jle;have hw2:IntKind.i64.wrap (ah+(l.length:Int))=ah+(l.length:Int):=qi _ (by omega);have b1:(wr.alloc (.cells #[.int .u8 sg,.int .i64 mn,.int .i64 ma] 101)).cell? ⟨wb,1,none⟩=some (.slice Ai l.length ci):=(qw (qa wr _ wb hwbl)).trans hwb1;have hnb:=qn wr (.cells #[.int .u8 sg,.int .i64 mn,.int .i64 ma] 101);have c0:=qc _ _ 0 _ _ (0,0) hnb;have c1:=qc _ _ 1 _ _ (0,0) hnb;have c2:=qc _ _ 2 _ _ (0,0) hnb;have Hw:=qh (zaO rb s j5 0 0 F 182 (ma:Int) _ (Hr.out.off (Off.alloc [] wr (.cells #[.int .u8 sg,.int .i64 mn,.int .i64 ma] 101)) (by simp)) (by decide));have HoA:Hid (Off [rb] wr (wr.alloc (.cells #[.int .u8 sg,.int .i64 mn,.int .i64 ma] 101))):=qh (Off.alloc _ wr _);have HrA:=qh (Hr.out.off (Off.alloc [] wr (.cells #[.int .u8 sg,.int .i64 mn,.int .i64 ma] 101)) (by simp));have hsg:((sg==94)=true∨((sg==94)=false/\(sg==64)=true)∨((sg==94)=false/\(sg==64)=false/\(sg==126)=true))∨((sg==94)=false/\(sg==64)=false/\(sg==126)=false):=by
              cases (sg==94)<;>cases (sg==64)<;>cases (sg==126)<;>simp
             have Hft:=qh hft;clear hft hnb hwb1;rcases hsg with hsg|⟨g1,g2,g3⟩
             ·have hb:(sg==94||sg==64||sg==126)=true:=by rcases hsg with h|⟨_,h⟩|⟨_,_,h⟩<;>rw[h]<;>simp
              rw[hb,zU] at hbk;clear hb;cases hd:decide (ah+(l.length:Int)<mn) with
              |true=>
               have Hf2:=qh (Hft.out.1 (by rw[hbk];exact hd));have hd2:ah+(l.length:Int)<mn:=zk hd;clear hbk;rcases hsg with g1|⟨g1,g2⟩|⟨g1,g2,g3⟩
               all_goals
                go_wp2_with fail;refine Hw.out.mono ?_;rintro e w7 ⟨rfl,KK,QS⟩;have Hr7:=qh KK;have Ho7:=qh QS;clear KK QS;go_wp2_with fail;go_roundw
                case rel=>exact⟨k+1,by omega,by go_num,qh ⟨182,ma,Hr7.out,(Xl.out.trans HoA.out).trans Ho7.out,Qx.out _ Hf2.out⟩⟩
                case measure=>simp[intOf];omega
              |false=>
               have Hf2:=qh (Hft.out.2 (by rw[hbk];exact hd));have hd2:¬ah+(l.length:Int)<mn:=zA hd;clear hbk;rcases hsg with g1|⟨g1,g2⟩|⟨g1,g2,g3⟩
               all_goals
                go_wp2_with fail;go_roundw
                case rel=>exact⟨k+1,by omega,by go_num,qh ⟨0,0,HrA.out,Xl.out.trans HoA.out,zrY.out _ HoA.out Hf2.out⟩⟩
                case measure=>simp[intOf];omega
             ·have Hf2:=qh (Hft.out.2 (by rw[hbk,g1,g2,g3];rfl));clear hbk;go_wp2_with fail;go_roundw
              case rel=>exact⟨k+1,by omega,by go_num,qh ⟨0,0,HrA.out,Xl.out.trans HoA.out,zrY.out _ HoA.out Hf2.out⟩⟩
              case measure=>simp[intOf];omega
          ·have d1:decide (k<n)=false:=qd hlt2;have gT:Hid (∃no wh,RR wr rb s j5 no wh F/\Off [rb] W6 wr/\InF s f round l.length (j+1) wr W4.heap.size cls ref (.slice A n cp) a j5 no wh):=qh ⟨no,wh,Hr.out,Xl.out,QN.out.fin (λ_ _=>by omega)⟩;clear h0;go_wp2_with fail;go_meet
           exact gT
         ·have q0:(no==0)=false:=(by simpa using h0);have gT:Hid (∃no wh,RR wr rb s j5 no wh F/\Off [rb] W6 wr/\InF s f round l.length (j+1) wr W4.heap.size cls ref (.slice A n cp) a j5 no wh):=qh ⟨no,wh,Hr.out,Xl.out,QN.out.fin (λ_ h=>absurd h h0)⟩;clear h0;by_cases hlt2:k<n
          ·have d1:decide (k<n)=true:=qt hlt2;cases st with
           |false=>
            go_wp2_with fail;go_meet
            exact gT
           |true=>
            go_wp2_with fail;go_meet
            exact gT
          ·have d1:decide (k<n)=false:=qd hlt2;go_wp2_with fail;go_meet
           exact gT
       case rest=>
        obtain⟨no,wh,ZX,Je,hf8⟩:=hcut.out;obtain⟨W8,hW8⟩:∃W8:World,W8=wc:=⟨_,rfl⟩;subst hW8;have hoA:Off [rb] wo W8:=HO6.out.trans Je;obtain⟨Qo,hi8,K4⟩:=HJ.out.pz hwr hoA;have hx8:=(Je.block xb (qg HX6.out).1 (by simp;exact QR)).trans HX6.out;have x0:W8.cell? ⟨xb,0,none⟩=some (.int .i64 cls):=qc _ _ 0 _ _ (0,0) hx8;have x1:W8.cell? ⟨xb,1,none⟩=some (.int .i64 ref):=qc _ _ 1 _ _ (0,0) hx8;have x2:W8.cell? ⟨xb,2,none⟩=some (.slice A n cp):=qc _ _ 2 _ _ (0,0) hx8;have x3:W8.cell? ⟨xb,3,none⟩=some (.int .i64 a):=qc _ _ 3 _ _ (0,0) hx8;have w1:W8.cell? ⟨wb,1,none⟩=some (.slice Ai l.length ci):=qc _ _ 1 _ _ (0,0) Qo;have hll:=HJ.out.len;have hjl:=HJ.out.jle;have pv:=qh hi8.o;have YR:Hid (w.heap.size<=W8.heap.size):=qh K4.size
        have HF:Hid (∀w8 v8,W8.grownBy w8 (Value.slice Ai l.length ci).ownBlock->w8.ownsRow w.heap.size 99 4 v8 (l.length+1) (ux l p5++[.int .i64 cls,.int .i64 ref,.slice A n cp,.int .i64 a])->
          ((RoL w (w8.setCell ⟨wb,1,none⟩ v8) rb wb s f F round i RI/\∃(no:Int) (j':Nat),(w8.setCell ⟨wb,1,none⟩ v8).cell? ⟨rb,2,none⟩=some (.int .i64 no)/\(w8.setCell ⟨wb,1,none⟩ v8).cell? ⟨rb,1,none⟩=some (.int .i64 j')/\(no=0->j<j'))/\w8.cell? ⟨wb,1,none⟩=some (.slice Ai l.length ci)/\w8.frozen? ⟨wb,1,none⟩=false)):=qh (λw8 v8 hg hown=>by
         have hT:=HT.out;cases q with
         |zero=>omega
         |succ q'=>
          unfold Ka at hT;rw[qy hsp] at hT;rcases hf8 with⟨hne,p,hwp,hP⟩|⟨h0,hw0,x,hP,hR1,e1,e2,e3,hm⟩
          ·rw[hP] at hT;subst hwp;obtain⟨A8,c8,VS⟩:=pJ hown;have hog:Off (Value.slice Ai l.length ci).ownBlock.toList W8 w8:=Off.grown hg (λk hk=>by rw[hk];simp);have pb:=(hog.block wb (qg Qo).1 (zcO hi8.o Qo (by decide))).trans Qo;have pB:=ZX.off hog (zcO hi8.o ZX.r (by decide));have hos:=Off.setCell w8 wb 1 v8;have Y6:=pB.off hos (by simp;exact λe=>hwr e.symm);have pN:=qs w8 wb 1 _ _ v8 pb;refine⟨⟨.inr ⟨no,p,j5,A8,l.length+1,c8,hne,Y6,by rw[VS] at pN|-;exact pN,(K4.into hog (λk hk=>.inr (zfs hi8.o k hk).1)).into hos (λk hk=>by simp at hk;omega),hT.symm⟩,no,j5,Y6.c2,Y6.c1,λe=>absurd e hne⟩,qc _ _ 1 _ _ (0,0) pb,qf _ _ 1 _ _ pb⟩
          ·rw[hP] at hT;subst h0;subst hw0;rw[e1,e2,e3] at hown;obtain⟨hok,hjk,_,_⟩:=zep hR1;obtain⟨hJ9,hc9,hz9⟩:=HJ.out.next hwr hwb hoA ZX (Jc hm Hof4.out.size) (by omega) (zim hR1) hok hown hg;exact⟨⟨.inl ⟨l++[x],j5,_,_,q',hJ9,hT,by omega⟩,0,j5,hJ9.rr.c2,hJ9.rr.c1,λ_=>by omega⟩,hc9,hz9⟩)
        clear hcut ZX Je hf8 hoA Qo hi8 K4 hx8;go_wp2_with (at_builtin;go_loud (refine VL W8 rfl _ _ 94 rfl w.heap.size 99 _ _ 4 48 Tryz.underlying94 zmn zmo zmp zlY rfl (by decide) (.slice Ai l.length ci) l.length (ux l p5) _ _ rfl rfl ?c0 (by exact pv.out) rfl ?c1 ?c2 ?c3 ?c4 ?_;rotate_right;intro v8 w8 pj ZU Zz;obtain⟨g8,Qz,rfl⟩:=Zv pj (by omega);obtain⟨hJ8,c8,z8⟩:=HF.out _ _ ZU pj;have HJ8:=qh hJ8;clear hJ8 pj ZU Zz))
        case c0=>rfl
        case c1=>exact⟨rfl,rfl,rfl,rfl⟩
        case c2=>unfold maxLen;omega
        case c3=>omega
        case c4=>exact YR.out
        go_roundw
        case rel=>exact qh HJ8.out.1
        case measure=>
         obtain⟨no,j',hc2,hc1,zst⟩:=HJ8.out.2;rw[hc2,hc1,p8.out.1,p8.out.2];simp only[intOf];by_cases h0:no=0
         ·have:=zst h0;simp[h0];omega
         ·simp[h0];omega
    ·have hne:c≠0:=hc;have q1:(c !=0)=true:=(by simpa using hc);have hb0:yQ c s j=0:=(by unfold yQ;rw[qx hc]);have Hc:=qh (vZ rb s j c p F wr hr);rw[hb0] at Hc;have Hr:=qh hr;have r2:=λn=>(hr.drewN n).c2;have gT:Hid (∀n,ZA B rb s w R (.returned (.tuple #[])) (wr.drewN n)):=qh (λn=>by
      refine⟨rfl,(hof.trans (Off.drewN _ _ n)).below hB (λk hk=>by simp at hk;omega),?_⟩;have hR:R=.error (c,p):=(by rw[<-HR.out,zdF,HRI.out,hRI]);rw[hR];exact⟨hc,_,_,hr.drewN n⟩)
     clear hrel hr hbx hof hRI hb0 hc hne;go_wp2_with fail;refine Hc.out.mono ?_;rintro e w4 ⟨rfl,n4,rfl⟩;go_wp2_with fail;refine zt (qI rfl _ _ _) rfl ?_;exact gT.out _
end Go.Proofs.YtgklikkddckgbaaGreatDoor.Mo

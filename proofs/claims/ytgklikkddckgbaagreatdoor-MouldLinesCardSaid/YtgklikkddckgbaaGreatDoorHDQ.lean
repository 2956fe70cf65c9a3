import Derived.Test.YtgklikkddckgbaaGreatDoorHDP
/- Lemmas of the claim. -/
set_option linter.all false
namespace Go.Proofs.YtgklikkddckgbaaGreatDoor.Mo
open Go.RowKit
theorem zgZ {s:ByteArray} {letters:List UInt8}:∀(f:Nat) (ms:List Mk) (i:Nat) {ms':List Mk} {k:Nat},zaB s letters f ms i=.ok (ms',k)→(∀m∈ms,MkOk m)→∀m∈ms',MkOk m
 |0,ms,i,ms',k,h,hh=>by unfold zaB at h;cases h;exact hh
 |f+1,ms,i,ms',k,h,hh=>by
  unfold zaB at h;split at h
  ·rename_i hc;cases hm:za0 s letters ms i with
   |error e=>rw[hm] at h;cases h
   |ok mj=>
    obtain⟨m,j⟩:=mj;rw[hm] at h;refine zgZ f _ j h fun q hq=>?_;rcases List.mem_append.1 hq with hq|hq
    ·exact hh q hq
    ·obtain rfl:=List.mem_singleton.1 hq;exact(zcW hc.1 hc.2 hm).2.1.ok
  ·cases h;exact hh
theorem zhy {s:ByteArray} {letters:List UInt8} {i k:Nat} {x:It} (h:zcv s letters i=.ok (x,k)):∃cls ref j,zav s i=.ok (cls,ref,j)∧zaB s letters (s.size+1) [] j=.ok (x.marks,k):=by
 unfold zcv at h;cases hr:zav s i with
 |error e=>rw[hr] at h;cases h
 |ok r=>
  obtain⟨cls,ref,j⟩:=r;rw[hr] at h;simp only at h;cases hm:zaB s letters (s.size+1) [] j with
  |error e=>rw[hm] at h;cases h
  |ok mk=>
   obtain⟨ms,k2⟩:=mk;rw[hm] at h;simp only at h;split at h
   ·cases h
   ·cases h;exact⟨cls,ref,j,rfl,hm⟩
theorem zep {s:ByteArray} {letters:List UInt8} {i k:Nat} {x:It} (h:zcv s letters i=.ok (x,k)):ItOk x∧i<k∧x.marks.length≤k∧∀m∈x.marks,MkOk m:=by
 obtain⟨cls,ref,j,h1,h2⟩:=zhy h;have h3:zbC s letters (-1) i=.ok (x,k):=by rw[zdQ,h];rfl
 have h4:=zgZ _ _ _ h2 (by simp);have h5:=zft _ _ _ h2;exact⟨zen h3 h4,zdD h3,by simp at h5;omega,h4⟩
def bkB (line:Int) (m:Mk):Bool:=zb0 m&&decide (line<m.n)
def InS (s:ByteArray) (f:Fm) (round:Bool) (n0:Nat) (j:Nat) (W:World) (B:Nat) (cls ref:Int) (v:Value) (n a j5:Nat) (k:Nat) (no wh:Int):Prop:=
 (no≠0∧∃p:Nat,wh=p∧zbC s f.letters (zbi f round n0) j=.error (no,p))∨
 (no=0∧wh=0∧∃x,zcv s f.letters j=.ok (x,j5)∧cls=x.cls∧ref=x.ref∧a=x.at_∧n=x.marks.length∧MksM W B v x.marks∧(0≤zbi f round n0→(x.marks.take k).find? (bkB (zbi f round n0))=none))
def InF (s:ByteArray) (f:Fm) (round:Bool) (n0:Nat) (j:Nat) (W:World) (B:Nat) (cls ref:Int) (v:Value) (a j5:Nat) (no wh:Int):Prop:=
 (no≠0∧∃p:Nat,wh=p∧zbC s f.letters (zbi f round n0) j=.error (no,p))∨
 (no=0∧wh=0∧∃x,zbC s f.letters (zbi f round n0) j=.ok (x,j5)∧zcv s f.letters j=.ok (x,j5)∧cls=x.cls∧ref=x.ref∧a=x.at_∧MksM W B v x.marks)
theorem InS.fin {s:ByteArray} {f:Fm} {round:Bool} {n0 j:Nat} {W:World} {B:Nat} {cls ref:Int} {v:Value} {n a j5 k:Nat} {no wh:Int} (h:InS s f round n0 j W B cls ref v n a j5 k no wh) (hk:0≤zbi f round n0→no=0→n≤k):InF s f round n0 j W B cls ref v a j5 no wh:=by
 rcases h with h|⟨h0,hw,x,h1,h2,h3,h4,h5,h6,h7⟩
 ·exact .inl h
 ·refine .inr ⟨h0,hw,x,?_,h1,h2,h3,h4,h6⟩;rw[zdQ,h1];simp only;have hb:zfo (zbi f round n0) x.marks=none:=by
   unfold zfo;by_cases hl:0≤zbi f round n0
   ·have:=h7 hl;rw[List.take_of_length_le (by rw[←h5];exact hk hl h0)] at this;rw[if_pos hl];exact this
   ·rw[if_neg hl]
  rw[hb]
theorem InS.off {s:ByteArray} {f:Fm} {round:Bool} {n0 j:Nat} {W W':World} {B rb i:Nat} {cls ref:Int} {v:Value} {n a j5 k:Nat} {no wh no' wh':Int} {F:RF} (h:InS s f round n0 j W B cls ref v n a j5 k no wh) (hr:RR W rb s i no' wh' F) (ho:Off [rb] W W'):InS s f round n0 j W' B cls ref v n a j5 k no wh:=by
 rcases h with h|⟨h0,hw,x,h1,h2,h3,h4,h5,h6,h7⟩
 ·exact .inl h
 ·exact .inr ⟨h0,hw,x,h1,h2,h3,h4,h5,ho.ownT h6 (TyAt.one hr.r) (by decide),h7⟩
theorem InS.bad {s:ByteArray} {f:Fm} {round:Bool} {n0 j:Nat} {W':World} {B:Nat} {cls ref:Int} {v:Value} {n a j5 k k':Nat} {x:It} (h1:zcv s f.letters j=.ok (x,j5)) (hl:0≤zbi f round n0) (hf:x.marks.find? (bkB (zbi f round n0))=some (x.marks.getD k Mk0)):InS s f round n0 j W' B cls ref v n a j5 k' 182 ((x.marks.getD k Mk0).at_:Int):=by
 refine .inl ⟨by decide,_,rfl,?_⟩;rw[zdQ,h1];simp only;have hb:zfo (zbi f round n0) x.marks=some (x.marks.getD k Mk0):=by unfold zfo;rw[if_pos hl];exact hf
 rw[hb]
theorem zeP {α:Type} (p:α→Bool) (l:List α) (d:α) (k:Nat) (hk:k<l.length) (h:(l.take k).find? p=none):(p (l.getD k d)=true→l.find? p=some (l.getD k d))∧(p (l.getD k d)=false→(l.take (k+1)).find? p=none):=by
 have e:l.getD k d=l[k]:=by simp[List.getD_eq_getElem?_getD,hk]
 rw[e];refine⟨fun hp=>?_,fun hp=>?_⟩
 ·have h2:l=l.take k++l[k]::l.drop (k+1):=by
   rw[List.getElem_cons_drop,List.take_append_drop]
  have h3:l.find? p=(l.take k++l[k]::l.drop (k+1)).find? p:=congrArg _ h2;rw[h3,List.find?_append,h,Option.none_or,List.find?_cons_of_pos hp]
 ·rw[List.take_succ_eq_append_getElem hk,zbR,h,hp];rfl
def rngB (f:Fm) (round:Bool) (x:It):Bool:=decide (0≤x.cls)&&decide (25≤x.cls+upP f round)&&!(round&&f.most==0)
def zhz (s:ByteArray) (f:Fm) (round:Bool) (i:Nat):Except (Int×Nat) (List It×Nat):=if¬isB s i 32 then .error (180,i) else za1 s f round (s.size+1) [] i
theorem zdF {s:ByteArray} {f:Fm} {round:Bool} {start i:Nat}:zaF s f round start i=match zhz s f round i with
  |.error e=>.error e
  |.ok (l,j)=>
   if 512<za6 (f.rows++[⟨round,l⟩]) f.most then .error (3,start)
   else match l.find? (rngB f round) with
    |some x=>.error (5,x.at_)
    |none=>.ok ({f with rows:=f.rows++[⟨round,l⟩]},j):=by
 unfold zaF zhz;by_cases h:¬isB s i 32=true
 ·rw[if_pos h,if_pos h]
 ·rw[if_neg h,if_neg h];cases za1 s f round (s.size+1) [] i with
  |error e=>rfl
  |ok lj=>rfl
def RoL (w W:World) (rb wb:Nat) (s:ByteArray) (f:Fm) (F:RF) (round:Bool) (i1:Nat) (RI:Except (Int×Nat) (List It×Nat)):Prop:=
 (∃l j vi vms q,RoJ w W rb wb s F round i1 l j vi vms∧za1 s f round q l j=RI∧s.size-j<q)∨
 (∃(c:Int) (p j:Nat) (A:Option Addr) (n cp:Nat),c≠0∧RR W rb s j c p F∧W.heap[wb]?=some (.cells #[.bool round,.slice A n cp] 96 (0,0))∧Off [rb] w W∧RI=.error (c,p))
def RRow (B rb:Nat) (s:ByteArray) (w:World) (r:Except (Int×Nat) (Fm×Nat)) (e:Ending) (w':World):Prop:=e=.returned (.tuple #[])∧Below B w w'∧match r with
 |.ok (f',j)=>j≤s.size∧∃F',RR w' rb s j 0 0 F'∧RFM w' B f' F'
 |.error (c,p)=>c≠0∧∃j F',RR w' rb s j c p F'
theorem zk1 {f:Fm} {round:Bool} {n:Nat} (h0:0≤za6 f.rows f.least):(0≤zbi f round n↔(!(round&&f.most==0))=true)∧((!(round&&f.most==0))=true→zbi f round n=za6 f.rows f.least+n):=by
 unfold zbi;cases hb:(round&&f.most==0) with
 |true=>simp
 |false=>simp;omega
theorem zmn:Tryz.prog.info? 99=some Tryz.t99:=by kernel_rfl
theorem zmo:Tryz.t99.zero=some (.agg #[.int .i64 0,.int .i64 0,.slice none 0 0,.int .i64 0]):=by kernel_rfl
theorem zmp:Tryz.t99.size=4:=by kernel_rfl
theorem zlY:Tryz.t99.bytes=48:=by kernel_rfl
theorem zmq:Tryz.prog.info? 96=some Tryz.t96:=by kernel_rfl
theorem zmr:Tryz.t96.zero=some (.agg #[.bool false,.slice none 0 0]):=by kernel_rfl
theorem zms:Tryz.t96.size=2:=by kernel_rfl
theorem zlZ:Tryz.t96.bytes=32:=by kernel_rfl
theorem RR.form {w:World} {rb:Nat} {s:ByteArray} {i:Nat} {no wh:Int} {F:RF} (h:RR w rb s i no wh F):w.cell? ⟨rb,4,none⟩=some F.nm∧w.cell? ⟨rb,5,none⟩=some F.vl∧w.cell? ⟨rb,6,none⟩=some F.vm∧w.cell? ⟨rb,7,none⟩=some F.vr∧w.cell? ⟨rb,8,none⟩=some (.bool F.rd)∧w.cell? ⟨rb,9,none⟩=some (.int .i64 F.a)∧w.cell? ⟨rb,10,none⟩=some (.int .i64 F.b)∧w.cell? ⟨rb,11,none⟩=some (.int .i64 F.c):=
 ⟨qc _ _ 4 _ _ (0,0) h.r,qc _ _ 5 _ _ (0,0) h.r,qc _ _ 6 _ _ (0,0) h.r,qc _ _ 7 _ _ (0,0) h.r,qc _ _ 8 _ _ (0,0) h.r,qc _ _ 9 _ _ (0,0) h.r,qc _ _ 10 _ _ (0,0) h.r,qc _ _ 11 _ _ (0,0) h.r⟩
theorem RoJ.dr {w W:World} {rb wb:Nat} {s:ByteArray} {F:RF} {round:Bool} {i1:Nat} {l:List It} {j:Nat} {vi:Value} {vms:List Value} (h:RoJ w W rb wb s F round i1 l j vi vms) (n:Nat):RoJ w (W.drewN n) rb wb s F round i1 l j vi vms:=
 ⟨h.rr.drewN n,h.bx,h.its.off (T:=[]) (Off.drewN [] W n) TyAt.nil (by simp) (by simp),h.off.trans (Off.drewN _ W n),h.len,h.jle,h.ok⟩
theorem RFM.more {W w8:World} {B C rb wb:Nat} {s:ByteArray} {f:Fm} {F:RF} {j cr:Nat} {Ar:Option Addr} {l:List It} {vi v8:Value} {vms vis:List Value} {round:Bool} (hf:RFM W B f F) (hr:RR W rb s j 0 0 F) (hBr:B≤rb) (hv:F.vr=.slice Ar f.rows.length cr) (hi:RItsM W C vi l vms) (hC:B≤C) (hvis:RRwM W B F.vr f.rows vis)
  (hb:W.heap[wb]?=some (.cells #[.bool round,vi] 96 (0,0))) (hwb:∀k∈F.vr.ownBlock.toList,k≠wb) (hwr:wb≠rb) (hown:w8.ownsRow B 96 2 v8 (f.rows.length+1) (rwC f.rows vis++[.bool round,vi])) (hg:W.grownBy w8 (Value.slice Ar f.rows.length cr).ownBlock):
  (RR (w8.setCell ⟨rb,7,none⟩ v8) rb s j 0 0 {F with vr:=v8}∧RFM (w8.setCell ⟨rb,7,none⟩ v8) B {f with rows:=f.rows++[(⟨round,l⟩:Rw)]} {F with vr:=v8}∧Below B W (w8.setCell ⟨rb,7,none⟩ v8)∧(w8.setCell ⟨rb,7,none⟩ v8).heap[wb]?=some (.cells #[.bool round,vi] 96 (0,0))∧RItsM (w8.setCell ⟨rb,7,none⟩ v8) C vi l vms)∧w8.cell? ⟨rb,7,none⟩=some (.slice Ar f.rows.length cr)∧w8.frozen? ⟨rb,7,none⟩=false:=by
 rw[←hv] at hg;have hog:Off F.vr.ownBlock.toList W w8:=Off.grown hg (fun k hk=>by rw[hk];simp);have ht:TyAt W F.vr.ownBlock.toList [96]:=zea hvis.o;have hr8:=hr.off hog (zcO hvis.o hr.r (by decide));have hos:=Off.setCell w8 rb 7 v8;have hts:TyAt w8 [rb] [115]:=TyAt.one hr8.r;have hr9:RR (w8.setCell ⟨rb,7,none⟩ v8) rb s j 0 0 {F with vr:=v8}:=⟨qs w8 rb 7 _ _ v8 hr8.r,hr8.le,hr8.sz,hr8.ok⟩;have hw:=(qg hb).1;have hb8:=(hog.block wb hw (fun hm=>hwb _ hm rfl)).trans hb;have hb9:=(hos.block wb (qg hb8).1 (by simp;exact hwr)).trans hb8;have hi9:∀{v:Value} {l:List It} {vms:List Value} {D:Nat},RItsM W D v l vms→RItsM (w8.setCell ⟨rb,7,none⟩ v8) D v l vms:=fun h=>(h.off hog ht (by decide) (by decide)).off hos hts (by decide) (by decide);have hn:=hvis.n;obtain⟨cs,hm⟩:=hf.m;refine⟨⟨hr9,⟨hf.nm,hos.ownT (hog.ownT hf.l ht (by decide)) hts (by decide),⟨cs,(hm.off hog ht (by decide) (by decide) (by decide) (by decide)).off hos hts (by decide) (by decide) (by decide) (by decide)⟩,⟨vis++[vi],by simp[hn],?_,fun k hk=>?_⟩,hf.rd,hf.a,hf.b,hf.c⟩,?_,hb9,hi9 hi⟩,?_,qf _ _ 7 _ _ hr8.r⟩
 ·rw[zfT f.rows vis ⟨round,l⟩ vi hn,List.length_append];exact hos.ownT hown hts (by decide)
 ·by_cases hkl:k<f.rows.length
  ·have e1:(vis++[vi]).getD k .nilFunc=vis.getD k .nilFunc:=zaR _ _ _ _ (by omega);have e2:(f.rows++[(⟨round,l⟩:Rw)]).getD k ⟨false,[]⟩=f.rows.getD k ⟨false,[]⟩:=zaR _ _ _ _ hkl;rw[e1];simp only;rw[e2];obtain⟨vms',h'⟩:=hvis.i k hkl;exact⟨vms',hi9 h'⟩
  ·obtain rfl:k=f.rows.length:=by simp at hk;omega
   have e1:(vis++[vi]).getD f.rows.length .nilFunc=vi:=(by rw[←hn];exact zaM _ _ _);have e2:(f.rows++[(⟨round,l⟩:Rw)]).getD f.rows.length ⟨false,[]⟩=⟨round,l⟩:=zaM _ _ _;rw[e1];simp only;rw[e2];exact⟨vms,(hi9 hi).mono hC⟩
 ·have h1:=hr.lt;have h2:=hr8.lt;exact(hog.below (by omega) (fun k hk=>(zfs hvis.o k hk).1)).trans (hos.below (by omega) (fun k hk=>by simp at hk;omega))
 ·rw[←hv];exact qc _ _ 7 _ _ (0,0) hr8.r
def RRnx (w W wx:World) (B rb wb:Nat) (s:ByteArray) (f:Fm) (round:Bool) (F:RF) (j:Nat) (l:List It) (vi:Value) (vms:List Value):Prop:=
 ∃F',RR wx rb s j 0 0 F'∧RFM wx B {f with rows:=f.rows++[(⟨round,l⟩:Rw)]} F'∧Below B W wx∧wx.heap[wb]?=some (.cells #[.bool round,vi] 96 (0,0))∧RItsM wx w.heap.size vi l vms∧F'.rd=F.rd
theorem RItsM.row {w:World} {B:Nat} {A:Option Addr} {n c:Nat} {l:List It} {vms:List Value} (h:RItsM w B (.slice A n c) l vms) {k:Nat} (hk:k<l.length):
  ∃g,A=some ⟨g,0,none⟩∧w.cell? ⟨g,k*4,none⟩=some (.int .i64 (l.getD k It0).cls)∧w.cell? ⟨g,k*4+3,none⟩=some (.int .i64 (l.getD k It0).at_):=by
 have hlen:=zin l vms h.n;have hget:=zio l vms k h.n hk;rcases h.o.2 with⟨e,e0⟩|⟨g,cap,cur,e,_,hg,_⟩
 ·omega
 ·have ho:=h.o;simp only[Value.slice.injEq] at e;obtain⟨rfl,rfl,rfl⟩:=e;exact⟨g,rfl,(ho.cellAt (k*4) (by omega)).trans hget.1,(ho.cellAt (k*4+3) (by omega)).trans hget.2.2.2⟩
def RgS (S:Int) (start:Nat) (f:Fm) (round:Bool) (l:List It) (k:Nat) (no wh:Int):Prop:=
 (512<S∧no=3∧wh=start)∨(¬512<S∧((no=0∧wh=0∧(l.take k).find? (rngB f round)=none)∨(∃x:It,no=5∧wh=x.at_∧l.find? (rngB f round)=some x)))
theorem RgS.no {S:Int} {start:Nat} {f:Fm} {round:Bool} {l:List It} {k:Nat} {no wh:Int} (h:RgS S start f round l k no wh) (hk:k<l.length) (hx:rngB f round (l.getD k It0)=false):RgS S start f round l (k+1) no wh:=by
 rcases h with h|⟨hs,⟨h0,hw,hf⟩|h⟩
 ·exact .inl h
 ·exact .inr ⟨hs,.inl ⟨h0,hw,(zeP _ l It0 k hk hf).2 hx⟩⟩
 ·exact .inr ⟨hs,.inr h⟩
theorem RgS.yes {S:Int} {start:Nat} {f:Fm} {round:Bool} {l:List It} {k:Nat} {no wh:Int} (h:RgS S start f round l k no wh) (hk:k<l.length) (hx:rngB f round (l.getD k It0)=true):RgS S start f round l (k+1) (wrN no 5) (wrP no wh ((l.getD k It0).at_:Int)):=by
 rcases h with⟨hs,rfl,rfl⟩|⟨hs,⟨rfl,rfl,hf⟩|⟨x,rfl,rfl,hf⟩⟩
 ·exact .inl ⟨hs,by simp[wrN],by simp[wrP]⟩
 ·exact .inr ⟨hs,.inr ⟨_,by simp[wrN],by simp[wrP],(zeP _ l It0 k hk hf).1 hx⟩⟩
 ·exact .inr ⟨hs,.inr ⟨x,by simp[wrN],by simp[wrP],hf⟩⟩
set_option maxRecDepth 100000 in
set_option maxHeartbeats 4000000 in
theorem zl0 (B rb:Nat) (s:ByteArray) (f:Fm) (F:RF) (round:Bool) (start i i0:Nat) (w:World) (h:RR w rb s i 0 0 F) (hf:RFM w B f F) (hk:FmOk f i0) (hi0:i0+1≤i) (hi:i≤s.size) (hB:B≤w.heap.size) (hBr:B≤rb):
  Calls Tryz.prog 71 #[.pointer (some ⟨rb,0,none⟩),.bool round,.int .i64 start] w (RRow B rb s w (zaF s f round start i)):=by
 have hsz:=h.sz;have hrb:=h.lt;obtain⟨vis,hrm⟩:=hf.r;have htot:=hk.le;obtain⟨f4,f5,f6,f7,f8,f9,f10,f11⟩:=h.form;have hS:=zeL B F.nm F.vl F.vm F.vr F.rd F.a F.b F.c f.rows vis F.a w.drew (hrm.off (T:=[]) (Off.drew [] w) TyAt.nil (by simp) (by simp) (by simp)) (by rw[hf.a];exact hk.l0.1) (by rw[hf.a];have:=hk.l0.2;omega) (by omega) (by omega);rw[show za6 f.rows F.a=za6 f.rows f.least by rw[hf.a]] at hS;have HS:=qh hS;have hbd:=zij hk (by omega) hk.l0.1 hk.l0.2;obtain⟨ah,hah⟩:∃ah:Int,ah=za6 f.rows f.least:=⟨_,rfl⟩;rw[←hah] at HS hbd;have Hah:=qh hah;have H:=qh h;have Hf:=qh hf;have Hk:=qh hk;generalize hR:zaF s f round start i=R;have HR:=qh hR;have hVlt:∀k∈F.vr.ownBlock.toList,k<w.heap.size:=fun k hk=>(zfs hrm.o k hk).2;have HVlt:=qh hVlt;clear hS hah h hf hk hR hrm hVlt;go_enter Tryz.func71,Tryz.ntmps71;go_wp2_with fail;go_cut [6] from 6 to 24 (fun v6 wx=>v6=.int .i64 ah∧Hid (Below w.heap.size w wx))
 case first=>
  go_region_law (go_simp;go_at_call 16;refine HS.out.mono ?_;rintro e w2 ⟨rfl,hb2⟩;have Hb2:=qh ((zad (qb w.heap.size w) 1).trans hb2);clear hb2)
  all_goals
   go_wp2_with fail;go_meet
   exact⟨rfl,Hb2⟩
 case rest=>
  clear f4 f5 f6 f7 f8 f9 f10 f11 HS;obtain⟨rfl,hb1⟩:=hcut;obtain⟨W1,hW1⟩:∃W1:World,W1=wc:=⟨_,rfl⟩;subst hW1;have hr1:=H.out.below hb1.out;have hbA:Below W1.heap.size W1 (W1.alloc (.cells #[.bool round,.slice none 0 0] 96)):=(qb _ _).alloc (ql _) _;have hbx:=qn W1 (.cells #[.bool round,.slice none 0 0] 96);have HA:Hid (∀n,RoJ w ((W1.alloc (.cells #[.bool round,.slice none 0 0] 96)).drewN n) rb W1.heap.size s F round i [] i (.slice none 0 0) []):=qh (fun n=>
   ⟨(hr1.below hbA).drewN n,hbx,⟨rfl,⟨rfl,.inl ⟨rfl,rfl⟩⟩,fun k hk=>by simp at hk⟩,((Off.of_below hb1.out (ql _) _).trans (Off.alloc _ W1 _)).trans (Off.drewN _ _ n),by simp,hi,by simp⟩)
  have Hc:=qh (rc_q rb s i 0 0 F _ (hr1.below hbA));have hb0:byC0 0 s i=zaa s i:=by unfold byC0;rw[if_pos rfl]
  rw[hb0] at Hc;have hwb:w.heap.size≤W1.heap.size:=hb1.out.size;have hwr:W1.heap.size≠rb:=by omega
  clear hr1 hbA hbx hb0;have his:isB s i 32=(((zaa s i).toNat:Int)==32):=by
   by_cases hlt:i<s.size
   ·rw[zaA hlt,zar hlt]
   ·rw[zcE hlt,zbe hlt];rfl
  obtain⟨RI,hRI⟩:∃RI,zhz s f round i=RI:=⟨_,rfl⟩;have HRI:=qh hRI;clear hRI;have Hbd:=qh (rfl:zaa s i=zaa s i);generalize zaa s i=bc at Hc his;go_wp2_with fail;refine Hc.out.mono ?_;rintro e w3 ⟨rfl,n3,rfl⟩;go_upto_if 29 with fail
  have HA3:=qh (HA.out n3);generalize (W1.alloc (.cells #[.bool round,.slice none 0 0] 96)).drewN n3=W3 at*;clear HA Hc;generalize hwbe:W1.heap.size=wb at*;clear hwbe;go_cut [31] from 29 to 31 (fun v31 wx=>Hid (RoL w wx rb wb s f F round i RI))
  case first=>
   cases hsp:isB s i 32 with
   |true=>
    have q32:((bc.toNat:Int) !=32)=false:=(by rw[hsp] at his;simp[bne,←his]);have Hfin:Hid (RoL w W3 rb wb s f F round i RI):=qh (.inl ⟨[],i,_,_,s.size+1,HA3.out,by rw[←HRI.out];unfold zhz;rw[if_neg (by simpa using hsp)],by omega⟩);clear his;go_wp2_with fail;go_meet
    exact Hfin
   |false=>
    have q32:((bc.toNat:Int) !=32)=true:=(by rw[hsp] at his;simp[bne,←his]);have Hbad:=qh (zbu rb s i 0 0 F W3 HA3.out.rr);clear his;go_wp2_with fail;refine Hbad.out.mono ?_;rintro e w4 ⟨rfl,hr4,ho4⟩;have hfin:RoL w w4 rb wb s f F round i RI:=.inr ⟨180,i,i,none,0,0,by decide,hr4,(HA3.out.offR hwr ho4).1,(HA3.out.offR hwr ho4).2.2,by rw[←HRI.out];unfold zhz;rw[if_pos (by simp[hsp])]⟩;have Hfin:=qh hfin;clear hr4 ho4 hfin;go_wp2_with fail;go_meet
    exact Hfin
  case rest=>
   have Hcut:=hcut;clear hcut HA3 his;go_wp2_with fail;go_loopw [] (fun wr=>Hid (RoL w wr rb wb s f F round i RI)) (fun wr=>match wr.cell? ⟨rb,2,none⟩ with|some v=>if intOf v=0 then s.size+2-(match wr.cell? ⟨rb,1,none⟩ with|some u=>(intOf u).toNat|none=>0) else 0|none=>0)
   case atStart=>exact Hcut
   case round=>
    have hrl:=hrel.out;clear Hcut;rcases hrl with⟨l,j,vi,vms,q,hJ,hT,hq⟩|⟨c,p,j,A,n,cp,hc,hr,hbx,hof,hRI⟩
    ·have HJ:=qh hJ;have HT:=qh hT;clear hrel hJ hT;have hq2:=HJ.out.rr.c2;have hq1:=HJ.out.rr.c1;have Hms:Hid (wr.cell? ⟨rb,2,none⟩=some (.int .i64 0)∧wr.cell? ⟨rb,1,none⟩=some (.int .i64 j)):=qh ⟨hq2,hq1⟩;clear hq2 hq1;have Hc:=qh (rc_q rb s j 0 0 F wr HJ.out.rr);have hb0:byC0 0 s j=zaa s j:=(by unfold byC0;rw[if_pos rfl]);rw[hb0] at Hc;have his:isB s j 32=(((zaa s j).toNat:Int)==32):=by
      by_cases hlt:j<s.size
      ·rw[zaA hlt,zar hlt]
      ·rw[zcE hlt,zbe hlt];rfl
     clear hb0 Hbd;have Hbd:=qh (rfl:zaa s j=zaa s j);generalize zaa s j=bj at Hc his;cases hsp:isB s j 32 with
     |false=>
      have q32:((bj.toNat:Int)==32)=false:=(by rw[←his];exact hsp);have hRI:RI=.ok (l,j):=by
       have hT:=HT.out;cases q with
       |zero=>omega
       |succ q'=>
        unfold za1 at hT;rw[if_neg (by rw[hsp];simp)] at hT;exact hT.symm
      obtain⟨S,hS⟩:∃S:Int,za6 (f.rows++[(⟨round,l⟩:Rw)]) f.most=S:=⟨_,rfl⟩;have HRR:Hid (R=if 512<S then .error (3,start) else match l.find? (rngB f round) with|some x=>.error (5,x.at_)|none=>.ok ({f with rows:=f.rows++[(⟨round,l⟩:Rw)]},j)):=qh (by
       rw[←HR.out,zdF,HRI.out,hRI];simp only;rw[hS])
      have HS2:=qh hS;have hJ3:=fun n=>HJ.out.dr n;have r2:=fun n=>(hJ3 n).rr.c2;have r8:=fun n=>(hJ3 n).rr.form.2.2.2.2.1;clear hRI hS his hJ3;go_wp2_with fail;refine Hc.out.mono ?_;rintro e w3 ⟨rfl,n3,rfl⟩;go_wp2_with fail;have HJ5:=qh (HJ.out.dr n3);clear r2 r8 Hc;generalize wr.drewN n3=W5 at*;obtain⟨Ai,ci,hvi⟩:=zab HJ5.out.its.o;subst hvi;have hf5:=Hf.out.offR H.out HJ5.out.off;obtain⟨vis5,hvis5⟩:=hf5.r;obtain⟨Ar,cr,hvr⟩:=zab hvis5.o;have hd5:Off [] W5 W5.drew:=Off.drew [] W5;have f7:W5.cell? ⟨rb,7,none⟩=some (.slice Ar f.rows.length cr):=(by rw[HJ5.out.rr.form.2.2.2.1,hvr]);have f7a:∀o,(W5.alloc o).cell? ⟨rb,7,none⟩=some (.slice Ar f.rows.length cr):=fun o=>(qw (qa W5 o rb HJ5.out.rr.lt)).trans f7;have w0:W5.cell? ⟨wb,0,none⟩=some (.bool round):=qc _ _ 0 _ _ (0,0) HJ5.out.bx;have w1:W5.cell? ⟨wb,1,none⟩=some (.slice Ai l.length ci):=qc _ _ 1 _ _ (0,0) HJ5.out.bx;have htot:=Hk.out.le;have Hmx:Hid (f.rows.length+1≤maxLen):=qh (by unfold maxLen;omega);have Hby:Hid ((f.rows.length+1)*32≤140737488355328):=qh (by omega);have Hpos:Hid (0<f.rows.length+1):=qh (by omega);have Hbs:Hid (B≤W5.drew.heap.size):=qh (qm hB HJ5.out.off.size);have Hown:Hid (W5.drew.ownsRow B 96 2 (.slice Ar f.rows.length cr) f.rows.length (rwC f.rows vis5)):=qh (by rw[←hvr];exact hd5.own hvis5.o (fun k hk=>by simp));have Hone:Hid (∀u∈(#[.bool round,.slice Ai l.length ci]:Array Value).toList,u.oneCell'=true):=qh (by intro u hu;simp at hu;rcases hu with rfl|rfl<;>rfl);have hJd:=HJ5.out
      have HF:Hid (∀w8 v8,W5.drew.grownBy w8 (Value.slice Ar f.rows.length cr).ownBlock→w8.ownsRow B 96 2 v8 (f.rows.length+1) (rwC f.rows vis5++[.bool round,.slice Ai l.length ci])→
        (RRnx w W5 (w8.setCell ⟨rb,7,none⟩ v8) B rb wb s f round F j l (.slice Ai l.length ci) vms∧w8.cell? ⟨rb,7,none⟩=some (.slice Ar f.rows.length cr)∧w8.frozen? ⟨rb,7,none⟩=false)):=qh (fun w8 v8 hg hown=>by
       have hi':=hJd.its.off (T:=[]) hd5 TyAt.nil (by simp) (by simp);have hvis':=hvis5.off (T:=[]) hd5 TyAt.nil (by simp) (by simp) (by simp);have hf':=hf5.off (T:=[]) hd5 TyAt.nil (by simp);obtain⟨⟨e1,e2,e3,e4,e5⟩,e6,e7⟩:=RFM.more (wb:=wb) (W:=W5.drew) (w8:=w8) hf' (hJd.rr.drewN 1) hBr hvr hi' hB hvis' hJd.bx (fun k hk=>by have:=HVlt.out k hk;omega) hwr hown hg;exact⟨⟨_,e1,e2,(zad (qb B W5) 1).trans e3,e4,e5,rfl⟩,e6,e7⟩)
      clear hf5 hvis5 hvr hd5 hJd htot;go_cut [130] from 119 to 130 (fun v130 wx=>Hid (RRnx w W5 wx B rb wb s f round F j l (.slice Ai l.length ci) vms))
      case first=>
       go_region_law (refine zah W5.drew (by rfl) (.tmp 124) (.tmp 126) 27 (by rfl) B 96 _ _ 2 32 Tryz.underlying27 zmq zmr zms zlZ rfl (by decide) (.slice Ar f.rows.length cr) f.rows.length (rwC f.rows vis5) _ _ (by simp[Act.eval,Act.put]) (by simp[Act.eval,Act.put];rfl) (by simp) (by exact Hown.out) rfl (by exact Hone.out) Hmx.out Hby.out (by exact Hbs.out) ?_;intro v8 w8 hown8 hg8 hat8;obtain⟨g8,cap8,rfl⟩:=zak hown8 Hpos.out;obtain⟨hfin8,c8,z8⟩:=HF.out w8 _ hg8 hown8;have HFin:=qh hfin8;clear hfin8 hown8 hg8 hat8)
       all_goals
        go_wp2_with fail;go_meet
        exact HFin
      case rest=>
       obtain⟨W7,hW7⟩:∃W7:World,W7=wc:=⟨_,rfl⟩;subst hW7;obtain⟨F2,hr7,hf7,hb7,hbx7,hi7,hF2⟩:=hcut.out;have hbw7:Below B w W7:=(HJ5.out.off.below hB (fun k hk=>by simp at hk;omega)).trans hb7;obtain⟨vis7,hrm7⟩:=hf7.r;have hlen5:=HJ5.out.len;have hjle5:=HJ5.out.jle;have htot:=Hk.out.le;have hnr:totN (f.rows++[(⟨round,l⟩:Rw)])≤65536∧(f.rows++[(⟨round,l⟩:Rw)]).length≤65536:=by
        unfold totN at htot⊢;simp only[List.map_append,List.sum_append,List.map_cons,List.map_nil,List.sum_cons,List.sum_nil,List.length_append,List.length_cons,List.length_nil];omega
       have hb2:F2.b=f.most:=hf7.b;have hm0:=Hk.out.m0;have hS7:=zeL B F2.nm F2.vl F2.vm F2.vr F2.rd F2.a F2.b F2.c (f.rows++[(⟨round,l⟩:Rw)]) vis7 F2.b W7.drew (hrm7.off (T:=[]) (Off.drew [] W7) TyAt.nil (by simp) (by simp) (by simp)) (by rw[hb2];exact hm0.1) (by rw[hb2];have:=hm0.2;omega) hnr.1 hnr.2;rw[show za6 (f.rows++[(⟨round,l⟩:Rw)]) F2.b=S by rw[hb2];exact HS2.out] at hS7;have HS7:=qh hS7;obtain⟨f4,f5,f6,f7,f8,f9,f10,f11⟩:=hr7.form;have Hr7:=qh hr7;have Hf7:=qh hf7;have Hbw7:=qh hbw7;have Hbx7:=qh hbx7;have Hi7:=qh hi7;have HF2:=qh (show F2.rd=F.rd∧F2.b=f.most∧F2.c=f.shift from⟨hF2,hb2,hf7.c⟩);clear hcut hr7 hf7 hb7 hbx7 hi7 hF2 hbw7 hrm7 hb2 hS7 hnr;go_wp2_with fail;go_cut [141] from 131 to 141 (fun v141 wx=>v141=.bool (decide (512<S))∧Hid (Below W7.heap.size W7 wx))
       case first=>
        go_region_law (go_simp;go_at_call 16;refine HS7.out.mono ?_;rintro e w2 ⟨rfl,hb2⟩;have Hb2:=qh ((zad (qb W7.heap.size W7) 1).trans hb2);clear hb2)
        all_goals
         go_wp2_with fail;go_meet
         exact⟨rfl,Hb2⟩
       case rest=>
        clear f4 f5 f6 f7 f8 f9 f10 f11 HS7;obtain⟨rfl,hb8⟩:=hcut;obtain⟨W8,hW8⟩:∃W8:World,W8=wc:=⟨_,rfl⟩;subst hW8;have hr8:=Hr7.out.below hb8.out;have hf8:=Hf7.out.below hb8.out;have hbx8:=(hb8.out.block wb (qg Hbx7.out).1).trans Hbx7.out;have hi8:=Hi7.out.off (T:=[]) (Off.of_below hb8.out (ql _) []) TyAt.nil (by simp) (by simp);have Hr8:=qh hr8;have Hf8:=qh hf8;have Hbx8:=qh hbx8;have Hi8:=qh hi8;have Hbw8:Hid (Below B w W8):=qh (Hbw7.out.trans ((Off.of_below hb8.out (ql _) []).below (qm hB Hbw7.out.size) (fun _ h=>by cases h)));clear hr8 hf8 hbx8 hi8;go_upto_if 141 with fail
        go_cut [144] from 141 to 144 (fun v144 wx=>Hid (∃no wh,RR wx rb s j no wh F2∧Off [rb] W8 wx∧RgS S start f round l 0 no wh))
        case first=>
         by_cases h512:512<S
         ·have d1:decide (512<S)=true:=qt h512;have Hw:=qh (zaO rb s j 0 0 F2 3 (start:Int) W8 Hr8.out (by decide));go_wp2_with fail;refine Hw.out.mono ?_;rintro e w9 ⟨rfl,hr9,ho9⟩;have Hfin:Hid (∃no wh,RR w9 rb s j no wh F2∧Off [rb] W8 w9∧RgS S start f round l 0 no wh):=qh ⟨_,_,hr9,ho9,.inl ⟨h512,rfl,rfl⟩⟩;clear hr9 ho9;go_wp2_with fail;go_meet
          exact Hfin
         ·have d1:decide (512<S)=false:=qd h512;have Hfin:Hid (∃no wh,RR W8 rb s j no wh F2∧Off [rb] W8 W8∧RgS S start f round l 0 no wh):=qh ⟨0,0,Hr8.out,Off.refl _ _,.inr ⟨h512,.inl ⟨rfl,rfl,rfl⟩⟩⟩;go_wp2_with fail;go_meet
          exact Hfin
        case rest=>
         have Hcut:=hcut;clear hcut;go_wp2_with fail;go_loopw [13,14] (fun v13 v14 wr=>∃k:Nat,k≤l.length∧v13=.int .i64 k∧Hid (∃no wh,RR wr rb s j no wh F2∧Off [rb] W8 wr∧RgS S start f round l k no wh)) (fun v13 _ _=>l.length-(intOf v13).toNat)
         case atStart=>exact⟨0,Nat.zero_le _,rfl,Hcut⟩
         case round=>
          clear Hcut;obtain⟨k,hk,rfl,hS⟩:=hrel;obtain⟨no,wh,hr,hof,hrg⟩:=hS.out;have Hr:=qh hr;have Hof:=qh hof;have Hrg:=qh hrg;have w1:wr.cell? ⟨wb,1,none⟩=some (.slice Ai l.length ci):=qc _ _ 1 _ _ (0,0) ((hof.block wb (qg Hbx8.out).1 (by simp;exact hwr)).trans Hbx8.out);have hi:=Hi8.out.off hof (TyAt.one Hr8.out.r) (by decide) (by decide);clear hS hr hof hrg;by_cases hlt:k<l.length
          ·obtain⟨g,hg,c0,c3⟩:=hi.row hlt;subst hg;have hxo:=HJ5.out.ok (l.getD k It0) (by rw[List.getD_eq_getElem?_getD];simp[hlt]);have hcl:=hxo.cl;have i1:(0:Int)≤(k:Int):=(by omega);have i2:(k:Int)<(l.length:Int):=(by omega);have hrdF:F.rd=f.rounds:=Hf.out.rd;have hyes:=Hrg.out.yes hlt;have hno:=Hrg.out.no hlt;have hrb:rngB f round (l.getD k It0)=(decide (0≤(l.getD k It0).cls)&&decide (25≤(l.getD k It0).cls+upP f round)&&!(round&&f.most==0)):=rfl;have b10:∀n,(wr.drewN n).cell? ⟨rb,10,none⟩=some (.int .i64 f.most):=fun n=>by rw[(Hr.out.drewN n).form.2.2.2.2.2.2.1,HF2.out.2.1]
           have b11:∀n,(wr.drewN n).cell? ⟨rb,11,none⟩=some (.int .i64 f.shift):=fun n=>by rw[(Hr.out.drewN n).form.2.2.2.2.2.2.2,HF2.out.2.2]
           have b10':=b10 0;have b11':=b11 0;rw[show wr.drewN 0=wr from rfl] at b10' b11';have hm0:=Hk.out.m0;have hs0:=Hk.out.s0;have Hw:=qh (fun n=>zaO rb s j no wh F2 5 ((l.getD k It0).at_:Int) (wr.drewN n) (Hr.out.drewN n) (by decide));clear hxo hi;generalize (l.getD k It0).cls=cl at*;generalize (l.getD k It0).at_=at9 at*;generalize rngB f round (l.getD k It0)=rg at*;have Hyes:=qh hyes;have Hno:=qh hno;clear hyes hno;by_cases hc0:cl<0
           ·have d1:decide (cl<0)=true:=qt hc0;have Hrb:Hid (rg=false):=qh (by rw[hrb,decide_eq_false (by omega)];rfl);clear hrb hrdF b10 b11 b10' b11';go_wp2_with fail;go_roundw
            case rel=>exact⟨k+1,by omega,by go_num,qh ⟨_,_,Hr.out,Hof.out,Hno.out Hrb.out⟩⟩
            case measure=>simp[intOf];omega
           ·have d1:decide (cl<0)=false:=qd hc0;have d0:decide (0≤cl)=true:=qt (by omega);rw[d0,Bool.true_and] at hrb;cases round with
            |true=>
             by_cases hmz:f.most=0
             ·have Hrb:Hid (rg=false):=qh (by rw[hrb,hmz];simp);have e1:decide (0<f.most)=false:=qd (by omega);have e1':¬0<f.most:=(by omega);have e2:decide (24<cl)=false:=qd (by omega);have e2':¬24<cl:=(by omega);clear hrb hrdF b10 b11 b11' hmz;go_wp2_with fail;go_roundw
              case rel=>exact⟨k+1,by omega,by go_num,qh ⟨_,_,Hr.out,Hof.out,Hno.out Hrb.out⟩⟩
              case measure=>simp[intOf];omega
             ·have e1:decide (0<f.most)=true:=qt (by omega);have e1':0<f.most:=(by omega);have hup:upP f true=(f.most-1)*f.shift:=rfl;have hmb:=zeM (a:=f.most-1) (b:=f.shift) (by omega) (by omega) hs0.1 hs0.2;have hwa:IntKind.i64.wrap (f.most-1)=f.most-1:=qi _ (by omega);have hwm:IntKind.i64.wrap ((f.most-1)*f.shift)=(f.most-1)*f.shift:=qi _ (by omega);have hws:IntKind.i64.wrap (cl+(f.most-1)*f.shift)=cl+(f.most-1)*f.shift:=qi _ (by omega);rw[hup,show(f.most==0)=false by simpa using hmz] at hrb;clear hrdF hmz hup;by_cases hg:25≤cl+(f.most-1)*f.shift
              ·have Hrb:Hid (rg=true):=qh (by rw[hrb,decide_eq_true hg];rfl);have e2:decide (24<cl+(f.most-1)*f.shift)=true:=qt (by omega);have e2':24<cl+(f.most-1)*f.shift:=(by omega);clear hrb hmb hg;go_wp2_with fail;go_quiet (fail)
               go_wp2_with fail;refine(Hw.out _).mono ?_;rintro e w9 ⟨rfl,hr9,ho9⟩;have Hr9:=qh hr9;have Ho9:=qh ((Hof.out.trans (Off.drewN _ wr _)).trans ho9);clear hr9 ho9;go_wp2_with fail;go_roundw
               case rel=>exact⟨k+1,by omega,by go_num,qh ⟨_,_,Hr9.out,Ho9.out,Hyes.out Hrb.out⟩⟩
               case measure=>simp[intOf];omega
              ·have Hrb:Hid (rg=false):=qh (by rw[hrb,decide_eq_false hg];rfl);have e2:decide (24<cl+(f.most-1)*f.shift)=false:=qd (by omega);have e2':¬24<cl+(f.most-1)*f.shift:=(by omega);clear hrb hmb hg;go_wp2_with fail;go_quiet (fail)
               go_wp2_with fail;go_roundw
               case rel=>exact⟨k+1,by omega,by go_num,qh ⟨_,_,Hr.out.drewN _,Hof.out.trans (Off.drewN _ wr _),Hno.out Hrb.out⟩⟩
               case measure=>simp[intOf];omega
            |false=>
             cases hrd:F.rd with
             |true=>
              have hup:upP f false=f.most*f.shift:=(by unfold upP;rw[if_neg (by simp),←hrdF,hrd,if_pos rfl]);have hmb:=zeM (a:=f.most) (b:=f.shift) (by omega) (by omega) hs0.1 hs0.2;have hwm:IntKind.i64.wrap (f.most*f.shift)=f.most*f.shift:=qi _ (by omega);have hws:IntKind.i64.wrap (cl+f.most*f.shift)=cl+f.most*f.shift:=qi _ (by omega);rw[hup] at hrb;clear hrdF hup;by_cases hg:25≤cl+f.most*f.shift
              ·have Hrb:Hid (rg=true):=qh (by rw[hrb,decide_eq_true hg];rfl);have e2:decide (24<cl+f.most*f.shift)=true:=qt (by omega);have e2':24<cl+f.most*f.shift:=(by omega);clear hrb hmb hg;go_wp2_with fail;go_quiet (fail)
               go_wp2_with fail;refine(Hw.out _).mono ?_;rintro e w9 ⟨rfl,hr9,ho9⟩;have Hr9:=qh hr9;have Ho9:=qh ((Hof.out.trans (Off.drewN _ wr _)).trans ho9);clear hr9 ho9;go_wp2_with fail;go_roundw
               case rel=>exact⟨k+1,by omega,by go_num,qh ⟨_,_,Hr9.out,Ho9.out,Hyes.out Hrb.out⟩⟩
               case measure=>simp[intOf];omega
              ·have Hrb:Hid (rg=false):=qh (by rw[hrb,decide_eq_false hg];rfl);have e2:decide (24<cl+f.most*f.shift)=false:=qd (by omega);have e2':¬24<cl+f.most*f.shift:=(by omega);clear hrb hmb hg;go_wp2_with fail;go_quiet (fail)
               go_wp2_with fail;go_roundw
               case rel=>exact⟨k+1,by omega,by go_num,qh ⟨_,_,Hr.out.drewN _,Hof.out.trans (Off.drewN _ wr _),Hno.out Hrb.out⟩⟩
               case measure=>simp[intOf];omega
             |false=>
              have hup:upP f false=0:=(by unfold upP;rw[if_neg (by simp),←hrdF,hrd,if_neg (by simp)]);have Hrb:Hid (rg=false):=qh (by rw[hrb,hup,decide_eq_false (by omega)];rfl);have e2:decide (24<cl)=false:=qd (by omega);have e2':¬24<cl:=(by omega);clear hrb hrdF hup b10 b11 b10' b11';go_wp2_with fail;go_roundw
              case rel=>exact⟨k+1,by omega,by go_num,qh ⟨_,_,Hr.out,Hof.out,Hno.out Hrb.out⟩⟩
              case measure=>simp[intOf];omega
          ·obtain rfl:k=l.length:=by omega
           have Hfin:Hid (RRow B rb s w R (.returned (.tuple #[])) wr):=qh (by
            refine⟨rfl,Hbw8.out.trans (Hof.out.below (qm hB Hbw8.out.size) (fun k hk=>by simp at hk;omega)),?_⟩;rw[HRR.out];rcases Hrg.out with⟨hs,rfl,rfl⟩|⟨hs,⟨rfl,rfl,hf⟩|⟨x,rfl,rfl,hf⟩⟩
            ·rw[if_pos hs];exact⟨by decide,_,_,Hr.out⟩
            ·rw[if_neg hs];rw[List.take_length] at hf;rw[hf];exact⟨HJ5.out.jle,F2,Hr.out,Hf8.out.offR Hr8.out Hof.out⟩
            ·rw[if_neg hs,hf];exact⟨by decide,_,_,Hr.out⟩)
           clear hi;go_wp2_with fail;refine bodyPost_end (results_none rfl _ _ _) rfl ?_;exact Hfin.out
     |true=>
      have hlt:=zbr hsp;have q32:((bj.toNat:Int)==32)=true:=(by rw[←his];exact hsp);have hw1:IntKind.i64.wrap ((j:Int)+1)=(j:Int)+1:=qi _ (by omega);have hc1:((j+1:Nat):Int)=(j:Int)+1:=(by omega);have H4:Hid (∀n,RR ((wr.drewN n).setCell ⟨rb,1,none⟩ (.int .i64 ((j:Int)+1))) rb s (j+1) 0 0 F∧Off [rb] wr ((wr.drewN n).setCell ⟨rb,1,none⟩ (.int .i64 ((j:Int)+1)))):=qh (fun n=>by
       rw[←hc1];exact⟨(HJ.out.rr.drewN n).to (by omega),(Off.drewN _ _ n).trans (Off.setCell _ rb 1 _)⟩)
      have r1:=HJ.out.rr.c1;have z1:=HJ.out.rr.z 1;clear his hc1;go_wp2_with fail;refine Hc.out.mono ?_;rintro e w3 ⟨rfl,n3,rfl⟩;go_wp2_with fail;obtain⟨hr4,ho4⟩:=H4.out n3;clear r1 z1 H4;generalize (wr.drewN n3).setCell ⟨rb,1,none⟩ (.int .i64 ((j:Int)+1))=W4 at*;have hof4:=HJ.out.off.trans ho4;have hf4:=Hf.out.offR H.out hof4;have Hitem:=qh (zj6 B rb s (j+1) F f.letters W4 hr4 (by omega) hf4.l (by have:=Hk.out.ll.2;omega));have Hof4:=qh hof4;have Ho4:=qh ho4;have Hr4:=qh hr4;clear hr4 ho4 hof4 hf4;refine Hitem.out.mono ?_;rintro e w5 ⟨ho5,hres⟩;have hx:∃(cls ref:Int) (A:Option Addr) (n cp a j5:Nat) (no wh:Int),e=.returned (.agg (xrC cls ref (.slice A n cp) a))∧RR w5 rb s j5 no wh F∧(no=0→n≤70000)∧InS s f round l.length (j+1) w5 W4.heap.size cls ref (.slice A n cp) n a j5 0 no wh:=by
       cases hIR:zcv s f.letters (j+1) with
       |error ep=>
        obtain⟨c,p⟩:=ep;rw[hIR] at hres;obtain⟨hc,⟨j5,hr5⟩,cls,ref,a,A,n,cp,he⟩:=hres;exact⟨cls,ref,A,n,cp,a,j5,c,p,he,hr5,fun e=>absurd e hc,.inl ⟨hc,p,rfl,by rw[zdQ,hIR]⟩⟩
       |ok xk=>
        obtain⟨x,k⟩:=xk;rw[hIR] at hres;obtain⟨v,he,hm5,hr5,hks⟩:=hres;obtain⟨A,cp,rfl⟩:=zab hm5;have hmk:=zep hIR;exact⟨x.cls,x.ref,A,_,cp,x.at_,k,0,0,he,hr5,fun _=>by have:=hmk.2.2.1;omega,.inr ⟨rfl,rfl,x,hIR,rfl,rfl,rfl,rfl,hm5,fun _=>by simp⟩⟩
      obtain⟨cls,ref,A,n,cp,a,j5,no5,wh5,rfl,hr5,hn5,hs5⟩:=hx;have Hr5:=qh hr5;have Hn5:=qh hn5;have HS5:=qh hs5;have Hof5:=qh (Hof4.out.trans ho5);have Ho5:=qh ho5;clear hres hr5 hn5 hs5 ho5 Hitem;unfold xrC;go_upto_region 7 with fail
      obtain⟨xb,hxb⟩:∃xb:Nat,xb=w5.heap.size:=⟨_,rfl⟩;have hx6:=qn w5 (.cells #[.int .i64 cls,.int .i64 ref,.slice A n cp,.int .i64 a] 99);have ho6:Off [rb] w5 (w5.alloc (.cells #[.int .i64 cls,.int .i64 ref,.slice A n cp,.int .i64 a] 99)):=Off.alloc _ w5 _;have hr6:=Hr5.out.off (Off.alloc [] w5 (.cells #[.int .i64 cls,.int .i64 ref,.slice A n cp,.int .i64 a] 99)) (by simp);rw[←hxb] at hx6;rw[←hxb];have hxr:xb≠rb:=(by have:=Hof5.out.size;omega);clear hxb;generalize w5.alloc (.cells #[.int .i64 cls,.int .i64 ref,.slice A n cp,.int .i64 a] 99)=W6 at*;have HX6:=qh hx6;have Ho6:=qh ho6;have Hr6:=qh hr6;have hf10:W6.cell? ⟨rb,10,none⟩=some (.int .i64 f.most):=(by rw[hr6.form.2.2.2.2.2.2.1,Hf.out.b]);have hm0:=Hk.out.m0.1;clear hx6 ho6 hr6;obtain⟨st,hst⟩:∃st:Bool,st=!(round&&f.most==0):=⟨_,rfl⟩;have Hst:=qh hst;clear hst;go_cut [9] from 44 to 53 (fun v9 wx=>v9=.bool st∧wx=W6)
      case first=>
       cases round with
       |false=>
        have hs:st=true:=(by rw[Hst.out];rfl);subst hs;go_wp2_with fail;go_meet
        exact⟨rfl,rfl⟩
       |true=>
        by_cases hm:f.most=0
        ·have hs:st=false:=(by rw[Hst.out,hm];rfl);have d1:decide ((0:Int)<f.most)=false:=qd (by omega);subst hs;clear hm;go_wp2_with fail;go_meet
         exact⟨rfl,rfl⟩
        ·have hs:st=true:=(by rw[Hst.out];simpa using hm);have d1:decide ((0:Int)<f.most)=true:=qt (by omega);have d2:(0:Int)<f.most:=(by omega);subst hs;clear hm;go_wp2_with fail;go_meet
         exact⟨rfl,rfl⟩
      case rest=>
       obtain⟨rfl,hwn⟩:=hcut;subst hwn;clear hf10;obtain⟨W6,hW6⟩:∃W6:World,W6=wc:=⟨_,rfl⟩;subst hW6;obtain⟨wo,hwo⟩:∃wo:World,wo=wr:=⟨_,rfl⟩;subst hwo;have hS6:InS s f round l.length (j+1) W6 W4.heap.size cls ref (.slice A n cp) n a j5 0 no5 wh5:=HS5.out.off Hr5.out Ho6.out;have HS6:=qh hS6;have HO6:Hid (Off [rb] wo W6):=qh ((Ho4.out.trans Ho5.out).trans Ho6.out);obtain⟨Ai,ci,hvi⟩:=zab HJ.out.its.o;subst hvi;clear hS6;go_upto_block 2 with fail
       go_cut [10,11] from 54 to 102 (fun v10 v11 wx=>Hid (∃no wh,RR wx rb s j5 no wh F∧Off [rb] W6 wx∧InF s f round l.length (j+1) wx W4.heap.size cls ref (.slice A n cp) a j5 no wh))
       case first=>
        go_wp2_with fail;go_loopw [10,11] (fun v10 v11 wr=>∃k:Nat,k≤n∧v10=.int .i64 k∧Hid (∃no wh,RR wr rb s j5 no wh F∧Off [rb] W6 wr∧InS s f round l.length (j+1) wr W4.heap.size cls ref (.slice A n cp) n a j5 k no wh)) (fun v10 _ _=>n-(intOf v10).toNat)
        case atStart=>exact⟨0,Nat.zero_le _,rfl,qh ⟨no5,wh5,Hr6.out,Off.refl _ _,HS6.out⟩⟩
        case round=>
         obtain⟨k,hk,rfl,hS⟩:=hrel;obtain⟨no,wh,hr,hof,hin⟩:=hS.out;have x2:wr.cell? ⟨xb,2,none⟩=some (.slice A n cp):=qc _ _ 2 _ _ (0,0) ((hof.block xb (qg HX6.out).1 (by simp;exact hxr)).trans HX6.out);have r2:=hr.c2;have Hr:=qh hr;have Hof:=qh hof;have Hin:=qh hin;clear hS hr hof hin;have hlst:=zk1 (f:=f) (round:=round) (n:=l.length) (by rw[←Hah.out];exact hbd.1);rw[←Hst.out] at hlst;have HL:=qh hlst;clear hlst;by_cases h0:no=0
         ·have q0:(no==0)=true:=(by simpa using h0);by_cases hlt2:k<n
          ·cases st with
           |false=>
            have d1:decide (k<n)=true:=qt hlt2;have Hfin:Hid (∃no wh,RR wr rb s j5 no wh F∧Off [rb] W6 wr∧InF s f round l.length (j+1) wr W4.heap.size cls ref (.slice A n cp) a j5 no wh):=qh ⟨no,wh,Hr.out,Hof.out,Hin.out.fin (fun h _=>by have:=HL.out.1.1 h;cases this)⟩;clear h0;go_wp2_with fail;go_meet
            exact Hfin
           |true=>
            rcases Hin.out with⟨hne,_⟩|⟨_,hw,x,h1,h2,h3,h4,h5,h6,h7⟩
            ·exact absurd h0 hne
            ·subst h0;subst hw;have hmr:=h6;rw[h5] at hmr;obtain⟨g,hA,hg,k0,k1,k2⟩:=hmr.row (k:=k) (by omega);subst hA;have hl:0≤zbi f round l.length:=HL.out.1.2 rfl;have hle:zbi f round l.length=ah+l.length:=(by rw[HL.out.2 rfl,Hah.out]);have hft:=zeP (bkB (zbi f round l.length)) x.marks Mk0 k (by omega) (h7 hl);have Hbad:=qh (fun W' hf=>InS.bad (s:=s) (f:=f) (round:=round) (n0:=l.length) (j:=j+1) (W':=W') (B:=W4.heap.size) (cls:=cls) (ref:=ref) (v:=.slice (some ⟨g,0,none⟩) n cp) (n:=n) (a:=a) (j5:=j5) (k:=k) (k':=k+1) h1 hl hf);have Hgood:Hid (∀W',Off [rb] wr W'→(x.marks.take (k+1)).find? (bkB (zbi f round l.length))=none→InS s f round l.length (j+1) W' W4.heap.size cls ref (.slice (some ⟨g,0,none⟩) n cp) n a j5 (k+1) 0 0):=qh (fun W' ho hf=>.inr ⟨rfl,rfl,x,h1,h2,h3,h4,h5,ho.ownT h6 (TyAt.one Hr.out.r) (by decide),fun _=>hf⟩);have hbk:bkB (zbi f round l.length) (x.marks.getD k Mk0)=(((x.marks.getD k Mk0).sign==94||(x.marks.getD k Mk0).sign==64||(x.marks.getD k Mk0).sign==126)&&decide (ah+(l.length:Int)<(x.marks.getD k Mk0).n)):=(by unfold bkB zb0;rw[hle]);have hnb:n≤65536:=(by have e1:=(zep h1).2.2.1;have e2:=zim h1;omega);clear hmr h1 h2 h3 h4 h5 h6 h7 hl hle;have hwb1:wr.cell? ⟨wb,1,none⟩=some (.slice Ai l.length ci):=by
              have:=(HO6.out.trans Hof.out).cell (o:=1) (qg HJ.out.bx).1 (by simp;exact hwr);rw[this];exact qc _ _ 1 _ _ (0,0) HJ.out.bx
             have hwbl:wb<wr.heap.size:=Nat.lt_of_lt_of_le (qg HJ.out.bx).1 (HO6.out.trans Hof.out).size;generalize (x.marks.getD k Mk0).sign=sg at*;generalize (x.marks.getD k Mk0).n=mn at*;generalize (x.marks.getD k Mk0).at_=ma at*;generalize bkB (zbi f round l.length) (x.marks.getD k Mk0)=bk at*;have d1:decide (k<n)=true:=qt hlt2;have i1:(0:Int)≤(k:Int):=(by omega);have i2:(k:Int)<(n:Int):=(by omega);have hll:=HJ.out.len;have hjl:=HJ.out.jle;have hw2:IntKind.i64.wrap (ah+(l.length:Int))=ah+(l.length:Int):=qi _ (by omega);have b1:(wr.alloc (.cells #[.int .u8 sg,.int .i64 mn,.int .i64 ma] 101)).cell? ⟨wb,1,none⟩=some (.slice Ai l.length ci):=(qw (qa wr _ wb hwbl)).trans hwb1;have hnb:=qn wr (.cells #[.int .u8 sg,.int .i64 mn,.int .i64 ma] 101);have c0:=qc _ _ 0 _ _ (0,0) hnb;have c1:=qc _ _ 1 _ _ (0,0) hnb;have c2:=qc _ _ 2 _ _ (0,0) hnb;have Hw:=qh (zaO rb s j5 0 0 F 182 (ma:Int) _ (Hr.out.off (Off.alloc [] wr (.cells #[.int .u8 sg,.int .i64 mn,.int .i64 ma] 101)) (by simp)) (by decide));have HoA:Hid (Off [rb] wr (wr.alloc (.cells #[.int .u8 sg,.int .i64 mn,.int .i64 ma] 101))):=qh (Off.alloc _ wr _);have HrA:=qh (Hr.out.off (Off.alloc [] wr (.cells #[.int .u8 sg,.int .i64 mn,.int .i64 ma] 101)) (by simp));have hsg:((sg==94)=true∨((sg==94)=false∧(sg==64)=true)∨((sg==94)=false∧(sg==64)=false∧(sg==126)=true))∨((sg==94)=false∧(sg==64)=false∧(sg==126)=false):=by
              cases (sg==94)<;>cases (sg==64)<;>cases (sg==126)<;>simp
             have Hft:=qh hft;clear hft hnb hwb1;rcases hsg with hsg|⟨g1,g2,g3⟩
             ·have hb:(sg==94||sg==64||sg==126)=true:=by rcases hsg with h|⟨_,h⟩|⟨_,_,h⟩<;>rw[h]<;>simp
              rw[hb,Bool.true_and] at hbk;clear hb;cases hd:decide (ah+(l.length:Int)<mn) with
              |true=>
               have Hf2:=qh (Hft.out.1 (by rw[hbk];exact hd));have hd2:ah+(l.length:Int)<mn:=of_decide_eq_true hd;clear hbk;rcases hsg with g1|⟨g1,g2⟩|⟨g1,g2,g3⟩
               all_goals
                go_wp2_with fail;refine Hw.out.mono ?_;rintro e w7 ⟨rfl,hr7,ho7⟩;have Hr7:=qh hr7;have Ho7:=qh ho7;clear hr7 ho7;go_wp2_with fail;go_roundw
                case rel=>exact⟨k+1,by omega,by go_num,qh ⟨182,ma,Hr7.out,(Hof.out.trans HoA.out).trans Ho7.out,Hbad.out _ Hf2.out⟩⟩
                case measure=>simp[intOf];omega
              |false=>
               have Hf2:=qh (Hft.out.2 (by rw[hbk];exact hd));have hd2:¬ah+(l.length:Int)<mn:=of_decide_eq_false hd;clear hbk;rcases hsg with g1|⟨g1,g2⟩|⟨g1,g2,g3⟩
               all_goals
                go_wp2_with fail;go_roundw
                case rel=>exact⟨k+1,by omega,by go_num,qh ⟨0,0,HrA.out,Hof.out.trans HoA.out,Hgood.out _ HoA.out Hf2.out⟩⟩
                case measure=>simp[intOf];omega
             ·have Hf2:=qh (Hft.out.2 (by rw[hbk,g1,g2,g3];rfl));clear hbk;go_wp2_with fail;go_roundw
              case rel=>exact⟨k+1,by omega,by go_num,qh ⟨0,0,HrA.out,Hof.out.trans HoA.out,Hgood.out _ HoA.out Hf2.out⟩⟩
              case measure=>simp[intOf];omega
          ·have d1:decide (k<n)=false:=qd hlt2;have Hfin:Hid (∃no wh,RR wr rb s j5 no wh F∧Off [rb] W6 wr∧InF s f round l.length (j+1) wr W4.heap.size cls ref (.slice A n cp) a j5 no wh):=qh ⟨no,wh,Hr.out,Hof.out,Hin.out.fin (fun _ _=>by omega)⟩;clear h0;go_wp2_with fail;go_meet
           exact Hfin
         ·have q0:(no==0)=false:=(by simpa using h0);have Hfin:Hid (∃no wh,RR wr rb s j5 no wh F∧Off [rb] W6 wr∧InF s f round l.length (j+1) wr W4.heap.size cls ref (.slice A n cp) a j5 no wh):=qh ⟨no,wh,Hr.out,Hof.out,Hin.out.fin (fun _ h=>absurd h h0)⟩;clear h0;by_cases hlt2:k<n
          ·have d1:decide (k<n)=true:=qt hlt2;cases st with
           |false=>
            go_wp2_with fail;go_meet
            exact Hfin
           |true=>
            go_wp2_with fail;go_meet
            exact Hfin
          ·have d1:decide (k<n)=false:=qd hlt2;go_wp2_with fail;go_meet
           exact Hfin
       case rest=>
        obtain⟨no,wh,hr8,ho8,hf8⟩:=hcut.out;obtain⟨W8,hW8⟩:∃W8:World,W8=wc:=⟨_,rfl⟩;subst hW8;have hoA:Off [rb] wo W8:=HO6.out.trans ho8;obtain⟨hb8,hi8,hof8⟩:=HJ.out.offR hwr hoA;have hx8:=(ho8.block xb (qg HX6.out).1 (by simp;exact hxr)).trans HX6.out;have x0:W8.cell? ⟨xb,0,none⟩=some (.int .i64 cls):=qc _ _ 0 _ _ (0,0) hx8;have x1:W8.cell? ⟨xb,1,none⟩=some (.int .i64 ref):=qc _ _ 1 _ _ (0,0) hx8;have x2:W8.cell? ⟨xb,2,none⟩=some (.slice A n cp):=qc _ _ 2 _ _ (0,0) hx8;have x3:W8.cell? ⟨xb,3,none⟩=some (.int .i64 a):=qc _ _ 3 _ _ (0,0) hx8;have w1:W8.cell? ⟨wb,1,none⟩=some (.slice Ai l.length ci):=qc _ _ 1 _ _ (0,0) hb8;have hll:=HJ.out.len;have hjl:=HJ.out.jle;have Hown:=qh hi8.o;have Hbs:Hid (w.heap.size≤W8.heap.size):=qh hof8.size
        have HF:Hid (∀w8 v8,W8.grownBy w8 (Value.slice Ai l.length ci).ownBlock→w8.ownsRow w.heap.size 99 4 v8 (l.length+1) (ritC l vms++[.int .i64 cls,.int .i64 ref,.slice A n cp,.int .i64 a])→
          ((RoL w (w8.setCell ⟨wb,1,none⟩ v8) rb wb s f F round i RI∧∃(no:Int) (j':Nat),(w8.setCell ⟨wb,1,none⟩ v8).cell? ⟨rb,2,none⟩=some (.int .i64 no)∧(w8.setCell ⟨wb,1,none⟩ v8).cell? ⟨rb,1,none⟩=some (.int .i64 j')∧(no=0→j<j'))∧w8.cell? ⟨wb,1,none⟩=some (.slice Ai l.length ci)∧w8.frozen? ⟨wb,1,none⟩=false)):=qh (fun w8 v8 hg hown=>by
         have hT:=HT.out;cases q with
         |zero=>omega
         |succ q'=>
          unfold za1 at hT;rw[if_pos hsp] at hT;rcases hf8 with⟨hne,p,hwp,hP⟩|⟨h0,hw0,x,hP,hR1,e1,e2,e3,hm⟩
          ·rw[hP] at hT;subst hwp;obtain⟨A8,c8,hv8⟩:=zab hown;have hog:Off (Value.slice Ai l.length ci).ownBlock.toList W8 w8:=Off.grown hg (fun k hk=>by rw[hk];simp);have hb9:=(hog.block wb (qg hb8).1 (zcO hi8.o hb8 (by decide))).trans hb8;have hr9:=hr8.off hog (zcO hi8.o hr8.r (by decide));have hos:=Off.setCell w8 wb 1 v8;have hr10:=hr9.off hos (by simp;exact fun e=>hwr e.symm);have hb10:=qs w8 wb 1 _ _ v8 hb9;refine⟨⟨.inr ⟨no,p,j5,A8,l.length+1,c8,hne,hr10,by rw[hv8] at hb10⊢;exact hb10,(hof8.into hog (fun k hk=>.inr (zfs hi8.o k hk).1)).into hos (fun k hk=>by simp at hk;omega),hT.symm⟩,no,j5,hr10.c2,hr10.c1,fun e=>absurd e hne⟩,qc _ _ 1 _ _ (0,0) hb9,qf _ _ 1 _ _ hb9⟩
          ·rw[hP] at hT;subst h0;subst hw0;rw[e1,e2,e3] at hown;obtain⟨hok,hjk,_,_⟩:=zep hR1;obtain⟨hJ9,hc9,hz9⟩:=HJ.out.next hwr hwb hoA hr8 (zaT hm Hof4.out.size) (by omega) (zim hR1) hok hown hg;exact⟨⟨.inl ⟨l++[x],j5,_,_,q',hJ9,hT,by omega⟩,0,j5,hJ9.rr.c2,hJ9.rr.c1,fun _=>by omega⟩,hc9,hz9⟩)
        clear hcut hr8 ho8 hf8 hoA hb8 hi8 hof8 hx8;go_wp2_with (at_builtin;go_loud (refine zae W8 rfl _ _ 94 rfl w.heap.size 99 _ _ 4 48 Tryz.underlying94 zmn zmo zmp zlY rfl (by decide) (.slice Ai l.length ci) l.length (ritC l vms) _ _ rfl rfl ?c0 (by exact Hown.out) rfl ?c1 ?c2 ?c3 ?c4 ?_;rotate_right;intro v8 w8 hown8 hg8 hat8;obtain⟨g8,cap8,rfl⟩:=zak hown8 (by omega);obtain⟨hJ8,c8,z8⟩:=HF.out _ _ hg8 hown8;have HJ8:=qh hJ8;clear hJ8 hown8 hg8 hat8))
        case c0=>rfl
        case c1=>exact⟨rfl,rfl,rfl,rfl⟩
        case c2=>unfold maxLen;omega
        case c3=>omega
        case c4=>exact Hbs.out
        go_roundw
        case rel=>exact qh HJ8.out.1
        case measure=>
         obtain⟨no,j',hc2,hc1,hlt9⟩:=HJ8.out.2;rw[hc2,hc1,Hms.out.1,Hms.out.2];simp only[intOf];by_cases h0:no=0
         ·have:=hlt9 h0;simp[h0];omega
         ·simp[h0];omega
    ·have hne:c≠0:=hc;have q1:(c !=0)=true:=(by simpa using hc);have hb0:byC0 c s j=0:=(by unfold byC0;rw[if_neg hc]);have Hc:=qh (rc_q rb s j c p F wr hr);rw[hb0] at Hc;have Hr:=qh hr;have r2:=fun n=>(hr.drewN n).c2;have Hfin:Hid (∀n,RRow B rb s w R (.returned (.tuple #[])) (wr.drewN n)):=qh (fun n=>by
      refine⟨rfl,(hof.trans (Off.drewN _ _ n)).below hB (fun k hk=>by simp at hk;omega),?_⟩;have hR:R=.error (c,p):=(by rw[←HR.out,zdF,HRI.out,hRI]);rw[hR];exact⟨hc,_,_,hr.drewN n⟩)
     clear hrel hr hbx hof hRI hb0 hc hne;go_wp2_with fail;refine Hc.out.mono ?_;rintro e w4 ⟨rfl,n4,rfl⟩;go_wp2_with fail;refine bodyPost_ret (results_none rfl _ _ _) rfl ?_;exact Hfin.out _
end Go.Proofs.YtgklikkddckgbaaGreatDoor.Mo

import Derived.Test.YtgklikkddckgbaaGreatDoorHBG
/- Lemmas of the claim. -/
set_option linter.all false
namespace Go.Proofs.YtgklikkddckgbaaGreatDoor.Mo
open Go.RowKit
theorem RItsM.at {w:World} {B:Nat} {A:Option Addr} {n c:Nat} {l:List It} {vms:List Value} (h:RItsM w B (.slice A n c) l vms) {k:Nat} (hk:k<l.length):
    ∃g,A=some ⟨g,0,none⟩∧w.cell? ⟨g,k*4,none⟩=some (.int .i64 (l.getD k It0).cls)∧w.cell? ⟨g,k*4+1,none⟩=some (.int .i64 (l.getD k It0).ref)∧w.cell? ⟨g,k*4+2,none⟩=some (vms.getD k .nilFunc)∧w.cell? ⟨g,k*4+3,none⟩=some (.int .i64 (l.getD k It0).at_):=by
  have hlen:=zin l vms h.n;have hget:=zio l vms k h.n hk;rcases h.o.2 with⟨e,e0⟩|⟨g,cap,cur,e,_,hg,_⟩
  · omega
  · have ho:=h.o
    simp only[Value.slice.injEq] at e;obtain⟨rfl,rfl,rfl⟩:=e;exact⟨g,rfl,(ho.cellAt (k*4) (by omega)).trans hget.1,(ho.cellAt (k*4+1) (by omega)).trans hget.2.1,(ho.cellAt (k*4+2) (by omega)).trans hget.2.2.1,(ho.cellAt (k*4+3) (by omega)).trans hget.2.2.2⟩
structure RLM (w3:World) (xb:Nat) (x:It) (Ak:Option Addr) (ck:Nat) (d:Dm) (W:World):Prop where
  b:Below w3.heap.size w3 W
  hx:w3.heap.size=xb
  x:W.heap[xb]?=some (.cells #[.int .i64 x.cls,.int .i64 x.ref,.slice Ak x.marks.length ck,.int .i64 x.at_] 99 (0,0))
  d:∃A c,W.heap[xb+1]?=some (.cells (dmC d (.slice A d.has.length c)) 45 (0,0))∧W.ownsRow w3.heap.size 3 1 (.slice A d.has.length c) d.has.length (intC d.has)
theorem RLM.put {w3 W:World} {xb:Nat} {x:It} {Ak:Option Addr} {ck:Nat} {d:Dm} (h:RLM w3 xb x Ak ck d W) (o:Nat) (v:Value) (d':Dm) (hh:d'.has=d.has) (hc:∀A c,(dmC d (.slice A d.has.length c)).setIfInBounds o v=dmC d' (.slice A d.has.length c)):RLM w3 xb x Ak ck d' (W.setCell ⟨xb+1,o,none⟩ v):=by
  obtain⟨A,c,h1,h2⟩:=h.d;have k:=KeepT.set h1 o v;have hx:=h.hx;refine⟨h.b.setCell (p:=⟨xb+1,o,none⟩) (by show w3.heap.size≤xb+1;omega) _,h.hx,k.2 _ _ _ h.x (by decide),A,c,?_,?_⟩
  · have h3:=qs W (xb+1) o _ _ v h1
    rw[hc A c] at h3;rw[hh];exact h3
  · rw[hh]
    exact own_kT h2 k (by decide)
theorem RLM.below {w3 W W':World} {xb:Nat} {x:It} {Ak:Option Addr} {ck:Nat} {d:Dm} (h:RLM w3 xb x Ak ck d W) (hb:Below W.heap.size W W'):RLM w3 xb x Ak ck d W':=by
  obtain⟨A,c,h1,h2⟩:=h.d;have k:=KeepT.of_below [] hb;exact⟨h.b.trans (hb.mono h.b.size),h.hx,k.2 _ _ _ h.x (by simp),A,c,k.2 _ _ _ h1 (by simp),own_kT h2 k (by simp)⟩
theorem RLM.start {w3 W5:World} {xb:Nat} {x:It} {Ak:Option Addr} {ck:Nat} (stz:Int) (hb:Below w3.heap.size w3 W5) (hxb:w3.heap.size=xb) (hx:W5.heap[xb]?=some (.cells #[.int .i64 x.cls,.int .i64 x.ref,.slice Ak x.marks.length ck,.int .i64 x.at_] 99 (0,0)))
    (hd:W5.heap[xb+1]?=some (.cells #[.int .i64 stz,.int .i64 0,.int .i64 0,.int .i64 (-1),.int .i64 0,.int .i64 (-1),.int .i64 (-1),.slice none 0 0,.int .i32 0] 45 (0,0))):RLM w3 xb x Ak ck ⟨stz,0,0,-1,0,-1,-1,[],0⟩ W5:=
  ⟨hb,hxb,hx,none,0,hd,⟨rfl,.inl ⟨rfl,rfl⟩⟩⟩
structure RMM (w3:World) (xb:Nat) (x:It) (Ak:Option Addr) (ck:Nat) (d:Dm) (mb:Nat) (sg n at_:Int) (W:World):Prop where
  r:RLM w3 xb x Ak ck d W
  m:W.heap[mb]?=some (.cells #[.int .u8 sg,.int .i64 n,.int .i64 at_] 101 (0,0))
theorem RMM.start {w3 W:World} {xb mb:Nat} {x:It} {Ak:Option Addr} {ck:Nat} {d:Dm} {sg n:Int} {at_:Nat} (h:RLM w3 xb x Ak ck d W) (hm:W.heap[mb]?=some (.cells #[.int .u8 sg,.int .i64 n,.int .i64 at_] 101 (0,0))):RMM w3 xb x Ak ck d mb sg n at_ W:=⟨h,hm⟩
theorem RMM.put {w3 W:World} {xb mb:Nat} {x:It} {Ak:Option Addr} {ck:Nat} {d:Dm} {sg n at_:Int} (h:RMM w3 xb x Ak ck d mb sg n at_ W) (o:Nat) (v:Value) (d':Dm) (hh:d'.has=d.has) (hc:∀A c,(dmC d (.slice A d.has.length c)).setIfInBounds o v=dmC d' (.slice A d.has.length c)):RMM w3 xb x Ak ck d' mb sg n at_ (W.setCell ⟨xb+1,o,none⟩ v):=by
  obtain⟨A,c,h1,h2⟩:=h.r.d;exact⟨h.r.put o v d' hh hc,(KeepT.set h1 o v).2 _ _ _ h.m (by decide)⟩
theorem RMM.has {w3 W w5:World} {xb mb:Nat} {x:It} {Ak:Option Addr} {ck:Nat} {d:Dm} {sg n at_:Int} {A:Option Addr} {c:Nat} {v5:Value} (h:RMM w3 xb x Ak ck d mb sg n at_ W) (h1:W.heap[xb+1]?=some (.cells (dmC d (.slice A d.has.length c)) 45 (0,0))) (h2:W.ownsRow w3.heap.size 3 1 (.slice A d.has.length c) d.has.length (intC d.has)) (u:Int)
    (ho:w5.ownsRow w3.heap.size 3 1 v5 (d.has.length+1) (intC d.has++[.int .i64 u])) (hg:W.grownBy w5 (Value.slice A d.has.length c).ownBlock):
    w5.cell? ⟨xb+1,7,none⟩=some (.slice A d.has.length c)∧w5.frozen? ⟨xb+1,7,none⟩=false∧Hid (RMM w3 xb x Ak ck {d with has:=d.has++[u]} mb sg n at_ (w5.setCell ⟨xb+1,7,none⟩ v5)):=by
  have k1:KeepT [3] W w5:=KeepT.grown h2 hg;have hd5:=k1.2 _ _ _ h1 (by decide);have k2:KeepT [45] w5 (w5.setCell ⟨xb+1,7,none⟩ v5):=KeepT.set hd5 7 v5;obtain⟨A5,c5,hv5⟩:=zab ho;subst hv5;have hx:=h.r.hx;refine⟨qc _ _ 7 _ _ (0,0) hd5,qf _ _ 7 _ _ hd5,qh ⟨⟨(h.r.b.grown hg h.r.b.size (fun b e=>(h2.lt b e).1)).setCell (p:=⟨xb+1,7,none⟩) (by show w3.heap.size≤xb+1;omega) _,hx,k2.2 _ _ _ (k1.2 _ _ _ h.r.x (by decide)) (by decide),A5,c5,?_,?_⟩,k2.2 _ _ _ (k1.2 _ _ _ h.m (by decide)) (by decide)⟩⟩
  · have h3:=qs w5 (xb+1) 7 _ _ (.slice A5 (d.has.length+1) c5) hd5
    rw[List.length_append,List.length_singleton];exact h3
  · rw[List.length_append,List.length_singleton]
    have e:intC (d.has++[u])=intC d.has++[.int .i64 u]:=(by simp[intC]);rw[e];exact own_kT ho k2 (by decide)
theorem marks_sum:∀ms:List Mk,(∀m∈ms,MkOk m)→ms.length≤zaC ms 58+zaC ms 47+zaC ms 94+zaC ms 64+zaC ms 126+zaC ms 39
  |[],_=>by simp
  |m::ms,h=>by
   have ih:=marks_sum ms (fun x hx=>h x (List.mem_cons_of_mem _ hx));unfold zaC at ih⊢;simp only[List.countP_cons,List.length_cons];rcases(h m (List.mem_cons_self ..)).sg with e|e|e|e|e|e<;>rw[e]<;>simp<;>omega
theorem marks_len {x:It} (h:ItOk x):x.marks.length≤9:=by
  have h0:=marks_sum x.marks h.mks;have h1:=h.one 58 (by decide);have h2:=h.one 47 (by decide);have h3:=h.one 94 (by decide);have h4:=h.one 64 (by decide);have h5:=h.one 39 (by decide);have h6:=h.four;omega
theorem step_chain {letters:List UInt8} {line sg n:Int} {at_:Nat} {d d1 d2 d3 d4 d5 d6:Dm} (hsg:sg=58∨sg=47∨sg=94∨sg=64∨sg=126∨sg=39) (h1:d1=if sg=58 then{d with met:=metK letters n d.met letters.length} else d)
    (h2:d2=if sg=47 then{d1 with syl:=n} else d1) (h3:d3=if sg=94 then{d2 with same:=line-n} else d2) (h4:d4=if sg=64 then{d3 with ends:=line-n} else d3) (h5:d5=if sg=126 then{d4 with has:=d4.has++[line-n]} else d4) (h6:d6=if sg=39 then{d5 with beg:=n} else d5):
    stepM letters line d ⟨sg,n,at_⟩=d6∧d4.has=d.has:=by
  subst h1 h2 h3 h4 h5 h6;rcases hsg with rfl|rfl|rfl|rfl|rfl|rfl<;>simp[stepM]
theorem chain_has {letters:List UInt8} {line sg n:Int} {d d1 d2 d3 d4:Dm} (h1:d1=if sg=58 then{d with met:=metK letters n d.met letters.length} else d)
    (h2:d2=if sg=47 then{d1 with syl:=n} else d1) (h3:d3=if sg=94 then{d2 with same:=line-n} else d2) (h4:d4=if sg=64 then{d3 with ends:=line-n} else d3):d4.has=d.has:=by
  subst h1 h2 h3 h4
  (repeat' split)<;>rfl
theorem letr_at {W:World} {B n c:Nat} {A:Option Addr} {letters:List UInt8} (h:W.ownsRow B 5 1 (.slice A n c) n (byC letters)) (hn:letters.length=n) {k:Nat} (hk:k<n):∃g,A=some ⟨g,0,none⟩∧W.cell? ⟨g,k,none⟩=some (.int .u8 ((letters.getD k 0).toNat:Int)):=by
  rcases h.2 with⟨_,e0⟩|⟨g,cap,cur,e,_,hg,_⟩
  · omega
  · cases e
    refine⟨g,rfl,?_⟩;rw[h.cellAt k (by omega)];unfold byC;simp[List.getD_eq_getElem?_getD,hn,hk]
theorem DmsM.push {V w5:World} {B:Nat} {v v5:Value} {xs:List YD} {x:YD} (hd:DmsM V B v xs) (hx:V.ownsRow B 3 1 x.v x.d.has.length (intC x.d.has)∧x.d.has.length≤4) (ho:w5.ownsRow B 45 9 v5 (xs.length+1) (ydC xs++(dmC x.d x.v).toList)) (hg:V.grownBy w5 v.ownBlock):DmsM w5 B v5 (xs++[x]):=by
  have k:KeepT [45] V w5:=KeepT.grown hd.o hg;refine⟨?_,fun y hy=>?_⟩
  · rw[List.length_append,List.length_singleton,ydC_snoc]
    exact ho
  · rcases List.mem_append.1 hy with hy|hy
    · exact⟨own_kT (hd.h y hy).1 k (by decide),(hd.h y hy).2⟩
    · obtain rfl:y=x:=by simpa using hy
      exact⟨own_kT hx.1 k (by decide),hx.2⟩
def RLn (ds:List Dm) (w:World) (e:Ending) (w':World):Prop:=Below w.heap.size w w'∧∃v xs,e=.returned v∧xs.map YD.d=ds∧DmsM w' w.heap.size v xs
set_option maxRecDepth 100000 in
set_option maxHeartbeats 8000000 in
theorem rlines_any (B:Nat) (f:Fm) (nm:ByteArray) (Al Am Ar:Option Addr) (cl nM cm cr:Nat) (rd:Bool) (a b:Int) (vis:List Value) (N i:Nat) (w:World) (hl:w.ownsRow B 5 1 (.slice Al f.letters.length cl) f.letters.length (byC f.letters)) (hr:RRwM w B (.slice Ar f.rows.length cr) f.rows vis)
    (hk:FmOk f i) (hi:i≤65536) (hn1:f.least≤N) (hn2:(N:Int)≤f.most):
    Calls Tryz.prog 17 #[.agg #[.string nm,.slice Al f.letters.length cl,.slice Am nM cm,.slice Ar f.rows.length cr,.bool rd,.int .i64 a,.int .i64 b,.int .i64 f.shift],.int .i64 (N:Int)] w (RLn (demandsP f N) w):=by
  obtain⟨W1,hW1⟩:∃W1,w.alloc (.cells #[.string nm,.slice Al f.letters.length cl,.slice Am nM cm,.slice Ar f.rows.length cr,.bool rd,.int .i64 a,.int .i64 b,.int .i64 f.shift] 29)=W1:=⟨_,rfl⟩;have hb1:Below w.heap.size w W1:=by rw[←hW1];exact(qb _ _).alloc (ql _) _
  have hx1:W1.heap[w.heap.size]?=some (.cells #[.string nm,.slice Al f.letters.length cl,.slice Am nM cm,.slice Ar f.rows.length cr,.bool rd,.int .i64 a,.int .i64 b,.int .i64 f.shift] 29 (0,0)):=by rw[←hW1];exact qn w _
  have Hl:=qh hl;have Hr:=qh hr;have h512:(N:Int)≤512:=by have:=hk.m0;omega
  have Hrows:=qh (show f.rows.length≤65536 by have:=hk.le;omega);have Hlet:=qh (show f.letters.length≤65536 by have:=hk.ll;omega);have Hcnt:=qh (blocks_count f.rows N (by omega) h512)
  have Htot:=qh (show((demandsP f N).length:Int)≤33554432 by
    have h:=zhp f.rows N (by omega) h512 f.rows.length (ql _);rw[List.take_length] at h;rw[demands_len f N (by omega)];have:=hk.le;omega)
  have HW1:=qh hW1;have Hb1:=qh hb1
  have HB:Hid (∀W,Below W1.heap.size W1 W→W.cell? ⟨w.heap.size,1,none⟩=some (.slice Al f.letters.length cl)∧W.cell? ⟨w.heap.size,3,none⟩=some (.slice Ar f.rows.length cr)∧W.cell? ⟨w.heap.size,7,none⟩=some (.int .i64 f.shift)):=qh fun W hb=>by
    have h1:=(hb.block _ (qg hx1).1).trans hx1;exact⟨qc _ _ 1 _ _ (0,0) h1,qc _ _ 3 _ _ (0,0) h1,qc _ _ 7 _ _ (0,0) h1⟩
  have HR:Hid (∀W,Below W1.heap.size W1 W→RRwM W B (.slice Ar f.rows.length cr) f.rows vis):=qh fun W hb=>hr.off (T:=[]) (Off.of_below (hb1.trans (hb.mono hb1.size)) (ql _) []) TyAt.nil (by simp) (by simp) (by simp);have HL:Hid (∀W,Below W1.heap.size W1 W→W.ownsRow B 5 1 (.slice Al f.letters.length cl) f.letters.length (byC f.letters)):=qh fun W hb=>(Off.of_below (hb1.trans (hb.mono hb1.size)) (ql _) []).own hl (by simp);have Hk:=qh hk;clear hl hr hb1 hx1 hW1 hk;go_enter Tryz.func17,Tryz.ntmps17;go_wp2_with fail;rw[HW1.out];go_loopw [5,6,7,8] (fun t5 t6 t7 q wr=>∃(k:Nat) (xs:List YD) (A:Option Addr) (c:Nat),k≤f.rows.length∧q=.int .i64 k∧t5=.slice A xs.length c∧t6=.int .i64 (dAll f (blocksP (f.rows.take k) N)).stz∧t7=.int .i64 (dAll f (blocksP (f.rows.take k) N)).up∧Hid (xs.map YD.d=(dAll f (blocksP (f.rows.take k) N)).out)∧Hid (DmsM wr W1.heap.size (.slice A xs.length c) xs)∧Hid (Below W1.heap.size W1 wr)) (fun _ _ _ q _=>f.rows.length-(intOf q).toNat)
  case atStart=>exact⟨0,[],none,0,Nat.zero_le _,rfl,rfl,rfl,rfl,qh rfl,qh ⟨⟨rfl,.inl ⟨rfl,rfl⟩⟩,fun x hx=>by cases hx⟩,qh (qb _ _)⟩
  case round=>
    rename World=>wr
    obtain⟨k,xs,A,c,hk',rfl,rfl,rfl,rfl,hEn,hD,hb⟩:=hrel;obtain⟨p1,p3,p7⟩:=HB.out wr hb.out;by_cases hlt:k<f.rows.length
    · obtain⟨A0,c0,e0,hrow⟩:=(HR.out wr hb.out).row
      cases e0;obtain⟨g,rfl,hg,hcells⟩:=hrow (by omega);obtain⟨k0,k1⟩:=hcells k hlt;have Hbt:=qh (blocks_take f.rows N k hlt);obtain⟨cs0,hcs0⟩:=blocks_pre f.rows N (k+1);have Hcs:=qh hcs0;have hcnt:=Hcnt.out (k+1) (by omega);have hmem:f.rows.getD k ⟨false,[]⟩∈f.rows:=(by rw[List.getD_eq_getElem?_getD,List.getElem?_eq_getElem hlt];exact qM hlt);have Hit:=qh (Hk.out.it _ hmem)
      have HRow:Hid (∀W,Below W1.heap.size W1 W→W.cell? ⟨g,k*2,none⟩=some (.bool (f.rows.getD k ⟨false,[]⟩).round)∧W.cell? ⟨g,k*2+1,none⟩=some (vis.getD k .nilFunc)∧∃vms,RItsM W B (vis.getD k .nilFunc) (f.rows.getD k ⟨false,[]⟩).items vms):=qh fun W hb=>by
        obtain⟨A0,c0,e0,hrow⟩:=(HR.out W hb).row;cases e0;obtain⟨g2,e2,hg2,hcells2⟩:=hrow (by omega);cases e2;exact⟨(hcells2 k hlt).1,(hcells2 k hlt).2,(HR.out W hb).i k hlt⟩
      have hT512:timesR N (f.rows.getD k ⟨false,[]⟩)≤512:=by unfold timesR;split<;>omega
      clear hcells hrow hcs0 hmem;generalize hr:f.rows.getD k ⟨false,[]⟩=r at*
      have hlen0:(blocksP (f.rows.take k) N).length+timesR N r≤33554432:=by
        have h:=hcnt;rw[Hbt.out,List.length_append,List.length_replicate] at h;have:=Hrows.out;omega
      have HbT:Hid (∀t,t≤timesR N r→0≤(dAll f (blocksP (f.rows.take k) N++List.replicate t r)).stz∧(dAll f (blocksP (f.rows.take k) N++List.replicate t r)).stz≤33554432∧0≤(dAll f (blocksP (f.rows.take k) N++List.replicate t r)).up∧(dAll f (blocksP (f.rows.take k) N++List.replicate t r)).up≤17179869184):=qh fun t ht=>by
        have h1:=dAll_stz f (blocksP (f.rows.take k) N++List.replicate t r);have h2:=dAll_up f Hk.out.s0 (blocksP (f.rows.take k) N++List.replicate t r);rw[List.length_append,List.length_replicate] at h1 h2;omega
      have HpT:Hid (∀t,t<timesR N r→(dStep f (dAll f (blocksP (f.rows.take k) N++List.replicate t r)) r).out<+:demandsP f N):=qh fun t ht=>by
        have e:blocksP f.rows N=(blocksP (f.rows.take k) N++List.replicate t r++[r])++(List.replicate (timesR N r-t-1) r++cs0):=by
          rw[Hcs.out,Hbt.out]
          have:List.replicate (timesR N r) r=List.replicate t r++([r]++List.replicate (timesR N r-t-1) r):=by
            rw[show [r]=List.replicate 1 r from rfl,List.replicate_append_replicate,List.replicate_append_replicate];congr 1
            omega
          rw[this];simp only[List.append_assoc]
        unfold demandsP;rw[e,←dAll_snoc];exact dAll_pre f _ _
      have HnT:Hid (∀t,dAll f (blocksP (f.rows.take k) N++List.replicate (t+1) r)=dStep f (dAll f (blocksP (f.rows.take k) N++List.replicate t r)) r):=qh fun t=>by
        rw[List.replicate_succ',←List.append_assoc,dAll_snoc]
      have Hend:Hid (dAll f (blocksP (f.rows.take k) N++List.replicate (timesR N r) r)=dAll f (blocksP (f.rows.take (k+1)) N)):=qh (by rw[Hbt.out]);clear hcnt hlen0;have hS0:dAll f (blocksP (f.rows.take k) N++List.replicate 0 r)=dAll f (blocksP (f.rows.take k) N):=(by simp);rw[←hS0] at hEn⊢;clear hS0;generalize (blocksP (f.rows.take k) N)=bs at*;generalize hT:timesR N r=T at*;unfold timesR at hT;go_upto_if 30 with(fail)
      go_cut [9] from 30 to 31 (fun v9 wx=>v9=.int .i64 (T:Int)∧wx=wr)
      case first=>
        cases hrr:r.round with
        |true=>
         have hT2:(N:Int)=(T:Int):=(by rw[hrr] at hT;simp at hT;omega);go_wp2_with fail;go_meet
         exact⟨by rw[hT2],rfl⟩
        |false=>
         have hT2:(1:Int)=(T:Int):=(by rw[hrr] at hT;simp at hT;omega);go_wp2_with fail;go_meet
         exact⟨by rw[hT2],rfl⟩
      case rest=>
        obtain⟨rfl,rfl⟩:=hcut;clear hT;go_wp2_with fail;clear k0 k1 p1 p3 p7;go_loopw [5,6,7,10] (fun t5 t6 t7 q wr=>∃(t:Nat) (xs:List YD) (A:Option Addr) (c:Nat),t≤T∧q=.int .i64 t∧t5=.slice A xs.length c∧t6=.int .i64 (dAll f (bs++List.replicate t r)).stz∧t7=.int .i64 (dAll f (bs++List.replicate t r)).up∧Hid (xs.map YD.d=(dAll f (bs++List.replicate t r)).out)∧Hid (DmsM wr W1.heap.size (.slice A xs.length c) xs)∧Hid (Below W1.heap.size W1 wr)) (fun _ _ _ q _=>T-(intOf q).toNat)
        case atStart=>exact⟨0,xs,A,c,Nat.zero_le _,rfl,rfl,rfl,rfl,hEn,hD,hb⟩
        case round=>
          clear hEn hD hb;rename World=>wr2
          obtain⟨t,xs2,A2,c2,ht,rfl,rfl,rfl,rfl,hEn2,hD2,hb2⟩:=hrel;obtain⟨p1,p3,p7⟩:=HB.out wr2 hb2.out;by_cases hlt2:t<T
          · have hbd:=HbT.out t (by omega)
            have Hpr:=qh (HpT.out t hlt2);have Hnx:=qh (HnT.out t);have hln:=Hpr.out.length_le;have htot:=Htot.out;generalize hS:dAll f (bs++List.replicate t r)=S at*
            have hln2:S.out.length+r.items.length≤(demandsP f N).length:=by
              unfold dStep at hln;simpa [dRow_len] using hln
            have hln3:S.out.length+r.items.length≤33554432:=(by omega);clear hS hln htot hln2;go_wp2_with fail;go_loopw [5,11] (fun t5 q wr=>∃(j:Nat) (xs:List YD) (A:Option Addr) (c:Nat),j≤r.items.length∧q=.int .i64 j∧t5=.slice A xs.length c∧Hid (xs.map YD.d=S.out++dRow f.letters S.stz S.up S.out.length (r.items.take j))∧Hid (DmsM wr W1.heap.size (.slice A xs.length c) xs)∧Hid (Below W1.heap.size W1 wr)) (fun _ q _=>r.items.length-(intOf q).toNat)
            case atStart=>exact⟨0,xs2,A2,c2,Nat.zero_le _,rfl,rfl,qh (by simpa [dRow] using hEn2.out),hD2,hb2⟩
            case round=>
              clear hEn2 hD2 hb2 p1 p3 p7;rename World=>wr3
              obtain⟨j,xs3,A3,c3,hj,rfl,rfl,hEn3,hD3,hb3⟩:=hrel;obtain⟨p1,p3,p7⟩:=HB.out wr3 hb3.out;obtain⟨k0,k1,vms,hits⟩:=HRow.out wr3 hb3.out;obtain⟨Ai,ci,hvi⟩:=zab hits.o;rw[hvi] at k1 hits;by_cases hlt3:j<r.items.length
              · obtain⟨g2,rfl,q0,q1,q2,q3⟩:=hits.at hlt3
                have hms:=hits.m j hlt3;have hms2:=hms;unfold MksM at hms2;obtain⟨Ak,ck,hvk⟩:=zab hms2;rw[hvk] at q2 hms;have hxm:r.items.getD j It0∈r.items:=(by rw[List.getD_eq_getElem?_getD,List.getElem?_eq_getElem hlt3];exact qM hlt3);have hxok:=Hit.out _ hxm;have Htk:=qh (dRow_take f.letters S.stz S.up S.out.length r.items j hlt3)
                have hls:xs3.length=S.out.length+j:=by
                  have:=congrArg List.length hEn3.out;rw[List.length_map,List.length_append,dRow_len,List.length_take_of_le (by omega)] at this;exact this
                have Hxok:=qh hxok;have Hms:=qh hms;clear hxm hms hms2 hits;generalize r.items.getD j It0=x at q0 q1 q2 q3 hxok Htk Hxok Hms;go_wp2_with fail;have hb5:Below wr3.heap.size wr3 ((wr3.alloc (.cells #[.int .i64 x.cls,.int .i64 x.ref,.slice Ak x.marks.length ck,.int .i64 x.at_] 99)).alloc (.cells #[.int .i64 S.stz,.int .i64 0,.int .i64 0,.int .i64 (-1),.int .i64 0,.int .i64 (-1),.int .i64 (-1),.slice none 0 0,.int .i32 0] 45)):=((qb _ _).alloc (ql _) _).alloc (by simp) _;have hx5:((wr3.alloc (.cells #[.int .i64 x.cls,.int .i64 x.ref,.slice Ak x.marks.length ck,.int .i64 x.at_] 99)).alloc (.cells #[.int .i64 S.stz,.int .i64 0,.int .i64 0,.int .i64 (-1),.int .i64 0,.int .i64 (-1),.int .i64 (-1),.slice none 0 0,.int .i32 0] 45)).heap[wr3.heap.size]?=some (.cells #[.int .i64 x.cls,.int .i64 x.ref,.slice Ak x.marks.length ck,.int .i64 x.at_] 99 (0,0)):=(qa _ _ _ (by simp)).trans (qn wr3 _);have hd5:=qn (wr3.alloc (.cells #[.int .i64 x.cls,.int .i64 x.ref,.slice Ak x.marks.length ck,.int .i64 x.at_] 99)) (.cells #[.int .i64 S.stz,.int .i64 0,.int .i64 0,.int .i64 (-1),.int .i64 0,.int .i64 (-1),.int .i64 (-1),.slice none 0 0,.int .i32 0] 45);rw[World.size_alloc] at hd5;generalize ((wr3.alloc (.cells #[.int .i64 x.cls,.int .i64 x.ref,.slice Ak x.marks.length ck,.int .i64 x.at_] 99)).alloc (.cells #[.int .i64 S.stz,.int .i64 0,.int .i64 0,.int .i64 (-1),.int .i64 0,.int .i64 (-1),.int .i64 (-1),.slice none 0 0,.int .i32 0] 45))=W5 at hb5 hx5 hd5⊢;obtain⟨xb,hxb⟩:∃b:Nat,wr3.heap.size=b:=⟨_,rfl⟩;have Hsz3:=qh hxb;have hb5':=hb5;rw[hxb] at hx5 hd5⊢;have x0:=qc _ _ 0 _ _ (0,0) hx5;have x1:=qc _ _ 1 _ _ (0,0) hx5;have d1:=qc _ _ 1 _ _ (0,0) hd5;have d2:=qc _ _ 2 _ _ (0,0) hd5;have z1:=qf _ _ 1 _ _ hd5;have z2:=qf _ _ 2 _ _ hd5;have HM0:=qh (RLM.start (w3:=wr3) (W5:=W5) (xb:=xb) (x:=x) (Ak:=Ak) (ck:=ck) S.stz hb5' hxb hx5 hd5);clear k0 k1 q0 q1 q2 q3 p1 p3 p7 hb5 hb5' hx5 hd5 hxb hvi hvk;have HM1:Hid (RLM wr3 xb x Ak ck ⟨S.stz,x.cls,x.ref,-1,0,-1,-1,[],0⟩ ((W5.setCell ⟨xb+1,1,none⟩ (.int .i64 x.cls)).setCell ⟨xb+1,2,none⟩ (.int .i64 x.ref)).drew):=qh (((HM0.out.put 1 (.int .i64 x.cls) ⟨S.stz,x.cls,0,-1,0,-1,-1,[],0⟩ rfl (fun _ _=>rfl)).put 2 (.int .i64 x.ref) ⟨S.stz,x.cls,x.ref,-1,0,-1,-1,[],0⟩ rfl (fun _ _=>rfl)).below (zc3 (qb _ _) 1));have hcl:=hxok.cl;have hls2:xs3.length≤33554432:=(by omega);have Hls:=qh hls;clear hls;clear HM0 hxok;go_region;generalize World.drew _=W6 at HM1⊢;obtain⟨A1,c1,hd1,ho1⟩:=HM1.out.d;have x0:=qc _ _ 0 _ _ (0,0) HM1.out.x;have d1:W6.cell? ⟨xb+1,1,none⟩=some (.int .i64 x.cls):=qc _ _ 1 _ _ (0,0) hd1;have z1:=qf _ _ 1 _ _ hd1;clear hd1 ho1;go_upto_if 69 with(fail)
                go_cut [70] from 69 to 75 (fun v70 wx=>Hid (RLM wr3 xb x Ak ck (dmI x S.stz S.up) wx))
                case first=>
                  by_cases hc0:0≤x.cls
                  · have g1:decide (x.cls≥0)=true:=qt hc0
                    have hw1:IntKind.i64.wrap (x.cls+S.up)=x.cls+S.up:=qi _ (by omega);have HM:=qh (HM1.out.put 1 (.int .i64 (x.cls+S.up)) (dmI x S.stz S.up) rfl (fun _ _=>by unfold dmI;rw[if_pos hc0];rfl));go_wp2_with fail;go_meet
                    exact HM
                  · have g1:decide (x.cls≥0)=false:=qd hc0
                    have e:dmI x S.stz S.up=⟨S.stz,x.cls,x.ref,-1,0,-1,-1,[],0⟩:=(by unfold dmI;rw[if_neg hc0]);go_wp2_with fail;go_meet
                    rw[e];exact HM1
                case rest=>
                    have HM:=hcut;clear hcut HM1 x0 d1 z1;go_wp2_with fail;go_loopw [14] (fun q wr=>∃p:Nat,p≤x.marks.length∧q=.int .i64 p∧Hid (RLM wr3 xb x Ak ck ((x.marks.take p).foldl (stepM f.letters (xs3.length:Int)) (dmI x S.stz S.up)) wr)) (fun q _=>x.marks.length-(intOf q).toNat)
                    case atStart=>exact⟨0,Nat.zero_le _,rfl,HM⟩
                    case round=>
                      clear HM;rename World=>wr4
                      obtain⟨p,hp,rfl,hM⟩:=hrel;have hml:=marks_len Hxok.out;have hMx:=hM.out.x;have x2:=qc _ _ 2 _ _ (0,0) hMx;by_cases hlt4:p<x.marks.length
                      · obtain⟨g3,hA3,hg3,s0,s1,s2⟩:=Hms.out.row hlt4
                        subst hA3;have s0:=(hM.out.b.cell (p:=⟨g3,p*3,none⟩) hg3).trans s0;have s1:=(hM.out.b.cell (p:=⟨g3,p*3+1,none⟩) hg3).trans s1;have s2:=(hM.out.b.cell (p:=⟨g3,p*3+2,none⟩) hg3).trans s2;have hmm:x.marks.getD p Mk0∈x.marks:=(by rw[List.getD_eq_getElem?_getD,List.getElem?_eq_getElem hlt4];exact qM hlt4);have hmk:=Hxok.out.mks _ hmm
                        have Htk4:Hid ((x.marks.take (p+1)).foldl (stepM f.letters (xs3.length:Int)) (dmI x S.stz S.up)=stepM f.letters (xs3.length:Int) ((x.marks.take p).foldl (stepM f.letters (xs3.length:Int)) (dmI x S.stz S.up)) (x.marks.getD p Mk0)):=qh (by
                          rw[List.take_succ_eq_append_getElem hlt4,List.foldl_append];simp[List.getD_eq_getElem?_getD,hlt4])
                        have hh4:((x.marks.take p).foldl (stepM f.letters (xs3.length:Int)) (dmI x S.stz S.up)).has.length≤100:=by
                          rw[fold_has];have h4:=Hxok.out.four;rw[←zfL] at h4
                          have h5:(zau (x.marks.take p)).length≤(zau x.marks).length:=by
                            unfold zau;rw[List.length_map,List.length_map];exact((List.take_sublist p x.marks).filter _).length_le
                          simp[dmI];omega
                        generalize (x.marks.take p).foldl (stepM f.letters (xs3.length:Int)) (dmI x S.stz S.up)=d at hM Htk4 hh4;generalize x.marks.getD p Mk0=m at s0 s1 s2 hmk Htk4;clear hmm hMx;obtain⟨sg,n,at_⟩:=m;simp only[] at s0 s1 s2;have hsg:=hmk.sg;have hlt9:=hmk.lt;have hnm:=hmk.nm;simp only[] at hsg hlt9 hnm;have hn512:1≤n∧n≤512:=(by omega);have hwn:IntKind.i64.wrap ((xs3.length:Int)-n)=(xs3.length:Int)-n:=qi _ (by omega);have hb6:Below wr4.heap.size wr4 (wr4.alloc (.cells #[.int .u8 sg,.int .i64 n,.int .i64 at_] 101)):=(qb _ _).alloc (ql _) _;have hm6:(wr4.alloc (.cells #[.int .u8 sg,.int .i64 n,.int .i64 at_] 101)).heap[wr4.heap.size]?=some (.cells #[.int .u8 sg,.int .i64 n,.int .i64 at_] 101 (0,0)):=qn wr4 _;have HM6:=qh (RMM.start (hM.out.below hb6) hm6);have m0:=qc _ _ 0 _ _ (0,0) hm6;have m1:=qc _ _ 1 _ _ (0,0) hm6;clear hb6 hm6 hM hmk hlt9 hnm;go_upto_if 95 with(fail)
                        generalize wr4.alloc _=W7 at HM6 m0 m1⊢;generalize wr4.heap.size=mb at HM6 m0 m1⊢;clear x2 s0 s1 s2;obtain⟨d1,hd1⟩:∃e:Dm,e=if sg=58 then{d with met:=metK f.letters n d.met f.letters.length} else d:=⟨_,rfl⟩
                        have Hd1:=qh hd1;clear hd1;go_cut [17] from 95 to 113 (fun v17 wx=>Hid (RMM wr3 xb x (some ⟨g3,0,none⟩) ck d1 mb sg n at_ wx))
                        case first=>
                          by_cases e58:sg=58
                          · have hbb:(sg==58)=true:=by simpa using e58
                            have Hd1':Hid (d1={d with met:=metK f.letters n d.met f.letters.length}):=qh (by rw[Hd1.out,if_pos e58]);have E58:=qh e58;clear e58;go_wp2_with fail;simp only[hbb];go_loopw [17] (fun q wr5=>∃z:Nat,z≤f.letters.length∧q=.int .i64 z∧Hid (RMM wr3 xb x (some ⟨g3,0,none⟩) ck {d with met:=metK f.letters n d.met z} mb sg n at_ wr5)) (fun q _=>f.letters.length-(intOf q).toNat)
                            case atStart=>exact⟨0,Nat.zero_le _,rfl,HM6⟩
                            case round=>
                              clear HM6 m0 m1;rename World=>wr5
                              obtain⟨z,hz,rfl,hR⟩:=hrel;have hbw:=hb3.out.trans (hR.out.r.b.mono hb3.out.size);have p1:=(HB.out wr5 hbw).1;have m1:=qc _ _ 1 _ _ (0,0) hR.out.m;have hlet:=Hlet.out;by_cases hlt5:z<f.letters.length
                              · obtain⟨gl,rfl,l0⟩:=letr_at (HL.out wr5 hbw) rfl hlt5
                                obtain⟨A5,c5,hd5,_⟩:=hR.out.r.d;have k3:=qc _ _ 3 _ _ (0,0) hd5;have y3:=qf _ _ 3 _ _ hd5;have hmet:metK f.letters n d.met (z+1)=if((f.letters.getD z 0).toNat:Int)=n then(z:Int) else metK f.letters n d.met z:=rfl
                                have hlb:0≤((f.letters.getD z 0).toNat:Int)∧((f.letters.getD z 0).toNat:Int)<256:=⟨by omega,by have:=UInt8.toNat_lt (f.letters.getD z 0);omega⟩;generalize ((f.letters.getD z 0).toNat:Int)=lt at l0 hmet hlb;have hw64:wrap64 lt=lt:=(by unfold wrap64;omega);clear hlb;clear hd5 hbw;by_cases e2:lt=n
                                · have hb2:(lt==n)=true:=by simpa using e2
                                  have HF:Hid (RMM wr3 xb x (some ⟨g3,0,none⟩) ck {d with met:=metK f.letters n d.met (z+1)} mb sg n at_ ((wr5.setCell ⟨xb+1,3,none⟩ (.int .i64 (z:Int))).drew)):=qh (by
                                    rw[hmet,if_pos e2];have h:=hR.out.put 3 (.int .i64 (z:Int)) {d with met:=(z:Int)} rfl (fun _ _=>rfl);exact⟨h.r.below (zc3 (qb _ _) 1),h.m⟩)
                                  clear hmet e2;go_wp2_with fail;go_region;go_wp2_with fail;go_roundw
                                  case rel=>exact⟨z+1,by omega,by go_num,HF⟩
                                  case measure=>simp[intOf];omega
                                · have hb2:(lt==n)=false:=by simpa using e2
                                  have HF:Hid (RMM wr3 xb x (some ⟨g3,0,none⟩) ck {d with met:=metK f.letters n d.met (z+1)} mb sg n at_ (wr5.drew)):=qh (by
                                    rw[hmet,if_neg e2];exact⟨hR.out.r.below (zc3 (qb _ _) 1),hR.out.m⟩)
                                  clear hmet e2;go_wp2_with fail;go_region;go_wp2_with fail;go_roundw
                                  case rel=>exact⟨z+1,by omega,by go_num,HF⟩
                                  case measure=>simp[intOf];omega
                              · obtain rfl:z=f.letters.length:=by omega
                                go_wp2_with fail;go_meet
                                rw[Hd1'.out];exact hR
                          · have hbb:(sg==58)=false:=by simpa using e58
                            have Hd1':Hid (d1=d):=qh (by rw[Hd1.out,if_neg e58]);clear e58;go_wp2_with fail;go_meet
                            rw[Hd1'.out];exact HM6
                        case rest=>
                        have hc1:=hcut;clear hcut m0 m1 HM6;rename World=>w2
                        have m0:=qc _ _ 0 _ _ (0,0) hc1.out.m;have m1:=qc _ _ 1 _ _ (0,0) hc1.out.m;obtain⟨A2x,c2x,hr2,ho2⟩:=hc1.out.r.d;have ko:=qc _ _ 4 _ _ (0,0) hr2;have yo:=qf _ _ 4 _ _ hr2;clear hr2 ho2;obtain⟨d2,hd2⟩:∃e:Dm,e=if sg=47 then{d1 with syl:=n} else d1:=⟨_,rfl⟩
                        have Hd2:=qh hd2;clear hd2;go_upto_if 116 with(fail)
                        go_cut [114] from 114 to 119 (fun v114 wx=>Hid (RMM wr3 xb x (some ⟨g3,0,none⟩) ck d2 mb sg n at_ wx))
                        case first=>
                          by_cases eS:sg=47
                          · have hbb:(sg==47)=true:=by simpa using eS
                            have Hdd:Hid (d2={d1 with syl:=n}):=qh (by rw[Hd2.out,if_pos eS]);clear eS;have HF:=qh (hc1.out.put 4 (.int .i64 n) {d1 with syl:=n} rfl (fun _ _=>rfl));go_wp2_with fail;go_meet
                            rw[Hdd.out];exact HF
                          · have hbb:(sg==47)=false:=by simpa using eS
                            have Hdd:Hid (d2=d1):=qh (by rw[Hd2.out,if_neg eS]);clear eS;go_wp2_with fail;go_meet
                            rw[Hdd.out];exact hc1
                        case rest=>
                        have hc2:=hcut;clear hcut m0 m1 ko yo hc1;rename World=>w3
                        have m0:=qc _ _ 0 _ _ (0,0) hc2.out.m;have m1:=qc _ _ 1 _ _ (0,0) hc2.out.m;obtain⟨A3x,c3x,hr3,ho3⟩:=hc2.out.r.d;have ko:=qc _ _ 5 _ _ (0,0) hr3;have yo:=qf _ _ 5 _ _ hr3;clear hr3 ho3;obtain⟨d3,hd3⟩:∃e:Dm,e=if sg=94 then{d2 with same:=(xs3.length:Int)-n} else d2:=⟨_,rfl⟩
                        have Hd3:=qh hd3;clear hd3;go_upto_if 122 with(fail)
                        go_cut [120] from 120 to 124 (fun v120 wx=>Hid (RMM wr3 xb x (some ⟨g3,0,none⟩) ck d3 mb sg n at_ wx))
                        case first=>
                          by_cases eS:sg=94
                          · have hbb:(sg==94)=true:=by simpa using eS
                            have Hdd:Hid (d3={d2 with same:=(xs3.length:Int)-n}):=qh (by rw[Hd3.out,if_pos eS]);clear eS;have HF:=qh (hc2.out.put 5 (.int .i64 ((xs3.length:Int)-n)) {d2 with same:=(xs3.length:Int)-n} rfl (fun _ _=>rfl));go_wp2_with fail;go_meet
                            rw[Hdd.out];exact HF
                          · have hbb:(sg==94)=false:=by simpa using eS
                            have Hdd:Hid (d3=d2):=qh (by rw[Hd3.out,if_neg eS]);clear eS;go_wp2_with fail;go_meet
                            rw[Hdd.out];exact hc2
                        case rest=>
                        have hc3:=hcut;clear hcut m0 m1 ko yo hc2;rename World=>w4
                        have m0:=qc _ _ 0 _ _ (0,0) hc3.out.m;have m1:=qc _ _ 1 _ _ (0,0) hc3.out.m;obtain⟨A4x,c4x,hr4,ho4⟩:=hc3.out.r.d;have ko:=qc _ _ 6 _ _ (0,0) hr4;have yo:=qf _ _ 6 _ _ hr4;clear hr4 ho4;obtain⟨d4,hd4⟩:∃e:Dm,e=if sg=64 then{d3 with ends:=(xs3.length:Int)-n} else d3:=⟨_,rfl⟩
                        have Hd4:=qh hd4;clear hd4;go_upto_if 127 with(fail)
                        go_cut [125] from 125 to 129 (fun v125 wx=>Hid (RMM wr3 xb x (some ⟨g3,0,none⟩) ck d4 mb sg n at_ wx))
                        case first=>
                          by_cases eS:sg=64
                          · have hbb:(sg==64)=true:=by simpa using eS
                            have Hdd:Hid (d4={d3 with ends:=(xs3.length:Int)-n}):=qh (by rw[Hd4.out,if_pos eS]);clear eS;have HF:=qh (hc3.out.put 6 (.int .i64 ((xs3.length:Int)-n)) {d3 with ends:=(xs3.length:Int)-n} rfl (fun _ _=>rfl));go_wp2_with fail;go_meet
                            rw[Hdd.out];exact HF
                          · have hbb:(sg==64)=false:=by simpa using eS
                            have Hdd:Hid (d4=d3):=qh (by rw[Hd4.out,if_neg eS]);clear eS;go_wp2_with fail;go_meet
                            rw[Hdd.out];exact hc3
                        case rest=>
                        have hc4:=hcut;clear hcut m0 m1 ko yo hc3;rename World=>w5
                        have m0:=qc _ _ 0 _ _ (0,0) hc4.out.m;have m1:=qc _ _ 1 _ _ (0,0) hc4.out.m;obtain⟨A5x,c5x,hr5,ho5⟩:=hc4.out.r.d;have k7:w5.cell? ⟨xb+1,7,none⟩=some (.slice A5x d4.has.length c5x):=qc _ _ 7 _ _ (0,0) hr5;have Hr5:=qh hr5;have Ho5:=qh ho5;have hbw3:wr3.heap.size≤w5.heap.size:=hc4.out.r.b.size;have hl4:d4.has.length≤100:=(by rw[chain_has Hd1.out Hd2.out Hd3.out Hd4.out];exact hh4);clear hr5 ho5;obtain⟨d5,hd5⟩:∃e:Dm,e=if sg=126 then{d4 with has:=d4.has++[(xs3.length:Int)-n]} else d4:=⟨_,rfl⟩
                        have Hd5:=qh hd5;clear hd5;go_upto_if 132 with(fail)
                        go_cut [130] from 130 to 138 (fun v130 wx=>Hid (RMM wr3 xb x (some ⟨g3,0,none⟩) ck d5 mb sg n at_ wx))
                        case first=>
                          by_cases eS:sg=126
                          · have hbb:(sg==126)=true:=by simpa using eS
                            have Hdd:Hid (d5={d4 with has:=d4.has++[(xs3.length:Int)-n]}):=qh (by rw[Hd5.out,if_pos eS]);clear eS;have Hst:=qh (fun v5 w5 ho hg=>hc4.out.has (v5:=v5) (w5:=w5) Hr5.out Ho5.out ((xs3.length:Int)-n) ho hg);go_wp2_with (at_builtin;go_loud (refine zae w5 rfl _ _ 43 rfl wr3.heap.size 3 _ _ 1 8 Tryz.underlying43 zlM zlN zlO zjx rfl (by decide) (.slice A5x d4.has.length c5x) d4.has.length (intC d4.has) #[.int .i64 ((xs3.length:Int)-n)] w5.heap.size rfl rfl rfl Ho5.out rfl (by intro u hu;simp at hu;subst hu;rfl) (by unfold maxLen;omega) (by omega) hbw3 ?_;intro v5 w5 hown5 hgr5 hl5;obtain⟨d5',f5',HF5⟩:=Hst.out v5 w5 hown5 hgr5;obtain⟨g5,cap5,rfl⟩:=zak hown5 (by omega);clear hown5 hgr5 hl5));go_meet
                            rw[Hdd.out];exact HF5
                          · have hbb:(sg==126)=false:=by simpa using eS
                            have Hdd:Hid (d5=d4):=qh (by rw[Hd5.out,if_neg eS]);clear eS;go_wp2_with fail;go_meet
                            rw[Hdd.out];exact hc4
                        case rest=>
                        have hc5:=hcut;clear hcut m0 m1 k7 hbw3 hl4 hc4;rename World=>w6
                        have m0:=qc _ _ 0 _ _ (0,0) hc5.out.m;have m1:=qc _ _ 1 _ _ (0,0) hc5.out.m;obtain⟨A6x,c6x,hr6,ho6⟩:=hc5.out.r.d;have ko:=qc _ _ 8 _ _ (0,0) hr6;have yo:=qf _ _ 8 _ _ hr6;clear hr6 ho6;have Hch:=qh (fun(d6:Dm) (h6:d6=if sg=39 then{d5 with beg:=n} else d5)=>(step_chain (at_:=at_) (line:=(xs3.length:Int)) (letters:=f.letters) hsg Hd1.out Hd2.out Hd3.out Hd4.out Hd5.out h6).1);by_cases eS:sg=39
                        · have hbb:(sg==39)=true:=by simpa using eS
                          have HF:=qh (hc5.out.put 8 (.int .i32 n) {d5 with beg:=n} rfl (fun _ _=>rfl));have HE:=qh (Hch.out {d5 with beg:=n} (by rw[if_pos eS]));clear eS;go_wp2_with fail;go_roundw
                          case rel=>exact⟨p+1,by omega,by go_num,qh (by rw[Htk4.out,HE.out];exact HF.out.r)⟩
                          case measure=>simp[intOf];omega
                        · have hbb:(sg==39)=false:=by simpa using eS
                          have HE:=qh (Hch.out d5 (by rw[if_neg eS]));clear eS;go_wp2_with fail;go_roundw
                          case rel=>exact⟨p+1,by omega,by go_num,qh (by rw[Htk4.out,HE.out];exact hc5.out.r)⟩
                          case measure=>simp[intOf];omega
                      · obtain rfl:p=x.marks.length:=by omega
                        rw[List.take_length] at hM;obtain⟨A9,c9,hr9,ho9⟩:=hM.out.d;have hdd:x.marks.foldl (stepM f.letters (xs3.length:Int)) (dmI x S.stz S.up)=demandP f.letters x ((S.out.length+j:Nat):Int) S.stz S.up:=(by rw[fold_dm _ _ _ Hxok.out Hk.out.nd,Hls.out]);rw[hdd] at hr9 ho9;have hbw:=hb3.out.trans (hM.out.b.mono hb3.out.size);have hD9:=hD3.out.kT (KeepT.of_below [] hM.out.b) (by simp) (by simp);have hW9:W1.heap.size≤wr4.heap.size:=hbw.size;have ho9':=zaT ho9 hb3.out.size
                        have h4:(demandP f.letters x ((S.out.length+j:Nat):Int) S.stz S.up).has.length≤4:=by
                          show((zau x.marks).map _).length≤4;rw[List.length_map,zfL];exact Hxok.out.four
                        have Htk2:=Htk;generalize demandP f.letters x ((S.out.length+j:Nat):Int) S.stz S.up=dd at hr9 ho9 ho9' h4 Htk2;have Hst:=qh (fun v5 w5 ho hg=>hD9.push (v5:=v5) (w5:=w5) (x:=⟨0,dd,.slice A9 dd.has.length c9⟩) ⟨ho9',h4⟩ ho hg);have Hgr:=qh (fun(w5:World) (hg:wr4.grownBy w5 (Value.slice A3 xs3.length c3).ownBlock)=>hbw.grown hg hbw.size (fun b e=>(hD9.o.lt b e).1));unfold dmC at hr9;have b0:=qc _ _ 0 _ _ (0,0) hr9;have b1:=qc _ _ 1 _ _ (0,0) hr9;have b2:=qc _ _ 2 _ _ (0,0) hr9;have b3:=qc _ _ 3 _ _ (0,0) hr9;have b4:=qc _ _ 4 _ _ (0,0) hr9;have b5:=qc _ _ 5 _ _ (0,0) hr9;have b6:=qc _ _ 6 _ _ (0,0) hr9;have b7:=qc _ _ 7 _ _ (0,0) hr9;have b8:=qc _ _ 8 _ _ (0,0) hr9;have HoD:=qh hD9.o;have Hen:Hid ((xs3++[(⟨0,dd,.slice A9 dd.has.length c9⟩:YD)]).map YD.d=S.out++dRow f.letters S.stz S.up S.out.length (r.items.take (j+1))):=qh (by rw[List.map_append,hEn3.out,Htk2.out,List.append_assoc];rfl);clear hr9 ho9 ho9' hD9 hbw hM hMx hdd;simp only[dmC] at Hst;go_wp2_with (at_builtin;go_loud (refine zae wr4 rfl _ _ 36 rfl W1.heap.size 45 _ _ 9 88 Tryz.underlying36 infoDm zeroDm sizeDm bytesDm rfl (by decide) (.slice A3 xs3.length c3) xs3.length (ydC xs3) #[.int .i64 dd.stz,.int .i64 dd.cls,.int .i64 dd.ref,.int .i64 dd.met,.int .i64 dd.syl,.int .i64 dd.same,.int .i64 dd.ends,.slice A9 dd.has.length c9,.int .i32 dd.beg] wr4.heap.size rfl rfl rfl HoD.out rfl (by intro u hu;simp at hu;rcases hu with rfl|rfl|rfl|rfl|rfl|rfl|rfl|rfl|rfl<;>rfl) (by unfold maxLen;omega) (by omega) hW9 ?_;intro v5 w5 hown5 hgr5 hl5;have HF5:=qh (Hst.out v5 w5 hown5 hgr5);have HB5:=qh (Hgr.out w5 hgr5);obtain⟨g5,cap5,rfl⟩:=zak hown5 (by omega);clear hown5 hgr5 hl5));go_roundw
                        case rel=>exact⟨j+1,_,some ⟨g5,0,none⟩,cap5,by omega,by go_num,by rw[List.length_append,List.length_singleton],Hen,by rw[List.length_append,List.length_singleton];exact HF5,HB5⟩
                        case measure=>simp[intOf];omega
              · obtain rfl:j=r.items.length:=by omega
                rw[List.take_length] at hEn3;have hs0:=Hk.out.s0;have e1:(dAll f (bs++List.replicate (t+1) r)).out=S.out++dRow f.letters S.stz S.up S.out.length r.items:=(by rw[Hnx.out];rfl);have e2:(dAll f (bs++List.replicate (t+1) r)).stz=S.stz+1:=(by rw[Hnx.out];rfl);have e3:(dAll f (bs++List.replicate (t+1) r)).up=if r.round then S.up+f.shift else S.up:=by rw[Hnx.out];rfl
                have E1:=qh e1;have E2:=qh e2;have E3:=qh e3;clear e1 e2 e3 hits;cases hrr:r.round with
                |true=>
                 rw[hrr] at k0 E3;simp only[if_true] at E3;go_wp2_with fail;go_roundw
                 case rel=>exact⟨t+1,xs3,A3,c3,by omega,by go_num,rfl,by rw[E2.out],by rw[E3.out],qh (by rw[E1.out];exact hEn3.out),hD3,hb3⟩
                 case measure=>simp[intOf];omega
                |false=>
                 rw[hrr] at k0 E3;simp only[Bool.false_eq_true,if_false] at E3;go_wp2_with fail;go_roundw
                 case rel=>exact⟨t+1,xs3,A3,c3,by omega,by go_num,rfl,by rw[E2.out],by rw[E3.out],qh (by rw[E1.out];exact hEn3.out),hD3,hb3⟩
                 case measure=>simp[intOf];omega
          · obtain rfl:t=T:=by omega
            rw[Hend.out] at hEn2⊢;have hrows:=Hrows.out;go_wp2_with fail;go_roundw
            case rel=>exact⟨k+1,xs2,A2,c2,by omega,by go_num,rfl,rfl,rfl,hEn2,hD2,hb2⟩
            case measure=>simp[intOf];omega
    · obtain rfl:k=f.rows.length:=by omega
      go_wp2_with fail;go_ret;refine⟨Hb1.out.trans (hb.out.mono Hb1.out.size),_,xs,rfl,?_,⟨zaT hD.out.o Hb1.out.size,fun x hx=>⟨zaT (hD.out.h x hx).1 Hb1.out.size,(hD.out.h x hx).2⟩⟩⟩;have h:=hEn.out;rw[List.take_length] at h;exact h

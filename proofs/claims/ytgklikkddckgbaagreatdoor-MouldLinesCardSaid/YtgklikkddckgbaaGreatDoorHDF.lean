import Derived.Test.YtgklikkddckgbaaGreatDoorHDE
/- Lemmas of the claim. -/
set_option linter.all false
namespace Go.Proofs.YtgklikkddckgbaaGreatDoor
open Go.RowKit
theorem zak {w:World} {base:Nat} {e:TypeId} {size:Nat} {v:Value} {n:Nat} {xs:List Value} (h:w.ownsRow base e size v n xs) (hn:0<n):
  ∃g cap,v=.slice (some ⟨g,0,none⟩) n cap:=by
 rcases h.2 with⟨_,h0⟩|⟨g,cap,_,rfl,_⟩
 ·omega
 ·exact⟨g,cap,rfl⟩
theorem zkJ {sg:ByteArray} {c:Int} {all:Bool} {f:Ft} (h:(!all||!(eqS f.own sg))=true):layF sg c all f=⟨f.own,f.ways++[(sg,c)]⟩:=by
 unfold layF;rw[if_pos h]
theorem zlK {sg:ByteArray} {c:Int} {all:Bool} {f:Ft} (h:(!all||!(eqS f.own sg))=false):layF sg c all f=f:=by
 unfold layF;rw[if_neg (by rw[h];simp)]
set_option maxRecDepth 100000 in
set_option maxHeartbeats 8000000 in
theorem zlL {w:World} {base b a g cap:Nat} {s t:ByteArray} {m:Met} {ah:Int} {ve vb:Value} {vs:List Value} (h:RS w base b s a t m ah (.slice (some ⟨g,0,none⟩) m.feet.length cap) ve vb vs)
  (i n c:Nat) (hin:i+n≤m.feet.length) (h16:m.feet.length≤16) (h15:∀k,k<m.feet.length→(m.feet.getD k default).ways.length≤15) (sg:ByteArray) (cost:Int) (all:Bool):
  Calls Tryz.prog 173 #[.slice (some ⟨g,i*2,none⟩) n c,.agg #[.string sg,.int .i64 cost],.bool all] w fun e w'=>e=.returned (.tuple #[])∧
   ∃vs',RS w' base b s a t {m with feet:=layR m.feet i n sg cost all} ah (.slice (some ⟨g,0,none⟩) m.feet.length cap) ve vb vs'∧Below base w w':=by
 have hst:=LayRel.start h i sg cost all;have hgw:g<w.heap.size:=(h.feet.lt g rfl).2;have Hst:=qh hst;have Hgw:=qh hgw;clear hst h;go_enter Tryz.func173,Tryz.ntmps173;go_wp2_with fail;go_loopw [10] (fun q wr=>∃(k:Nat) (vs':List Value),k≤n∧q=.int .i64 k∧LayRel w base b s a t m ah (.slice (some ⟨g,0,none⟩) m.feet.length cap) ve vb i sg cost all k vs' wr) (fun q _=>n-(intOf q).toNat)
 case atStart=>exact⟨0,vs,by omega,rfl,Hst.out⟩
 case round=>
  rename_i wr;obtain⟨k,vs',hk,rfl,hr⟩:=hrel;by_cases hlt:k<n
  ·have hik:i+k<m.feet.length:=(by omega);have hlen:(layR m.feet i k sg cost all).length=m.feet.length:=za5 _ _ _ _ _ _ (by omega);have hh:=zcb m.feet i k sg cost all hik;have hcl:=zcr (layR m.feet i k sg cost all) vs' (i+k) hr.rs.vl (by rw[hlen];exact hik);rw[hh] at hcl;have hfe:=hr.rs.feet;simp only[hlen] at hfe;have hz:=hfe.frozenAt ((i+k)*2+1);have e1:(i+k)*2=i*2+k*2:=(by omega);have hc1:=(hfe.cellAt ((i+k)*2) (by omega)).trans hcl.1;have hc2:=(hfe.cellAt ((i+k)*2+1) (by omega)).trans hcl.2;have hwv:=hr.rs.ways (i+k) (by simpa [hlen] using hik);simp only[hh] at hwv;have hl15:=h15 (i+k) hik;have hgs:g<wr.heap.size:=(hfe.lt g rfl).2;have hxb:wr.cell? ⟨w.heap.size,0,none⟩=some (.string sg):=qc _ _ _ _ 83 (0,0) hr.box;have hxc:wr.cell? ⟨w.heap.size,1,none⟩=some (.int .i64 cost):=qc _ _ _ _ 83 (0,0) hr.box;have hxs:w.heap.size<wr.heap.size:=(qg hr.box).1;have hbw:base≤wr.heap.size:=(by have:=hr.rs.bl;have:=hr.rs.hb;omega);have Hyes:=qh fun(hf:(!all||!(eqS (m.feet.getD (i+k) default).own sg))=true)=>fun(w0 w1:World) (v':Value) hb ho hg hat=>hr.step (w0:=w0) (w1:=w1) (v':=v') hik rfl (zkJ hf) hb ho hg hat Hgw.out;have Hno:=qh fun(hf:(!all||!(eqS (m.feet.getD (i+k) default).own sg))=false)=>fun(w':World) hb=>hr.skip (wr':=w') hik (zlK hf) hb;rw[e1] at hc1 hc2 hz Hyes;obtain⟨A,cc,hve,hcc,hiw⟩:=zds hwv;have Hrow:=qh hwv;have Hneq:Hid ((vs'.getD (i+k) nilV).ownBlock=none∨(vs'.getD (i+k) nilV).ownBlock≠some g):=qh (by
    have:=zaP hwv hfe (by decide);simpa [Value.ownBlock] using this)
   clear hr hfe hcl hh hlen hwv hiw e1;generalize vs'.getD (i+k) nilV=V at*;subst hve;generalize hfq:m.feet.getD (i+k) default=f at*;clear hfq;obtain⟨own,ways⟩:=f;simp only[] at hc1 hc2 hl15 hcc Hyes Hno Hrow Hneq;have hbx:Below wr.heap.size wr (wr.alloc (.cells #[.string own,.slice A ways.length cc] 81)):=(qb _ wr).alloc (ql _) _;have Hbx:=qh hbx;have Hblk:Hid (∀w1:World,(wr.alloc (.cells #[.string own,.slice A ways.length cc] 81)).grownBy w1 (Value.slice A ways.length cc).ownBlock→w1.heap[g]?=wr.heap[g]?):=qh fun w1 hg1=>
    (hg1.block g (by have:=hbx.size;omega) (by rcases Hneq.out with e|e;· rw[e];simp
                                               ·exact fun e'=>e e'.symm)).trans (hbx.block g hgs)
   have Hzc:=qh fun(w1:World) hg1=>And.intro ((World.frozen?_of_block (w:=wr) (w':=w1) (a:=⟨g,i*2+k*2+1,none⟩) (Hblk.out w1 hg1)).trans hz) ((qw (w:=wr) (w':=w1) (a:=⟨g,i*2+k*2+1,none⟩) (Hblk.out w1 hg1)).trans hc2);clear hbx;cases hy:(!all||!(eqS own sg)) with
   |false=>
    have Hn:=qh (Hno.out hy);have h2:all=true∧eqS own sg=true:=by cases all<;>cases hq:eqS own sg<;>simp[hq] at hy⊢
    obtain⟨rfl,hq⟩:=h2;unfold eqS at hq;clear hy Hyes Hno;go_wp2_with fail;go_roundw
    case rel=>exact⟨k+1,vs',by omega,by go_num,Hn.out _ Hbx.out⟩
    case measure=>simp[intOf];omega
   |true=>
    have Hy:=qh (Hyes.out hy);have h2:all=false∨(all=true∧eqS own sg=false):=by cases all<;>cases hq:eqS own sg<;>simp[hq] at hy⊢
    clear Hyes Hno hy;rcases h2 with rfl|⟨rfl,hq⟩
    ·go_wp2_with (at_builtin;go_loud (refine zae _ rfl _ _ 76 rfl base 83 _ _ 2 24 Tryz.underlying76 zeA zeB zeC zdu rfl (by decide) (.slice A ways.length cc) ways.length (zaf ways) _ _ rfl rfl ?c0 (by exact(Hrow.out).alloc _) rfl ?c1 ?c2 ?c3 ?c4 ?_;rotate_right;intro v1 w1 hown1 hg1 hat1;obtain⟨g1,cap1,rfl⟩:=zak hown1 (by omega);obtain⟨hz1,hc3⟩:=Hzc.out _ hg1;have Hfin:=qh (Hy.out _ _ _ Hbx.out hown1 hg1 hat1);clear hown1 hg1 hat1))
     case c0=>simp
     case c1=>exact⟨rfl,rfl⟩
     case c2=>unfold maxLen;omega
     case c3=>omega
     case c4=>have:=Hbx.out.size;omega
     go_roundw
     case rel=>exact⟨k+1,_,by omega,by go_num,Hfin.out⟩
     case measure=>simp[intOf];omega
    ·unfold eqS at hq;go_wp2_with (at_builtin;go_loud (refine zae _ rfl _ _ 76 rfl base 83 _ _ 2 24 Tryz.underlying76 zeA zeB zeC zdu rfl (by decide) (.slice A ways.length cc) ways.length (zaf ways) _ _ rfl rfl ?c0 (by exact(Hrow.out).alloc _) rfl ?c1 ?c2 ?c3 ?c4 ?_;rotate_right;intro v1 w1 hown1 hg1 hat1;obtain⟨g1,cap1,rfl⟩:=zak hown1 (by omega);obtain⟨hz1,hc3⟩:=Hzc.out _ hg1;have Hfin:=qh (Hy.out _ _ _ Hbx.out hown1 hg1 hat1);clear hown1 hg1 hat1))
     case c0=>simp
     case c1=>exact⟨rfl,rfl⟩
     case c2=>unfold maxLen;omega
     case c3=>omega
     case c4=>have:=Hbx.out.size;omega
     go_roundw
     case rel=>exact⟨k+1,_,by omega,by go_num,Hfin.out⟩
     case measure=>simp[intOf];omega
  ·obtain rfl:k=n:=by omega
   have Hr:=qh hr;clear hr;go_wp2_with fail;go_end0;exact⟨rfl,vs',Hr.out.rs,Hr.out.below⟩
variable {w w1 w':World} {base b a:Nat} {s t:ByteArray} {m:Met} {ah:Int} {vf ve vb:Value} {vs:List Value}
theorem RB.put3 (h:RB w b s a t vf ve vb ah) (v:Value):RB (w.setCell ⟨b,3,none⟩ v) b s a t v ve vb ah:=qs w b 3 _ 210 v h
theorem RB.put4 (h:RB w b s a t vf ve vb ah) (v:Value):RB (w.setCell ⟨b,4,none⟩ v) b s a t vf v vb ah:=qs w b 4 _ 210 v h
theorem RB.put5 (h:RB w b s a t vf ve vb ah) (v:Value):RB (w.setCell ⟨b,5,none⟩ v) b s a t vf ve v ah:=qs w b 5 _ 210 v h
theorem RB.put6 (h:RB w b s a t vf ve vb ah) (v:Int):RB (w.setCell ⟨b,6,none⟩ (.int .i64 v)) b s a t vf ve vb v:=qs w b 6 _ 210 _ h
theorem zaN (w:World) (b o:Nat) (v:Value):w.grownBy (w.setCell ⟨b,o,none⟩ v) (some b):=zaV (zb4 w _) (.inl rfl) _
theorem zdv {α:Type} (l:List α) (x d:α) (k:Nat) (hk:k<l.length):(l++[x]).getD k d=l.getD k d:=by simp[List.getD_eq_getElem?_getD,List.getElem?_append_left hk]
theorem zdw {α:Type} (l:List α) (x d:α):(l++[x]).getD l.length d=x:=by simp[List.getD_eq_getElem?_getD]
theorem RS.foot (h:RS w base b s a t m ah vf ve vb vs) {own:ByteArray} {v':Value} (ho:w1.ownsRow base 81 2 v' (m.feet.length+1) (zaD m.feet vs++[.string own,nilV])) (hg:w.grownBy w1 vf.ownBlock):
  RS (w1.setCell ⟨b,3,none⟩ v') base b s a t {m with feet:=m.feet++[zcn own]} ah v' ve vb (vs++[nilV]):=by
 have hne:vf.ownBlock≠some b:=by rcases zac h.feet h.rb (by decide) with e|e;· rw[e];simp
                                 ·exact e
 have r1:RB w1 b s a t vf ve vb ah:=(hg.block b h.bl (fun e=>hne e.symm)).trans h.rb;have g2:=zaN w1 b 3 v';have hvl:=h.vl;have wk:∀k,k<m.feet.length→(w1.setCell ⟨b,3,none⟩ v').ownsRow base 83 2 (vs.getD k nilV) (m.feet.getD k default).ways.length (zaf (m.feet.getD k default).ways):=fun k hk=>by
  have o1:=(h.ways k hk).kept hg (zaP (h.ways k hk) h.feet (by decide));exact o1.kept g2 (zac o1 r1 (by decide))
 have e1:=h.ends.kept hg (zaP h.ends h.feet (by decide));have k1:=h.brks.kept hg (zaP h.brks h.feet (by decide));refine⟨r1.put3 v',h.hb,by simp[hvl],?_,?_,e1.kept g2 (zac e1 r1 (by decide)),k1.kept g2 (zac k1 r1 (by decide)),?_⟩
 ·have e:zaD (m.feet++[zcn own]) (vs++[nilV])=zaD m.feet vs++[.string own,nilV]:=zcJ _ _ _ _ hvl;simp only[List.length_append,List.length_cons,List.length_nil];rw[e];exact ho.kept g2 (zac ho r1 (by decide))
 ·intro k hk;simp only[List.length_append,List.length_cons,List.length_nil] at hk;by_cases e:k<m.feet.length
  ·simp only[];rw[zdv _ _ _ _ (by omega),zdv _ _ _ _ e];exact wk k e
  ·obtain rfl:k=m.feet.length:=by omega
   simp only[];rw[zdw];have:(vs++[nilV]).getD m.feet.length nilV=nilV:=(by rw[←hvl];exact zdw _ _ _);rw[this];exact World.ownsRow_nil _ _ _ _
 ·exact h.apart.snoc (v:=nilV) rfl
theorem RS.end_ (h:RS w base b s a t m ah vf ve vb vs) {x:Way} {v':Value} (ho:w1.ownsRow base 83 2 v' (m.ends.length+1) (zaf m.ends++[.string x.1,.int .i64 x.2])) (hg:w.grownBy w1 ve.ownBlock)
  (hat:v'.ownBlock=ve.ownBlock∨∃N,v'.ownBlock=some N∧w.heap.size≤N):
  RS (w1.setCell ⟨b,4,none⟩ v') base b s a t {m with ends:=m.ends++[x]} ah vf v' vb vs:=by
 have hne:ve.ownBlock≠some b:=by rcases zac h.ends h.rb (by decide) with e|e;· rw[e];simp
                                 ·exact e
 have r1:RB w1 b s a t vf ve vb ah:=(hg.block b h.bl (fun e=>hne e.symm)).trans h.rb;have g2:=zaN w1 b 4 v';have hvl:=h.vl;have wk:∀k,k<m.feet.length→(w1.setCell ⟨b,4,none⟩ v').ownsRow base 83 2 (vs.getD k nilV) (m.feet.getD k default).ways.length (zaf (m.feet.getD k default).ways):=fun k hk=>by
  have ha:(vs.getD k nilV).ownBlock=none∨(vs.getD k nilV).ownBlock≠ve.ownBlock:=by
   cases hv:(vs.getD k nilV).ownBlock with
   |none=>exact .inl rfl
   |some q=>
    right;intro e;exact h.apart (k+1) 0 q (by simp;omega) (by simp) (by omega) (by rw[za7];exact hv) (by simpa using e.symm)
  have o1:=(h.ways k hk).kept hg ha;exact o1.kept g2 (zac o1 r1 (by decide))
 have f1:=h.feet.kept hg (zaP h.feet h.ends (by decide));have k1:=h.brks.kept hg (zaP h.brks h.ends (by decide));refine⟨r1.put4 v',h.hb,hvl,f1.kept g2 (zac f1 r1 (by decide)),wk,?_,k1.kept g2 (zac k1 r1 (by decide)),?_⟩
 ·simp only[List.length_append,List.length_cons,List.length_nil,zbH];exact ho.kept g2 (zac ho r1 (by decide))
 ·have hA:Apart ((ve::vs).set 0 v'):=by
   rcases hat with hat|⟨N,hN,hle⟩
   ·exact h.apart.set (by simp) (N:=w.heap.size) h.blocks (.inl (by simpa using hat))
   ·exact h.apart.set (by simp) (N:=N) (fun k q hk hq=>Nat.lt_of_lt_of_le (h.blocks k q hk hq) hle) (.inr hN)
  simpa using hA
theorem RS.brk (h:RS w base b s a t m ah vf ve vb vs) {x:Int×Int} {v':Value} (ho:w1.ownsRow base 85 2 v' (m.brks.length+1) (zaL m.brks++[.int .i64 x.1,.int .i64 x.2])) (hg:w.grownBy w1 vb.ownBlock):
  RS (w1.setCell ⟨b,5,none⟩ v') base b s a t {m with brks:=m.brks++[x]} ah vf ve v' vs:=by
 have hne:vb.ownBlock≠some b:=by rcases zac h.brks h.rb (by decide) with e|e;· rw[e];simp
                                 ·exact e
 have r1:RB w1 b s a t vf ve vb ah:=(hg.block b h.bl (fun e=>hne e.symm)).trans h.rb;have g2:=zaN w1 b 5 v';have wk:∀k,k<m.feet.length→(w1.setCell ⟨b,5,none⟩ v').ownsRow base 83 2 (vs.getD k nilV) (m.feet.getD k default).ways.length (zaf (m.feet.getD k default).ways):=fun k hk=>by
  have o1:=(h.ways k hk).kept hg (zaP (h.ways k hk) h.brks (by decide));exact o1.kept g2 (zac o1 r1 (by decide))
 have f1:=h.feet.kept hg (zaP h.feet h.brks (by decide));have e1:=h.ends.kept hg (zaP h.ends h.brks (by decide));refine⟨r1.put5 v',h.hb,h.vl,f1.kept g2 (zac f1 r1 (by decide)),wk,e1.kept g2 (zac e1 r1 (by decide)),?_,h.apart⟩;simp only[List.length_append,List.length_cons,List.length_nil,zdr];exact ho.kept g2 (zac ho r1 (by decide))
def Cur (s:ByteArray) (L:List Tok):Prop:=∃p,p≤s.size∧L=toks s p
theorem Cur.adv {s:ByteArray} {L:List Tok} (h:Cur s L):Cur s (adv L):=by
 obtain⟨p,hp,rfl⟩:=h;exact⟨_,(zef hp).1,(zef hp).2.symm⟩
theorem Cur.size {s:ByteArray} {L:List Tok} (h:Cur s L):(hd L).2.size≤s.size:=by
 obtain⟨p,hp,rfl⟩:=h;exact zlB s hp
theorem za8 {L:List Tok} (h:RS w base b s (hd L).1 (hd L).2 m ah vf ve vb vs) (hL:Cur s L) (hs:s.size≤65536):
  Calls Tryz.prog 142 #[.pointer (some ⟨b,0,none⟩)] w fun e w'=>e=.returned (.tuple #[])∧RS w' base b s (hd (adv L)).1 (hd (adv L)).2 m ah vf ve vb vs∧w.grownBy w' (some b):=by
 obtain⟨p,hp,rfl⟩:=hL;obtain⟨h1,h2⟩:=zef (s:=s) hp;refine(zhT b (hd (toks s p)).1 s (hd (toks s p)).2 vf ve vb ah w h.rb h1 (by omega)).mono ?_;rintro e w' ⟨rfl,hr,hg⟩;refine⟨rfl,h.move hg ?_,hg⟩;rw[←h2,zfD h1];exact hr
theorem za9 (h:RS w base b s a t m ah vf ve vb vs) (hg:w.grownBy w' (some b)):Below base w w':=
 (qb base w).grown hg (by have:=h.bl;have:=h.hb;omega) (fun k e=>by cases e;exact h.hb)
theorem RS.bs (h:RS w base b s a t m ah vf ve vb vs):base≤w.heap.size:=by have:=h.bl;have:=h.hb;omega
end Go.Proofs.YtgklikkddckgbaaGreatDoor
namespace Go.Proofs.YtgklikkddckgbaaGreatDoor.Mo
open Go.RowKit
theorem zlM:Tryz.prog.info? 3=some Tryz.t3:=by kernel_rfl
theorem zlN:Tryz.t3.zero=some (.int .i64 0):=by kernel_rfl
theorem zlO:Tryz.t3.size=1:=by kernel_rfl
theorem zjx:Tryz.t3.bytes=8:=by kernel_rfl
theorem has_any (ms:List Mk) (v:Int):ms.any (fun m=>m.sign==126&&m.n==v)=(zau ms).any (fun n=>n==v):=by
 unfold zau;induction ms with
 |nil=>rfl
 |cons m l ih=>
  rw[List.any_cons,ih,List.filter_cons];by_cases h:(m.sign==126)=true
  ·rw[if_pos h,List.map_cons,List.any_cons,h,Bool.true_and]
  ·rw[if_neg h];simp only[Bool.not_eq_true] at h;rw[h];simp
def zkK (ms:List Mk) (i:Nat) (r:Except (Int×Nat) (Int×Nat)):Except (Int×Nat) (Mk×Nat):=match r with
 |.error e=>.error e
 |.ok (v,e)=>if(zau ms).any (fun n=>n==v) then .error (2,i+1) else .ok (⟨126,v,i⟩,e)
theorem zgu {s:ByteArray} {letters:List UInt8} {ms:List Mk} {i:Nat} (h:isB s i 126=true):
  za0 s letters ms i=if 4≤zaC ms 126 then .error (180,i) else zkK ms i (numP s 1 (i+1)):=by
 unfold za0;rw[h,zbD h (by decide:(126:Int)≠58),zbD h (by decide:(126:Int)≠39),zdp h];by_cases hk:4≤zaC ms 126
 ·rw[if_pos (by simpa using hk),if_pos hk]
 ·rw[if_neg (by simpa using hk),if_neg hk];unfold zkK;cases numP s 1 (i+1) with
  |error e=>rfl
  |ok ve=>
   obtain⟨v,e⟩:=ve;simp only[has_any];rfl
theorem zlP {letters:List UInt8} {cls ref:Int} {ms:List Mk} {a:Nat} {vh vh':Value} {v:Int} {i:Nat}:
  itC letters cls ref (ms++[⟨126,v,i⟩]) a vh'=((itC letters cls ref ms a vh).setIfInBounds 10 (.int .i64 (if zai ms<0 then(i:Int) else zai ms))).setIfInBounds 7 vh':=by
 unfold itC;rw[zew (by decide:(126:Int)≠58),zbE (c:=58) (by decide:(126:Int)≠58),zbE (c:=47) (by decide:(126:Int)≠47),zbE (c:=94) (by decide:(126:Int)≠94),zbE (c:=64) (by decide:(126:Int)≠64),zbE (c:=39) (by decide:(126:Int)≠39),zfJ _ rfl,zbh,zbh];simp
theorem zdO {w:World} {B:Nat} {v:Value} {l:List Int} (h:w.ownsRow B 3 1 v l.length (intC l)):∃A c,v=.slice A l.length c∧l.length≤c∧(0<l.length→∃g,A=some ⟨g,0,none⟩∧g<w.heap.size∧∀k,k<l.length→w.cell? ⟨g,k,none⟩=some (.int .i64 (l.getD k 0))):=by
 rcases h.2 with⟨rfl,h0⟩|⟨g,cap,cur,rfl,_,hg,hcap,_⟩
 ·rw[h0];exact⟨none,0,rfl,ql _,fun hl=>by omega⟩
 ·refine⟨_,cap,rfl,hcap,fun _=>⟨g,rfl,(qg hg).1,fun k hk=>?_⟩⟩;rw[h.cellAt k (by omega)];unfold intC;simp[List.getD_eq_getElem?_getD,hk]
set_option maxRecDepth 100000 in
theorem zhm (B rb fb xb:Nat) (s:ByteArray) (i:Nat) (letters:List UInt8) (cls ref:Int) (ms:List Mk) (a:Nat) (vh:Value) (w:World) (h:Rd w rb fb s i) (hx:ItM w B xb letters cls ref ms a vh) (hs:isB s i 126=true) (hv:Vars w) (h9:9≤rb) (h9x:9≤xb):
  Calls Tryz.prog 185 #[.pointer (some ⟨rb,0,none⟩),.pointer (some ⟨xb,0,none⟩)] w (zca B rb fb xb s letters cls ref ms a vh (za0 s letters ms i) w):=by
 rw[zgu (letters:=letters) (ms:=ms) hs];have hi:=zbr hs;obtain⟨hne,hsp⟩:=hx.sep h;have hxl:xb<w.heap.size:=(qg hx.x).1;have hxB:=hx.hB;have hlen:=zfL ms;have h4:=hx.four;obtain⟨Ah,ch,rfl,hch,hrow⟩:=zdO hx.h;have xf:w.cell? ⟨xb,7,none⟩=some (.slice Ah (zau ms).length ch):=qc _ _ 7 _ _ (0,0) hx.x;have Hx:=qh hx;have Hv:=qh hv;have Hon:=qh (fun(b:Bool)=>zcI rb fb xb s i b ms (itC letters cls ref ms a (.slice Ah (zau ms).length ch)) w h hi hx.x rfl hne);clear h hx hv hs;by_cases h4':4≤zaC ms 126
 ·rw[if_pos h4'];have hd:(((zau ms).length:Int)==4)=true:=by
   have:((zau ms).length:Int)=4:=(by omega);simpa using this
  have hc:=qh (Hon.out true);clear Hon h4 h4' hlen;go_enter Tryz.func185,Tryz.ntmps185;go_wp2_with fail;refine hc.out.mono ?_;rintro e w2 ⟨ho,he⟩;rw[if_pos rfl] at he;subst he;exact⟨rfl,ho.mono (fun k hk=>.inl (by simp at hk⊢;omega)),rfl⟩
 ·rw[if_neg h4'];have hd:(((zau ms).length:Int)==4)=false:=by
   have:¬((zau ms).length:Int)=4:=(by omega);simpa using this
  have hc:=qh (Hon.out false);have H4:=qh h4';have Hlen:=qh hlen;have hl4:(zau ms).length≤4:=by omega
  generalize hR:zkK ms i (numP s 1 (i+1))=R;have HR:=qh hR;clear Hon h4 h4' hlen hR;go_enter Tryz.func185,Tryz.ntmps185;go_wp2_with fail;refine hc.out.mono ?_;rintro e w2 ⟨ho,he⟩;rw[if_neg (by simp)] at he;obtain⟨rfl,hrd,hx2⟩:=he;obtain⟨r0,r1,r2,r3⟩:=hrd.cells;have Hnum:=qh (zcq rb fb s (i+1) 1 w2 hrd (Vars.off Hv.out ho (by simp;exact⟨h9,h9x⟩)) h9 (by decide) (by decide));have Ho:=qh ho;have Hx2:=qh hx2;have hxl2:xb<w2.heap.size:=by have:=ho.size;omega
  clear hrd ho hx2 xf hc;go_wp2_with fail;refine Hnum.out.mono ?_;rintro e w3 ⟨ho3,hres⟩;have hx3:=(ho3.block xb hxl2 (by simp;omega)).trans Hx2.out;have hoo:Off [rb,xb] w w3:=Ho.out.trans (ho3.mono (fun k hk=>.inl (by simp at hk⊢;exact .inl hk)));clear r0 r1 r2 r3;cases hN:numP s 1 (i+1) with
  |error ep=>
   obtain⟨c,p⟩:=ep;rw[hN] at hres;have hR2:R=.error (c,p):=(by rw[←HR.out,hN];rfl);subst hres;refine⟨rfl,hoo.mono (fun k hk=>.inl (by simp at hk⊢;omega)),?_⟩;rw[hR2];rfl
  |ok vj=>
   obtain⟨v,j⟩:=vj;rw[hN] at hres;have HR1:Hid (R=if(zau ms).any (fun n=>n==v) then .error (2,i+1) else .ok (⟨126,v,i⟩,j)):=qh (by rw[←HR.out,hN];rfl);obtain⟨rfl,hrd3⟩:=hres;have hbd:=zey hN;have x7:w3.cell? ⟨xb,7,none⟩=some (.slice Ah (zau ms).length ch):=qc _ _ 7 _ _ (0,0) hx3;have z7:=qf _ _ 7 _ _ hx3;have Hx3:=qh hx3;have Hoo:=qh hoo;have Hrd3:=qh hrd3;have Hbd:=qh hbd;have hs3:w.heap.size≤w3.heap.size:=hoo.size;clear hx3 hoo hrd3 hbd hN ho3;generalize hh:zau ms=has at*;have Hh:=qh hh;clear hh;go_wp2_with fail;go_loopw [28] (fun q wr=>∃k:Nat,k≤has.length∧q=.int .i64 k∧Hid ((has.take k).any (fun n=>n==v)=false)∧wr=w3) (fun q _=>has.length-(intOf q).toNat)
   case atStart=>exact⟨0,Nat.zero_le _,rfl,qh rfl,rfl⟩
   case round=>
    obtain⟨k,hk,rfl,hno,rfl⟩:=hrel;by_cases hlt:k<has.length
    ·obtain⟨g,rfl,hgs,hcells⟩:=hrow (by omega);have hgk:=hsp g rfl;have hck:=(Hoo.out.cell (b:=g) (o:=k) hgs (by simp;exact hgk)).trans (hcells k hlt);have htk:has.take (k+1)=has.take k++[has.getD k 0]:=by
      rw[List.take_succ_eq_append_getElem hlt];simp[List.getD_eq_getElem?_getD,hlt]
     have Htk:=qh htk;have Hmem:Hid (has.getD k 0∈has):=qh (by rw[List.getD_eq_getElem?_getD,List.getElem?_eq_getElem hlt];exact qM hlt);clear hcells hgk htk;generalize has.getD k 0=n at*;cases heq:(n==v) with
     |true=>
      have HR2:Hid (R=.error (2,i+1)):=qh (by rw[HR1.out,if_pos (List.any_eq_true.2 ⟨n,Hmem.out,heq⟩)]);have hf:=qh (fail_any 2 (i+1) wr);go_wp2_with fail;refine hf.out.mono ?_;rintro e w5 ⟨rfl,hb5⟩;refine⟨rfl,(Hoo.out.trans (Off.of_below hb5 (ql _) _)).mono (fun k hk=>.inl (by simp at hk⊢;omega)),?_⟩;rw[HR2.out];rfl
     |false=>
      have Hno2:Hid ((has.take (k+1)).any (fun n=>n==v)=false):=qh (by rw[Htk.out,List.any_append,hno.out];simp[heq]);go_wp2_with fail;go_roundw
      case rel=>exact⟨k+1,by omega,by go_num,Hno2,by first|rfl|trivial⟩
      case measure=>simp[intOf];omega
    ·obtain rfl:k=has.length:=by omega
     have HR2:Hid (R=.ok (⟨126,v,i⟩,j)):=qh (by rw[HR1.out,if_neg (by have:=hno.out;rw[List.take_length] at this;rw[this];simp)]);clear hrow;have Hown:Hid (wr.ownsRow B 3 1 (.slice Ah has.length ch) has.length (intC has)):=qh (by
      have:=Hoo.out.own Hx.out.h (fun k hk=>by have:=hsp k hk;simp;exact this);rw[Hh.out] at this;exact this)
     have Hmid:Hid (∀(v5:Value) (w5:World),w5.ownsRow B 3 1 v5 (has.length+1) (intC has++[.int .i64 v])→wr.grownBy w5 (Value.slice Ah has.length ch).ownBlock→(v5.ownBlock=(Value.slice Ah has.length ch).ownBlock∨∃b,v5.ownBlock=some b∧wr.heap.size≤b)→
       w5.cell? ⟨xb,7,none⟩=some (.slice Ah has.length ch)∧w5.frozen? ⟨xb,7,none⟩=false∧Hid (zca B rb fb xb s letters cls ref ms a (.slice Ah has.length ch) R w (.returned (.tuple #[])) (w5.setCell ⟨xb,7,none⟩ v5))):=qh (by
      intro v5 w5 hown5 hgr5 hl5;have hxw:xb<wr.heap.size:=(by have:=Hoo.out.size;omega);have hg5:Off (Value.slice Ah has.length ch).ownBlock.toList wr w5:=Off.grown hgr5 (fun k hk=>by simp[hk]);have hnx:xb∉(Value.slice Ah has.length ch).ownBlock.toList:=by
       intro hm;have hm2:(Value.slice Ah has.length ch).ownBlock=some xb:=(by simpa using hm);exact(hsp xb hm2).2 rfl
      have hnr:rb∉(Value.slice Ah has.length ch).ownBlock.toList:=by
       intro hm;have hm2:(Value.slice Ah has.length ch).ownBlock=some rb:=(by simpa using hm);exact(hsp rb hm2).1 rfl
      have hx5:=(hg5.block xb hxw hnx).trans Hx3.out;have hx6:=qs w5 xb 7 _ _ v5 hx5;rw[←zlP (v:=v) (i:=i)] at hx6;have hos:Off [xb] w5 (w5.setCell ⟨xb,7,none⟩ v5):=Off.setCell w5 xb 7 _;have hv5x:∀k,v5.ownBlock=some k→k≠xb:=by
       intro k hk e;rcases hl5 with e5|⟨b,e5,hb⟩
       ·rw[e5] at hk;exact(hsp k hk).2 e
       ·rw[e5] at hk;cases hk;omega
      refine⟨qc _ _ 7 _ _ (0,0) hx5,qf _ _ 7 _ _ hx5,qh ⟨?_,?_⟩⟩
      ·refine(Hoo.out.mono (fun k hk=>.inl (by simp at hk⊢;omega))).trans ((hg5.mono (fun k hk=>.inl (by simp at hk⊢;exact .inr (.inr hk)))).trans (hos.mono (fun k hk=>.inl (by simp at hk⊢;exact .inr (.inl hk)))))
      ·rw[HR2.out];refine⟨rfl,(Hrd3.out.off hg5 hnr).off hos (by simp;exact hne),v5,⟨hx6,?_,?_,?_,hxB⟩,?_⟩
       ·rw[zlH ms rfl,Hh.out];have:=hos.own hown5 (fun k hk=>by simp;exact hv5x k hk);rw[List.length_append,List.length_singleton];have e:intC (has++[v])=intC has++[.int .i64 v]:=(by simp[intC]);rw[e];exact this
       ·intro m hm;rcases List.mem_append.1 hm with hm|hm
        ·exact Hx.out.ok m hm
        ·obtain rfl:m=⟨126,v,i⟩:=by simpa using hm
         exact⟨.inr (.inr (.inr (.inr (.inl rfl)))),fun e=>by have e2:(126:Int)=58∨(126:Int)=39:=e;omega,fun _ _=>Hbd.out⟩
       ·have h4:=H4.out;have h5:zaC (ms++[⟨126,v,i⟩]) 126=zaC ms 126+1:=(by unfold zaC;rw[List.countP_append];rfl);rw[h5];omega
       ·rcases hl5 with e5|⟨b,e5,hb⟩
        ·exact .inl e5
        ·exact .inr ⟨b,e5,by omega⟩)
     have hBw:B≤wr.heap.size:=(by omega);go_wp2_with (at_builtin;go_loud (refine zae wr rfl _ _ 43 rfl B 3 _ _ 1 8 Tryz.underlying43 zlM zlN zlO zjx rfl (by decide) (.slice Ah has.length ch) has.length (intC has) #[.int .i64 v] wr.heap.size rfl rfl rfl Hown.out rfl (by intro u hu;simp at hu;subst hu;rfl) (by unfold maxLen;omega) (by omega) hBw ?_;intro v5 w5 hown5 hgr5 hl5;obtain⟨d7,f7,Hfin⟩:=Hmid.out v5 w5 hown5 hgr5 hl5;obtain⟨g5,cap5,rfl⟩:=zak hown5 (by omega);clear hown5 hgr5 hl5));refine bodyPost_end (results_none rfl _ _ _) rfl ?_;exact Hfin.out
def zfQ (c:UInt8):Nat:=if c=58 then 181 else if c=47 then 182 else if c=94 then 183 else if c=64 then 184 else if c=126 then 185 else 186
def zfR (s:ByteArray) (i rb:Nat):Value:=if i<s.size∧zd9 (zaa s i) then .func (.func (zfQ (zaa s i))) #[.pointer (some ⟨rb,0,none⟩)] #[] else .nilFunc
theorem zcV (c:UInt8):(zd9 c=true∧((c=58∧Lib.indexByte SIGNS c=0)∨(c=47∧Lib.indexByte SIGNS c=1)∨(c=94∧Lib.indexByte SIGNS c=2)∨(c=64∧Lib.indexByte SIGNS c=3)∨(c=126∧Lib.indexByte SIGNS c=4)∨(c=39∧Lib.indexByte SIGNS c=5)))∨(zd9 c=false∧Lib.indexByte SIGNS c<0):=by
 have h:∀n,n<256→(zd9 (UInt8.ofNat n)=true∧((UInt8.ofNat n=58∧Lib.indexByte SIGNS (UInt8.ofNat n)=0)∨(UInt8.ofNat n=47∧Lib.indexByte SIGNS (UInt8.ofNat n)=1)∨(UInt8.ofNat n=94∧Lib.indexByte SIGNS (UInt8.ofNat n)=2)∨(UInt8.ofNat n=64∧Lib.indexByte SIGNS (UInt8.ofNat n)=3)∨(UInt8.ofNat n=126∧Lib.indexByte SIGNS (UInt8.ofNat n)=4)∨(UInt8.ofNat n=39∧Lib.indexByte SIGNS (UInt8.ofNat n)=5)))∨(zd9 (UInt8.ofNat n)=false∧Lib.indexByte SIGNS (UInt8.ofNat n)<0):=by decide+kernel
 have:=h c.toNat c.toNat_lt;rw[UInt8.ofNat_toNat] at this;exact this
theorem zfS {P:Program} {f:FuncId} {args:Array Value} {w:World} {v:Value} (h:Calls P f args w fun e w'=>e=.returned v∧w'=w):Calls P f args w fun e w'=>e=.returned v∧w=w':=
 h.mono fun _ _ ⟨a,b⟩=>⟨a,b.symm⟩
def mkC (rb:Nat):Array Value:=#[.func (.func 181) #[.pointer (some ⟨rb,0,none⟩)] #[],.func (.func 182) #[.pointer (some ⟨rb,0,none⟩)] #[],.func (.func 183) #[.pointer (some ⟨rb,0,none⟩)] #[],.func (.func 184) #[.pointer (some ⟨rb,0,none⟩)] #[],.func (.func 185) #[.pointer (some ⟨rb,0,none⟩)] #[],.func (.func 186) #[.pointer (some ⟨rb,0,none⟩)] #[]]
set_option maxRecDepth 100000 in
set_option maxHeartbeats 4000000 in
theorem zkL (rb fb:Nat) (s:ByteArray) (i:Nat) (w:World) (h:Rd w rb fb s i):
  Calls Tryz.prog 151 #[.pointer (some ⟨rb,0,none⟩)] w fun e w'=>e=.returned (zfR s i rb)∧Below w.heap.size w w':=by
 have hsz:=h.sz;have hle:=h.le;have hrb:=h.lt;have hne0:rb≠w.heap.size:=by omega
 generalize hW1:w.alloc (.cells (mkC rb) 217)=W1;have hB1:Below w.heap.size w W1:=by rw[←hW1];exact(qb _ _).alloc (ql _) _
 have hr1:=h.below hB1;obtain⟨r0,r1,r2,r3⟩:=hr1.cells;rw[←hW1] at r0 r1 r2 r3;have HW1:=qh hW1;have HB1:=qh hB1;have HR1:=qh hr1;have hF1:=qn w (.cells (mkC rb) 217);rw[hW1] at hF1;have HF1:=qh hF1;unfold mkC at r0 r1 r2 r3 HW1 HF1;clear hF1;clear h hr1 hB1 hW1;by_cases hi:i<s.size
 ·have hne:((i:Int)==(s.size:Int))=false:=by
   have:¬((i:Int)=(s.size:Int)):=(by omega);simpa using this
  have Hby:=qh (zar hi);have Hv:Hid (zfR s i rb=if zd9 s[i] then .func (.func (zfQ s[i])) #[.pointer (some ⟨rb,0,none⟩)] #[] else .nilFunc):=qh (by unfold zfR;rw[Hby.out];by_cases hh:zd9 s[i]=true<;>simp[hh,hi]);have e1:∀c:UInt8,((c.toNat:Int)).toNat.toUInt8=c:=fun c=>by simp
  have Hix:Hid (∀W,Calls Tryz.prog 114 #[.string ⟨#[58,47,94,64,126,39]⟩,.int .u8 s[i].toNat] W fun e w'=>e=.returned (.int .i64 (Lib.indexByte SIGNS s[i]))∧w'=W):=qh (fun W=>(by
   have:=Tryz.strings_IndexByte ⟨SIGNS.toArray⟩ s[i].toNat W;rw[e1 s[i]] at this;exact this))
  rcases zcV s[i] with⟨hs,hcs⟩|⟨hs,hneg⟩
  ·rw[hs,if_pos rfl] at Hv;clear e1 hs;rcases hcs with⟨hc,hk⟩|⟨hc,hk⟩|⟨hc,hk⟩|⟨hc,hk⟩|⟨hc,hk⟩|⟨hc,hk⟩
   all_goals
    rw[hk] at Hix;rw[hc] at Hv;clear hc hk;go_enter Tryz.func151,Tryz.ntmps151;go_wp2_with fail;go_quiet (fail)
    rw[HW1.out];have hr2:=HR1.out.drewN nq;have hf2:(W1.drewN nq).heap[w.heap.size]?=_:=HF1.out;have hb2:=zad HB1.out nq;clear r0 r1 r2 r3;generalize W1.drewN nq=W2 at*;clear nq;obtain⟨r0,r1,r2,r3⟩:=hr2.cells;have k0:=qc _ _ 0 _ _ (0,0) hf2;have k1:=qc _ _ 1 _ _ (0,0) hf2;have k2:=qc _ _ 2 _ _ (0,0) hf2;have k3:=qc _ _ 3 _ _ (0,0) hf2;have k4:=qc _ _ 4 _ _ (0,0) hf2;have k5:=qc _ _ 5 _ _ (0,0) hf2;clear hf2 hr2;go_wp2_with fail;go_quiet ((go_at_call 114;exact Calls.quiet_of_same (Hix.out _)))
    go_wp2_with fail;go_ret;exact⟨by rw[Hv.out];rfl,zad hb2 _⟩
  ·rw[hs,if_neg (by simp)] at Hv;have hd:decide (0≤Lib.indexByte SIGNS s[i])=false:=qd (by omega);generalize Lib.indexByte SIGNS s[i]=n at*;clear e1 hs hneg;go_enter Tryz.func151,Tryz.ntmps151;go_wp2_with fail;go_quiet (fail)
   rw[HW1.out];have hr2:=HR1.out.drewN nq;have hf2:(W1.drewN nq).heap[w.heap.size]?=_:=HF1.out;have hb2:=zad HB1.out nq;clear r0 r1 r2 r3;generalize W1.drewN nq=W2 at*;clear nq;obtain⟨r0,r1,r2,r3⟩:=hr2.cells;have k0:=qc _ _ 0 _ _ (0,0) hf2;have k1:=qc _ _ 1 _ _ (0,0) hf2;have k2:=qc _ _ 2 _ _ (0,0) hf2;have k3:=qc _ _ 3 _ _ (0,0) hf2;have k4:=qc _ _ 4 _ _ (0,0) hf2;have k5:=qc _ _ 5 _ _ (0,0) hf2;clear hf2 hr2;go_wp2_with fail;go_quiet ((go_at_call 114;exact Calls.quiet_of_same (Hix.out _)))
   go_wp2_with fail;go_ret;exact⟨by rw[Hv.out];rfl,zad hb2 _⟩
 ·have hne:((i:Int)==(s.size:Int))=true:=by
   have:(i:Int)=(s.size:Int):=(by omega);simpa using this
  have Hv:Hid (zfR s i rb=.nilFunc):=qh (by unfold zfR;rw[if_neg (fun h=>hi h.1)]);go_enter Tryz.func151,Tryz.ntmps151;go_wp2_with fail;go_quiet (fail)
  go_wp2_with fail;go_ret;exact⟨by rw[Hv.out];rfl,by rw[HW1.out];exact zad HB1.out _⟩
def rwC:List Rw→List Value→List Value
 |r::rs,v::vs=>.bool r.round::v::rwC rs vs
 |_,_=>[]
theorem zhn:∀(rows:List Rw) (vis:List Value),vis.length=rows.length→(rwC rows vis).length=rows.length*2
 |[],vis,h=>by simp[rwC]
 |r::rs,[],h=>by simp at h
 |r::rs,v::vs,h=>by
  have:=zhn rs vs (by simpa using h);simp only[rwC,List.length_cons,this];omega
theorem zho:∀(rows:List Rw) (vis:List Value) (k:Nat),vis.length=rows.length→k<rows.length→(rwC rows vis)[k*2]?=some (.bool (rows.getD k ⟨false,[]⟩).round)∧(rwC rows vis)[k*2+1]?=some (vis.getD k .nilFunc)
 |[],vis,k,_,hk=>by simp at hk
 |r::rs,[],k,h,_=>by simp at h
 |r::rs,v::vs,0,h,_=>by simp[rwC]
 |r::rs,v::vs,k+1,h,hk=>by
  have ih:=zho rs vs k (by simpa using h) (by simpa using hk);have e1:(k+1)*2=k*2+1+1:=by omega
  rw[e1];simpa [rwC] using ih
theorem zfT:∀(rows:List Rw) (vis:List Value) (r:Rw) (v:Value),vis.length=rows.length→rwC (rows++[r]) (vis++[v])=rwC rows vis++[.bool r.round,v]
 |[],[],r,v,_=>by simp[rwC]
 |[],_::_,_,_,h=>by simp at h
 |_::_,[],_,_,h=>by simp at h
 |q::rs,u::vs,r,v,h=>by
  have ih:=zfT rs vs r v (by simpa using h);simp only[List.cons_append,rwC,ih]
structure RwM (w:World) (B:Nat) (vs:Value) (rows:List Rw) (vis:List Value):Prop where
 n:vis.length=rows.length
 o:w.ownsRow B 106 2 vs rows.length (rwC rows vis)
 it:∀k,k<rows.length→∃A c,vis.getD k .nilFunc=.slice A (rows.getD k ⟨false,[]⟩).items.length c
def totN (rows:List Rw):Nat:=(rows.map fun r=>r.items.length).sum
theorem zej (rows:List Rw) (k:Nat) (h:k<rows.length):totN (rows.take (k+1))=totN (rows.take k)+(rows.getD k ⟨false,[]⟩).items.length:=by
 unfold totN;rw[List.take_succ_eq_append_getElem h,List.map_append,List.sum_append];simp[List.getD_eq_getElem?_getD,h]
theorem zlk (rows:List Rw) (k:Nat):totN (rows.take k)≤totN rows:=by
 unfold totN;conv=>rhs;rw[←List.take_append_drop k rows,List.map_append,List.sum_append]
 omega
theorem zdx (rows:List Rw) (n:Int) (k:Nat) (h:k<rows.length):za6 (rows.take (k+1)) n=ziH n (za6 (rows.take k) n) (rows.getD k ⟨false,[]⟩):=by
 unfold za6;rw[List.take_succ_eq_append_getElem h,List.foldl_append];simp[List.getD_eq_getElem?_getD,h]
theorem zll {n:Int} {m:Nat} (h0:0≤n) (h1:n≤512):0≤n*(m:Int)∧n*(m:Int)≤512*(m:Int):=
 ⟨Int.mul_nonneg h0 (by omega),Int.mul_le_mul_of_nonneg_right h1 (by omega)⟩
theorem zhp (rows:List Rw) (n:Int) (h0:0≤n) (h1:n≤512):∀k,k≤rows.length→0≤za6 (rows.take k) n∧za6 (rows.take k) n≤512*(totN (rows.take k):Int)
 |0,_=>by simp[za6,totN]
 |k+1,hk=>by
  have ih:=zhp rows n h0 h1 k (by omega);rw[zdx rows n k (by omega),zej rows k (by omega)];have hm:=zll (m:=(rows.getD k ⟨false,[]⟩).items.length) h0 h1;unfold ziH;split
  ·push_cast;omega
  ·push_cast;omega
set_option maxRecDepth 100000 in
theorem zjy (B fb:Nat) (vs:Value) (rows:List Rw) (vis:List Value) (n:Int) (w:World) (hc:w.cell? ⟨fb,3,none⟩=some vs) (hm:RwM w B vs rows vis) (h0:0≤n) (h1:n≤512) (ht:totN rows≤65536) (hl:rows.length≤65536) (hfb:fb<w.heap.size):
  Calls Tryz.prog 36 #[.pointer (some ⟨fb,0,none⟩),.int .i64 n] w fun e w'=>e=.returned (.int .i64 (za6 rows n))∧Below w.heap.size w w':=by
 have Hm:=qh hm;have hfm:∃A c,vs=.slice A rows.length c∧rows.length≤c∧(0<rows.length→∃g,A=some ⟨g,0,none⟩∧g<w.heap.size∧∀k,k<rows.length→w.cell? ⟨g,k*2,none⟩=some (.bool (rows.getD k ⟨false,[]⟩).round)∧w.cell? ⟨g,k*2+1,none⟩=some (vis.getD k .nilFunc)):=by
  rcases hm.o.2 with⟨rfl,e0⟩|⟨g,cap,cur,rfl,_,hg,hcap,_⟩
  ·rw[e0];exact⟨none,0,rfl,ql _,fun h=>by omega⟩
  ·refine⟨_,cap,rfl,hcap,fun _=>⟨g,rfl,(qg hg).1,fun k hk=>?_⟩⟩;have hlen:=zhn rows vis hm.n;have hget:=zho rows vis k hm.n hk;exact⟨(hm.o.cellAt (k*2) (by omega)).trans hget.1,(hm.o.cellAt (k*2+1) (by omega)).trans hget.2⟩
 obtain⟨A,c,rfl,hcap,hrow⟩:=hfm;have Hsz:=qh (zhp rows n h0 h1);have Htl:=qh (zlk rows);clear hm;go_enter Tryz.func36,Tryz.ntmps36;go_wp2_with fail;go_loopw [5,13] (fun t q wr=>∃k:Nat,k≤rows.length∧q=.int .i64 k∧t=.int .i64 (za6 (rows.take k) n)∧Hid (Below w.heap.size w wr)) (fun _ q _=>rows.length-(intOf q).toNat)
 case atStart=>exact⟨0,Nat.zero_le _,rfl,rfl,qh (qb _ _)⟩
 case round=>
  obtain⟨k,hk,rfl,rfl,hb⟩:=hrel;by_cases hlt:k<rows.length
  ·obtain⟨g,rfl,hgs,hcells⟩:=hrow (by omega);obtain⟨Ai,ci,hvi⟩:=Hm.out.it k hlt;have hck:=hcells k hlt;rw[hvi] at hck;have k0:=(hb.out.cell (p:=⟨g,k*2,none⟩) hgs).trans hck.1;have k1:=(hb.out.cell (p:=⟨g,k*2+1,none⟩) hgs).trans hck.2;have hst:=zdx rows n k hlt;have hbd:=Hsz.out k hk;have htk:=zej rows k hlt;have htl:=Htl.out (k+1);have hmb:=zll (m:=(rows.getD k ⟨false,[]⟩).items.length) h0 h1;generalize rows.getD k ⟨false,[]⟩=r at*;obtain⟨rr,ri⟩:=r;simp only[] at k0 k1 hst htk hmb;unfold ziH at hst;simp only[] at hst;generalize za6 (rows.take k) n=S at*;have hS2:S≤512*65536:=(by have:=hbd.2;omega);have hri:ri.length≤65536:=(by omega);have hbs:=hb.out.size;have Hb2:=fun(v1 v2:Value)=>qh (hb.out.alloc hbs (.cells #[v1,v2] 106));have HB2:=qh Hb2;have hw1:IntKind.i64.wrap (n*(ri.length:Int))=n*(ri.length:Int):=qi _ (by omega);have hw2:IntKind.i64.wrap (S+n*(ri.length:Int))=S+n*(ri.length:Int):=qi _ (by omega);have hw3:IntKind.i64.wrap (S+(ri.length:Int))=S+(ri.length:Int):=qi _ (by omega);have Hst:=qh hst;clear hcells hck hst hbd htk htl hmb Hb2 hvi;cases rr with
   |true=>
    go_wp2_with fail;go_roundw
    case rel=>exact⟨k+1,by omega,by go_num,by rw[Hst.out,if_pos rfl],HB2.out _ _⟩
    case measure=>simp[intOf];omega
   |false=>
    go_wp2_with fail;go_roundw
    case rel=>exact⟨k+1,by omega,by go_num,by rw[Hst.out,if_neg (by simp)],HB2.out _ _⟩
    case measure=>simp[intOf];omega
  ·obtain rfl:k=rows.length:=by omega
   go_wp2_with fail;go_ret;exact⟨by rw[List.take_length];rfl,hb.out⟩
end Go.Proofs.YtgklikkddckgbaaGreatDoor.Mo

import Derived.Test.YtgklikkddckgbaaGreatDoorHWA
/- Lemmas of the claim. -/
set_option linter.all false
namespace Go.Proofs.YtgklikkddckgbaaGreatDoor.Mo
open Go.RowKit
theorem nOf_mem {ms:List Mk} {c:Int} (h:nOf ms c≠0):∃m∈ms,m.sign=c∧nOf ms c=m.n:=by
  unfold nOf at h⊢;cases hf:ms.find? (fun m=>m.sign==c) with
  |none=>rw[hf] at h;exact absurd rfl h
  |some m=>exact⟨m,List.mem_of_find?_eq_some hf,by have:=List.find?_some hf;simpa using this,rfl⟩
structure DmG (d:Dm) (i:Int):Prop where
  c:-1≤d.cls∧d.cls≤24
  s:-1≤d.same∧d.same<i
  e:-1≤d.ends∧d.ends<i
  h:∀n∈d.has,0≤n∧n<i
theorem back_in {ms:List Mk} (hk:∀m∈ms,MkOk m) {c line:Int} (hc:c=94∨c=64) (hm:∀m∈ms,zb0 m=true→m.n≤line) (h0:0≤line):-1≤backP line (nOf ms c)∧backP line (nOf ms c)<line:=by
  unfold backP;split
  · omega
  · rename_i hn
    obtain⟨m,h1,h2,h3⟩:=nOf_mem hn;have h4:=hm m h1 (by unfold zb0;rw[h2];rcases hc with rfl|rfl<;>rfl);have h5:=(hk m h1).nm (by rw[h2];rcases hc with rfl|rfl<;>decide) (by rw[h2];rcases hc with rfl|rfl<;>decide);rw[h3];omega
theorem demand_good {letters:List UInt8} {x:It} {line line0 stz up up0:Int} (hx:ItOk x) (hg:ItG line0 up0 x) (hl:line0≤line) (h0:0≤line) (hu:0≤up∧up≤up0):DmG (demandP letters x line stz up) line:=by
  have hm:∀m∈x.marks,zb0 m=true→m.n≤line:=fun m hm hb=>by have:=hg.1 m hm hb;omega
  refine⟨?_,back_in hx.mks (.inl rfl) hm h0,back_in hx.mks (.inr rfl) hm h0,?_⟩
  · show-1≤(if 0≤x.cls then x.cls+up else x.cls)∧(if 0≤x.cls then x.cls+up else x.cls)≤24
    split
    · rename_i hc
      have:=hg.2 hc;omega
    · have:=hx.cl
      omega
  · intro n hn
    obtain⟨k,hk,rfl⟩:=List.mem_map.1 (show n∈(zau x.marks).map (line-·) from hn);unfold zau at hk;obtain⟨m,hm1,rfl⟩:=List.mem_map.1 hk;obtain⟨hm2,hm3⟩:=List.mem_filter.1 hm1;have hs:m.sign=126:=(by simpa using hm3);have h4:=hm m hm2 (by unfold zb0;rw[hs];rfl);have h5:=(hx.mks m hm2).nm (by rw[hs];decide) (by rw[hs];decide);omega
def LinesG:Int→Int→List Dm→Prop
  |_,_,[]=>True
  |i,p,d::ds=>(d.stz=p∨d.stz=p+1)∧DmG d i∧LinesG (i+1) d.stz ds
def lastZ:Int→List Dm→Int
  |p,[]=>p
  |_,d::ds=>lastZ d.stz ds
theorem LinesG.app:∀{a b:List Dm} {i p:Int},LinesG i p a→LinesG (i+(a.length:Int)) (lastZ p a) b→LinesG i p (a++b)
  |[],b,i,p,_,h=>by simpa [lastZ] using h
  |d::a,b,i,p,h,h2=>⟨h.1,h.2.1,h.2.2.app (by
   have e:i+1+(a.length:Int)=i+((d::a).length:Int):=(by simp;omega);rw[e];exact h2)⟩
theorem lastZ_app:∀(a b:List Dm) (p:Int),lastZ p (a++b)=lastZ (lastZ p a) b
  |[],b,p=>rfl
  |d::a,b,p=>lastZ_app a b d.stz
theorem dRow_cons (letters:List UInt8) (stz up:Int) (line:Nat) (x:It) (xs:List It):dRow letters stz up line (x::xs)=demandP letters x (line:Int) stz up::dRow letters stz up (line+1) xs:=by
  unfold dRow;rw[List.mapIdx_cons]
  have e:(fun(i:Nat) (y:It)=>demandP letters y ((line+(i+1):Nat):Int) stz up)=fun(i:Nat) (y:It)=>demandP letters y ((line+1+i:Nat):Int) stz up:=by
    funext i y
    rw[show line+(i+1)=line+1+i by omega]
  rw[e];rfl
theorem dRow_good {letters:List UInt8} {stz up up0:Int}:∀{l:List It} {line:Nat} {line0 p:Int},RwG line0 up0 l→(∀x∈l,ItOk x)→line0≤line→0≤up∧up≤up0→(stz=p∨stz=p+1)→
    LinesG line p (dRow letters stz up line l)∧(l≠[]→lastZ p (dRow letters stz up line l)=stz)
  |[],line,line0,p,_,_,_,_,_=>⟨by unfold dRow;exact trivial,fun h=>absurd rfl h⟩
  |x::xs,line,line0,p,hg,hx,hl,hu,hp=>by
   have h1:=hg 0 x rfl
   have h2:RwG (line0+1) up0 xs:=fun j y hy=>by
     have:=hg (j+1) y (by simpa using hy);have e:line0+((j+1:Nat):Int)=line0+1+(j:Int):=(by omega);rw[e] at this;exact this
   obtain⟨ih1,ih2⟩:=dRow_good (letters:=letters) (stz:=stz) (up:=up) (l:=xs) (line:=line+1) (p:=stz) h2 (fun y hy=>hx y (List.mem_cons_of_mem _ hy)) (by omega) hu (.inl rfl);rw[dRow_cons];refine⟨⟨hp,demand_good (hx x (List.mem_cons_self ..)) h1 (by omega) (by omega) hu,?_⟩,fun _=>?_⟩
   · exact_mod_cast ih1
   · show lastZ stz (dRow letters stz up (line+1) xs)=stz
     cases xs with
     |nil=>unfold dRow;rfl
     |cons y ys=>exact ih2 (by simp)
structure StG (s:DSt):Prop where
  g:LinesG 0 (-1) s.out
  l:lastZ (-1) s.out=s.stz-1
theorem StG.step {f:Fm} {s:DSt} {r:Rw} {line0 up0:Int} (h:StG s) (hg:RwG line0 up0 r.items) (hx:∀x∈r.items,ItOk x) (hne:r.items≠[]) (hl:line0≤s.out.length) (hu:0≤s.up∧s.up≤up0):StG (dStep f s r):=by
  obtain⟨h1,h2⟩:=dRow_good (letters:=f.letters) (stz:=s.stz) (up:=s.up) (line:=s.out.length) (p:=s.stz-1) hg hx hl hu (.inr (by omega));refine⟨?_,?_⟩
  · show LinesG 0 (-1) (s.out++dRow f.letters s.stz s.up s.out.length r.items)
    refine h.g.app ?_;rw[h.l,Int.zero_add];exact h1
  · show lastZ (-1) (s.out++dRow f.letters s.stz s.up s.out.length r.items)=s.stz+1-1
    rw[lastZ_app,h.l,h2 hne];omega
theorem plain_fold {f:Fm} {up0:Int}:∀{rs:List Rw} {s:DSt} {line0:Int},PlainR rs→RwsG line0 up0 rs→(∀r∈rs,r.items≠[]∧∀x∈r.items,ItOk x)→StG s→line0≤s.out.length→0≤s.up∧s.up≤up0→
    StG (rs.foldl (dStep f) s)∧(rs.foldl (dStep f) s).out.length=s.out.length+totN rs∧(rs.foldl (dStep f) s).up=s.up
  |[],s,line0,_,_,_,hs,_,_=>⟨hs,by simp[totN],rfl⟩
  |r::rs,s,line0,hp,hg,hr,hs,hl,hu=>by
   have hr0:=hr r (List.mem_cons_self ..);have hp0:=hp r (List.mem_cons_self ..);have hlen:(dStep f s r).out.length=s.out.length+r.items.length:=(by simp[dStep,dRow_len]);have hup:(dStep f s r).up=s.up:=by simp[dStep,hp0]
   obtain⟨a,b,c⟩:=plain_fold (f:=f) (rs:=rs) (s:=dStep f s r) (line0:=line0+(r.items.length:Int)) (fun q hq=>hp q (List.mem_cons_of_mem _ hq)) hg.2 (fun q hq=>hr q (List.mem_cons_of_mem _ hq))
     (hs.step hg.1 hr0.2 hr0.1 hl hu) (by rw[hlen];push_cast;omega) (by rw[hup];exact hu)
   rw[List.foldl_cons];refine⟨a,?_,by rw[c,hup]⟩;rw[b,hlen];simp[totN];omega
theorem round_fold {f:Fm} {r:Rw} {up0 line0:Int} (hr1:r.round=true) (hg:RwG line0 up0 r.items) (hne:r.items≠[]) (hx:∀x∈r.items,ItOk x) (hs0:0≤f.shift):∀(t:Nat) {s:DSt},StG s→line0≤s.out.length→s.up=0→((t:Int)-1)*f.shift≤up0→
    StG ((List.replicate t r).foldl (dStep f) s)∧((List.replicate t r).foldl (dStep f) s).out.length=s.out.length+t*r.items.length∧((List.replicate t r).foldl (dStep f) s).up=(t:Int)*f.shift
  |0,s,hs,hl,hu,ht=>⟨hs,by simp,by simp[hu]⟩
  |t+1,s,hs,hl,hu,ht=>by
   have h1:((t:Int)-1)*f.shift≤up0:=by
     have:((t:Int)-1)*f.shift≤(((t+1:Nat):Int)-1)*f.shift:=Int.mul_le_mul_of_nonneg_right (by omega) hs0;omega
   obtain⟨a,b,c⟩:=round_fold (f:=f) hr1 hg hne hx hs0 t hs hl hu h1;rw[List.replicate_succ',List.foldl_append,List.foldl_cons,List.foldl_nil];generalize (List.replicate t r).foldl (dStep f) s=s2 at a b c⊢;refine⟨a.step hg hx hne (by rw[b];push_cast;have:(0:Int)≤(t:Int)*(r.items.length:Int):=Int.mul_nonneg (by omega) (by omega);omega) ?_,?_,?_⟩
   · rw[c]
     have e:(((t+1:Nat):Int)-1)*f.shift=(t:Int)*f.shift:=(by congr 1;omega);rw[e] at ht;exact⟨Int.mul_nonneg (by omega) hs0,ht⟩
   · simp only[dStep,List.length_append,dRow_len]
     rw[b,Nat.succ_mul];omega
   · simp only[dStep,hr1,if_true]
     rw[c];push_cast;rw[Int.add_mul];omega
theorem blocks_plain (n:Int):∀{rs:List Rw},PlainR rs→blocksP rs n=rs
  |[],_=>rfl
  |r::rs,h=>by
   have h1:=h r (List.mem_cons_self ..);have ih:=blocks_plain n (rs:=rs) (fun q hq=>h q (List.mem_cons_of_mem _ hq));unfold blocksP at ih⊢;rw[List.flatMap_cons,ih];simp[timesR,h1]
theorem blocks_round {A B:List Rw} {r:Rw} (N:Nat) (hA:PlainR A) (hB:PlainR B) (hr:r.round=true):blocksP (A++r::B) (N:Int)=A++List.replicate N r++B:=by
  have e:blocksP (A++r::B) (N:Int)=blocksP A N++(List.replicate (timesR N r) r++blocksP B N):=by unfold blocksP;rw[List.flatMap_append,List.flatMap_cons]
  rw[e,blocks_plain _ hA,blocks_plain _ hB];have:timesR (N:Int) r=N:=by simp[timesR,hr]
  rw[this,List.append_assoc]
theorem stg_start:StG ⟨[],0,0⟩:=⟨trivial,rfl⟩
theorem lines_good {f:Fm} {i:Nat} (hg:GrO f) (hk:FmOk f i) (N:Nat) (h1:f.least≤N) (h2:(N:Int)≤f.most):LinesG 0 (-1) (demandsP f N):=by
  have hx:∀r∈f.rows,r.items≠[]∧∀x∈r.items,ItOk x:=fun r hr=>⟨hg.ne r hr,hk.it r hr⟩;unfold demandsP dAll;cases hr:f.rounds with
  |false=>
   obtain⟨p1,p2,p3,p4⟩:=hg.pl hr;rw[blocks_plain _ p1];exact(plain_fold p1 p4 hx stg_start (by simp) ⟨by simp,by simp⟩).1.g
  |true=>
   obtain⟨A,r,B,e,hr1,hA,hB,gA,gr,gB⟩:=hg.rd hr;rw[e,blocks_round N hA hB hr1,List.foldl_append,List.foldl_append];have hs0:=hk.s0.1;obtain⟨a1,b1,c1⟩:=plain_fold (f:=f) hA gA (fun q hq=>hx q (by rw[e];exact List.mem_append_left _ hq)) stg_start (by simp) ⟨by simp,by simp⟩;generalize A.foldl (dStep f) ⟨[],0,0⟩=s1 at a1 b1 c1⊢;simp at b1;have hxr:=hx r (by rw[e];simp)
   have hst2:StG ((List.replicate N r).foldl (dStep f) s1)∧((List.replicate N r).foldl (dStep f) s1).out.length=s1.out.length+N*r.items.length∧((List.replicate N r).foldl (dStep f) s1).up=(N:Int)*f.shift:=by
     cases N with
     |zero=>exact⟨a1,by simp,by simp[c1]⟩
     |succ N=>
      refine round_fold hr1 (gr (by omega)) hxr.1 hxr.2 hs0 (N+1) a1 (by rw[b1];omega) c1 ?_;exact Int.mul_le_mul_of_nonneg_right (by omega) hs0
   obtain⟨a2,b2,c2⟩:=hst2;generalize (List.replicate N r).foldl (dStep f) s1=s2 at a2 b2 c2⊢;refine(plain_fold hB gB (fun q hq=>hx q (by rw[e];simp[hq])) a2 ?_ ?_).1.g
   · rw[b2,b1]
     push_cast;have:=Int.mul_le_mul_of_nonneg_right h1 (show(0:Int)≤(r.items.length:Int) by omega);omega
   · rw[c2]
     exact⟨Int.mul_nonneg (by omega) hs0,Int.mul_le_mul_of_nonneg_right h2 hs0⟩
theorem lines_at:∀{l:List Dm} {i p:Int},LinesG i p l→∀(j:Nat) (d:Dm),l[j]?=some d→DmG d (i+(j:Int))∧(d.stz=lastZ p (l.take j)∨d.stz=lastZ p (l.take j)+1)
  |[],i,p,_,j,d,hd=>by simp at hd
  |x::l,i,p,h,0,d,hd=>by
   simp at hd;subst hd;exact⟨by simpa using h.2.1,by simpa [lastZ] using h.1⟩
  |x::l,i,p,h,j+1,d,hd=>by
   have ih:=lines_at h.2.2 j d (by simpa using hd);have e:i+1+(j:Int)=i+((j+1:Nat):Int):=(by push_cast;omega);rw[e] at ih;exact ih

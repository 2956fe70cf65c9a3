import Derived.Test.YtgklikkddckgbaaGreatDoorHWB
set_option linter.all false
namespace Go.Proofs.YtgklikkddckgbaaGreatDoor.Mo
open Go.RowKit
theorem rhymeP_ref {s:ByteArray} {i j:Nat} {c r:Int} (h:zav s i=.ok (c,r,j)) (hc:c<0):r=0:=by
  unfold zav at h;split at h
  · cases h;rfl
  · split at h
    · cases h
    · split at h
      · cases h;rfl
      · split at h
        · cases h
        · rename_i h4
          split at h
          · cases h
          · cases h
            exact absurd (.inr hc) h4
def RefI (x:It):Prop:=x.cls<0→x.ref=0
theorem itemP_ref {s:ByteArray} {letters:List UInt8} {line:Int} {i k:Nat} {x:It} (h:zbC s letters line i=.ok (x,k)):RefI x:=by
  unfold zbC at h;split at h
  · cases h
  · rename_i hr
    split at h
    · cases h
    · split at h
      · cases h
      · split at h
        · cases h
        · cases h
          exact fun hc=>rhymeP_ref hr hc
theorem itemsP_ref {s:ByteArray} {f:Fm} {round:Bool}:∀(q:Nat) (l:List It) (i:Nat) {l':List It} {j:Nat},za1 s f round q l i=.ok (l',j)→(∀x∈l,RefI x)→∀x∈l',RefI x
  |0,l,i,l',j,h,hl=>by unfold za1 at h;cases h;exact hl
  |q+1,l,i,l',j,h,hl=>by
   unfold za1 at h;split at h
   · cases hi:zbC s f.letters (zbi f round l.length) (i+1) with
     |error e=>rw[hi] at h;cases h
     |ok xk=>
      obtain⟨x,k⟩:=xk;rw[hi] at h
      exact itemsP_ref q (l++[x]) k h (fun y hy=>by
        rcases List.mem_append.1 hy with hy|hy
        · exact hl y hy
        · obtain rfl:=List.mem_singleton.1 hy;exact itemP_ref hi)
   · cases h;exact hl
structure RefF (f:Fm):Prop where
  i:∀r∈f.rows,∀x∈r.items,RefI x
  n:za6 f.rows f.most≤512
theorem stanzaP_ref {s:ByteArray} {f f':Fm} {round:Bool} {start i j:Nat} (h:zaF s f round start i=.ok (f',j)) (hf:∀r∈f.rows,∀x∈r.items,RefI x):RefF f':=by
  unfold zaF at h;split at h
  · cases h
  · cases hit:za1 s f round (s.size+1) [] i with
    |error e=>rw[hit] at h;cases h
    |ok lj=>
     obtain⟨l,j'⟩:=lj;rw[hit] at h;simp only at h;have hg:=itemsP_ref _ _ _ hit (fun x hx=>by cases hx);split at h
     · cases h
     · rename_i hn
       split at h
       · cases h
       · cases h
         refine⟨fun r hr x hx=>?_,by simpa using hn⟩;rcases List.mem_append.1 hr with hr|hr
         · exact hf r hr x hx
         · obtain rfl:=List.mem_singleton.1 hr;exact hg x hx
theorem roundP_ref {s:ByteArray} {f f':Fm} {i j:Nat} (hf:RefF f) (h:zbF s f i=.ok (f',j)):RefF f':=by
  unfold zbF at h;split at h
  · cases h
  · (repeat' split at h)<;>first|(cases h;done)|skip
    rename_i hst;cases h;have:=stanzaP_ref hst hf.i;exact⟨this.i,this.n⟩
theorem lineP_ref {s:ByteArray} {f f':Fm} {t:Bool} {i j:Nat} (hf:RefF f) (h:za3 s f t i=.ok (f',j)):RefF f':=by
  unfold za3 at h;split at h
  · (repeat' split at h)<;>first|(cases h;done)|(cases h;exact⟨hf.i,hf.n⟩)
  · split at h
    · obtain⟨a,b,c,d,e⟩:=metreP_gr h
      exact⟨by rw[a];exact hf.i,by rw[a,d];exact hf.n⟩
    · split at h
      · exact roundP_ref hf h
      · split at h
        · cases h
        · exact stanzaP_ref h hf.i
theorem wholeP_ref {s:ByteArray}:∀(q:Nat) (f:Fm) (t:Bool) (i:Nat) {f':Fm},RefF f→zaK s q f t i=.ok f'→RefF f'
  |0,f,t,i,f',hf,h=>by unfold zaK at h;cases h;exact hf
  |q+1,f,t,i,f',hf,h=>by
   unfold zaK at h;split at h
   · split at h
     · cases h
     · cases h;exact hf
   · split at h
     · exact wholeP_ref q f t _ hf h
     · split at h
       · exact wholeP_ref q f t _ hf h
       · split at h
         · cases h
         · rename_i hl
           exact wholeP_ref q _ true _ (lineP_ref hf hl) h
theorem formP_ref {s:ByteArray} {f:Fm} (h:zbO s=.ok f):RefF f:=by
  unfold zbO at h;split at h
  · cases h
  · exact wholeP_ref _ _ _ _ ⟨fun r hr=>(by cases hr),by decide⟩ h
structure DmR (d:Dm):Prop where
  c:-1≤d.cls∧d.cls≤24
  r:0≤d.ref∧d.ref≤9
  x:d.cls= -1→d.ref=0
  z:0≤d.stz
theorem dRow_ref {letters:List UInt8} {stz up:Int} {line:Nat} {l:List It} (hx:∀x∈l,ItOk x∧RefI x) (hz:0≤stz) (hu:0≤up):∀d∈dRow letters stz up line l,(0≤d.ref∧d.ref≤9)∧(d.cls= -1→d.ref=0)∧0≤d.stz:=by
  intro d hd;unfold dRow at hd;obtain⟨k,hk,rfl⟩:=List.mem_mapIdx.1 hd;obtain⟨h1,h2⟩:=hx _ (qM hk);refine⟨h1.rf,fun hc=>?_,hz⟩;have hc:(if 0≤(l[k]).cls then(l[k]).cls+up else(l[k]).cls)= -1:=hc;refine h2 ?_;split at hc<;>omega
theorem fold_ref {f:Fm} (hs0:0≤f.shift):∀(rs:List Rw) (s:DSt),(∀r∈rs,∀x∈r.items,ItOk x∧RefI x)→0≤s.stz→0≤s.up→(∀d∈s.out,(0≤d.ref∧d.ref≤9)∧(d.cls= -1→d.ref=0)∧0≤d.stz)→
    ∀d∈(rs.foldl (dStep f) s).out,(0≤d.ref∧d.ref≤9)∧(d.cls= -1→d.ref=0)∧0≤d.stz
  |[],s,_,_,_,h=>h
  |r::rs,s,hx,hz,hu,h=>by
   rw[List.foldl_cons];refine fold_ref hs0 rs (dStep f s r) (fun q hq=>hx q (List.mem_cons_of_mem _ hq)) (by simp only[dStep];omega) (by simp only[dStep];split<;>omega) (fun d hd=>?_);rcases List.mem_append.1 (show d∈s.out++dRow f.letters s.stz s.up s.out.length r.items from hd) with hd|hd
   · exact h d hd
   · exact dRow_ref (hx r (List.mem_cons_self ..)) hz hu d hd
theorem lines_mem:∀{l:List Dm} {i p:Int},LinesG i p l→∀d∈l,-1≤d.cls∧d.cls≤24
  |[],_,_,_,d,hd=>by cases hd
  |x::l,i,p,h,d,hd=>by
   rcases List.mem_cons.1 hd with rfl|hd
   · exact h.2.1.c
   · exact lines_mem h.2.2 d hd
theorem demands_ref {f:Fm} {i:Nat} (hg:GrO f) (hk:FmOk f i) (hr:RefF f) (N:Nat) (h1:f.least≤N) (h2:(N:Int)≤f.most):∀d∈demandsP f N,DmR d:=by
  intro d hd;have a:=lines_mem (lines_good hg hk N h1 h2) d hd
  have b:=fold_ref (f:=f) hk.s0.1 (blocksP f.rows N) ⟨[],0,0⟩ (fun r hr' x hx=>by
    unfold blocksP at hr';obtain⟨q,hq,hq2⟩:=List.mem_flatMap.1 hr';obtain rfl:=(List.mem_replicate.1 hq2).2;exact⟨hk.it _ hq x hx,hr.i _ hq x hx⟩) (Int.le_refl _) (Int.le_refl _) (fun d hd=>by cases hd) d hd
  exact⟨a,b.1,b.2.1,b.2.2⟩
theorem size_mono:∀(rows:List Rw) (m n k k':Int),m≤n→k≤k'→rows.foldl (ziH m) k≤rows.foldl (ziH n) k'
  |[],m,n,k,k',_,h=>h
  |r::rows,m,n,k,k',hmn,h=>by
   rw[List.foldl_cons,List.foldl_cons];refine size_mono rows m n _ _ hmn ?_;unfold ziH;split
   · have:=Int.mul_le_mul_of_nonneg_right hmn (show(0:Int)≤(r.items.length:Int) by omega)
     omega
   · omega
theorem demands_few {f:Fm} (hr:RefF f) (N:Nat) (h2:(N:Int)≤f.most):(demandsP f N).length≤512:=by
  have h:=demands_len f N (by omega);have h3:=size_mono f.rows N f.most 0 0 h2 (Int.le_refl _);have h4:=hr.n;unfold za6 at h h4;omega
def updZ (zs:List Int) (z:Nat):List Int:=if z<zs.length then zs.set z (zs.getD z 0+1) else zs++[1]
def zsP (ds:List Dm):List Int:=ds.foldl (fun zs d=>updZ zs d.stz.toNat) []
theorem zsP_snoc (ds:List Dm) (d:Dm):zsP (ds++[d])=updZ (zsP ds) d.stz.toNat:=by unfold zsP;rw[List.foldl_append];rfl
def expZ:Nat→List Int→List Int
  |_,[]=>[]
  |i,n::ns=>List.replicate n.toNat (i:Int)++expZ (i+1) ns
theorem expZ_snoc:∀(zs:List Int) (i:Nat) (n:Int),expZ i (zs++[n])=expZ i zs++List.replicate n.toNat ((i+zs.length:Nat):Int)
  |[],i,n=>by simp[expZ]
  |z::zs,i,n=>by
   rw[List.cons_append,expZ,expZ,expZ_snoc zs (i+1) n,List.append_assoc];congr 3
   simp;omega
structure ZG (ds:List Dm) (zs:List Int):Prop where
  e:ds.map Dm.stz=expZ 0 zs
  p:∀z∈zs,1≤z
  l:(zs.length:Int)=lastZ (-1) ds+1
theorem lastZ_snoc (ds:List Dm) (d:Dm) (p:Int):lastZ p (ds++[d])=d.stz:=by rw[lastZ_app];rfl
theorem getD_snoc_len (l:List Int) (x d:Int):(l++[x]).getD l.length d=x:=by simp[List.getD_eq_getElem?_getD]
theorem ZG.snoc {ds:List Dm} {d:Dm} {zs:List Int} (h:ZG ds zs) (h0:0≤d.stz) (hd:d.stz=lastZ (-1) ds∨d.stz=lastZ (-1) ds+1):ZG (ds++[d]) (updZ zs d.stz.toNat)∧d.stz.toNat≤zs.length:=by
  have hl:=h.l;rcases hd with hd|hd
  ·--the last stanza goes on
   have hlen:zs.length≠0:=(by omega);obtain⟨ys,y,rfl⟩:∃ys y,zs=ys++[y]:=⟨zs.dropLast,zs.getLast (by intro e;rw[e] at hlen;exact hlen rfl),(List.dropLast_concat_getLast _).symm⟩;have hz:d.stz.toNat=ys.length:=(by simp at hl;omega);have hy:=h.p y (by simp);rw[hz]
   have e:updZ (ys++[y]) ys.length=ys++[y+1]:=by
     unfold updZ;rw[if_pos (by simp),getD_snoc_len];simp
   rw[e];refine⟨⟨?_,fun z hz'=>?_,?_⟩,by simp⟩
   · rw[List.map_append,h.e,expZ_snoc,expZ_snoc,List.append_assoc]
     congr 1
     have:(y+1).toNat=y.toNat+1:=(by omega);rw[this,List.replicate_succ'];congr 2
     simp;omega
   · rcases List.mem_append.1 hz' with hz'|hz'
     · exact h.p z (by simp[hz'])
     · obtain rfl:=List.mem_singleton.1 hz';omega
   · rw[lastZ_snoc];simp at hl⊢;omega
  · have hz:d.stz.toNat=zs.length:=by omega
    rw[hz];have e:updZ zs zs.length=zs++[1]:=(by unfold updZ;rw[if_neg (by omega)]);rw[e];refine⟨⟨?_,fun z hz'=>?_,?_⟩,ql _⟩
    · rw[List.map_append,h.e,expZ_snoc]
      congr 1
      simp;omega
    · rcases List.mem_append.1 hz' with hz'|hz'
      · exact h.p z hz'
      · obtain rfl:=List.mem_singleton.1 hz';omega
    · rw[lastZ_snoc];simp;omega
theorem zg_start:ZG [] []:=⟨rfl,fun z hz=>(by cases hz),rfl⟩
theorem zg_all {l:List Dm} (hg:LinesG 0 (-1) l) (h0:∀d∈l,0≤d.stz):∀k,k≤l.length→ZG (l.take k) (zsP (l.take k))
  |0,_=>by simp;exact zg_start
  |k+1,hk=>by
   have ih:=zg_all hg h0 k (by omega);rw[List.take_succ_eq_append_getElem (by omega),zsP_snoc];exact(ih.snoc (h0 _ (qM _)) (lines_at hg k l[k] (by simp)).2).1
theorem expZ_len:∀(zs:List Int) (i:Nat),(∀z∈zs,0≤z)→((expZ i zs).length:Int)=zs.sum
  |[],i,_=>by simp[expZ]
  |z::zs,i,h=>by
   have ih:=expZ_len zs (i+1) (fun y hy=>h y (by simp[hy]));have:=h z (by simp);simp only[expZ,List.length_append,List.length_replicate,List.sum_cons];push_cast;omega
theorem expZ_get:∀(zs:List Int) (i j k:Nat),(∀z∈zs,0≤z)→j<zs.length→(k:Int)<zs.getD j 0→(expZ i zs)[((zs.take j).sum).toNat+k]?=some ((i+j:Nat):Int)
  |[],i,j,k,_,hj,_=>by simp at hj
  |z::zs,i,0,k,h,hj,hk=>by
   have hk':k<z.toNat:=(by simp at hk;omega);simp only[List.take_zero,List.sum_nil,Int.toNat_zero,Nat.zero_add,expZ];rw[List.getElem?_append_left (by simpa using hk')];simp[hk']
  |z::zs,i,j+1,k,h,hj,hk=>by
   have h':∀y∈zs,0≤y:=fun y hy=>h y (by simp[hy]);have ih:=expZ_get zs (i+1) j k h' (by simpa using hj) (by simpa using hk);have hz:=h z (by simp)
   have hs:0≤(zs.take j).sum:=by
     have:=expZ_len (zs.take j) 0 (fun y hy=>h' y (List.mem_of_mem_take hy));omega
   simp only[List.take_succ_cons,List.sum_cons,expZ];rw[List.getElem?_append_right (by simp;omega)];have e:(z+(zs.take j).sum).toNat+k-(List.replicate z.toNat (i:Int)).length=((zs.take j).sum).toNat+k:=(by simp;omega);rw[e,ih];congr 2
   omega

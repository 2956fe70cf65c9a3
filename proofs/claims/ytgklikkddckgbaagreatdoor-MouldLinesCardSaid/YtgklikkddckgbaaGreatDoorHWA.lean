import Derived.Test.YtgklikkddckgbaaGreatDoorHBB
import Derived.Test.YtgklikkddckgbaaGreatDoorHDX
/- Lemmas of the claim. -/
set_option linter.all false
namespace Go.Proofs.YtgklikkddckgbaaGreatDoor.Mo
open Go.RowKit
def ItG (line up:Int) (x:It):Prop:=(∀m∈x.marks,zb0 m=true→m.n≤line)∧(0≤x.cls→x.cls+up≤24)
def RwG (line up:Int) (l:List It):Prop:=∀(j:Nat) (x:It),l[j]?=some x→ItG (line+(j:Int)) up x
def PlainR (rows:List Rw):Prop:=∀r∈rows,r.round=false
def RwsG (line up:Int):List Rw→Prop
  |[]=>True
  |r::rs=>RwG line up r.items∧RwsG (line+(r.items.length:Int)) up rs
theorem RwsG.snoc {up:Int} {r:Rw}:∀{rs:List Rw} {line:Int},RwsG line up rs→RwG (line+(totN rs:Int)) up r.items→RwsG line up (rs++[r])
  |[],line,h,h2=>by simp[totN] at h2;exact⟨h2,trivial⟩
  |q::qs,line,h,h2=>by
   refine⟨h.1,RwsG.snoc h.2 ?_⟩;have e:line+(q.items.length:Int)+(totN qs:Int)=line+(totN (q::qs):Int):=(by simp[totN];omega);rw[e];exact h2
theorem fold_plain (n:Int):∀(rs:List Rw) (k:Int),PlainR rs→rs.foldl (ziH n) k=k+(totN rs:Int)
  |[],k,_=>by simp[totN]
  |r::rs,k,h=>by
   have hr:=h r (List.mem_cons_self ..);rw[List.foldl_cons,fold_plain n rs _ (fun q hq=>h q (List.mem_cons_of_mem _ hq))];simp[ziH,hr,totN];omega
theorem size_plain (n:Int) (rs:List Rw) (h:PlainR rs):za6 rs n=(totN rs:Int):=by
  unfold za6;rw[fold_plain n rs 0 h];omega
theorem size_round (n:Int) {A B:List Rw} {r:Rw} (hA:PlainR A) (hB:PlainR B) (hr:r.round=true):za6 (A++r::B) n=(totN A:Int)+n*(r.items.length:Int)+(totN B:Int):=by
  unfold za6;rw[List.foldl_append,List.foldl_cons,fold_plain n A 0 hA,fold_plain n B _ hB];simp[ziH,hr]
structure GrO (f:Fm):Prop where
  ne:∀r∈f.rows,r.items≠[]
  pl:f.rounds=false→PlainR f.rows∧f.least=0∧f.most=0∧RwsG 0 0 f.rows
  rd:f.rounds=true→∃A r B,f.rows=A++r::B∧r.round=true∧PlainR A∧PlainR B∧RwsG 0 0 A∧(f.most≠0→RwG (totN A) ((f.most-1)*f.shift) r.items)∧
    RwsG ((totN A:Int)+f.least*(r.items.length:Int)) (f.most*f.shift) B
theorem itemP_gr {s:ByteArray} {letters:List UInt8} {line:Int} {i k:Nat} {x:It} (h:zbC s letters line i=.ok (x,k)) (h0:0≤line):∀m∈x.marks,zb0 m=true→m.n≤line:=by
  unfold zbC at h;split at h
  · cases h
  · split at h
    · cases h
    · split at h
      · cases h
      · split at h
        · cases h
        · rename_i hf
          cases h;intro m hm hb;have:=List.find?_eq_none.1 hf m hm;simp[hb] at this;omega
theorem itemsP_gr {s:ByteArray} {f:Fm} {round:Bool}:∀(q:Nat) (l:List It) (i:Nat) {l':List It} {j:Nat},za1 s f round q l i=.ok (l',j)→
    (∀(k:Nat) (x:It),l[k]?=some x→0≤zbi f round k→∀m∈x.marks,zb0 m=true→m.n≤zbi f round k)→
    (∀(k:Nat) (x:It),l'[k]?=some x→0≤zbi f round k→∀m∈x.marks,zb0 m=true→m.n≤zbi f round k)∧l.length≤l'.length
  |0,l,i,l',j,h,hl=>by unfold za1 at h;cases h;exact⟨hl,ql _⟩
  |q+1,l,i,l',j,h,hl=>by
   unfold za1 at h;split at h
   · cases hi:zbC s f.letters (zbi f round l.length) (i+1) with
     |error e=>rw[hi] at h;cases h
     |ok xk=>
      obtain⟨x,k⟩:=xk;rw[hi] at h
      have ih:=itemsP_gr q (l++[x]) k h (fun n y hy h0=>by
        by_cases hn:n<l.length
        · rw[List.getElem?_append_left hn] at hy
          exact hl n y hy h0
        · rw[List.getElem?_append_right (by omega)] at hy
          have e:n=l.length:=by
            have:=(List.getElem?_eq_some_iff.1 hy).1;simp at this;omega
          subst e;simp at hy;subst hy;exact itemP_gr hi h0)
      refine⟨ih.1,?_⟩;have:=ih.2;simp at this;omega
   · cases h;exact⟨hl,ql _⟩
theorem stanzaP_gr {s:ByteArray} {f f':Fm} {round:Bool} {start i j:Nat} (h:zaF s f round start i=.ok (f',j)):
    ∃l,f'={f with rows:=f.rows++[(⟨round,l⟩:Rw)]}∧l≠[]∧(∀(k:Nat) (x:It),l[k]?=some x→0≤zbi f round k→∀m∈x.marks,zb0 m=true→m.n≤zbi f round k)∧
     ((round&&f.most==0)=false→∀x∈l,0≤x.cls→x.cls+upP f round≤24):=by
  unfold zaF at h;split at h
  · cases h
  · rename_i hb
    have hb2:isB s i 32=true:=(by simpa using hb);cases hit:za1 s f round (s.size+1) [] i with
    |error e=>rw[hit] at h;cases h
    |ok lj=>
     obtain⟨l,j'⟩:=lj;rw[hit] at h;simp only at h;have hg:=itemsP_gr _ _ _ hit (fun k x hx=>by simp at hx)
     have hne:l≠[]:=by
       intro e;subst e;unfold za1 at hit;rw[if_pos hb2] at hit;cases hi:zbC s f.letters (zbi f round ([]:List It).length) (i+1) with
       |error e=>rw[hi] at hit;cases hit
       |ok xk=>
        rw[hi] at hit
        have:=(itemsP_gr _ _ _ hit (fun k y hy h0=>by
          cases k with
          |zero=>simp at hy;subst hy;exact itemP_gr hi h0
          |succ k=>simp at hy)).2
        simp at this
     split at h
     · cases h
     · split at h
       · cases h
       · rename_i hf
         cases h;refine⟨l,rfl,hne,hg.1,fun hr x hx h0=>?_⟩;have:=List.find?_eq_none.1 hf x hx;rw[hr] at this;simp[h0] at this;omega
theorem stanza_row {f:Fm} {round:Bool} {l:List It} {line up:Int} (hz:∀k:Nat,zbi f round k=line+(k:Int)) (hl0:0≤line) (hup:upP f round=up) (hr:(round&&f.most==0)=false)
    (h1:∀(k:Nat) (x:It),l[k]?=some x→0≤zbi f round k→∀m∈x.marks,zb0 m=true→m.n≤zbi f round k) (h2:(round&&f.most==0)=false→∀x∈l,0≤x.cls→x.cls+upP f round≤24):RwG line up l:=by
  intro j x hx;refine⟨fun m hm hb=>?_,fun h0=>?_⟩
  · have:=h1 j x hx (by rw[hz];omega) m hm hb
    rw[hz] at this;exact this
  · have:=h2 hr x (List.mem_of_getElem? hx) h0
    rw[hup] at this;exact this
theorem PlainR.snoc {A:List Rw} {r:Rw} (h:PlainR A) (hr:r.round=false):PlainR (A++[r]):=fun q hq=>by
  rcases List.mem_append.1 hq with hq|hq
  · exact h q hq
  · obtain rfl:=List.mem_singleton.1 hq;exact hr
theorem GrO.plain {s:ByteArray} {f f':Fm} {start i j:Nat} (hg:GrO f) (h0:0≤f.least) (h:zaF s f false start i=.ok (f',j)):GrO f'∧f'.least=f.least∧f'.most=f.most∧f'.rounds=f.rounds:=by
  obtain⟨l,rfl,hne,h1,h2⟩:=stanzaP_gr h;refine⟨⟨fun r hr=>?_,fun hr=>?_,fun hr=>?_⟩,rfl,rfl,rfl⟩
  · rcases List.mem_append.1 hr with hr|hr
    · exact hg.ne r hr
    · obtain rfl:=List.mem_singleton.1 hr;exact hne
  · obtain⟨p1,p2,p3,p4⟩:=hg.pl hr
    refine⟨p1.snoc rfl,p2,p3,p4.snoc ?_⟩;refine stanza_row (f:=f) (round:=false) (fun k=>?_) (by omega) ?_ rfl h1 h2
    · unfold zbi
      rw[size_plain _ _ p1];simp
    · have:f.rounds=false:=hr
      simp[upP,this]
  · obtain⟨A,r,B,e,hr1,hA,hB,gA,gr,gB⟩:=hg.rd hr
    refine⟨A,r,B++[⟨false,l⟩],by simp[e],hr1,hA,hB.snoc rfl,gA,gr,gB.snoc ?_⟩;refine stanza_row (f:=f) (round:=false) (fun k=>?_) ?_ ?_ rfl h1 h2
    · unfold zbi
      rw[e,size_round _ hA hB hr1];simp
    · have:0≤f.least*(r.items.length:Int):=Int.mul_nonneg h0 (by omega)
      omega
    · have:f.rounds=true:=hr
      simp[upP,this]
theorem roundP_gr {s:ByteArray} {f f':Fm} {i j:Nat} (hg:GrO f) (h:zbF s f i=.ok (f',j)):GrO f'∧f'.rounds=true:=by
  unfold zbF at h;split at h
  · cases h
  · rename_i hr
    have hr2:f.rounds=false:=by simpa using hr
    (repeat' split at h)<;>first|(cases h;done)|skip
    rename_i hst;cases h;obtain⟨l,rfl,hne,h1,h2⟩:=stanzaP_gr hst;obtain⟨p1,p2,p3,p4⟩:=hg.pl hr2;refine⟨⟨fun r hr=>?_,fun hr=>(by cases hr),fun _=>?_⟩,rfl⟩
    · rcases List.mem_append.1 hr with hr|hr
      · exact hg.ne r hr
      · obtain rfl:=List.mem_singleton.1 hr;exact hne
    · refine⟨f.rows,⟨true,l⟩,[],rfl,rfl,p1,(fun _ hq=>by cases hq),p4,fun hm=>?_,trivial⟩
      refine stanza_row (round:=true) (fun k=>?_) (by omega) (by simp[upP]) (by simpa using hm) h1 h2;unfold zbi;rw[size_plain _ _ p1];have hm2:∀q:Int,(q==0)=false↔q≠0:=fun q=>by simp
      simp only[Bool.true_and];rw[if_neg (by simpa using hm)]
theorem GrO.same {f f':Fm} (h:GrO f) (e1:f'.rows=f.rows) (e2:f'.rounds=f.rounds) (e3:f'.least=f.least) (e4:f'.most=f.most) (e5:f'.shift=f.shift):GrO f':=
  ⟨by rw[e1];exact h.ne,by rw[e1,e2,e3,e4];exact h.pl,by rw[e1,e2,e3,e4,e5];exact h.rd⟩
theorem metreP_gr {s:ByteArray} {f f':Fm} {i j:Nat} (h:zb9 s f i=.ok (f',j)):f'.rows=f.rows∧f'.rounds=f.rounds∧f'.least=f.least∧f'.most=f.most∧f'.shift=f.shift:=by
  unfold zb9 at h
  (repeat' split at h)<;>first|(cases h;done)|(cases h;exact⟨rfl,rfl,rfl,rfl,rfl⟩)
theorem lineP_gr {s:ByteArray} {f f':Fm} {t:Bool} {i j:Nat} (hg:GrO f) (h0:0≤f.least) (h:za3 s f t i=.ok (f',j)):GrO f':=by
  unfold za3 at h;split at h
  · (repeat' split at h)<;>first|(cases h;done)|(cases h;exact hg.same rfl rfl rfl rfl rfl)
  · split at h
    · obtain⟨a,b,c,d,e⟩:=metreP_gr h
      exact hg.same a b c d e
    · split at h
      · exact(roundP_gr hg h).1
      · split at h
        · cases h
        · exact(hg.plain h0 h).1
theorem gr_zero:GrO Fm.zero:=⟨fun r hr=>(by cases hr),fun _=>⟨fun r hr=>(by cases hr),rfl,rfl,trivial⟩,fun h=>(by cases h)⟩
theorem wholeP_gr {s:ByteArray}:∀(q:Nat) (f:Fm) (t:Bool) (i i0:Nat) {f':Fm},GrO f→FmOk f i0→i0≤i→zaK s q f t i=.ok f'→GrO f'
  |0,f,t,i,i0,f',hg,hk,hi,h=>by unfold zaK at h;cases h;exact hg
  |q+1,f,t,i,i0,f',hg,hk,hi,h=>by
   unfold zaK at h;split at h
   · split at h
     · cases h
     · cases h;exact hg
   · rename_i hlt
     have hlt2:i<s.size:=(by omega);split at h
     · exact wholeP_gr q f t _ i0 hg hk (by unfold za4;split<;>omega) h
     · split at h
       · refine wholeP_gr q f t _ i0 hg hk ?_ h
         have:=(zbs i (by omega):i≤zap s i∧zap s i≤s.size).1;unfold za4;split<;>omega
       · split at h
         · cases h
         · rename_i hl
           refine wholeP_gr q _ true _ _ (lineP_gr hg hk.l0.1 hl) (zkn (hk.mono hi) (by omega) hl) ?_ h;unfold za4;split<;>omega
theorem formP_gr {s:ByteArray} {f:Fm} (h:zbO s=.ok f):GrO f:=by
  unfold zbO at h;split at h
  · cases h
  · exact wholeP_gr _ _ _ _ 0 gr_zero okz (ql _) h

import Derived.Test.YtgklikkddckgbaaGreatDoorHBD
import Derived.Test.YtgklikkddckgbaaGreatDoorHDX
/- Lemmas of the claim. -/
set_option linter.all false
namespace Go.Proofs.YtgklikkddckgbaaGreatDoor.Mo
open Go.RowKit
def metK (letters:List UInt8) (n d:Int):Nat→Int
  |0=>d
  |q+1=>if((letters.getD q 0).toNat:Int)=n then(q:Int) else metK letters n d q
def stepM (letters:List UInt8) (line:Int) (d:Dm) (m:Mk):Dm:=
  if m.sign=58 then{d with met:=metK letters m.n d.met letters.length}
  else if m.sign=47 then{d with syl:=m.n}
  else if m.sign=94 then{d with same:=line-m.n}
  else if m.sign=64 then{d with ends:=line-m.n}
  else if m.sign=126 then{d with has:=d.has++[line-m.n]}
  else{d with beg:=m.n}
def dmI (x:It) (stz up:Int):Dm:=⟨stz,if 0≤x.cls then x.cls+up else x.cls,x.ref,-1,0,-1,-1,[],0⟩
theorem metK_none {letters:List UInt8} {n d:Int}:∀k,(∀q,q<k→((letters.getD q 0).toNat:Int)≠n)→metK letters n d k=d
  |0,_=>rfl
  |k+1,h=>by
   unfold metK;rw[if_neg (h k (by omega)),metK_none k (fun q hq=>h q (by omega))]
theorem metK_some {letters:List UInt8} {n d:Int} {o:Nat}:∀k,o<k→((letters.getD o 0).toNat:Int)=n→(∀q,q<k→((letters.getD q 0).toNat:Int)=n→q=o)→metK letters n d k=(o:Int)
  |0,h,_,_=>by omega
  |k+1,h,ho,hu=>by
   unfold metK;by_cases e:((letters.getD k 0).toNat:Int)=n
   · rw[if_pos e,hu k (by omega) e]
   · rw[if_neg e]
     have hk:o≠k:=fun q=>e (by rw[←q];exact ho);exact metK_some k (by omega) ho (fun q hq=>hu q (by omega))
theorem metK_index {letters:List UInt8} (hn:letters.Nodup) {n:Int} (h:0≤n∧n≤255):metK letters n (-1) letters.length=Lib.indexByte letters n.toNat.toUInt8:=by
  have hc:(n.toNat.toUInt8.toNat:Int)=n:=by
    have:n.toNat.toUInt8.toNat=n.toNat:=(by simp;omega);omega
  have hge:=Lib.indexByte_ge letters n.toNat.toUInt8
  have he:∀q,q<letters.length→((letters.getD q 0).toNat:Int)=n→letters[q]?=some n.toNat.toUInt8:=fun q hq e=>by
    rw[List.getElem?_eq_getElem hq];congr 1
    apply UInt8.toNat_inj.1;have:letters.getD q 0=letters[q]:=(by simp[List.getD_eq_getElem?_getD,hq]);rw[this] at e;omega
  by_cases h0:Lib.indexByte letters n.toNat.toUInt8= -1
  · rw[h0]
    exact metK_none _ (fun q hq e=>Lib.indexByte_none h0 q (he q hq e))
  · obtain⟨o,ho⟩:∃o:Nat,Lib.indexByte letters n.toNat.toUInt8=o:=⟨(Lib.indexByte letters n.toNat.toUInt8).toNat,by omega⟩
    obtain⟨h1,h2⟩:=Lib.indexByte_some ho;rw[ho];have hlt:o<letters.length:=(List.getElem?_eq_some_iff.1 h1).1;have hval:letters.getD o 0=n.toNat.toUInt8:=(by rw[List.getD_eq_getElem?_getD,h1];rfl);refine metK_some _ hlt (by rw[hval,hc]) (fun q hq e=>?_);have h3:=he q hq e;rw[←h1] at h3;exact(List.getElem?_inj hq hn).1 h3
theorem fold_one (get:Dm→Int) (c:Int) (g:Mk→Int) (step:Dm→Mk→Dm) (d0:Int) (h1:∀d m,m.sign=c→get d=d0→get (step d m)=g m) (h2:∀d m,MkOk m→m.sign≠c→get (step d m)=get d):
    ∀(ms:List Mk) (d:Dm),(∀m∈ms,MkOk m)→zaC ms c≤1→(get d=d0→get (ms.foldl step d)=match ms.find? (fun m=>m.sign==c) with|some m=>g m|none=>d0)∧(zaC ms c=0→get (ms.foldl step d)=get d)
  |[],d,_,_=>⟨fun h=>h,fun _=>rfl⟩
  |m::ms,d,hk,hm=>by
   have hk2:∀m∈ms,MkOk m:=fun q hq=>hk q (by simp[hq]);by_cases e:m.sign=c
   · have h0:zaC ms c=0:=by
       unfold zaC at hm⊢;rw[List.countP_cons,if_pos (by simpa using e)] at hm;omega
     have ih:=(fold_one get c g step d0 h1 h2 ms (step d m) hk2 (by omega)).2 h0;refine⟨fun hd=>?_,fun hz=>?_⟩
     · rw[List.foldl_cons,ih,List.find?_cons_of_pos (by simpa using e)]
       exact h1 d m e hd
     · unfold zaC at hz
       rw[List.countP_cons,if_pos (by simpa using e)] at hz;omega
   · have hc:zaC (m::ms) c=zaC ms c:=by
       unfold zaC;rw[List.countP_cons,if_neg (by simpa using e)];omega
     have ih:=fold_one get c g step d0 h1 h2 ms (step d m) hk2 (by omega);have hs:=h2 d m (hk m (by simp)) e;refine⟨fun hd=>?_,fun hz=>?_⟩
     · rw[List.foldl_cons,ih.1 (by rw[hs];exact hd),List.find?_cons_of_neg (by simpa using e)]
     · rw[List.foldl_cons,ih.2 (by omega),hs]
theorem fold_has (letters:List UInt8) (line:Int):∀(ms:List Mk) (d:Dm),(ms.foldl (stepM letters line) d).has=d.has++(zau ms).map (line-·)
  |[],d=>by simp[zau]
  |m::ms,d=>by
   rw[List.foldl_cons,fold_has letters line ms];by_cases e:m.sign=126
   · have h1:(stepM letters line d m).has=d.has++[line-m.n]:=by
       unfold stepM;rw[if_neg (by omega),if_neg (by omega),if_neg (by omega),if_neg (by omega),if_pos e]
     have h2:zau (m::ms)=m.n::zau ms:=(by unfold zau;rw[List.filter_cons_of_pos (by simpa using e)];rfl);rw[h1,h2];simp
   · have h1:(stepM letters line d m).has=d.has:=by
       unfold stepM;repeat' split
       all_goals first|rfl|exact absurd (by assumption) e
     have h2:zau (m::ms)=zau ms:=(by unfold zau;rw[List.filter_cons_of_neg (by simpa using e)]);rw[h1,h2]
theorem fold_keep {α:Type} (get:Dm→α) (letters:List UInt8) (line:Int) (h:∀d m,get (stepM letters line d m)=get d):∀(ms:List Mk) (d:Dm),get (ms.foldl (stepM letters line) d)=get d
  |[],d=>rfl
  |m::ms,d=>by rw[List.foldl_cons,fold_keep get letters line h ms,h]
theorem Dm.ext {a b:Dm} (h1:a.stz=b.stz) (h2:a.cls=b.cls) (h3:a.ref=b.ref) (h4:a.met=b.met) (h5:a.syl=b.syl) (h6:a.same=b.same) (h7:a.ends=b.ends) (h8:a.has=b.has) (h9:a.beg=b.beg):a=b:=by
  cases a;cases b;simp only[] at*;subst h1 h2 h3 h4 h5 h6 h7 h8 h9;rfl
theorem fold_dm {letters:List UInt8} {x:It} (line stz up:Int) (hx:ItOk x) (hn:letters.Nodup):x.marks.foldl (stepM letters line) (dmI x stz up)=demandP letters x line stz up:=by
  have one:∀(get:Dm→Int) (c:Int) (g:Mk→Int) (d0:Int),c≠126→(∀d m,m.sign=c→get d=d0→get (stepM letters line d m)=g m)→(∀d m,MkOk m→m.sign≠c→get (stepM letters line d m)=get d)→get (dmI x stz up)=d0→
      get (x.marks.foldl (stepM letters line) (dmI x stz up))=match x.marks.find? (fun m=>m.sign==c) with|some m=>g m|none=>d0:=fun get c g d0 hc h1 h2 h3=>
    (fold_one get c g (stepM letters line) d0 h1 h2 x.marks (dmI x stz up) hx.mks (hx.one c hc)).1 h3
  refine Dm.ext ?_ ?_ ?_ ?_ ?_ ?_ ?_ ?_ ?_
  · exact fold_keep Dm.stz letters line (fun d m=>by unfold stepM;(repeat' split)<;>rfl) _ _
  · exact fold_keep Dm.cls letters line (fun d m=>by unfold stepM;(repeat' split)<;>rfl) _ _
  · exact fold_keep Dm.ref letters line (fun d m=>by unfold stepM;(repeat' split)<;>rfl) _ _
  · rw[one Dm.met 58 (fun m=>metK letters m.n (-1) letters.length) (-1) (by decide) (fun d m e h=>by unfold stepM;rw[if_pos e];show metK letters m.n d.met letters.length=_;rw[h]) (fun d m hk e=>by
      have:=hk.sg;unfold stepM;repeat' split
      all_goals first|rfl|(exfalso;omega)) rfl]
    unfold demandP zbQ;cases hf:x.marks.find? (fun m=>m.sign==58) with
    |none=>rfl
    |some m=>
     have hm:=hx.mks m (List.mem_of_find?_eq_some hf);have hs:m.sign=58:=(by simpa using List.find?_some hf);have:=hm.lt (.inl hs);exact metK_index hn (by omega)
  · rw[one Dm.syl 47 (fun m=>m.n) 0 (by decide) (fun d m e h=>by unfold stepM;rw[if_neg (by omega),if_pos e]) (fun d m hk e=>by
      have:=hk.sg;unfold stepM;repeat' split
      all_goals first|rfl|(exfalso;omega)) rfl]
    unfold demandP nOf;rfl
  · rw[one Dm.same 94 (fun m=>line-m.n) (-1) (by decide) (fun d m e h=>by unfold stepM;rw[if_neg (by omega),if_neg (by omega),if_pos e]) (fun d m hk e=>by
      have:=hk.sg;unfold stepM;repeat' split
      all_goals first|rfl|(exfalso;omega)) rfl]
    unfold demandP nOf backP;cases hf:x.marks.find? (fun m=>m.sign==94) with
    |none=>rfl
    |some m=>
     have hm:=hx.mks m (List.mem_of_find?_eq_some hf);have hs:m.sign=94:=(by simpa using List.find?_some hf);have:=hm.nm (by omega) (by omega);show line-m.n=if m.n=0 then-1 else line-m.n
     rw[if_neg (by omega)]
  · rw[one Dm.ends 64 (fun m=>line-m.n) (-1) (by decide) (fun d m e h=>by unfold stepM;rw[if_neg (by omega),if_neg (by omega),if_neg (by omega),if_pos e]) (fun d m hk e=>by
      have:=hk.sg;unfold stepM;repeat' split
      all_goals first|rfl|(exfalso;omega)) rfl]
    unfold demandP nOf backP;cases hf:x.marks.find? (fun m=>m.sign==64) with
    |none=>rfl
    |some m=>
     have hm:=hx.mks m (List.mem_of_find?_eq_some hf);have hs:m.sign=64:=(by simpa using List.find?_some hf);have:=hm.nm (by omega) (by omega);show line-m.n=if m.n=0 then-1 else line-m.n
     rw[if_neg (by omega)]
  · rw[fold_has]
    rfl
  · rw[one Dm.beg 39 (fun m=>m.n) 0 (by decide) (fun d m e h=>by unfold stepM;rw[if_neg (by omega),if_neg (by omega),if_neg (by omega),if_neg (by omega),if_neg (by omega)]) (fun d m hk e=>by
      have:=hk.sg;unfold stepM;repeat' split
      all_goals first|rfl|(exfalso;omega)) rfl]
    unfold demandP nOf;rfl

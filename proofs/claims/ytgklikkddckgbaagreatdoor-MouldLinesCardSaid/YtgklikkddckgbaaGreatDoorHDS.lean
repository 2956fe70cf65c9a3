import Derived.Test.YtgklikkddckgbaaGreatDoorHDR
/- Lemmas of the claim. -/
set_option linter.all false
namespace Go.Proofs.YtgklikkddckgbaaGreatDoor
open Go.RowKit
theorem ziT {s:ByteArray} {i:Nat} (h:i<s.size) (h2:((s[i].toNat:Int)==32)=true):toks s i=toks s (i+1):=by
 have e:=zc5 h h2;by_cases h3:zaz s i<s.size
 ·rw[zc8 (p:=i) h3 (by omega),zc8 (p:=i+1) (by rw[←e];exact h3) (by omega),e]
 ·rw[zcm h3,zcm (by rw[←e];exact h3)]
theorem zke {s:ByteArray} {i:Nat} (h:i<s.size) (h2:((s[i].toNat:Int)==32)=false):toks s i=(i,s.extract i (zbb s i))::toks s (zbb s i):=by
 have e:=zdJ h h2;rw[zc8 (by rw[e];exact h) (by omega),e]
theorem zkf (s:ByteArray):toks s s.size=[(s.size,⟨#[]⟩)]:=zcm (by have:=zch (s:=s) s.size (ql _);omega)
def zaI (l:List Tok):List Value:=l.flatMap fun v=>[.int .i64 v.1,.string v.2]
theorem zdH (l:List Tok) (x:Tok):zaI (l++[x])=zaI l++[.int .i64 x.1,.string x.2]:=by simp[zaI]
theorem zcR:∀(l:List Tok) (k:Nat),k<l.length→(zaI l)[k*2]?=some (.int .i64 (l.getD k zkC).1)∧(zaI l)[k*2+1]?=some (.string (l.getD k zkC).2)
 |[],k,h=>by simp at h
 |x::l,0,h=>by simp[zaI]
 |x::l,k+1,h=>by
  have ih:=zcR l k (by simpa using h);have e1:(k+1)*2=k*2+1+1:=by omega
  rw[e1];simpa [zaI] using ih
theorem zdb:Tryz.prog.info? 187=some Tryz.t187:=by kernel_rfl
theorem zdc:Tryz.t187.zero=some (.agg #[.int .i64 0,.string ⟨#[]⟩]):=by kernel_rfl
theorem zdd:Tryz.t187.size=2:=by kernel_rfl
theorem zcy:Tryz.t187.bytes=24:=by kernel_rfl
theorem zmu {w:World} {B e z n:Nat} {v:Value} {x:List Value} (h:w.ownsRow B e z v n x):∃A c,v=.slice A n c:=by
 rcases h.2 with⟨rfl,h0⟩|⟨g,cap,cur,rfl,_⟩
 ·exact⟨none,0,by rw[h0]⟩
 ·exact⟨_,cap,rfl⟩
structure TokRel (w:World) (s:ByteArray) (i:Nat) (l:List Tok) (v:Value) (wr:World):Prop where
 hi:i≤s.size
 hl:l++toks s i=toks s 0
 hn:l.length≤i
 own:wr.ownsRow w.heap.size 187 2 v l.length (zaI l)
 below:Below w.heap.size w wr
theorem TokRel.word {w wr:World} {s:ByteArray} {i k:Nat} {l:List Tok} {v:Value} (h:TokRel w s i l v wr) (hlt:i<s.size) (htw:toks s i=(i,s.extract i (zbb s i))::toks s (zbb s i)) (hk:k=zbb s i):
  ∀(v':Value) (w1:World),w1.ownsRow w.heap.size 187 2 v' (l.length+1) (zaI l++[.int .i64 i,.string (s.extract i k)])→wr.grownBy w1 v.ownBlock→TokRel w s k (l++[(i,s.extract i k)]) v' w1:=by
 intro v' w1 ho hg;subst hk;have h1:=zcU (s:=s) i (by omega);have h2:=zed (s:=s) i hlt;refine⟨h1.2,?_,by have:=h.hn;simp;omega,by rw[zdH];simpa using ho,h.below.grown hg h.below.size (fun q hq=>(h.own.lt q hq).1)⟩;rw[←h.hl,htw,List.append_assoc];rfl
set_option maxRecDepth 100000 in
set_option maxHeartbeats 8000000 in
theorem ziU (s:ByteArray) (w:World) (hs:s.size≤65536):
  Calls Tryz.prog 100 #[.string s] w fun e w'=>∃g cap,e=.returned (.slice (some ⟨g,0,none⟩) (toks s 0).length cap)∧w'.ownsRow w.heap.size 187 2 (.slice (some ⟨g,0,none⟩) (toks s 0).length cap) (toks s 0).length (zaI (toks s 0))∧Below w.heap.size w w':=by
 go_enter Tryz.func100,Tryz.ntmps100;go_wp2_with fail;go_loopw [3,4] (fun v q wr=>∃(i:Nat) (l:List Tok),q=.int .i64 i∧Hid (TokRel w s i l v wr)) (fun _ q _=>s.size-(intOf q).toNat)
 case atStart=>exact⟨0,[],rfl,qh ⟨by omega,rfl,by simp,⟨rfl,.inl ⟨rfl,rfl⟩⟩,qb _ _⟩⟩
 case round=>
  rename_i wr;obtain⟨i,l,rfl,hr⟩:=hrel;obtain⟨A,cc,hv⟩:=zmu hr.out.own;subst hv;have hi:=hr.out.hi;have hn:=hr.out.hn;have hbs:=hr.out.below.size;by_cases hlt:i<s.size
  ·cases h32:((s[i].toNat:Int)==32) with
   |true=>
    have Hr:Hid (TokRel w s (i+1) l (.slice A l.length cc) wr):=qh ⟨by omega,by rw[←ziT hlt h32];exact hr.out.hl,by omega,hr.out.own,hr.out.below⟩;go_wp2_with fail;go_roundw
    case rel=>exact⟨i+1,l,by go_num,Hr⟩
    case measure=>simp[intOf];omega
   |false=>
    have Htw:=qh (zke hlt h32);have hse:=zcU (s:=s) i (by omega);have hsl:=zed (s:=s) i hlt;go_wp2_with fail;go_loop [5] (fun q=>∃k:Nat,q=.int .i64 k∧i<k∧k≤s.size∧(zdj s[i]=true→k=i+1)∧(zdj s[i]=false→zbb s i=zc6 s k)) (fun q=>s.size-(intOf q).toNat)
    case atStart=>exact⟨i+1,by go_num,by omega,by omega,fun _=>rfl,fun h=>zcT hlt h⟩
    case round=>
     obtain⟨k,rfl,hik,hks,hm1,hm2⟩:=hrel;have hmd:zdj s[i]=((((s[i].toNat:Int)==44))||((s[i].toNat:Int)==59)):=rfl;have Hap:=qh fun(hk:k=zbb s i)=>hr.out.word hlt Htw.out hk;have Hown:=qh hr.out.own;have hl65:l.length≤65536:=(by omega);cases hmk:zdj s[i] with
     |true=>
      have hki:=hm1 hmk;have hk:k=zbb s i:=(by rw[hki,zb2 hlt hmk]);have Hfin:=qh (Hap.out hk);have hcase:((s[i].toNat:Int)==44)=true∨(((s[i].toNat:Int)==44)=false∧((s[i].toNat:Int)==59)=true):=by
       rw[hmk] at hmd;cases h44:((s[i].toNat:Int)==44) with
       |true=>exact .inl rfl
       |false=>rw[h44,Bool.false_or] at hmd;exact .inr ⟨rfl,hmd.symm⟩
      clear hm1 hm2 hmd hmk hki Hap hk;rcases hcase with h44|⟨h44,h59⟩
      ·have h44':((s[i].toNat:Int) !=44)=false:=(by simp only[bne,h44];rfl);go_wp2_with (at_builtin;go_loud (refine zae wr rfl _ _ 164 rfl w.heap.size 187 _ _ 2 24 Tryz.underlying164 zdb zdc zdd zcy rfl (by decide) (.slice A l.length cc) l.length (zaI l) _ _ rfl rfl ?c0 (by exact Hown.out) rfl ?c1 ?c2 ?c3 ?c4 ?_;rotate_right;intro v1 w4 hown1 hg1 hat1;obtain⟨g1,cap1,rfl⟩:=zak hown1 (by omega);have Hf:=qh (Hfin.out _ _ hown1 hg1);clear hown1 hg1 hat1))
       case c0=>rfl
       case c1=>exact⟨rfl,rfl⟩
       case c2=>unfold maxLen;omega
       case c3=>omega
       go_roundw
       case rel=>exact⟨k,_,rfl,by simpa using Hf⟩
       case measure=>simp[intOf];omega
      ·have h44':((s[i].toNat:Int) !=44)=true:=(by simp only[bne,h44];rfl);have h59':((s[i].toNat:Int) !=59)=false:=(by simp only[bne,h59];rfl);go_wp2_with (at_builtin;go_loud (refine zae wr rfl _ _ 164 rfl w.heap.size 187 _ _ 2 24 Tryz.underlying164 zdb zdc zdd zcy rfl (by decide) (.slice A l.length cc) l.length (zaI l) _ _ rfl rfl ?c0 (by exact Hown.out) rfl ?c1 ?c2 ?c3 ?c4 ?_;rotate_right;intro v1 w4 hown1 hg1 hat1;obtain⟨g1,cap1,rfl⟩:=zak hown1 (by omega);have Hf:=qh (Hfin.out _ _ hown1 hg1);clear hown1 hg1 hat1))
       case c0=>rfl
       case c1=>exact⟨rfl,rfl⟩
       case c2=>unfold maxLen;omega
       case c3=>omega
       go_roundw
       case rel=>exact⟨k,_,rfl,by simpa using Hf⟩
       case measure=>simp[intOf];omega
     |false=>
      have hw:=hm2 hmk;have hcase:((s[i].toNat:Int)==44)=false∧((s[i].toNat:Int)==59)=false:=by
       rw[hmk] at hmd;cases h44:((s[i].toNat:Int)==44) with
       |true=>rw[h44,Bool.true_or] at hmd;cases hmd
       |false=>rw[h44,Bool.false_or] at hmd;exact⟨rfl,hmd.symm⟩
      obtain⟨h44,h59⟩:=hcase;have h44':((s[i].toNat:Int) !=44)=true:=(by simp only[bne,h44];rfl);have h59':((s[i].toNat:Int) !=59)=true:=(by simp only[bne,h59];rfl);by_cases hks2:k<s.size
      ·have hst:zdi s[k]=((((s[k].toNat:Int)==32)||((s[k].toNat:Int)==44))||((s[k].toNat:Int)==59)):=rfl;cases hsc:zdi s[k] with
       |true=>
        have Hfin:=qh (Hap.out (by rw[hw,zdK hks2 hsc]));have hcase:((s[k].toNat:Int)==32)=true∨(((s[k].toNat:Int)==32)=false∧((s[k].toNat:Int)==44)=true)∨(((s[k].toNat:Int)==32)=false∧((s[k].toNat:Int)==44)=false∧((s[k].toNat:Int)==59)=true):=by
         rw[hsc] at hst;cases a1:((s[k].toNat:Int)==32) with
         |true=>exact .inl rfl
         |false=>
          cases a2:((s[k].toNat:Int)==44) with
          |true=>exact .inr (.inl ⟨rfl,rfl⟩)
          |false=>rw[a1,a2] at hst;exact .inr (.inr ⟨rfl,rfl,by simpa using hst.symm⟩)
        clear hm1 hm2 hmd hmk Hap hst hsc hw;rcases hcase with h1|⟨h1,h2⟩|⟨h1,h2,h3⟩
        ·have h1':((s[k].toNat:Int) !=32)=false:=(by simp only[bne,h1];rfl);go_wp2_with (at_builtin;go_loud (refine zae wr rfl _ _ 164 rfl w.heap.size 187 _ _ 2 24 Tryz.underlying164 zdb zdc zdd zcy rfl (by decide) (.slice A l.length cc) l.length (zaI l) _ _ rfl rfl ?c0 (by exact Hown.out) rfl ?c1 ?c2 ?c3 ?c4 ?_;rotate_right;intro v1 w4 hown1 hg1 hat1;obtain⟨g1,cap1,rfl⟩:=zak hown1 (by omega);have Hf:=qh (Hfin.out _ _ hown1 hg1);clear hown1 hg1 hat1))
         case c0=>rfl
         case c1=>exact⟨rfl,rfl⟩
         case c2=>unfold maxLen;omega
         case c3=>omega
         go_roundw
         case rel=>exact⟨k,_,rfl,by simpa using Hf⟩
         case measure=>simp[intOf];omega
        ·have h1':((s[k].toNat:Int) !=32)=true:=(by simp only[bne,h1];rfl);have h2':((s[k].toNat:Int) !=44)=false:=(by simp only[bne,h2];rfl);go_wp2_with (at_builtin;go_loud (refine zae wr rfl _ _ 164 rfl w.heap.size 187 _ _ 2 24 Tryz.underlying164 zdb zdc zdd zcy rfl (by decide) (.slice A l.length cc) l.length (zaI l) _ _ rfl rfl ?c0 (by exact Hown.out) rfl ?c1 ?c2 ?c3 ?c4 ?_;rotate_right;intro v1 w4 hown1 hg1 hat1;obtain⟨g1,cap1,rfl⟩:=zak hown1 (by omega);have Hf:=qh (Hfin.out _ _ hown1 hg1);clear hown1 hg1 hat1))
         case c0=>rfl
         case c1=>exact⟨rfl,rfl⟩
         case c2=>unfold maxLen;omega
         case c3=>omega
         go_roundw
         case rel=>exact⟨k,_,rfl,by simpa using Hf⟩
         case measure=>simp[intOf];omega
        ·have h1':((s[k].toNat:Int) !=32)=true:=(by simp only[bne,h1];rfl);have h2':((s[k].toNat:Int) !=44)=true:=(by simp only[bne,h2];rfl);have h3':((s[k].toNat:Int) !=59)=false:=(by simp only[bne,h3];rfl);go_wp2_with (at_builtin;go_loud (refine zae wr rfl _ _ 164 rfl w.heap.size 187 _ _ 2 24 Tryz.underlying164 zdb zdc zdd zcy rfl (by decide) (.slice A l.length cc) l.length (zaI l) _ _ rfl rfl ?c0 (by exact Hown.out) rfl ?c1 ?c2 ?c3 ?c4 ?_;rotate_right;intro v1 w4 hown1 hg1 hat1;obtain⟨g1,cap1,rfl⟩:=zak hown1 (by omega);have Hf:=qh (Hfin.out _ _ hown1 hg1);clear hown1 hg1 hat1))
         case c0=>rfl
         case c1=>exact⟨rfl,rfl⟩
         case c2=>unfold maxLen;omega
         case c3=>omega
         go_roundw
         case rel=>exact⟨k,_,rfl,by simpa using Hf⟩
         case measure=>simp[intOf];omega
       |false=>
        have Hgo:=qh (hw.trans (zec hks2 hsc));have hcase:((s[k].toNat:Int)==32)=false∧((s[k].toNat:Int)==44)=false∧((s[k].toNat:Int)==59)=false:=by
         rw[hsc] at hst;have:=hst.symm;simp only[Bool.or_eq_false_iff] at this;exact⟨this.1.1,this.1.2,this.2⟩
        obtain⟨h1,h2,h3⟩:=hcase;have h1':((s[k].toNat:Int) !=32)=true:=(by simp only[bne,h1];rfl);have h2':((s[k].toNat:Int) !=44)=true:=(by simp only[bne,h2];rfl);have h3':((s[k].toNat:Int) !=59)=true:=(by simp only[bne,h3];rfl);have Hmk:=qh hmk;clear hm1 hm2 hmd hmk Hap hst hsc hw;go_wp2_with fail;go_round
        case rel=>exact⟨k+1,by go_num,by omega,by omega,fun h=>(by first|(cases h;done)|(rw[Hmk.out] at h;cases h)),fun _=>Hgo.out⟩
        case measure=>simp[intOf];omega
      ·have hkk:k=s.size:=(by omega);have Hfin:=qh (Hap.out (by rw[hw,hkk,zeq (by omega)]));have hnk:decide (k<s.size)=false:=(by simpa using hks2);clear hm1 hm2 hmd hmk Hap hw hkk;go_wp2_with (at_builtin;go_loud (refine zae wr rfl _ _ 164 rfl w.heap.size 187 _ _ 2 24 Tryz.underlying164 zdb zdc zdd zcy rfl (by decide) (.slice A l.length cc) l.length (zaI l) _ _ rfl rfl ?c0 (by exact Hown.out) rfl ?c1 ?c2 ?c3 ?c4 ?_;rotate_right;intro v1 w4 hown1 hg1 hat1;obtain⟨g1,cap1,rfl⟩:=zak hown1 (by omega);have Hf:=qh (Hfin.out _ _ hown1 hg1);clear hown1 hg1 hat1))
       case c0=>rfl
       case c1=>exact⟨rfl,rfl⟩
       case c2=>unfold maxLen;omega
       case c3=>omega
       go_roundw
       case rel=>exact⟨k,_,rfl,by simpa using Hf⟩
       case measure=>simp[intOf];omega
  ·obtain rfl:i=s.size:=by omega
   have Hfin:Hid (∀(v':Value) (w1:World),w1.ownsRow w.heap.size 187 2 v' (l.length+1) (zaI l++[.int .i64 s.size,.string ⟨#[]⟩])→wr.grownBy w1 (Value.slice A l.length cc).ownBlock→
     w1.ownsRow w.heap.size 187 2 v' (toks s 0).length (zaI (toks s 0))∧(toks s 0).length=l.length+1∧Below w.heap.size w w1):=qh (fun v' w1 ho hg=>by
    have e:toks s 0=l++[(s.size,⟨#[]⟩)]:=(by rw[←hr.out.hl,zkf]);refine⟨by rw[e,zdH];simpa using ho,by rw[e];simp,hr.out.below.grown hg hr.out.below.size (fun q hq=>(hr.out.own.lt q hq).1)⟩)
   have Hown:=qh hr.out.own;have hl65:l.length≤65536:=(by omega);clear hlt;go_wp2_with (at_builtin;go_loud (refine zae wr rfl _ _ 164 rfl w.heap.size 187 _ _ 2 24 Tryz.underlying164 zdb zdc zdd zcy rfl (by decide) (.slice A l.length cc) l.length (zaI l) _ _ rfl rfl ?c0 (by exact Hown.out) rfl ?c1 ?c2 ?c3 ?c4 ?_;rotate_right;intro v1 w4 hown1 hg1 hat1;obtain⟨g1,cap1,rfl⟩:=zak hown1 (by omega);have Hf:=qh (Hfin.out _ _ hown1 hg1);clear hown1 hg1 hat1))
   case c0=>rfl
   case c1=>exact⟨rfl,rfl⟩
   case c2=>unfold maxLen;omega
   case c3=>omega
   go_ret;refine⟨g1,cap1,?_,?_,Hf.out.2.2⟩
   ·rw[Hf.out.2.1];rfl
   ·have h:=Hf.out.1;rw[←Hf.out.2.1] at h;exact h
def RBr (w:World) (b:Nat) (lv vf ve vb:Value) (ec ep:Int):Prop:=w.heap[b]?=some (.cells #[lv,vf,ve,vb,.int .i64 ec,.int .i64 ep] 167 (0,0))
section
variable {w:World} {b:Nat} {lv vf ve vb:Value} {ec ep:Int}
theorem RBr.c0 (h:RBr w b lv vf ve vb ec ep):w.cell? ⟨b,0,none⟩=some lv:=qc w b 0 _ 167 (0,0) h
theorem RBr.c1 (h:RBr w b lv vf ve vb ec ep):w.cell? ⟨b,1,none⟩=some vf:=qc w b 1 _ 167 (0,0) h
theorem RBr.c2 (h:RBr w b lv vf ve vb ec ep):w.cell? ⟨b,2,none⟩=some ve:=qc w b 2 _ 167 (0,0) h
theorem RBr.c3 (h:RBr w b lv vf ve vb ec ep):w.cell? ⟨b,3,none⟩=some vb:=qc w b 3 _ 167 (0,0) h
theorem RBr.c4 (h:RBr w b lv vf ve vb ec ep):w.cell? ⟨b,4,none⟩=some (.int .i64 ec):=qc w b 4 _ 167 (0,0) h
theorem RBr.c5 (h:RBr w b lv vf ve vb ec ep):w.cell? ⟨b,5,none⟩=some (.int .i64 ep):=qc w b 5 _ 167 (0,0) h
theorem RBr.z (h:RBr w b lv vf ve vb ec ep) (j:Nat):w.frozen? ⟨b,j,none⟩=false:=qf w b j _ 167 h
theorem RBr.put0 (h:RBr w b lv vf ve vb ec ep) (v:Value):RBr (w.setCell ⟨b,0,none⟩ v) b v vf ve vb ec ep:=qs w b 0 _ 167 v h
theorem RBr.put1 (h:RBr w b lv vf ve vb ec ep) (v:Value):RBr (w.setCell ⟨b,1,none⟩ v) b lv v ve vb ec ep:=qs w b 1 _ 167 v h
theorem RBr.put2 (h:RBr w b lv vf ve vb ec ep) (v:Value):RBr (w.setCell ⟨b,2,none⟩ v) b lv vf v vb ec ep:=qs w b 2 _ 167 v h
theorem RBr.put3 (h:RBr w b lv vf ve vb ec ep) (v:Value):RBr (w.setCell ⟨b,3,none⟩ v) b lv vf ve v ec ep:=qs w b 3 _ 167 v h
theorem RBr.put4 (h:RBr w b lv vf ve vb ec ep) (v:Int):RBr (w.setCell ⟨b,4,none⟩ (.int .i64 v)) b lv vf ve vb v ep:=qs w b 4 _ 167 _ h
theorem RBr.put5 (h:RBr w b lv vf ve vb ec ep) (v:Int):RBr (w.setCell ⟨b,5,none⟩ (.int .i64 v)) b lv vf ve vb ec v:=qs w b 5 _ 167 _ h
end
structure RR (w:World) (base b:Nat) (lv:Value) (m:Met) (ec ep:Int) (vf ve vb:Value) (vs:List Value):Prop where
 rb:RBr w b lv vf ve vb ec ep
 hb:base≤b
 vl:vs.length=m.feet.length
 feet:w.ownsRow base 81 2 vf m.feet.length (zaD m.feet vs)
 ways:∀k,k<m.feet.length→w.ownsRow base 83 2 (vs.getD k nilV) (m.feet.getD k default).ways.length (zaf (m.feet.getD k default).ways)
 ends:w.ownsRow base 83 2 ve m.ends.length (zaf m.ends)
 brks:w.ownsRow base 85 2 vb m.brks.length (zaL m.brks)
 apart:Apart (ve::vs)
variable {w w1 w':World} {base b:Nat} {lv lv':Value} {m:Met} {ec ep ec' ep':Int} {vf ve vb:Value} {vs:List Value}
theorem RR.bl (h:RR w base b lv m ec ep vf ve vb vs):b<w.heap.size:=(qg h.rb).1
theorem RR.bs (h:RR w base b lv m ec ep vf ve vb vs):base≤w.heap.size:=by have:=h.bl;have:=h.hb;omega
theorem RR.only (h:RR w base b lv m ec ep vf ve vb vs) {row:Option Nat} (hg:w.grownBy w' row) (h0:row≠some b) (h1:vf.ownBlock=none∨vf.ownBlock≠row) (h2:ve.ownBlock=none∨ve.ownBlock≠row) (h3:vb.ownBlock=none∨vb.ownBlock≠row)
  (h4:∀k,k<m.feet.length→(vs.getD k nilV).ownBlock=none∨(vs.getD k nilV).ownBlock≠row):RR w' base b lv m ec ep vf ve vb vs:=
 ⟨(hg.block b h.bl (fun e=>h0 e.symm)).trans h.rb,h.hb,h.vl,h.feet.kept hg h1,fun k hk=>(h.ways k hk).kept hg (h4 k hk),h.ends.kept hg h2,h.brks.kept hg h3,h.apart⟩
theorem RR.below (h:RR w base b lv m ec ep vf ve vb vs) (hb:Below w.heap.size w w'):RR w' base b lv m ec ep vf ve vb vs:=
 h.only (zaq hb none) (by simp) zbj zbj zbj (fun _ _=>zbj)
theorem RR.blocks (h:RR w base b lv m ec ep vf ve vb vs):∀k b,k<(ve::vs).length→((ve::vs).getD k nilV).ownBlock=some b→b<w.heap.size:=by
 intro k b hk hb;match k,hk,hb with
 |0,_,hb=>exact(h.ends.lt b (by simpa using hb)).2
 |k+1,hk,hb=>
  rw[za7] at hb;exact((h.ways k (by have:=h.vl;simp at hk;omega)).lt b hb).2
theorem RR.way (h:RR w base b lv m ec ep vf ve vb vs) {j g cap:Nat} (hj:j<m.feet.length) (hvf:vf=.slice (some ⟨g,0,none⟩) m.feet.length cap) (x:Way) {v':Value}
  (ho:w1.ownsRow base 83 2 v' ((m.feet.getD j default).ways.length+1) (zaf (m.feet.getD j default).ways++[.string x.1,.int .i64 x.2])) (hg:w.grownBy w1 (vs.getD j nilV).ownBlock)
  (hat:v'.ownBlock=(vs.getD j nilV).ownBlock∨∃N,v'.ownBlock=some N∧w.heap.size≤N):
  RR (w1.setCell ⟨g,j*2+1,none⟩ v') base b lv (m.setFt j ⟨(m.feet.getD j default).own,(m.feet.getD j default).ways++[x]⟩) ec ep vf ve vb (vs.set j v'):=by
 have hvl:=h.vl;have hjs:j+1<(ve::vs).length:=by simp;omega
 have ne_oth:∀k,k<(ve::vs).length→k≠j+1→((ve::vs).getD k nilV).ownBlock=none∨((ve::vs).getD k nilV).ownBlock≠(vs.getD j nilV).ownBlock:=fun k hk hne=>by
  cases hv:((ve::vs).getD k nilV).ownBlock with
  |none=>exact .inl rfl
  |some q=>
   right;intro e;exact h.apart k (j+1) q hk hjs hne hv (by rw[za7];exact e.symm)
 have ne_b:(vs.getD j nilV).ownBlock≠some b:=by
  rcases zac (h.ways j hj) h.rb (by decide) with e|e
  ·rw[e];simp
  ·exact e
 have f1:=h.feet.kept hg (zaP h.feet (h.ways j hj) (by decide));have e1:w1.ownsRow base 83 2 ve m.ends.length (zaf m.ends):=h.ends.kept hg (by simpa using ne_oth 0 (by simp) (by omega));have k1:=h.brks.kept hg (zaP h.brks (h.ways j hj) (by decide));have r1:RBr w1 b lv vf ve vb ec ep:=(hg.block b h.bl (fun e=>ne_b e.symm)).trans h.rb;have o1:∀k,k<m.feet.length→k≠j→w1.ownsRow base 83 2 (vs.getD k nilV) (m.feet.getD k default).ways.length (zaf (m.feet.getD k default).ways):=fun k hk hne=>
  (h.ways k hk).kept hg (by have:=ne_oth (k+1) (by simp;omega) (by omega);rwa [za7] at this)
 obtain⟨f2,g2⟩:=(hvf▸f1).stored (j*2+1) v';have hgf:vf.ownBlock=some g:=by rw[hvf];rfl
 have gne:∀{B e z n:Nat} {v:Value} {x:List Value},w1.ownsRow B e z v n x→e≠81→v.ownBlock=none∨v.ownBlock≠some g:=fun hh hne=>by
  have:=zaP hh f1 hne;rwa [hgf] at this
 have hbg:b≠g:=by
  rintro rfl;rcases zac f1 r1 (by decide) with e|e
  ·rw[hgf] at e;cases e
  ·exact e hgf
 refine⟨?_,h.hb,by simp[Met.setFt,hvl],?_,?_,e1.kept g2 (gne e1 (by decide)),k1.kept g2 (gne k1 (by decide)),?_⟩
 ·exact(g2.block b (qg r1).1 (by simpa using hbg)).trans r1
 ·have:(m.setFt j ⟨(m.feet.getD j default).own,(m.feet.getD j default).ways++[x]⟩).feet.length=m.feet.length:=by simp[Met.setFt]
  rw[this,hvf];have hfs:=zc9 m.feet vs j v' ⟨(m.feet.getD j default).own,(m.feet.getD j default).ways++[x]⟩ hvl hj rfl;show World.ownsRow _ base 81 2 _ _ (zaD (m.feet.set j ⟨(m.feet.getD j default).own,(m.feet.getD j default).ways++[x]⟩) (vs.set j v'));rw[hfs];exact f2
 ·intro k hk;have hk':k<m.feet.length:=by simpa [Met.setFt] using hk
  unfold Met.setFt;simp only[];rw[zbX vs j k v' nilV (by omega),zbX m.feet j k _ default hk'];by_cases e:j=k
  ·subst e;rw[if_pos rfl,if_pos rfl];simp only[List.length_append,List.length_cons,List.length_nil,zbH];exact ho.kept g2 (gne ho (by decide))
  ·rw[if_neg e,if_neg e];exact(o1 k hk' (fun e'=>e e'.symm)).kept g2 (gne (o1 k hk' (fun e'=>e e'.symm)) (by decide))
 ·have hA:Apart ((ve::vs).set (j+1) v'):=by
   rcases hat with hat|⟨N,hN,hle⟩
   ·exact h.apart.set hjs (N:=w.heap.size) h.blocks (.inl (by rw[za7];exact hat))
   ·exact h.apart.set hjs (N:=N) (fun k q hk hq=>Nat.lt_of_lt_of_le (h.blocks k q hk hq) hle) (.inr hN)
  simpa using hA
theorem RR.foot (h:RR w base b lv m ec ep vf ve vb vs) {own:ByteArray} {v':Value} (ho:w1.ownsRow base 81 2 v' (m.feet.length+1) (zaD m.feet vs++[.string own,nilV])) (hg:w.grownBy w1 vf.ownBlock):
  RR (w1.setCell ⟨b,1,none⟩ v') base b lv {m with feet:=m.feet++[zcn own]} ec ep v' ve vb (vs++[nilV]):=by
 have hne:vf.ownBlock≠some b:=by rcases zac h.feet h.rb (by decide) with e|e;· rw[e];simp
                                 ·exact e
 have r1:RBr w1 b lv vf ve vb ec ep:=(hg.block b h.bl (fun e=>hne e.symm)).trans h.rb;have g2:=zaN w1 b 1 v';have hvl:=h.vl;have wk:∀k,k<m.feet.length→(w1.setCell ⟨b,1,none⟩ v').ownsRow base 83 2 (vs.getD k nilV) (m.feet.getD k default).ways.length (zaf (m.feet.getD k default).ways):=fun k hk=>by
  have o1:=(h.ways k hk).kept hg (zaP (h.ways k hk) h.feet (by decide));exact o1.kept g2 (zac o1 r1 (by decide))
 have e1:=h.ends.kept hg (zaP h.ends h.feet (by decide));have k1:=h.brks.kept hg (zaP h.brks h.feet (by decide));refine⟨r1.put1 v',h.hb,by simp[hvl],?_,?_,e1.kept g2 (zac e1 r1 (by decide)),k1.kept g2 (zac k1 r1 (by decide)),?_⟩
 ·have e:zaD (m.feet++[zcn own]) (vs++[nilV])=zaD m.feet vs++[.string own,nilV]:=zcJ _ _ _ _ hvl;simp only[List.length_append,List.length_cons,List.length_nil];rw[e];exact ho.kept g2 (zac ho r1 (by decide))
 ·intro k hk;simp only[List.length_append,List.length_cons,List.length_nil] at hk;by_cases e:k<m.feet.length
  ·simp only[];rw[zdv _ _ _ _ (by omega),zdv _ _ _ _ e];exact wk k e
  ·obtain rfl:k=m.feet.length:=by omega
   simp only[];rw[zdw];have:(vs++[nilV]).getD m.feet.length nilV=nilV:=(by rw[←hvl];exact zdw _ _ _);rw[this];exact World.ownsRow_nil _ _ _ _
 ·exact h.apart.snoc (v:=nilV) rfl
theorem RR.end_ (h:RR w base b lv m ec ep vf ve vb vs) {x:Way} {v':Value} (ho:w1.ownsRow base 83 2 v' (m.ends.length+1) (zaf m.ends++[.string x.1,.int .i64 x.2])) (hg:w.grownBy w1 ve.ownBlock)
  (hat:v'.ownBlock=ve.ownBlock∨∃N,v'.ownBlock=some N∧w.heap.size≤N):
  RR (w1.setCell ⟨b,2,none⟩ v') base b lv {m with ends:=m.ends++[x]} ec ep vf v' vb vs:=by
 have hne:ve.ownBlock≠some b:=by rcases zac h.ends h.rb (by decide) with e|e;· rw[e];simp
                                 ·exact e
 have r1:RBr w1 b lv vf ve vb ec ep:=(hg.block b h.bl (fun e=>hne e.symm)).trans h.rb;have g2:=zaN w1 b 2 v';have hvl:=h.vl;have wk:∀k,k<m.feet.length→(w1.setCell ⟨b,2,none⟩ v').ownsRow base 83 2 (vs.getD k nilV) (m.feet.getD k default).ways.length (zaf (m.feet.getD k default).ways):=fun k hk=>by
  have ha:(vs.getD k nilV).ownBlock=none∨(vs.getD k nilV).ownBlock≠ve.ownBlock:=by
   cases hv:(vs.getD k nilV).ownBlock with
   |none=>exact .inl rfl
   |some q=>
    right;intro e;exact h.apart (k+1) 0 q (by simp;omega) (by simp) (by omega) (by rw[za7];exact hv) (by simpa using e.symm)
  have o1:=(h.ways k hk).kept hg ha;exact o1.kept g2 (zac o1 r1 (by decide))
 have f1:=h.feet.kept hg (zaP h.feet h.ends (by decide));have k1:=h.brks.kept hg (zaP h.brks h.ends (by decide));refine⟨r1.put2 v',h.hb,hvl,f1.kept g2 (zac f1 r1 (by decide)),wk,?_,k1.kept g2 (zac k1 r1 (by decide)),?_⟩
 ·simp only[List.length_append,List.length_cons,List.length_nil,zbH];exact ho.kept g2 (zac ho r1 (by decide))
 ·have hA:Apart ((ve::vs).set 0 v'):=by
   rcases hat with hat|⟨N,hN,hle⟩
   ·exact h.apart.set (by simp) (N:=w.heap.size) h.blocks (.inl (by simpa using hat))
   ·exact h.apart.set (by simp) (N:=N) (fun k q hk hq=>Nat.lt_of_lt_of_le (h.blocks k q hk hq) hle) (.inr hN)
  simpa using hA
theorem RR.brk (h:RR w base b lv m ec ep vf ve vb vs) {x:Int×Int} {v':Value} (ho:w1.ownsRow base 85 2 v' (m.brks.length+1) (zaL m.brks++[.int .i64 x.1,.int .i64 x.2])) (hg:w.grownBy w1 vb.ownBlock):
  RR (w1.setCell ⟨b,3,none⟩ v') base b lv {m with brks:=m.brks++[x]} ec ep vf ve v' vs:=by
 have hne:vb.ownBlock≠some b:=by rcases zac h.brks h.rb (by decide) with e|e;· rw[e];simp
                                 ·exact e
 have r1:RBr w1 b lv vf ve vb ec ep:=(hg.block b h.bl (fun e=>hne e.symm)).trans h.rb;have g2:=zaN w1 b 3 v';have wk:∀k,k<m.feet.length→(w1.setCell ⟨b,3,none⟩ v').ownsRow base 83 2 (vs.getD k nilV) (m.feet.getD k default).ways.length (zaf (m.feet.getD k default).ways):=fun k hk=>by
  have o1:=(h.ways k hk).kept hg (zaP (h.ways k hk) h.brks (by decide));exact o1.kept g2 (zac o1 r1 (by decide))
 have f1:=h.feet.kept hg (zaP h.feet h.brks (by decide));have e1:=h.ends.kept hg (zaP h.ends h.brks (by decide));refine⟨r1.put3 v',h.hb,h.vl,f1.kept g2 (zac f1 r1 (by decide)),wk,e1.kept g2 (zac e1 r1 (by decide)),?_,h.apart⟩;simp only[List.length_append,List.length_cons,List.length_nil,zdr];exact ho.kept g2 (zac ho r1 (by decide))
theorem RR.move (h:RR w base b lv m ec ep vf ve vb vs) (hg:w.grownBy w' (some b)) (hr:RBr w' b lv' vf ve vb ec' ep'):RR w' base b lv' m ec' ep' vf ve vb vs:=
 ⟨hr,h.hb,h.vl,h.feet.kept hg (zac h.feet h.rb (by decide)),fun k hk=>(h.ways k hk).kept hg (zac (h.ways k hk) h.rb (by decide)),h.ends.kept hg (zac h.ends h.rb (by decide)),h.brks.kept hg (zac h.brks h.rb (by decide)),h.apart⟩
def tokV (s:ByteArray) (T cap i:Nat):Value:=.slice (some ⟨T,i*2,none⟩) ((toks s 0).length-i) (cap-i)
structure RQ (w:World) (base b:Nat) (s:ByteArray) (T cap i:Nat) (m:Met) (ec ep:Int) (vf ve vb:Value) (vs:List Value):Prop where
 rr:RR w base b (tokV s T cap i) m ec ep vf ve vb vs
 tk:w.ownsRow base 187 2 (.slice (some ⟨T,0,none⟩) (toks s 0).length cap) (toks s 0).length (zaI (toks s 0))
 hi:i<(toks s 0).length
variable {s:ByteArray} {T cap i:Nat}
theorem RQ.bl (h:RQ w base b s T cap i m ec ep vf ve vb vs):b<w.heap.size:=h.rr.bl
theorem RQ.bs (h:RQ w base b s T cap i m ec ep vf ve vb vs):base≤w.heap.size:=h.rr.bs
theorem RQ.below (h:RQ w base b s T cap i m ec ep vf ve vb vs) (hb:Below w.heap.size w w'):RQ w' base b s T cap i m ec ep vf ve vb vs:=
 ⟨h.rr.below hb,h.tk.kept (zaq hb none) zbj,h.hi⟩
theorem RQ.move (h:RQ w base b s T cap i m ec ep vf ve vb vs) (hg:w.grownBy w' (some b)) {i':Nat} (hi:i'<(toks s 0).length) (hr:RBr w' b (tokV s T cap i') vf ve vb ec' ep'):RQ w' base b s T cap i' m ec' ep' vf ve vb vs:=
 ⟨h.rr.move hg hr,h.tk.kept hg (zac h.tk h.rr.rb (by decide)),hi⟩
theorem zkg {n:Nat} {x:List Value} {v:Value} (h:w.ownsRow base 187 2 v n x) {row:Option Nat} (hg:w.grownBy w1 row) (h1:v.ownBlock=none∨v.ownBlock≠row) (hr:w1.heap[b]?=some (.cells #[lv,vf,ve,vb,.int .i64 ec,.int .i64 ep] 167 (0,0))) (j:Nat) (u:Value):
  (w1.setCell ⟨b,j,none⟩ u).ownsRow base 187 2 v n x:=by
 have o:=h.kept hg h1;exact o.kept (zaN w1 b j u) (zac o hr (by decide))
theorem RQ.foot (h:RQ w base b s T cap i m ec ep vf ve vb vs) {own:ByteArray} {v':Value} (ho:w1.ownsRow base 81 2 v' (m.feet.length+1) (zaD m.feet vs++[.string own,nilV])) (hg:w.grownBy w1 vf.ownBlock):
  RQ (w1.setCell ⟨b,1,none⟩ v') base b s T cap i {m with feet:=m.feet++[zcn own]} ec ep v' ve vb (vs++[nilV]):=by
 have hne:vf.ownBlock≠some b:=by rcases zac h.rr.feet h.rr.rb (by decide) with e|e;· rw[e];simp
                                 ·exact e
 exact⟨h.rr.foot ho hg,zkg h.tk hg (zaP h.tk h.rr.feet (by decide)) ((hg.block b h.bl (fun e=>hne e.symm)).trans h.rr.rb) _ _,h.hi⟩
theorem RQ.end_ (h:RQ w base b s T cap i m ec ep vf ve vb vs) {x:Way} {v':Value} (ho:w1.ownsRow base 83 2 v' (m.ends.length+1) (zaf m.ends++[.string x.1,.int .i64 x.2])) (hg:w.grownBy w1 ve.ownBlock)
  (hat:v'.ownBlock=ve.ownBlock∨∃N,v'.ownBlock=some N∧w.heap.size≤N):
  RQ (w1.setCell ⟨b,2,none⟩ v') base b s T cap i {m with ends:=m.ends++[x]} ec ep vf v' vb vs:=by
 have hne:ve.ownBlock≠some b:=by rcases zac h.rr.ends h.rr.rb (by decide) with e|e;· rw[e];simp
                                 ·exact e
 exact⟨h.rr.end_ ho hg hat,zkg h.tk hg (zaP h.tk h.rr.ends (by decide)) ((hg.block b h.bl (fun e=>hne e.symm)).trans h.rr.rb) _ _,h.hi⟩
theorem RQ.brk (h:RQ w base b s T cap i m ec ep vf ve vb vs) {x:Int×Int} {v':Value} (ho:w1.ownsRow base 85 2 v' (m.brks.length+1) (zaL m.brks++[.int .i64 x.1,.int .i64 x.2])) (hg:w.grownBy w1 vb.ownBlock):
  RQ (w1.setCell ⟨b,3,none⟩ v') base b s T cap i {m with brks:=m.brks++[x]} ec ep vf ve v' vs:=by
 have hne:vb.ownBlock≠some b:=by rcases zac h.rr.brks h.rr.rb (by decide) with e|e;· rw[e];simp
                                 ·exact e
 exact⟨h.rr.brk ho hg,zkg h.tk hg (zaP h.tk h.rr.brks (by decide)) ((hg.block b h.bl (fun e=>hne e.symm)).trans h.rr.rb) _ _,h.hi⟩
theorem RQ.way (h:RQ w base b s T cap i m ec ep vf ve vb vs) {j g cp:Nat} (hj:j<m.feet.length) (hvf:vf=.slice (some ⟨g,0,none⟩) m.feet.length cp) (x:Way) {v':Value}
  (ho:w1.ownsRow base 83 2 v' ((m.feet.getD j default).ways.length+1) (zaf (m.feet.getD j default).ways++[.string x.1,.int .i64 x.2])) (hg:w.grownBy w1 (vs.getD j nilV).ownBlock)
  (hat:v'.ownBlock=(vs.getD j nilV).ownBlock∨∃N,v'.ownBlock=some N∧w.heap.size≤N):
  RQ (w1.setCell ⟨g,j*2+1,none⟩ v') base b s T cap i (m.setFt j ⟨(m.feet.getD j default).own,(m.feet.getD j default).ways++[x]⟩) ec ep vf ve vb (vs.set j v'):=by
 refine⟨h.rr.way hj hvf x ho hg hat,?_,h.hi⟩;have o:=h.tk.kept hg (zaP h.tk (h.rr.ways j hj) (by decide));have f1:=h.rr.feet.kept hg (zaP h.rr.feet (h.rr.ways j hj) (by decide));have hne:=zaP o f1 (by decide);refine o.kept (zaN w1 g _ _) ?_;rw[hvf] at hne;exact hne
theorem zaX:∀{j:Nat},j<(toks s 0).length→Cur s ((toks s 0).drop j)
 |0,_=>⟨0,Nat.zero_le _,rfl⟩
 |k+1,h=>by
  have ih:=(zaX (j:=k) (by omega)).adv;have e:adv ((toks s 0).drop k)=(toks s 0).drop (k+1):=by
   rw[List.drop_eq_getElem_cons (by omega:k<(toks s 0).length)];cases hq:(toks s 0).drop (k+1) with
   |nil=>have:=List.drop_eq_nil_iff.1 hq;omega
   |cons x l=>rfl
  rw[←e];exact ih
theorem zcz {L:List Tok} (h:Cur s L) (h0:(hd L).2.size≠0):2≤L.length:=by
 obtain⟨p,hp,rfl⟩:=h;have h1:=zjk (s:=s) (p:=p) (fun e=>h0 (by rw[e];rfl));have h2:=zbV s p;have h3:=zlC h2;omega
theorem zkh {i:Nat} (h:i<(toks s 0).length):hd ((toks s 0).drop i)=(toks s 0).getD i zkC:=by
 rw[List.drop_eq_getElem_cons h];simp[hd,List.getD_eq_getElem?_getD,h]
theorem zaY {i:Nat} (h:i<(toks s 0).length) (h0:(hd ((toks s 0).drop i)).2.size≠0):i+1<(toks s 0).length∧(toks s 0).drop (i+1)=adv ((toks s 0).drop i):=by
 have h2:=zcz (zaX (j:=i) h) h0;rw[List.length_drop] at h2;refine⟨by omega,?_⟩;rw[List.drop_eq_getElem_cons h];cases hq:(toks s 0).drop (i+1) with
 |nil=>have:=List.drop_eq_nil_iff.1 hq;omega
 |cons x l=>rfl
theorem RQ.t0 (h:RQ w base b s T cap i m ec ep vf ve vb vs):w.cell? ⟨T,i*2,none⟩=some (.int .i64 (hd ((toks s 0).drop i)).1):=by
 rw[h.tk.cellAt (i*2) (by have:=h.hi;omega),(zcR (toks s 0) i h.hi).1,zkh h.hi]
theorem RQ.t1 (h:RQ w base b s T cap i m ec ep vf ve vb vs):w.cell? ⟨T,i*2+1,none⟩=some (.string (hd ((toks s 0).drop i)).2):=by
 rw[h.tk.cellAt (i*2+1) (by have:=h.hi;omega),(zcR (toks s 0) i h.hi).2,zkh h.hi]
theorem RQ.caps (h:RQ w base b s T cap i m ec ep vf ve vb vs):(toks s 0).length≤cap:=by
 rcases h.tk.2 with⟨h1,_⟩|⟨g,cp,cur,h1,_,_,h2,_⟩
 ·cases h1
 ·cases h1;exact h2
theorem RQ.next (h:RQ w base b s T cap i m ec ep vf ve vb vs) (h0:(hd ((toks s 0).drop i)).2.size≠0):
  RQ (w.setCell ⟨b,0,none⟩ (.slice (some ⟨T,i*2+2,none⟩) ((toks s 0).length-i-1) (cap-i-1))) base b s T cap (i+1) m ec ep vf ve vb vs:=by
 have e:tokV s T cap (i+1)=.slice (some ⟨T,i*2+2,none⟩) ((toks s 0).length-i-1) (cap-i-1):=by
  unfold tokV;rw[show(i+1)*2=i*2+2 by omega,Nat.sub_sub,Nat.sub_sub]
 refine h.move (zaN w b 0 _) (zaY h.hi h0).1 ?_;rw[e];exact h.rr.rb.put0 _
variable {w w1 w':World} {base b:Nat} {s:ByteArray} {T cap i:Nat} {m:Met} {ec ep:Int} {vf ve vb:Value} {vs:List Value}
def tokA (t:Tok):Value:=.agg #[.int .i64 t.1,.string t.2]
theorem gtr {w w1 w2:World} {row:Option Nat} (h:w.grownBy w1 row) (k:w1.grownBy w2 row):w.grownBy w2 row:=
 ⟨k.os.trans h.os,k.tape.trans h.tape,k.output.trans h.output,qm h.size k.size,fun i hi hne=>(k.block i (Nat.lt_of_lt_of_le hi h.size) hne).trans (h.block i hi hne)⟩
theorem zf4 {w w':World} {base b:Nat} (h:w.grownBy w' (some b)) (h1:base≤w.heap.size) (h2:base≤b):Below base w w':=
 (qb base w).grown h h1 (fun k e=>by cases e;exact h2)
set_option maxRecDepth 100000 in
set_option maxHeartbeats 2000000 in
theorem fail_any (c:Int) (t:Tok) (h:RQ w base b s T cap i m ec ep vf ve vb vs):
  Calls Tryz.prog 128 #[.pointer (some ⟨b,0,none⟩),.int .i64 c,tokA t] w fun e w'=>e=.returned (.bool false)∧RQ w' base b s T cap i m c t.1 vf ve vb vs∧w.grownBy w' (some b):=by
 obtain⟨p,x⟩:=t;unfold tokA;simp only[];have hg:w.grownBy ((w.setCell ⟨b,4,none⟩ (.int .i64 c)).setCell ⟨b,5,none⟩ (.int .i64 p)) (some b):=zaV (zaN w b 4 _) (.inl rfl) _;have H1:=qh (h.move hg h.hi ((h.rr.rb.put4 c).put5 p));have Hb:=qh hg;have hbl:=h.bl;have c4:=h.rr.rb.c4;have c5:=h.rr.rb.c5;have z4:=h.rr.rb.z 4;have z5:=h.rr.rb.z 5;have Hs:=qh h.bs;clear h hg;go_enter Tryz.func128,Tryz.ntmps128;go_wp2_with fail;go_ret;exact⟨rfl,H1.out.below ((qb _ _).alloc (ql _) _),zb3 Hb.out _⟩
set_option maxRecDepth 100000 in
set_option maxHeartbeats 2000000 in
theorem zfw (A:Option Addr) (c:Nat) (l:List Way) (sg:ByteArray) (w:World) (hl:IsWays w w.heap.size A l) (hn:l.length≤4611686018427387904):
  Calls Tryz.prog 189 #[.slice A l.length c,.string sg] w fun e w'=>e=.returned (.bool (hasW l sg))∧Below w.heap.size w w':=by
 have Hl:=qh hl;clear hl;go_enter Tryz.func189,Tryz.ntmps189;go_wp2_with fail;go_loopw [9] (fun q wr=>∃k:Nat,k≤l.length∧q=.int .i64 k∧(l.take k).any (fun v=>eqS v.1 sg)=false∧Below w.heap.size w wr) (fun q _=>l.length-(intOf q).toNat)
 case atStart=>exact⟨0,by omega,rfl,by simp,qb _ _⟩
 case round=>
  rename_i wr;obtain⟨k,hk,rfl,hno,hb⟩:=hrel;by_cases hlt:k<l.length
  ·have hil:=Hl.out.below hb;obtain⟨g,o,hA,hg,hc⟩:=hil (by omega);obtain⟨c1,c2⟩:=hc k hlt;subst hA;have hs:=hb.size;have hst:=zbp l (fun v=>eqS v.1 sg) k hlt;have hhit:=zhi l (fun v=>eqS v.1 sg) k hlt;rw[hno,Bool.false_or] at hst;have Hst:=qh hst;have Hhit:=qh hhit;have Hno:=qh hno;clear hst hhit hno hc;have hqe:eqS (l.getD k default).1 sg=((l.getD k default).1.toList==sg.toList):=rfl;generalize l.getD k default=v at*;obtain⟨v1,v2⟩:=v;simp only[] at c1 c2 hqe Hst Hhit;have hbx:Below w.heap.size w (wr.alloc (.cells #[.string v1,.int .i64 v2] 83)):=hb.alloc hs _;have Hbx:=qh hbx;clear hbx;cases hq:eqS v1 sg with
   |true=>
    have hq2:(v1.toList==sg.toList)=true:=(by rw[←hqe,hq]);have Hq:=qh (Hhit.out hq);clear hq hqe;go_wp2_with fail;go_ret;refine⟨?_,Hbx.out⟩;unfold hasW;rw[Hq.out];rfl
   |false=>
    have hq2:(v1.toList==sg.toList)=false:=(by rw[←hqe,hq]);have Hq:=qh (Hst.out.trans hq);clear hq hqe;go_wp2_with fail;go_roundw
    case rel=>exact⟨k+1,by omega,by go_num,Hq.out,Hbx.out⟩
    case measure=>simp[intOf];omega
  ·obtain rfl:k=l.length:=by omega
   have Hno:=qh hno;clear hno;go_wp2_with fail;go_ret;refine⟨?_,hb⟩;have:=Hno.out;rw[List.take_length] at this;unfold hasW;rw[this];rfl
end Go.Proofs.YtgklikkddckgbaaGreatDoor
namespace Go.Proofs.YtgklikkddckgbaaGreatDoor
open Go.Lib
theorem zk3 {D:List UInt8} {j a:Nat} {c:UInt8} (hc:D[j]?=some c) (h1:48≤c.toNat) (h2:c.toNat≤57) (h:decFrom a (D.drop j)=decFrom 0 D):decFrom (a*10+(c.toNat-48)) (D.drop (j+1))=decFrom 0 D:=by
 obtain⟨hj,hc⟩:=List.getElem?_eq_some_iff.1 hc;rw[List.drop_eq_getElem_cons hj,hc] at h;rw[←h];have hd:digitVal c=some (c.toNat-48):=by
  unfold digitVal;first|rw[if_pos ⟨h1,h2⟩]|(rw[if_pos (by simp;omega)])|(simp[h1,h2])
 simp only[decFrom,hd]
theorem zl1 {D:List UInt8} {j a:Nat} {c:UInt8} (hc:D[j]?=some c) (h1:c.toNat<48∨57<c.toNat) (h:decFrom a (D.drop j)=decFrom 0 D):decFrom 0 D=none:=by
 obtain⟨hj,hc⟩:=List.getElem?_eq_some_iff.1 hc;rw[List.drop_eq_getElem_cons hj,hc] at h;rw[←h];have hd:digitVal c=none:=by
  unfold digitVal;first|rw[if_neg (by omega)]|(rw[if_neg (by simp;omega)])
 simp only[decFrom,hd]
theorem zl2 {t:ByteArray} (h:decFrom 0 (magL t.data.toList)=none):numB t=none:=by
 unfold numB;have:decNat (magL t.data.toList)=none:=by unfold decNat;split<;>simp[h]
 rw[this];split<;>(try rfl)
 split<;>rfl
theorem zl3 {t:ByteArray} {a:Nat} (hl:(magL t.data.toList).length≤18) (h:decFrom 0 (magL t.data.toList)=some a):numB t=if figB t=true∧itoa (zaG t.data.toList a)=t.data.toList then some (zaG t.data.toList a) else none:=by
 unfold numB;by_cases hf:figB t=true
 ·rw[if_pos hf,if_pos hl];by_cases he:magL t.data.toList=[]
  ·have e:t.data.toList=[45]:=by
    rcases zgb rfl hf with⟨r,e,hm⟩|⟨c,r,e,hm,_,_⟩
    ·unfold magL at he;rw[hm,e] at he;rw[e];simp at he;rw[he]
    ·unfold magL at he;rw[hm,e] at he;simp at he
   have ha:a=0:=(by rw[he] at h;simpa [decFrom] using h.symm);subst ha;have hd:decNat (magL t.data.toList)=none:=(by rw[he];rfl);rw[hd,if_neg];rintro⟨_,h2⟩;rw[e] at h2;exact absurd h2 (by decide+kernel)
  ·have hd:decNat (magL t.data.toList)=some a:=by
    unfold decNat;rw[if_neg (by simpa using he)];exact h
   rw[hd];simp only[];by_cases h2:itoa (zaG t.data.toList a)=t.data.toList
   ·rw[if_pos h2,if_pos ⟨hf,h2⟩]
   ·rw[if_neg h2,if_neg (fun h=>h2 h.2)]
 ·rw[if_neg hf,if_neg (fun h=>hf h.1)]
theorem zk4 {t:ByteArray} (h:18<(magL t.data.toList).length):numB t=none:=ze9 (by omega)
end Go.Proofs.YtgklikkddckgbaaGreatDoor
namespace Go.Proofs.YtgklikkddckgbaaGreatDoor
open Go.RowKit
theorem zeR:∀j,j<14→zd7[j*3]?=some (strL (zan j).1)∧zd7[j*3+1]?=some (strL (zan j).2.1)∧zd7[j*3+2]?=some (strL (zan j).2.2)
 |0,_=>⟨rfl,rfl,rfl⟩|1,_=>⟨rfl,rfl,rfl⟩|2,_=>⟨rfl,rfl,rfl⟩|3,_=>⟨rfl,rfl,rfl⟩|4,_=>⟨rfl,rfl,rfl⟩|5,_=>⟨rfl,rfl,rfl⟩|6,_=>⟨rfl,rfl,rfl⟩
 |7,_=>⟨rfl,rfl,rfl⟩|8,_=>⟨rfl,rfl,rfl⟩|9,_=>⟨rfl,rfl,rfl⟩|10,_=>⟨rfl,rfl,rfl⟩|11,_=>⟨rfl,rfl,rfl⟩|12,_=>⟨rfl,rfl,rfl⟩|13,_=>⟨rfl,rfl,rfl⟩
 |n+14,h=>by omega
end Go.Proofs.YtgklikkddckgbaaGreatDoor

import Derived.Test.YtgklikkddckgbaaGreatDoorLDE
/- Lemmas. -/
set_option linter.all false
set_option maxRecDepth 100000
set_option maxHeartbeats 4000000
namespace Go.Proofs.YtgklikkddckgbaaGreatDoor.Mo
open Go.RowKit
def zcB (s:ByteArray) (p:Nat):Bool:=pg s p 94||pg s p 64||pg s p 126
def toE (s:ByteArray) (k t:Nat):Nat:=if t<k then(if pY s t 48 57 then toE s k (t+1) else t) else t
termination_by k-t
theorem zbt {s:ByteArray} {k t:Nat} (h:¬(t<k/\pY s t 48 57=true)):toE s k t=t:=by
 unfold toE;split
 ·rw[qx (λe=>h ⟨by assumption,e⟩)]
 ·rfl
theorem zh5 {s:ByteArray} {k t:Nat} (h:t<k) (h2:pY s t 48 57=true):toE s k t=toE s k (t+1):=by
 conv=>lhs;unfold toE
 rw[qy h,qy h2]
def ZM (s:ByteArray) (p:Nat):Nat:=vF (yM s (p+1) (gV s (p+1) (p+1)))
def Xw (s:ByteArray) (line:Int) (k:Nat):Nat->Nat->Option Nat
 |0,_=>none
 |n+1,p=>if p<k then(if zcB s p&&decide (line<(ZM s p:Int)) then some p else Xw s line k n (p+1)) else none
def zh6 (s:ByteArray) (f k:Nat):Prop:=∀p,f<=p->p<k->zcB s p=true->toE s k (p+1)=gV s (p+1) (p+1)/\gV s (p+1) (p+1)≠p+1/\ZM s p<=512
def zmd (w:World) (r:Option Nat) (e:Ending) (w':World):Prop:=Below w.heap.size w w'/\
 match r with
 |some p=>e=vU 182 p
 |none=>e=.returned (.tuple #[])
theorem zdy (rb fb:Nat) (s:ByteArray) (k f:Nat) (line:Int) (gN:List UInt8) (cls ref:Int) (ms:List Mk) (a:Nat) (vh:Value) (Ah:Option Addr) (nh ch:Nat) (w:World) (h:Rd w rb fb s k) (hv:Vars w) (hvh:vh=.slice Ah nh ch) (hf:Qt ms=(f:Int)) (hfk:f<=k) (hn:zh6 s f k):
  Calls Tryz.prog 152 #[.pointer (some ⟨rb,0,none⟩),.agg (Qs gN cls ref ms a vh),.int .i64 line] w (zmd w (Xw s line k (k+1-f) f)):=by
 have hsz:=h.sz;have hle:=h.le;have hrb:=h.lt;subst hvh;unfold Qs;generalize hW1:w.alloc (.cells #[.int .i64 cls,.int .i64 ref,.int .i64 (ZL gN ms),.int .u8 (gY ms 58),.int .i64 (gY ms 47),.int .i64 (gY ms 94),.int .i64 (gY ms 64),.slice Ah nh ch,.int .i32 (gY ms 39),.int .i64 a,.int .i64 (Qt ms),.bool (pG ms 58),.bool (pG ms 47)] 108)=W1;have hB1:Below w.heap.size w W1:=by rw[<-hW1];exact(qb _ _).alloc (ql _) _
 have x10:W1.cell? ⟨w.heap.size,10,none⟩=some (.int .i64 f):=by rw[<-hf,<-hW1];exact qc _ _ 10 _ _ (0,0) (qn w _)
 rw[<-hW1] at x10;have HW1:=qh hW1;have HB1:=qh hB1;have HR:=qh (h.below hB1);have Hv:=qh hv;have Hn:=qh hn;generalize hR:Xw s line k (k+1-f) f=R;have Kk:=qh hR;clear h hv hB1 hW1 hf hn hR;go_enter Tryz.func152,Tryz.ntmps152;go_wp2_with fail;rw[HW1.out];go_loopw [6] (λq wr=>∃p:Nat,f<=p/\p<=k/\q=.int .i64 p/\Hid (Xw s line k (k+1-p) p=R)/\Hid (Below W1.heap.size W1 wr)) (λq _=>k-(intOf q).toNat)
 case atStart=>exact⟨f,ql _,hfk,rfl,Kk,qh (qb _ _)⟩
 case round=>
  obtain⟨p,hfp,hpk,rfl,hsc,hb⟩:=hrel;clear Kk x10;have hrd:=HR.out.below hb.out;obtain⟨r0,r1,r2,r3⟩:=hrd.cells;have Hrd:=qh hrd;clear hrd;by_cases hlt:p<k
  ·have hps:p<s.size:=(by omega);have hst:=hsc.out;rw[show k+1-p=(k+1-(p+1))+1 by omega] at hst;unfold Xw at hst;rw[qy hlt] at hst;have po:=qh hst;clear hst;have hw1:IntKind.i64.wrap ((p:Int)+1)=(p:Int)+1:=qi _ (by omega);cases hba:zcB s p with
   |false=>
    have hx:((s[p].toNat:Int)==94)=false/\((s[p].toNat:Int)==64)=false/\((s[p].toNat:Int)==126)=false:=by
     unfold zcB at hba;rw[QX hps,QX hps,QX hps] at hba;simp only[zM] at hba;exact⟨hba.1.1,hba.1.2,hba.2⟩
    obtain⟨e1,e2,e3⟩:=hx;have HR2:Hid (Xw s line k (k+1-(p+1)) (p+1)=R):=qh (by rw[<-po.out,hba];rfl);clear hba;go_wp2_with fail;go_roundw
    case rel=>exact⟨p+1,by omega,by omega,by go_num,HR2,hb⟩
    case measure=>simp[intOf];omega
   |true=>
    obtain⟨n1,n2,n3⟩:=Hn.out p hfp hlt hba;have Xx:=qh hba;have Hb0:=hb;have hx:((s[p].toNat:Int)==94)=true∨(((s[p].toNat:Int)==94)=false/\((s[p].toNat:Int)==64)=true)∨(((s[p].toNat:Int)==94)=false/\((s[p].toNat:Int)==64)=false/\((s[p].toNat:Int)==126)=true):=by
     unfold zcB at hba;rw[QX hps,QX hps,QX hps] at hba;cases h1:((s[p].toNat:Int)==94) with
     |true=>exact .inl rfl
     |false=>cases h2:((s[p].toNat:Int)==64) with
      |true=>exact .inr (.inl ⟨rfl,rfl⟩)
      |false=>rw[h1,h2] at hba;exact .inr (.inr ⟨rfl,rfl,by simpa using hba⟩)
    clear hba;rcases hx with e1|⟨e1,e2⟩|⟨e1,e2,e3⟩
    rotate_right
    rotate_right
    rotate_right
    all_goals
     go_wp2_with fail;clear r0 r1 r2 r3 hb Hrd hsc;go_loopw [7] (λt ws=>∃j:Nat,p+1<=j/\j<=k/\t=.int .i64 j/\Hid (toE s k j=gV s (p+1) (p+1))/\Hid (Below W1.heap.size W1 ws)) (λt _=>k-(intOf t).toNat)
     case atStart=>exact⟨p+1,ql _,by omega,by go_num,qh n1,Hb0⟩
     case round=>
      obtain⟨j,hpj,hjk,rfl,hE,hb2⟩:=hrel;have Qv:=HR.out.below hb2.out;obtain⟨r0,r1,r2,r3⟩:=Qv.cells;clear Qv;by_cases hjl:j<k
      ·have hjs:j<s.size:=(by omega);have hd0:decide ((j:Int)<(k:Int))=true:=qt (by omega);have hin:=Vp (a:=48) (b:=57) hjs;by_cases h1:48<=(s[j].toNat:Int)
       ·have hd1:decide (48<=(s[j].toNat:Int))=true:=qt h1;by_cases h2:(s[j].toNat:Int)<=57
        ·have hd2:decide ((s[j].toNat:Int)<=57)=true:=qt h2;have hE2:Hid (toE s k (j+1)=gV s (p+1) (p+1)):=qh (by rw[<-hE.out,zh5 hjl (by rw[hin,hd1,hd2];rfl)]);have hw2:IntKind.i64.wrap ((j:Int)+1)=(j:Int)+1:=qi _ (by omega);clear hin h1 h2 hE;go_wp2_with fail;go_roundw
         case rel=>exact⟨j+1,by omega,by omega,by go_num,hE2,hb2⟩
         case measure=>simp[intOf];omega
        ·have hd2:decide ((s[j].toNat:Int)<=57)=false:=qd h2;have Vr:j=gV s (p+1) (p+1):=(by rw[<-hE.out,zbt (λhh=>by rw[hin,hd1,hd2] at hh;exact absurd hh.2 (by simp))]);have XX:Hid (∀W,Below W1.heap.size W1 W->Calls Tryz.prog 149 #[.string (s.extract (p+1) j)] W (zcH (s.extract (p+1) j) (ZM s p) W)):=qh (λW hW=>by
          have:=zb1 s (p+1) (by omega) hsz n2 W (Hv.out.below (HB1.out.trans (hW.mono HB1.out.size)) Hv.out.six);rw[<-Vr] at this;unfold ZM;rw[<-Vr];exact this)
         have i1:(0:Int)<=(p:Int)+1:=(by omega);have i2:(p:Int)+1<=(j:Int):=(by omega);have i3:(j:Int)<=(s.size:Int):=(by omega);have i4:((p:Int)+1).toNat=p+1:=(by omega);clear Vr hE;clear hin h1 h2;go_wp2_with fail;refine(XX.out _ hb2.out).mono ?_;rintro e w9 ⟨pb,hres⟩;have pN:=qh (hb2.out.trans (pb.mono hb2.out.size));have hv1:e=.returned (.tuple #[.int .i64 (ZM s p),.nilIface]):=by
          rcases hres with⟨e1,_⟩|⟨e1,_⟩
          ·exact e1
          ·exfalso;have:(9223372036854775808:Nat)<=ZM s p:=e1;omega
         subst hv1;clear hres pb;by_cases hL:line<(ZM s p:Int)
         ·have HR2:Hid (R=some p):=qh (by rw[<-po.out,Xx.out,qK hL];rfl);have hd9:decide (line<(ZM s p:Int))=true:=qt hL;generalize ZM s p=V at*;clear hL;go_wp2_with fail;refine(gX 182 p _).mono ?_;rintro e ZN ⟨rfl,QF⟩;exact⟨rfl,HB1.out.trans ((pN.out.trans (QF.mono pN.out.size)).mono HB1.out.size),by rw[HR2.out];rfl⟩
         ·have HR2:Hid (Xw s line k (k+1-(p+1)) (p+1)=R):=qh (by rw[<-po.out,Xx.out,zh hL];rfl);have hd9:decide (line<(ZM s p:Int))=false:=qd hL;generalize ZM s p=V at*;clear hL;go_wp2_with fail;go_roundw
          case rel=>exact⟨p+1,by omega,by omega,by go_num,HR2,pN⟩
          case measure=>simp[intOf];omega
       ·have hd1:decide (48<=(s[j].toNat:Int))=false:=qd h1;have Vr:j=gV s (p+1) (p+1):=(by rw[<-hE.out,zbt (λhh=>by rw[hin,hd1] at hh;exact absurd hh.2 (by simp))]);have XX:Hid (∀W,Below W1.heap.size W1 W->Calls Tryz.prog 149 #[.string (s.extract (p+1) j)] W (zcH (s.extract (p+1) j) (ZM s p) W)):=qh (λW hW=>by
         have:=zb1 s (p+1) (by omega) hsz n2 W (Hv.out.below (HB1.out.trans (hW.mono HB1.out.size)) Hv.out.six);rw[<-Vr] at this;unfold ZM;rw[<-Vr];exact this)
        have i1:(0:Int)<=(p:Int)+1:=(by omega);have i2:(p:Int)+1<=(j:Int):=(by omega);have i3:(j:Int)<=(s.size:Int):=(by omega);have i4:((p:Int)+1).toNat=p+1:=(by omega);clear Vr hE;clear hin h1;go_wp2_with fail;refine(XX.out _ hb2.out).mono ?_;rintro e w9 ⟨pb,hres⟩;have pN:=qh (hb2.out.trans (pb.mono hb2.out.size));have hv1:e=.returned (.tuple #[.int .i64 (ZM s p),.nilIface]):=by
         rcases hres with⟨e1,_⟩|⟨e1,_⟩
         ·exact e1
         ·exfalso;have:(9223372036854775808:Nat)<=ZM s p:=e1;omega
        subst hv1;clear hres pb;by_cases hL:line<(ZM s p:Int)
        ·have HR2:Hid (R=some p):=qh (by rw[<-po.out,Xx.out,qK hL];rfl);have hd9:decide (line<(ZM s p:Int))=true:=qt hL;generalize ZM s p=V at*;clear hL;go_wp2_with fail;refine(gX 182 p _).mono ?_;rintro e ZN ⟨rfl,QF⟩;exact⟨rfl,HB1.out.trans ((pN.out.trans (QF.mono pN.out.size)).mono HB1.out.size),by rw[HR2.out];rfl⟩
        ·have HR2:Hid (Xw s line k (k+1-(p+1)) (p+1)=R):=qh (by rw[<-po.out,Xx.out,zh hL];rfl);have hd9:decide (line<(ZM s p:Int))=false:=qd hL;generalize ZM s p=V at*;clear hL;go_wp2_with fail;go_roundw
         case rel=>exact⟨p+1,by omega,by omega,by go_num,HR2,pN⟩
         case measure=>simp[intOf];omega
      ·have hd0:decide ((j:Int)<(k:Int))=false:=qd (by omega);have Vr:j=gV s (p+1) (p+1):=(by rw[<-hE.out,zbt (λhh=>absurd hh.1 hjl)]);have XX:Hid (∀W,Below W1.heap.size W1 W->Calls Tryz.prog 149 #[.string (s.extract (p+1) j)] W (zcH (s.extract (p+1) j) (ZM s p) W)):=qh (λW hW=>by
        have:=zb1 s (p+1) (by omega) hsz n2 W (Hv.out.below (HB1.out.trans (hW.mono HB1.out.size)) Hv.out.six);rw[<-Vr] at this;unfold ZM;rw[<-Vr];exact this)
       have i1:(0:Int)<=(p:Int)+1:=(by omega);have i2:(p:Int)+1<=(j:Int):=(by omega);have i3:(j:Int)<=(s.size:Int):=(by omega);have i4:((p:Int)+1).toNat=p+1:=(by omega);clear Vr hE;go_wp2_with fail;refine(XX.out _ hb2.out).mono ?_;rintro e w9 ⟨pb,hres⟩;have pN:=qh (hb2.out.trans (pb.mono hb2.out.size));have hv1:e=.returned (.tuple #[.int .i64 (ZM s p),.nilIface]):=by
        rcases hres with⟨e1,_⟩|⟨e1,_⟩
        ·exact e1
        ·exfalso;have:(9223372036854775808:Nat)<=ZM s p:=e1;omega
       subst hv1;clear hres pb;by_cases hL:line<(ZM s p:Int)
       ·have HR2:Hid (R=some p):=qh (by rw[<-po.out,Xx.out,qK hL];rfl);have hd9:decide (line<(ZM s p:Int))=true:=qt hL;generalize ZM s p=V at*;clear hL;go_wp2_with fail;refine(gX 182 p _).mono ?_;rintro e ZN ⟨rfl,QF⟩;exact⟨rfl,HB1.out.trans ((pN.out.trans (QF.mono pN.out.size)).mono HB1.out.size),by rw[HR2.out];rfl⟩
       ·have HR2:Hid (Xw s line k (k+1-(p+1)) (p+1)=R):=qh (by rw[<-po.out,Xx.out,zh hL];rfl);have hd9:decide (line<(ZM s p:Int))=false:=qd hL;generalize ZM s p=V at*;clear hL;go_wp2_with fail;go_roundw
        case rel=>exact⟨p+1,by omega,by omega,by go_num,HR2,pN⟩
        case measure=>simp[intOf];omega
  ·obtain rfl:p=k:=by omega
   have HR2:Hid (R=none):=qh (by
    have:=hsc.out;rw[show p+1-p=0+1 by omega] at this;unfold Xw at this;rw[qx (by omega)] at this;exact this.symm)
   go_wp2_with fail;refine q9 (qI rfl _ _ _) rfl ?_;exact⟨HB1.out.trans (hb.out.mono HB1.out.size),by rw[HR2.out]⟩
def Xj (s:ByteArray) (m:Mk):Nat:=if m.sign=58∨m.sign=39 then m.at_+2 else gV s (m.at_+1) (m.at_+1)
structure zmU (s:ByteArray) (m:Mk):Prop where
 ok:uw m
 sg:pg s m.at_ m.sign=true
 lt:m.sign=58∨m.sign=39->pY s (m.at_+1) 97 122=true
 nm:¬(m.sign=58∨m.sign=39)->gV s (m.at_+1) (m.at_+1)≠m.at_+1/\(vF (yM s (m.at_+1) (gV s (m.at_+1) (m.at_+1))):Int)=m.n
def ze5 (s:ByteArray):List Mk->Nat->Nat->Prop
 |[],i,k=>i=k
 |m::l,i,k=>m.at_=i/\zmU s m/\ze5 s l (Xj s m) k
theorem zgv {s:ByteArray}:∀{ms:List Mk} {i k:Nat} {m:Mk},ze5 s ms i k->m.at_=k->zmU s m->ze5 s (ms++[m]) i (Xj s m)
 |[],i,k,m,h,ha,hm=>by
  have e:i=k:=h;exact⟨by rw[e];exact ha,hm,rfl⟩
 |x::l,i,k,m,h,ha,hm=>⟨h.1,h.2.1,zgv h.2.2 ha hm⟩
theorem zdz {s:ByteArray} {m:Mk} (h:zmU s m):m.at_<Xj s m/\Xj s m<=s.size:=by
 have hs:=XV h.sg;unfold Xj;by_cases hl:m.sign=58∨m.sign=39
 ·rw[qy hl];have:=zb7 (h.lt hl);omega
 ·rw[qx hl];have:=Vq (s:=s) (m.at_+1) (m.at_+1) (by omega);omega
theorem zeD {s:ByteArray}:∀{ms:List Mk} {i k:Nat},ze5 s ms i k->i<=k
 |[],i,k,h=>Nat.le_of_eq h
 |m::l,i,k,h=>by
  have h1:=h.1;have h2:=(zdz h.2.1).1;have:=zeD h.2.2;omega
theorem zff (m:Mk) (h:Xr m=true):m.sign=94∨m.sign=64∨m.sign=126:=by
 unfold Xr at h;simp only[kG,yC] at h;omega
theorem zeE {s:ByteArray} {m:Mk} (h:zmU s m):zcB s m.at_=Xr m:=by
 have hi:=XV h.sg;have hb:=zdp h.sg;rw[Z3 hi] at hb;unfold zcB Xr;rw[QX hi,QX hi,QX hi,hb]
theorem zfg {s:ByteArray} {m:Mk} (h:zmU s m) (p:Nat) (h1:m.at_<p) (h2:p<Xj s m):zcB s p=false:=by
 have hk:=zdz h;have hp:p<s.size:=by omega
 have key:∀a b:Int,pY s p a b=true->(b<64∨(94<a/\b<126))->zcB s p=false:=by
  intro a b hin hab;rw[Vp hp] at hin;simp only[qA,qC] at hin;unfold zcB;rw[QX hp,QX hp,QX hp];simp only[zM,zw];omega
 unfold Xj at h2;by_cases hl:m.sign=58∨m.sign=39
 ·rw[qy hl] at h2;have:p=m.at_+1:=by omega
  rw[this];rw[this] at key;exact key 97 122 (h.lt hl) (.inr (by omega))
 ·rw[qx hl] at h2;have hd:=zhX (s:=s) (a:=m.at_+1) _ (m.at_+1) rfl p (by omega) h2;unfold vc at hd;rw[qA] at hd;exact key 48 57 hd.1 (.inl (by omega))
theorem zjz (s:ByteArray) (a:Nat) (h:pg s a 48=true):vF (yM s a (gV s a a))=0:=by
 have hi:=XV h;have hd:vc s a a=true:=by
  unfold vc;rw[Vp hi];have hb:((s[a].toNat:Int)==48)=true:=by rw[QX hi] at h;exact h
  have:(s[a].toNat:Int)=48:=by simpa using hb
  rw[this];simp
 have h2:vc s a (a+1)=false:=by
  unfold vc;rw[h];simp
 have e:gV s a a=a+1:=by rw[zbZ hd,zaZ h2]
 rw[e];unfold yM;have hl:a<s.data.toList.length:=by rw[qS];exact hi
 rw[show a+1-a=1 by omega,zm hl];have hb:s[a].toNat=48:=by
  rw[QX hi] at h;have:(s[a].toNat:Int)=48:=by simpa using h
  omega
 have hg:s.data.toList[a]'hl=s[a]:=rfl;rw[hg];show 10*0+(s[a].toNat-48)=0;omega
theorem zlQ {s:ByteArray} {a k:Nat} (hz:pg s a 48=false):∀(n i:Nat),k-i=n->a<=i->i<=k->gV s a i<=k->k<=s.size->toE s k i=gV s a i:=by
 intro n;induction n with
 |zero=>
  intro i h1 h2 h3 h4 h5;have:i=k:=by omega
  subst this;rw[zbt (by omega)];cases hd:vc s a i with
  |false=>rw[zaZ hd]
  |true=>
   have hlt:i<s.size:=(by unfold vc at hd;rw[qA] at hd;exact zb7 hd.1);rw[zbZ hd] at h4;have:=(Vq (s:=s) a (i+1) (by omega)).1;omega
 |succ n ih=>
  intro i h1 h2 h3 h4 h5;cases hd:vc s a i with
  |false=>
   have hin:pY s i 48 57=false:=by
    unfold vc at hd;rw[hz] at hd;simpa using hd
   rw[zaZ hd,zbt (by rw[hin];simp)]
  |true=>
   have hin:pY s i 48 57=true:=by
    unfold vc at hd;rw[qA] at hd;exact hd.1
   rw[zbZ hd] at h4|-;rw[zh5 (by omega) hin];exact ih (i+1) (by omega) (by omega) (by omega) h4 h5
theorem zlm {s:ByteArray} {m:Mk} (h:zmU s m) (hb:Xr m=true):(ZM s m.at_:Int)=m.n/\gV s (m.at_+1) (m.at_+1)≠m.at_+1/\ZM s m.at_<=512/\Xj s m=gV s (m.at_+1) (m.at_+1)/\pg s (m.at_+1) 48=false:=by
 have hs:=zff m hb;have hl:¬(m.sign=58∨m.sign=39):=by omega
 have hn:=h.nm hl;have hk:=h.ok.nm (by omega) (by omega);have hv:(ZM s m.at_:Int)=m.n:=hn.2;refine⟨hv,hn.1,by omega,by unfold Xj;rw[qx hl],?_⟩;cases hz:pg s (m.at_+1) 48 with
 |false=>rfl
 |true=>
  have:=zjz s _ hz;have e:ZM s m.at_=0:=this;omega
theorem zgw {s:ByteArray}:∀{ms:List Mk} {i k:Nat},ze5 s ms i k->k<=s.size->∀p,i<=p->p<k->zcB s p=true->∃m∈ms,m.at_=p/\Xr m=true/\zmU s m/\Xj s m<=k
 |[],i,k,h,_,p,h1,h2,_=>by have e:i=k:=h;omega
 |m::l,i,k,h,hk,p,h1,h2,hb=>by
  obtain⟨ha,hm,hl⟩:=h;have hle:=zeD hl;by_cases hp:p=i
  ·subst hp;rw[<-ha,zeE hm] at hb;exact⟨m,jz ..,ha,hb,hm,hle⟩
  ·by_cases hlt:p<Xj s m
   ·rw[zfg hm p (by omega) hlt] at hb;cases hb
   ·obtain⟨x,hx,a1,a2,a3,a4⟩:=zgw hl hk p (by omega) h2 hb;exact⟨x,zN _ hx,a1,a2,a3,a4⟩
theorem zjA {s:ByteArray} {ms:List Mk} {i k:Nat} (h:ze5 s ms i k) (hk:k<=s.size):zh6 s i k:=by
 intro p h1 h2 hb;obtain⟨m,_,ha,hbm,hm,hmk⟩:=zgw h hk p h1 h2 hb;subst ha;obtain⟨e1,e2,e3,e4,e5⟩:=zlm hm hbm;refine⟨?_,e2,e3⟩;rw[e4] at hmk;exact zlQ e5 _ _ rfl (ql _) (by omega) hmk hk
theorem zgx {s:ByteArray} {line:Int} {k:Nat}:∀(d n p:Nat),p+d<=k->(∀q,p<=q->q<p+d->zcB s q=false)->Xw s line k (n+d) p=Xw s line k n (p+d)
 |0,n,p,_,_=>rfl
 |d+1,n,p,hk,h=>by
  have e:Xw s line k (n+(d+1)) p=Xw s line k (n+d) (p+1):=by
   rw[show n+(d+1)=(n+d)+1 by omega];conv=>lhs;unfold Xw
   rw[qy (by omega),h p (Nat.le_refl _) (by omega)];rfl
  rw[e,show p+(d+1)=(p+1)+d by omega];exact zgx d n (p+1) (by omega) λq h1 h2=>h q (by omega) (by omega)
def ul (line:Int) (m:Mk):Bool:=Xr m&&decide (line<m.n)
theorem zgy {s:ByteArray} {line:Int}:∀{ms:List Mk} {i k:Nat} (n:Nat),ze5 s ms i k->k<i+n->Xw s line k n i=(ms.find? (ul line)).map (·.at_)
 |[],i,k,0,h,hn=>by have e:i=k:=h;omega
 |[],i,k,n+1,h,hn=>by
  have e:i=k:=h;unfold Xw;rw[qx (by omega)];rfl
 |m::l,i,k,0,h,hn=>by have:=zeD h;omega
 |m::l,i,k,n+1,h,hn=>by
  obtain⟨ha,hm,hl⟩:=h;have hle:=zeD hl;have hgt:=zdz hm;have hik:i<k:=by omega
  have hbs:=zeE hm;rw[ha] at hbs;have step:Xw s line k n (i+1)=(l.find? (ul line)).map (·.at_):=by
   have e1:n=(n-(Xj s m-(i+1)))+(Xj s m-(i+1)):=(by omega);rw[e1,zgx (Xj s m-(i+1)) _ (i+1) (by omega) (λq h1 h2=>zfg hm q (by omega) (by omega)),show i+1+(Xj s m-(i+1))=Xj s m by omega];exact zgy _ hl (by omega)
  conv=>lhs;unfold Xw
  rw[qy hik,hbs,zZ];cases hb:Xr m with
  |false=>
   have hf:ul line m=false:=(by unfold ul;rw[hb];rfl);rw[hf];simp only[yF,kC,yG];exact step
  |true=>
   have hv:=(zlm hm hb).1;rw[ha] at hv;rw[hv];have hf:ul line m=decide (line<m.n):=(by unfold ul;rw[hb];rfl);rw[hf];by_cases hL:line<m.n
   ·rw[qK hL];simp[ha]
   ·rw[zh hL];simp only[xJ,kC,yG];exact step
theorem zfh {s:ByteArray} {line:Int}:∀{ms:List Mk} {i k f:Nat},ze5 s ms i k->k<=s.size->Qt ms=(f:Int)->i<=f/\f<=k/\zh6 s f k/\Xw s line k (k+1-f) f=(ms.find? (ul line)).map (·.at_)
 |[],i,k,f,h,_,hf=>by
  have e:Qt []= -1:=rfl;rw[e] at hf;omega
 |m::l,i,k,f,h,hk,hf=>by
  have hlaid:=h;obtain⟨ha,hm,hl⟩:=h;have hle:=zeD hl;have hgt:=zdz hm;unfold Qt at hf;rw[zZ] at hf;cases hb:Xr m with
  |true=>
   rw[hb] at hf;have e:m.at_=f:=(by have h2:(m.at_:Int)=(f:Int):=hf;omega);have ef:f=i:=(by omega);subst ef;exact⟨ql _,by omega,zjA hlaid hk,zgy _ hlaid (by omega)⟩
  |false=>
   rw[hb] at hf;have hf2:Qt l=(f:Int):=hf;obtain⟨h1,h2,h3,h4⟩:=zfh (line:=line) hl hk hf2;refine⟨by omega,h2,h3,?_⟩;rw[h4,zZ];have hf:ul line m=false:=(by unfold ul;rw[hb];rfl);rw[hf]
theorem zln {s:ByteArray} {i j:Nat} {c v:Int} (hs:pg s i c=true) (hc:c=47∨c=94∨c=64∨c=126) (h:yL s 1 (i+1)=.ok (v,j)):zmU s ⟨c,v,i⟩/\j=Xj s ⟨c,v,i⟩:=by
 have hbd:=zey h;have hl:¬((⟨c,v,i⟩:Mk).sign=58∨(⟨c,v,i⟩:Mk).sign=39):=by show¬(c=58∨c=39);omega
 unfold yL at h;split at h
 ·cases h
 ·rename_i hne;split at h
  ·cases h
  ·cases h;refine⟨⟨⟨by show c=58∨c=47∨c=94∨c=64∨c=126∨c=39;omega,λe=>absurd e hl,λ_ _=>hbd⟩,hs,λe=>absurd e hl,λ_=>⟨hne,rfl⟩⟩,?_⟩;unfold Xj;rw[qx hl]
theorem zlo {s:ByteArray} {i:Nat} {c:Int} (hs:pg s i c=true) (hc:c=58∨c=39) (h:pY s (i+1) 97 122=true):zmU s ⟨c,(gZ s (i+1)).toNat,i⟩/\i+2=Xj s ⟨c,(gZ s (i+1)).toNat,i⟩:=by
 have hl:(⟨c,((gZ s (i+1)).toNat:Int),i⟩:Mk).sign=58∨(⟨c,((gZ s (i+1)).toNat:Int),i⟩:Mk).sign=39:=hc;refine⟨⟨⟨by show c=58∨c=47∨c=94∨c=64∨c=126∨c=39;omega,λ_=>zh1 h,λe1 e2=>by have h1:c≠58:=e1;have h2:c≠39:=e2;omega⟩,hs,λ_=>h,λe=>absurd hl e⟩,?_⟩;unfold Xj;rw[qy hl]
theorem zcW {s:ByteArray} {gN:List UInt8} {ms:List Mk} {i j:Nat} {m:Mk} (hi:i<s.size) (hs:zd9 (gZ s i)=true) (h:QY s gN ms i=.ok (m,j)):m.at_=i/\zmU s m/\j=Xj s m:=by
 have hb:∀c:UInt8,gZ s i=c->pg s i c.toNat=true:=λc e=>by rw[QX hi,<-Z3 hi,e];simp
 have num:∀c:Int,pg s i c=true->(c=47∨c=94∨c=64)->m.at_=i/\zmU s m/\j=Xj s m:=by
  intro c hc h3;rw[zdq hc (by omega) (by omega) (by omega)] at h;split at h
  ·cases h
  ·cases hN:yL s 1 (i+1) with
   |error e=>rw[hN] at h;cases h
   |ok vj=>
    obtain⟨v,j'⟩:=vj;rw[hN] at h;cases h;obtain⟨h1,h2⟩:=zln hc (by omega) hN;exact⟨rfl,h1,h2⟩
 rcases zcV (gZ s i) with⟨_,hc⟩|⟨hf,_⟩
 ·rcases hc with⟨e,_⟩|⟨e,_⟩|⟨e,_⟩|⟨e,_⟩|⟨e,_⟩|⟨e,_⟩
  ·have hc:pg s i 58=true:=hb _ e;rw[zez hc] at h;split at h
   ·cases h
   ·split at h
    ·rename_i hin;split at h
     ·cases h
     ·cases h;obtain⟨h1,h2⟩:=zlo hc (.inl rfl) hin;exact⟨rfl,h1,h2⟩
    ·cases h
  ·exact num 47 (hb _ e) (.inl rfl)
  ·exact num 94 (hb _ e) (.inr (.inl rfl))
  ·exact num 64 (hb _ e) (.inr (.inr rfl))
  ·have hc:pg s i 126=true:=hb _ e;rw[zgu hc] at h;split at h
   ·cases h
   ·cases hN:yL s 1 (i+1) with
    |error e=>rw[hN] at h;cases h
    |ok vj=>
     obtain⟨v,j'⟩:=vj;rw[hN] at h;unfold zkK at h;simp only[] at h;split at h
     ·cases h
     ·cases h;obtain⟨h1,h2⟩:=zln hc (by omega) hN;exact⟨rfl,h1,h2⟩
  ·have hc:pg s i 39=true:=hb _ e;rw[zd1 hc] at h;split at h
   ·cases h
   ·split at h
    ·rename_i hin;cases h;obtain⟨h1,h2⟩:=zlo hc (.inr rfl) hin;exact⟨rfl,h1,h2⟩
    ·cases h
 ·rw[hs] at hf;cases hf
theorem zdP {s:ByteArray} {gN:List UInt8} {ms:List Mk} {i j:Nat} {m:Mk} (h:QY s gN ms i=.ok (m,j)):m.sign=((gZ s i).toNat:Int)/\(pg s i 126=false->pO ms m.sign=0):=by
 unfold QY at h;by_cases hm:(if pg s i 126=true then 4 else 1)<=pO ms (gZ s i).toNat
 ·rw[qy hm] at h;cases h
 ·rw[qx hm] at h;have hs:m.sign=((gZ s i).toNat:Int):=by
   split at h
   ·split at h
    ·cases h
    ·split at h
     ·cases h
     ·cases h;rfl
   ·cases hN:yL s 1 (i+1) with
    |error e=>rw[hN] at h;cases h
    |ok ve=>
     obtain⟨v,e⟩:=ve;rw[hN] at h;simp only[] at h;split at h
     ·cases h
     ·cases h;rfl
  refine⟨hs,λhb=>?_⟩;rw[hb] at hm;rw[hs];simp at hm;exact hm
theorem zdA (ms:List Mk) (m:Mk) (c:Int):pO (ms++[m]) c=pO ms c+if m.sign=c then 1 else 0:=by
 unfold pO;rw[jy];congr 1
 by_cases h:m.sign=c
 ·simp[h]
 ·simp[h]
theorem zme {ms:List Mk} {c:Int} (h:pO ms c<=1) {m:Mk} (hm:m∈ms) (hs:m.sign=c):gY ms c=m.n:=by
 induction ms with
 |nil=>cases hm
 |cons x l ih=>
  unfold gY;rw[zZ];by_cases hx:x.sign=c
  ·have e:(x.sign==c)=true:=(by simpa using hx);rw[e];rcases zi.1 hm with rfl|hl
   ·rfl
   ·exfalso
    have h':List.countP (λm:Mk=>m.sign==c) (x::l)<=1:=h;rw[yw,qy e] at h';have:0<List.countP (λm:Mk=>m.sign==c) l:=xE.2 ⟨m,hl,by simpa using hs⟩;omega
  ·have e:(x.sign==c)=false:=(by simpa using hx);rw[e];rcases zi.1 hm with rfl|hl
   ·exact absurd hs hx
   ·have h2:pO l c<=1:=by
     have h':List.countP (λm:Mk=>m.sign==c) (x::l)<=1:=h;rw[yw,qx (by rw[e];simp)] at h';exact h'
    exact ih h2 hl
theorem zfU {ms:List Mk} {line:Int} (hl:0<=line) (h94:pO ms 94<=1) (h64:pO ms 64<=1):ms.find? (ul line)=none<->∀n∈gY ms 94::gY ms 64::pA ms,n<=line:=by
 rw[kW];constructor
 ·intro h n hn;have key:∀c:Int,(c=94∨c=64)->gY ms c<=line:=by
   intro c hc;unfold gY;cases hf:ms.find? (λm=>m.sign==c) with
   |none=>exact hl
   |some x=>
    have hx:=zn hf;have hs:x.sign=c:=(by have:=kH hf;simpa using this);have:=h x hx;unfold ul Xr at this;rw[hs] at this;rcases hc with rfl|rfl<;>simpa using this
  rcases zi.1 hn with rfl|hn
  ·exact key 94 (.inl rfl)
  ·rcases zi.1 hn with rfl|hn
   ·exact key 64 (.inr rfl)
   ·unfold pA at hn;obtain⟨x,hx,rfl⟩:=ky.1 hn;obtain⟨hx1,hx2⟩:=xB.1 hx;have:=h x hx1;unfold ul Xr at this;have hs:x.sign=126:=(by simpa using hx2);rw[hs] at this;simpa using this
 ·intro h m hm hf;unfold ul at hf;rw[qA,qC] at hf;obtain⟨hb,hlt⟩:=hf;rcases zff m hb with hs|hs|hs
  ·have:=h _ (jz ..);rw[zme h94 hm hs] at this;omega
  ·have:=h (gY ms 64) (by simp);rw[zme h64 hm hs] at this;omega
  ·have:m.n∈pA ms:=by
    unfold pA;exact ky.2 ⟨m,xB.2 ⟨hm,by simp[hs]⟩,rfl⟩
   have:=h m.n (by simp[this]);omega
def zgz (s:ByteArray) (line:Int) (i:Nat) (cls ref:Int) (r:Except (Int×Nat) (List Mk×Nat)):Except (Int×Nat) (It×Nat):=match r with
 |.error e=>.error e
 |.ok (ms,k)=>if¬vG s k/\¬pg s k 32 then .error (180,k)
  else match(if 0<=line then ms.find? (ul line) else none) with
   |some m=>.error (182,m.at_)
   |none=>.ok (⟨cls,ref,ms,i⟩,k)
theorem ziJ {s:ByteArray} {gN:List UInt8} {line:Int} {i:Nat} {cls ref:Int} {j:Nat} (h:QH s i=.ok (cls,ref,j)):Kj s gN line i=zgz s line i cls ref (QV s gN (s.size+1) [] j):=by
 unfold Kj zgz;rw[h];rfl
theorem zgA {P:Program} {a:Act} {w:World} {Q:Exit->Act->World->Prop} {c r0:Code} (h0:findLabel c 0=some (Code.skip.seq r0)) (J:Nat->Act->World->Prop)
  (p0:∀g a w,J g a w->r0.wp P (zc7 (λl a w=>l=0/\∃g',g'<g/\J g' a w) Q) a w)
  (first:(∀g a w,J g a w->r0.wp P (zc7 (λl a w=>l=0/\∃g',J g' a w) Q) a w)->c.wp P (zc7 (λl a w=>l=0/\∃g',J g' a w) Q) a w):(Code.scope c).wp P Q a w:=by
 refine zbY (λl g a w=>l=0/\J g a w) (km (zaU λl a w h=>?_) (first λg a w hj=>km (zaU λl a w h=>?_) (p0 g a w hj))) ?_
 ·obtain⟨rfl,g',hj⟩:=h;exact⟨g',rfl,hj⟩
 ·obtain⟨rfl,g',_,hj⟩:=h;exact⟨rfl,g',hj⟩
 ·rintro l g a w ⟨rfl,hj⟩;refine⟨_,h0,zcj (km (zaU λl a w h=>?_) (p0 g a w hj))⟩;obtain⟨rfl,g',hlt,hj'⟩:=h;exact⟨g',hlt,rfl,hj'⟩
theorem zjB (f:Nat->Value):#[f 0,f 1,f 2,f 3,f 4,f 5,f 6,f 7,f 8,f 9,f 10,f 11,f 12,f 13,f 14,f 15,f 16,f 17,f 18,f 19,f 20,f 21,f 22,f 23,f 24,f 25,f 26,f 27,f 28,f 29,f 30,f 31,f 32,f 33,f 34,f 35,f 36,f 37,f 38,f 39,f 40,f 41,f 42,f 43,f 44,f 45,f 46,f 47,f 48,f 49,f 50,f 51,f 52,f 53,f 54,f 55,f 56]=((List.range 57).map f).toArray:=rfl
theorem zhq (t:Array Value) (h:t.size=57):t=((List.range 57).map λn=>t.getD n undef).toArray:=by
 apply Array.ext
 ·simp[h]
 ·intro i h1 h2;simp[Array.getD,h1]
def JZ (rb P:Nat) (line:Int) (a:Act):Prop:=∃f:Nat->Value,a={tmps:=#[.pointer (some ⟨rb,0,none⟩),.int .i64 line,f 2,f 3,.pointer (some ⟨P,0,none⟩),.pointer (some ⟨P+1,0,none⟩),f 6,f 7,f 8,f 9,f 10,f 11,f 12,f 13,f 14,f 15,f 16,f 17,f 18,f 19,f 20,f 21,f 22,f 23,f 24,f 25,f 26,f 27,f 28,f 29,f 30,f 31,f 32,f 33,f 34,f 35,f 36,f 37,f 38,f 39,f 40,f 41,f 42,f 43,f 44,f 45,f 46,f 47,f 48,f 49,f 50,f 51,f 52,f 53,f 54,f 55,f 56],defers:=[]}
theorem JZ.of {rb P:Nat} {line:Int} {a:Act} (hd:a.defers=[]) (hs:a.tmps.size=57) (h0:a.tmps.getD 0 undef=.pointer (some ⟨rb,0,none⟩)) (h1:a.tmps.getD 1 undef=.int .i64 line) (h4:a.tmps.getD 4 undef=.pointer (some ⟨P,0,none⟩)) (h5:a.tmps.getD 5 undef=.pointer (some ⟨P+1,0,none⟩)):JZ rb P line a:=by
 refine⟨λn=>a.tmps.getD n undef,?_⟩;have e:=(zhq a.tmps hs).trans (zjB λn=>a.tmps.getD n undef).symm;obtain⟨t,d⟩:=a;simp only[] at*;rw[h0,h1,h4,h5] at e;rw[hd,<-e]
theorem Off.new {rb:Nat} {L:List Nat} {w W W2:World} (h:Off [rb] w W) (h2:Off L W W2) (hl:∀k∈L,k=rb∨w.heap.size<=k):Off [rb] w W2:=
 ⟨h2.os.trans h.os,h2.tape.trans h.tape,h2.output.trans h.output,qm h.size h2.size,λk hk hn=>(h2.block k (by have:=h.size;omega) (λhm=>by
  rcases hl k hm with e|e
  ·exact hn (by simp[e])
  ·omega)).trans (h.block k hk hn)⟩
def zC:Array Value:=#[.int .i64 0,.int .i64 0,.int .i64 0,.int .u8 0,.int .i64 0,.int .i64 0,.int .i64 0,.slice none 0 0,.int .i32 0,.int .i64 0,.int .i64 0,.bool false,.bool false]
structure ItJ (w0 W:World) (rb fb:Nat) (s:ByteArray) (gN:List UInt8) (cls ref:Int) (i j0:Nat) (ms:List Mk) (j:Nat) (vh:Value):Prop where
 rd:Rd W rb fb s j
 it:Xh W w0.heap.size (w0.heap.size+1) gN cls ref ms i vh
 laid:ze5 s ms j0 j
 off:Off [rb] w0 W
 res:W.heap[w0.heap.size]?=some (.cells zC 108 (0,0))
 one:pO ms 94<=1/\pO ms 64<=1
def zjC (rb fb:Nat) (s:ByteArray) (gN:List UInt8) (w:World) (r:Except (Int×Nat) (It×Nat)) (e:Ending) (w':World):Prop:=Off [rb] w w'/\
 match r with
 |.error (c,p)=>e=vU c p
 |.ok (x,k)=>∃vh,e=.returned (.agg (Qs gN x.cls x.ref x.gP x.at_ vh))/\Rd w' rb fb s k/\w'.ownsRow w.heap.size 3 1 vh (pA x.gP).length (vY (pA x.gP))/\∀m∈x.gP,uw m
theorem zjD {rb fb:Nat} {s:ByteArray} {gN:List UInt8} {cls ref line:Int} {i j0 j f:Nat} {ms:List Mk} {vh:Value} {w W w2 w3:World} {e:Ending} {R:Except (Int×Nat) (It×Nat)} (hj:ItJ w W rb fb s gN cls ref i j0 ms j vh) (hb2:Below W.heap.size W w2) (hjs:j<s.size) (hsg:zd9 (gZ s j)=true)
  (hf:s.size<f+j) (hT:zgz s line i cls ref (QV s gN f ms j)=R) (hrb:rb<w.heap.size) (hm:zca w.heap.size rb fb (w.heap.size+1) s gN cls ref ms i vh (QY s gN ms j) w2 e w3):
  (∃c p,e=vU c p/\zjC rb fb s gN w R e w3)∨(e=.returned (.tuple #[])/\∃m j' vh' f',ItJ w w3 rb fb s gN cls ref i j0 (ms++[m]) j' vh'/\s.size<f'+j'/\zgz s line i cls ref (QV s gN f' (ms++[m]) j')=R/\s.size-j'<s.size-j):=by
 obtain⟨ho,hm⟩:=hm;have hof:=hj.off.trans (Off.of_below hb2 (ql _) [rb]);have hvB:∀k,vh.ownBlock=some k->w.heap.size<=k:=λk hk=>(hj.it.h.lt k hk).1;have hon:Off [rb] w w3:=Off.new (L:=rb::(w.heap.size+1)::vh.ownBlock.toList) hof ho (λk hk=>by
  simp only[zi,zE] at hk;rcases hk with rfl|rfl|hk
  ·exact .inl rfl
  ·exact .inr (by omega)
  ·exact .inr (hvB k hk))
 obtain⟨q,rfl⟩:∃q,f=q+1:=⟨f-1,by omega⟩;unfold QV at hT;rw[qy ⟨hjs,hsg⟩] at hT;cases hM:QY s gN ms j with
 |error ep=>
  obtain⟨c,p⟩:=ep;rw[hM] at hm hT;have hR:R=.error (c,p):=hT.symm;have he:e=vU c p:=hm;refine .inl ⟨c,p,he,hon,?_⟩;rw[hR];exact he
 |ok mj=>
  obtain⟨m,j'⟩:=mj;rw[hM] at hm hT;obtain⟨he,hrd,vh',hit,_⟩:=hm;obtain⟨ha,hat,hjm⟩:=zcW hjs hsg hM;have hgt:=zdz hat;have hPW:w.heap.size<W.heap.size:=(qg hj.res).1;have hnv:vh.ownBlock=none∨vh.ownBlock≠some w.heap.size:=pI hj.it.h hj.res (by decide);have hone:∀c:Int,c≠126->pO ms c<=1->pO (ms++[m]) c<=1:=by
   intro c hc h1;rw[zdA];by_cases e:m.sign=c
   ·obtain⟨f1,f2⟩:=zdP hM;have hb:pg s j 126=false:=by
     rw[QX hjs,<-Z3 hjs];have:¬((gZ s j).toNat:Int)=126:=(by rw[<-f1,e];exact hc);simpa using this
    have:=f2 hb;rw[e] at this;rw[qy e];omega
   ·rw[qx e];omega
  refine .inr ⟨he,m,j',vh',q,⟨hrd,hit,?_,hon,?_,hone 94 (by decide) hj.one.1,hone 64 (by decide) hj.one.2⟩,by omega,hT,by omega⟩
  ·rw[hjm];exact zgv hj.laid ha hat
  ·refine(ho.block _ (by have:=hb2.size;omega) (λhk=>?_)).trans ((hb2.block _ hPW).trans hj.res);simp only[zi,zE] at hk;rcases hk with hk|hk|hk
   ·omega
   ·omega
   ·rcases hnv with h0|h0
    ·rw[h0] at hk;cases hk
    ·exact h0 hk
theorem neF (k:Nat) (x y:Array Value) (w:World):(binOp .neq 217 (.func (.func k) x y) .nilFunc).run Tryz.prog w=.ok (.bool true) w:=by kernel_rfl
theorem neN (w:World):(binOp .neq 217 .nilFunc .nilFunc).run Tryz.prog w=.ok (.bool false) w:=by kernel_rfl
def JI (w0:World) (rb fb:Nat) (s:ByteArray) (gN:List UInt8) (line:Int) (i:Nat) (R:Except (Int×Nat) (It×Nat)) (g:Nat) (a:Act) (W:World):Prop:=
 JZ rb w0.heap.size line a/\∃cls ref j0 ms j vh f,ItJ w0 W rb fb s gN cls ref i j0 ms j vh/\s.size<f+j/\zgz s line i cls ref (QV s gN f ms j)=R/\g=s.size-j
theorem zek {W:World} {T:Array Value} {Q:Ending->World->Prop} {P:Nat} {v0 v1 v2 v3 v4 v5 v6 v7 v8 v9 v10 v11 v12:Value} (h4:T.getD 4 undef=.pointer (some ⟨P,0,none⟩)) (r:W.heap[P]?=some (.cells #[v0,v1,v2,v3,v4,v5,v6,v7,v8,v9,v10,v11,v12] 108 (0,0))) (hQ:Q (.returned (.agg #[v0,v1,v2,v3,v4,v5,v6,v7,v8,v9,v10,v11,v12])) W):
  bodyPost Tryz.prog Tryz.f117 Q Exit.ret {tmps:=T,defers:=[]} W:=by
 have d0:W.cell? ⟨P,0,none⟩=some v0:=qc _ _ _ _ _ (0,0) r;have d1:W.cell? ⟨P,1,none⟩=some v1:=qc _ _ _ _ _ (0,0) r;have d2:W.cell? ⟨P,2,none⟩=some v2:=qc _ _ _ _ _ (0,0) r;have d3:W.cell? ⟨P,3,none⟩=some v3:=qc _ _ _ _ _ (0,0) r;have d4:W.cell? ⟨P,4,none⟩=some v4:=qc _ _ _ _ _ (0,0) r;have d5:W.cell? ⟨P,5,none⟩=some v5:=qc _ _ _ _ _ (0,0) r;have d6:W.cell? ⟨P,6,none⟩=some v6:=qc _ _ _ _ _ (0,0) r;have d7:W.cell? ⟨P,7,none⟩=some v7:=qc _ _ _ _ _ (0,0) r;have d8:W.cell? ⟨P,8,none⟩=some v8:=qc _ _ _ _ _ (0,0) r;have d9:W.cell? ⟨P,9,none⟩=some v9:=qc _ _ _ _ _ (0,0) r;have d10:W.cell? ⟨P,10,none⟩=some v10:=qc _ _ _ _ _ (0,0) r;have d11:W.cell? ⟨P,11,none⟩=some v11:=qc _ _ _ _ _ (0,0) r;have d12:W.cell? ⟨P,12,none⟩=some v12:=qc _ _ _ _ _ (0,0) r;have h4':T[4]?.getD undef=.pointer (some ⟨P,0,none⟩):=by simpa using h4
 refine zt (v:=.agg #[v0,v1,v2,v3,v4,v5,v6,v7,v8,v9,v10,v11,v12]) ?_ rfl hQ;simp[results,Tryz.f117,go_sem,h4',d0,d1,d2,d3,d4,d5,d6,d7,d8,d9,d10,d11,d12,Tryz.isAgg108,Tryz.sizeOf108]
theorem zkM {W:World} {P:Nat} (h:W.heap[P]?=some (.cells zC 108 (0,0))) (v0 v1 v2 v3 v4 v5 v6 v7 v8 v9 v10 v11 v12:Value):
  (((((((((((((W.setCell ⟨P,0,none⟩ v0).setCell ⟨P,1,none⟩ v1).setCell ⟨P,2,none⟩ v2).setCell ⟨P,3,none⟩ v3).setCell ⟨P,4,none⟩ v4).setCell ⟨P,5,none⟩ v5).setCell ⟨P,6,none⟩ v6).setCell ⟨P,7,none⟩ v7).setCell ⟨P,8,none⟩ v8).setCell ⟨P,9,none⟩ v9).setCell ⟨P,10,none⟩ v10).setCell ⟨P,11,none⟩ v11).setCell ⟨P,12,none⟩ v12).heap[P]?=some (.cells #[v0,v1,v2,v3,v4,v5,v6,v7,v8,v9,v10,v11,v12] 108 (0,0))/\Off [P] W (((((((((((((W.setCell ⟨P,0,none⟩ v0).setCell ⟨P,1,none⟩ v1).setCell ⟨P,2,none⟩ v2).setCell ⟨P,3,none⟩ v3).setCell ⟨P,4,none⟩ v4).setCell ⟨P,5,none⟩ v5).setCell ⟨P,6,none⟩ v6).setCell ⟨P,7,none⟩ v7).setCell ⟨P,8,none⟩ v8).setCell ⟨P,9,none⟩ v9).setCell ⟨P,10,none⟩ v10).setCell ⟨P,11,none⟩ v11).setCell ⟨P,12,none⟩ v12):=
 ⟨(qs _ P 12 #[v0,v1,v2,v3,v4,v5,v6,v7,v8,v9,v10,v11,.bool false] _ v12 (qs _ P 11 #[v0,v1,v2,v3,v4,v5,v6,v7,v8,v9,v10,.bool false,.bool false] _ v11 (qs _ P 10 #[v0,v1,v2,v3,v4,v5,v6,v7,v8,v9,.int .i64 0,.bool false,.bool false] _ v10 (qs _ P 9 #[v0,v1,v2,v3,v4,v5,v6,v7,v8,.int .i64 0,.int .i64 0,.bool false,.bool false] _ v9 (qs _ P 8 #[v0,v1,v2,v3,v4,v5,v6,v7,.int .i32 0,.int .i64 0,.int .i64 0,.bool false,.bool false] _ v8 (qs _ P 7 #[v0,v1,v2,v3,v4,v5,v6,.slice none 0 0,.int .i32 0,.int .i64 0,.int .i64 0,.bool false,.bool false] _ v7 (qs _ P 6 #[v0,v1,v2,v3,v4,v5,.int .i64 0,.slice none 0 0,.int .i32 0,.int .i64 0,.int .i64 0,.bool false,.bool false] _ v6 (qs _ P 5 #[v0,v1,v2,v3,v4,.int .i64 0,.int .i64 0,.slice none 0 0,.int .i32 0,.int .i64 0,.int .i64 0,.bool false,.bool false] _ v5 (qs _ P 4 #[v0,v1,v2,v3,.int .i64 0,.int .i64 0,.int .i64 0,.slice none 0 0,.int .i32 0,.int .i64 0,.int .i64 0,.bool false,.bool false] _ v4 (qs _ P 3 #[v0,v1,v2,.int .u8 0,.int .i64 0,.int .i64 0,.int .i64 0,.slice none 0 0,.int .i32 0,.int .i64 0,.int .i64 0,.bool false,.bool false] _ v3 (qs _ P 2 #[v0,v1,.int .i64 0,.int .u8 0,.int .i64 0,.int .i64 0,.int .i64 0,.slice none 0 0,.int .i32 0,.int .i64 0,.int .i64 0,.bool false,.bool false] _ v2 (qs _ P 1 #[v0,.int .i64 0,.int .i64 0,.int .u8 0,.int .i64 0,.int .i64 0,.int .i64 0,.slice none 0 0,.int .i32 0,.int .i64 0,.int .i64 0,.bool false,.bool false] _ v1 (qs _ P 0 #[.int .i64 0,.int .i64 0,.int .i64 0,.int .u8 0,.int .i64 0,.int .i64 0,.int .i64 0,.slice none 0 0,.int .i32 0,.int .i64 0,.int .i64 0,.bool false,.bool false] _ v0 h))))))))))))),(((((((((((((Off.setCell W P 0 v0).trans (Off.setCell _ P 1 v1)).trans (Off.setCell _ P 2 v2)).trans (Off.setCell _ P 3 v3)).trans (Off.setCell _ P 4 v4)).trans (Off.setCell _ P 5 v5)).trans (Off.setCell _ P 6 v6)).trans (Off.setCell _ P 7 v7)).trans (Off.setCell _ P 8 v8)).trans (Off.setCell _ P 9 v9)).trans (Off.setCell _ P 10 v10)).trans (Off.setCell _ P 11 v11)).trans (Off.setCell _ P 12 v12))⟩
theorem zh7 (w:World) (a b:Value):(w.alloc (.cells #[a,b] 3)).ownsRow w.heap.size 3 1 (.slice (some ⟨w.heap.size,0,none⟩) 2 2) 2 [a,b]:=
 ⟨rfl,.inr ⟨w.heap.size,2,#[a,b],rfl,ql _,qn w _,ql _,by decide,rfl,rfl⟩⟩
def znC (line:Int) (i:Nat) (cls ref:Int) (ms:List Mk) (k:Nat):Except (Int×Nat) (It×Nat):=match(if 0<=line then ms.find? (ul line) else none) with
 |some m=>.error (182,m.at_)
 |none=>.ok (⟨cls,ref,ms,i⟩,k)
theorem zfV {s:ByteArray} {line:Int} {i:Nat} {cls ref:Int} {ms:List Mk} {k:Nat}:zgz s line i cls ref (.ok (ms,k))=if¬vG s k/\¬pg s k 32 then .error (180,k) else znC line i cls ref ms k:=rfl
theorem zdB {P:Program} {w:World} (base:Nat) (t ty e:TypeId) (i:TypeInfo) (size:Nat) (ht:P.underlying t=some (.slice e)) (hi:P.info? e=some i)
  (v:Value) (n:Nat) (xs:List Value) (hown:w.ownsRow base e size v n xs) (c:Nat):(Builtin.append_ #[t,t] ty #[v,.slice none 0 c]).run P w=.ok v w:=by
 rcases hown.2 with⟨rfl,h0⟩|⟨g,cap,cur,rfl,hb,hg,hcap,_⟩
 ·simp[Builtin.append_,run_underlying ht,sizeOf,typeInfo,hi,Builtin.lenOf,Builtin.firstCells]
 ·simp[Builtin.append_,run_underlying ht,sizeOf,typeInfo,hi,Builtin.lenOf,Builtin.firstCells,hcap,storeCells]
theorem zel {P:Program} {o:Oper} {a:Act} {w:World} {K:Act->World->Prop} {Q:Exit->Act->World->Prop} (s x:Operand) (t:TypeId) (ho:o.op=.call {callee:=.builtin .append,args:=#[s,x],argTypes:=#[t,t]})
  (base:Nat) (e:TypeId) (i:TypeInfo) (z:Value) (size bytes:Nat) (ht:P.underlying t=some (.slice e)) (hi:P.info? e=some i) (hz:i.zero=some z)
  (hsize:i.size=size) (hby:i.bytes=bytes) (hzs:z.cells.size=size) (hsz:0<size)
  (v:Value) (n:Nat) (xs:List Value) (hs:a.eval s=v) (hown:w.ownsRow base e size v n xs)
  (A:Option Addr) (m c:Nat) (news:List Value) (hx:a.eval x=.slice A m c) (hA:A=none->m=0) (hl:news.length=m*size) (hnews:∀ad,A=some ad->∀j u,news[j]?=some u->w.cell? (ad.add j)=some u) (h1:∀u∈news,u.oneCell'=true)
  (h63:n+m<=maxLen) (hbytes:(n+m)*bytes<=140737488355328) (hbase:base<=w.heap.size)
  (h:∀v' w',w'.ownsRow base e size v' (n+m) (xs++news)->w.grownBy w' v.ownBlock->(v'.ownBlock=v.ownBlock∨v'.ownBlock=some w.heap.size)->K (a.put o.dst v') w'):o.wp P a w K Q:=by
 cases A with
 |some ad=>
  obtain⟨v',w',hr,h2,h3,h4,h5⟩:=run_append_own_at (P:=P) w base t o.type e i z size bytes ht hi hz hsize hby hzs hsz v n xs hown ad m c news hl (hnews ad rfl) h1 h63 hbytes hbase;unfold Oper.wp execOp;simp only[ho,resolve,invoke,builtin,Sem.run_bind,Sem.run_pure,yd,yA,xo,yB,hs,hx,hr,Oper.upon];exact h v' w' h2 h3 h5
 |none=>
  have hm:=hA rfl;subst hm;have hn:news=[]:=zF (by omega);subst hn;have hrun:=zdB (P:=P) (w:=w) base t o.type e i size ht hi v n xs hown c;unfold Oper.wp execOp;simp only[ho,resolve,invoke,builtin,Sem.run_bind,Sem.run_pure,yd,yA,xo,yB,hs,hx,hrun,Oper.upon];exact h v w (by simpa using hown) (World.grownBy.refl w _) (.inl rfl)
theorem zcc {P:Program} {ops:Array Oper} {rest:List Oper} {o:Oper} {a:Act} {Q:Exit->Act->World->Prop} (w:World) (hgd:o.guard=none) (s x:Operand) (t:TypeId)
  (ho:o.op=.call {callee:=.builtin .append,args:=#[s,x],argTypes:=#[t,t]})
  (base:Nat) (e:TypeId) (i:TypeInfo) (z:Value) (size bytes:Nat) (ht:P.underlying t=some (.slice e)) (hi:P.info? e=some i) (hz:i.zero=some z)
  (hsize:i.size=size) (hby:i.bytes=bytes) (hzs:z.cells.size=size) (hsz:0<size)
  (v:Value) (n:Nat) (xs:List Value) (hs:a.eval s=v) (hown:w.ownsRow base e size v n xs)
  (B':Nat) (v2:Value) (m:Nat) (news:List Value) (hx:a.eval x=v2) (hrow:w.ownsRow B' e size v2 m news) (h1:∀u∈news,u.oneCell'=true)
  (h63:n+m<=maxLen) (hbytes:(n+m)*bytes<=140737488355328) (hbase:base<=w.heap.size)
  (h:∀v' w',w'.ownsRow base e size v' (n+m) (xs++news)->w.grownBy w' v.ownBlock->(v'.ownBlock=v.ownBlock∨v'.ownBlock=some w.heap.size)->wpList P ops Q rest (a.put o.dst v') w'):wpList P ops Q (o::rest) a w:=by
 refine wpList_plain hgd λK hK=>?_;rcases hrow.2 with⟨rfl,rfl⟩|⟨g,cap,cur,rfl,_⟩
 ·exact zel s x t ho base e i z size bytes ht hi hz hsize hby hzs hsz v n xs hs hown none 0 0 news hx (λ_=>rfl) hrow.1 (λad h=>by cases h) h1 h63 hbytes hbase λv' w' a1 a2 a3=>hK _ _ (h v' w' a1 a2 a3)
 ·refine zel s x t ho base e i z size bytes ht hi hz hsize hby hzs hsz v n xs hs hown (some ⟨g,0,none⟩) m cap news hx (λh=>by cases h) hrow.1 (λad h j u hu=>?_) h1 h63 hbytes hbase λv' w' a1 a2 a3=>hK _ _ (h v' w' a1 a2 a3);cases h;exact hrow.cells (g:=g) rfl j u hu
theorem Xh.below {w w':World} {B xb:Nat} {gN:List UInt8} {cls ref:Int} {ms:List Mk} {a:Nat} {vh:Value} (h:Xh w B xb gN cls ref ms a vh) (hb:Below w.heap.size w w'):Xh w' B xb gN cls ref ms a vh:=
 ⟨(hb.block _ (qg h.x).1).trans h.x,h.h.kept (Zq hb none) ZH,h.ok,h.four,h.hB⟩
theorem zfi {W W':World} {n94 n64:Int} {has:List Int} {v':Value} (h:W'.ownsRow W.heap.size 3 1 v' (2+has.length) ([.int .i64 n94,.int .i64 n64]++vY has)) (hg:(W.alloc (.cells #[.int .i64 n94,.int .i64 n64] 3)).grownBy W' (some W.heap.size)):
  ∃(L:List Int) (g c:Nat),L=n94::n64::has/\v'=.slice (some ⟨g,0,none⟩) L.length c/\L.length<=c/\(∀k,k<L.length->W'.cell? ⟨g,k,none⟩=some (.int .i64 (L.getD k 0)))/\Below W.heap.size W W':=by
 have e:2+has.length=(n94::n64::has).length:=by simp;omega
 have e2:[Value.int .i64 n94,.int .i64 n64]++vY has=vY (n94::n64::has):=rfl;rw[e,e2] at h;obtain⟨A,c,rfl,hc,hrow⟩:=zdO h;obtain⟨g,rfl,_,hcells⟩:=hrow (by simp);refine⟨_,g,c,rfl,rfl,hc,hcells,?_⟩;have hb:=(qb W.heap.size W).alloc (ql _) (.cells #[.int .i64 n94,.int .i64 n64] 3);exact⟨hg.os.trans hb.os,hg.tape.trans hb.tape,hg.output.trans hb.output,qm hb.size hg.size,λk hk=>(hg.block k (by have:=hb.size;omega) (by simp;omega)).trans (hb.block k hk)⟩
theorem zh8 {s:ByteArray} {line:Int} {ms:List Mk} {i j0 k:Nat} {cls ref:Int} (hl:0<=line) (hlaid:ze5 s ms j0 k) (hk:k<=s.size) (h94:pO ms 94<=1) (h64:pO ms 64<=1) (hx:∃n∈gY ms 94::gY ms 64::pA ms,line<n):
  ∃(f:Nat) (p:Nat),Qt ms=(f:Int)/\f<=k/\zh6 s f k/\Xw s line k (k+1-f) f=some p/\znC line i cls ref ms k=.error (182,p):=by
 cases hm:ms.find? (ul line) with
 |none=>
  obtain⟨n,hn,hlt⟩:=hx;have:=(zfU hl h94 h64).1 hm n hn;omega
 |some m=>
  have hmem:=zn hm;have zsf:=kH hm;have hb:Xr m=true:=by unfold ul at zsf;rw[qA] at zsf;exact zsf.1
  have hf:∃f:Nat,Qt ms=(f:Int):=by
   unfold Qt;cases h2:ms.find? Xr with
   |none=>have:=kW.1 h2 m hmem;rw[hb] at this;simp at this
   |some x=>exact⟨x.at_,rfl⟩
  obtain⟨f,hf⟩:=hf;obtain⟨_,h2,h3,h4⟩:=zfh (line:=line) hlaid hk hf;refine⟨f,m.at_,hf,h2,h3,by rw[h4,hm];rfl,?_⟩;unfold znC;rw[qy hl,hm]
end Go.Proofs.YtgklikkddckgbaaGreatDoor.Mo


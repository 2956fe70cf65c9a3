import Derived.Test.YtgklikkddckgbaaGreatDoorJZI
/- Lemmas. -/
set_option linter.all false
namespace Go.Proofs.YtgklikkddckgbaaGreatDoor
def mkS (l:List UInt8):ByteArray:=⟨l.toArray⟩
theorem gQ (l:List UInt8):(mkS l).data.toList=l:=by simp[mkS]
theorem znd {t:ByteArray} {l:List UInt8} (h:t.data.toList=l):t=mkS l:=by
  apply jC;apply yT.1;rw[h];simp[mkS]
theorem zne (l:List UInt8):(mkS l).size=l.length:=by
  show l.toArray.size=l.length;simp
theorem zpD:∀k:Nat,k<10->Lib.digitVal (UInt8.ofNat (48+k))=some k:=by decide+kernel
theorem zpE:∀k:Nat,k<10->48<=(UInt8.ofNat (48+k)).toNat/\(UInt8.ofNat (48+k)).toNat<=57:=by decide+kernel
theorem Qe:∀(a:List UInt8) (acc m:Nat) (b:List UInt8),Lib.decFrom acc a=some m->Lib.decFrom acc (a++b)=Lib.decFrom m b
  |[],acc,m,b,h=>by
   simp only[Lib.decFrom] at h;cases h;rfl
  |c::a,acc,m,b,h=>by
   simp only[zf,Lib.decFrom] at h|-;cases hd:Lib.digitVal c with
   |none=>rw[hd] at h;cases h
   |some d=>rw[hd] at h;exact Qe a _ m b h
theorem zqT (n:Nat):Lib.decFrom 0 (Lib.decDigits n)=some n:=by
  induction n using Nat.strongRecOn with
  |ind n ih=>
   rw[Lib.decDigits];split
   · rename_i h
     unfold Lib.decFrom;rw[zpD n h];simp[Lib.decFrom]
   · rename_i h
     rw[Qe _ 0 (n/10) _ (ih (n/10) (by omega))];unfold Lib.decFrom;rw[zpD (n%10) (by omega)];simp only[Lib.decFrom];congr 1
     omega
theorem pE (n:Nat):∀c∈Lib.decDigits n,48<=c.toNat/\c.toNat<=57:=by
  induction n using Nat.strongRecOn with
  |ind n ih=>
   intro c hc;rw[Lib.decDigits] at hc;split at hc
   · rename_i h
     obtain rfl:=kf.1 hc;exact zpE n h
   · rename_i h
     rcases qU.1 hc with hc|hc
     · exact ih (n/10) (by omega) c hc
     · obtain rfl:=kf.1 hc
       exact zpE (n%10) (by omega)
theorem zmS (n:Nat):∃c t,Lib.decDigits n=c::t:=by
  rw[Lib.decDigits];split
  · exact⟨_,_,rfl⟩
  · cases h:Lib.decDigits (n/10) with
    |nil=>exact⟨_,_,rfl⟩
    |cons c t=>exact⟨_,_,rfl⟩
theorem zri (k:Nat):∀n:Nat,n<10^(k+1)->(Lib.decDigits n).length<=k+1:=by
  induction k with
  |zero=>
   intro n h;rw[Lib.decDigits,jc (by simpa using h)];simp
  |succ k ih=>
   intro n h;rw[Lib.decDigits];split
   · simp
   · rw[qk]
     have:=ih (n/10) (by rw[Nat.div_lt_iff_lt_mul (by omega)];rw[Nat.pow_succ] at h;exact h);simp only[qv,qH];omega
theorem zmT (n:Nat):QP (mkS (Lib.itoa (n:Int)))=true:=by
  obtain⟨c,t,h⟩:=zmS n;have hc:=pE n c (by rw[h];simp);unfold QP;rw[gQ,kN,h];simp only[];rw[qL (show(48:Int)<=(c.toNat:Int) by omega),qL (show(c.toNat:Int)<=57 by omega)];simp
theorem zqU (n:Nat) (h:n<10^18):uo (mkS (Lib.itoa (n:Int)))=some (n:Int):=by
  obtain⟨c,t,hd⟩:=zmS n;have hc:=pE n c (by rw[hd];simp)
  have hm:Ya (Lib.decDigits n)=false:=by
    rw[hd];unfold Ya;simp only[];simp;omega
  unfold uo;rw[qq (zmT n),gQ,kN];have hg:vP (Lib.decDigits n)=Lib.decDigits n:=by unfold vP;rw[hm];rfl
  have hw:∀m:Nat,Yh (Lib.decDigits n) m=(m:Int):=λm=>by unfold Yh;rw[hm];rfl
  rw[hg,qq (zri 17 n h)]
  have hn:Lib.decNat (Lib.decDigits n)=some n:=by
    unfold Lib.decNat;have he:(Lib.decDigits n).isEmpty=false:=(by rw[hd];rfl);simp only[he,zo,jb];exact zqT n
  rw[hn];simp only[];rw[hw,qq (kN n)]
theorem gp {v lo hi:Int} (h0:0<=v) (h1:v<=1048576) (h2:lo<=v) (h3:v<=hi):Qx (mkS (Lib.itoa v)) lo hi=(v,0):=by
  obtain⟨n,rfl⟩:∃n:Nat,v=(n:Int):=⟨v.toNat,by omega⟩;unfold Qx
  rw[zqU n (by have:n<=1048576:=by omega
               omega)]
  simp only[];rw[qp (by omega)]
def Ke (L:List Tok):List (List UInt8):=L.map λt=>t.2.data.toList
theorem uh {L:List Tok} {ws:List (List UInt8)} (h:Ke L=ws):L.length=ws.length:=by rw[<-h];simp[Ke]
theorem gd {L:List Tok} {w:List UInt8} {ws:List (List UInt8)} (h:Ke L=w::ws):(hd L).2=mkS w:=by
  cases L with
  |nil=>simp[Ke] at h
  |cons x L=>
   simp only[Ke,zl,kO] at h;exact znd h.1
theorem pF {L:List Tok} {w v:List UInt8} {ws:List (List UInt8)} (h:Ke L=w::v::ws):Ke (Qv L)=v::ws:=by
  match L with
  |[]=>simp[Ke] at h
  |[x]=>simp[Ke] at h
  |x::y::l=>
   simp only[Ke,zl,kO] at h;simp only[Qv,Ke,zl];rw[h.2.1,h.2.2]
theorem ge {L:List Tok} {w:List UInt8} {ws:List (List UInt8)} (h:Ke L=w::ws) (hne:ws≠[]):Ke (Qv L)=ws:=by
  cases ws with
  |nil=>exact absurd rfl hne
  |cons v ws=>exact pF h
theorem uF (a b:List UInt8):QF (mkS a) (mkS b)=(a==b):=by
  unfold QF;rw[zg,zg,gQ,gQ]
theorem gq:COMMA=mkS [44]:=rfl
theorem zrj:Jy=mkS [59]:=rfl
def QE (l:List UInt8) (ws:List (List UInt8)):Prop:=∀(s:ByteArray) (p:Nat),p<=s.size->s.data.toList.drop p=l->Ke (toks s p)=ws
theorem gV {s:ByteArray} {p:Nat} {c:UInt8} {t:List UInt8} (h:s.data.toList.drop p=c::t):∃hp:p<s.size,s[p]=c/\s.data.toList.drop (p+1)=t:=by
  have hl:s.data.toList.length=s.size:=by rw[qP];rfl
  have hp:p<s.data.toList.length:=by
    rcases yf p s.data.toList.length with h1|h1
    · exact h1
    · rw[kn h1] at h;cases h
  rw[zh hp] at h;simp only[kO] at h;exact⟨by omega,h.1,h.2⟩
theorem zoG {s:ByteArray} {p:Nat} (hp:p<s.size) (h:((s[p].toNat:Int)==32)=true):toks s p=toks s (p+1):=by
  have e:=zc5 hp h;by_cases h1:Zp s (p+1)<s.size
  · rw[zc8 (by rw[e];exact h1) (by omega),zc8 h1 (by omega),e]
  · rw[zcm (by rw[e];exact h1),zcm h1]
theorem QE.nil:QE [] [[]]:=by
  intro s p hp hd;have hl:s.data.toList.length=s.size:=by rw[qP];rfl
  have h1:s.data.toList.length<=p:=by
    rcases yf p s.data.toList.length with h1|h1
    · rw[zh h1] at hd;cases hd
    · exact h1
  rw[zcm (by rw[zga (by omega)];omega)];rfl
theorem QE.space {l:List UInt8} {ws:List (List UInt8)} (h:QE l ws):QE (32::l) ws:=by
  intro s p hp hd;obtain⟨hlt,hc,hd2⟩:=gV hd;rw[zoG hlt (by rw[hc];rfl)];exact h s (p+1) (by omega) hd2
theorem znL (s:ByteArray) (a b:Nat):(s.extract a b).data.toList=(s.data.toList.drop a).take (b-a):=by
  rw[kV,xU,jT]
theorem QE.mark {l:List UInt8} {ws:List (List UInt8)} (c:UInt8) (hm:c=44∨c=59) (h:QE l ws):QE (c::l) ([c]::ws):=by
  intro s p hp hd;obtain⟨hlt,hc,hd2⟩:=gV hd;have e1:Zp s p=p:=zdJ hlt (by rw[hc];rcases hm with rfl|rfl<;>rfl);have e2:KU s p=p+1:=zb2 hlt (by rw[hc];rcases hm with rfl|rfl<;>rfl);rw[zc8 (by rw[e1];exact hlt) hp,e1,e2];have h3:=h s (p+1) (by omega) hd2;unfold Ke at h3|-;rw[zl,h3];simp only[];rw[znL,hd,show p+1-p=1 by omega];rfl
def QN (l:List UInt8):Prop:=l=[]∨∃c t,l=c::t/\Xo c=true
theorem QN.cons {c:UInt8} {t:List UInt8} (h:Xo c=true):QN (c::t):=.inr ⟨c,t,rfl,h⟩
theorem zoH {s:ByteArray} {l:List UInt8} (hl:QN l):∀(w:List UInt8) (p:Nat),(∀c∈w,Xo c=false)->p<=s.size->s.data.toList.drop p=w++l->US s p=p+w.length
  |[],p,_,hp,hd=>by
   rcases hl with rfl|⟨c,t,rfl,hc⟩
   · have hls:s.data.toList.length=s.size:=by rw[qP];rfl
     have h1:s.data.toList.length<=p:=by
       rcases yf p s.data.toList.length with h1|h1
       · rw[zh h1] at hd;cases hd
       · exact h1
     exact zeq (by omega)
   · obtain⟨hlt,h1,_⟩:=gV hd
     exact zdK hlt (by rw[h1];exact hc)
  |c::w,p,hw,hp,hd=>by
   obtain⟨hlt,h1,h2⟩:=gV hd;rw[zec hlt (by rw[h1];exact hw c (by simp)),zoH hl w (p+1) (λd hd=>hw d (by simp[hd])) (by omega) h2];simp only[qv];omega
theorem QE.word {l w:List UInt8} {ws:List (List UInt8)} (hw:w≠[]) (hs:∀c∈w,Xo c=false) (hl:QN l) (h:QE l ws):QE (w++l) (w::ws):=by
  intro s p hp hd;cases w with
  |nil=>exact absurd rfl hw
  |cons c w=>
   obtain⟨hlt,hc,hd2⟩:=gV hd;have hcs:=hs c (by simp);have h32:((c.toNat:Int)==32)=false:=(by unfold Xo at hcs;simp only[zQ] at hcs;exact hcs.1.1);have hmk:UR c=false:=(by unfold Xo at hcs;simp only[zQ] at hcs;unfold UR;rw[hcs.1.2,hcs.2];rfl);have e1:Zp s p=p:=zdJ hlt (by rw[hc];exact h32)
   have e2:KU s p=p+(c::w).length:=by
     rw[zcT hlt (by rw[hc];exact hmk),zoH hl w (p+1) (λd hd=>hs d (by simp[hd])) (by omega) hd2];simp only[qv];omega
   have hls:s.data.toList.length=s.size:=by rw[qP];rfl
   have hsz:p+(c::w).length<=s.size:=by
     have:=congrArg List.length hd;rw[zu,qk] at this;omega
   rw[zc8 (by rw[e1];exact hlt) hp,e1,e2]
   have hdr:s.data.toList.drop (p+(c::w).length)=l:=by
     rw[<-List.drop_drop,hd,vc]
   have h3:=h s _ hsz hdr;unfold Ke at h3|-;rw[zl,h3];simp only[];rw[znL,hd,show p+(c::w).length-p=(c::w).length by omega,vg]
theorem QE.num {l:List UInt8} {ws:List (List UInt8)} {v:Int} (h0:0<=v) (hl:QN l) (h:QE l ws):QE (Lib.itoa v++l) (Lib.itoa v::ws):=by
  obtain⟨n,rfl⟩:∃n:Nat,v=(n:Int):=⟨v.toNat,by omega⟩;refine QE.word ?_ ?_ hl h
  · obtain⟨c,t,e⟩:=zmS n
    rw[kN,e];simp
  · intro c hc
    rw[kN] at hc;have:=pE n c hc;unfold Xo;simp;omega
theorem zp5:∀f∈Kk,((Zk (mkS f.1)).1.data.toList==f.2.1&&(Zk (mkS f.1)).2==0&&!QP (mkS f.1)&&!f.1.isEmpty&&f.1.all λc=>!Xo c)=true:=by decide+kernel
theorem znM {c:UInt8} (h:zdf c=true):Xo c=false:=by
  unfold zdf at h;unfold Xo;simp at h|-;omega
theorem pW {t:ByteArray} {lo hi:Int} (h:Zx t lo hi=true):(∀c∈t.data.toList,zdf c=true)/\lo<=t.data.toList.length:=by
  unfold Zx at h;simp only[qA,qG] at h;have hl:t.data.toList.length=t.size:=by rw[qP];rfl
  refine⟨λc hc=>?_,by omega⟩;have h1:=h.1;unfold Gd at h1;rw[ju (by omega)] at h1;exact zF.1 h1 c hc
structure zqV (own:ByteArray):Prop where
  foot:Zk (mkS (vB own.data.toList))=(own,0)
  zu8:QP (mkS (vB own.data.toList))=false
  ne:vB own.data.toList≠[]
  ns:∀c∈vB own.data.toList,Xo c=false
theorem zmU {own:ByteArray} (h:Zx own 1 4=true):zqV own:=by
  obtain⟨ha,hl⟩:=pW h
  have key:(∃f∈Kk,vB own.data.toList=f.1/\f.2.1=own.data.toList)∨vB own.data.toList=own.data.toList:=by
    unfold vB;cases hb:gw own.data.toList with
    |none=>exact .inr rfl
    |some f=>
     refine .inl ⟨f,zi hb,rfl,?_⟩;have:=kP hb;simpa using this
  rcases key with⟨f,hf,e,e2⟩|e
  · have hs:=zp5 f hf
    simp only[qA,ja,yx,jU] at hs;obtain⟨⟨⟨⟨h1,h2⟩,h3⟩,h4⟩,h5⟩:=hs;rw[e2] at h1;refine⟨?_,by rw[e];exact h3,by rw[e];exact h4,?_⟩
    · rw[e]
      have h6:(Zk (mkS f.1)).1=own:=(znd h1).trans (znd rfl).symm;exact Prod.ext h6 h2
    · rw[e]
      intro c hc;have:=zF.1 h5 c hc;simpa using this
  · have hmk:mkS (vB own.data.toList)=own:=by rw[e];exact(znd rfl).symm
    have hne:own.data.toList≠[]:=λh0=>by rw[h0] at hl;simp at hl
    refine⟨?_,?_,by rw[e];exact hne,?_⟩
    · rw[hmk]
      unfold Zk;rw[qq h]
    · rw[hmk]
      unfold QP;cases hd:own.data.toList with
      |nil=>exact absurd hd hne
      |cons c t=>
       have:=ha c (by rw[hd];simp);unfold zdf at this;simp at this|-;omega
    · rw[e]
      exact λc hc=>znM (ha c hc)
def zsz (n:Nat):List (List UInt8):=if 1<n then [Lib.itoa (n:Int)] else []
def uG (f:Ft):Ft:=V9 f.own
def uS (fs:List Ft):Nat->Nat->List (List UInt8)
  |0,_=>[]
  |n+1,i=>if i<fs.length then zsz (vM fs (fs.getD i default).own i-i)++(vB (fs.getD i default).own.data.toList::(if vM fs (fs.getD i default).own i<fs.length then [44]::uS fs n (vM fs (fs.getD i default).own i) else [])) else []
theorem vpq {fs:List Ft} {i:Nat} (h:i<fs.length):fs.getD i default∈fs:=by
  rw[qe,qC h];exact qM h
theorem zoI (fs:List Ft) (n i:Nat) {rest:List UInt8} (h:0<i) (hr:QN rest):QN (vU fs n i++rest):=by
  cases n with
  |zero=>exact hr
  |succ n=>
   unfold vU;split
   · unfold gc
     rw[qq h];exact .inr ⟨44,_,rfl,rfl⟩
   · exact hr
theorem zoJ {fs:List Ft} (hs:∀f∈fs,Zx f.own 1 4=true) {rest:List UInt8} {ws:List (List UInt8)} (hr:QN rest) (hx:QE rest ws):∀(n i:Nat),i<fs.length->fs.length-i<=n->
    QE (vU fs n i++rest) ((if 0<i then [[44]] else [])++(uS fs n i++ws))
  |0,i,hi,hn=>by omega
  |n+1,i,hi,hn=>by
   have hgt:=zm2 hi;have hle:=(gM (fs:=fs) (own:=(fs.getD i default).own) (zR hi)).2;have hsd:=zmU (hs _ (vpq hi))
   have hrec:QE (vU fs n (vM fs (fs.getD i default).own i)++rest) ((if vM fs (fs.getD i default).own i<fs.length then [44]::uS fs n (vM fs (fs.getD i default).own i) else [])++ws):=by
     by_cases hJ:vM fs (fs.getD i default).own i<fs.length
     · have:=zoJ hs hr hx n (vM fs (fs.getD i default).own i) hJ (by omega)
       rw[qq (by omega)] at this;rw[qq hJ];exact this
     · rw[qp hJ,show vM fs (fs.getD i default).own i=fs.length by omega,znz]
       exact hx
   have hst:=zoI fs n (vM fs (fs.getD i default).own i) (rest:=rest) (by omega) hr;unfold vU uS;rw[qq hi,qq hi];generalize vM fs (fs.getD i default).own i=J at*;unfold gc zsz;have h1:QE (vB (fs.getD i default).own.data.toList++(vU fs n J++rest)) (vB (fs.getD i default).own.data.toList::((if J<fs.length then [44]::uS fs n J else [])++ws)):=QE.word hsd.ne hsd.ns hst hrec
   have h2:QE ((if 1<J-i then Lib.itoa ((J-i:Nat):Int)++[32] else [])++(vB (fs.getD i default).own.data.toList++(vU fs n J++rest))) ((if 1<J-i then [Lib.itoa ((J-i:Nat):Int)] else [])++(vB (fs.getD i default).own.data.toList::((if J<fs.length then [44]::uS fs n J else [])++ws))):=by
     split
     · rw[qF]
       exact QE.num (by omega) (QN.cons rfl) (QE.space h1)
     · exact h1
   have h3:QE ((if 0<i then vS else [])++((if 1<J-i then Lib.itoa ((J-i:Nat):Int)++[32] else [])++(vB (fs.getD i default).own.data.toList++(vU fs n J++rest)))) ((if 0<i then [[44]] else [])++((if 1<J-i then [Lib.itoa ((J-i:Nat):Int)] else [])++(vB (fs.getD i default).own.data.toList::((if J<fs.length then [44]::uS fs n J else [])++ws)))):=by
     split
     · exact QE.mark 44 (.inl rfl) (QE.space h2)
     · exact h2
   simpa only[qF,zf] using h3
theorem zpl {L:List Tok} {m:Met} {own:ByteArray} {n:Nat} {ws:List (List UInt8)} (h1:1<=n) (h16:m.Qp.length+n<=16) (hs:zqV own) (hw:Ke L=zsz n++(vB own.data.toList::ws)) (hne:ws≠[]):
    ∃L',Yl L m=.ok (L',{m with Qp:=m.Qp++List.replicate n (V9 own)})/\Ke L'=ws:=by
  unfold zsz at hw;unfold Yl;by_cases hn:1<n
  · rw[qq hn] at hw
    have hw':Ke L=Lib.itoa (n:Int)::vB own.data.toList::ws:=hw;have ha:=pF hw';rw[gd hw',qq (zmT n),gp (by omega) (by omega) (by omega) (by omega)];simp only[];rw[qq trivial];unfold YO;rw[gd ha,hs.foot];simp only[];rw[qq trivial,qq (by omega)];exact⟨_,rfl,ge ha hne⟩
  · rw[qp hn] at hw
    have hw':Ke L=vB own.data.toList::ws:=hw;obtain rfl:n=1:=by omega
    rw[gd hw',qp (by rw[hs.zu8];simp)];unfold YO;rw[gd hw',hs.foot];simp only[];rw[qq trivial,qq (by omega)];exact⟨_,rfl,ge hw' hne⟩
theorem ph {α:Type} (p:α->Bool):∀(l:List α),∀x∈l.takeWhile p,p x=true
  |[],x,h=>by cases h
  |y::l,x,h=>by
   rw[yc] at h;split at h
   · rename_i hy
     rcases zy.1 h with rfl|h
     · exact hy
     · exact ph p l x h
   · cases h
theorem zrk {fs:List Ft} {i:Nat} (hi:i<fs.length):(fs.take (vM fs (fs.getD i default).own i)).map uG=(fs.take i).map uG++List.replicate (vM fs (fs.getD i default).own i-i) (V9 (fs.getD i default).own):=by
  unfold vM;generalize hown:(fs.getD i default).own=own;have hp:(fs.drop i).take ((fs.drop i).takeWhile λf=>QF f.own own).length=(fs.drop i).takeWhile λf=>QF f.own own:=(List.prefix_iff_eq_take.1 (List.takeWhile_prefix _)).symm;rw[List.take_add,hp,zv];congr 1
  rw[List.eq_replicate_iff];refine⟨by rw[kg];omega,λb hb=>?_⟩;obtain⟨f,hf,rfl⟩:=zV.1 hb;have:=ph _ _ _ hf;unfold uG;rw[zov this]
theorem Qf {fs:List Ft} (hs:∀f∈fs,Zx f.own 1 4=true) (h16:fs.length<=16) {ws:List (List UInt8)} (hne:ws≠[]) (hc:ws.headD []≠[44]):∀(n i f:Nat) (L:List Tok),i<fs.length->fs.length-i<=n->Ke L=uS fs n i++ws->L.length<=f->
    ∃L',Ke L'=ws/\XD f L ⟨(fs.take i).map uG,[],[]⟩=KN L'.length L' ⟨fs.map uG,[],[]⟩
  |0,i,f,L,hi,hn,_,_=>by omega
  |n+1,i,f,L,hi,hn,hw,hf=>by
   have hgt:=zm2 hi;have hle:=(gM (fs:=fs) (own:=(fs.getD i default).own) (zR hi)).2;have hsd:=zmU (hs _ (vpq hi));have hrun:=zrk hi;unfold uS at hw;rw[qq hi] at hw;generalize vM fs (fs.getD i default).own i=J at*;generalize (fs.getD i default).own=own at*
   have hw':Ke L=zsz (J-i)++(vB own.data.toList::((if J<fs.length then [44]::uS fs n J else [])++ws)):=by
     rw[hw];simp only[qF,zf]
   obtain⟨L1,hg,hL1⟩:=zpl (L:=L) (m:=⟨(fs.take i).map uG,[],[]⟩) (by omega) (by simp only[kg,kk];omega) hsd hw' (by split<;>simp[hne]);have hLl:=uh hw';have hL1l:=uh hL1;rw[qk,qv] at hLl;cases f with
   |zero=>omega
   |succ f=>
    unfold XD;rw[hg];simp only[];rw[<-hrun];by_cases hJ:J<fs.length
    · rw[qq hJ] at hL1
      have hL1':Ke L1=[44]::(uS fs n J++ws):=hL1;rw[gd hL1',gq,uF,qq (by rfl)];have ha:=ge hL1' (by simp[hne]);exact Qf hs h16 hne hc n J f (Qv L1) hJ (by omega) ha (by have:=YN L1;omega)
    · rw[qp hJ] at hL1
      have hL1':Ke L1=ws:=hL1;cases hws:ws with
      |nil=>exact absurd hws hne
      |cons v ws'=>
       rw[hws] at hL1' hc;rw[gd hL1',gq,uF,qp (by simpa using hc)];refine⟨L1,by rw[hL1'],?_⟩;rw[show J=fs.length by omega,qR]
def wayW (of:List UInt8->List UInt8) (v:Way):List UInt8:=of v.1.data.toList++([32]++Lib.itoa v.2)
def pi (of:List UInt8->List UInt8):List Way->List UInt8
  |[]=>[]
  |v::r=>wayW of v++(if r.isEmpty then [] else vS++pi of r)
def ug (of:List UInt8->List UInt8):List Way->List (List UInt8)
  |[]=>[]
  |v::r=>of v.1.data.toList::Lib.itoa v.2::(if r.isEmpty then [] else [44]::ug of r)
theorem znf (of:List UInt8->List UInt8) (v:Way) (r:List Way):pi of (v::r)=of v.1.data.toList++([32]++Lib.itoa v.2)++(if r.isEmpty then [] else vS++pi of r):=rfl
theorem Qg (of:List UInt8->List UInt8) (l:List Way) (k:Nat):vG of l (k+1)=vG of l k++((if 0<k then vS else [])++(of (l.getD k default).1.data.toList++([32]++Lib.itoa (l.getD k default).2))):=rfl
theorem zpF (of:List UInt8->List UInt8) (l:List Way):∀k,k<l.length->vG of l k++((if 0<k then vS else [])++pi of (l.drop k))=pi of l
  |0,_=>by simp[vG]
  |k+1,hk=>by
   have ih:=zpF of l k (by omega);rw[uv l k (by omega)] at ih;rw[znf] at ih
   have hne:(l.drop (k+1)).isEmpty=false:=by
     rw[jU];intro h0;have:=congrArg List.length h0;rw[zu,qH] at this;omega
   rw[hne] at ih;simp only[zo,jb] at ih;rw[<-ih,Qg,qq (show 0<k+1 by omega)];simp only[qF]
theorem zoK (of:List UInt8->List UInt8) (l:List Way) (h:0<l.length):vG of l l.length=pi of l:=by
  obtain⟨k,hk⟩:∃k,l.length=k+1:=⟨l.length-1,by omega⟩;have h1:=zpF of l k (by omega);rw[uv l k (by omega)] at h1;have h2:l.drop (k+1)=[]:=kn (by omega);rw[h2,znf] at h1;rw[hk,<-h1,Qg];simp
theorem zng {of:List UInt8->List UInt8} {rest:List UInt8} {ws:List (List UInt8)} (hr:QN rest) (hx:QE rest ws):∀l:List Way,(∀v∈l,of v.1.data.toList≠[]/\(∀c∈of v.1.data.toList,Xo c=false)/\0<=v.2)->QE (pi of l++rest) (ug of l++ws)
  |[],_=>hx
  |v::r,h=>by
   obtain⟨h1,h2,h3⟩:=h v (by simp);unfold pi ug wayW
   have hrec:QE ((if r.isEmpty then [] else vS++pi of r)++rest) ((if r.isEmpty then [] else [44]::ug of r)++ws):=by
     split
     · exact hx
     · exact QE.mark 44 (.inl rfl) (QE.space (zng hr hx r λu hu=>h u (by simp[hu])))
   have hst:QN ((if r.isEmpty then [] else vS++pi of r)++rest):=by
     split
     · exact hr
     · exact .inr ⟨44,_,rfl,rfl⟩
   have:=QE.word h1 h2 (QN.cons rfl) (QE.space (QE.num h3 hst hrec));simpa only[qF,zf,zj] using this
theorem znN {own:ByteArray} {ws:List (List UInt8)} (hne:ws≠[]) (hc:ws.headD []≠[44]) (ends:List Way) (Qt:List (Int×Int)) (A C:List Ft):∀(r pre:List Way) (f:Nat) (L:List Tok),r≠[]->vD 4 [own] pre r=true->(pre++r).length<=15->Ke L=ug vB r++ws->L.length<=f->
    ∃L',K8 f L ⟨A++⟨own,pre⟩::C,ends,Qt⟩ A.length 1 false=.ok (L',⟨A++⟨own,pre++r⟩::C,ends,Qt⟩)/\Ke L'=ws
  |[],pre,f,L,h,_,_,_,_=>absurd rfl h
  |v::r,pre,f,L,_,hok,ZW,hw,hf=>by
   obtain⟨sg,c⟩:=v;unfold vD at hok;rw[qA] at hok;obtain⟨h1,h2⟩:=hok;unfold gL at h1;simp only[qA,qG,yx] at h1;obtain⟨⟨⟨⟨hsg,hc0⟩,hc1⟩,hpre⟩,hown⟩:=h1;have hsd:=zmU hsg;unfold ug at hw
   have hw':Ke L=vB sg.data.toList::Lib.itoa c::((if r.isEmpty then [] else [44]::ug vB r)++ws):=by
     rw[hw];simp only[zf]
   have hll:=uh hw';rw[qv,qv] at hll;have ha:=pF hw';have hb:=ge ha (by split<;>simp[hne]);have hl2:(Qv (Qv L)).length+2=L.length:=(by have:=uh hb;omega);have hdt:((A++⟨own,pre⟩::C).drop A.length).take 1=[⟨own,pre⟩]:=(by rw[vc];rfl);have hpl:pre.length≠15:=by simp only[qk,qv] at ZW;omega
   have hE:Yk [⟨own,pre⟩] sg false=0:=by
     unfold Yk UU V8;have e1:QF own sg=false:=(by unfold gK at hown;simpa using hown);have e2:uy pre sg=false:=hpre;simp[e1,e2,hpl]
   have hR:vR (A++⟨own,pre⟩::C) A.length 1 sg c false=A++⟨own,pre++[(sg,c)]⟩::C:=by
     unfold vR;rw[hdt,vg,<-List.drop_drop,vc];simp[gi]
   cases f with
   |zero=>omega
   |succ f=>
    unfold K8;rw[gd hw',hsd.foot];simp only[];rw[qq trivial,hdt,qq hE,gd ha,gp hc0 hc1 hc0 hc1];simp only[];rw[qq trivial,hR];cases r with
    |nil=>
     have hb':Ke (Qv (Qv L))=ws:=hb;cases hws:ws with
     |nil=>exact absurd hws hne
     |cons y ws'=>
      rw[hws] at hb' hc;rw[gd hb',gq,uF,qp (by simpa using hc)];exact⟨_,rfl,hb'⟩
    |cons u r'=>
     have hb':Ke (Qv (Qv L))=[44]::(ug vB (u::r')++ws):=hb;rw[gd hb',gq,uF,qq (by rfl)];have hd:=ge hb' (by simp[hne]);obtain⟨L',e,hL'⟩:=znN hne hc ends Qt A C (u::r') (pre++[(sg,c)]) f (Qv (Qv (Qv L))) (by simp) h2 (by simpa using ZW) hd (by have:=YN (Qv (Qv L));omega);exact⟨L',by rw[e,qF];rfl,hL'⟩
theorem znO {ws:List (List UInt8)} (hne:ws≠[]) (hc:ws.headD []≠[44]) (Qp:List Ft) (Qt:List (Int×Int)):∀(r pre:List Way) (f:Nat) (L:List Tok),r≠[]->vD 2 [] pre r=true->(pre++r).length<=4->Ke L=ug id r++ws->L.length<=f->
    ∃L',Jc f L ⟨Qp,pre,Qt⟩=.ok (L',⟨Qp,pre++r,Qt⟩)/\Ke L'=ws
  |[],pre,f,L,h,_,_,_,_=>absurd rfl h
  |v::r,pre,f,L,_,hok,h4,hw,hf=>by
   obtain⟨sg,c⟩:=v;unfold vD at hok;rw[qA] at hok;obtain⟨h1,h2⟩:=hok;unfold gL at h1;simp only[qA,qG,yx] at h1;obtain⟨⟨⟨⟨hsg,hc0⟩,hc1⟩,hpre⟩,hown⟩:=h1;unfold ug at hw
   have hw':Ke L=sg.data.toList::Lib.itoa c::((if r.isEmpty then [] else [44]::ug id r)++ws):=by
     rw[hw];simp only[zf,id]
   have hll:=uh hw';rw[qv,qv] at hll;have ha:=pF hw';have hb:=ge ha (by split<;>simp[hne]);have hl2:(Qv (Qv L)).length+2=L.length:=(by have:=uh hb;omega);have hpl:¬pre.length=4:=(by simp only[qk,qv] at h4;omega);have hmk:mkS sg.data.toList=sg:=(znd rfl).symm;have e2:uy pre sg=false:=hpre;cases f with
   |zero=>omega
   |succ f=>
    unfold Jc;rw[gd hw',hmk,qq hsg,qp (by rw[e2];simp),qp hpl,gd ha,gp hc0 hc1 hc0 hc1];simp only[];rw[qq trivial];cases r with
    |nil=>
     have hb':Ke (Qv (Qv L))=ws:=hb;cases hws:ws with
     |nil=>exact absurd hws hne
     |cons y ws'=>
      rw[hws] at hb' hc;rw[gd hb',gq,uF,qp (by simpa using hc)];exact⟨_,rfl,hb'⟩
    |cons u r'=>
     have hb':Ke (Qv (Qv L))=[44]::(ug id (u::r')++ws):=hb;rw[gd hb',gq,uF,qq (by rfl)];have hd:=ge hb' (by simp[hne]);obtain⟨L',e,hL'⟩:=znO hne hc Qp Qt (u::r') (pre++[(sg,c)]) f (Qv (Qv (Qv L))) (by simp) h2 (by simpa using h4) hd (by have:=YN (Qv (Qv L));omega);exact⟨L',by rw[e,qF];rfl,hL'⟩
def NC (ws:List (List UInt8)):Prop:=ws≠[]/\ws.headD []≠[44]
theorem NC.ztd (ws:List (List UInt8)):NC ([59]::ws):=⟨by simp,by simp⟩
def gh:List UInt8:=[98,114,101,97,107]
def zoL:List UInt8:=[101,110,100]
def gX (fs:List Ft) (k:Nat):List (List UInt8):=if 0<(fs.getD k default).Qs.length then [59]::Lib.itoa ((k:Int)+1)::ug vB (fs.getD k default).Qs else []
def pu (fs:List Ft):Nat->List (List UInt8)
  |0=>[]
  |k+1=>pu fs k++gX fs k
def pX (l:List Way):List (List UInt8):=if 0<l.length then [59]::zoL::ug id l else []
def gR (l:List (Int×Int)):Nat->List (List UInt8)
  |0=>[]
  |k+1=>gR l k++[[59],gh,Lib.itoa (l.getD k default).1,Lib.itoa (l.getD k default).2]
theorem pG (fs:List Ft) (k:Nat) {rest:List UInt8} (h:QN rest):QN (gN fs k++rest):=by
  unfold gN;split
  · exact .inr ⟨59,_,rfl,rfl⟩
  · exact h
theorem pH (fs:List Ft):∀(k:Nat) {rest:List UInt8},QN rest->QN (vV fs k++rest)
  |0,rest,h=>h
  |k+1,rest,h=>by
   unfold vV;rw[qF];exact pH fs k (pG fs k h)
theorem zoM (l:List Way) {rest:List UInt8} (h:QN rest):QN (uB l++rest):=by
  unfold uB;split
  · exact .inr ⟨59,_,rfl,rfl⟩
  · exact h
theorem pI (l:List (Int×Int)):∀(k:Nat) {rest:List UInt8},QN rest->QN (vW l k++rest)
  |0,rest,h=>h
  |k+1,rest,h=>by
   unfold vW;rw[qF];exact pI l k (.inr ⟨59,_,rfl,rfl⟩)
theorem znh (fs:List Ft) (k:Nat) {ws:List (List UInt8)} (h:NC ws):NC (gX fs k++ws):=by
  unfold gX;split
  · exact NC.ztd _
  · exact h
theorem znP (fs:List Ft):∀(k:Nat) {ws:List (List UInt8)},NC ws->NC (pu fs k++ws)
  |0,ws,h=>h
  |k+1,ws,h=>by
   unfold pu;rw[qF];exact znP fs k (znh fs k h)
theorem zp6 (l:List Way) {ws:List (List UInt8)} (h:NC ws):NC (pX l++ws):=by
  unfold pX;split
  · exact NC.ztd _
  · exact h
theorem znQ (l:List (Int×Int)):∀(k:Nat) {ws:List (List UInt8)},NC ws->NC (gR l k++ws)
  |0,ws,h=>h
  |k+1,ws,h=>by
   unfold gR;rw[qF];exact znQ l k (NC.ztd _)
theorem gS:∀(l pre:List Way) (lg:Int) (own:List ByteArray),vD lg own pre l=true->∀v∈l,Zx v.1 1 lg=true/\0<=v.2/\v.2<=1048576
  |[],_,_,_,_,v,hv=>by cases hv
  |u::l,pre,lg,own,h,v,hv=>by
   unfold vD at h;rw[qA] at h;rcases zy.1 hv with rfl|hv
   · have h1:=h.1
     unfold gL at h1;simp only[qA,qG] at h1;exact⟨h1.1.1.1.1,h1.1.1.1.2,h1.1.1.2⟩
   · exact gS l _ lg own h.2 v hv
theorem gT {f:Ft} (h:vE f=true):Zx f.own 1 4=true/\f.Qs.length<=15/\vD 4 [f.own] [] f.Qs=true:=by
  unfold vE vT at h;simp only[qA,qG] at h;exact⟨h.1,by omega,h.2.2⟩
theorem zpm {fs:List Ft} (hs:∀f∈fs,vE f=true) {k:Nat} (hk:k<fs.length) {rest:List UInt8} {ws:List (List UInt8)} (hr:QN rest) (hx:QE rest ws):QE (gN fs k++rest) (gX fs k++ws):=by
  obtain⟨_,_,h3⟩:=gT (hs _ (vpq hk));unfold gN gX;split
  · rename_i h0
    rw[zoK vB _ h0]
    have h1:=zng hr hx (fs.getD k default).Qs λv hv=>by
      have h4:=gS _ _ _ _ h3 v hv;have:=zmU h4.1;exact⟨this.ne,this.ns,h4.2.1⟩
    have h2:=QE.mark 59 (.inr rfl) (QE.space (QE.num (v:=(k:Int)+1) (by omega) (QN.cons rfl) (QE.space h1)));simpa only[zny,qF,zf,zj] using h2
  · exact hx
theorem zni {fs:List Ft} (hs:∀f∈fs,vE f=true):∀(k:Nat) {rest:List UInt8} {ws:List (List UInt8)},k<=fs.length->QN rest->QE rest ws->QE (vV fs k++rest) (pu fs k++ws)
  |0,rest,ws,_,hr,hx=>hx
  |k+1,rest,ws,hk,hr,hx=>by
   unfold vV pu;rw[qF,qF];exact zni hs k (by omega) (pG fs k hr) (zpm hs (by omega) hr hx)
theorem zp7 {l:List Way} (hs:vD 2 [] [] l=true) {rest:List UInt8} {ws:List (List UInt8)} (hr:QN rest) (hx:QE rest ws):QE (uB l++rest) (pX l++ws):=by
  unfold uB pX;split
  · rename_i h0
    rw[zoK id _ h0]
    have h1:=zng (of:=id) hr hx l λv hv=>by
      have h4:=gS _ _ _ _ hs v hv;obtain⟨h5,h6⟩:=pW h4.1
      exact⟨λh0=>by have h0':v.1.data.toList=[]:=h0
                    rw[h0'] at h6;simp at h6,λc hc=>znM (h5 c hc),h4.2.1⟩
    have h2:=QE.mark 59 (.inr rfl) (QE.space (QE.word (w:=zoL) (by decide) (by decide) (QN.cons rfl) (QE.space h1)));simpa only[zsr,zoL,qF,zf,zj] using h2
  · exact hx
theorem znj {l:List (Int×Int)} (hs:∀b∈l,0<=b.1/\0<=b.2):∀(k:Nat) {rest:List UInt8} {ws:List (List UInt8)},k<=l.length->QN rest->QE rest ws->QE (vW l k++rest) (gR l k++ws)
  |0,rest,ws,_,hr,hx=>hx
  |k+1,rest,ws,hk,hr,hx=>by
   unfold vW gR;have hm:l.getD k default∈l:=(by rw[qe,qC (by omega)];exact qM _);obtain⟨h1,h2⟩:=hs _ hm;have h3:=QE.mark 59 (.inr rfl) (QE.space (QE.word (w:=gh) (by decide) (by decide) (QN.cons rfl) (QE.space (QE.num h1 (QN.cons rfl) (QE.space (QE.num h2 hr hx))))));have h4:=znj hs k (by omega) (QN.cons rfl) h3;simpa only[pO,gh,qF,zf,zj] using h4
theorem zoc {n:Nat} {l:List UInt8} (h:QP (mkS l)=false):QF (mkS (Lib.itoa (n:Int))) (mkS l)=false:=by
  rw[uF];cases he:(Lib.itoa (n:Int)==l) with
  |false=>rfl
  |true=>
   have:Lib.itoa (n:Int)=l:=(by simpa using he);rw[<-this,zmT] at h;cases h
theorem gA {f:Nat} {L:List Tok} {m m':Met} {L':List Tok} {ws:List (List UInt8)} (hw:Ke L=[59]::ws) (hc:Ka (Qv L) m=.ok (L',m')):KN (f+1) L m=KN f L' m':=by
  conv=>lhs;unfold KN
  rw[gd hw,zne,qp (by simp),zrj,uF,qq (by rfl),hc]
theorem zoN {L:List Tok} {own:ByteArray} {A C:List Ft} {r:List Way} {ws:List (List UInt8)} (hne:NC ws) (hr:r≠[]) (hok:vD 4 [own] [] r=true) (ZW:r.length<=15) (h16:(A++⟨own,[]⟩::C).length<=16) (hw:Ke L=Lib.itoa ((A.length:Int)+1)::(ug vB r++ws)):
    ∃L',Ka L ⟨A++⟨own,[]⟩::C,[],[]⟩=.ok (L',⟨A++⟨own,r⟩::C,[],[]⟩)/\Ke L'=ws:=by
  have hcast:((A.length:Int)+1)=((A.length+1:Nat):Int):=by push_cast;rfl
  have hl:(A++(⟨own,[]⟩:Ft)::C).length=A.length+1+C.length:=by simp only[qk,qv];omega
  unfold Ka;rw[gd hw];have e1:QF (mkS (Lib.itoa ((A.length:Int)+1))) ANY=false:=by rw[hcast];exact zoc (l:=[97,110,121]) (by decide)
  have e2:QF (mkS (Lib.itoa ((A.length:Int)+1))) END=false:=by rw[hcast];exact zoc (l:=[101,110,100]) (by decide)
  have e3:QF (mkS (Lib.itoa ((A.length:Int)+1))) Kv=false:=by rw[hcast];exact zoc (l:=[98,114,101,97,107]) (by decide)
  have e4:QP (mkS (Lib.itoa ((A.length:Int)+1)))=true:=by rw[hcast];exact zmT _
  rw[e1,e2,e3,e4];simp only[zo,jb,ks];rw[gp (by omega) (by omega) (by omega) (by rw[hl];push_cast;omega)];simp only[];rw[qq trivial,show((A.length:Int)+1).toNat-1=A.length by omega];have ha:=ge hw (by simp[hne.1]);exact znN hne.1 hne.2 [] [] A C r [] _ _ hr hok (by simpa using ZW) ha (ql _)
theorem pJ {fs:List Ft} (hs:∀f∈fs,vE f=true) (h16:fs.length<=16):∀(k:Nat) (f:Nat) (L:List Tok) (ws:List (List UInt8)),k<=fs.length->NC ws->Ke L=pu fs k++ws->L.length<=f->
    ∃f' L',Ke L'=ws/\L'.length<=f'/\KN f L ⟨fs.map uG,[],[]⟩=KN f' L' ⟨fs.take k++(fs.drop k).map uG,[],[]⟩
  |0,f,L,ws,_,hne,hw,hf=>⟨f,L,hw,hf,by simp⟩
  |k+1,f,L,ws,hk,hne,hw,hf=>by
   unfold pu at hw;rw[qF] at hw;obtain⟨f1,L1,hw1,hf1,e1⟩:=pJ hs h16 k f L _ (by omega) (znh fs k hne) hw hf;obtain⟨h1,h2,h3⟩:=gT (hs _ (vpq (show k<fs.length by omega)));rw[e1,uv fs k (by omega),zl,po fs k (by omega),qF];unfold gX at hw1;have hAl:(fs.take k).length=k:=(by rw[kk];omega);have hCl:((fs.drop (k+1)).map uG).length=fs.length-(k+1):=(by rw[kg,zu]);generalize fs.getD k default=g at*;by_cases h0:0<g.Qs.length
   · rw[qq h0] at hw1
     have GM:Ke L1=[59]::Lib.itoa ((k:Int)+1)::(ug vB g.Qs++ws):=(by rw[hw1];rfl);have ha:=pF GM;obtain⟨L2,hc,hL2⟩:=zoN (L:=Qv L1) (own:=g.own) (A:=fs.take k) (C:=(fs.drop (k+1)).map uG) (r:=g.Qs) hne (λh=>by rw[h] at h0;simp at h0) h3 h2 (by simp only[qk,qv];omega) (by rw[hAl];exact ha);have hll:=uh GM;have hl2:=uh hL2;simp only[qv,qk] at hll;cases f1 with
     |zero=>omega
     |succ f1=>
      refine⟨f1,L2,hL2,by omega,?_⟩;exact gA GM hc
   · rw[qp h0] at hw1
     have hw0:g.Qs=[]:=zB (by omega);refine⟨f1,L1,hw1,hf1,?_⟩;have:uG g=g:=(by unfold uG V9;cases g;simp_all);rw[this];rfl
theorem zod {fs:List Ft} {l:List Way} (hs:vD 2 [] [] l=true) (h4:l.length<=4) {f:Nat} {L:List Tok} {ws:List (List UInt8)} (hne:NC ws) (hw:Ke L=pX l++ws) (hf:L.length<=f):
    ∃f' L',Ke L'=ws/\L'.length<=f'/\KN f L ⟨fs,[],[]⟩=KN f' L' ⟨fs,l,[]⟩:=by
  unfold pX at hw;by_cases h0:0<l.length
  · rw[qq h0] at hw
    have hw':Ke L=[59]::zoL::(ug id l++ws):=(by rw[hw];rfl);have ha:=pF hw';have hb:=ge ha (by simp[hne.1]);obtain⟨L2,hc,hL2⟩:=znO hne.1 hne.2 fs [] l [] (Qv (Qv L)).length (Qv (Qv L)) (λh=>by rw[h] at h0;simp at h0) hs (by simpa using h4) hb (ql _)
    have hcl:Ka (Qv L) ⟨fs,[],[]⟩=.ok (L2,⟨fs,l,[]⟩):=by
      unfold Ka;rw[gd ha];have e1:QF (mkS zoL) ANY=false:=(uF zoL [97,110,121]).trans (by decide);have e2:QF (mkS zoL) END=true:=(uF zoL [101,110,100]).trans (by decide);rw[e1,e2];simp only[zo,jb,ks];exact hc
    have hll:=uh hw';have hl2:=uh hL2;simp only[qv,qk] at hll;cases f with
    |zero=>omega
    |succ f=>exact⟨f,L2,hL2,by omega,gA hw' hcl⟩
  · rw[qp h0] at hw
    have h0':l=[]:=zB (by omega);exact⟨f,L,hw,hf,by rw[h0']⟩
theorem zpG {n:Int}:∀(l:List (Int×Int)) (a:Int) (k:Nat),vF n a l=true->k<l.length->(match(l.take k).getLast? with|none=>a|some b=>b.1)<(l.getD k default).1/\(l.getD k default).1<n/\1<=(l.getD k default).2/\(l.getD k default).2<=1048576
  |[],_,k,_,hk=>by simp at hk
  |b::l,a,k,h,hk=>by
   unfold vF at h;simp only[qA,qG] at h;obtain⟨⟨⟨⟨h1,h2⟩,h3⟩,h4⟩,h5⟩:=h;cases k with
   |zero=>exact⟨h1,h2,h3,h4⟩
   |succ k=>
    have ih:=zpG l b.1 k h5 (by simpa using hk);rw[List.take_succ_cons,List.getD_cons_succ];refine⟨?_,ih.2⟩;cases ht:l.take k with
    |nil=>rw[ht] at ih;exact ih.1
    |cons y t=>
     rw[ht] at ih;rw[List.getLast?_cons_cons];cases hg:(y::t).getLast? with
     |none=>simp at hg
     |some z=>rw[hg] at ih;exact ih.1
theorem pK {fs:List Ft} {en:List Way} {l:List (Int×Int)} (h16:fs.length<=16) (hs:vF fs.length 0 l=true) (hp:∀b∈l,0<=b.1):∀(k:Nat) (f:Nat) (L:List Tok) (ws:List (List UInt8)),k<=l.length->NC ws->Ke L=gR l k++ws->L.length<=f->
    ∃f' L',Ke L'=ws/\L'.length<=f'/\KN f L ⟨fs,en,[]⟩=KN f' L' ⟨fs,en,l.take k⟩
  |0,f,L,ws,_,hne,hw,hf=>⟨f,L,hw,hf,by simp⟩
  |k+1,f,L,ws,hk,hne,hw,hf=>by
   unfold gR at hw;rw[qF] at hw;obtain⟨f1,L1,hw1,hf1,e1⟩:=pK h16 hs hp k f L _ (by omega) (NC.ztd _) hw hf;have hat:=zpG l 0 k hs (by omega);have hm:l.getD k default∈l:=(by rw[qe,qC (by omega)];exact qM _);have h0:=hp _ hm;rw[e1,po l k (by omega)];have hah:zag ⟨fs,en,l.take k⟩=(match(l.take k).getLast? with|none=>(0:Int)|some b=>b.1):=rfl;rw[<-hah] at hat;generalize l.getD k default=b at*;obtain⟨x,c⟩:=b;simp only[] at hat h0;have GM:Ke L1=[59]::gh::Lib.itoa x::Lib.itoa c::ws:=hw1;have ha:=pF GM;have hb:=pF ha;have hc:=pF hb;have hd:=ge hc hne.1
   have hcl:Ka (Qv L1) ⟨fs,en,l.take k⟩=.ok (Qv (Qv (Qv (Qv L1))),⟨fs,en,l.take k++[(x,c)]⟩):=by
     unfold Ka;rw[gd ha];have e1:QF (mkS gh) ANY=false:=(uF gh [97,110,121]).trans (by decide);have e2:QF (mkS gh) END=false:=(uF gh [101,110,100]).trans (by decide);have e3:QF (mkS gh) Kv=true:=(uF gh [98,114,101,97,107]).trans (by decide);rw[e1,e2,e3];simp only[zo,jb,ks];unfold VL;rw[gd hb,gp h0 (by omega) (by omega) (by show x<=(fs.length:Int)-1;omega)];simp only[];rw[qq trivial,gd hc,gp (by omega) (by omega) (by omega) (by omega)];simp only[];rw[qq trivial]
   have hll:=uh GM;have hl2:=uh hd;simp only[qv] at hll;cases f1 with
   |zero=>omega
   |succ f1=>exact⟨f1,_,hd,by omega,gA GM hcl⟩
theorem zpn {m:Met} (h:ub m=true) (hsz:(vX m).length<=65536):KH (mkS (vX m))=.ok m:=by
  have h':=h;unfold ub at h';simp only[qA,qG] at h';obtain⟨⟨⟨⟨h1,h16⟩,he⟩,hf⟩,hb⟩:=h';have Vf:∀f∈m.Qp,vE f=true:=zF.1 hf;have hsig:∀f∈m.Qp,Zx f.own 1 4=true:=λf hf=>(gT (Vf f hf)).1;unfold vT at he;simp only[qA,qG] at he;have hbd:=(uV m.Qt 0 (by omega) (by omega) hb).2;have hnil:NC [[]]:=⟨by simp,by simp⟩;have x4:QE (vW m.Qt m.Qt.length++[]) (gR m.Qt m.Qt.length++[[]]):=znj (λb hb=>⟨(hbd b hb).1,(hbd b hb).2.2.1⟩) _ (ql _) (.inl rfl) QE.nil;have s4:=pI m.Qt m.Qt.length (rest:=[]) (.inl rfl);have x3:=zp7 he.2 s4 x4;have s3:=zoM m.ends s4;have x2:=zni Vf m.Qp.length (ql _) s3 x3;have s2:=pH m.Qp m.Qp.length s3;have x1:=zoJ hsig s2 x2 m.Qp.length 0 (by omega) (by omega);rw[qp (by omega)] at x1;have hpr:vU m.Qp m.Qp.length 0++(vV m.Qp m.Qp.length++(uB m.ends++(vW m.Qt m.Qt.length++[])))=vX m:=by unfold vX;rw[zO]
  rw[hpr] at x1;have hx:=x1 (mkS (vX m)) 0 (qQ _) (by rw[gQ];rfl);have n3:=znQ m.Qt m.Qt.length hnil;have n2:=zp6 m.ends n3;have n1:=znP m.Qp m.Qp.length n2;unfold KH;rw[qp (by rw[zne];omega)];obtain⟨L1,w1,e1⟩:=Qf hsig h16 n1.1 n1.2 m.Qp.length 0 _ (toks (mkS (vX m)) 0) (by omega) (by omega) hx (ql _);have z:(⟨(m.Qp.take 0).map uG,[],[]⟩:Met)=Met.zero:=rfl;rw[z] at e1;rw[e1];obtain⟨f2,L2,w2,l2,e2⟩:=pJ Vf h16 m.Qp.length _ L1 _ (ql _) n2 w1 (ql _);rw[qR,xO,kF,zO] at e2;rw[e2];obtain⟨f3,L3,w3,l3,e3⟩:=zod (fs:=m.Qp) he.2 (by omega) n3 w2 l2;rw[e3];obtain⟨f4,L4,w4,l4,e4⟩:=pK (en:=m.ends) h16 hb (λb hb=>(hbd b hb).1) m.Qt.length _ L3 _ (ql _) hnil w3 l3;rw[qR] at e4;rw[e4];have hl4:=uh w4;cases f4 with
  |zero=>simp at hl4;omega
  |succ f4=>
   unfold KN;rw[gd w4,zne,qq (show([]:List UInt8).length=0 from rfl)]
end Go.Proofs.YtgklikkddckgbaaGreatDoor
namespace Go.Proofs.YtgklikkddckgbaaGreatDoor.Mo
open Go.RowKit
def QX (s:ByteArray) (p:Nat) (l:List UInt8):Prop:=p<=s.size/\s.data.toList.drop p=l
theorem QX.cons {s:ByteArray} {p:Nat} {c:UInt8} {t:List UInt8} (h:QX s p (c::t)):∃hp:p<s.size,s[p]=c/\QX s (p+1) t:=by
  obtain⟨h1,h2,h3⟩:=gV h.2;exact⟨h1,h2,by omega,h3⟩
theorem QX.app {s:ByteArray}:∀{a:List UInt8} {p:Nat} {b:List UInt8},QX s p (a++b)->QX s (p+a.length) b
  |[],p,b,h=>h
  |c::a,p,b,h=>by
   obtain⟨_,_,h2⟩:=QX.cons h;have:=QX.app h2;rw[qv,show p+(a.length+1)=p+1+a.length by omega];exact this
theorem QX.nil {s:ByteArray} {p:Nat} (h:QX s p []):p=s.size:=by
  have hl:s.data.toList.length=s.size:=by rw[qP];rfl
  have:=congrArg List.length h.2;rw[zu,qH] at this;have:=h.1;omega
theorem QX.qB {s:ByteArray} {p:Nat} {c:UInt8} {t:List UInt8} (h:QX s p (c::t)) (x:Int):QC s p x=((c.toNat:Int)==x):=by
  obtain⟨h1,h2,_⟩:=QX.cons h;rw[Kf h1,h2]
theorem QX.qE {s:ByteArray} {p:Nat} {c:UInt8} {t:List UInt8} (h:QX s p (c::t)):uj s p=((c.toNat:Int)==10):=by
  obtain⟨h1,h2,_⟩:=QX.cons h;rw[zeu h1,h2]
theorem QX.qI {s:ByteArray} {p:Nat} {c:UInt8} {t:List UInt8} (h:QX s p (c::t)) (a b:Int):Zq s p a b=(decide (a<=(c.toNat:Int))&&decide ((c.toNat:Int)<=b)):=by
  obtain⟨h1,h2,_⟩:=QX.cons h;rw[VM h1,h2]
theorem QX.qD {s:ByteArray} {p:Nat} {c:UInt8} {t:List UInt8} (h:QX s p (c::t)):QA s p=c:=by
  obtain⟨h1,h2,_⟩:=QX.cons h;unfold QA;rw[jc h1,h2]
theorem QX.must {s:ByteArray} {t:List UInt8}:∀{w:List UInt8} {p:Nat},QX s p (w++t)->QT s (w.map λc=>(c.toNat:Int)) p=.ok (p+w.length)
  |[],p,h=>rfl
  |c::w,p,h=>by
   have h':QX s p (c::(w++t)):=h;rw[zl];unfold QT;rw[h'.qB,qq (by simp),QX.must h'.cons.2.2];rw[qv];congr 1
   omega
theorem QX.rest {s:ByteArray} {t:List UInt8}:∀{w:List UInt8} {p:Nat},(∀c∈w,c≠10)->QX s p (w++10::t)->zap s p=p+w.length
  |[],p,hw,h=>zb8 (by rw[h.qE];rfl)
  |c::w,p,hw,h=>by
   have h':QX s p (c::(w++10::t)):=h
   rw[zfE (by
     rw[h'.qE];have:=hw c (by simp);simp only[zp,ne_eq];intro e;exact this (kS.1 (by show c.toNat=10;omega))),QX.rest (λd hd=>hw d (by simp[hd])) h'.cons.2.2,qv]
   omega
theorem QX.cut {s:ByteArray} {p:Nat} {w t:List UInt8} (h:QX s p (w++t)):vA s p (p+w.length)=w:=by
  unfold vA;rw[h.2,show p+w.length-p=w.length by omega,vg]
theorem znR (l:List UInt8) (c:UInt8):uf (l++[c])=10*uf l+(c.toNat-48):=by
  unfold uf;rw[xt];rfl
theorem zpH:∀k:Nat,k<10->(UInt8.ofNat (48+k)).toNat-48=k:=by decide+kernel
theorem zqW (n:Nat):uf (Lib.decDigits n)=n:=by
  induction n using Nat.strongRecOn with
  |ind n ih=>
   rw[Lib.decDigits];split
   · rename_i h
     have:=znR [] (UInt8.ofNat (48+n));rw[zpH n h] at this;simpa [uf] using this
   · rename_i h
     rw[znR,ih (n/10) (by omega),zpH (n%10) (by omega)];omega
theorem zqX:∀k:Nat,k<10->0<k->UInt8.ofNat (48+k)≠48:=by decide+kernel
theorem zqY (n:Nat) (h:0<n):∃c t,Lib.decDigits n=c::t/\c≠48:=by
  induction n using Nat.strongRecOn with
  |ind n ih=>
   rw[Lib.decDigits];split
   · rename_i h1;exact⟨_,_,rfl,zqX n h1 h⟩
   · rename_i h1
     obtain⟨c,t,e,hc⟩:=ih (n/10) (by omega) (by omega);rw[e];exact⟨c,t++[UInt8.ofNat (48+n%10)],rfl,hc⟩
def KQ (t:List UInt8):Prop:=t=[]∨∃c u,t=c::u/\¬(48<=c.toNat/\c.toNat<=57)
theorem KQ.cons {c:UInt8} {u:List UInt8} (h:¬(48<=c.toNat/\c.toNat<=57)):KQ (c::u):=.inr ⟨c,u,rfl,h⟩
theorem zoO {s:ByteArray} {a:Nat} {t:List UInt8} (ht:KQ t):∀(w:List UInt8) (i:Nat),a<i->(∀c∈w,48<=c.toNat/\c.toNat<=57)->(w=[]∨QC s a 48=false)->QX s i (w++t)->Qx s a i=i+w.length
  |[],i,hi,_,_,h=>by
   refine zaZ ?_;unfold vO;rcases ht with rfl|⟨c,u,rfl,hc⟩
   · rw[zcF (by have:=h.nil;omega)];rfl
   · have h':QX s i (c::u):=h
     rw[h'.qI]
     have:(decide ((48:Int)<=(c.toNat:Int))&&decide ((c.toNat:Int)<=57))=false:=by
       simp only[Bool.and_eq_false_iff,xp];omega
     rw[this];rfl
  |c::w,i,hi,hd,h0,h=>by
   have h':QX s i (c::(w++t)):=h;have hc:=hd c (by simp);have h48:QC s a 48=false:=h0.resolve_left (by simp)
   have hg:vO s a i=true:=by
     unfold vO;rw[h'.qI,qL (show(48:Int)<=(c.toNat:Int) by omega),qL (show(c.toNat:Int)<=57 by omega),h48];simp
   rw[zbZ hg,zoO ht w (i+1) (by omega) (λd hd'=>hd d (by simp[hd'])) (.inr h48) h'.cons.2.2,qv];omega
theorem QX.num {s:ByteArray} {p:Nat} {n:Nat} {t:List UInt8} {least:Int} (h:QX s p (Lib.itoa (n:Int)++t)) (ht:KQ t) (h1:least<=(n:Int)) (h2:n<=512):vz s least p=.ok ((n:Int),p+(Lib.itoa (n:Int)).length):=by
  rw[kN] at h|-;obtain⟨c,u,hd⟩:=zmS n;have hr:=pE n
  have hE:Qx s p p=p+(Lib.decDigits n).length:=by
    rw[hd] at h hr|-;have h':QX s p (c::(u++t)):=h;have hc:=hr c (by simp)
    have hg:vO s p p=true:=by
      unfold vO;rw[h'.qI,qL (show(48:Int)<=(c.toNat:Int) by omega),qL (show(c.toNat:Int)<=57 by omega)];simp
    rw[zbZ hg,zoO ht u (p+1) (by omega) (λd hd'=>hr d (by simp[hd'])) ?_ h'.cons.2.2,qv]
    · omega
    · by_cases hn:0<n
      · refine .inr ?_
        obtain⟨c2,t2,e2,hc2⟩:=zqY n hn;rw[hd] at e2;obtain⟨rfl,_⟩:=List.cons.inj e2;rw[h'.qB];simp only[zp,ne_eq];intro e;exact hc2 (kS.1 (by show c.toNat=48;omega))
      · refine .inl ?_
        obtain rfl:n=0:=by omega
        rw[Lib.decDigits] at hd;simp at hd;exact hd.2
  have hlen:0<(Lib.decDigits n).length:=by rw[hd];simp
  unfold vz;rw[hE,qp (by omega),h.cut,zqW,qp (by omega)]
theorem zrl:∀c:Nat,c<25->((((gP (c:Int)).toNat:Int)==120)=false/\vI (gP (c:Int))=(c:Int))/\((((Lib.upperB (gP (c:Int))).toNat:Int)==120)=false/\vI (Lib.upperB (gP (c:Int)))<0/\(decide ((65:Int)<=((Lib.upperB (gP (c:Int))).toNat:Int))&&decide (((Lib.upperB (gP (c:Int))).toNat:Int)<=90))=true/\vI (Lib.upperB (gP (c:Int))|||32)=(c:Int)):=by decide+kernel
theorem zrm:∀r:Nat,r<10->0<r->Lib.decDigits r=[UInt8.ofNat (48+r)]/\(decide ((49:Int)<=((UInt8.ofNat (48+r)).toNat:Int))&&decide (((UInt8.ofNat (48+r)).toNat:Int)<=57))=true/\((UInt8.ofNat (48+r)).toNat:Int)-48=(r:Int):=by
  intro r h h0;refine⟨by rw[Lib.decDigits,jc h],?_⟩;have:∀r:Nat,r<10->0<r->(decide ((49:Int)<=((UInt8.ofNat (48+r)).toNat:Int))&&decide (((UInt8.ofNat (48+r)).toNat:Int)<=57))=true/\((UInt8.ofNat (48+r)).toNat:Int)-48=(r:Int):=by decide+kernel
  exact this r h h0
theorem QX.zu9 {s:ByteArray} {p:Nat} {x:It} {t:List UInt8} (hx:gj x) (hr:x.cls<0->x.ref=0) (h:QX s p (gG x++t)):Z4 s p=.ok (x.cls,x.ref,p+(gG x).length):=by
  have hcl:=hx.cl;have hrf:=hx.rf;unfold gG at h|-;unfold Z4;by_cases h0:0<=x.cls
  · rw[qq h0] at h|-
    obtain⟨c,hc⟩:∃c:Nat,x.cls=(c:Int):=⟨x.cls.toNat,by omega⟩;obtain⟨⟨a1,a2⟩,b1,b2,b3,b4⟩:=zrl c (by omega);rw[hc] at h|-;by_cases h1:0<x.ref
    · rw[qq h1] at h|-
      obtain⟨r,hr'⟩:∃r:Nat,x.ref=(r:Int):=⟨x.ref.toNat,by omega⟩;obtain⟨d1,d2,d3⟩:=zrm r (by omega) (by omega);rw[hr',kN,d1] at h|-;have h':QX s p (Lib.upperB (gP (c:Int))::(UInt8.ofNat (48+r)::t)):=h;obtain⟨hp,_,hn⟩:=h'.cons;rw[h'.qB,b1,qp (by simp),qp (by omega),h'.qD,qp (by omega),h'.qI,b3,qp (by rw[b4];simp),hn.qI,d2,qp (by simp),hn.qD,d3,b4];rfl
    · rw[qp h1] at h|-
      have h':QX s p (gP (c:Int)::t):=h;obtain⟨hp,_,hn⟩:=h'.cons;rw[h'.qB,a1,qp (by simp),qp (by omega),h'.qD,a2,qq (by omega),show x.ref=0 by omega];rfl
  · rw[qp h0] at h|-
    have h':QX s p (120::t):=h;rw[h'.qB,qq (by rfl),hr (by omega),show x.cls= -1 by omega];rfl
def J8 (m:Mk):Int×Int:=(m.sign,m.n)
theorem zoe (ms:List Mk) (c:Int):Zh ms c=(ms.map J8).countP λq=>q.1==c:=by
  unfold Zh;rw[List.countP_map];rfl
structure MayM (Qo:List UInt8) (ps:List (Int×Int)) (q:Mk):Prop where
  ok:uM q
  few:(ps.countP λr=>r.1==q.sign)<(if q.sign=126 then 4 else 1)
  lt:q.sign=58->0<=Lib.indexByte Qo q.n.toNat.toUInt8
  new:q.sign=126->∀r∈ps,r.1=126->r.2≠q.n
def zoP (Qo:List UInt8):List (Int×Int)->List Mk->Prop
  |_,[]=>True
  |ps,q::qs=>MayM Qo ps q/\zoP Qo (ps++[J8 q]) qs
theorem zqZ:∀c:Nat,c<128->(c=58∨c=47∨c=94∨c=64∨c=126∨c=39)->(UInt8.ofNat c).toNat=c/\zd9 (UInt8.ofNat c)=true:=by decide+kernel
theorem ztv:∀c:Nat,c<128->(UInt8.ofNat c).toNat=c:=by decide+kernel
def zpI (t:List UInt8):Prop:=∃c u,t=c::u/\(c=32∨c=10)
theorem znk {q:Mk} (hq:uM q):∃c:Nat,q.sign=(c:Int)/\(c=58∨c=47∨c=94∨c=64∨c=126∨c=39)/\∃u,YL q=UInt8.ofNat c::u:=by
  obtain⟨c,hc⟩:∃c:Nat,q.sign=(c:Int):=⟨q.sign.toNat,by have:=hq.sg;omega⟩;refine⟨c,hc,by have:=hq.sg;omega,?_⟩;unfold YL;rw[hc];split
  · exact⟨_,rfl⟩
  · exact⟨_,rfl⟩
theorem zoQ {t:List UInt8} (ht:zpI t):∀qs:List Mk,(∀q∈qs,uM q)->KQ (qs.flatMap YL++t)
  |[],_=>by
   obtain⟨c,u,rfl,hc⟩:=ht;exact KQ.cons (by rcases hc with rfl|rfl<;>decide)
  |q::qs,h=>by
   obtain⟨c,_,hc,u,hu⟩:=znk (h q (by simp));rw[qX,hu];refine KQ.cons ?_;rw[ztv c (by omega)];omega
theorem QX.mark {s:ByteArray} {p:Nat} {Qo t:List UInt8} {ms:List Mk} {q:Mk} (hq:MayM Qo (ms.map J8) q) (ht:KQ t) (h:QX s p (YL q++t)):
    p<s.size/\zd9 (QA s p)=true/\∃m,Kg s Qo ms p=.ok (m,p+(YL q).length)/\J8 m=J8 q:=by
  obtain⟨c,hc,hcs,u,hu⟩:=znk hq.ok;obtain⟨e1,e2⟩:=zqZ c (by omega) hcs;have h':QX s p (UInt8.ofNat c::(u++t)):=by rw[hu] at h;exact h
  obtain⟨hp,_,hn⟩:=h'.cons;refine⟨hp,by rw[h'.qD];exact e2,?_⟩;have hb:∀x:Int,QC s p x=((c:Int)==x):=λx=>by rw[h'.qB,e1]
  have zrF:=hq.few;rw[hc] at zrF;unfold Kg
  have hlim:¬(if QC s p 126 then 4 else 1)<=Zh ms (QA s p).toNat:=by
    rw[h'.qD,e1,zoe,hb];by_cases UE:c=126
    · rw[qq (by rw[UE];rfl)]
      rw[qq (by omega)] at zrF;omega
    · rw[qp (by simp;omega)]
      rw[qp (by omega)] at zrF;omega
  rw[qp hlim,hb,hb,hb];by_cases hl:c=58∨c=39
  · have hlt:=hq.ok.lt (by omega)
    have hT:YL q=[UInt8.ofNat c,UInt8.ofNat q.n.toNat]:=by
      unfold YL;rw[qq (by omega),hc];rfl
    rw[hT] at hu;obtain⟨_,hu2⟩:=List.cons.inj hu;rw[<-hu2] at hn;have hn':QX s (p+1) (UInt8.ofNat q.n.toNat::t):=hn;have e3:=ztv q.n.toNat (by omega);rw[qq (by rcases hl with rfl|rfl<;>rfl)];rw[hn'.qI,e3,qL (show(97:Int)<=((q.n.toNat:Nat):Int) by omega),qL (show((q.n.toNat:Nat):Int)<=122 by omega),qp (by simp),hn'.qD,e3]
    rw[qp (by
      intro hf;simp only[qA,ja,qG] at hf;have:=hq.lt (by omega);have e5:q.n.toNat.toUInt8=UInt8.ofNat q.n.toNat:=rfl;rw[e5] at this;omega)]
    refine⟨_,by rw[hT];rfl,?_⟩;unfold J8;rw[h'.qD,e1,hc];simp only[];congr 1
    omega
  · have hnm:=hq.ok.nm (by omega) (by omega)
    obtain⟨n,hnn⟩:∃n:Nat,q.n=(n:Int):=⟨q.n.toNat,by omega⟩
    have hT:YL q=UInt8.ofNat c::Lib.itoa (n:Int):=by
      unfold YL;rw[qp (by omega),hc,hnn];rfl
    rw[hT] at hu;obtain⟨_,hu2⟩:=List.cons.inj hu;rw[<-hu2] at hn;have QJ:=QX.num (least:=1) hn ht (by omega) (by omega);rw[qp (by simp;omega),QJ];simp only[]
    rw[qp (by
      intro hf;simp only[qA,ja,kj] at hf;obtain⟨hf1,m,hm,hf2,hf3⟩:=hf;refine hq.new (by omega) (J8 m) (yb hm) hf2 ?_;rw[hnn];exact hf3)]
    refine⟨_,by rw[hT,qv,show p+((Lib.itoa (n:Int)).length+1)=p+1+(Lib.itoa (n:Int)).length by omega],?_⟩;unfold J8;rw[h'.qD,e1,hc,hnn]
theorem QX.Qq {s:ByteArray} {Qo t:List UInt8} (ht:zpI t):∀(qs:List Mk) (ms:List Mk) (f p:Nat),qs.length<f->zoP Qo (ms.map J8) qs->QX s p (qs.flatMap YL++t)->
    ∃ms',Z5 s Qo f ms p=.ok (ms++ms',p+(qs.flatMap YL).length)/\ms'.map J8=qs.map J8
  |[],ms,f,p,hf,_,h=>by
   obtain⟨c,u,rfl,hc⟩:=ht;have h':QX s p (c::u):=h;cases f with
   |zero=>omega
   |succ f=>
    unfold Z5;rw[h'.qD,qp (by rcases hc with rfl|rfl<;>(intro hh;exact absurd hh.2 (by decide)))];exact⟨[],by simp,rfl⟩
  |q::qs,ms,f,p,hf,hm,h=>by
   obtain⟨h1,h2⟩:=hm
   have hall:∀(qs:List Mk) (ps:List (Int×Int)),zoP Qo ps qs->∀r∈qs,uM r:=λqs=>by
     induction qs with
     |nil=>intro _ _ r hr;cases hr
     |cons a l ih=>
      intro ps hp r hr;rcases zy.1 hr with rfl|hr
      · exact hp.1.ok
      · exact ih _ hp.2 r hr
   rw[qX,qF] at h;obtain⟨hp,hsg,m,hmk,hsn⟩:=QX.mark h1 (zoQ ht qs (hall qs _ h2)) h;have h3:=h.app;cases f with
   |zero=>simp at hf
   |succ f=>
    unfold Z5;rw[qq ⟨hp,hsg⟩,hmk];simp only[];obtain⟨ms',e,hs⟩:=QX.Qq ht qs (ms++[m]) f (p+(YL q).length) (by simpa using hf) (by rw[zv,zl,kF,hsn];exact h2) h3;refine⟨m::ms',?_,by rw[zl,zl,hs,hsn]⟩;rw[e,qF,qX,qk];congr 2
    omega
end Go.Proofs.YtgklikkddckgbaaGreatDoor.Mo

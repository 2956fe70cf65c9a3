import Derived.Test.YtgklikkddckgbaaGreatDoorJZR
import Derived.Test.YtgklikkddckgbaaGreatDoorJBI
/- Lemmas. -/
set_option linter.all false
namespace Go.Proofs.YtgklikkddckgbaaGreatDoor.Mo
open Go.RowKit
def uk (ps:List (Int×Int)):List (Int×Int):=zsy.flatMap λc=>ps.filter λq=>q.1==c
theorem zva (ps:List (Int×Int)) (c:Int):(ps.filter λq=>q.1==c).filter (λq=>q.1==c)=ps.filter λq=>q.1==c:=by
  rw[List.filter_filter];simp
theorem zvb (ps:List (Int×Int)) {c d:Int} (h:c≠d):(ps.filter λq=>q.1==d).filter (λq=>q.1==c)=[]:=by
  rw[List.filter_filter,List.filter_eq_nil_iff];intro q _ hq;simp only[qA,ja] at hq;omega
theorem vK (ps:List (Int×Int)) {c:Int} (hc:c=58∨c=47∨c=94∨c=64∨c=126∨c=39):(uk ps).filter (λq=>q.1==c)=ps.filter λq=>q.1==c:=by
  unfold uk zsy;simp only[qX,kX,zO,jr];rcases hc with rfl|rfl|rfl|rfl|rfl|rfl
  all_goals
    rw[zva];repeat rw[zvb ps (by decide)]
    simp
theorem znS (ps:List (Int×Int)):uk ps=(ps.filter λq=>q.1==58)++((ps.filter λq=>q.1==47)++((ps.filter λq=>q.1==94)++((ps.filter λq=>q.1==64)++((ps.filter λq=>q.1==126)++(ps.filter λq=>q.1==39))))):=by
  unfold uk zsy;simp only[qX,kX,zO]
theorem znl (ps:List (Int×Int)):uk (uk ps)=uk ps:=by
  rw[znS (uk ps),vK ps (c:=58) (by omega),vK ps (c:=47) (by omega),vK ps (c:=94) (by omega),vK ps (c:=64) (by omega),vK ps (c:=126) (by omega),vK ps (c:=39) (by omega)];exact(znS ps).symm
def un (ms:List Mk):List Mk:=zsy.flatMap λc=>ms.filter λm=>m.sign==c
theorem gY (ms:List Mk) (c:Int):(ms.filter λm=>m.sign==c).map J8=(ms.map J8).filter λq=>q.1==c:=by
  rw[List.filter_map];rfl
theorem pY (ms:List Mk):(un ms).map J8=uk (ms.map J8):=by
  unfold un uk;rw[List.map_flatMap];congr 1
  funext c
  exact gY ms c
theorem uT {ms:List Mk} {m:Mk} (h:m∈un ms):m∈ms:=by
  unfold un at h;obtain⟨c,_,h2⟩:=List.mem_flatMap.1 h;exact(kQ.1 h2).1
theorem zoR (ms:List Mk):(un ms).flatMap YL=Y9 ms 58++(Y9 ms 47++(Y9 ms 94++(Y9 ms 64++(Y9 ms 126++Y9 ms 39)))):=by
  unfold un zsy Y9;simp only[qX,kX,zO,zJ]
theorem zp8 {Qo:List UInt8} {x:It} (hx:gj x) (hl:zm8 Qo x.Qq):ur Qo x=gG x++(un x.Qq).flatMap YL:=by
  rw[<-zpj hx hl,zoR];rfl
abbrev ItS:=Int×Int×List (Int×Int)
def Jk (x:It):ItS:=(x.cls,x.ref,uk (x.Qq.map J8))
def nS (ps:List (Int×Int)) (c:Int):Int:=match((ps.filter λq=>q.1==c).head?) with|some q=>q.2|none=>0
theorem ztw {ms:List Mk} {c:Int} (hc:c=58∨c=47∨c=94∨c=64∨c=126∨c=39):Qy ms c=nS (uk (ms.map J8)) c:=by
  unfold nS Qy;rw[vK _ hc,<-gY,List.head?_map,List.head?_filter];cases ms.find? λm=>m.sign==c<;>rfl
theorem zpJ {Qo:List UInt8} {ms:List Mk}:Zo Qo ms=(match(((uk (ms.map J8)).filter λq=>q.1==58).head?) with|some q=>Lib.indexByte Qo q.2.toNat.toUInt8|none=>-1):=by
  unfold Zo;rw[vK _ (by omega),<-gY,List.head?_map,List.head?_filter];cases ms.find? λm=>m.sign==58<;>rfl
theorem zmV {ms:List Mk}:QH ms=((uk (ms.map J8)).filter λq=>q.1==126).map (·.2):=by
  unfold QH;rw[vK _ (by omega),<-gY,List.map_map];rfl
theorem ux {x y:It} (h:Jk x=Jk y):x.cls=y.cls/\x.ref=y.ref/\uk (x.Qq.map J8)=uk (y.Qq.map J8):=by
  unfold Jk at h;simp only[zZ] at h;exact h
theorem uA {x y:It} (h:Jk x=Jk y) {c:Int} (hc:c=58∨c=47∨c=94∨c=64∨c=126∨c=39):Qy x.Qq c=Qy y.Qq c:=by
  rw[ztw hc,ztw hc,(ux h).2.2]
theorem znm {Qo:List UInt8} {x y:It} (h:Jk x=Jk y):Zo Qo x.Qq=Zo Qo y.Qq:=by
  rw[zpJ,zpJ,(ux h).2.2]
theorem znn {x y:It} (h:Jk x=Jk y):QH x.Qq=QH y.Qq:=by
  rw[zmV,zmV,(ux h).2.2]
theorem zp9 {x y:It} (h:Jk x=Jk y):gG x=gG y:=by
  unfold gG;rw[(ux h).1,(ux h).2.1]
theorem zpo {Qo:List UInt8} {x y:It} (h:Jk x=Jk y):ur Qo x=ur Qo y:=by
  unfold ur zm7 znw;rw[zp9 h,znm h,uA h (by omega),uA h (c:=47) (by omega),uA h (c:=94) (by omega),uA h (c:=64) (by omega),uA h (c:=39) (by omega),znn h]
theorem zof {Qo:List UInt8} {x y:It} (h:Jk x=Jk y) (line Q6 up:Int):vC Qo x line Q6 up=vC Qo y line Q6 up:=by
  unfold vC;rw[(ux h).1,(ux h).2.1,znm h,uA h (c:=47) (by omega),uA h (c:=94) (by omega),uA h (c:=64) (by omega),uA h (c:=39) (by omega),znn h]
structure ItV (Qo:List UInt8) (line:Int) (x:It):Prop where
  ok:gj x
  good:zqQ Qo x
  nd:(QH x.Qq).Nodup
  bk:0<=line->∀m∈x.Qq,Xa m=true->m.n<=line
theorem zno (q:Mk) (qs:List Mk) (c:Int):Zh (q::qs) c=Zh qs c+if q.sign=c then 1 else 0:=by
  unfold Zh;rw[yV];simp
theorem zoS (q:Mk) (qs:List Mk):QH (q::qs)=(if q.sign=126 then [q.n] else [])++QH qs:=by
  unfold QH;rw[List.filter_cons];by_cases h:q.sign=126
  · rw[qq (by simpa using h),qq h];rfl
  · rw[qp (by simpa using h),qp h];rfl
theorem zpK {Qo:List UInt8}:∀(qs:List Mk) (ps:List (Int×Int)),(∀q∈qs,uM q)->zm8 Qo qs->(∀c:Int,(ps.countP λr=>r.1==c)+Zh qs c<=if c=126 then 4 else 1)->(((ps.filter λr=>r.1==126).map (·.2))++QH qs).Nodup->zoP Qo ps qs
  |[],_,_,_,_,_=>trivial
  |q::qs,ps,hk,hl,hc,hn=>by
   refine⟨⟨hk q (by simp),?_,hl q (by simp),?_⟩,zpK qs _ (λr hr=>hk r (by simp[hr])) (λr hr=>hl r (by simp[hr])) ?_ ?_⟩
   · have:=hc q.sign
     rw[zno,qq rfl] at this;omega
   · intro UE r hr hr1 e
     rw[zoS,qq UE] at hn;have h1:=yz.1 hn;exact h1.2.2 r.2 (zV.2 ⟨r,kQ.2 ⟨hr,by simpa using hr1⟩,rfl⟩) q.n (by simp) e
   · intro c
     have:=hc c;rw[zno] at this;rw[jq,List.countP_singleton]
     have e:(if(J8 q).1==c then 1 else 0)=if q.sign=c then 1 else 0:=by
       unfold J8;by_cases h:q.sign=c<;>simp[h]
     rw[e];omega
   · rw[zoS] at hn
     rw[jr,zv,qF]
     have e:([J8 q].filter λr=>r.1==126).map (·.2)=if q.sign=126 then [q.n] else []:=by
       unfold J8;by_cases h:q.sign=126<;>simp[h]
     rw[e];exact hn
theorem zoT (ms:List Mk) {c:Int} (hc:c=58∨c=47∨c=94∨c=64∨c=126∨c=39):Zh (un ms) c=Zh ms c:=by
  rw[zoe,zoe,pY,jz,jz,vK _ hc]
theorem zpp (ms:List Mk):QH (un ms)=QH ms:=by
  rw[zmV,zmV,pY,znl]
theorem zqa {Qo:List UInt8} {line:Int} {x:It} (h:ItV Qo line x):zoP Qo [] (un x.Qq):=by
  refine zpK _ _ (λq hq=>h.ok.mks q (uT hq)) (λq hq=>h.good.1 q (uT hq)) (λc=>?_) ?_
  · rw[List.countP_nil,jg]
    by_cases hc:c=58∨c=47∨c=94∨c=64∨c=126∨c=39
    · rw[zoT _ hc]
      by_cases UE:c=126
      · rw[qq UE,UE];exact h.ok.four
      · rw[qp UE];exact h.ok.one c UE
    · have:Zh (un x.Qq) c=0:=by
        unfold Zh;rw[List.countP_eq_zero];intro q hq;have:=(h.ok.mks q (uT hq)).sg;simp only[ja];omega
      rw[this];split<;>omega
  · rw[List.filter_nil,kF,zj,zpp]
    exact h.nd
theorem zoU:∀qs:List Mk,(∀q∈qs,uM q)->qs.length<=(qs.flatMap YL).length
  |[],_=>ql _
  |q::qs,h=>by
   have ih:=zoU qs λr hr=>h r (by simp[hr]);obtain⟨c,_,_,u,hu⟩:=znk (h q (by simp));rw[qX,qk,hu,qv,qv];omega
theorem QX.len {s:ByteArray} {p:Nat} {l:List UInt8} (h:QX s p l):p+l.length=s.size:=by
  have hl:s.data.toList.length=s.size:=by rw[qP];rfl
  have:=congrArg List.length h.2;rw[zu] at this;have:=h.1;omega
theorem QX.item {s:ByteArray} {p:Nat} {Qo t:List UInt8} {line:Int} {x:It} (hx:ItV Qo line x) (ht:zpI t) (h:QX s p (ur Qo x++t)):
    ∃x',KW s Qo line p=.ok (x',p+(ur Qo x).length)/\Jk x'=Jk x:=by
  rw[zp8 hx.ok hx.good.1] at h|-;rw[qF] at h;have hr:=QX.zu9 hx.ok hx.good.2 h;have h2:=h.app;have hlen:=h2.len;have hfl:=zoU (un x.Qq) λq hq=>hx.ok.mks q (uT hq);rw[qk] at hlen;obtain⟨ms',e,hs⟩:=QX.Qq ht (un x.Qq) [] (s.size+1) _ (by omega) (zqa hx) h2;have h3:=h2.app;unfold KW;rw[hr];simp only[];rw[e];simp only[];obtain⟨c,u,rfl,hc⟩:=ht
  have hend:¬(¬uj s (p+(gG x).length+((un x.Qq).flatMap YL).length)=true/\¬QC s (p+(gG x).length+((un x.Qq).flatMap YL).length) 32=true):=by
    rw[h3.qE,h3.qB];rcases hc with rfl|rfl<;>decide
  rw[qp hend]
  have hfind:(if 0<=line then([]++ms').find? (λm=>Xa m&&decide (line<m.n)) else none)=none:=by
    by_cases h0:0<=line
    · rw[qq h0,zj,kc]
      intro m hm hb;rw[qA,qG] at hb;have hm2:J8 m∈(un x.Qq).map J8:=(by rw[<-hs];exact yb hm);obtain⟨q,hq,hqs⟩:=zV.1 hm2;unfold J8 at hqs;simp only[zZ] at hqs
      have hbq:Xa q=true:=by
        have:=hb.1;unfold Xa at this|-;rw[hqs.1];exact this
      have:=hx.bk h0 q (uT hq) hbq;have:=hb.2;omega
    · rw[qp h0]
  rw[hfind];simp only[];refine⟨_,by rw[qk,Nat.add_assoc],?_⟩;unfold Jk;simp only[];rw[zj,hs,pY,znl]
def vN (Qo:List UInt8) (l:List It):List UInt8:=l.flatMap λx=>32::ur Qo x
theorem znT (Qo:List UInt8) (l:List It):∀k,k<=l.length->Qn Qo l k=vN Qo (l.take k)
  |0,_=>by simp[Qn,vN]
  |k+1,hk=>by
   rw[pT,znT Qo l k (by omega)];unfold vN;rw[qJ (by omega),zJ];simp[qe,show k<l.length by omega]
theorem pL (Qo:List UInt8) (l:List It):Qn Qo l l.length=vN Qo l:=by
  rw[znT _ _ _ (yA _),qR]
def zog (Qo:List UInt8) (ln:Nat->Int):Nat->List It->Prop
  |_,[]=>True
  |n,x::xs=>ItV Qo (ln n) x/\zog Qo ln (n+1) xs
theorem zpq (Qo t:List UInt8) (l:List It):zpI (vN Qo l++10::t):=by
  cases l with
  |nil=>exact⟨10,t,rfl,.inr rfl⟩
  |cons x l=>exact⟨32,_,rfl,.inl rfl⟩
theorem QX.items {s:ByteArray} {g:Fm} {round:Bool} {t:List UInt8}:∀(l pre:List It) (q p:Nat),l.length<q->zog g.Qo (Km g round) pre.length l->QX s p (vN g.Qo l++10::t)->
    ∃l',Jd s g round q pre p=.ok (pre++l',p+(vN g.Qo l).length)/\l'.map Jk=l.map Jk
  |[],pre,q,p,hq,_,h=>by
   have h':QX s p (10::t):=h;cases q with
   |zero=>omega
   |succ q=>
    unfold Jd;rw[h'.qB,qp (by decide)];exact⟨[],by simp[vN],rfl⟩
  |x::l,pre,q,p,hq,hv,h=>by
   obtain⟨h1,h2⟩:=hv
   have h':QX s p (32::(ur g.Qo x++(vN g.Qo l++10::t))):=by
     have e:vN g.Qo (x::l)++10::t=32::(ur g.Qo x++(vN g.Qo l++10::t)):=by
       unfold vN;rw[qX];simp only[zf,qF]
     rw[e] at h;exact h
   obtain⟨x',e,hs⟩:=QX.item h1 (zpq g.Qo t l) h'.cons.2.2;have h3:=h'.cons.2.2.app;cases q with
   |zero=>omega
   |succ q=>
    unfold Jd;rw[h'.qB,qq (by rfl),e];simp only[];obtain⟨l',e2,hs2⟩:=QX.items l (pre++[x']) q _ (by simpa using hq) (by rw[qk];exact h2) h3;rw[e2];refine⟨x'::l',?_,by rw[zl,zl,hs,hs2]⟩;rw[qF]
    have:(vN g.Qo (x::l)).length=1+((ur g.Qo x).length+(vN g.Qo l).length):=by
      unfold vN;rw[qX,qk,qv];omega
    rw[this];congr 2
    omega
abbrev RwS:=Bool×List ItS
def X8 (r:Rw):RwS:=(r.round,r.items.map Jk)
def ztx (n:Int) (k:Int) (s:RwS):Int:=if s.1 then k+n*s.2.length else k+s.2.length
theorem zpL (rows:List Rw) (n:Int):ZF rows n=(rows.map X8).foldl (ztx n) 0:=by
  unfold ZF;rw[List.foldl_map];congr 1
  funext k r
  unfold ziH ztx X8;simp only[kg]
theorem gB {a b:List Rw} (h:a.map X8=b.map X8) (n:Int):ZF a n=ZF b n:=by rw[zpL,zpL,h]
def zoV (up:Int) (skip:Bool) (l:List It):Prop:=∀x∈l,(decide (0<=x.cls)&&decide (25<=x.cls+up)&&!skip)=false
theorem zq0 {up:Int} {skip:Bool} {l l':List It} (h:l'.map Jk=l.map Jk) (hv:zoV up skip l):zoV up skip l':=by
  intro x hx;have:Jk x∈l.map Jk:=by rw[<-h];exact yb hx
  obtain⟨y,hy,e⟩:=zV.1 this;rw[<-(ux e).1];exact hv y hy
theorem QX.Xn {s:ByteArray} {g:Fm} {round:Bool} {t:List UInt8} {l:List It} {start p:Nat} (hne:l≠[]) (hv:zog g.Qo (Km g round) 0 l) (hz:ZF (g.rows++[⟨round,l⟩]) g.most<=512) (hc:zoV (XE g round) (round&&g.most==0) l) (h:QX s p (vN g.Qo l++10::t)):
    ∃l',Je s g round start p=.ok ({g with rows:=g.rows++[⟨round,l'⟩]},p+(vN g.Qo l).length)/\l'.map Jk=l.map Jk:=by
  have hlen:=h.len
  have hfl:l.length<=(vN g.Qo l).length:=by
    unfold vN
    have:∀l:List It,l.length<=(l.flatMap λx=>32::ur g.Qo x).length:=λl=>by
      induction l with
      |nil=>exact ql _
      |cons a l ih=>
       rw[qX,qk,qv,qv];omega
    exact this l
  rw[qk] at hlen;obtain⟨l',e,hs⟩:=QX.items l [] (s.size+1) p (by omega) hv h
  have hb:QC s p 32=true:=by
    cases l with
    |nil=>exact absurd rfl hne
    |cons x l=>
     have h':QX s p (32::(ur g.Qo x++vN g.Qo l++10::t)):=h;rw[h'.qB];rfl
  unfold Je;rw[hb,qp (by simp),e];simp only[zj];have hz':ZF (g.rows++[⟨round,l'⟩]) g.most=ZF (g.rows++[⟨round,l⟩]) g.most:=gB (by rw[zv,zv];unfold X8;simp only[zl,kF,hs]) _;rw[hz',qp (by omega)]
  have hf:l'.find? (λx=>decide (0<=x.cls)&&decide (25<=x.cls+XE g round)&&!(round&&g.most==0))=none:=by
    rw[kc];intro x hx;rw[zq0 hs hc x hx];simp
  rw[hf];exact⟨l',rfl,hs⟩
inductive Zw:Fm->Prop
  |title (n:List UInt8):n≠[]->(∀c∈n,c≠10)->Zw {Fm.zero with name:=n}
  |metre (f:Fm) (c:UInt8) (m:Met):Zw f->f.rows=[]->97<=c.toNat->c.toNat<=122->Lib.indexByte f.Qo c<0->ub m=true->Zw {f with Qo:=f.Qo++[c],Qr:=f.Qr++[m]}
  |Xn (f:Fm) (l:List It):Zw f->l≠[]->zog f.Qo (Km f false) 0 l->ZF (f.rows++[⟨false,l⟩]) f.most<=512->zoV (XE f false) (false&&f.most==0) l->Zw {f with rows:=f.rows++[⟨false,l⟩]}
  |round (f g:Fm) (a b c:Nat) (l:List It):Zw f->f.rounds=false->a<=b->b<=512->c<=512->g={f with least:=a,most:=b,shift:=c}->l≠[]->zog g.Qo (Km g true) 0 l->ZF (g.rows++[⟨true,l⟩]) g.most<=512->zoV (XE g true) (true&&g.most==0) l->Zw {g with rows:=g.rows++[⟨true,l⟩],rounds:=true}
theorem zq1 {s:ByteArray} {Qo:List UInt8} {ms:List Mk} {i j:Nat} {m:Mk} (h:Kg s Qo ms i=.ok (m,j)) (hn:(QH ms).Nodup):(QH (ms++[m])).Nodup:=by
  have e:QH (ms++[m])=QH ms++(if m.sign=126 then [m.n] else []):=by
    unfold QH;rw[jr,zv];congr 1
    by_cases h1:m.sign=126<;>simp[h1]
  rw[e];by_cases UE:m.sign=126
  · rw[qq UE,yz]
    refine⟨hn,by simp,λa ha b hb=>?_⟩;obtain rfl:=kf.1 hb;intro e2;subst e2;obtain⟨y,hy,hyn⟩:=zV.1 ha;obtain⟨hy1,hy2⟩:=kQ.1 hy;unfold Kg at h;by_cases h1:(if QC s i 126 then 4 else 1)<=Zh ms (QA s i).toNat
    · rw[qq h1] at h;cases h
    rw[qp h1] at h;by_cases h2:(QC s i 58||QC s i 39)=true
    · rw[qq h2] at h
      by_cases h3:¬Zq s (i+1) 97 122=true
      · rw[qq h3] at h;cases h
      rw[qp h3] at h;by_cases h4:(QC s i 58&&decide (Lib.indexByte Qo (QA s (i+1))<0))=true
      · rw[qq h4] at h;cases h
      rw[qp h4] at h;cases h;simp only[] at UE;have h9:QC s i 126=true:=zob UE (by decide);have hi:=YV h9;rw[Kf hi] at h9;rw[Kf hi,Kf hi] at h2;simp only[ja,kM] at h9 h2;omega
    · rw[qp h2] at h
      cases hnp:vz s 1 (i+1) with
      |error e=>rw[hnp] at h;cases h
      |ok ve=>
       obtain⟨v,e⟩:=ve;rw[hnp] at h;simp only at h;by_cases h5:(QC s i 126&&ms.any (λm=>m.sign==126&&m.n==v))=true
       · rw[qq h5] at h;cases h
       rw[qp h5] at h;cases h;simp only[] at UE hyn;have h9:QC s i 126=true:=zob UE (by decide);rw[h9,kh] at h5;refine h5 (kj.2 ⟨y,hy1,?_⟩);simp only[qA];exact⟨hy2,by simpa using hyn⟩
  · rw[qp UE,zO]
    exact hn
theorem znU {s:ByteArray} {Qo:List UInt8}:∀(q:Nat) (ms:List Mk) (i:Nat) {ms':List Mk} {j:Nat},Z5 s Qo q ms i=.ok (ms',j)->(QH ms).Nodup->(QH ms').Nodup
  |0,ms,i,ms',j,h,hl=>by unfold Z5 at h;cases h;exact hl
  |q+1,ms,i,ms',j,h,hl=>by
   unfold Z5 at h;split at h
   · cases hm:Kg s Qo ms i with
     |error e=>rw[hm] at h;cases h
     |ok mj=>
      obtain⟨m,k⟩:=mj;rw[hm] at h;exact znU q (ms++[m]) k h (zq1 hm hl)
   · cases h;exact hl
theorem zq2 {s:ByteArray} {Qo:List UInt8} {line:Int} {i k:Nat} {x:It} (h:KW s Qo line i=.ok (x,k)):(QH x.Qq).Nodup:=by
  unfold KW at h;split at h
  · cases h
  · split at h
    · cases h
    · rename_i hm
      split at h
      · cases h
      · split at h
        · cases h
        · cases h
          exact znU _ _ _ hm (by simp[QH])
structure ItW (Qo:List UInt8) (line:Int) (x:It):Prop where
  good:zqQ Qo x
  nd:(QH x.Qq).Nodup
  bk:0<=line->∀m∈x.Qq,Xa m=true->m.n<=line
def zte (Qo:List UInt8) (ln:Nat->Int):Nat->List It->Prop
  |_,[]=>True
  |n,x::xs=>ItW Qo (ln n) x/\zte Qo ln (n+1) xs
theorem zpr {Qo:List UInt8} {ln:Nat->Int}:∀(l:List It) (n:Nat),zte Qo ln n l->(∀x∈l,gj x)->zog Qo ln n l
  |[],_,_,_=>trivial
  |x::l,n,h,hk=>⟨⟨hk x (by simp),h.1.good,h.1.nd,h.1.bk⟩,zpr l (n+1) h.2 λy hy=>hk y (by simp[hy])⟩
theorem zoW {s:ByteArray} {f:Fm} {round:Bool}:∀(q:Nat) (l:List It) (i:Nat) {l':List It} {j:Nat},Jd s f round q l i=.ok (l',j)->∃xs,l'=l++xs/\zte f.Qo (Km f round) l.length xs/\(QC s i 32=true->0<q->xs≠[])
  |0,l,i,l',j,h=>by unfold Jd at h;cases h;exact⟨[],by simp,trivial,λ_ h=>by omega⟩
  |q+1,l,i,l',j,h=>by
   unfold Jd at h;split at h
   · cases hi:KW s f.Qo (Km f round l.length) (i+1) with
     |error e=>rw[hi] at h;cases h
     |ok xk=>
      obtain⟨x,k⟩:=xk;rw[hi] at h;obtain⟨xs,e,hw,_⟩:=zoW q (l++[x]) k h;refine⟨x::xs,by rw[e,qF];rfl,⟨⟨zp3 hi,zq2 hi,λh0=>zqq hi h0⟩,?_⟩,λ_ _=>by simp⟩;rw[qk] at hw;exact hw
   · rename_i hb
     cases h;exact⟨[],by simp,trivial,λh _=>absurd h hb⟩
theorem znV {s:ByteArray} {f f':Fm} {round:Bool} {start i j:Nat} (h:Je s f round start i=.ok (f',j)):
    ∃l,l≠[]/\f'={f with rows:=f.rows++[⟨round,l⟩]}/\zte f.Qo (Km f round) 0 l/\ZF (f.rows++[⟨round,l⟩]) f.most<=512/\zoV (XE f round) (round&&f.most==0) l:=by
  unfold Je at h;split at h
  · cases h
  · rename_i hb
    cases hit:Jd s f round (s.size+1) [] i with
    |error e=>rw[hit] at h;cases h
    |ok lj=>
     obtain⟨l,j'⟩:=lj;rw[hit] at h;simp only at h;obtain⟨xs,e,hw,hne⟩:=zoW _ _ _ hit;rw[zj] at e;subst e;split at h
     · cases h
     · rename_i hz
       split at h
       · cases h
       · rename_i hf
         cases h;refine⟨l,hne (by simpa using hb) (by omega),rfl,hw,by omega,λx hx=>?_⟩;have:=kc.1 hf x hx;simpa using this
theorem zoX {s:ByteArray}:∀(n a:Nat),s.size-a=n->a<=s.size->∀c∈vA s a (zap s a),c≠10
  |0,a,hn,ha,c,hc=>by
   rw[zb8 (zco (by omega))] at hc;unfold vA at hc;simp at hc
  |n+1,a,hn,ha,c,hc=>by
   cases he:uj s a with
   |true=>
    rw[zb8 he] at hc;unfold vA at hc;simp at hc
   |false=>
    have hlt:a<s.size:=(by omega);have hls:s.data.toList.length=s.size:=(by rw[qP];rfl);have hle:=(Ge (s:=s) (a+1) (by omega)).1;rw[zfE he] at hc;unfold vA at hc;rw[zh (by omega),show zap s (a+1)-a=(zap s (a+1)-(a+1))+1 by omega,List.take_succ_cons] at hc;rcases zy.1 hc with rfl|hc
    · rw[zeu hlt] at he
      simp only[zp,ne_eq] at he;intro e;apply he;have:s[a]=10:=e;rw[this];rfl
    · exact zoX n (a+1) (by omega) (by omega) c hc
theorem zpM {r:Except Nat Nat} {a:Nat} (h:QY r=.ok a):r=.ok a:=by
  cases r with
  |error e=>cases h
  |ok b=>cases h;rfl
theorem zoh {s:ByteArray}:∀(t:List Int) (i:Nat) {a:Nat},QT s t i=.ok a->a=i+t.length/\(t≠[]->a<=s.size)
  |[],i,a,h=>by cases h;exact⟨rfl,λh=>absurd rfl h⟩
  |c::t,i,a,h=>by
   unfold QT at h;split at h
   · rename_i hb
     have hlt:=YV hb;obtain⟨h1,h2⟩:=zoh t (i+1) h;refine⟨by rw[h1,qv];omega,λ_=>?_⟩;cases t with
     |nil=>simp at h1;omega
     |cons d t=>exact h2 (by simp)
   · cases h
theorem zps {s:ByteArray} {f f':Fm} {t:Bool} {i j i0:Nat} (hi:i<s.size) (hg:if t then Zw f else f=Fm.zero) (hk:QQ f' i0) (h:ZX s f t i=.ok (f',j)):Zw f':=by
  unfold ZX at h;cases t with
  |false=>
   simp only[zo,jb] at hg;subst hg;rw[qq (by simp)] at h;cases hm:QY (QT s Qk i) with
   |error e=>rw[hm] at h;cases h
   |ok a=>
    rw[hm] at h;simp only at h;have hm:=zoh _ _ (zpM hm);have ha:a<=s.size:=hm.2 (by decide);split at h
    · cases h
    · rename_i he
      cases h;refine Zw.title _ ?_ (zoX _ a rfl ha)
      have hlt:a<s.size:=by
        rcases yf a s.size with h1|h1
        · exact h1
        · rw[zco (by omega)] at he;simp at he
      have hls:s.data.toList.length=s.size:=(by rw[qP];rfl);have hr:=zfE (s:=s) (i:=a) (by simpa using he);have hle:=(Ge (s:=s) (a+1) (by omega)).1;intro h0;have:=congrArg List.length h0;unfold vA at this;rw[kk,zu,qH] at this;omega
  |true=>
   simp only[ks] at hg;rw[qp (by simp)] at h;split at h
   · rename_i hm
     have he:f.rows=[]:=by
       simp only[qA,yW] at hm;exact hm.2
     unfold Ua at h;cases h1:QY (QT s Kw i) with
     |error e=>rw[h1] at h;cases h
     |ok a=>
      rw[h1] at h;simp only at h;by_cases h2:¬Zq s a 97 122=true
      · rw[qq h2] at h;cases h
      rw[qp h2] at h;by_cases h3:0<=Lib.indexByte f.Qo (QA s a)
      · rw[qq h3] at h;cases h
      rw[qp h3] at h;cases h4:QY (QT s [32] (a+1)) with
      |error e=>rw[h4] at h;cases h
      |ok b=>
       rw[h4] at h;simp only at h;cases h5:KH ⟨(vA s b (zap s b)).toArray⟩ with
       |error e=>obtain⟨e,p⟩:=e;rw[h5] at h;cases h
       |ok m=>
        rw[h5] at h;simp only at h;cases h;have hin:Zq s a 97 122=true:=(by simpa using h2);have hlt:=zb7 hin;rw[VM hlt] at hin;simp only[qA,qG] at hin;have hb:QA s a=s[a]:=(by unfold QA;rw[jc hlt]);exact Zw.metre f _ _ hg he (by rw[hb];omega) (by rw[hb];omega) (by omega) (zoB h5)
   · split at h
     · unfold Vo at h
       split at h
       · cases h
       · rename_i hr
         cases h1:QY (QT s ROUND i) with
         |error e=>rw[h1] at h;cases h
         |ok a=>
          rw[h1] at h;simp only at h;have ha:a<=s.size:=(zoh _ _ (zpM h1)).2 (by decide);cases h2:vz s 0 a with
          |error e=>rw[h2] at h;cases h
          |ok x=>
           obtain⟨x,b⟩:=x;rw[h2] at h;simp only at h;cases h3:QY (QT s [32] b) with
           |error e=>rw[h3] at h;cases h
           |ok c=>
            rw[h3] at h;simp only at h;cases h4:vz s 0 c with
            |error e=>rw[h4] at h;cases h
            |ok y=>
             obtain⟨y,d⟩:=y;rw[h4] at h;simp only at h;split at h
             · cases h
             · rename_i hxy
               cases h5:QY (QT s [32] d) with
               |error e=>rw[h5] at h;cases h
               |ok g=>
                rw[h5] at h;simp only at h;cases h6:vz s 0 g with
                |error e=>rw[h6] at h;cases h
                |ok z=>
                 obtain⟨z,u⟩:=z;rw[h6] at h;simp only at h;cases h7:Je s {f with least:=x,most:=y,shift:=z} true i u with
                 |error e=>rw[h7] at h;cases h
                 |ok p=>
                  obtain⟨p,v⟩:=p;rw[h7] at h;simp only at h;cases h;obtain⟨l,hne,e,hw,hz,hc⟩:=znV h7;subst e;have l1:=zdG h2;have l2:=zdG h4;have l3:=zdG h6;obtain⟨x,rfl⟩:∃n:Nat,x=(n:Int):=⟨x.toNat,by omega⟩;obtain⟨y,rfl⟩:∃n:Nat,y=(n:Int):=⟨y.toNat,by omega⟩;obtain⟨z,rfl⟩:∃n:Nat,z=(n:Int):=⟨z.toNat,by omega⟩;exact Zw.round f {f with least:=x,most:=y,shift:=z} x y z l hg (by simpa using hr) (by omega) (by omega) (by omega) rfl hne (zpr _ _ hw λq hq=>hk.it ⟨true,l⟩ (by simp) q hq) hz hc
     · cases h1:QY (QT s Zc i) with
       |error e=>rw[h1] at h;cases h
       |ok a=>
        rw[h1] at h;simp only at h;obtain⟨l,hne,e,hw,hz,hc⟩:=znV h;subst e;exact Zw.Xn f l hg hne (zpr _ _ hw λq hq=>hk.it ⟨false,l⟩ (by simp) q hq) hz hc
theorem uX {s:ByteArray}:∀(q:Nat) (f:Fm) (t:Bool) (i i0:Nat) {f':Fm},(if t then Zw f else f=Fm.zero)->QQ f i0->i0<=i->s.size-i<q->ZY s q f t i=.ok f'->Zw f'/\f'.rows≠[]
  |0,f,t,i,i0,f',hg,hk,hi,hq,h=>by omega
  |q+1,f,t,i,i0,f',hg,hk,hi,hq,h=>by
   unfold ZY at h;split at h
   · split at h
     · cases h
     · rename_i hr
       cases h;have hr':f.rows≠[]:=(by simpa using hr);cases t with
       |true=>exact⟨hg,hr'⟩
       |false=>
        simp only[zo,jb] at hg;subst hg;exact absurd rfl hr'
   · rename_i hlt
     have hlt2:i<s.size:=(by omega);split at h
     · exact uX q f t _ i0 hg hk (by unfold KC;split<;>omega) (by unfold KC;rw[qq hlt2];omega) h
     · split at h
       · have hre:=(Ge i (by omega):i<=zap s i/\zap s i<=s.size)
         rename_i GH
         have hgt:i<zap s i:=by
           rw[zfE (by
             rw[Kf hlt2] at GH;rw[zeu hlt2];simp only[ja] at GH;rw[GH];rfl)]
           have:=(Ge (s:=s) (i+1) (by omega)).1;omega
         refine uX q f t _ i0 hg hk ?_ ?_ h
         · unfold KC
           split<;>omega
         · unfold KC
           split<;>omega
       · split at h
         · cases h
         · rename_i hl
           have hok:=zkn (hk.mono hi) (by omega) hl;have hge:=zld (by omega) hl;refine uX q _ true _ _ (zps hlt2 hg hok hl) hok ?_ ?_ h
           · unfold KC
             split<;>omega
           · unfold KC
             split<;>omega
theorem zpt {s:ByteArray} {f:Fm} (h:JG s=.ok f):Zw f/\f.rows≠[]:=by
  unfold JG at h;split at h
  · cases h
  · exact uX (s.size+1) Fm.zero false 0 0 rfl okz (ql _) (by omega) h
def Q5 (l:List UInt8):Prop:=∀c∈l,c≠10
theorem Q5.app {a b:List UInt8} (h1:Q5 a) (h2:Q5 b):Q5 (a++b):=λc hc=>by
  rcases qU.1 hc with h|h
  · exact h1 c h
  · exact h2 c h
theorem gr {v:Int} (h:0<=v):Q5 (Lib.itoa v):=by
  obtain⟨n,rfl⟩:∃n:Nat,v=(n:Int):=⟨v.toNat,by omega⟩;rw[kN];intro c hc e;have:=pE n c hc;rw[e] at this;exact absurd this.1 (by decide)
theorem zqb:∀f∈Kk,(f.1.all λc=>!(c==10))=true:=by decide+kernel
theorem znW {t:ByteArray} {lo hi:Int} (h:Zx t lo hi=true):Q5 t.data.toList:=λc hc e=>by
  have:=(pW h).1 c hc;rw[e] at this;exact absurd this (by decide)
theorem znX {t:ByteArray} {lo hi:Int} (h:Zx t lo hi=true):Q5 (vB t.data.toList):=by
  unfold vB;cases hb:gw t.data.toList with
  |none=>exact znW h
  |some f=>
   have:=zqb f (zi hb);intro c hc;have h2:=zF.1 this c hc;simpa using h2
theorem znY {fs:List Ft} (hs:∀f∈fs,vE f=true):∀(n i:Nat),Q5 (vU fs n i)
  |0,i=>λc hc=>by cases hc
  |n+1,i=>by
   unfold vU;split
   · rename_i hi
     refine Q5.app ?_ (znY hs n _);unfold gc;refine Q5.app ?_ (Q5.app ?_ (znX (gT (hs _ (vpq hi))).1))
     · split
       · unfold Q5;decide
       · exact λc hc=>by cases hc
     · split
       · exact Q5.app (gr (by omega)) (by unfold Q5;decide)
       · exact λc hc=>by cases hc
   · exact λc hc=>by cases hc
theorem pZ {of:List UInt8->List UInt8} {l:List Way} (h:∀v∈l,Q5 (of v.1.data.toList)/\0<=v.2):∀k,k<=l.length->Q5 (vG of l k)
  |0,_=>λc hc=>by cases hc
  |k+1,hk=>by
   unfold vG;have hm:l.getD k default∈l:=(by rw[qe,qC (by omega)];exact qM _);refine Q5.app (pZ h k (by omega)) (Q5.app ?_ (Q5.app (h _ hm).1 (Q5.app (by unfold Q5;decide) (gr (h _ hm).2))));split
   · unfold Q5;decide
   · exact λc hc=>by cases hc
theorem znZ {fs:List Ft} (hs:∀f∈fs,vE f=true):∀k,k<=fs.length->Q5 (vV fs k)
  |0,_=>λc hc=>by cases hc
  |k+1,hk=>by
   unfold vV;refine Q5.app (znZ hs k (by omega)) ?_;unfold gN;split
   · have hf:=gT (hs _ (vpq (show k<fs.length by omega)))
     refine Q5.app (by unfold Q5;decide) (Q5.app (gr (by omega)) (Q5.app (by unfold Q5;decide) (pZ (λv hv=>?_) _ (ql _))));have:=gS _ _ _ _ hf.2.2 v hv;exact⟨znX this.1,this.2.1⟩
   · exact λc hc=>by cases hc
theorem zn0 {l:List (Int×Int)} (h:∀b∈l,0<=b.1/\0<=b.2):∀k,k<=l.length->Q5 (vW l k)
  |0,_=>λc hc=>by cases hc
  |k+1,hk=>by
   have hm:l.getD k default∈l:=(by rw[qe,qC (by omega)];exact qM _);unfold vW;exact Q5.app (zn0 h k (by omega)) (Q5.app (by unfold Q5;decide) (Q5.app (gr (h _ hm).1) (Q5.app (by unfold Q5;decide) (gr (h _ hm).2))))
theorem zoY {m:Met} (h:ub m=true):Q5 (vX m):=by
  have h':=h;unfold ub at h';simp only[qA,qG] at h';obtain⟨⟨⟨⟨h1,h16⟩,he⟩,hf⟩,hb⟩:=h';have Vf:∀f∈m.Qp,vE f=true:=zF.1 hf;have hbd:=(uV m.Qt 0 (by omega) (by omega) hb).2;unfold vT at he;simp only[qA,qG] at he;have hb2:∀b∈m.Qt,0<=b.1/\0<=b.2:=λb hb=>⟨(hbd b hb).1,(hbd b hb).2.2.1⟩
  have hE:Q5 (uB m.ends):=by
    unfold uB;split
    · refine Q5.app (by unfold Q5;decide) (pZ (λv hv=>?_) _ (ql _))
      have:=gS _ _ _ _ he.2 v hv;exact⟨znW this.1,this.2.1⟩
    · exact λc hc=>by cases hc
  unfold vX;exact Q5.app (znY Vf _ _) (Q5.app (znZ Vf _ (ql _)) (Q5.app hE (zn0 hb2 _ (ql _))))
structure Vg (f' f:Fm):Prop where
  name:f'.name=f.name
  Qo:f'.Qo=f.Qo
  Qr:f'.Qr=f.Qr
  rounds:f'.rounds=f.rounds
  least:f'.least=f.least
  most:f'.most=f.most
  shift:f'.shift=f.shift
  rows:f'.rows.map X8=f.rows.map X8
theorem Vg.refl (f:Fm):Vg f f:=⟨rfl,rfl,rfl,rfl,rfl,rfl,rfl,rfl⟩
theorem gZ {a b:List Rw} {r:Bool} {l l':List It} (h:a.map X8=b.map X8) (hl:l'.map Jk=l.map Jk):(a++[(⟨r,l'⟩:Rw)]).map X8=(b++[(⟨r,l⟩:Rw)]).map X8:=by
  rw[zv,zv,h];unfold X8;simp only[zl,kF,hl]
theorem zoZ {Qo:List UInt8}:∀{l l':List It},l'.map Jk=l.map Jk->vN Qo l'=vN Qo l
  |[],[],_=>rfl
  |[],_::_,h=>by simp at h
  |_::_,[],h=>by simp at h
  |x::l,y::l',h=>by
   simp only[zl,kO] at h;have ih:=zoZ (Qo:=Qo) h.2;unfold vN at ih|-;rw[qX,qX,ih,zpo h.1]
theorem zqc {f f':Fm} (h:Vg f' f) (r:Bool):uL f' r=uL f r:=by
  unfold uL;rw[h.least,h.most,h.shift]
theorem zq3 {f f':Fm} (h:Vg f' f) {r r':Rw} (hr:X8 r'=X8 r):uE f' r'=uE f r:=by
  unfold X8 at hr;simp only[zZ] at hr;unfold uE;rw[pL,pL,hr.1,h.Qo,zqc h,zoZ hr.2]
def vQ (f:Fm) (l:List Rw):List UInt8:=l.flatMap (uE f)
theorem znp (f:Fm):∀k,k<=f.rows.length->ut f k=vQ f (f.rows.take k)
  |0,_=>by simp[ut,vQ]
  |k+1,hk=>by
   rw[pr,znp f k (by omega)];unfold vQ;rw[qJ (by omega),zJ];simp[qe,show k<f.rows.length by omega]
theorem p9 (f:Fm):ut f f.rows.length=vQ f f.rows:=by
  rw[znp _ _ (yA _),qR]
theorem zn1 {f f':Fm} (h:Vg f' f):∀{l l':List Rw},l'.map X8=l.map X8->vQ f' l'=vQ f l
  |[],[],_=>rfl
  |[],_::_,h=>by simp at h
  |_::_,[],h=>by simp at h
  |x::l,y::l',hl=>by
   simp only[zl,kO] at hl;have ih:=zn1 h hl.2;unfold vQ at ih|-;rw[qX,qX,ih,zq3 h hl.1]
theorem zpu {f f':Fm} (h:Vg f' f):uw f'=uw f:=by
  unfold uw gz;rw[p9,p9,zn1 h h.rows,h.name,h.Qo,h.Qr]
theorem zn2 {Qo:List UInt8} {Q6 up:Int}:∀{l l':List It} {line:Nat},l'.map Jk=l.map Jk->uY Qo Q6 up line l'=uY Qo Q6 up line l
  |[],[],_,_=>rfl
  |[],_::_,_,h=>by simp at h
  |_::_,[],_,h=>by simp at h
  |x::l,y::l',line,h=>by
   simp only[zl,kO] at h
   have e:∀(x:It) (xs:List It),uY Qo Q6 up line (x::xs)=vC Qo x (line:Int) Q6 up::uY Qo Q6 up (line+1) xs:=λx xs=>by
     unfold uY;rw[List.mapIdx_cons];simp only[ye];congr 1
     congr 1
     funext i y
     congr 1
     omega
   rw[e,e,zn2 h.2,zof h.1]
theorem zn3 {f f':Fm} (h:Vg f' f):∀{bs bs':List Rw} (s:DSt),bs'.map X8=bs.map X8->bs'.foldl (uu f') s=bs.foldl (uu f) s
  |[],[],s,_=>rfl
  |[],_::_,_,h=>by simp at h
  |_::_,[],_,h=>by simp at h
  |r::bs,r'::bs',s,hb=>by
   simp only[zl,kO] at hb;have hr:=hb.1;unfold X8 at hr;simp only[zZ] at hr
   have e:uu f' s r'=uu f s r:=by
     unfold uu;rw[h.Qo,h.shift,hr.1,zn2 hr.2]
   rw[jA,jA,e];exact zn3 h _ hb.2
theorem Qh (n:Int):∀{l l':List Rw},l'.map X8=l.map X8->(vy l' n).map X8=(vy l n).map X8
  |[],[],_=>rfl
  |[],_::_,h=>by simp at h
  |_::_,[],h=>by simp at h
  |r::l,r'::l',h=>by
   simp only[zl,kO] at h;have ih:=Qh n h.2;have hr:=h.1;have hr2:=hr;unfold X8 at hr2;simp only[zZ] at hr2;unfold vy at ih|-;rw[qX,qX,zv,zv,ih];congr 1
   unfold ue;rw[yl,yl,hr,hr2.1]
theorem zoi {f f':Fm} (h:Vg f' f) (n:Int):vH f' n=vH f n:=by
  unfold vH vY;rw[zn3 h _ (Qh n h.rows)]
theorem gC {s:ByteArray} {q:Nat} {f f':Fm} {t:Bool} {i j:Nat} (hi:i<s.size) (h10:QC s i 10=false) (GH:QC s i 35=false) (hl:ZX s f t i=.ok (f',j)) (hj:j<s.size):ZY s (q+1) f t i=ZY s q f' true (j+1):=by
  conv=>lhs;unfold ZY
  rw[qp (by omega),h10,GH,hl];simp only[zo,jb];unfold KC;rw[qq hj]
theorem zo0 {f:Fm} (h:Zw f):f.Qo.length=f.Qr.length/\(f.rounds=false->∀r∈f.rows,r.round=false):=by
  induction h with
  |title n _ _=>exact⟨rfl,λ_ r hr=>by cases hr⟩
  |metre f c m _ hr _ _ _ _ ih=>
   refine⟨?_,λh0=>ih.2 h0⟩;show(f.Qo++[c]).length=(f.Qr++[m]).length;rw[qk,qk,ih.1];rfl
  |Xn f l _ _ _ _ _ ih=>
   refine⟨ih.1,λh0 r hr=>?_⟩;rcases qU.1 hr with hr|hr
   · exact ih.2 h0 r hr
   · obtain rfl:=kf.1 hr;rfl
  |round f g a b c l _ _ _ _ _ hg _ _ _ _ ih=>
   subst hg;exact⟨ih.1,λh0=>by cases h0⟩
theorem zpv {ls:List UInt8} {ms:List Met} {c:UInt8} {m:Met} (h:ls.length=ms.length):ui (ls++[c]) (ms++[m]) (ms++[m]).length=ui ls ms ms.length++pS c m:=by
  rw[qk];show ui _ _ (ms.length+1)=_;rw[pq];congr 1
  · unfold ui
    have:∀k,k<=ms.length->((List.range k).flatMap λj=>pS ((ls++[c]).getD j 0) ((ms++[m]).getD j u9))=(List.range k).flatMap λj=>pS (ls.getD j 0) (ms.getD j u9):=λk=>by
      induction k with
      |zero=>intro _;rfl
      |succ k ih=>
       intro hk;rw[kw,zJ,zJ,ih (by omega)];congr 1
       simp only[qX,kX,zO];rw[qe,qY (by omega),qe,qY (by omega),<-qe,<-qe]
    exact this _ (ql _)
  · have e1:(ls++[c]).getD ms.length 0=c:=by rw[qe,<-h];simp
    have e2:(ms++[m]).getD ms.length u9=m:=(by rw[qe];simp);rw[e1,e2]
theorem pM {f g:Fm} (hl:g.Qo=f.Qo):∀{l:List Rw},(∀r∈l,r.round=false)->vQ g l=vQ f l
  |[],_=>rfl
  |r::l,h=>by
   have ih:=pM (f:=f) (g:=g) hl (l:=l) λq hq=>h q (by simp[hq]);unfold vQ at ih|-;rw[qX,qX,ih];congr 1
   unfold uE uL;rw[h r (by simp),hl];rfl
theorem zn4 {f g:Fm} (hl:g.Qo=f.Qo) (h1:g.least=f.least) (h2:g.most=f.most) (h3:g.shift=f.shift) (l:List Rw):vQ g l=vQ f l:=by
  unfold vQ;congr 1
  funext r
  unfold uE uL;rw[hl,h1,h2,h3]
theorem gD (f:Fm):uw f=gz f++(ui f.Qo f.Qr f.Qr.length++vQ f f.rows):=by
  unfold uw;rw[p9]
theorem Qi (f:Fm) (l:List Rw) (r:Rw):vQ f (l++[r])=vQ f l++uE f r:=by
  unfold vQ;rw[zJ];simp
theorem znq {f' f:Fm} (h:Vg f' f) (r:Bool):Km f' r=Km f r:=by
  funext k
  unfold Km;rw[h.most,h.least,gB h.rows]
theorem zo1 {f' f:Fm} (h:Vg f' f) (r:Bool):XE f' r=XE f r:=by
  unfold XE;rw[h.most,h.shift,h.rounds]
theorem zq4:Qk=K7.map λc=>(c.toNat:Int):=by decide
theorem zqd:Kw=Xm.map λc=>(c.toNat:Int):=by decide
theorem zqe:ROUND=JF.map λc=>(c.toNat:Int):=by decide
theorem zpw:Zc=J5.map λc=>(c.toNat:Int):=by decide
theorem QX.start (s:ByteArray):QX s 0 s.data.toList:=⟨qQ _,rfl⟩
theorem QX.rowS {s:ByteArray} {f f':Fm} {q:Nat} {l:List It} {t:List UInt8} {i:Nat} (he:Vg f' f) (hne:l≠[]) (hv:zog f.Qo (Km f false) 0 l) (hz:ZF (f.rows++[⟨false,l⟩]) f.most<=512) (hc:zoV (XE f false) (false&&f.most==0) l) (h:QX s i (uE f ⟨false,l⟩++t)):
    ∃f2,Vg f2 {f with rows:=f.rows++[⟨false,l⟩]}/\ZY s (q+1) f' true i=ZY s q f2 true (i+(uE f ⟨false,l⟩).length):=by
  have hrt:uE f ⟨false,l⟩=J5++(vN f.Qo l++[10]):=by unfold uE uL;rw[pL];rfl
  rw[hrt] at h|-
  have h1:QX s i (J5++(vN f'.Qo l++10::t)):=by
    rw[he.Qo];simpa only[qF,zf,zj] using h
  have hh:QX s i (115::([116,97,110,122,97]++(vN f'.Qo l++10::t))):=h1;have hm:=h1.must;rw[<-zpw] at hm;have h2:=h1.app
  obtain⟨l',e,hs⟩:=QX.Xn (start:=i) hne (by rw[he.Qo,znq he];exact hv) (by
    have:ZF (f'.rows++[⟨false,l⟩]) f'.most=ZF (f.rows++[⟨false,l⟩]) f.most:=(by rw[he.most];exact gB (gZ he.rows rfl) _);rw[this];exact hz) (by rw[zo1 he,he.most];exact hc) h2
  have h3:=h2.app;obtain⟨hlt,_,_⟩:=hh.cons;obtain⟨hjt,_,_⟩:=h3.cons
  have hl:ZX s f' true i=.ok ({f' with rows:=f'.rows++[⟨false,l'⟩]},i+J5.length+(vN f'.Qo l).length):=by
    unfold ZX;rw[qp (by simp),hh.qB,hh.qB];rw[qp (by simp),qp (by decide),hm];exact e
  refine⟨{f' with rows:=f'.rows++[⟨false,l'⟩]},⟨he.name,he.Qo,he.Qr,he.rounds,he.least,he.most,he.shift,gZ he.rows hs⟩,?_⟩;rw[gC hlt (by rw[hh.qB];decide) (by rw[hh.qB];decide) hl hjt];rw[he.Qo];congr 1
  simp only[qk,qv,qH];omega
theorem QX.rowR {s:ByteArray} {f f' g:Fm} {q a b c:Nat} {l:List It} {t:List UInt8} {i:Nat} (he:Vg f' f) (hr:f.rounds=false) (hab:a<=b) (hb:b<=512) (hcc:c<=512) (hg:g={f with least:=a,most:=b,shift:=c}) (hne:l≠[]) (hv:zog g.Qo (Km g true) 0 l) (hz:ZF (g.rows++[⟨true,l⟩]) g.most<=512) (hc:zoV (XE g true) (true&&g.most==0) l) (h:QX s i (uE g ⟨true,l⟩++t)):
    ∃f2,Vg f2 {g with rows:=g.rows++[⟨true,l⟩],rounds:=true}/\ZY s (q+1) f' true i=ZY s q f2 true (i+(uE g ⟨true,l⟩).length):=by
  subst hg
  have hrt:uE {f with least:=a,most:=b,shift:=c} ⟨true,l⟩=JF++(Lib.itoa (a:Int)++([32]++(Lib.itoa (b:Int)++([32]++(Lib.itoa (c:Int)++(vN f.Qo l++[10])))))):=by
    unfold uE uL;rw[pL];simp only[ks,qF]
  rw[hrt] at h|-
  have h1:QX s i (JF++(Lib.itoa (a:Int)++([32]++(Lib.itoa (b:Int)++([32]++(Lib.itoa (c:Int)++(vN f'.Qo l++10::t))))))):=by
    rw[he.Qo];simpa only[qF,zf,zj] using h
  have hh:QX s i (114::([111,117,110,100,32]++(Lib.itoa (a:Int)++([32]++(Lib.itoa (b:Int)++([32]++(Lib.itoa (c:Int)++(vN f'.Qo l++10::t)))))))):=h1;have hm:=h1.must;rw[<-zqe] at hm;have h2:=h1.app;have n1:=h2.num (least:=0) (KQ.cons (by decide)) (by omega) (by omega);have h3:=h2.app;have m2:=h3.must;have h4:=h3.app;have n2:=h4.num (least:=0) (KQ.cons (by decide)) (by omega) (by omega);have h5:=h4.app;have m3:=h5.must;have h6:=h5.app
  have hnd:KQ (vN f'.Qo l++10::t):=by
    cases l with
    |nil=>exact absurd rfl hne
    |cons x l=>exact KQ.cons (c:=32) (by decide)
  have n3:=h6.num (least:=0) hnd (by omega) (by omega);have h7:=h6.app;have heg:Vg {f' with least:=a,most:=b,shift:=c} {f with least:=a,most:=b,shift:=c}:=⟨he.name,he.Qo,he.Qr,he.rounds,rfl,rfl,rfl,he.rows⟩
  obtain⟨l',e,hs⟩:=QX.Xn (g:={f' with least:=a,most:=b,shift:=c}) (round:=true) (start:=i) hne (by
    rw[znq heg];show zog f'.Qo _ 0 l;rw[he.Qo];exact hv) (by
    have:ZF (({f' with least:=a,most:=b,shift:=c}:Fm).rows++[⟨true,l⟩]) (b:Int)=ZF (f.rows++[⟨true,l⟩]) (b:Int):=gB (gZ he.rows rfl) _;show ZF _ (b:Int)<=512;rw[this];exact hz) (by rw[zo1 heg];exact hc) h7
  have h8:=h7.app;obtain⟨hlt,_,_⟩:=hh.cons;obtain⟨hjt,_,_⟩:=h8.cons;have k32:([32]:List UInt8).map (λc=>(c.toNat:Int))=[32]:=by decide
  rw[k32] at m2 m3;refine⟨{f' with least:=a,most:=b,shift:=c,rows:=f'.rows++[⟨true,l'⟩],rounds:=true},⟨he.name,he.Qo,he.Qr,rfl,rfl,rfl,rfl,gZ he.rows hs⟩,?_⟩
  have hl:ZX s f' true i=.ok ({f' with least:=a,most:=b,shift:=c,rows:=f'.rows++[⟨true,l'⟩],rounds:=true},i+JF.length+(Lib.itoa (a:Int)).length+[32].length+(Lib.itoa (b:Int)).length+[32].length+(Lib.itoa (c:Int)).length+(vN f'.Qo l).length):=by
    unfold ZX;rw[qp (by simp),hh.qB,hh.qB];rw[qp (by simp),qq (by decide)];unfold Vo;rw[qp (by rw[he.rounds,hr];simp),hm];simp only[QY];rw[n1];simp only[];rw[m2];simp only[];rw[n2];simp only[];rw[qp (by omega),m3];simp only[];rw[n3];simp only[];rw[e];rfl
  rw[gC hlt (by rw[hh.qB];decide) (by rw[hh.qB];decide) hl hjt];rw[he.Qo];congr 1
  simp only[qk,qv,qH];omega
theorem QX.rowM {s:ByteArray} {f f':Fm} {q:Nat} {c:UInt8} {m:Met} {t:List UInt8} {i:Nat} (he:Vg f' f) (hr:f.rows=[]) (h1:97<=c.toNat) (h2:c.toNat<=122) (hc:Lib.indexByte f.Qo c<0) (hm:ub m=true) (h:QX s i (pS c m++t)):
    ∃f2,Vg f2 {f with Qo:=f.Qo++[c],Qr:=f.Qr++[m]}/\ZY s (q+1) f' true i=ZY s q f2 true (i+(pS c m).length):=by
  have hnl:=zoY hm;have hpl:=pt hm
  have k1:QX s i (Xm++(c::([32]++(vX m++10::t)))):=by
    unfold pS at h;simpa only[qF,zf,zj] using h
  have hh:QX s i (109::([101,116,114,101,32]++(c::([32]++(vX m++10::t))))):=k1;have hmu:=k1.must;rw[<-zqd] at hmu;have k2:=k1.app;have k3:=k2.cons.2.2;have m2:=k3.must;have k32:([32]:List UInt8).map (λc=>(c.toNat:Int))=[32]:=by decide
  rw[k32] at m2;have k4:=k3.app;have hre:=k4.rest hnl;have hcu:=k4.cut;have k5:=k4.app;obtain⟨hlt,_,_⟩:=hh.cons;obtain⟨hjt,_,_⟩:=k5.cons
  have hemp:f'.rows.isEmpty=true:=by
    have:=he.rows;rw[hr,kF,List.map_eq_nil_iff] at this;rw[this];rfl
  have hrd:KH ⟨(vX m).toArray⟩=.ok m:=zpn hm (by omega);refine⟨{f' with Qo:=f'.Qo++[c],Qr:=f'.Qr++[m]},⟨he.name,by show f'.Qo++[c]=f.Qo++[c];rw[he.Qo],by show f'.Qr++[m]=f.Qr++[m];rw[he.Qr],he.rounds,he.least,he.most,he.shift,he.rows⟩,?_⟩
  have hl:ZX s f' true i=.ok ({f' with Qo:=f'.Qo++[c],Qr:=f'.Qr++[m]},i+Xm.length+1+[32].length+(vX m).length):=by
    unfold ZX;rw[qp (by simp),hh.qB,hemp,qq (by decide)];unfold Ua;rw[hmu];simp only[QY];rw[k2.qI,qL (show(97:Int)<=(c.toNat:Int) by omega),qL (show(c.toNat:Int)<=122 by omega),qp (by simp),k2.qD,he.Qo,qp (by omega),m2];simp only[];rw[hre,hcu,hrd];rfl
  rw[gC hlt (by rw[hh.qB];decide) (by rw[hh.qB];decide) hl hjt];congr 1
  unfold pS;simp only[qk,qv,qH];omega
theorem zqf {f:Fm} (h:Zw f):∀(s:ByteArray) (t:List UInt8),s.data.toList=uw f++t->∃f' q',Vg f' f/\s.size<q'+(uw f).length/\ZY s (s.size+1) Fm.zero false 0=ZY s q' f' true (uw f).length:=by
  induction h with
  |title n hn hnl=>
   intro s t hs
   have hT:uw {Fm.zero with name:=n}=K7++(n++[10]):=by
     rw[gD];show gz _++(ui [] [] 0++vQ _ [])=_;simp[gz,ui,vQ]
   rw[hT] at hs|-;have h0:=QX.start s;rw[hs] at h0;have h1:QX s 0 (K7++(n++10::t)):=(by simpa only[qF,zf,zj] using h0);have hh:QX s 0 (102::([111,114,109,32]++(n++10::t))):=h1;have hm:=h1.must;rw[<-zq4] at hm;have h2:=h1.app;have hre:=h2.rest hnl;have hcu:=h2.cut;have h3:=h2.app;obtain⟨hlt,_,_⟩:=hh.cons;obtain⟨hjt,_,_⟩:=h3.cons
   have hend:uj s (0+K7.length)=false:=by
     cases n with
     |nil=>exact absurd rfl hn
     |cons d n=>
      have h2':QX s (0+K7.length) (d::(n++10::t)):=h2;rw[h2'.qE];have:=hnl d (by simp);simp only[zp,ne_eq];intro e;exact this (kS.1 (by show d.toNat=10;omega))
   have hl:ZX s Fm.zero false 0=.ok ({Fm.zero with name:=n},0+K7.length+n.length):=by
     unfold ZX;rw[qq (by simp),hm];simp only[QY];rw[qp (by rw[hend];simp),hre,hcu]
   refine⟨_,s.size,Vg.refl _,?_,?_⟩
   · simp only[qk,K7,qv,qH];omega
   · rw[gC hlt (by rw[hh.qB];decide) (by rw[hh.qB];decide) hl hjt]
     congr 1
     simp only[qk,qv,qH];omega
  |metre f c m hf hr h1 h2 hc hm ih=>
   intro s t hs
   have hT:uw {f with Qo:=f.Qo++[c],Qr:=f.Qr++[m]}=uw f++pS c m:=by
     rw[gD,gD];show gz f++(ui (f.Qo++[c]) (f.Qr++[m]) (f.Qr++[m]).length++vQ _ f.rows)=_;rw[zpv (zo0 hf).1,hr];simp[vQ]
   rw[hT] at hs|-;rw[qF] at hs;obtain⟨f',q',he,hq,hw⟩:=ih s _ hs;have h0:=QX.start s;rw[hs] at h0;have h3:=h0.app;rw[jg] at h3;have hlen:=h3.len;rw[qk] at hlen;have hml:1<=(pS c m).length:=(by unfold pS;simp only[qk,Xm,qv,qH];omega);cases q' with
   |zero=>omega
   |succ q=>
    obtain⟨f2,e2,hw2⟩:=QX.rowM (q:=q) he hr h1 h2 hc hm h3;exact⟨f2,q,e2,by rw[qk];omega,by rw[hw,hw2,qk]⟩
  |Xn f l hf hne hv hz hc ih=>
   intro s t hs
   have hT:uw {f with rows:=f.rows++[⟨false,l⟩]}=uw f++uE f ⟨false,l⟩:=by
     rw[gD,gD];show gz f++(ui f.Qo f.Qr f.Qr.length++vQ {f with rows:=f.rows++[⟨false,l⟩]} (f.rows++[⟨false,l⟩]))=_;rw[zn4 (f:=f) (g:={f with rows:=f.rows++[⟨false,l⟩]}) rfl rfl rfl rfl,Qi];simp only[qF]
   rw[hT] at hs|-;rw[qF] at hs;obtain⟨f',q',he,hq,hw⟩:=ih s _ hs;have h0:=QX.start s;rw[hs] at h0;have h3:=h0.app;rw[jg] at h3;have hlen:=h3.len;rw[qk] at hlen;have hml:1<=(uE f ⟨false,l⟩).length:=(by unfold uE;simp only[qk,qv,qH];omega);cases q' with
   |zero=>omega
   |succ q=>
    obtain⟨f2,e2,hw2⟩:=QX.rowS (q:=q) he hne hv hz hc h3;exact⟨f2,q,e2,by rw[qk];omega,by rw[hw,hw2,qk]⟩
  |round f g a b c l hf hr hab hb hcc hg hne hv hz hc ih=>
   intro s t hs
   have hT:uw {g with rows:=g.rows++[⟨true,l⟩],rounds:=true}=uw f++uE g ⟨true,l⟩:=by
     subst hg;rw[gD,gD];show gz f++(ui f.Qo f.Qr f.Qr.length++vQ _ (f.rows++[⟨true,l⟩]))=_;refine(congrArg (λz=>gz f++(ui f.Qo f.Qr f.Qr.length++z)) ((zn4 (f:={f with least:=(a:Int),most:=(b:Int),shift:=(c:Int)}) rfl rfl rfl rfl _).trans ((Qi _ _ _).trans (congrArg (λz=>z++uE {f with least:=(a:Int),most:=(b:Int),shift:=(c:Int)} ⟨true,l⟩) (pM (f:=f) (g:={f with least:=(a:Int),most:=(b:Int),shift:=(c:Int)}) rfl ((zo0 hf).2 hr)))))).trans ?_;simp only[qF]
   rw[hT] at hs|-;rw[qF] at hs;obtain⟨f',q',he,hq,hw⟩:=ih s _ hs;have h0:=QX.start s;rw[hs] at h0;have h3:=h0.app;rw[jg] at h3;have hlen:=h3.len;rw[qk] at hlen;have hml:1<=(uE g ⟨true,l⟩).length:=(by unfold uE;simp only[qk,qv,qH];omega);cases q' with
   |zero=>omega
   |succ q=>
    obtain⟨f2,e2,hw2⟩:=QX.rowR (q:=q) he hr hab hb hcc hg hne hv hz hc h3;exact⟨f2,q,e2,by rw[qk];omega,by rw[hw,hw2,qk]⟩
theorem zqg {f:Fm} (h:Zw f) (hr:f.rows≠[]) {s:ByteArray} (hs:s.data.toList=uw f) (hz:s.size<=65536):∃f',JG s=.ok f'/\Vg f' f:=by
  obtain⟨f',q',he,hq,hw⟩:=zqf h s [] (by rw[zO];exact hs);refine⟨f',?_,he⟩;have hl:(uw f).length=s.size:=by rw[<-hs,qP];rfl
  unfold JG;rw[qp (by omega),hw,hl];cases q' with
  |zero=>omega
  |succ q=>
   unfold ZY;rw[qq (by omega)]
   have:f'.rows.isEmpty=false:=by
     rw[jU];intro h0;have h1:=he.rows;rw[h0,kF] at h1;exact hr (List.map_eq_nil_iff.1 h1.symm)
   rw[this];rfl
end Go.Proofs.YtgklikkddckgbaaGreatDoor.Mo

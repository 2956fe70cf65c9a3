import Derived.Test.YtgklikkddckgbaaGreatDoorKPXB
import Derived.Laws.StructEq
import Derived.Deep.Cut
/- Lemmas. -/
set_option linter.all false
set_option maxRecDepth 100000
set_option maxHeartbeats 4000000
namespace Go.Proofs.YtgklikkddckgbaaGreatDoor
structure gB (m:Met):Prop where
  gD:∀f∈m.gD,vo f=true
  few:m.gD.length<=16
  ends:vA m.ends 4 2 []=true
  gH:yU m.gD.length 0 m.gH=true
theorem zmB {lg:Int} {own:List ByteArray} {v:Way}:∀(l pre:List Way),vg lg own pre l=true->gq lg own (pre++l) v=true->vg lg own pre (l++[v])=true
  |[],pre,_,h=>by
   rw[kL] at h;rw[kx];unfold vg;rw[h];rfl
  |u::l,pre,h1,h=>by
   unfold vg at h1;rw[qz] at h1;rw[zO];unfold vg;rw[h1.1,zmB l (pre++[u]) h1.2 (by rw[qQ];exact h)];rfl
theorem znM {lg most:Int} {own:List ByteArray} {l:List Way} {v:Way} (h:vA l most lg own=true) (hl:(l.length:Int)+1<=most) (hv:gq lg own l v=true):vA (l++[v]) most lg own=true:=by
  unfold vA at h|-;rw[qz] at h|-;exact⟨qt (by rw[qq];simpa using hl),zmB l [] h.2 hv⟩
theorem zo8 {lg c:Int} {own:List ByteArray} {l:List Way} {sg:ByteArray} (hs:Qk sg 1 lg=true) (h0:0<=c) (h1:c<=1048576) (hl:vN l sg=false) (ho:uM own sg=false):gq lg own l (sg,c)=true:=by
  unfold gq;have hl':(l.any λu=>gU u.1 sg)=false:=hl;simp only[hs,qP h0,qP h1,hl',ho];rfl
theorem zoz:∀f∈Q4,Qk ⟨f.2.1.toArray⟩ 1 4=true:=by decide+kernel
theorem zne {t:ByteArray} (h:(pH t).2=0):Qk (pH t).1 1 4=true:=by
  unfold pH at h|-;split
  · rename_i h1;exact h1
  · rename_i h1
    rw[qv h1] at h;split
    · rename_i h2;rw[qx h2] at h;exact absurd h (by simp)
    · rename_i h2
      rw[qv h2] at h;split
      · rename_i f hf
        exact zoz f (zl hf)
      · rename_i hf
        rw[hf] at h;exact absurd h (by simp)
theorem uA {t:ByteArray} {lo hi:Int} (h:(gK t lo hi).2=0):lo<=(gK t lo hi).1/\(gK t lo hi).1<=hi:=by
  unfold gK at h|-;split
  · rename_i hn;rw[hn] at h;exact absurd h (by simp)
  · rename_i n hn
    rw[hn] at h;simp only at h;split
    · rename_i hb;rw[qx hb] at h;exact absurd h (by simp)
    · rename_i hb;simp only[];omega
theorem zpA {sg:ByteArray} {c:Int} {all:Bool} {f:Ft} (hf:vo f=true) (hs:Qk sg 1 4=true) (h0:0<=c) (h1:c<=1048576) (ha:Vh sg all f=false) (hl:YZ sg all f=false):vo (ul sg c all f)=true:=by
  unfold ul;split
  · rename_i hc
    have hne:(all&&gU f.own sg)=false:=by
      cases all<;>cases he:gU f.own sg<;>simp_all
    unfold Vh at ha;unfold YZ at hl;rw[hne] at ha hl;simp only[jV,zX,zL,decide_eq_false_iff_not] at ha hl;unfold vo at hf|-;rw[qz] at hf|-;refine⟨hf.1,znM hf.2 ?_ (zo8 hs h0 h1 ha.2 ?_)⟩
    · have:=hf.2
      unfold vA at this;rw[qz,qC] at this;have Qs:=this.1;have:(f.gG.length:Int)≠15:=(by omega);omega
    · unfold uM
      simp[ha.1]
  · exact hf
theorem gc {fs:List Ft} {i n:Nat} {sg:ByteArray} {c:Int} {all:Bool}:(vc fs i n sg c all).length=fs.length:=by
  unfold vc;simp only[qq,kF,xF,zH];omega
theorem zo9 {fs:List Ft} {i n:Nat} {sg:ByteArray} {c:Int} {all:Bool} (h:∀f∈fs,vo f=true) (hs:Qk sg 1 4=true) (h0:0<=c) (h1:c<=1048576) (hE:JX ((fs.drop i).take n) sg all=0):∀f∈vc fs i n sg c all,vo f=true:=by
  intro f hf;unfold JX at hE;split at hE
  · exact absurd hE (by decide)
  · rename_i h2
    split at hE
    · exact absurd hE (by decide)
    · rename_i h3
      unfold vc at hf;rcases qJ.1 hf with hf|hf
      · rcases qJ.1 hf with hf|hf
        · exact h f (ju hf)
        · obtain⟨g,hg,rfl⟩:=kB.1 hf
          refine zpA (h g (xD (ju hg))) hs h0 h1 ?_ ?_
          · have:=jm.1 (by simpa using h2) g hg
            simpa using this
          · have:=jm.1 (by simpa using h3) g hg
            simpa using this
      · exact h f (xD hf)
def RGk:ZP->Prop
  |.error _=>True
  |.ok (_,m')=>gB m'/\m'.gH=[]/\m'.ends=[]/\1<=m'.gD.length
def RWk:ZP->Prop
  |.error _=>True
  |.ok (_,m')=>gB m'/\1<=m'.gD.length
def REk:Except (Int×Nat) Met->Prop
  |.error _=>True
  |.ok m'=>vG m'=true
theorem znf {n:Int} {ZF:Nat} {L:List Tok} {m:Met} (hm:gB m) (hb:m.gH=[]) (he:m.ends=[]) (hn:1<=n):RGk (Xi n ZF L m):=by
  unfold Xi;split
  · rename_i hf
    split
    · rename_i hl
      have hlen:(m.gD++List.replicate n.toNat (zcn (pH (hd L).2).1)).length=m.gD.length+n.toNat:=(by rw[qq,xt]);refine⟨⟨λf hf'=>?_,?_,hm.ends,?_⟩,hb,he,?_⟩
      · rcases qJ.1 hf' with hf'|hf'
        · exact hm.gD f hf'
        · have:=List.eq_of_mem_replicate hf'
          subst this;unfold vo zcn;rw[zne hf];rfl
      · show(m.gD++List.replicate n.toNat (zcn (pH (hd L).2).1)).length<=16
        rw[hlen];omega
      · show yU _ 0 m.gH=true
        rw[hb];rfl
      · show 1<=(m.gD++List.replicate n.toNat (zcn (pH (hd L).2).1)).length
        rw[hlen];omega
    · trivial
  · trivial
theorem zn7 {L:List Tok} {m:Met} (hm:gB m) (hb:m.gH=[]) (he:m.ends=[]):RGk (JY L m):=by
  unfold JY;split
  · split
    · rename_i h
      exact znf hm hb he (uA h).1
    · trivial
  · exact znf hm hb he (yb _)
theorem gd:∀(f:Nat) (L:List Tok) (m:Met) (i n:Nat) (all:Bool),gB m->1<=m.gD.length->RWk (Zv f L m i n all)
  |0,_,_,_,_,_,_,_=>trivial
  |f+1,L,m,i,n,all,hm,h1=>by
   unfold Zv;split
   · rename_i pW
     split
     · rename_i hE
       split
       · rename_i hn
         have hn:=uA hn;have hm2:gB {m with gD:=vc m.gD i n (pH (hd L).2).1 (gK (hd (gL L)).2 0 1048576).1 all}:=⟨zo9 hm.gD (zne pW) hn.1 hn.2 hE,by show(vc _ _ _ _ _ _).length<=16;rw[gc];exact hm.few,hm.ends,by show yU (vc _ _ _ _ _ _).length 0 m.gH=true;rw[gc];exact hm.gH⟩;have h2:1<=(vc m.gD i n (pH (hd L).2).1 (gK (hd (gL L)).2 0 1048576).1 all).length:=(by rw[gc];exact h1);split
         · exact gd f _ _ _ _ _ hm2 h2
         · exact⟨hm2,h2⟩
       · trivial
     · trivial
   · trivial
theorem zng:∀(f:Nat) (L:List Tok) (m:Met),gB m->1<=m.gD.length->RWk (ZG f L m)
  |0,_,_,_,_=>trivial
  |f+1,L,m,hm,h1=>by
   unfold ZG;split
   · rename_i hsg
     split
     · trivial
     · rename_i hh
       split
       · trivial
       · rename_i h4
         split
         · rename_i hn
           have hn:=uA hn
           have hm2:gB {m with ends:=m.ends++[((hd L).2,(gK (hd (gL L)).2 0 1048576).1)]}:=⟨hm.gD,hm.few,by
             refine znM hm.ends ?_ (zo8 hsg hn.1 hn.2 (by simpa using hh) rfl);have:=hm.ends;unfold vA at this;rw[qz,qC] at this;have h4':=this.1;omega,hm.gH⟩
           split
           · exact zng f _ _ hm2 h1
           · exact⟨hm2,h1⟩
         · trivial
   · trivial
theorem znh {n:Int} {b:Int×Int}:∀(l:List (Int×Int)) (a:Int),yU n a l=true->(match l.getLast? with|none=>a|some x=>x.1)<b.1->b.1<n->1<=b.2->b.2<=1048576->yU n a (l++[b])=true
  |[],a,_,h1,h2,h3,h4=>by
   have h1':a<b.1:=h1;rw[kx];unfold yU;rw[qP h1',qP h2,qP h3,qP h4];rfl
  |x::l,a,h,h1,h2,h3,h4=>by
   unfold yU at h;rw[qz] at h;rw[zO];unfold yU;rw[h.1,znh l x.1 h.2 ?_ h2 h3 h4]
   · rfl
   · cases l with
     |nil=>exact h1
     |cons y l'=>
      rw[List.getLast?_cons_cons] at h1;cases hl:(y::l').getLast? with
      |none=>simp at hl
      |some z=>rw[hl] at h1;exact h1
theorem zn8 {L:List Tok} {m:Met} (hm:gB m) (h1:1<=m.gD.length):RWk (Ya L m):=by
  unfold Ya;split
  · rename_i ha
    have ha:=uA ha;split
    · rename_i hb
      have hb:=uA hb;refine⟨⟨hm.gD,hm.few,hm.ends,znh _ _ hm.gH ?_ ?_ hb.1 hb.2⟩,h1⟩
      · have:(match m.gH.getLast? with|none=>(0:Int)|some x=>x.1)=zag m:=rfl
        rw[this];simp only[];omega
      · simp only[]
        omega
    · trivial
  · trivial
theorem znN {L:List Tok} {m:Met} (hm:gB m) (h1:1<=m.gD.length):RWk (QL L m):=by
  unfold QL;split
  · exact gd _ _ _ _ _ _ hm h1
  · split
    · exact zng _ _ _ hm h1
    · split
      · exact zn8 hm h1
      · split
        · split
          · exact gd _ _ _ _ _ _ hm h1
          · trivial
        · trivial
theorem u4:∀(f:Nat) (L:List Tok) (m:Met),gB m->1<=m.gD.length->REk (Ki f L m)
  |0,_,_,_,_=>trivial
  |f+1,L,m,hm,h1=>by
   unfold Ki;split
   · show vG m=true
     unfold vG;have h2:m.gD.all vo=true:=zN.2 hm.gD;rw[qP h1,qP hm.few,hm.ends,h2,hm.gH];rfl
   · split
     · have hc:=znN (L:=gL L) hm h1
       cases h:QL (gL L) m with
       |error x=>trivial
       |ok x=>rw[h] at hc;exact Go.Proofs.YtgklikkddckgbaaGreatDoor.u4 f _ _ hc.1 hc.2
     · trivial
theorem gv:∀(f:Nat) (L:List Tok) (m:Met),gB m->m.gH=[]->m.ends=[]->REk (Jl f L m)
  |0,_,_,_,_,_=>trivial
  |f+1,L,m,hm,hb,he=>by
   unfold Jl;have hc:=zn7 (L:=L) hm hb he;cases h:JY L m with
   |error x=>trivial
   |ok x=>
    rw[h] at hc;simp only[];split
    · exact gv f _ _ hc.1 hc.2.1 hc.2.2.1
    · exact Go.Proofs.YtgklikkddckgbaaGreatDoor.u4 _ _ _ hc.1 hc.2.2.2
theorem zpa {s:ByteArray} {m:Met} (h:Zg s=.ok m):vG m=true:=by
  unfold Zg at h;split at h
  · cases h
  · have:=gv (toks s 0).length (toks s 0) Met.zero ⟨(λf hf=>by cases hf),qH _,rfl,rfl⟩ rfl rfl
    rw[h] at this;exact this
end Go.Proofs.YtgklikkddckgbaaGreatDoor
namespace Go.Proofs.YtgklikkddckgbaaGreatDoor.Mo
open Go.RowKit
def ub (sign:UInt8) (n:Int):List UInt8:=if n=0 then [] else sign::Lib.itoa n
theorem zmC (sign:UInt8) (n:Int) (h:0<=n/\n<=1000000):(ub sign n).length<=22:=by
  unfold ub;split
  · simp
  · have:=Lib.itoa_length_le n (by omega) (by omega)
    simp;omega
theorem ziD (c:UInt8) (n:Int) (w:World) (hv:Vars w) (h:0<=n/\n<=1000000):
    Calls Tryz.prog 82 #[.string ⟨#[c]⟩,.int .i64 n] w λe w'=>∃T:ByteArray,e=.returned (.string T)/\T.data.toList=ub c n/\T.size<=22/\Below w.heap.size w w':=by
  have Hi:=qh (vR n w hv (by omega) (by omega));have hl:=zmC c n h;by_cases h0:n=0
  · have e0:(n==0)=true:=by simpa using h0
    have Hn:=qh (show ub c n=[] by unfold ub;rw[qx h0]);clear hl h0;go_enter Tryz.func82,Tryz.ntmps82;go_wp2_with fail;go_ret;exact⟨⟨#[]⟩,rfl,Hn.out.symm,by decide,qb _ _⟩
  · have e0:(n==0)=false:=by simpa using h0
    have Hn:=qh (show ub c n=c::Lib.itoa n by unfold ub;rw[qv h0]);clear hl h0;go_enter Tryz.func82,Tryz.ntmps82;go_wp2_with fail;refine Hi.out.mono ?_;rintro e w' ⟨T,rfl,hT,hsz,hb⟩;have HT:=qh hT;have Hb:=qh hb;clear hT hb Hi;go_wp2_with fail;go_ret;exact⟨_,rfl,by rw[Hn.out,qG,qK,HT.out];rfl,by rw[qR];show 1+T.size<=22;omega,Hb.out⟩
theorem zbU (w:World) (b:UInt8) (x:Int) (hx:(b.toNat:Int)=x):Sem.run Tryz.prog (convert 25 9 (.slice (some ⟨w.heap.size,0,none⟩) 1 1)) (w.alloc (.cells #[.int .u8 x] 5))=.ok (.string ⟨#[b]⟩) (w.alloc (.cells #[.int .u8 x] 5)):=by
  subst hx;refine zx _ _ _ _ ⟨w.heap.size,0,none⟩ 1 [b] qX qW qN (λj hj=>?_);obtain rfl:j=0:=by simpa using hj
  exact qc _ _ 0 _ _ (0,0) (qn w _)
def gZ (n:Nat):UInt8:=UInt8.ofNat (48+n%10)
def Kc (n0 n:Nat) (l:List UInt8):Prop:=Lib.decDigits n0=(if n<10 then [] else Lib.decDigits (n/10))++l
theorem Kc.start (n:Nat):Kc n n [gZ n]:=by
  unfold Kc gZ;rw[Lib.decDigits];split
  · rename_i h;rw[Nat.mod_eq_of_lt h];simp
  · rfl
theorem Kc.step {n0 n:Nat} {l:List UInt8} (h:Kc n0 n l) (hn:¬n<10):Kc n0 (n/10) (gZ (n/10)::l):=by
  unfold Kc at h|-;rw[qv hn] at h;rw[h];have h2:=Kc.start (n/10);unfold Kc at h2;rw[h2,qQ];rfl
theorem Kc.done {n0 n:Nat} {l:List UInt8} (h:Kc n0 n l) (hn:n<10):l=Lib.itoa (n0:Int):=by
  unfold Kc at h;rw[qx hn] at h;rw[Lib.itoa_nonneg,h];rfl
theorem znO (n:Nat):((gZ n).toNat:Int)=48+(n:Int)%10:=by
  unfold gZ;have h:(UInt8.ofNat (48+n%10)).toNat=(48+n%10)%256:=rfl;rw[h];omega
theorem gw (n:Nat) (w:World) (h:n<=1000000):
    Calls Tryz.prog 54 #[.int .i64 (n:Int)] w λe w'=>∃T:ByteArray,e=.returned (.string T)/\T.data.toList=Lib.itoa (n:Int)/\T.size<=22/\Below w.heap.size w w':=by
  have hC:=zbU w (gZ n) _ (znO n);have Hs:=qh (Kc.start n);have HB:Hid (∀o,Below w.heap.size w (w.alloc o)):=qh (λo=>(qb _ _).alloc (ql _) o);go_enter Tryz.func54,Tryz.ntmps54;go_wp2_with fail;clear hC;go_loopw [0,3] (λq s wr=>∃(k:Nat) (S:ByteArray),k<=1000000/\q=.int .i64 k/\s=.string S/\Hid (Kc n k S.data.toList)/\Hid (Below w.heap.size w wr)) (λq _ _=>(intOf q).toNat)
  case atStart=>exact⟨n,⟨#[gZ n]⟩,h,rfl,rfl,Hs,qh (HB.out _)⟩
  case round=>
    rename World=>wr
    obtain⟨k,S,hk,rfl,rfl,hI,hb⟩:=hrel
    have hS:S.size<=21:=by
      have h1:=congrArg List.length hI.out;have h2:=Lib.itoa_length_le (n:Int) (by omega) (by omega);rw[Lib.itoa_nonneg,h1,qq] at h2;have h3:S.data.toList.length=S.size:=(by rw[qS];rfl);omega
    by_cases hlt:k<10
    · have g1:decide ((k:Int)>9)=false:=qd (by omega)
      have g2:¬9<k:=(by omega);have hd:=hI.out.done hlt;have Hd:=qh hd;clear hd;go_wp2_with fail;go_ret;exact⟨S,rfl,Hd.out,by omega,hb.out⟩
    · have g1:decide ((k:Int)>9)=true:=qt (by omega)
      have g2:9<k:=(by omega);have hC:=zbU wr (gZ (k/10)) (48+(k:Int)/10%10) (by rw[znO];push_cast;rfl);have pg:=qh (hI.out.step hlt);have hS2:¬(9223372036854775807<1+S.size):=(by omega);have HB2:Hid (∀o,Below w.heap.size w (wr.alloc o)):=qh (λo=>hb.out.alloc hb.out.size o);go_wp2_with fail;go_roundw
      case rel=>exact⟨k/10,⟨#[gZ (k/10)]⟩++S,by omega,by first|(congr 1;omega)|go_num,rfl,qh (by rw[qG,qK];exact pg.out),qh (HB2.out _)⟩
      case measure=>simp[intOf];omega
theorem zc2 {ms:List Mk} (hk:∀m∈ms,uw m) (c:Int):0<=gN ms c/\gN ms c<=512:=by
  unfold gN;cases h:ms.find? (λm=>m.sign==c) with
  |none=>exact⟨yb _,by decide⟩
  |some x=>
   have hm:=hk x (zl h);by_cases h1:x.sign=58∨x.sign=39
   · have:=hm.lt h1;exact⟨by show 0<=x.n;omega,by show x.n<=512;omega⟩
   · have:=hm.nm (λe=>h1 (.inl e)) (λe=>h1 (.inr e));exact⟨by show 0<=x.n;omega,by show x.n<=512;omega⟩
theorem zon {ms:List Mk} (hk:∀m∈ms,uw m):∀n∈pm ms,1<=n/\n<=512:=by
  intro n hn;obtain⟨m,hm,rfl⟩:=kB.1 hn;obtain⟨h1,h2⟩:=xG.1 hm;have e:m.sign=126:=by simpa using h2
  exact(hk m h1).nm (by omega) (by omega)
def vT (c:Int):UInt8:=Jm.getD c.toNat 0
theorem uu {S:ByteArray} {l:List UInt8} (h:S.data.toList=l):S.size=l.length:=by rw[<-h,qS];rfl
theorem znP:∀c:Nat,c<25->((⟨#[97,98,99,100,101,102,103,104,105,106,107,108,109,110,111,112,113,114,115,116,117,118,119,121,122]⟩:ByteArray).extract c (c+1)).data.toList=[vT (c:Int)]/\(vT (c:Int)).toNat<128:=by decide+kernel
def u5 (x:It):List UInt8:=if 0<=x.cls then(if 0<x.ref then Lib.upperB (vT x.cls)::Lib.itoa x.ref else [vT x.cls]) else [120]
theorem zpb {ms:List Mk} (hk:∀m∈ms,uw m) (c:Int) (hc:c=58∨c=39):0<=gN ms c/\gN ms c<=122:=by
  unfold gN;cases h:ms.find? (λm=>m.sign==c) with
  |none=>exact⟨yb _,by decide⟩
  |some x=>
   have hm:=hk x (zl h);have hs:=kM h;have:=hm.lt (by rcases hc with rfl|rfl;exact .inl (by simpa using hs);exact .inr (by simpa using hs));exact⟨by show 0<=x.n;omega,this.2⟩
theorem ztc {ms:List Mk} (hk:∀m∈ms,uw m):((UInt8.ofNat (gN ms 58).toNat).toNat:Int)=gN ms 58:=by
  have h:=zpb hk 58 (.inl rfl);have e:(UInt8.ofNat (gN ms 58).toNat).toNat=(gN ms 58).toNat%256:=rfl;rw[e];omega
def zm0 (l:List Int):List UInt8:=l.flatMap (ub 126)
theorem zoA (l:List Int) (k:Nat) (hk:k<l.length):zm0 (l.take (k+1))=zm0 (l.take k)++ub 126 (l.getD k 0):=by
  unfold zm0;rw[qD hk,ky];simp[qj,hk]
def znr (ms:List Mk):List UInt8:=if gN ms 39=0 then [] else [39,UInt8.ofNat (gN ms 39).toNat]
theorem zoB:∀n:Nat,n<128->(Utf8.encode (n:Int)).data.toList=[UInt8.ofNat n]:=by decide+kernel
def zm1 (gC:List UInt8) (ms:List Mk):List UInt8:=if 0<=Zn gC ms then [58,UInt8.ofNat (gN ms 58).toNat] else []
def u6 (gC:List UInt8) (x:It):List UInt8:=Go.Proofs.YtgklikkddckgbaaGreatDoor.Mo.u5 x++(zm1 gC x.gE++(ub 47 (gN x.gE 47)++(ub 94 (gN x.gE 94)++(ub 64 (gN x.gE 64)++(zm0 (pm x.gE)++znr x.gE)))))
theorem uD {w w':World} {b:Nat} {o:Obj} (h:w.heap[b]?=some o) (hb:Below w.heap.size w w'):w'.heap[b]?=some o:=(hb.block b (qg h).1).trans h
theorem yW {A W2 W3:World} (h:Below A.heap.size A W2) (h2:Below W2.heap.size W2 W3):Below A.heap.size A W3:=h.trans (h2.mono h.size)
theorem zoC (gC:List UInt8) (x:It) (B:Nat) (vh:Value) (w:World) (hv:Vars w) (hx:uy x) (hh:w.ownsRow B 3 1 vh (pm x.gE).length (ud (pm x.gE))):
    Calls Tryz.prog 51 #[.agg (p9 gC x.cls x.ref x.gE x.at_ vh)] w λe w'=>∃T:ByteArray,e=.returned (.string T)/\T.data.toList=Go.Proofs.YtgklikkddckgbaaGreatDoor.Mo.u6 gC x/\Below w.heap.size w w':=by
  obtain⟨cls,ref,ms,at_⟩:=x;have hcl:=hx.cl;have hrf:=hx.rf;have hmk:=hx.mks;have zru:(pm ms).length<=4:=by rw[zfL];exact hx.four
  simp only[] at hcl hrf hmk hh|-;obtain⟨Ah,ch,rfl,_,rh⟩:=zdO hh;have Hrh:=qh rh;obtain⟨W1,hW1⟩:∃W1,w.alloc (.cells (p9 gC cls ref ms at_ (.slice Ah (pm ms).length ch)) 108)=W1:=⟨_,rfl⟩;have hb1:Below w.heap.size w W1:=by rw[<-hW1];exact(qb _ _).alloc (ql _) _
  have hx1:W1.heap[w.heap.size]?=some (.cells (p9 gC cls ref ms at_ (.slice Ah (pm ms).length ch)) 108 (0,0)):=by rw[<-hW1];exact qn w _
  have Hvs:=qh (λW (hb:Below W1.heap.size W1 W)=>hv.below (yW hb1 hb) hv.six);have HW1:=qh hW1;have Hb1:=qh hb1;have Hx1:=qh hx1;have Vn:=qh hmk;have q0:W1.cell? ⟨w.heap.size,0,none⟩=some (.int .i64 cls):=qc _ _ 0 _ _ (0,0) hx1;have q1:W1.cell? ⟨w.heap.size,1,none⟩=some (.int .i64 ref):=qc _ _ 1 _ _ (0,0) hx1;have hwb:w.heap.size<W1.heap.size:=(qg hx1).1;clear rh hh hx hv hW1 hb1 hx1 hmk;unfold p9 at HW1|-;go_enter Tryz.func51,Tryz.ntmps51;go_upto_region 2 with(fail)
  rw[HW1.out];go_upto_if 11 with(fail)
  go_cut [3] from 11 to 26 (λv3 wx=>∃S:ByteArray,v3=.string S/\Hid (S.data.toList=Go.Proofs.YtgklikkddckgbaaGreatDoor.Mo.u5 ⟨cls,ref,ms,at_⟩/\S.size<=30)/\Hid (Below W1.heap.size W1 wx))
  case first=>
    by_cases h0:0<=cls
    · have g0:decide (cls>=0)=true:=qt h0
      obtain⟨c,rfl⟩:∃c:Nat,cls=(c:Int):=⟨cls.toNat,by omega⟩;obtain⟨hl1,hl2⟩:=znP c (by omega);have Hl:=qh (qV hl1 hl2);have Qg:Hid (Go.Proofs.YtgklikkddckgbaaGreatDoor.Mo.u5 ⟨c,ref,ms,at_⟩=(if 0<ref then Lib.upperB (vT (c:Int))::Lib.itoa ref else [vT (c:Int)])):=qh (by unfold Go.Proofs.YtgklikkddckgbaaGreatDoor.Mo.u5;exact qx h0);have c25:c<25:=(by omega);clear hl1 hl2 h0 hcl;by_cases h1:0<ref
      · have g1:decide (ref>0)=true:=qt h1
        rw[qx h1] at Qg
        have HU:Hid (∀W,Calls Tryz.prog 81 #[.string ((⟨#[97,98,99,100,101,102,103,104,105,106,107,108,109,110,111,112,113,114,115,116,117,118,119,121,122]⟩:ByteArray).extract c (c+1))] W λe w'=>∃U:ByteArray,e=.returned (.string U)/\U.data.toList=[Lib.upperB (vT (c:Int))]/\U.size=1/\Below W.heap.size W w'):=qh (λW=>by
          refine(Tryz.strings_ToUpper_ascii _ W ?_ ?_).mono ?_
          · rw[jW];simp;omega
          · intro j b hb
            rw[Hl.out.1] at hb
            have:b=vT (c:Int):=by
              cases j with
              |zero=>simpa using hb.symm
              |succ j=>simp at hb
            rw[this];exact Hl.out.2
          · rintro e w' ⟨rfl,hb⟩
            refine⟨_,rfl,?_,?_,hb⟩
            · show Lib.toUpperA _=_
              rw[Hl.out.1];rfl
            · show(Lib.toUpperA _).toArray.size=1
              rw[Hl.out.1];rfl)
        have HI:Hid (∀W,Below W1.heap.size W1 W->Calls Tryz.prog 50 #[.int .i64 ref] W λe w'=>∃T:ByteArray,e=.returned (.string T)/\T.data.toList=Lib.itoa ref/\T.size<=21/\Below W.heap.size W w'):=qh (λW hb=>vR ref W (Hvs.out W hb) (by omega) (by omega));go_wp2_with fail;go_region_held3 (λw'=>Below W1.heap.size W1 w'/\∀b o,b<W1.heap.size->w'.cell? ⟨b,o,none⟩=W1.cell? ⟨b,o,none⟩) (((repeat (apply Xr;assumption));exact gS)) (first|(go_at_call 81;refine(HU.out _).mono ?_;rintro e w9 ⟨U,rfl,hU,hUs,gQ⟩;have HU9:=qh (qV hU hUs);clear hU hUs)|(go_at_call 50;refine(HI.out _ (by first|exact gS.1|exact zg (by assumption))).mono ?_;rintro e w9 ⟨T,rfl,hT,hTs,gQ⟩;have HT9:=qh (qV hT hTs);have hUT:¬(9223372036854775807<U.size+T.size):=(by have:=HU9.out.2;omega);clear hT hTs))
        have Zl:Below W1.heap.size W1 w9:=zg (by assumption);have YI:=qh Zl;clear gQ Zl;go_wp2_with fail;go_meet
        exact⟨_,rfl,qh ⟨by rw[Qg.out,qG,qK,HU9.out.1,HT9.out.1];rfl,by rw[qR,HU9.out.2];have:=HT9.out.2;omega⟩,YI⟩
      · have g1:decide (ref>0)=false:=qd h1
        rw[qv h1] at Qg;go_wp2_with fail;go_meet
        exact⟨_,rfl,qh ⟨by rw[Qg.out];exact Hl.out.1,by rw[uu Hl.out.1];simp⟩,qh (qb _ _)⟩
    · have g0:decide (cls>=0)=false:=qd h0
      have Qg:Hid (Go.Proofs.YtgklikkddckgbaaGreatDoor.Mo.u5 ⟨cls,ref,ms,at_⟩=[120]):=qh (by unfold Go.Proofs.YtgklikkddckgbaaGreatDoor.Mo.u5;exact qv h0);go_wp2_with fail;go_meet
      exact⟨_,rfl,qh ⟨by rw[Qg.out],by decide⟩,qh (qb _ _)⟩
  case rest=>
  obtain⟨S,rfl,hS,Zx⟩:=hcut;have HxA:=qh (uD Hx1.out Zx.out);clear q0 q1;have q2:wc.cell? ⟨w.heap.size,2,none⟩=some (.int .i64 (Zn gC ms)):=qc _ _ 2 _ _ (0,0) HxA.out;have q3:wc.cell? ⟨w.heap.size,3,none⟩=some (.int .u8 (gN ms 58)):=qc _ _ 3 _ _ (0,0) HxA.out;go_upto_if 29 with(fail)
  go_cut [3] from 29 to 36 (λv3 wx=>∃S':ByteArray,v3=.string S'/\Hid (S'.data.toList=S.data.toList++zm1 gC ms/\S'.size<=32)/\Hid (Below W1.heap.size W1 wx))
  case first=>
    by_cases h0:0<=Zn gC ms
    · have g0:decide (Zn gC ms>=0)=true:=qt h0
      have Hm:=qh (show zm1 gC ms=[58,UInt8.ofNat (gN ms 58).toNat] by unfold zm1;exact qx h0);have hn:=ztc Vn.out;have hC:=zbU wc (UInt8.ofNat (gN ms 58).toNat) (gN ms 58) hn;have hsz:¬(9223372036854775807<S.size+(1+1)):=(by have:=hS.out.2;omega);have HB2:Hid (∀o,Below W1.heap.size W1 (wc.alloc o)):=qh (λo=>Zx.out.alloc Zx.out.size o);clear hn;go_wp2_with fail;go_meet
      exact⟨_,rfl,qh ⟨by rw[Hm.out];simp only[qG,qK];rfl,by simp only[qR];have:=hS.out.2;show S.size+(1+1)<=32;omega⟩,qh (HB2.out _)⟩
    · have g0:decide (Zn gC ms>=0)=false:=qd h0
      have Hm:=qh (show zm1 gC ms=[] by unfold zm1;exact qv h0);have h0b:Zn gC ms<0:=(by omega);go_wp2_with fail;go_meet
      exact⟨_,rfl,qh ⟨by rw[Hm.out];simp,by have:=hS.out.2;omega⟩,Zx⟩
  case rest=>
  obtain⟨S2,rfl,hS2,hbB⟩:=hcut;obtain⟨wB,hwB⟩:∃W:World,W=wc:=⟨_,rfl⟩;subst hwB;have HxB:=qh (uD Hx1.out hbB.out);clear q2 q3;have hlt:w.heap.size<wB.heap.size:=(qg HxB.out).1;have q4:wB.cell? ⟨w.heap.size,4,none⟩=some (.int .i64 (gN ms 47)):=qc _ _ 4 _ _ (0,0) HxB.out;have q5:wB.cell? ⟨w.heap.size,5,none⟩=some (.int .i64 (gN ms 94)):=qc _ _ 5 _ _ (0,0) HxB.out;have q6:wB.cell? ⟨w.heap.size,6,none⟩=some (.int .i64 (gN ms 64)):=qc _ _ 6 _ _ (0,0) HxB.out;have H47:Hid (∀W,Below wB.heap.size wB W->Calls Tryz.prog 82 #[.string ⟨#[47]⟩,.int .i64 (gN ms 47)] W λe w'=>∃T:ByteArray,e=.returned (.string T)/\T.data.toList=ub 47 (gN ms 47)/\T.size<=22/\Below W.heap.size W w'):=qh (λW hb=>ziD 47 _ W (Hvs.out W (yW hbB.out hb)) (by have:=zc2 Vn.out 47;omega));have H94:Hid (∀W,Below wB.heap.size wB W->Calls Tryz.prog 82 #[.string ⟨#[94]⟩,.int .i64 (gN ms 94)] W λe w'=>∃T:ByteArray,e=.returned (.string T)/\T.data.toList=ub 94 (gN ms 94)/\T.size<=22/\Below W.heap.size W w'):=qh (λW hb=>ziD 94 _ W (Hvs.out W (yW hbB.out hb)) (by have:=zc2 Vn.out 94;omega));have H64:Hid (∀W,Below wB.heap.size wB W->Calls Tryz.prog 82 #[.string ⟨#[64]⟩,.int .i64 (gN ms 64)] W λe w'=>∃T:ByteArray,e=.returned (.string T)/\T.data.toList=ub 64 (gN ms 64)/\T.size<=22/\Below W.heap.size W w'):=qh (λW hb=>ziD 64 _ W (Hvs.out W (yW hbB.out hb)) (by have:=zc2 Vn.out 64;omega));generalize h47g:gN ms 47=n47 at*;have E47:=qh h47g;clear h47g;generalize h94g:gN ms 94=n94 at*;have E94:=qh h94g;clear h94g;generalize h64g:gN ms 64=n64 at*;have E64:=qh h64g;clear h64g;go_upto_region 9 with(fail)
  go_cut [3] from 37 to 49 (λv3 wx=>∃S':ByteArray,v3=.string S'/\Hid (S'.data.toList=S2.data.toList++(ub 47 (n47)++(ub 94 (n94)++ub 64 (n64)))/\S'.size<=100)/\Hid (Below W1.heap.size W1 wx))
  case first=>
    go_region_held3 (λw'=>Below wB.heap.size wB w'/\∀b o,b<wB.heap.size->w'.cell? ⟨b,o,none⟩=wB.cell? ⟨b,o,none⟩) (((repeat (apply Xr;assumption));exact gS)) (first|(go_at_call 82;with_reducible refine(H47.out _ (by first|exact gS.1|exact zg (by assumption))).mono ?_;rintro e w9 ⟨Ta,rfl,hTa,YT,gQ⟩;have YU:=qh (qV hTa YT);clear hTa YT)|(go_at_call 82;with_reducible refine(H94.out _ (by first|exact gS.1|exact zg (by assumption))).mono ?_;rintro e w9 ⟨Tb,rfl,hTb,YV,gQ⟩;have HTb:=qh (qV hTb YV);have hab:¬(9223372036854775807<Ta.size+Tb.size):=(by have:=YU.out.2;have:=HTb.out.2;omega);clear hTb YV)|(go_at_call 82;with_reducible refine(H64.out _ (by first|exact gS.1|exact zg (by assumption))).mono ?_;rintro e w9 ⟨Tc,rfl,hTc,YW,gQ⟩;have HTc:=qh (qV hTc YW);have habc:¬(9223372036854775807<Ta.size+Tb.size+Tc.size):=(by have:=YU.out.2;have:=HTb.out.2;have:=HTc.out.2;omega);have Qt:¬(9223372036854775807<S2.size+(Ta.size+Tb.size+Tc.size)):=(by have:=hS2.out.2;have:=YU.out.2;have:=HTb.out.2;have:=HTc.out.2;omega);clear hTc YW))
    have Zl:Below wB.heap.size wB w9:=zg (by assumption);have YI:=qh (yW hbB.out Zl);clear gQ Zl;go_wp2_with fail;go_meet
    exact⟨_,rfl,qh ⟨by simp only[qG,qK,YU.out.1,HTb.out.1,HTc.out.1,qQ],by simp only[qR];have:=hS2.out.2;have:=YU.out.2;have:=HTb.out.2;have:=HTc.out.2;omega⟩,YI⟩
  case rest=>
  obtain⟨S3,rfl,Qt,hbC⟩:=hcut;obtain⟨wC,hwC⟩:∃W:World,W=wc:=⟨_,rfl⟩;subst hwC;have HxC:=qh (uD Hx1.out hbC.out);clear q4 q5 q6 hlt H47 H94 H64;have q7:wC.cell? ⟨w.heap.size,7,none⟩=some (.slice Ah (pm ms).length ch):=qc _ _ 7 _ _ (0,0) HxC.out;have Qy:=qh (zon Vn.out);generalize hhs:pm ms=hs at*;have Ehs:=qh hhs;clear hhs;go_wp2_with fail;clear q7;go_loopw [3,6,53] (λv3 v6 q wr=>∃(k:Nat) (S':ByteArray),k<=hs.length/\q=.int .i64 k/\v3=.string S'/\Hid (S'.data.toList=S3.data.toList++zm0 (hs.take k)/\S'.size<=100+22*k)/\Hid (Below W1.heap.size W1 wr)) (λ_ _ q _=>hs.length-(intOf q).toNat)
  case atStart=>exact⟨0,S3,qH _,rfl,rfl,qh ⟨by simp[zm0],by have:=Qt.out.2;omega⟩,hbC⟩
  case round=>
    rename World=>wr
    obtain⟨k,S',hk,rfl,rfl,hS',hbr⟩:=hrel;by_cases hlt:k<hs.length
    · obtain⟨g,rfl,hg,hc⟩:=Hrh.out (by omega)
      have q0:=((yW Hb1.out hbr.out).cell (p:=⟨g,k,none⟩) hg).trans (hc k hlt);have hn:=Qy.out (hs.getD k 0) (by rw[qj,qA hlt];exact qM hlt);have Q0:=qh (zoA hs k hlt);clear hc;generalize hs.getD k 0=n at*;have pr:=qh (ziD 126 n wr (Hvs.out wr hbr.out) (by omega));go_wp2_with fail;refine pr.out.mono ?_;rintro e w9 ⟨T,rfl,hT,hTs,gQ⟩;have hsz:¬(9223372036854775807<S'.size+T.size):=(by have:=hS'.out.2;omega);have HT:=qh (qV hT hTs);have pC:=qh (yW hbr.out gQ);clear hT hTs gQ pr;go_wp2_with fail;go_roundw
      case rel=>exact⟨k+1,S'++T,by omega,by go_num,rfl,qh ⟨by rw[qG,qK,hS'.out.1,HT.out.1,Q0.out,qQ],by rw[qR];have:=hS'.out.2;have:=HT.out.2;omega⟩,pC⟩
      case measure=>simp[intOf];omega
    · obtain rfl:k=hs.length:=by omega
      rw[qZ] at hS';have HxD:=qh (uD Hx1.out hbr.out);have q8:wr.cell? ⟨w.heap.size,8,none⟩=some (.int .i32 (gN ms 39)):=qc _ _ 8 _ _ (0,0) HxD.out;have h39:=zpb Vn.out 39 (.inr rfl);by_cases h0:gN ms 39=0
      · have g0:(gN ms 39==0)=true:=by simpa using h0
        have g1:(gN ms 39 !=0)=false:=(by simp[h0]);have Hbg:=qh (show znr ms=[] by unfold znr;exact qx h0);have gI:=qh (yW Hb1.out hbr.out);go_wp2_with fail;go_ret
        exact⟨S',rfl,by
          rw[hS'.out.1,Qt.out.1,hS2.out.1,hS.out.1];unfold Go.Proofs.YtgklikkddckgbaaGreatDoor.Mo.u6;simp only[];rw[Hbg.out,E47.out,E94.out,E64.out,Ehs.out];simp[qQ],gI.out⟩
      · have g0:(gN ms 39==0)=false:=by simpa using h0
        have g1:(gN ms 39 !=0)=true:=(by simpa using h0);have Hbg:=qh (show znr ms=[39,UInt8.ofNat (gN ms 39).toNat] by unfold znr;exact qv h0);obtain⟨n39,zsO⟩:∃n:Nat,gN ms 39=(n:Int):=⟨(gN ms 39).toNat,by omega⟩;have he:=zoB n39 (by omega);rw[<-zsO] at he;have hes:=uu he;have hz1:¬(9223372036854775807<1+(Utf8.encode (gN ms 39)).size):=(by rw[hes];show¬(9223372036854775807<1+1);omega);have hz2:¬(9223372036854775807<S'.size+(1+(Utf8.encode (gN ms 39)).size)):=(by rw[hes];have:=hS'.out.2;simp only[qB,qE];omega);have He:=qh (show(Utf8.encode (gN ms 39)).data.toList=[UInt8.ofNat (gN ms 39).toNat] by rw[he,zsO];rfl);have gI:=qh (yW Hb1.out hbr.out);clear he hes zsO;go_wp2_with fail;go_ret
        exact⟨_,rfl,by
          simp only[qG,qK,He.out];rw[hS'.out.1,Qt.out.1,hS2.out.1,hS.out.1];unfold Go.Proofs.YtgklikkddckgbaaGreatDoor.Mo.u6;simp only[];rw[Hbg.out,E47.out,E94.out,E64.out,Ehs.out];simp[qQ],gI.out⟩
def mkT (m:Mk):List UInt8:=if m.sign=58∨m.sign=39 then [UInt8.ofNat m.sign.toNat,UInt8.ofNat m.n.toNat] else UInt8.ofNat m.sign.toNat::Lib.itoa m.n
def Xm (ms:List Mk) (c:Int):List UInt8:=(ms.filter λm=>m.sign==c).flatMap mkT
theorem gx (p:Mk->Bool):∀ms:List Mk,ms.countP p<=1->ms.filter p=(match ms.find? p with|some m=>[m]|none=>[])
  |[],_=>rfl
  |m::ms,h=>by
   by_cases hm:p m=true
   · rw[List.filter_cons_of_pos hm,List.find?_cons_of_pos hm]
     rw[List.countP_cons_of_pos hm] at h;have h0:ms.countP p=0:=(by omega);rw[List.countP_eq_zero] at h0;simp only[];congr 1
     exact List.filter_eq_nil_iff.2 h0
   · rw[List.filter_cons_of_neg hm,List.find?_cons_of_neg hm]
     rw[List.countP_cons_of_neg hm] at h;exact gx p ms h
theorem uQ {ms:List Mk} {c:Int} (h:pB ms c<=1):(ms.filter λm=>m.sign==c)=(match ms.find? (λm=>m.sign==c) with|some m=>[m]|none=>[]):=gx _ ms h
theorem zn9 {ms:List Mk} (hk:∀m∈ms,uw m) {c:Int} (b:UInt8) (hb:UInt8.ofNat c.toNat=b) (Ju:c≠58) (h39:c≠39) (h:pB ms c<=1):Xm ms c=ub b (gN ms c):=by
  unfold Xm gN;rw[uQ h];cases hf:ms.find? (λm=>m.sign==c) with
  |none=>rfl
  |some m=>
   have hs:m.sign=c:=(by simpa using kM hf);have hm:=(hk m (zl hf)).nm (by rw[hs];exact Ju) (by rw[hs];exact h39);simp only[kR,yz,kL];unfold mkT ub;rw[qv (by rw[hs];omega),qv (by omega),hs,hb]
theorem zsP {ms:List Mk} (hk:∀m∈ms,uw m):Xm ms 126=zm0 (pm ms):=by
  unfold Xm zm0 pm;rw[List.flatMap_map]
  have:∀l:List Mk,(∀m∈l,uw m/\m.sign=126)->l.flatMap mkT=l.flatMap λm=>ub 126 m.n:=λl=>by
    induction l with
    |nil=>intro _;rfl
    |cons m l ih=>
     intro hl;obtain⟨h1,h2⟩:=hl m (by simp);rw[kR,kR,ih (λq hq=>hl q (by simp[hq]))];congr 1
     have:=h1.nm (by omega) (by omega);unfold mkT ub;rw[qv (by omega),qv (by omega),h2];rfl
  refine this _ (λm hm=>?_);obtain⟨h1,h2⟩:=xG.1 hm;exact⟨hk m h1,by simpa using h2⟩
theorem zsQ {ms:List Mk} (hk:∀m∈ms,uw m) (h:pB ms 39<=1):Xm ms 39=znr ms:=by
  unfold Xm znr gN;rw[uQ h];cases hf:ms.find? (λm=>m.sign==39) with
  |none=>rfl
  |some m=>
   have hs:m.sign=39:=(by simpa using kM hf);have hm:=(hk m (zl hf)).lt (.inr hs);simp only[kR,yz,kL];unfold mkT;rw[qx (.inr hs),qv (by omega),hs];rfl
def znQ (gC:List UInt8) (ms:List Mk):Prop:=∀m∈ms,m.sign=58->0<=Lib.indexByte gC m.n.toNat.toUInt8
theorem zsR {gC:List UInt8} {ms:List Mk} (hl:znQ gC ms) (h:pB ms 58<=1):Xm ms 58=zm1 gC ms:=by
  unfold Xm zm1 Zn gN;rw[uQ h];cases hf:ms.find? (λm=>m.sign==58) with
  |none=>rfl
  |some m=>
   have hs:m.sign=58:=(by simpa using kM hf);have hm:=hl m (zl hf) hs;simp only[kR,yz,kL];unfold mkT;rw[qx (.inl hs),qx hm,hs];rfl
def zmO (x:It):List UInt8:=Go.Proofs.YtgklikkddckgbaaGreatDoor.Mo.u5 x++(Xm x.gE 58++(Xm x.gE 47++(Xm x.gE 94++(Xm x.gE 64++(Xm x.gE 126++Xm x.gE 39)))))
theorem zoa {gC:List UInt8} {x:It} (hx:uy x) (hl:znQ gC x.gE):zmO x=Go.Proofs.YtgklikkddckgbaaGreatDoor.Mo.u6 gC x:=by
  unfold zmO Go.Proofs.YtgklikkddckgbaaGreatDoor.Mo.u6;rw[zsR hl (hx.one 58 (by decide)),zn9 hx.mks 47 rfl (by decide) (by decide) (hx.one 47 (by decide)),zn9 hx.mks 94 rfl (by decide) (by decide) (hx.one 94 (by decide)),zn9 hx.mks 64 rfl (by decide) (by decide) (hx.one 64 (by decide)),zsP hx.mks,zsQ hx.mks (hx.one 39 (by decide))]
def VR:List Int:=[58,47,94,64,126,39]
def uI (x:It) (i k:Nat):List UInt8:=Go.Proofs.YtgklikkddckgbaaGreatDoor.Mo.u5 x++((VR.take i).flatMap (Xm x.gE)++Xm (x.gE.take k) (VR.getD i 0))
theorem zob (c:Int):Xm [] c=[]:=rfl
theorem zoc (x:It):uI x 0 0=Go.Proofs.YtgklikkddckgbaaGreatDoor.Mo.u5 x:=by unfold uI;simp[zob]
theorem zoD (x:It) (i:Nat) (h:i<6):uI x i x.gE.length=uI x (i+1) 0:=by
  unfold uI;have h':i<VR.length:=h;rw[qD h',ky,List.take_zero,zob,qZ];simp[qj,h']
theorem zoE (x:It):uI x 6 0=zmO x:=by
  unfold uI zmO;simp[zob,VR]
theorem zpB (ms:List Mk) (c:Int) (k:Nat) (h:k<ms.length):Xm (ms.take (k+1)) c=Xm (ms.take k) c++(if(ms.getD k Zs).sign=c then mkT (ms.getD k Zs) else []):=by
  unfold Xm;have e:ms.getD k Zs=ms[k]:=by simp[qj,h]
  rw[qD h,xP,ky,e];congr 1
  by_cases hc:ms[k].sign=c
  · rw[qx hc,List.filter_cons_of_pos (by simpa using hc)];simp
  · rw[qv hc,List.filter_cons_of_neg (by simpa using hc)];rfl
theorem zoF (x:It) (i k:Nat) (h:k<x.gE.length):uI x i (k+1)=uI x i k++(if(x.gE.getD k Zs).sign=VR.getD i 0 then mkT (x.gE.getD k Zs) else []):=by
  unfold uI;rw[zpB _ _ _ h,qQ,qQ]
theorem gy:∀ms:List Mk,(∀m∈ms,uw m)->ms.length<=pB ms 58+pB ms 47+pB ms 94+pB ms 64+pB ms 126+pB ms 39
  |[],_=>qH _
  |m::ms,h=>by
   have ih:=gy ms (λq hq=>h q (by simp[hq]));have hs:=(h m (by simp)).sg;unfold pB at ih|-;simp only[yx,qB];rcases hs with e|e|e|e|e|e<;>simp[e]<;>omega
theorem zod {x:It} (h:uy x):x.gE.length<=9:=by
  have h1:=gy x.gE h.mks;have:=h.one 58 (by decide);have:=h.one 47 (by decide);have:=h.one 94 (by decide);have:=h.one 64 (by decide);have:=h.one 39 (by decide);have:=h.four;omega
structure NmF (s:ByteArray) (f:Fm):Prop where
  nm:f.name.length<=s.size
  met:∀m∈f.gF,vG m=true
theorem zmP {s:ByteArray} {f f':Fm} {round:Bool} {start i j:Nat} (h:Kd s f round start i=.ok (f',j)) (hf:NmF s f):NmF s f':=by
  unfold Kd at h;split at h
  · cases h
  · cases hit:Kx s f round (s.size+1) [] i with
    |error e=>rw[hit] at h;cases h
    |ok lj=>
     rw[hit] at h;simp only at h;split at h
     · cases h
     · split at h
       · cases h
       · cases h
         exact⟨hf.nm,hf.met⟩
theorem zoG {s:ByteArray} {f f':Fm} {i j:Nat} (hf:NmF s f) (h:Yb s f i=.ok (f',j)):NmF s f':=by
  unfold Yb at h;split at h
  · cases h
  · (repeat' split at h)<;>first|(cases h;done)|skip
    rename_i hst;cases h;have:=zmP hst ⟨hf.nm,hf.met⟩;exact⟨this.nm,this.met⟩
theorem zoH {s:ByteArray} {f f':Fm} {i j:Nat} (hf:NmF s f) (h:Y2 s f i=.ok (f',j)):NmF s f':=by
  unfold Y2 at h
  (repeat' split at h)<;>first|(cases h;done)|skip
  rename_i hr;cases h;refine⟨hf.nm,λm hm=>?_⟩;rcases qJ.1 hm with hm|hm
  · exact hf.met m hm
  · obtain rfl:=zj.1 hm;exact zpa hr
theorem zpc {s:ByteArray} {f f':Fm} {t:Bool} {i j:Nat} (hf:NmF s f) (h:QV s f t i=.ok (f',j)):NmF s f':=by
  unfold QV at h;split at h
  · (repeat' split at h)<;>first|(cases h;done)|skip
    cases h;refine⟨?_,hf.met⟩;show(yP s _ _).length<=s.size;unfold yP;have:s.data.toList.length=s.size:=(by rw[qS];rfl);rw[kF,zH];omega
  · split at h
    · exact zoH hf h
    · split at h
      · exact zoG hf h
      · split at h
        · cases h
        · exact zmP h hf
theorem uE {s:ByteArray}:∀(q:Nat) (f:Fm) (t:Bool) (i:Nat) {f':Fm},NmF s f->Q1 s q f t i=.ok f'->NmF s f'
  |0,f,t,i,f',hf,h=>by unfold Q1 at h;cases h;exact hf
  |q+1,f,t,i,f',hf,h=>by
   unfold Q1 at h;split at h
   · split at h
     · cases h
     · cases h;exact hf
   · split at h
     · exact uE q f t _ hf h
     · split at h
       · exact uE q f t _ hf h
       · split at h
         · cases h
         · rename_i hl
           exact uE q _ true _ (zpc hf hl) h
theorem zpd {s:ByteArray} {f:Fm} (h:Q2 s=.ok f):NmF s f/\s.size<=65536:=by
  unfold Q2 at h;split at h
  · cases h
  · exact⟨uE _ _ _ _ ⟨qH _,λm hm=>by cases hm⟩ h,by omega⟩
def zoo:List UInt8:=[102,111,114,109,32]
def zpe:List UInt8:=[109,101,116,114,101,32]
def zns:List UInt8:=[114,111,117,110,100,32]
def zpC:List UInt8:=[115,116,97,110,122,97]
def zsS (c:UInt8) (m:Met):List UInt8:=zpe++([c]++([32]++(vZ m++[10])))
def ug (gC:List UInt8) (ms:List Met) (k:Nat):List UInt8:=(List.range k).flatMap λj=>zsS (gC.getD j 0) (ms.getD j uo)
def zmQ (gC:List UInt8) (l:List It) (k:Nat):List UInt8:=(List.range k).flatMap λj=>32::Go.Proofs.YtgklikkddckgbaaGreatDoor.Mo.u6 gC (l.getD j pk)
def uv (f:Fm) (r:Bool):List UInt8:=if r then zns++(Lib.itoa f.least++([32]++(Lib.itoa f.most++([32]++Lib.itoa f.shift)))) else zpC
def zpW (f:Fm) (r:Rw):List UInt8:=uv f r.round++(zmQ f.gC r.items r.items.length++[10])
def vE (f:Fm) (k:Nat):List UInt8:=(List.range k).flatMap λj=>zpW f (f.rows.getD j ⟨false,[]⟩)
def ge (f:Fm):List UInt8:=zoo++(f.name++[10])
def znR (f:Fm):List UInt8:=ge f++(ug f.gC f.gF f.gF.length++vE f f.rows.length)
theorem uR (gC:List UInt8) (ms:List Met) (k:Nat):ug gC ms (k+1)=ug gC ms k++zsS (gC.getD k 0) (ms.getD k uo):=by
  unfold ug;rw[zR,ky];simp
theorem gh (gC:List UInt8) (l:List It) (k:Nat):zmQ gC l (k+1)=zmQ gC l k++(32::Go.Proofs.YtgklikkddckgbaaGreatDoor.Mo.u6 gC (l.getD k pk)):=by
  unfold zmQ;rw[zR,ky];simp
theorem uS (f:Fm) (k:Nat):vE f (k+1)=vE f k++zpW f (f.rows.getD k ⟨false,[]⟩):=by
  unfold vE;rw[zR,ky];simp
theorem zpf {x:It} (h:uy x):(Go.Proofs.YtgklikkddckgbaaGreatDoor.Mo.u5 x).length<=22:=by
  unfold Go.Proofs.YtgklikkddckgbaaGreatDoor.Mo.u5;split
  · split
    · have:=Lib.itoa_length_le x.ref (by have:=h.rf;omega) (by have:=h.rf;omega)
      simp only[qB];omega
    · simp
  · simp
theorem zpg {l:List Int} (h:∀n∈l,1<=n/\n<=512):(zm0 l).length<=22*l.length:=by
  induction l with
  |nil=>exact qH _
  |cons a l ih=>
   have h1:=ih λn hn=>h n (by simp[hn]);have h2:=zmC 126 a (by have:=h a (by simp);omega);unfold zm0 at h1|-;rw[kR,qq,qB];omega
theorem gj {gC:List UInt8} {x:It} (h:uy x):(Go.Proofs.YtgklikkddckgbaaGreatDoor.Mo.u6 gC x).length<=200:=by
  unfold Go.Proofs.YtgklikkddckgbaaGreatDoor.Mo.u6;have h1:=zpf h;have h2:(zm1 gC x.gE).length<=2:=by unfold zm1;split<;>simp
  have hn:∀(b:UInt8) (c:Int),(ub b (gN x.gE c)).length<=22:=λb c=>zmC b _ (by have:=zc2 h.mks c;omega);have h3:=hn 47 47;have h4:=hn 94 94;have h5:=hn 64 64;have h6:=zpg (zon h.mks);have h7:(pm x.gE).length<=4:=by rw[zfL];exact h.four
  have h8:(znr x.gE).length<=2:=by unfold znr;split<;>simp
  simp only[qq];omega
theorem u7 {gC:List UInt8} {l:List It} (h:∀x∈l,uy x):∀k,k<=l.length->(zmQ gC l k).length<=k*201
  |0,_=>qH _
  |k+1,hk=>by
   have ih:=Go.Proofs.YtgklikkddckgbaaGreatDoor.Mo.u7 (gC:=gC) h k (by omega);have h1:=gj (gC:=gC) (h (l.getD k pk) (by rw[qj,qA (by omega)];exact qM _));rw[gh,qq,qB];omega
theorem uT {m:Met} (h:vG m=true):(vZ m).length<=16000:=by
  have hp:=zol h;have h1:=uB hp m.gD.length 0;have h2:=vQ hp m.gD.length (ql _);have h3:=Go.Proofs.YtgklikkddckgbaaGreatDoor.u9 hp;have h4:=up hp m.gH.length (ql _);have h5:=hp.gD;have h6:=hp.zrj;unfold vZ;simp only[qq];omega
theorem gm {gC:List UInt8} {ms:List Met} (h:∀m∈ms,vG m=true):∀k,k<=ms.length->(ug gC ms k).length<=k*16010
  |0,_=>qH _
  |k+1,hk=>by
   have ih:=gm (gC:=gC) h k (by omega);have h1:=uT (h (ms.getD k uo) (by rw[qj,qA (by omega)];exact qM _));rw[uR,qq];unfold zsS;simp only[qq,zpe,qB,qE];omega
theorem gn {f:Fm} {i:Nat} (h:pb f i) (r:Bool):(uv f r).length<=100:=by
  have h1:=Lib.itoa_length_le f.least (by have:=h.l0;omega) (by have:=h.l0;omega);have h2:=Lib.itoa_length_le f.most (by have:=h.m0;omega) (by have:=h.m0;omega);have h3:=Lib.itoa_length_le f.shift (by have:=h.s0;omega) (by have:=h.s0;omega);unfold uv;split
  · simp only[qq,zns,qB,qE];omega
  · decide
theorem zph {f:Fm} {i:Nat} (h:pb f i) (k:Nat) (hk:k<f.rows.length):(zpW f (f.rows.getD k ⟨false,[]⟩)).length<=101+(f.rows.getD k ⟨false,[]⟩).items.length*201:=by
  have h1:=gn h (f.rows.getD k ⟨false,[]⟩).round;have h2:=Go.Proofs.YtgklikkddckgbaaGreatDoor.Mo.u7 (gC:=f.gC) (h.it (f.rows.getD k ⟨false,[]⟩) (by rw[qj,qA hk];exact qM _)) _ (ql _);unfold zpW;simp only[qq,qB,qE];omega
theorem gp {f:Fm} {i:Nat} (h:pb f i):∀k,k<=f.rows.length->(vE f k).length<=k*101+vV (f.rows.take k)*201
  |0,_=>by simp[vE]
  |k+1,hk=>by
   have ih:=gp h k (by omega);have h1:=zph h k (by omega);rw[uS,qq,zej f.rows k (by omega),Nat.add_mul];omega
theorem zpD (b:UInt8):((b.toNat:Int)).toNat.toUInt8=b:=by
  rw[Int.toNat_natCast];exact xp
theorem zpi {s:ByteArray} {i:Nat} {c:Int} (h:((gO s i).toNat:Int)=c) (hc:c≠0):gT s i c=true:=by
  by_cases hi:i<s.size
  · rw[QH hi]
    rw[ZI hi] at h;simpa using h
  · exfalso
    unfold gO at h;first|(rw[xC hi] at h;exact hc h.symm)|(simp[hi] at h;exact hc h.symm)|(simp[hi] at h;omega)
theorem zoI {s:ByteArray} {gC:List UInt8} {ms:List Mk} {i j:Nat} {m:Mk} (h:QM s gC ms i=.ok (m,j)):m.sign=58->0<=Lib.indexByte gC m.n.toNat.toUInt8:=by
  intro hs;unfold QM at h;by_cases h1:(if gT s i 126 then 4 else 1)<=pB ms (gO s i).toNat
  · rw[qx h1] at h;cases h
  rw[qv h1] at h;by_cases h2:(gT s i 58||gT s i 39)=true
  · rw[qx h2] at h
    by_cases h3:¬pK s (i+1) 97 122=true
    · rw[qx h3] at h;cases h
    rw[qv h3] at h;by_cases h4:(gT s i 58&&decide (Lib.indexByte gC (gO s (i+1))<0))=true
    · rw[qx h4] at h;cases h
    rw[qv h4] at h;cases h;have hb:gT s i 58=true:=zpi hs (by decide);rw[hb] at h4;simp at h4;show 0<=Lib.indexByte gC ((((gO s (i+1)).toNat:Int)).toNat.toUInt8);rw[zpD];exact h4
  · rw[qv h2] at h
    exfalso
    cases hn:yO s 1 (i+1) with
    |error e=>rw[hn] at h;cases h
    |ok ve=>
     obtain⟨v,e⟩:=ve;rw[hn] at h;simp only at h;by_cases h5:(gT s i 126&&ms.any (λm=>m.sign==126&&m.n==v))=true
     · rw[qx h5] at h;cases h
     rw[qv h5] at h;cases h;exact h2 (by rw[zpi hs (by decide)];rfl)
theorem zmR {s:ByteArray} {gC:List UInt8}:∀(q:Nat) (ms:List Mk) (i:Nat) {ms':List Mk} {j:Nat},QU s gC q ms i=.ok (ms',j)->znQ gC ms->znQ gC ms'
  |0,ms,i,ms',j,h,hl=>by unfold QU at h;cases h;exact hl
  |q+1,ms,i,ms',j,h,hl=>by
   unfold QU at h;split at h
   · cases hm:QM s gC ms i with
     |error e=>rw[hm] at h;cases h
     |ok mj=>
      obtain⟨m,k⟩:=mj;rw[hm] at h
      exact zmR q (ms++[m]) k h (λy hy=>by
        rcases qJ.1 hy with hy|hy
        · exact hl y hy
        · obtain rfl:=zj.1 hy;exact zoI hm)
   · cases h;exact hl
theorem znS {s:ByteArray} {i j:Nat} {c r:Int} (h:Qx s i=.ok (c,r,j)):c<0->r=0:=by
  unfold Qx at h;split at h
  · cases h;exact λ_=>rfl
  · split at h
    · cases h
    · split at h
      · cases h;exact λ_=>rfl
      · split at h
        · cases h
        · rename_i h3
          split at h
          · cases h
          · cases h
            intro h4;exact absurd (.inr h4) h3
def zop (gC:List UInt8) (x:It):Prop:=znQ gC x.gE/\(x.cls<0->x.ref=0)
theorem zoJ {s:ByteArray} {gC:List UInt8} {line:Int} {i k:Nat} {x:It} (h:Kj s gC line i=.ok (x,k)):zop gC x:=by
  unfold Kj at h;split at h
  · cases h
  · rename_i hrh
    split at h
    · cases h
    · rename_i hm
      split at h
      · cases h
      · split at h
        · cases h
        · cases h
          exact⟨zmR _ _ _ hm (λm hm=>by cases hm),znS hrh⟩
theorem zmS {s:ByteArray} {f:Fm} {round:Bool}:∀(q:Nat) (l:List It) (i:Nat) {l':List It} {j:Nat},Kx s f round q l i=.ok (l',j)->(∀x∈l,zop f.gC x)->∀x∈l',zop f.gC x
  |0,l,i,l',j,h,hl=>by unfold Kx at h;cases h;exact hl
  |q+1,l,i,l',j,h,hl=>by
   unfold Kx at h;split at h
   · cases hi:Kj s f.gC (ZH f round l.length) (i+1) with
     |error e=>rw[hi] at h;cases h
     |ok xk=>
      obtain⟨x,k⟩:=xk;rw[hi] at h
      exact zmS q (l++[x]) k h (λy hy=>by
        rcases qJ.1 hy with hy|hy
        · exact hl y hy
        · obtain rfl:=zj.1 hy;exact zoJ hi)
   · cases h;exact hl
def zm2 (f:Fm):Prop:=∀r∈f.rows,∀x∈r.items,zop f.gC x
theorem gz {s:ByteArray} {f f':Fm} {round:Bool} {start i j:Nat} (h:Kd s f round start i=.ok (f',j)) (hf:zm2 f):zm2 f':=by
  unfold Kd at h;split at h
  · cases h
  · cases hit:Kx s f round (s.size+1) [] i with
    |error e=>rw[hit] at h;cases h
    |ok lj=>
     obtain⟨l,j'⟩:=lj;rw[hit] at h;simp only at h;have hg:=zmS _ _ _ hit (λx hx=>by cases hx);split at h
     · cases h
     · split at h
       · cases h
       · cases h
         intro r hr x hx;rcases qJ.1 hr with hr|hr
         · exact hf r hr x hx
         · obtain rfl:=zj.1 hr;exact hg x hx
theorem zoe {s:ByteArray} {f f':Fm} {i j:Nat} (hf:zm2 f) (h:Yb s f i=.ok (f',j)):zm2 f':=by
  unfold Yb at h;split at h
  · cases h
  · (repeat' split at h)<;>first|(cases h;done)|skip
    rename_i hst;cases h;have:=gz hst (λr hr x hx=>hf r hr x hx);exact λr hr x hx=>this r hr x hx
theorem znT {s:ByteArray} {f f':Fm} {i j:Nat} (h:Y2 s f i=.ok (f',j)):f'.rows=f.rows:=by
  unfold Y2 at h
  (repeat' split at h)<;>first|(cases h;done)|(cases h;exact rfl)
theorem zoK {s:ByteArray} {f f':Fm} {t:Bool} {i j:Nat} (hf:zm2 f) (h:QV s f t i=.ok (f',j)):zm2 f':=by
  unfold QV at h;split at h
  · (repeat' split at h)<;>first|(cases h;done)|(cases h;exact λr hr x hx=>hf r hr x hx)
  · split at h
    · rename_i hm
      have he:f.rows=[]:=by
        simp only[qz,yA] at hm;exact hm.2
      have hr:f'.rows=[]:=(znT h).trans he;intro r hr2;rw[hr] at hr2;cases hr2
    · split at h
      · exact zoe hf h
      · split at h
        · cases h
        · exact gz h hf
theorem us {s:ByteArray}:∀(q:Nat) (f:Fm) (t:Bool) (i:Nat) {f':Fm},zm2 f->Q1 s q f t i=.ok f'->zm2 f'
  |0,f,t,i,f',hf,h=>by unfold Q1 at h;cases h;exact hf
  |q+1,f,t,i,f',hf,h=>by
   unfold Q1 at h;split at h
   · split at h
     · cases h
     · cases h;exact hf
   · split at h
     · exact us q f t _ hf h
     · split at h
       · exact us q f t _ hf h
       · split at h
         · cases h
         · rename_i hl
           exact us q _ true _ (zoK hf hl) h
theorem zoL {s:ByteArray} {f:Fm} (h:Q2 s=.ok f):zm2 f:=by
  unfold Q2 at h;split at h
  · cases h
  · exact us _ _ _ _ (λr hr=>by cases hr) h
end Go.Proofs.YtgklikkddckgbaaGreatDoor.Mo

import Derived.Test.YtgklikkddckgbaaGreatDoorLPXC
import Derived.Deep.Cut
/- Lemmas. -/
set_option linter.all false
set_option maxRecDepth 100000
set_option maxHeartbeats 4000000
namespace Go.Proofs.YtgklikkddckgbaaGreatDoor
structure gM (m:Met):Prop where
  gO:∀f∈m.gO,va f=true
  few:m.gO.length<=16
  ends:vt m.ends 4 2 []=true
  gS:yS m.gO.length 0 m.gS=true
theorem zm7 {lg:Int} {own:List ByteArray} {v:Way}:∀(l pre:List Way),yZ lg own pre l=true->gC lg own (pre++l) v=true->yZ lg own pre (l++[v])=true
  |[],pre,_,h=>by
   rw[ku] at h;rw[jc];unfold yZ;rw[h];rfl
  |u::l,pre,h1,h=>by
   unfold yZ at h1;rw[qA] at h1;rw[kh];unfold yZ;rw[h1.1,zm7 l (pre++[u]) h1.2 (by rw[qP];exact h)];rfl
theorem zn4 {lg most:Int} {own:List ByteArray} {l:List Way} {v:Way} (h:vt l most lg own=true) (hl:(l.length:Int)+1<=most) (hv:gC lg own l v=true):vt (l++[v]) most lg own=true:=by
  unfold vt at h|-;rw[qA] at h|-;exact⟨qt (by rw[qv];simpa using hl),zm7 l [] h.2 hv⟩
theorem zps {lg c:Int} {own:List ByteArray} {l:List Way} {sg:ByteArray} (hs:QC sg 1 lg=true) (h0:0<=c) (h1:c<=1048576) (hl:vI l sg=false) (ho:uN own sg=false):gC lg own l (sg,c)=true:=by
  unfold gC;have hl':(l.any λu=>ph u.1 sg)=false:=hl;simp only[hs,qK h0,qK h1,hl',ho];rfl
theorem zoV:∀f∈Zp,QC ⟨f.2.1.toArray⟩ 1 4=true:=by decide+kernel
theorem znw {t:ByteArray} (h:(pT t).2=0):QC (pT t).1 1 4=true:=by
  unfold pT at h|-;split
  · rename_i h1;exact h1
  · rename_i h1
    rw[qx h1] at h;split
    · rename_i h2;rw[qy h2] at h;exact absurd h (by simp)
    · rename_i h2
      rw[qx h2] at h;split
      · rename_i f hf
        exact zoV f (zn hf)
      · rename_i hf
        rw[hf] at h;exact absurd h (by simp)
theorem uA {t:ByteArray} {lo hi:Int} (h:(gV t lo hi).2=0):lo<=(gV t lo hi).1/\(gV t lo hi).1<=hi:=by
  unfold gV at h|-;split
  · rename_i hn;rw[hn] at h;exact absurd h (by simp)
  · rename_i n hn
    rw[hn] at h;simp only at h;split
    · rename_i hb;rw[qy hb] at h;exact absurd h (by simp)
    · rename_i hb;simp only[];omega
theorem zpQ {sg:ByteArray} {c:Int} {all:Bool} {f:Ft} (hf:va f=true) (hs:QC sg 1 4=true) (h0:0<=c) (h1:c<=1048576) (ha:VF sg all f=false) (hl:Vo sg all f=false):va (uk sg c all f)=true:=by
  unfold uk;split
  · rename_i hc
    have hne:(all&&ph f.own sg)=false:=by
      cases all<;>cases he:ph f.own sg<;>simp_all
    unfold VF at ha;unfold Vo at hl;rw[hne] at ha hl;simp only[jN,zU,zM,decide_eq_false_iff_not] at ha hl;unfold va at hf|-;rw[qA] at hf|-;refine⟨hf.1,zn4 hf.2 ?_ (zps hs h0 h1 ha.2 ?_)⟩
    · have:=hf.2
      unfold vt at this;rw[qA,qC] at this;have QK:=this.1;have:(f.gR.length:Int)≠15:=(by omega);omega
    · unfold uN
      simp[ha.1]
  · exact hf
theorem gt {fs:List Ft} {i n:Nat} {sg:ByteArray} {c:Int} {all:Bool}:(yY fs i n sg c all).length=fs.length:=by
  unfold yY;simp only[qv,kQ,xy,zK];omega
theorem zpt {fs:List Ft} {i n:Nat} {sg:ByteArray} {c:Int} {all:Bool} (h:∀f∈fs,va f=true) (hs:QC sg 1 4=true) (h0:0<=c) (h1:c<=1048576) (hE:Xp ((fs.drop i).take n) sg all=0):∀f∈yY fs i n sg c all,va f=true:=by
  intro f hf;unfold Xp at hE;split at hE
  · exact absurd hE (by decide)
  · rename_i h2
    split at hE
    · exact absurd hE (by decide)
    · rename_i h3
      unfold yY at hf;rcases qJ.1 hf with hf|hf
      · rcases qJ.1 hf with hf|hf
        · exact h f (jp hf)
        · obtain⟨g,hg,rfl⟩:=ky.1 hf
          refine zpQ (h g (xw (jp hg))) hs h0 h1 ?_ ?_
          · have:=jh.1 (by simpa using h2) g hg
            simpa using this
          · have:=jh.1 (by simpa using h3) g hg
            simpa using this
      · exact h f (xw hf)
def RGk:Z9->Prop
  |.error _=>True
  |.ok (_,m')=>gM m'/\m'.gS=[]/\m'.ends=[]/\1<=m'.gO.length
def RWk:Z9->Prop
  |.error _=>True
  |.ok (_,m')=>gM m'/\1<=m'.gO.length
def REk:Except (Int×Nat) Met->Prop
  |.error _=>True
  |.ok m'=>vp m'=true
theorem znx {n:Int} {Z1:Nat} {L:List Tok} {m:Met} (hm:gM m) (hb:m.gS=[]) (he:m.ends=[]) (hn:1<=n):RGk (XJ n Z1 L m):=by
  unfold XJ;split
  · rename_i hf
    split
    · rename_i hl
      have hlen:(m.gO++List.replicate n.toNat (zcn (pT (hd L).2).1)).length=m.gO.length+n.toNat:=(by rw[qv,xe]);refine⟨⟨λf hf'=>?_,?_,hm.ends,?_⟩,hb,he,?_⟩
      · rcases qJ.1 hf' with hf'|hf'
        · exact hm.gO f hf'
        · have:=List.eq_of_mem_replicate hf'
          subst this;unfold va zcn;rw[znw hf];rfl
      · show(m.gO++List.replicate n.toNat (zcn (pT (hd L).2).1)).length<=16
        rw[hlen];omega
      · show yS _ 0 m.gS=true
        rw[hb];rfl
      · show 1<=(m.gO++List.replicate n.toNat (zcn (pT (hd L).2).1)).length
        rw[hlen];omega
    · trivial
  · trivial
theorem zot {L:List Tok} {m:Met} (hm:gM m) (hb:m.gS=[]) (he:m.ends=[]):RGk (Xq L m):=by
  unfold Xq;split
  · split
    · rename_i h
      exact znx hm hb he (uA h).1
    · trivial
  · exact znx hm hb he (xY _)
theorem gu:∀(f:Nat) (L:List Tok) (m:Met) (i n:Nat) (all:Bool),gM m->1<=m.gO.length->RWk (ZS f L m i n all)
  |0,_,_,_,_,_,_,_=>trivial
  |f+1,L,m,i,n,all,hm,h1=>by
   unfold ZS;split
   · rename_i Qg
     split
     · rename_i hE
       split
       · rename_i hn
         have hn:=uA hn;have hm2:gM {m with gO:=yY m.gO i n (pT (hd L).2).1 (gV (hd (gW L)).2 0 1048576).1 all}:=⟨zpt hm.gO (znw Qg) hn.1 hn.2 hE,by show(yY _ _ _ _ _ _).length<=16;rw[gt];exact hm.few,hm.ends,by show yS (yY _ _ _ _ _ _).length 0 m.gS=true;rw[gt];exact hm.gS⟩;have h2:1<=(yY m.gO i n (pT (hd L).2).1 (gV (hd (gW L)).2 0 1048576).1 all).length:=(by rw[gt];exact h1);split
         · exact gu f _ _ _ _ _ hm2 h2
         · exact⟨hm2,h2⟩
       · trivial
     · trivial
   · trivial
theorem zny:∀(f:Nat) (L:List Tok) (m:Met),gM m->1<=m.gO.length->RWk (Z2 f L m)
  |0,_,_,_,_=>trivial
  |f+1,L,m,hm,h1=>by
   unfold Z2;split
   · rename_i hsg
     split
     · trivial
     · rename_i hh
       split
       · trivial
       · rename_i h4
         split
         · rename_i hn
           have hn:=uA hn
           have hm2:gM {m with ends:=m.ends++[((hd L).2,(gV (hd (gW L)).2 0 1048576).1)]}:=⟨hm.gO,hm.few,by
             refine zn4 hm.ends ?_ (zps hsg hn.1 hn.2 (by simpa using hh) rfl);have:=hm.ends;unfold vt at this;rw[qA,qC] at this;have h4':=this.1;omega,hm.gS⟩
           split
           · exact zny f _ _ hm2 h1
           · exact⟨hm2,h1⟩
         · trivial
   · trivial
theorem znz {n:Int} {b:Int×Int}:∀(l:List (Int×Int)) (a:Int),yS n a l=true->(match l.getLast? with|none=>a|some x=>x.1)<b.1->b.1<n->1<=b.2->b.2<=1048576->yS n a (l++[b])=true
  |[],a,_,h1,h2,h3,h4=>by
   have h1':a<b.1:=h1;rw[jc];unfold yS;rw[qK h1',qK h2,qK h3,qK h4];rfl
  |x::l,a,h,h1,h2,h3,h4=>by
   unfold yS at h;rw[qA] at h;rw[kh];unfold yS;rw[h.1,znz l x.1 h.2 ?_ h2 h3 h4]
   · rfl
   · cases l with
     |nil=>exact h1
     |cons y l'=>
      rw[List.getLast?_cons_cons] at h1;cases hl:(y::l').getLast? with
      |none=>simp at hl
      |some z=>rw[hl] at h1;exact h1
theorem zou {L:List Tok} {m:Met} (hm:gM m) (h1:1<=m.gO.length):RWk (YE L m):=by
  unfold YE;split
  · rename_i ha
    have ha:=uA ha;split
    · rename_i hb
      have hb:=uA hb;refine⟨⟨hm.gO,hm.few,hm.ends,znz _ _ hm.gS ?_ ?_ hb.1 hb.2⟩,h1⟩
      · have:(match m.gS.getLast? with|none=>(0:Int)|some x=>x.1)=zag m:=rfl
        rw[this];simp only[];omega
      · simp only[]
        omega
    · trivial
  · trivial
theorem zn5 {L:List Tok} {m:Met} (hm:gM m) (h1:1<=m.gO.length):RWk (Q4 L m):=by
  unfold Q4;split
  · exact gu _ _ _ _ _ _ hm h1
  · split
    · exact zny _ _ _ hm h1
    · split
      · exact zou hm h1
      · split
        · split
          · exact gu _ _ _ _ _ _ hm h1
          · trivial
        · trivial
theorem gh:∀(f:Nat) (L:List Tok) (m:Met),gM m->1<=m.gO.length->REk (KD f L m)
  |0,_,_,_,_=>trivial
  |f+1,L,m,hm,h1=>by
   unfold KD;split
   · show vp m=true
     unfold vp;have h2:m.gO.all va=true:=zO.2 hm.gO;rw[qK h1,qK hm.few,hm.ends,h2,hm.gS];rfl
   · split
     · have hc:=zn5 (L:=gW L) hm h1
       cases h:Q4 (gW L) m with
       |error x=>trivial
       |ok x=>rw[h] at hc;exact gh f _ _ hc.1 hc.2
     · trivial
theorem gF:∀(f:Nat) (L:List Tok) (m:Met),gM m->m.gS=[]->m.ends=[]->REk (JL f L m)
  |0,_,_,_,_,_=>trivial
  |f+1,L,m,hm,hb,he=>by
   unfold JL;have hc:=zot (L:=L) hm hb he;cases h:Xq L m with
   |error x=>trivial
   |ok x=>
    rw[h] at hc;simp only[];split
    · exact gF f _ _ hc.1 hc.2.1 hc.2.2.1
    · exact gh _ _ _ hc.1 hc.2.2.2
theorem zpu {s:ByteArray} {m:Met} (h:Zs s=.ok m):vp m=true:=by
  unfold Zs at h;split at h
  · cases h
  · have:=gF (toks s 0).length (toks s 0) Met.zero ⟨(λf hf=>by cases hf),qF _,rfl,rfl⟩ rfl rfl
    rw[h] at this;exact this
end Go.Proofs.YtgklikkddckgbaaGreatDoor
namespace Go.Proofs.YtgklikkddckgbaaGreatDoor.Mo
open Go.RowKit
def vX (sign:UInt8) (n:Int):List UInt8:=if n=0 then [] else sign::Lib.itoa n
theorem zm8 (sign:UInt8) (n:Int) (h:0<=n/\n<=1000000):(vX sign n).length<=22:=by
  unfold vX;split
  · simp
  · have:=Lib.itoa_length_le n (by omega) (by omega)
    simp;omega
theorem ziD (c:UInt8) (n:Int) (w:World) (hv:Vars w) (h:0<=n/\n<=1000000):
    Calls Tryz.prog 82 #[.string ⟨#[c]⟩,.int .i64 n] w λe w'=>∃T:ByteArray,e=.returned (.string T)/\T.data.toList=vX c n/\T.size<=22/\Below w.heap.size w w':=by
  have Hi:=qh (vM n w hv (by omega) (by omega));have hl:=zm8 c n h;by_cases h0:n=0
  · have e0:(n==0)=true:=by simpa using h0
    have Hn:=qh (show vX c n=[] by unfold vX;rw[qy h0]);clear hl h0;go_enter Tryz.func82,Tryz.ntmps82;go_wp2_with fail;go_ret;exact⟨⟨#[]⟩,rfl,Hn.out.symm,by decide,qb _ _⟩
  · have e0:(n==0)=false:=by simpa using h0
    have Hn:=qh (show vX c n=c::Lib.itoa n by unfold vX;rw[qx h0]);clear hl h0;go_enter Tryz.func82,Tryz.ntmps82;go_wp2_with fail;refine Hi.out.mono ?_;rintro e w' ⟨T,rfl,hT,hsz,hb⟩;have HT:=qh hT;have Hb:=qh hb;clear hT hb Hi;go_wp2_with fail;go_ret;exact⟨_,rfl,by rw[Hn.out,qH,qL,HT.out];rfl,by rw[qR];show 1+T.size<=22;omega,Hb.out⟩
theorem zmQ (w:World) (b:UInt8) (x:Int) (hx:(b.toNat:Int)=x):Sem.run Tryz.prog (convert 25 9 (.slice (some ⟨w.heap.size,0,none⟩) 1 1)) (w.alloc (.cells #[.int .u8 x] 5))=.ok (.string ⟨#[b]⟩) (w.alloc (.cells #[.int .u8 x] 5)):=by
  subst hx;refine zz _ _ _ _ ⟨w.heap.size,0,none⟩ 1 [b] qX qV qN (λj hj=>?_);obtain rfl:j=0:=by simpa using hj
  exact qc _ _ 0 _ _ (0,0) (qn w _)
def pm (n:Nat):UInt8:=UInt8.ofNat (48+n%10)
def Kx (n0 n:Nat) (l:List UInt8):Prop:=Lib.decDigits n0=(if n<10 then [] else Lib.decDigits (n/10))++l
theorem Kx.start (n:Nat):Kx n n [pm n]:=by
  unfold Kx pm;rw[Lib.decDigits];split
  · rename_i h;rw[Nat.mod_eq_of_lt h];simp
  · rfl
theorem Kx.step {n0 n:Nat} {l:List UInt8} (h:Kx n0 n l) (hn:¬n<10):Kx n0 (n/10) (pm (n/10)::l):=by
  unfold Kx at h|-;rw[qx hn] at h;rw[h];have h2:=Kx.start (n/10);unfold Kx at h2;rw[h2,qP];rfl
theorem Kx.done {n0 n:Nat} {l:List UInt8} (h:Kx n0 n l) (hn:n<10):l=Lib.itoa (n0:Int):=by
  unfold Kx at h;rw[qy hn] at h;rw[Lib.itoa_nonneg,h];rfl
theorem zn6 (n:Nat):((pm n).toNat:Int)=48+(n:Int)%10:=by
  unfold pm;have h:(UInt8.ofNat (48+n%10)).toNat=(48+n%10)%256:=rfl;rw[h];omega
theorem gG (n:Nat) (w:World) (h:n<=1000000):
    Calls Tryz.prog 54 #[.int .i64 (n:Int)] w λe w'=>∃T:ByteArray,e=.returned (.string T)/\T.data.toList=Lib.itoa (n:Int)/\T.size<=22/\Below w.heap.size w w':=by
  have hC:=zmQ w (pm n) _ (zn6 n);have Hs:=qh (Kx.start n);have HB:Hid (∀o,Below w.heap.size w (w.alloc o)):=qh (λo=>(qb _ _).alloc (ql _) o);go_enter Tryz.func54,Tryz.ntmps54;go_wp2_with fail;clear hC;go_loopw [0,3] (λq s wr=>∃(k:Nat) (S:ByteArray),k<=1000000/\q=.int .i64 k/\s=.string S/\Hid (Kx n k S.data.toList)/\Hid (Below w.heap.size w wr)) (λq _ _=>(intOf q).toNat)
  case atStart=>exact⟨n,⟨#[pm n]⟩,h,rfl,rfl,Hs,qh (HB.out _)⟩
  case round=>
    rename World=>wr
    obtain⟨k,S,hk,rfl,rfl,hI,hb⟩:=hrel
    have hS:S.size<=21:=by
      have h1:=congrArg List.length hI.out;have h2:=Lib.itoa_length_le (n:Int) (by omega) (by omega);rw[Lib.itoa_nonneg,h1,qv] at h2;have h3:S.data.toList.length=S.size:=(by rw[qS];rfl);omega
    by_cases hlt:k<10
    · have g1:decide ((k:Int)>9)=false:=qd (by omega)
      have g2:¬9<k:=(by omega);have hd:=hI.out.done hlt;have Hd:=qh hd;clear hd;go_wp2_with fail;go_ret;exact⟨S,rfl,Hd.out,by omega,hb.out⟩
    · have g1:decide ((k:Int)>9)=true:=qt (by omega)
      have g2:9<k:=(by omega);have hC:=zmQ wr (pm (k/10)) (48+(k:Int)/10%10) (by rw[zn6];push_cast;rfl);have po:=qh (hI.out.step hlt);have hS2:¬(9223372036854775807<1+S.size):=(by omega);have HB2:Hid (∀o,Below w.heap.size w (wr.alloc o)):=qh (λo=>hb.out.alloc hb.out.size o);go_wp2_with fail;go_roundw
      case rel=>exact⟨k/10,⟨#[pm (k/10)]⟩++S,by omega,by first|(congr 1;omega)|go_num,rfl,qh (by rw[qH,qL];exact po.out),qh (HB2.out _)⟩
      case measure=>simp[intOf];omega
theorem zmR {ms:List Mk} (hk:∀m∈ms,uw m) (c:Int):0<=gY ms c/\gY ms c<=512:=by
  unfold gY;cases h:ms.find? (λm=>m.sign==c) with
  |none=>exact⟨xY _,by decide⟩
  |some x=>
   have hm:=hk x (zn h);by_cases h1:x.sign=58∨x.sign=39
   · have:=hm.lt h1;exact⟨by show 0<=x.n;omega,by show x.n<=512;omega⟩
   · have:=hm.nm (λe=>h1 (.inl e)) (λe=>h1 (.inr e));exact⟨by show 0<=x.n;omega,by show x.n<=512;omega⟩
theorem zoH {ms:List Mk} (hk:∀m∈ms,uw m):∀n∈pA ms,1<=n/\n<=512:=by
  intro n hn;obtain⟨m,hm,rfl⟩:=ky.1 hn;obtain⟨h1,h2⟩:=xB.1 hm;have e:m.sign=126:=by simpa using h2
  exact(hk m h1).nm (by omega) (by omega)
def vO (c:Int):UInt8:=JM.getD c.toNat 0
theorem uu {S:ByteArray} {l:List UInt8} (h:S.data.toList=l):S.size=l.length:=by rw[<-h,qS];rfl
theorem zn7:∀c:Nat,c<25->((⟨#[97,98,99,100,101,102,103,104,105,106,107,108,109,110,111,112,113,114,115,116,117,118,119,121,122]⟩:ByteArray).extract c (c+1)).data.toList=[vO (c:Int)]/\(vO (c:Int)).toNat<128:=by decide+kernel
def gj (x:It):List UInt8:=if 0<=x.cls then(if 0<x.ref then Lib.upperB (vO x.cls)::Lib.itoa x.ref else [vO x.cls]) else [120]
theorem zpv {ms:List Mk} (hk:∀m∈ms,uw m) (c:Int) (hc:c=58∨c=39):0<=gY ms c/\gY ms c<=122:=by
  unfold gY;cases h:ms.find? (λm=>m.sign==c) with
  |none=>exact⟨xY _,by decide⟩
  |some x=>
   have hm:=hk x (zn h);have hs:=kH h;have:=hm.lt (by rcases hc with rfl|rfl;exact .inl (by simpa using hs);exact .inr (by simpa using hs));exact⟨by show 0<=x.n;omega,this.2⟩
theorem ztD {ms:List Mk} (hk:∀m∈ms,uw m):((UInt8.ofNat (gY ms 58).toNat).toNat:Int)=gY ms 58:=by
  have h:=zpv hk 58 (.inl rfl);have e:(UInt8.ofNat (gY ms 58).toNat).toNat=(gY ms 58).toNat%256:=rfl;rw[e];omega
def znk (l:List Int):List UInt8:=l.flatMap (vX 126)
theorem zoW (l:List Int) (k:Nat) (hk:k<l.length):znk (l.take (k+1))=znk (l.take k)++vX 126 (l.getD k 0):=by
  unfold znk;rw[qE hk,kw];simp[qj,hk]
def znL (ms:List Mk):List UInt8:=if gY ms 39=0 then [] else [39,UInt8.ofNat (gY ms 39).toNat]
theorem zoX:∀n:Nat,n<128->(Utf8.encode (n:Int)).data.toList=[UInt8.ofNat n]:=by decide+kernel
def znl (gN:List UInt8) (ms:List Mk):List UInt8:=if 0<=ZL gN ms then [58,UInt8.ofNat (gY ms 58).toNat] else []
def gm (gN:List UInt8) (x:It):List UInt8:=gj x++(znl gN x.gP++(vX 47 (gY x.gP 47)++(vX 94 (gY x.gP 94)++(vX 64 (gY x.gP 64)++(znk (pA x.gP)++znL x.gP)))))
theorem ub {w w':World} {b:Nat} {o:Obj} (h:w.heap[b]?=some o) (hb:Below w.heap.size w w'):w'.heap[b]?=some o:=(hb.block b (qg h).1).trans h
theorem yU {A W2 W3:World} (h:Below A.heap.size A W2) (h2:Below W2.heap.size W2 W3):Below A.heap.size A W3:=h.trans (h2.mono h.size)
theorem zoY (gN:List UInt8) (x:It) (B:Nat) (vh:Value) (w:World) (hv:Vars w) (hx:uy x) (hh:w.ownsRow B 3 1 vh (pA x.gP).length (vY (pA x.gP))):
    Calls Tryz.prog 51 #[.agg (Qs gN x.cls x.ref x.gP x.at_ vh)] w λe w'=>∃T:ByteArray,e=.returned (.string T)/\T.data.toList=gm gN x/\Below w.heap.size w w':=by
  obtain⟨cls,ref,ms,at_⟩:=x;have hcl:=hx.cl;have hrf:=hx.rf;have hmk:=hx.mks;have zrS:(pA ms).length<=4:=by rw[zfL];exact hx.four
  simp only[] at hcl hrf hmk hh|-;obtain⟨Ah,ch,rfl,_,rh⟩:=zdO hh;have Hrh:=qh rh;obtain⟨W1,hW1⟩:∃W1,w.alloc (.cells (Qs gN cls ref ms at_ (.slice Ah (pA ms).length ch)) 108)=W1:=⟨_,rfl⟩;have hb1:Below w.heap.size w W1:=by rw[<-hW1];exact(qb _ _).alloc (ql _) _
  have hx1:W1.heap[w.heap.size]?=some (.cells (Qs gN cls ref ms at_ (.slice Ah (pA ms).length ch)) 108 (0,0)):=by rw[<-hW1];exact qn w _
  have VD:=qh (λW (hb:Below W1.heap.size W1 W)=>hv.below (yU hb1 hb) hv.six);have HW1:=qh hW1;have Hb1:=qh hb1;have Hx1:=qh hx1;have VM:=qh hmk;have q0:W1.cell? ⟨w.heap.size,0,none⟩=some (.int .i64 cls):=qc _ _ 0 _ _ (0,0) hx1;have q1:W1.cell? ⟨w.heap.size,1,none⟩=some (.int .i64 ref):=qc _ _ 1 _ _ (0,0) hx1;have hwb:w.heap.size<W1.heap.size:=(qg hx1).1;clear rh hh hx hv hW1 hb1 hx1 hmk;unfold Qs at HW1|-;go_enter Tryz.func51,Tryz.ntmps51;go_upto_region 2 with(fail)
  rw[HW1.out];go_upto_if 11 with(fail)
  go_cut [3] from 11 to 26 (λv3 wx=>∃S:ByteArray,v3=.string S/\Hid (S.data.toList=gj ⟨cls,ref,ms,at_⟩/\S.size<=30)/\Hid (Below W1.heap.size W1 wx))
  case first=>
    by_cases h0:0<=cls
    · have g0:decide (cls>=0)=true:=qt h0
      obtain⟨c,rfl⟩:∃c:Nat,cls=(c:Int):=⟨cls.toNat,by omega⟩;obtain⟨hl1,hl2⟩:=zn7 c (by omega);have Hl:=qh (qY hl1 hl2);have Qe:Hid (gj ⟨c,ref,ms,at_⟩=(if 0<ref then Lib.upperB (vO (c:Int))::Lib.itoa ref else [vO (c:Int)])):=qh (by unfold gj;exact qy h0);have c25:c<25:=(by omega);clear hl1 hl2 h0 hcl;by_cases h1:0<ref
      · have g1:decide (ref>0)=true:=qt h1
        rw[qy h1] at Qe
        have HU:Hid (∀W,Calls Tryz.prog 81 #[.string ((⟨#[97,98,99,100,101,102,103,104,105,106,107,108,109,110,111,112,113,114,115,116,117,118,119,121,122]⟩:ByteArray).extract c (c+1))] W λe w'=>∃U:ByteArray,e=.returned (.string U)/\U.data.toList=[Lib.upperB (vO (c:Int))]/\U.size=1/\Below W.heap.size W w'):=qh (λW=>by
          refine(Tryz.strings_ToUpper_ascii _ W ?_ ?_).mono ?_
          · rw[kV];simp;omega
          · intro j b hb
            rw[Hl.out.1] at hb
            have:b=vO (c:Int):=by
              cases j with
              |zero=>simpa using hb.symm
              |succ j=>simp at hb
            rw[this];exact Hl.out.2
          · rintro e w' ⟨rfl,hb⟩
            refine⟨_,rfl,?_,?_,hb⟩
            · show Lib.toUpperA _=_
              rw[Hl.out.1];rfl
            · show(Lib.toUpperA _).toArray.size=1
              rw[Hl.out.1];rfl)
        have HI:Hid (∀W,Below W1.heap.size W1 W->Calls Tryz.prog 50 #[.int .i64 ref] W λe w'=>∃T:ByteArray,e=.returned (.string T)/\T.data.toList=Lib.itoa ref/\T.size<=21/\Below W.heap.size W w'):=qh (λW hb=>vM ref W (VD.out W hb) (by omega) (by omega));go_wp2_with fail;go_region_held3 (λw'=>Below W1.heap.size W1 w'/\∀b o,b<W1.heap.size->w'.cell? ⟨b,o,none⟩=W1.cell? ⟨b,o,none⟩) (((repeat (apply JK;assumption));exact pa)) (first|(go_at_call 81;refine(HU.out _).mono ?_;rintro e w9 ⟨U,rfl,hU,hUs,pb⟩;have HU9:=qh (qY hU hUs);clear hU hUs)|(go_at_call 50;refine(HI.out _ (by first|exact pa.1|exact qZ (by assumption))).mono ?_;rintro e w9 ⟨T,rfl,hT,hTs,pb⟩;have HT9:=qh (qY hT hTs);have hUT:¬(9223372036854775807<U.size+T.size):=(by have:=HU9.out.2;omega);clear hT hTs))
        have Zl:Below W1.heap.size W1 w9:=qZ (by assumption);have Va:=qh Zl;clear pb Zl;go_wp2_with fail;go_meet
        exact⟨_,rfl,qh ⟨by rw[Qe.out,qH,qL,HU9.out.1,HT9.out.1];rfl,by rw[qR,HU9.out.2];have:=HT9.out.2;omega⟩,Va⟩
      · have g1:decide (ref>0)=false:=qd h1
        rw[qx h1] at Qe;go_wp2_with fail;go_meet
        exact⟨_,rfl,qh ⟨by rw[Qe.out];exact Hl.out.1,by rw[uu Hl.out.1];simp⟩,qh (qb _ _)⟩
    · have g0:decide (cls>=0)=false:=qd h0
      have Qe:Hid (gj ⟨cls,ref,ms,at_⟩=[120]):=qh (by unfold gj;exact qx h0);go_wp2_with fail;go_meet
      exact⟨_,rfl,qh ⟨by rw[Qe.out],by decide⟩,qh (qb _ _)⟩
  case rest=>
  obtain⟨S,rfl,hS,Za⟩:=hcut;have HxA:=qh (ub Hx1.out Za.out);clear q0 q1;have q2:wc.cell? ⟨w.heap.size,2,none⟩=some (.int .i64 (ZL gN ms)):=qc _ _ 2 _ _ (0,0) HxA.out;have q3:wc.cell? ⟨w.heap.size,3,none⟩=some (.int .u8 (gY ms 58)):=qc _ _ 3 _ _ (0,0) HxA.out;go_upto_if 29 with(fail)
  go_cut [3] from 29 to 36 (λv3 wx=>∃S':ByteArray,v3=.string S'/\Hid (S'.data.toList=S.data.toList++znl gN ms/\S'.size<=32)/\Hid (Below W1.heap.size W1 wx))
  case first=>
    by_cases h0:0<=ZL gN ms
    · have g0:decide (ZL gN ms>=0)=true:=qt h0
      have Hm:=qh (show znl gN ms=[58,UInt8.ofNat (gY ms 58).toNat] by unfold znl;exact qy h0);have hn:=ztD VM.out;have hC:=zmQ wc (UInt8.ofNat (gY ms 58).toNat) (gY ms 58) hn;have hsz:¬(9223372036854775807<S.size+(1+1)):=(by have:=hS.out.2;omega);have HB2:Hid (∀o,Below W1.heap.size W1 (wc.alloc o)):=qh (λo=>Za.out.alloc Za.out.size o);clear hn;go_wp2_with fail;go_meet
      exact⟨_,rfl,qh ⟨by rw[Hm.out];simp only[qH,qL];rfl,by simp only[qR];have:=hS.out.2;show S.size+(1+1)<=32;omega⟩,qh (HB2.out _)⟩
    · have g0:decide (ZL gN ms>=0)=false:=qd h0
      have Hm:=qh (show znl gN ms=[] by unfold znl;exact qx h0);have h0b:ZL gN ms<0:=(by omega);go_wp2_with fail;go_meet
      exact⟨_,rfl,qh ⟨by rw[Hm.out];simp,by have:=hS.out.2;omega⟩,Za⟩
  case rest=>
  obtain⟨S2,rfl,hS2,hbB⟩:=hcut;obtain⟨wB,hwB⟩:∃W:World,W=wc:=⟨_,rfl⟩;subst hwB;have HxB:=qh (ub Hx1.out hbB.out);clear q2 q3;have hlt:w.heap.size<wB.heap.size:=(qg HxB.out).1;have q4:wB.cell? ⟨w.heap.size,4,none⟩=some (.int .i64 (gY ms 47)):=qc _ _ 4 _ _ (0,0) HxB.out;have q5:wB.cell? ⟨w.heap.size,5,none⟩=some (.int .i64 (gY ms 94)):=qc _ _ 5 _ _ (0,0) HxB.out;have q6:wB.cell? ⟨w.heap.size,6,none⟩=some (.int .i64 (gY ms 64)):=qc _ _ 6 _ _ (0,0) HxB.out;have H47:Hid (∀W,Below wB.heap.size wB W->Calls Tryz.prog 82 #[.string ⟨#[47]⟩,.int .i64 (gY ms 47)] W λe w'=>∃T:ByteArray,e=.returned (.string T)/\T.data.toList=vX 47 (gY ms 47)/\T.size<=22/\Below W.heap.size W w'):=qh (λW hb=>ziD 47 _ W (VD.out W (yU hbB.out hb)) (by have:=zmR VM.out 47;omega));have H94:Hid (∀W,Below wB.heap.size wB W->Calls Tryz.prog 82 #[.string ⟨#[94]⟩,.int .i64 (gY ms 94)] W λe w'=>∃T:ByteArray,e=.returned (.string T)/\T.data.toList=vX 94 (gY ms 94)/\T.size<=22/\Below W.heap.size W w'):=qh (λW hb=>ziD 94 _ W (VD.out W (yU hbB.out hb)) (by have:=zmR VM.out 94;omega));have H64:Hid (∀W,Below wB.heap.size wB W->Calls Tryz.prog 82 #[.string ⟨#[64]⟩,.int .i64 (gY ms 64)] W λe w'=>∃T:ByteArray,e=.returned (.string T)/\T.data.toList=vX 64 (gY ms 64)/\T.size<=22/\Below W.heap.size W w'):=qh (λW hb=>ziD 64 _ W (VD.out W (yU hbB.out hb)) (by have:=zmR VM.out 64;omega));generalize h47g:gY ms 47=n47 at*;have E47:=qh h47g;clear h47g;generalize h94g:gY ms 94=n94 at*;have E94:=qh h94g;clear h94g;generalize h64g:gY ms 64=n64 at*;have E64:=qh h64g;clear h64g;go_upto_region 9 with(fail)
  go_cut [3] from 37 to 49 (λv3 wx=>∃S':ByteArray,v3=.string S'/\Hid (S'.data.toList=S2.data.toList++(vX 47 (n47)++(vX 94 (n94)++vX 64 (n64)))/\S'.size<=100)/\Hid (Below W1.heap.size W1 wx))
  case first=>
    go_region_held3 (λw'=>Below wB.heap.size wB w'/\∀b o,b<wB.heap.size->w'.cell? ⟨b,o,none⟩=wB.cell? ⟨b,o,none⟩) (((repeat (apply JK;assumption));exact pa)) (first|(go_at_call 82;with_reducible refine(H47.out _ (by first|exact pa.1|exact qZ (by assumption))).mono ?_;rintro e w9 ⟨Ta,rfl,hTa,Vi,pb⟩;have Vj:=qh (qY hTa Vi);clear hTa Vi)|(go_at_call 82;with_reducible refine(H94.out _ (by first|exact pa.1|exact qZ (by assumption))).mono ?_;rintro e w9 ⟨Tb,rfl,hTb,Vk,pb⟩;have HTb:=qh (qY hTb Vk);have hab:¬(9223372036854775807<Ta.size+Tb.size):=(by have:=Vj.out.2;have:=HTb.out.2;omega);clear hTb Vk)|(go_at_call 82;with_reducible refine(H64.out _ (by first|exact pa.1|exact qZ (by assumption))).mono ?_;rintro e w9 ⟨Tc,rfl,hTc,Vl,pb⟩;have HTc:=qh (qY hTc Vl);have habc:¬(9223372036854775807<Ta.size+Tb.size+Tc.size):=(by have:=Vj.out.2;have:=HTb.out.2;have:=HTc.out.2;omega);have p9:¬(9223372036854775807<S2.size+(Ta.size+Tb.size+Tc.size)):=(by have:=hS2.out.2;have:=Vj.out.2;have:=HTb.out.2;have:=HTc.out.2;omega);clear hTc Vl))
    have Zl:Below wB.heap.size wB w9:=qZ (by assumption);have Va:=qh (yU hbB.out Zl);clear pb Zl;go_wp2_with fail;go_meet
    exact⟨_,rfl,qh ⟨by simp only[qH,qL,Vj.out.1,HTb.out.1,HTc.out.1,qP],by simp only[qR];have:=hS2.out.2;have:=Vj.out.2;have:=HTb.out.2;have:=HTc.out.2;omega⟩,Va⟩
  case rest=>
  obtain⟨S3,rfl,p9,hbC⟩:=hcut;obtain⟨wC,hwC⟩:∃W:World,W=wc:=⟨_,rfl⟩;subst hwC;have HxC:=qh (ub Hx1.out hbC.out);clear q4 q5 q6 hlt H47 H94 H64;have q7:wC.cell? ⟨w.heap.size,7,none⟩=some (.slice Ah (pA ms).length ch):=qc _ _ 7 _ _ (0,0) HxC.out;have QN:=qh (zoH VM.out);generalize hhs:pA ms=hs at*;have Ehs:=qh hhs;clear hhs;go_wp2_with fail;clear q7;go_loopw [3,6,53] (λv3 v6 q wr=>∃(k:Nat) (S':ByteArray),k<=hs.length/\q=.int .i64 k/\v3=.string S'/\Hid (S'.data.toList=S3.data.toList++znk (hs.take k)/\S'.size<=100+22*k)/\Hid (Below W1.heap.size W1 wr)) (λ_ _ q _=>hs.length-(intOf q).toNat)
  case atStart=>exact⟨0,S3,qF _,rfl,rfl,qh ⟨by simp[znk],by have:=p9.out.2;omega⟩,hbC⟩
  case round=>
    rename World=>wr
    obtain⟨k,S',hk,rfl,rfl,hS',hbr⟩:=hrel;by_cases hlt:k<hs.length
    · obtain⟨g,rfl,hg,hc⟩:=Hrh.out (by omega)
      have q0:=((yU Hb1.out hbr.out).cell (p:=⟨g,k,none⟩) hg).trans (hc k hlt);have hn:=QN.out (hs.getD k 0) (by rw[qj,qz hlt];exact qM hlt);have Zk:=qh (zoW hs k hlt);clear hc;generalize hs.getD k 0=n at*;have pE:=qh (ziD 126 n wr (VD.out wr hbr.out) (by omega));go_wp2_with fail;refine pE.out.mono ?_;rintro e w9 ⟨T,rfl,hT,hTs,pb⟩;have hsz:¬(9223372036854775807<S'.size+T.size):=(by have:=hS'.out.2;omega);have HT:=qh (qY hT hTs);have pP:=qh (yU hbr.out pb);clear hT hTs pb pE;go_wp2_with fail;go_roundw
      case rel=>exact⟨k+1,S'++T,by omega,by go_num,rfl,qh ⟨by rw[qH,qL,hS'.out.1,HT.out.1,Zk.out,qP],by rw[qR];have:=hS'.out.2;have:=HT.out.2;omega⟩,pP⟩
      case measure=>simp[intOf];omega
    · obtain rfl:k=hs.length:=by omega
      rw[qU] at hS';have HxD:=qh (ub Hx1.out hbr.out);have q8:wr.cell? ⟨w.heap.size,8,none⟩=some (.int .i32 (gY ms 39)):=qc _ _ 8 _ _ (0,0) HxD.out;have h39:=zpv VM.out 39 (.inr rfl);by_cases h0:gY ms 39=0
      · have g0:(gY ms 39==0)=true:=by simpa using h0
        have g1:(gY ms 39 !=0)=false:=(by simp[h0]);have Hbg:=qh (show znL ms=[] by unfold znL;exact qy h0);have gT:=qh (yU Hb1.out hbr.out);go_wp2_with fail;go_ret
        exact⟨S',rfl,by
          rw[hS'.out.1,p9.out.1,hS2.out.1,hS.out.1];unfold gm;simp only[];rw[Hbg.out,E47.out,E94.out,E64.out,Ehs.out];simp[qP],gT.out⟩
      · have g0:(gY ms 39==0)=false:=by simpa using h0
        have g1:(gY ms 39 !=0)=true:=(by simpa using h0);have Hbg:=qh (show znL ms=[39,UInt8.ofNat (gY ms 39).toNat] by unfold znL;exact qx h0);obtain⟨n39,ztd⟩:∃n:Nat,gY ms 39=(n:Int):=⟨(gY ms 39).toNat,by omega⟩;have he:=zoX n39 (by omega);rw[<-ztd] at he;have hes:=uu he;have hz1:¬(9223372036854775807<1+(Utf8.encode (gY ms 39)).size):=(by rw[hes];show¬(9223372036854775807<1+1);omega);have hz2:¬(9223372036854775807<S'.size+(1+(Utf8.encode (gY ms 39)).size)):=(by rw[hes];have:=hS'.out.2;simp only[qB,qG];omega);have He:=qh (show(Utf8.encode (gY ms 39)).data.toList=[UInt8.ofNat (gY ms 39).toNat] by rw[he,ztd];rfl);have gT:=qh (yU Hb1.out hbr.out);clear he hes ztd;go_wp2_with fail;go_ret
        exact⟨_,rfl,by
          simp only[qH,qL,He.out];rw[hS'.out.1,p9.out.1,hS2.out.1,hS.out.1];unfold gm;simp only[];rw[Hbg.out,E47.out,E94.out,E64.out,Ehs.out];simp[qP],gT.out⟩
def mkT (m:Mk):List UInt8:=if m.sign=58∨m.sign=39 then [UInt8.ofNat m.sign.toNat,UInt8.ofNat m.n.toNat] else UInt8.ofNat m.sign.toNat::Lib.itoa m.n
def XP (ms:List Mk) (c:Int):List UInt8:=(ms.filter λm=>m.sign==c).flatMap mkT
theorem gH (p:Mk->Bool):∀ms:List Mk,ms.countP p<=1->ms.filter p=(match ms.find? p with|some m=>[m]|none=>[])
  |[],_=>rfl
  |m::ms,h=>by
   by_cases hm:p m=true
   · rw[List.filter_cons_of_pos hm,List.find?_cons_of_pos hm]
     rw[List.countP_cons_of_pos hm] at h;have h0:ms.countP p=0:=(by omega);rw[List.countP_eq_zero] at h0;simp only[];congr 1
     exact List.filter_eq_nil_iff.2 h0
   · rw[List.filter_cons_of_neg hm,List.find?_cons_of_neg hm]
     rw[List.countP_cons_of_neg hm] at h;exact gH p ms h
theorem uS {ms:List Mk} {c:Int} (h:pO ms c<=1):(ms.filter λm=>m.sign==c)=(match ms.find? (λm=>m.sign==c) with|some m=>[m]|none=>[]):=gH _ ms h
theorem zov {ms:List Mk} (hk:∀m∈ms,uw m) {c:Int} (b:UInt8) (hb:UInt8.ofNat c.toNat=b) (JV:c≠58) (h39:c≠39) (h:pO ms c<=1):XP ms c=vX b (gY ms c):=by
  unfold XP gY;rw[uS h];cases hf:ms.find? (λm=>m.sign==c) with
  |none=>rfl
  |some m=>
   have hs:m.sign=c:=(by simpa using kH hf);have hm:=(hk m (zn hf)).nm (by rw[hs];exact JV) (by rw[hs];exact h39);simp only[kK,yy,ku];unfold mkT vX;rw[qx (by rw[hs];omega),qx (by omega),hs,hb]
theorem zte {ms:List Mk} (hk:∀m∈ms,uw m):XP ms 126=znk (pA ms):=by
  unfold XP znk pA;rw[List.flatMap_map]
  have:∀l:List Mk,(∀m∈l,uw m/\m.sign=126)->l.flatMap mkT=l.flatMap λm=>vX 126 m.n:=λl=>by
    induction l with
    |nil=>intro _;rfl
    |cons m l ih=>
     intro hl;obtain⟨h1,h2⟩:=hl m (by simp);rw[kK,kK,ih (λq hq=>hl q (by simp[hq]))];congr 1
     have:=h1.nm (by omega) (by omega);unfold mkT vX;rw[qx (by omega),qx (by omega),h2];rfl
  refine this _ (λm hm=>?_);obtain⟨h1,h2⟩:=xB.1 hm;exact⟨hk m h1,by simpa using h2⟩
theorem ztf {ms:List Mk} (hk:∀m∈ms,uw m) (h:pO ms 39<=1):XP ms 39=znL ms:=by
  unfold XP znL gY;rw[uS h];cases hf:ms.find? (λm=>m.sign==39) with
  |none=>rfl
  |some m=>
   have hs:m.sign=39:=(by simpa using kH hf);have hm:=(hk m (zn hf)).lt (.inr hs);simp only[kK,yy,ku];unfold mkT;rw[qy (.inr hs),qx (by omega),hs];rfl
def zn8 (gN:List UInt8) (ms:List Mk):Prop:=∀m∈ms,m.sign=58->0<=Lib.indexByte gN m.n.toNat.toUInt8
theorem ztg {gN:List UInt8} {ms:List Mk} (hl:zn8 gN ms) (h:pO ms 58<=1):XP ms 58=znl gN ms:=by
  unfold XP znl ZL gY;rw[uS h];cases hf:ms.find? (λm=>m.sign==58) with
  |none=>rfl
  |some m=>
   have hs:m.sign=58:=(by simpa using kH hf);have hm:=hl m (zn hf) hs;simp only[kK,yy,ku];unfold mkT;rw[qy (.inl hs),qy hm,hs];rfl
def zm9 (x:It):List UInt8:=gj x++(XP x.gP 58++(XP x.gP 47++(XP x.gP 94++(XP x.gP 64++(XP x.gP 126++XP x.gP 39)))))
theorem zow {gN:List UInt8} {x:It} (hx:uy x) (hl:zn8 gN x.gP):zm9 x=gm gN x:=by
  unfold zm9 gm;rw[ztg hl (hx.one 58 (by decide)),zov hx.mks 47 rfl (by decide) (by decide) (hx.one 47 (by decide)),zov hx.mks 94 rfl (by decide) (by decide) (hx.one 94 (by decide)),zov hx.mks 64 rfl (by decide) (by decide) (hx.one 64 (by decide)),zte hx.mks,ztf hx.mks (hx.one 39 (by decide))]
def Ul:List Int:=[58,47,94,64,126,39]
def uJ (x:It) (i k:Nat):List UInt8:=gj x++((Ul.take i).flatMap (XP x.gP)++XP (x.gP.take k) (Ul.getD i 0))
theorem zox (c:Int):XP [] c=[]:=rfl
theorem zoy (x:It):uJ x 0 0=gj x:=by unfold uJ;simp[zox]
theorem zoZ (x:It) (i:Nat) (h:i<6):uJ x i x.gP.length=uJ x (i+1) 0:=by
  unfold uJ;have h':i<Ul.length:=h;rw[qE h',kw,List.take_zero,zox,qU];simp[qj,h']
theorem zo0 (x:It):uJ x 6 0=zm9 x:=by
  unfold uJ zm9;simp[zox,Ul]
theorem zpR (ms:List Mk) (c:Int) (k:Nat) (h:k<ms.length):XP (ms.take (k+1)) c=XP (ms.take k) c++(if(ms.getD k ZQ).sign=c then mkT (ms.getD k ZQ) else []):=by
  unfold XP;have e:ms.getD k ZQ=ms[k]:=by simp[qj,h]
  rw[qE h,xM,kw,e];congr 1
  by_cases hc:ms[k].sign=c
  · rw[qy hc,List.filter_cons_of_pos (by simpa using hc)];simp
  · rw[qx hc,List.filter_cons_of_neg (by simpa using hc)];rfl
theorem zo1 (x:It) (i k:Nat) (h:k<x.gP.length):uJ x i (k+1)=uJ x i k++(if(x.gP.getD k ZQ).sign=Ul.getD i 0 then mkT (x.gP.getD k ZQ) else []):=by
  unfold uJ;rw[zpR _ _ _ h,qP,qP]
theorem gI:∀ms:List Mk,(∀m∈ms,uw m)->ms.length<=pO ms 58+pO ms 47+pO ms 94+pO ms 64+pO ms 126+pO ms 39
  |[],_=>qF _
  |m::ms,h=>by
   have ih:=gI ms (λq hq=>h q (by simp[hq]));have hs:=(h m (by simp)).sg;unfold pO at ih|-;simp only[yw,qB];rcases hs with e|e|e|e|e|e<;>simp[e]<;>omega
theorem zoz {x:It} (h:uy x):x.gP.length<=9:=by
  have h1:=gI x.gP h.mks;have:=h.one 58 (by decide);have:=h.one 47 (by decide);have:=h.one 94 (by decide);have:=h.one 64 (by decide);have:=h.one 39 (by decide);have:=h.four;omega
structure NmF (s:ByteArray) (f:Fm):Prop where
  nm:f.name.length<=s.size
  met:∀m∈f.gQ,vp m=true
theorem zna {s:ByteArray} {f f':Fm} {round:Bool} {start i j:Nat} (h:Kd s f round start i=.ok (f',j)) (hf:NmF s f):NmF s f':=by
  unfold Kd at h;split at h
  · cases h
  · cases hit:Ka s f round (s.size+1) [] i with
    |error e=>rw[hit] at h;cases h
    |ok lj=>
     rw[hit] at h;simp only at h;split at h
     · cases h
     · split at h
       · cases h
       · cases h
         exact⟨hf.nm,hf.met⟩
theorem zo2 {s:ByteArray} {f f':Fm} {i j:Nat} (hf:NmF s f) (h:XW s f i=.ok (f',j)):NmF s f':=by
  unfold XW at h;split at h
  · cases h
  · (repeat' split at h)<;>first|(cases h;done)|skip
    rename_i hst;cases h;have:=zna hst ⟨hf.nm,hf.met⟩;exact⟨this.nm,this.met⟩
theorem zo3 {s:ByteArray} {f f':Fm} {i j:Nat} (hf:NmF s f) (h:YF s f i=.ok (f',j)):NmF s f':=by
  unfold YF at h
  (repeat' split at h)<;>first|(cases h;done)|skip
  rename_i hr;cases h;refine⟨hf.nm,λm hm=>?_⟩;rcases qJ.1 hm with hm|hm
  · exact hf.met m hm
  · obtain rfl:=zj.1 hm;exact zpu hr
theorem zpw {s:ByteArray} {f f':Fm} {t:Bool} {i j:Nat} (hf:NmF s f) (h:QZ s f t i=.ok (f',j)):NmF s f':=by
  unfold QZ at h;split at h
  · (repeat' split at h)<;>first|(cases h;done)|skip
    cases h;refine⟨?_,hf.met⟩;show(yM s _ _).length<=s.size;unfold yM;have:s.data.toList.length=s.size:=(by rw[qS];rfl);rw[kQ,zK];omega
  · split at h
    · exact zo3 hf h
    · split at h
      · exact zo2 hf h
      · split at h
        · cases h
        · exact zna h hf
theorem uD {s:ByteArray}:∀(q:Nat) (f:Fm) (t:Bool) (i:Nat) {f':Fm},NmF s f->Q8 s q f t i=.ok f'->NmF s f'
  |0,f,t,i,f',hf,h=>by unfold Q8 at h;cases h;exact hf
  |q+1,f,t,i,f',hf,h=>by
   unfold Q8 at h;split at h
   · split at h
     · cases h
     · cases h;exact hf
   · split at h
     · exact uD q f t _ hf h
     · split at h
       · exact uD q f t _ hf h
       · split at h
         · cases h
         · rename_i hl
           exact uD q _ true _ (zpw hf hl) h
theorem zpx {s:ByteArray} {f:Fm} (h:Kz s=.ok f):NmF s f/\s.size<=65536:=by
  unfold Kz at h;split at h
  · cases h
  · exact⟨uD _ _ _ _ ⟨qF _,λm hm=>by cases hm⟩ h,by omega⟩
def zoI:List UInt8:=[102,111,114,109,32]
def zpy:List UInt8:=[109,101,116,114,101,32]
def znM:List UInt8:=[114,111,117,110,100,32]
def zpS:List UInt8:=[115,116,97,110,122,97]
def zth (c:UInt8) (m:Met):List UInt8:=zpy++([c]++([32]++(vV m++[10])))
def ud (gN:List UInt8) (ms:List Met) (k:Nat):List UInt8:=(List.range k).flatMap λj=>zth (gN.getD j 0) (ms.getD j yO)
def znb (gN:List UInt8) (l:List It) (k:Nat):List UInt8:=(List.range k).flatMap λj=>32::gm gN (l.getD j px)
def uv (f:Fm) (r:Bool):List UInt8:=if r then znM++(Lib.itoa f.least++([32]++(Lib.itoa f.most++([32]++Lib.itoa f.shift)))) else zpS
def zqg (f:Fm) (r:Rw):List UInt8:=uv f r.round++(znb f.gN r.items r.items.length++[10])
def vz (f:Fm) (k:Nat):List UInt8:=(List.range k).flatMap λj=>zqg f (f.rows.getD j ⟨false,[]⟩)
def gv (f:Fm):List UInt8:=zoI++(f.name++[10])
def gn (f:Fm):List UInt8:=gv f++(ud f.gN f.gQ f.gQ.length++vz f f.rows.length)
theorem uT (gN:List UInt8) (ms:List Met) (k:Nat):ud gN ms (k+1)=ud gN ms k++zth (gN.getD k 0) (ms.getD k yO):=by
  unfold ud;rw[kI,kw];simp
theorem gx (gN:List UInt8) (l:List It) (k:Nat):znb gN l (k+1)=znb gN l k++(32::gm gN (l.getD k px)):=by
  unfold znb;rw[kI,kw];simp
theorem uU (f:Fm) (k:Nat):vz f (k+1)=vz f k++zqg f (f.rows.getD k ⟨false,[]⟩):=by
  unfold vz;rw[kI,kw];simp
theorem zpz {x:It} (h:uy x):(gj x).length<=22:=by
  unfold gj;split
  · split
    · have:=Lib.itoa_length_le x.ref (by have:=h.rf;omega) (by have:=h.rf;omega)
      simp only[qB];omega
    · simp
  · simp
theorem zpA {l:List Int} (h:∀n∈l,1<=n/\n<=512):(znk l).length<=22*l.length:=by
  induction l with
  |nil=>exact qF _
  |cons a l ih=>
   have h1:=ih λn hn=>h n (by simp[hn]);have h2:=zm8 126 a (by have:=h a (by simp);omega);unfold znk at h1|-;rw[kK,qv,qB];omega
theorem gy {gN:List UInt8} {x:It} (h:uy x):(gm gN x).length<=200:=by
  unfold gm;have h1:=zpz h;have h2:(znl gN x.gP).length<=2:=by unfold znl;split<;>simp
  have hn:∀(b:UInt8) (c:Int),(vX b (gY x.gP c)).length<=22:=λb c=>zm8 b _ (by have:=zmR h.mks c;omega);have h3:=hn 47 47;have h4:=hn 94 94;have h5:=hn 64 64;have h6:=zpA (zoH h.mks);have h7:(pA x.gP).length<=4:=by rw[zfL];exact h.four
  have h8:(znL x.gP).length<=2:=by unfold znL;split<;>simp
  simp only[qv];omega
theorem gp {gN:List UInt8} {l:List It} (h:∀x∈l,uy x):∀k,k<=l.length->(znb gN l k).length<=k*201
  |0,_=>qF _
  |k+1,hk=>by
   have ih:=gp (gN:=gN) h k (by omega);have h1:=gy (gN:=gN) (h (l.getD k px) (by rw[qj,qz (by omega)];exact qM _));rw[gx,qv,qB];omega
theorem uV {m:Met} (h:vp m=true):(vV m).length<=16000:=by
  have hp:=znr h;have h1:=uB hp m.gO.length 0;have h2:=vL hp m.gO.length (ql _);have h3:=gq hp;have h4:=um hp m.gS.length (ql _);have h5:=hp.gO;have h6:=hp.zqe;unfold vV;simp only[qv];omega
theorem gz {gN:List UInt8} {ms:List Met} (h:∀m∈ms,vp m=true):∀k,k<=ms.length->(ud gN ms k).length<=k*16010
  |0,_=>qF _
  |k+1,hk=>by
   have ih:=gz (gN:=gN) h k (by omega);have h1:=uV (h (ms.getD k yO) (by rw[qj,qz (by omega)];exact qM _));rw[uT,qv];unfold zth;simp only[qv,zpy,qB,qG];omega
theorem gA {f:Fm} {i:Nat} (h:pq f i) (r:Bool):(uv f r).length<=100:=by
  have h1:=Lib.itoa_length_le f.least (by have:=h.l0;omega) (by have:=h.l0;omega);have h2:=Lib.itoa_length_le f.most (by have:=h.m0;omega) (by have:=h.m0;omega);have h3:=Lib.itoa_length_le f.shift (by have:=h.s0;omega) (by have:=h.s0;omega);unfold uv;split
  · simp only[qv,znM,qB,qG];omega
  · decide
theorem zpB {f:Fm} {i:Nat} (h:pq f i) (k:Nat) (hk:k<f.rows.length):(zqg f (f.rows.getD k ⟨false,[]⟩)).length<=101+(f.rows.getD k ⟨false,[]⟩).items.length*201:=by
  have h1:=gA h (f.rows.getD k ⟨false,[]⟩).round;have h2:=gp (gN:=f.gN) (h.it (f.rows.getD k ⟨false,[]⟩) (by rw[qj,qz hk];exact qM _)) _ (ql _);unfold zqg;simp only[qv,qB,qG];omega
theorem gB {f:Fm} {i:Nat} (h:pq f i):∀k,k<=f.rows.length->(vz f k).length<=k*101+vQ (f.rows.take k)*201
  |0,_=>by simp[vz]
  |k+1,hk=>by
   have ih:=gB h k (by omega);have h1:=zpB h k (by omega);rw[uU,qv,zej f.rows k (by omega),Nat.add_mul];omega
theorem zpT (b:UInt8):((b.toNat:Int)).toNat.toUInt8=b:=by
  rw[Int.toNat_natCast];exact xd
theorem zpC {s:ByteArray} {i:Nat} {c:Int} (h:((gZ s i).toNat:Int)=c) (hc:c≠0):pg s i c=true:=by
  by_cases hi:i<s.size
  · rw[QX hi]
    rw[Z3 hi] at h;simpa using h
  · exfalso
    unfold gZ at h;first|(rw[xt hi] at h;exact hc h.symm)|(simp[hi] at h;exact hc h.symm)|(simp[hi] at h;omega)
theorem zo4 {s:ByteArray} {gN:List UInt8} {ms:List Mk} {i j:Nat} {m:Mk} (h:QY s gN ms i=.ok (m,j)):m.sign=58->0<=Lib.indexByte gN m.n.toNat.toUInt8:=by
  intro hs;unfold QY at h;by_cases h1:(if pg s i 126 then 4 else 1)<=pO ms (gZ s i).toNat
  · rw[qy h1] at h;cases h
  rw[qx h1] at h;by_cases h2:(pg s i 58||pg s i 39)=true
  · rw[qy h2] at h
    by_cases h3:¬pY s (i+1) 97 122=true
    · rw[qy h3] at h;cases h
    rw[qx h3] at h;by_cases h4:(pg s i 58&&decide (Lib.indexByte gN (gZ s (i+1))<0))=true
    · rw[qy h4] at h;cases h
    rw[qx h4] at h;cases h;have hb:pg s i 58=true:=zpC hs (by decide);rw[hb] at h4;simp at h4;show 0<=Lib.indexByte gN ((((gZ s (i+1)).toNat:Int)).toNat.toUInt8);rw[zpT];exact h4
  · rw[qx h2] at h
    exfalso
    cases hn:yL s 1 (i+1) with
    |error e=>rw[hn] at h;cases h
    |ok ve=>
     obtain⟨v,e⟩:=ve;rw[hn] at h;simp only at h;by_cases h5:(pg s i 126&&ms.any (λm=>m.sign==126&&m.n==v))=true
     · rw[qy h5] at h;cases h
     rw[qx h5] at h;cases h;exact h2 (by rw[zpC hs (by decide)];rfl)
theorem znc {s:ByteArray} {gN:List UInt8}:∀(q:Nat) (ms:List Mk) (i:Nat) {ms':List Mk} {j:Nat},QV s gN q ms i=.ok (ms',j)->zn8 gN ms->zn8 gN ms'
  |0,ms,i,ms',j,h,hl=>by unfold QV at h;cases h;exact hl
  |q+1,ms,i,ms',j,h,hl=>by
   unfold QV at h;split at h
   · cases hm:QY s gN ms i with
     |error e=>rw[hm] at h;cases h
     |ok mj=>
      obtain⟨m,k⟩:=mj;rw[hm] at h
      exact znc q (ms++[m]) k h (λy hy=>by
        rcases qJ.1 hy with hy|hy
        · exact hl y hy
        · obtain rfl:=zj.1 hy;exact zo4 hm)
   · cases h;exact hl
theorem zn9 {s:ByteArray} {i j:Nat} {c r:Int} (h:QH s i=.ok (c,r,j)):c<0->r=0:=by
  unfold QH at h;split at h
  · cases h;exact λ_=>rfl
  · split at h
    · cases h
    · split at h
      · cases h;exact λ_=>rfl
      · split at h
        · cases h
        · rename_i h3
          split at h
          · cases h
          · cases h
            intro h4;exact absurd (.inr h4) h3
def zoJ (gN:List UInt8) (x:It):Prop:=zn8 gN x.gP/\(x.cls<0->x.ref=0)
theorem zo5 {s:ByteArray} {gN:List UInt8} {line:Int} {i k:Nat} {x:It} (h:Kj s gN line i=.ok (x,k)):zoJ gN x:=by
  unfold Kj at h;split at h
  · cases h
  · rename_i hrh
    split at h
    · cases h
    · rename_i hm
      split at h
      · cases h
      · split at h
        · cases h
        · cases h
          exact⟨znc _ _ _ hm (λm hm=>by cases hm),zn9 hrh⟩
theorem znd {s:ByteArray} {f:Fm} {round:Bool}:∀(q:Nat) (l:List It) (i:Nat) {l':List It} {j:Nat},Ka s f round q l i=.ok (l',j)->(∀x∈l,zoJ f.gN x)->∀x∈l',zoJ f.gN x
  |0,l,i,l',j,h,hl=>by unfold Ka at h;cases h;exact hl
  |q+1,l,i,l',j,h,hl=>by
   unfold Ka at h;split at h
   · cases hi:Kj s f.gN (ZT f round l.length) (i+1) with
     |error e=>rw[hi] at h;cases h
     |ok xk=>
      obtain⟨x,k⟩:=xk;rw[hi] at h
      exact znd q (l++[x]) k h (λy hy=>by
        rcases qJ.1 hy with hy|hy
        · exact hl y hy
        · obtain rfl:=zj.1 hy;exact zo5 hi)
   · cases h;exact hl
def znm (f:Fm):Prop:=∀r∈f.rows,∀x∈r.items,zoJ f.gN x
theorem gJ {s:ByteArray} {f f':Fm} {round:Bool} {start i j:Nat} (h:Kd s f round start i=.ok (f',j)) (hf:znm f):znm f':=by
  unfold Kd at h;split at h
  · cases h
  · cases hit:Ka s f round (s.size+1) [] i with
    |error e=>rw[hit] at h;cases h
    |ok lj=>
     obtain⟨l,j'⟩:=lj;rw[hit] at h;simp only at h;have hg:=znd _ _ _ hit (λx hx=>by cases hx);split at h
     · cases h
     · split at h
       · cases h
       · cases h
         intro r hr x hx;rcases qJ.1 hr with hr|hr
         · exact hf r hr x hx
         · obtain rfl:=zj.1 hr;exact hg x hx
theorem zoA {s:ByteArray} {f f':Fm} {i j:Nat} (hf:znm f) (h:XW s f i=.ok (f',j)):znm f':=by
  unfold XW at h;split at h
  · cases h
  · (repeat' split at h)<;>first|(cases h;done)|skip
    rename_i hst;cases h;have:=gJ hst (λr hr x hx=>hf r hr x hx);exact λr hr x hx=>this r hr x hx
theorem zoa {s:ByteArray} {f f':Fm} {i j:Nat} (h:YF s f i=.ok (f',j)):f'.rows=f.rows:=by
  unfold YF at h
  (repeat' split at h)<;>first|(cases h;done)|(cases h;exact rfl)
theorem zo6 {s:ByteArray} {f f':Fm} {t:Bool} {i j:Nat} (hf:znm f) (h:QZ s f t i=.ok (f',j)):znm f':=by
  unfold QZ at h;split at h
  · (repeat' split at h)<;>first|(cases h;done)|(cases h;exact λr hr x hx=>hf r hr x hx)
  · split at h
    · rename_i hm
      have he:f.rows=[]:=by
        simp only[qA,yz] at hm;exact hm.2
      have hr:f'.rows=[]:=(zoa h).trans he;intro r hr2;rw[hr] at hr2;cases hr2
    · split at h
      · exact zoA hf h
      · split at h
        · cases h
        · exact gJ h hf
theorem ur {s:ByteArray}:∀(q:Nat) (f:Fm) (t:Bool) (i:Nat) {f':Fm},znm f->Q8 s q f t i=.ok f'->znm f'
  |0,f,t,i,f',hf,h=>by unfold Q8 at h;cases h;exact hf
  |q+1,f,t,i,f',hf,h=>by
   unfold Q8 at h;split at h
   · split at h
     · cases h
     · cases h;exact hf
   · split at h
     · exact ur q f t _ hf h
     · split at h
       · exact ur q f t _ hf h
       · split at h
         · cases h
         · rename_i hl
           exact ur q _ true _ (zo6 hf hl) h
theorem zo7 {s:ByteArray} {f:Fm} (h:Kz s=.ok f):znm f:=by
  unfold Kz at h;split at h
  · cases h
  · exact ur _ _ _ _ (λr hr=>by cases hr) h
end Go.Proofs.YtgklikkddckgbaaGreatDoor.Mo

import Derived.Test.YtgklikkddckgbaaGreatDoorJPXB
import Derived.Laws.StructEq
import Derived.Deep.Cut
/- Lemmas. -/
set_option linter.all false
set_option maxRecDepth 100000
set_option maxHeartbeats 4000000
namespace Go.Proofs.YtgklikkddckgbaaGreatDoor
structure Qm (m:Met):Prop where
  Qp:∀f∈m.Qp,vE f=true
  few:m.Qp.length<=16
  ends:vT m.ends 4 2 []=true
  Qt:vF m.Qp.length 0 m.Qt=true
theorem zm5 {lg:Int} {own:List ByteArray} {v:Way}:∀(l pre:List Way),vD lg own pre l=true->gL lg own (pre++l) v=true->vD lg own pre (l++[v])=true
  |[],pre,_,h=>by
   rw[zO] at h;rw[zj];unfold vD;rw[h];rfl
  |u::l,pre,h1,h=>by
   unfold vD at h1;rw[qA] at h1;rw[zf];unfold vD;rw[h1.1,zm5 l (pre++[u]) h1.2 (by rw[qF];exact h)];rfl
theorem zoz {lg most:Int} {own:List ByteArray} {l:List Way} {v:Way} (h:vT l most lg own=true) (hl:(l.length:Int)+1<=most) (hv:gL lg own l v=true):vT (l++[v]) most lg own=true:=by
  unfold vT at h|-;rw[qA] at h|-;exact⟨qt (by rw[qk];simpa using hl),zm5 l [] h.2 hv⟩
theorem zqH {lg c:Int} {own:List ByteArray} {l:List Way} {sg:ByteArray} (hs:Zx sg 1 lg=true) (h0:0<=c) (h1:c<=1048576) (hl:uy l sg=false) (ho:gK own sg=false):gL lg own l (sg,c)=true:=by
  unfold gL;have hl':(l.any λu=>QF u.1 sg)=false:=hl;simp only[hs,qL h0,qL h1,hl',ho];rfl
theorem zpW:∀f∈Kk,Zx ⟨f.2.1.toArray⟩ 1 4=true:=by decide+kernel
theorem znE {t:ByteArray} (h:(Zk t).2=0):Zx (Zk t).1 1 4=true:=by
  unfold Zk at h|-;split
  · rename_i h1;exact h1
  · rename_i h1
    rw[qp h1] at h;split
    · rename_i h2;rw[qq h2] at h;exact absurd h (by simp)
    · rename_i h2
      rw[qp h2] at h;split
      · rename_i f hf
        exact zpW f (zi hf)
      · rename_i hf
        rw[hf] at h;exact absurd h (by simp)
theorem gO {t:ByteArray} {lo hi:Int} (h:(Qx t lo hi).2=0):lo<=(Qx t lo hi).1/\(Qx t lo hi).1<=hi:=by
  unfold Qx at h|-;split
  · rename_i hn;rw[hn] at h;exact absurd h (by simp)
  · rename_i n hn
    rw[hn] at h;simp only at h;split
    · rename_i hb;rw[qq hb] at h;exact absurd h (by simp)
    · rename_i hb;simp only[];omega
theorem zre {sg:ByteArray} {c:Int} {all:Bool} {f:Ft} (hf:vE f=true) (hs:Zx sg 1 4=true) (h0:0<=c) (h1:c<=1048576) (ha:UU sg all f=false) (hl:V8 sg all f=false):vE (gi sg c all f)=true:=by
  unfold gi;split
  · rename_i hc
    have hne:(all&&QF f.own sg)=false:=by
      cases all<;>cases he:QF f.own sg<;>simp_all
    unfold UU at ha;unfold V8 at hl;rw[hne] at ha hl;simp only[xr,kh,zQ,xp] at ha hl;unfold vE at hf|-;rw[qA] at hf|-;refine⟨hf.1,zoz hf.2 ?_ (zqH hs h0 h1 ha.2 ?_)⟩
    · have:=hf.2
      unfold vT at this;rw[qA,qG] at this;have ZW:=this.1;have:(f.Qs.length:Int)≠15:=(by omega);omega
    · unfold gK
      simp[ha.1]
  · exact hf
theorem pQ {fs:List Ft} {i n:Nat} {sg:ByteArray} {c:Int} {all:Bool}:(vR fs i n sg c all).length=fs.length:=by
  unfold vR;simp only[qk,kk,kg,zu];omega
theorem zqI {fs:List Ft} {i n:Nat} {sg:ByteArray} {c:Int} {all:Bool} (h:∀f∈fs,vE f=true) (hs:Zx sg 1 4=true) (h0:0<=c) (h1:c<=1048576) (hE:Yk ((fs.drop i).take n) sg all=0):∀f∈vR fs i n sg c all,vE f=true:=by
  intro f hf;unfold Yk at hE;split at hE
  · exact absurd hE (by decide)
  · rename_i h2
    split at hE
    · exact absurd hE (by decide)
    · rename_i h3
      unfold vR at hf;rcases qU.1 hf with hf|hf
      · rcases qU.1 hf with hf|hf
        · exact h f (jN hf)
        · obtain⟨g,hg,rfl⟩:=zV.1 hf
          refine zre (h g (xW (jN hg))) hs h0 h1 ?_ ?_
          · have:=jH.1 (by simpa using h2) g hg
            simpa using this
          · have:=jH.1 (by simpa using h3) g hg
            simpa using this
      · exact h f (xW hf)
def RGk:Vb->Prop
  |.error _=>True
  |.ok (_,m')=>Qm m'/\m'.Qt=[]/\m'.ends=[]/\1<=m'.Qp.length
def RWk:Vb->Prop
  |.error _=>True
  |.ok (_,m')=>Qm m'/\1<=m'.Qp.length
def REk:Except (Int×Nat) Met->Prop
  |.error _=>True
  |.ok m'=>ub m'=true
theorem znF {n:Int} {Jz:Nat} {L:List Tok} {m:Met} (hm:Qm m) (hb:m.Qt=[]) (he:m.ends=[]) (hn:1<=n):RGk (YO n Jz L m):=by
  unfold YO;split
  · rename_i hf
    split
    · rename_i hl
      have hlen:(m.Qp++List.replicate n.toNat (V9 (Zk (hd L).2).1)).length=m.Qp.length+n.toNat:=(by rw[qk,kz]);refine⟨⟨λf hf'=>?_,?_,hm.ends,?_⟩,hb,he,?_⟩
      · rcases qU.1 hf' with hf'|hf'
        · exact hm.Qp f hf'
        · have:=List.eq_of_mem_replicate hf'
          subst this;unfold vE V9;rw[znE hf];rfl
      · show(m.Qp++List.replicate n.toNat (V9 (Zk (hd L).2).1)).length<=16
        rw[hlen];omega
      · show vF _ 0 m.Qt=true
        rw[hb];rfl
      · show 1<=(m.Qp++List.replicate n.toNat (V9 (Zk (hd L).2).1)).length
        rw[hlen];omega
    · trivial
  · trivial
theorem zpg {L:List Tok} {m:Met} (hm:Qm m) (hb:m.Qt=[]) (he:m.ends=[]):RGk (Yl L m):=by
  unfold Yl;split
  · split
    · rename_i h
      exact znF hm hb he (gO h).1
    · trivial
  · exact znF hm hb he (xV _)
theorem pR:∀(f:Nat) (L:List Tok) (m:Met) (i n:Nat) (all:Bool),Qm m->1<=m.Qp.length->RWk (K8 f L m i n all)
  |0,_,_,_,_,_,_,_=>trivial
  |f+1,L,m,i,n,all,hm,h1=>by
   unfold K8;split
   · rename_i ZK
     split
     · rename_i hE
       split
       · rename_i hn
         have hn:=gO hn;have hm2:Qm {m with Qp:=vR m.Qp i n (Zk (hd L).2).1 (Qx (hd (Qv L)).2 0 1048576).1 all}:=⟨zqI hm.Qp (znE ZK) hn.1 hn.2 hE,by show(vR _ _ _ _ _ _).length<=16;rw[pQ];exact hm.few,hm.ends,by show vF (vR _ _ _ _ _ _).length 0 m.Qt=true;rw[pQ];exact hm.Qt⟩;have h2:1<=(vR m.Qp i n (Zk (hd L).2).1 (Qx (hd (Qv L)).2 0 1048576).1 all).length:=(by rw[pQ];exact h1);split
         · exact pR f _ _ _ _ _ hm2 h2
         · exact⟨hm2,h2⟩
       · trivial
     · trivial
   · trivial
theorem znG:∀(f:Nat) (L:List Tok) (m:Met),Qm m->1<=m.Qp.length->RWk (Jc f L m)
  |0,_,_,_,_=>trivial
  |f+1,L,m,hm,h1=>by
   unfold Jc;split
   · rename_i hsg
     split
     · trivial
     · rename_i hh
       split
       · trivial
       · rename_i h4
         split
         · rename_i hn
           have hn:=gO hn
           have hm2:Qm {m with ends:=m.ends++[((hd L).2,(Qx (hd (Qv L)).2 0 1048576).1)]}:=⟨hm.Qp,hm.few,by
             refine zoz hm.ends ?_ (zqH hsg hn.1 hn.2 (by simpa using hh) rfl);have:=hm.ends;unfold vT at this;rw[qA,qG] at this;have h4':=this.1;omega,hm.Qt⟩
           split
           · exact znG f _ _ hm2 h1
           · exact⟨hm2,h1⟩
         · trivial
   · trivial
theorem znH {n:Int} {b:Int×Int}:∀(l:List (Int×Int)) (a:Int),vF n a l=true->(match l.getLast? with|none=>a|some x=>x.1)<b.1->b.1<n->1<=b.2->b.2<=1048576->vF n a (l++[b])=true
  |[],a,_,h1,h2,h3,h4=>by
   have h1':a<b.1:=h1;rw[zj];unfold vF;rw[qL h1',qL h2,qL h3,qL h4];rfl
  |x::l,a,h,h1,h2,h3,h4=>by
   unfold vF at h;rw[qA] at h;rw[zf];unfold vF;rw[h.1,znH l x.1 h.2 ?_ h2 h3 h4]
   · rfl
   · cases l with
     |nil=>exact h1
     |cons y l'=>
      rw[List.getLast?_cons_cons] at h1;cases hl:(y::l').getLast? with
      |none=>simp at hl
      |some z=>rw[hl] at h1;exact h1
theorem zph {L:List Tok} {m:Met} (hm:Qm m) (h1:1<=m.Qp.length):RWk (VL L m):=by
  unfold VL;split
  · rename_i ha
    have ha:=gO ha;split
    · rename_i hb
      have hb:=gO hb;refine⟨⟨hm.Qp,hm.few,hm.ends,znH _ _ hm.Qt ?_ ?_ hb.1 hb.2⟩,h1⟩
      · have:(match m.Qt.getLast? with|none=>(0:Int)|some x=>x.1)=zag m:=rfl
        rw[this];simp only[];omega
      · simp only[]
        omega
    · trivial
  · trivial
theorem zoA {L:List Tok} {m:Met} (hm:Qm m) (h1:1<=m.Qp.length):RWk (Ka L m):=by
  unfold Ka;split
  · exact pR _ _ _ _ _ _ hm h1
  · split
    · exact znG _ _ _ hm h1
    · split
      · exact zph hm h1
      · split
        · split
          · exact pR _ _ _ _ _ _ hm h1
          · trivial
        · trivial
theorem pD:∀(f:Nat) (L:List Tok) (m:Met),Qm m->1<=m.Qp.length->REk (KN f L m)
  |0,_,_,_,_=>trivial
  |f+1,L,m,hm,h1=>by
   unfold KN;split
   · show ub m=true
     unfold ub;have h2:m.Qp.all vE=true:=zF.2 hm.Qp;rw[qL h1,qL hm.few,hm.ends,h2,hm.Qt];rfl
   · split
     · have hc:=zoA (L:=Qv L) hm h1
       cases h:Ka (Qv L) m with
       |error x=>trivial
       |ok x=>rw[h] at hc;exact pD f _ _ hc.1 hc.2
     · trivial
theorem Qc:∀(f:Nat) (L:List Tok) (m:Met),Qm m->m.Qt=[]->m.ends=[]->REk (XD f L m)
  |0,_,_,_,_,_=>trivial
  |f+1,L,m,hm,hb,he=>by
   unfold XD;have hc:=zpg (L:=L) hm hb he;cases h:Yl L m with
   |error x=>trivial
   |ok x=>
    rw[h] at hc;simp only[];split
    · exact Qc f _ _ hc.1 hc.2.1 hc.2.2.1
    · exact pD _ _ _ hc.1 hc.2.2.2
theorem zoB {s:ByteArray} {m:Met} (h:KH s=.ok m):ub m=true:=by
  unfold KH at h;split at h
  · cases h
  · have:=Qc (toks s 0).length (toks s 0) Met.zero ⟨(λf hf=>by cases hf),qQ _,rfl,rfl⟩ rfl rfl
    rw[h] at this;exact this
end Go.Proofs.YtgklikkddckgbaaGreatDoor
namespace Go.Proofs.YtgklikkddckgbaaGreatDoor.Mo
open Go.RowKit
def uR (sign:UInt8) (n:Int):List UInt8:=if n=0 then [] else sign::Lib.itoa n
theorem zm6 (sign:UInt8) (n:Int) (h:0<=n/\n<=1000000):(uR sign n).length<=22:=by
  unfold uR;split
  · simp
  · have:=Lib.itoa_length_le n (by omega) (by omega)
    simp;omega
theorem ziD (c:UInt8) (n:Int) (w:World) (hv:Vars w) (h:0<=n/\n<=1000000):
    Calls Tryz.prog 82 #[.string ⟨#[c]⟩,.int .i64 n] w λe w'=>∃T:ByteArray,e=.returned (.string T)/\T.data.toList=uR c n/\T.size<=22/\Below w.heap.size w w':=by
  have Hi:=qh (uO n w hv (by omega) (by omega));have hl:=zm6 c n h;by_cases h0:n=0
  · have e0:(n==0)=true:=by simpa using h0
    have Hn:=qh (show uR c n=[] by unfold uR;rw[qq h0]);clear hl h0;go_enter Tryz.func82,Tryz.ntmps82;go_wp2_with fail;go_ret;exact⟨⟨#[]⟩,rfl,Hn.out.symm,by decide,qb _ _⟩
  · have e0:(n==0)=false:=by simpa using h0
    have Hn:=qh (show uR c n=c::Lib.itoa n by unfold uR;rw[qp h0]);clear hl h0;go_enter Tryz.func82,Tryz.ntmps82;go_wp2_with fail;refine Hi.out.mono ?_;rintro e w' ⟨T,rfl,hT,hsz,hb⟩;have HT:=qh hT;have Hb:=qh hb;clear hT hb Hi;go_wp2_with fail;go_ret;exact⟨_,rfl,by rw[Hn.out,zM,zT,HT.out];rfl,by rw[zN];show 1+T.size<=22;omega,Hb.out⟩
theorem zrf (w:World) (b:UInt8) (x:Int) (hx:(b.toNat:Int)=x):Sem.run Tryz.prog (convert 25 9 (.slice (some ⟨w.heap.size,0,none⟩) 1 1)) (w.alloc (.cells #[.int .u8 x] 5))=.ok (.string ⟨#[b]⟩) (w.alloc (.cells #[.int .u8 x] 5)):=by
  subst hx;refine xN _ _ _ _ ⟨w.heap.size,0,none⟩ 1 [b] zG zz zn (λj hj=>?_);obtain rfl:j=0:=by simpa using hj
  exact qc _ _ 0 _ _ (0,0) (qn w _)
def QP (n:Nat):UInt8:=UInt8.ofNat (48+n%10)
theorem zmQ {ms:List Mk} (hk:∀m∈ms,uM m) (c:Int):0<=Qy ms c/\Qy ms c<=512:=by
  unfold Qy;cases h:ms.find? (λm=>m.sign==c) with
  |none=>exact⟨xV _,by decide⟩
  |some x=>
   have hm:=hk x (zi h);by_cases h1:x.sign=58∨x.sign=39
   · have:=hm.lt h1;exact⟨by show 0<=x.n;omega,by show x.n<=512;omega⟩
   · have:=hm.nm (λe=>h1 (.inl e)) (λe=>h1 (.inr e));exact⟨by show 0<=x.n;omega,by show x.n<=512;omega⟩
theorem zpC {ms:List Mk} (hk:∀m∈ms,uM m):∀n∈QH ms,1<=n/\n<=512:=by
  intro n hn;obtain⟨m,hm,rfl⟩:=zV.1 hn;obtain⟨h1,h2⟩:=kQ.1 hm;have e:m.sign=126:=by simpa using h2
  exact(hk m h1).nm (by omega) (by omega)
def gP (c:Int):UInt8:=Ym.getD c.toNat 0
theorem znI {S:ByteArray} {l:List UInt8} (h:S.data.toList=l):S.size=l.length:=by rw[<-h,qP];rfl
theorem zqJ:∀c:Nat,c<25->((⟨#[97,98,99,100,101,102,103,104,105,106,107,108,109,110,111,112,113,114,115,116,117,118,119,121,122]⟩:ByteArray).extract c (c+1)).data.toList=[gP (c:Int)]/\(gP (c:Int)).toNat<128:=by decide+kernel
def gG (x:It):List UInt8:=if 0<=x.cls then(if 0<x.ref then Lib.upperB (gP x.cls)::Lib.itoa x.ref else [gP x.cls]) else [120]
theorem zqK {ms:List Mk} (hk:∀m∈ms,uM m) (c:Int) (hc:c=58∨c=39):0<=Qy ms c/\Qy ms c<=122:=by
  unfold Qy;cases h:ms.find? (λm=>m.sign==c) with
  |none=>exact⟨xV _,by decide⟩
  |some x=>
   have hm:=hk x (zi h);have hs:=kP h;have:=hm.lt (by rcases hc with rfl|rfl;exact .inl (by simpa using hs);exact .inr (by simpa using hs));exact⟨by show 0<=x.n;omega,this.2⟩
theorem zu6 {ms:List Mk} (hk:∀m∈ms,uM m):((UInt8.ofNat (Qy ms 58).toNat).toNat:Int)=Qy ms 58:=by
  have h:=zqK hk 58 (.inl rfl);have e:(UInt8.ofNat (Qy ms 58).toNat).toNat=(Qy ms 58).toNat%256:=rfl;rw[e];omega
def znv (l:List Int):List UInt8:=l.flatMap (uR 126)
theorem zpX (l:List Int) (k:Nat) (hk:k<l.length):znv (l.take (k+1))=znv (l.take k)++uR 126 (l.getD k 0):=by
  unfold znv;rw[qJ hk,zJ];simp[qe,hk]
def znw (ms:List Mk):List UInt8:=if Qy ms 39=0 then [] else [39,UInt8.ofNat (Qy ms 39).toNat]
theorem zpY:∀n:Nat,n<128->(Utf8.encode (n:Int)).data.toList=[UInt8.ofNat n]:=by decide+kernel
def zm7 (Qo:List UInt8) (ms:List Mk):List UInt8:=if 0<=Zo Qo ms then [58,UInt8.ofNat (Qy ms 58).toNat] else []
def ur (Qo:List UInt8) (x:It):List UInt8:=gG x++(zm7 Qo x.Qq++(uR 47 (Qy x.Qq 47)++(uR 94 (Qy x.Qq 94)++(uR 64 (Qy x.Qq 64)++(znv (QH x.Qq)++znw x.Qq)))))
theorem zmR {w w':World} {b:Nat} {o:Obj} (h:w.heap[b]?=some o) (hb:Below w.heap.size w w'):w'.heap[b]?=some o:=(hb.block b (qg h).1).trans h
theorem uN {A W2 W3:World} (h:Below A.heap.size A W2) (h2:Below W2.heap.size W2 W3):Below A.heap.size A W3:=h.trans (h2.mono h.size)
theorem zpZ (Qo:List UInt8) (x:It) (B:Nat) (vh:Value) (w:World) (hv:Vars w) (hx:gj x) (hh:w.ownsRow B 3 1 vh (QH x.Qq).length (ua (QH x.Qq))):
    Calls Tryz.prog 51 #[.agg (ZE Qo x.cls x.ref x.Qq x.at_ vh)] w λe w'=>∃T:ByteArray,e=.returned (.string T)/\T.data.toList=ur Qo x/\Below w.heap.size w w':=by
  obtain⟨cls,ref,ms,at_⟩:=x;have hcl:=hx.cl;have hrf:=hx.rf;have hmk:=hx.mks;have zro:(QH ms).length<=4:=by rw[zfL];exact hx.four
  simp only[] at hcl hrf hmk hh|-;obtain⟨Ah,ch,rfl,_,rh⟩:=zdO hh;have Hrh:=qh rh;obtain⟨W1,hW1⟩:∃W1,w.alloc (.cells (ZE Qo cls ref ms at_ (.slice Ah (QH ms).length ch)) 108)=W1:=⟨_,rfl⟩;have hb1:Below w.heap.size w W1:=by rw[<-hW1];exact(qb _ _).alloc (ql _) _
  have hx1:W1.heap[w.heap.size]?=some (.cells (ZE Qo cls ref ms at_ (.slice Ah (QH ms).length ch)) 108 (0,0)):=by rw[<-hW1];exact qn w _
  have Hvs:=qh (λW (hb:Below W1.heap.size W1 W)=>hv.below (uN hb1 hb) hv.six);have HW1:=qh hW1;have Hb1:=qh hb1;have Hx1:=qh hx1;have Hmk:=qh hmk;have q0:W1.cell? ⟨w.heap.size,0,none⟩=some (.int .i64 cls):=qc _ _ 0 _ _ (0,0) hx1;have q1:W1.cell? ⟨w.heap.size,1,none⟩=some (.int .i64 ref):=qc _ _ 1 _ _ (0,0) hx1;have hwb:w.heap.size<W1.heap.size:=(qg hx1).1;clear rh hh hx hv hW1 hb1 hx1 hmk;unfold ZE at HW1|-;go_enter Tryz.func51,Tryz.ntmps51;go_upto_region 2 with(fail)
  rw[HW1.out];go_upto_if 11 with(fail)
  go_cut [3] from 11 to 26 (λv3 wx=>∃S:ByteArray,v3=.string S/\Hid (S.data.toList=gG ⟨cls,ref,ms,at_⟩/\S.size<=30)/\Hid (Below W1.heap.size W1 wx))
  case first=>
    by_cases h0:0<=cls
    · have g0:decide (cls>=0)=true:=qt h0
      obtain⟨c,rfl⟩:∃c:Nat,cls=(c:Int):=⟨cls.toNat,by omega⟩;obtain⟨hl1,hl2⟩:=zqJ c (by omega);have Hl:=qh (zm hl1 hl2);have Z6:Hid (gG ⟨c,ref,ms,at_⟩=(if 0<ref then Lib.upperB (gP (c:Int))::Lib.itoa ref else [gP (c:Int)])):=qh (by unfold gG;exact qq h0);have c25:c<25:=(by omega);clear hl1 hl2 h0 hcl;by_cases h1:0<ref
      · have g1:decide (ref>0)=true:=qt h1
        rw[qq h1] at Z6
        have HU:Hid (∀W,Calls Tryz.prog 81 #[.string ((⟨#[97,98,99,100,101,102,103,104,105,106,107,108,109,110,111,112,113,114,115,116,117,118,119,121,122]⟩:ByteArray).extract c (c+1))] W λe w'=>∃U:ByteArray,e=.returned (.string U)/\U.data.toList=[Lib.upperB (gP (c:Int))]/\U.size=1/\Below W.heap.size W w'):=qh (λW=>by
          refine(Tryz.strings_ToUpper_ascii _ W ?_ ?_).mono ?_
          · rw[jp];simp;omega
          · intro j b hb
            rw[Hl.out.1] at hb
            have:b=gP (c:Int):=by
              cases j with
              |zero=>simpa using hb.symm
              |succ j=>simp at hb
            rw[this];exact Hl.out.2
          · rintro e w' ⟨rfl,hb⟩
            refine⟨_,rfl,?_,?_,hb⟩
            · show Lib.toUpperA _=_
              rw[Hl.out.1];rfl
            · show(Lib.toUpperA _).toArray.size=1
              rw[Hl.out.1];rfl)
        have HI:Hid (∀W,Below W1.heap.size W1 W->Calls Tryz.prog 50 #[.int .i64 ref] W λe w'=>∃T:ByteArray,e=.returned (.string T)/\T.data.toList=Lib.itoa ref/\T.size<=21/\Below W.heap.size W w'):=qh (λW hb=>uO ref W (Hvs.out W hb) (by omega) (by omega));go_wp2_with fail;go_region_held3 (λw'=>Below W1.heap.size W1 w'/\∀b o,b<W1.heap.size->w'.cell? ⟨b,o,none⟩=W1.cell? ⟨b,o,none⟩) (((repeat (apply ze2;assumption));exact Q2)) (first|(go_at_call 81;refine(HU.out _).mono ?_;rintro e w9 ⟨U,rfl,hU,hUs,QG⟩;have HU9:=qh (zm hU hUs);clear hU hUs)|(go_at_call 50;refine(HI.out _ (by first|exact Q2.1|exact zL (by assumption))).mono ?_;rintro e w9 ⟨T,rfl,hT,hTs,QG⟩;have HT9:=qh (zm hT hTs);have hUT:¬(9223372036854775807<U.size+T.size):=(by have:=HU9.out.2;omega);clear hT hTs))
        have V0:Below W1.heap.size W1 w9:=zL (by assumption);have HS9:=qh V0;clear QG V0;go_wp2_with fail;go_meet
        exact⟨_,rfl,qh ⟨by rw[Z6.out,zM,zT,HU9.out.1,HT9.out.1];rfl,by rw[zN,HU9.out.2];have:=HT9.out.2;omega⟩,HS9⟩
      · have g1:decide (ref>0)=false:=qd h1
        rw[qp h1] at Z6;go_wp2_with fail;go_meet
        exact⟨_,rfl,qh ⟨by rw[Z6.out];exact Hl.out.1,by rw[znI Hl.out.1];simp⟩,qh (qb _ _)⟩
    · have g0:decide (cls>=0)=false:=qd h0
      have Z6:Hid (gG ⟨cls,ref,ms,at_⟩=[120]):=qh (by unfold gG;exact qp h0);go_wp2_with fail;go_meet
      exact⟨_,rfl,qh ⟨by rw[Z6.out],by decide⟩,qh (qb _ _)⟩
  case rest=>
  obtain⟨S,rfl,hS,KV⟩:=hcut;have HxA:=qh (zmR Hx1.out KV.out);clear q0 q1;have q2:wc.cell? ⟨w.heap.size,2,none⟩=some (.int .i64 (Zo Qo ms)):=qc _ _ 2 _ _ (0,0) HxA.out;have q3:wc.cell? ⟨w.heap.size,3,none⟩=some (.int .u8 (Qy ms 58)):=qc _ _ 3 _ _ (0,0) HxA.out;go_upto_if 29 with(fail)
  go_cut [3] from 29 to 36 (λv3 wx=>∃S':ByteArray,v3=.string S'/\Hid (S'.data.toList=S.data.toList++zm7 Qo ms/\S'.size<=32)/\Hid (Below W1.heap.size W1 wx))
  case first=>
    by_cases h0:0<=Zo Qo ms
    · have g0:decide (Zo Qo ms>=0)=true:=qt h0
      have Hm:=qh (show zm7 Qo ms=[58,UInt8.ofNat (Qy ms 58).toNat] by unfold zm7;exact qq h0);have hn:=zu6 Hmk.out;have hC:=zrf wc (UInt8.ofNat (Qy ms 58).toNat) (Qy ms 58) hn;have hsz:¬(9223372036854775807<S.size+(1+1)):=(by have:=hS.out.2;omega);have HB2:Hid (∀o,Below W1.heap.size W1 (wc.alloc o)):=qh (λo=>KV.out.alloc KV.out.size o);clear hn;go_wp2_with fail;go_meet
      exact⟨_,rfl,qh ⟨by rw[Hm.out];simp only[zM,zT];rfl,by simp only[zN];have:=hS.out.2;show S.size+(1+1)<=32;omega⟩,qh (HB2.out _)⟩
    · have g0:decide (Zo Qo ms>=0)=false:=qd h0
      have Hm:=qh (show zm7 Qo ms=[] by unfold zm7;exact qp h0);have h0b:Zo Qo ms<0:=(by omega);go_wp2_with fail;go_meet
      exact⟨_,rfl,qh ⟨by rw[Hm.out];simp,by have:=hS.out.2;omega⟩,KV⟩
  case rest=>
  obtain⟨S2,rfl,hS2,hbB⟩:=hcut;obtain⟨wB,hwB⟩:∃W:World,W=wc:=⟨_,rfl⟩;subst hwB;have HxB:=qh (zmR Hx1.out hbB.out);clear q2 q3;have hlt:w.heap.size<wB.heap.size:=(qg HxB.out).1;have q4:wB.cell? ⟨w.heap.size,4,none⟩=some (.int .i64 (Qy ms 47)):=qc _ _ 4 _ _ (0,0) HxB.out;have q5:wB.cell? ⟨w.heap.size,5,none⟩=some (.int .i64 (Qy ms 94)):=qc _ _ 5 _ _ (0,0) HxB.out;have q6:wB.cell? ⟨w.heap.size,6,none⟩=some (.int .i64 (Qy ms 64)):=qc _ _ 6 _ _ (0,0) HxB.out;have H47:Hid (∀W,Below wB.heap.size wB W->Calls Tryz.prog 82 #[.string ⟨#[47]⟩,.int .i64 (Qy ms 47)] W λe w'=>∃T:ByteArray,e=.returned (.string T)/\T.data.toList=uR 47 (Qy ms 47)/\T.size<=22/\Below W.heap.size W w'):=qh (λW hb=>ziD 47 _ W (Hvs.out W (uN hbB.out hb)) (by have:=zmQ Hmk.out 47;omega));have H94:Hid (∀W,Below wB.heap.size wB W->Calls Tryz.prog 82 #[.string ⟨#[94]⟩,.int .i64 (Qy ms 94)] W λe w'=>∃T:ByteArray,e=.returned (.string T)/\T.data.toList=uR 94 (Qy ms 94)/\T.size<=22/\Below W.heap.size W w'):=qh (λW hb=>ziD 94 _ W (Hvs.out W (uN hbB.out hb)) (by have:=zmQ Hmk.out 94;omega));have H64:Hid (∀W,Below wB.heap.size wB W->Calls Tryz.prog 82 #[.string ⟨#[64]⟩,.int .i64 (Qy ms 64)] W λe w'=>∃T:ByteArray,e=.returned (.string T)/\T.data.toList=uR 64 (Qy ms 64)/\T.size<=22/\Below W.heap.size W w'):=qh (λW hb=>ziD 64 _ W (Hvs.out W (uN hbB.out hb)) (by have:=zmQ Hmk.out 64;omega));generalize h47g:Qy ms 47=n47 at*;have E47:=qh h47g;clear h47g;generalize h94g:Qy ms 94=n94 at*;have E94:=qh h94g;clear h94g;generalize h64g:Qy ms 64=n64 at*;have E64:=qh h64g;clear h64g;go_upto_region 9 with(fail)
  go_cut [3] from 37 to 49 (λv3 wx=>∃S':ByteArray,v3=.string S'/\Hid (S'.data.toList=S2.data.toList++(uR 47 (n47)++(uR 94 (n94)++uR 64 (n64)))/\S'.size<=100)/\Hid (Below W1.heap.size W1 wx))
  case first=>
    go_region_held3 (λw'=>Below wB.heap.size wB w'/\∀b o,b<wB.heap.size->w'.cell? ⟨b,o,none⟩=wB.cell? ⟨b,o,none⟩) (((repeat (apply ze2;assumption));exact Q2)) (first|(go_at_call 82;with_reducible refine(H47.out _ (by first|exact Q2.1|exact zL (by assumption))).mono ?_;rintro e w9 ⟨Ta,rfl,hTa,zsv,QG⟩;have HTa:=qh (zm hTa zsv);clear hTa zsv)|(go_at_call 82;with_reducible refine(H94.out _ (by first|exact Q2.1|exact zL (by assumption))).mono ?_;rintro e w9 ⟨Tb,rfl,hTb,zsw,QG⟩;have HTb:=qh (zm hTb zsw);have hab:¬(9223372036854775807<Ta.size+Tb.size):=(by have:=HTa.out.2;have:=HTb.out.2;omega);clear hTb zsw)|(go_at_call 82;with_reducible refine(H64.out _ (by first|exact Q2.1|exact zL (by assumption))).mono ?_;rintro e w9 ⟨Tc,rfl,hTc,zsx,QG⟩;have HTc:=qh (zm hTc zsx);have habc:¬(9223372036854775807<Ta.size+Tb.size+Tc.size):=(by have:=HTa.out.2;have:=HTb.out.2;have:=HTc.out.2;omega);have Z8:¬(9223372036854775807<S2.size+(Ta.size+Tb.size+Tc.size)):=(by have:=hS2.out.2;have:=HTa.out.2;have:=HTb.out.2;have:=HTc.out.2;omega);clear hTc zsx))
    have V0:Below wB.heap.size wB w9:=zL (by assumption);have HS9:=qh (uN hbB.out V0);clear QG V0;go_wp2_with fail;go_meet
    exact⟨_,rfl,qh ⟨by simp only[zM,zT,HTa.out.1,HTb.out.1,HTc.out.1,qF],by simp only[zN];have:=hS2.out.2;have:=HTa.out.2;have:=HTb.out.2;have:=HTc.out.2;omega⟩,HS9⟩
  case rest=>
  obtain⟨S3,rfl,Z8,hbC⟩:=hcut;obtain⟨wC,hwC⟩:∃W:World,W=wc:=⟨_,rfl⟩;subst hwC;have HxC:=qh (zmR Hx1.out hbC.out);clear q4 q5 q6 hlt H47 H94 H64;have q7:wC.cell? ⟨w.heap.size,7,none⟩=some (.slice Ah (QH ms).length ch):=qc _ _ 7 _ _ (0,0) HxC.out;have Kx:=qh (zpC Hmk.out);generalize hhs:QH ms=hs at*;have Ehs:=qh hhs;clear hhs;go_wp2_with fail;clear q7;go_loopw [3,6,53] (λv3 v6 q wr=>∃(k:Nat) (S':ByteArray),k<=hs.length/\q=.int .i64 k/\v3=.string S'/\Hid (S'.data.toList=S3.data.toList++znv (hs.take k)/\S'.size<=100+22*k)/\Hid (Below W1.heap.size W1 wr)) (λ_ _ q _=>hs.length-(intOf q).toNat)
  case atStart=>exact⟨0,S3,qQ _,rfl,rfl,qh ⟨by simp[znv],by have:=Z8.out.2;omega⟩,hbC⟩
  case round=>
    rename World=>wr
    obtain⟨k,S',hk,rfl,rfl,hS',hbr⟩:=hrel;by_cases hlt:k<hs.length
    · obtain⟨g,rfl,hg,hc⟩:=Hrh.out (by omega)
      have q0:=((uN Hb1.out hbr.out).cell (p:=⟨g,k,none⟩) hg).trans (hc k hlt);have hn:=Kx.out (hs.getD k 0) (by rw[qe,qC hlt];exact qM hlt);have KT:=qh (zpX hs k hlt);clear hc;generalize hs.getD k 0=n at*;have Q9:=qh (ziD 126 n wr (Hvs.out wr hbr.out) (by omega));go_wp2_with fail;refine Q9.out.mono ?_;rintro e w9 ⟨T,rfl,hT,hTs,QG⟩;have hsz:¬(9223372036854775807<S'.size+T.size):=(by have:=hS'.out.2;omega);have HT:=qh (zm hT hTs);have ZO:=qh (uN hbr.out QG);clear hT hTs QG Q9;go_wp2_with fail;go_roundw
      case rel=>exact⟨k+1,S'++T,by omega,by go_num,rfl,qh ⟨by rw[zM,zT,hS'.out.1,HT.out.1,KT.out,qF],by rw[zN];have:=hS'.out.2;have:=HT.out.2;omega⟩,ZO⟩
      case measure=>simp[intOf];omega
    · obtain rfl:k=hs.length:=by omega
      rw[qR] at hS';have HxD:=qh (zmR Hx1.out hbr.out);have q8:wr.cell? ⟨w.heap.size,8,none⟩=some (.int .i32 (Qy ms 39)):=qc _ _ 8 _ _ (0,0) HxD.out;have h39:=zqK Hmk.out 39 (.inr rfl);by_cases h0:Qy ms 39=0
      · have g0:(Qy ms 39==0)=true:=by simpa using h0
        have g1:(Qy ms 39 !=0)=false:=(by simp[h0]);have Hbg:=qh (show znw ms=[] by unfold znw;exact qq h0);have Qu:=qh (uN Hb1.out hbr.out);go_wp2_with fail;go_ret
        exact⟨S',rfl,by
          rw[hS'.out.1,Z8.out.1,hS2.out.1,hS.out.1];unfold ur;simp only[];rw[Hbg.out,E47.out,E94.out,E64.out,Ehs.out];simp[qF],Qu.out⟩
      · have g0:(Qy ms 39==0)=false:=by simpa using h0
        have g1:(Qy ms 39 !=0)=true:=(by simpa using h0);have Hbg:=qh (show znw ms=[39,UInt8.ofNat (Qy ms 39).toNat] by unfold znw;exact qp h0);obtain⟨n39,zuJ⟩:∃n:Nat,Qy ms 39=(n:Int):=⟨(Qy ms 39).toNat,by omega⟩;have he:=zpY n39 (by omega);rw[<-zuJ] at he;have hes:=znI he;have hz1:¬(9223372036854775807<1+(Utf8.encode (Qy ms 39)).size):=(by rw[hes];show¬(9223372036854775807<1+1);omega);have hz2:¬(9223372036854775807<S'.size+(1+(Utf8.encode (Qy ms 39)).size)):=(by rw[hes];have:=hS'.out.2;simp only[qv,qH];omega);have He:=qh (show(Utf8.encode (Qy ms 39)).data.toList=[UInt8.ofNat (Qy ms 39).toNat] by rw[he,zuJ];rfl);have Qu:=qh (uN Hb1.out hbr.out);clear he hes zuJ;go_wp2_with fail;go_ret
        exact⟨_,rfl,by
          simp only[zM,zT,He.out];rw[hS'.out.1,Z8.out.1,hS2.out.1,hS.out.1];unfold ur;simp only[];rw[Hbg.out,E47.out,E94.out,E64.out,Ehs.out];simp[qF],Qu.out⟩
def YL (m:Mk):List UInt8:=if m.sign=58∨m.sign=39 then [UInt8.ofNat m.sign.toNat,UInt8.ofNat m.n.toNat] else UInt8.ofNat m.sign.toNat::Lib.itoa m.n
def Y9 (ms:List Mk) (c:Int):List UInt8:=(ms.filter λm=>m.sign==c).flatMap YL
theorem Qd (p:Mk->Bool):∀ms:List Mk,ms.countP p<=1->ms.filter p=(match ms.find? p with|some m=>[m]|none=>[])
  |[],_=>rfl
  |m::ms,h=>by
   by_cases hm:p m=true
   · rw[List.filter_cons_of_pos hm,List.find?_cons_of_pos hm]
     rw[List.countP_cons_of_pos hm] at h;have h0:ms.countP p=0:=(by omega);rw[List.countP_eq_zero] at h0;simp only[];congr 1
     exact List.filter_eq_nil_iff.2 h0
   · rw[List.filter_cons_of_neg hm,List.find?_cons_of_neg hm]
     rw[List.countP_cons_of_neg hm] at h;exact Qd p ms h
theorem pp {ms:List Mk} {c:Int} (h:Zh ms c<=1):(ms.filter λm=>m.sign==c)=(match ms.find? (λm=>m.sign==c) with|some m=>[m]|none=>[]):=Qd _ ms h
theorem zpi {ms:List Mk} (hk:∀m∈ms,uM m) {c:Int} (b:UInt8) (hb:UInt8.ofNat c.toNat=b) (Ug:c≠58) (h39:c≠39) (h:Zh ms c<=1):Y9 ms c=uR b (Qy ms c):=by
  unfold Y9 Qy;rw[pp h];cases hf:ms.find? (λm=>m.sign==c) with
  |none=>rfl
  |some m=>
   have hs:m.sign=c:=(by simpa using kP hf);have hm:=(hk m (zi hf)).nm (by rw[hs];exact Ug) (by rw[hs];exact h39);simp only[qX,kX,zO];unfold YL uR;rw[qp (by rw[hs];omega),qp (by omega),hs,hb]
theorem zuK {ms:List Mk} (hk:∀m∈ms,uM m):Y9 ms 126=znv (QH ms):=by
  unfold Y9 znv QH;rw[List.flatMap_map]
  have:∀l:List Mk,(∀m∈l,uM m/\m.sign=126)->l.flatMap YL=l.flatMap λm=>uR 126 m.n:=λl=>by
    induction l with
    |nil=>intro _;rfl
    |cons m l ih=>
     intro hl;obtain⟨h1,h2⟩:=hl m (by simp);rw[qX,qX,ih (λq hq=>hl q (by simp[hq]))];congr 1
     have:=h1.nm (by omega) (by omega);unfold YL uR;rw[qp (by omega),qp (by omega),h2];rfl
  refine this _ (λm hm=>?_);obtain⟨h1,h2⟩:=kQ.1 hm;exact⟨hk m h1,by simpa using h2⟩
theorem zuL {ms:List Mk} (hk:∀m∈ms,uM m) (h:Zh ms 39<=1):Y9 ms 39=znw ms:=by
  unfold Y9 znw Qy;rw[pp h];cases hf:ms.find? (λm=>m.sign==39) with
  |none=>rfl
  |some m=>
   have hs:m.sign=39:=(by simpa using kP hf);have hm:=(hk m (zi hf)).lt (.inr hs);simp only[qX,kX,zO];unfold YL;rw[qq (.inr hs),qp (by omega),hs];rfl
def zm8 (Qo:List UInt8) (ms:List Mk):Prop:=∀m∈ms,m.sign=58->0<=Lib.indexByte Qo m.n.toNat.toUInt8
theorem zuM {Qo:List UInt8} {ms:List Mk} (hl:zm8 Qo ms) (h:Zh ms 58<=1):Y9 ms 58=zm7 Qo ms:=by
  unfold Y9 zm7 Zo Qy;rw[pp h];cases hf:ms.find? (λm=>m.sign==58) with
  |none=>rfl
  |some m=>
   have hs:m.sign=58:=(by simpa using kP hf);have hm:=hl m (zi hf) hs;simp only[qX,kX,zO];unfold YL;rw[qq (.inl hs),qq hm,hs];rfl
def zqL (x:It):List UInt8:=gG x++(Y9 x.Qq 58++(Y9 x.Qq 47++(Y9 x.Qq 94++(Y9 x.Qq 64++(Y9 x.Qq 126++Y9 x.Qq 39)))))
theorem zpj {Qo:List UInt8} {x:It} (hx:gj x) (hl:zm8 Qo x.Qq):zqL x=ur Qo x:=by
  unfold zqL ur;rw[zuM hl (hx.one 58 (by decide)),zpi hx.mks 47 rfl (by decide) (by decide) (hx.one 47 (by decide)),zpi hx.mks 94 rfl (by decide) (by decide) (hx.one 94 (by decide)),zpi hx.mks 64 rfl (by decide) (by decide) (hx.one 64 (by decide)),zuK hx.mks,zuL hx.mks (hx.one 39 (by decide))]
def zsy:List Int:=[58,47,94,64,126,39]
structure NmF (s:ByteArray) (f:Fm):Prop where
  nm:f.name.length<=s.size
  met:∀m∈f.Qr,ub m=true
theorem zm9 {s:ByteArray} {f f':Fm} {round:Bool} {start i j:Nat} (h:Je s f round start i=.ok (f',j)) (hf:NmF s f):NmF s f':=by
  unfold Je at h;split at h
  · cases h
  · cases hit:Jd s f round (s.size+1) [] i with
    |error e=>rw[hit] at h;cases h
    |ok lj=>
     rw[hit] at h;simp only at h;split at h
     · cases h
     · split at h
       · cases h
       · cases h
         exact⟨hf.nm,hf.met⟩
theorem zp0 {s:ByteArray} {f f':Fm} {i j:Nat} (hf:NmF s f) (h:Vo s f i=.ok (f',j)):NmF s f':=by
  unfold Vo at h;split at h
  · cases h
  · (repeat' split at h)<;>first|(cases h;done)|skip
    rename_i hst;cases h;have:=zm9 hst ⟨hf.nm,hf.met⟩;exact⟨this.nm,this.met⟩
theorem zp1 {s:ByteArray} {f f':Fm} {i j:Nat} (hf:NmF s f) (h:Ua s f i=.ok (f',j)):NmF s f':=by
  unfold Ua at h
  (repeat' split at h)<;>first|(cases h;done)|skip
  rename_i hr;cases h;refine⟨hf.nm,λm hm=>?_⟩;rcases qU.1 hm with hm|hm
  · exact hf.met m hm
  · obtain rfl:=kf.1 hm;exact zoB hr
theorem zqM {s:ByteArray} {f f':Fm} {t:Bool} {i j:Nat} (hf:NmF s f) (h:ZX s f t i=.ok (f',j)):NmF s f':=by
  unfold ZX at h;split at h
  · (repeat' split at h)<;>first|(cases h;done)|skip
    cases h;refine⟨?_,hf.met⟩;show(vA s _ _).length<=s.size;unfold vA;have:s.data.toList.length=s.size:=(by rw[qP];rfl);rw[kk,zu];omega
  · split at h
    · exact zp1 hf h
    · split at h
      · exact zp0 hf h
      · split at h
        · cases h
        · exact zm9 h hf
theorem gU {s:ByteArray}:∀(q:Nat) (f:Fm) (t:Bool) (i:Nat) {f':Fm},NmF s f->ZY s q f t i=.ok f'->NmF s f'
  |0,f,t,i,f',hf,h=>by unfold ZY at h;cases h;exact hf
  |q+1,f,t,i,f',hf,h=>by
   unfold ZY at h;split at h
   · split at h
     · cases h
     · cases h;exact hf
   · split at h
     · exact gU q f t _ hf h
     · split at h
       · exact gU q f t _ hf h
       · split at h
         · cases h
         · rename_i hl
           exact gU q _ true _ (zqM hf hl) h
theorem zoC {s:ByteArray} {f:Fm} (h:JG s=.ok f):NmF s f/\s.size<=65536:=by
  unfold JG at h;split at h
  · cases h
  · exact⟨gU _ _ _ _ ⟨qQ _,λm hm=>by cases hm⟩ h,by omega⟩
def K7:List UInt8:=[102,111,114,109,32]
def Xm:List UInt8:=[109,101,116,114,101,32]
def JF:List UInt8:=[114,111,117,110,100,32]
def J5:List UInt8:=[115,116,97,110,122,97]
def pS (c:UInt8) (m:Met):List UInt8:=Xm++([c]++([32]++(vX m++[10])))
def ui (Qo:List UInt8) (ms:List Met) (k:Nat):List UInt8:=(List.range k).flatMap λj=>pS (Qo.getD j 0) (ms.getD j u9)
def Qn (Qo:List UInt8) (l:List It) (k:Nat):List UInt8:=(List.range k).flatMap λj=>32::ur Qo (l.getD j Q7)
def uL (f:Fm) (r:Bool):List UInt8:=if r then JF++(Lib.itoa f.least++([32]++(Lib.itoa f.most++([32]++Lib.itoa f.shift)))) else J5
def uE (f:Fm) (r:Rw):List UInt8:=uL f r.round++(Qn f.Qo r.items r.items.length++[10])
def ut (f:Fm) (k:Nat):List UInt8:=(List.range k).flatMap λj=>uE f (f.rows.getD j ⟨false,[]⟩)
def gz (f:Fm):List UInt8:=K7++(f.name++[10])
def uw (f:Fm):List UInt8:=gz f++(ui f.Qo f.Qr f.Qr.length++ut f f.rows.length)
theorem pq (Qo:List UInt8) (ms:List Met) (k:Nat):ui Qo ms (k+1)=ui Qo ms k++pS (Qo.getD k 0) (ms.getD k u9):=by
  unfold ui;rw[kw,zJ];simp
theorem pT (Qo:List UInt8) (l:List It) (k:Nat):Qn Qo l (k+1)=Qn Qo l k++(32::ur Qo (l.getD k Q7)):=by
  unfold Qn;rw[kw,zJ];simp
theorem pr (f:Fm) (k:Nat):ut f (k+1)=ut f k++uE f (f.rows.getD k ⟨false,[]⟩):=by
  unfold ut;rw[kw,zJ];simp
theorem zqN {x:It} (h:gj x):(gG x).length<=22:=by
  unfold gG;split
  · split
    · have:=Lib.itoa_length_le x.ref (by have:=h.rf;omega) (by have:=h.rf;omega)
      simp only[qv];omega
    · simp
  · simp
theorem zqO {l:List Int} (h:∀n∈l,1<=n/\n<=512):(znv l).length<=22*l.length:=by
  induction l with
  |nil=>exact qQ _
  |cons a l ih=>
   have h1:=ih λn hn=>h n (by simp[hn]);have h2:=zm6 126 a (by have:=h a (by simp);omega);unfold znv at h1|-;rw[qX,qk,qv];omega
theorem znJ {Qo:List UInt8} {x:It} (h:gj x):(ur Qo x).length<=200:=by
  unfold ur;have h1:=zqN h;have h2:(zm7 Qo x.Qq).length<=2:=by unfold zm7;split<;>simp
  have hn:∀(b:UInt8) (c:Int),(uR b (Qy x.Qq c)).length<=22:=λb c=>zm6 b _ (by have:=zmQ h.mks c;omega);have h3:=hn 47 47;have h4:=hn 94 94;have h5:=hn 64 64;have h6:=zqO (zpC h.mks);have h7:(QH x.Qq).length<=4:=by rw[zfL];exact h.four
  have h8:(znw x.Qq).length<=2:=by unfold znw;split<;>simp
  simp only[qk];omega
theorem zna {Qo:List UInt8} {l:List It} (h:∀x∈l,gj x):∀k,k<=l.length->(Qn Qo l k).length<=k*201
  |0,_=>qQ _
  |k+1,hk=>by
   have ih:=zna (Qo:=Qo) h k (by omega);have h1:=znJ (Qo:=Qo) (h (l.getD k Q7) (by rw[qe,qC (by omega)];exact qM _));rw[pT,qk,qv];omega
theorem pt {m:Met} (h:ub m=true):(vX m).length<=16000:=by
  have hp:=zqD h;have h1:=pP hp m.Qp.length 0;have h2:=gx hp m.Qp.length (ql _);have h3:=znA hp;have h4:=pn hp m.Qt.length (ql _);have h5:=hp.Qp;have h6:=hp.zuG;unfold vX;simp only[qk];omega
theorem pU {Qo:List UInt8} {ms:List Met} (h:∀m∈ms,ub m=true):∀k,k<=ms.length->(ui Qo ms k).length<=k*16010
  |0,_=>qQ _
  |k+1,hk=>by
   have ih:=pU (Qo:=Qo) h k (by omega);have h1:=pt (h (ms.getD k u9) (by rw[qe,qC (by omega)];exact qM _));rw[pq,qk];unfold pS;simp only[qk,Xm,qv,qH];omega
theorem znK {f:Fm} {i:Nat} (h:QQ f i) (r:Bool):(uL f r).length<=100:=by
  have h1:=Lib.itoa_length_le f.least (by have:=h.l0;omega) (by have:=h.l0;omega);have h2:=Lib.itoa_length_le f.most (by have:=h.m0;omega) (by have:=h.m0;omega);have h3:=Lib.itoa_length_le f.shift (by have:=h.s0;omega) (by have:=h.s0;omega);unfold uL;split
  · simp only[qk,JF,qv,qH];omega
  · decide
theorem zqP {f:Fm} {i:Nat} (h:QQ f i) (k:Nat) (hk:k<f.rows.length):(uE f (f.rows.getD k ⟨false,[]⟩)).length<=101+(f.rows.getD k ⟨false,[]⟩).items.length*201:=by
  have h1:=znK h (f.rows.getD k ⟨false,[]⟩).round;have h2:=zna (Qo:=f.Qo) (h.it (f.rows.getD k ⟨false,[]⟩) (by rw[qe,qC hk];exact qM _)) _ (ql _);unfold uE;simp only[qk,qv,qH];omega
theorem pV {f:Fm} {i:Nat} (h:QQ f i):∀k,k<=f.rows.length->(ut f k).length<=k*101+uJ (f.rows.take k)*201
  |0,_=>by simp[ut]
  |k+1,hk=>by
   have ih:=pV h k (by omega);have h1:=zqP h k (by omega);rw[pr,qk,zej f.rows k (by omega),Nat.add_mul];omega
theorem zrg (b:UInt8):((b.toNat:Int)).toNat.toUInt8=b:=by
  rw[yy];exact xL
theorem zob {s:ByteArray} {i:Nat} {c:Int} (h:((QA s i).toNat:Int)=c) (hc:c≠0):QC s i c=true:=by
  by_cases hi:i<s.size
  · rw[Kf hi]
    rw[JA hi] at h;simpa using h
  · exfalso
    unfold QA at h;first|(rw[xT hi] at h;exact hc h.symm)|(simp[hi] at h;exact hc h.symm)|(simp[hi] at h;omega)
theorem zp2 {s:ByteArray} {Qo:List UInt8} {ms:List Mk} {i j:Nat} {m:Mk} (h:Kg s Qo ms i=.ok (m,j)):m.sign=58->0<=Lib.indexByte Qo m.n.toNat.toUInt8:=by
  intro hs;unfold Kg at h;by_cases h1:(if QC s i 126 then 4 else 1)<=Zh ms (QA s i).toNat
  · rw[qq h1] at h;cases h
  rw[qp h1] at h;by_cases h2:(QC s i 58||QC s i 39)=true
  · rw[qq h2] at h
    by_cases h3:¬Zq s (i+1) 97 122=true
    · rw[qq h3] at h;cases h
    rw[qp h3] at h;by_cases h4:(QC s i 58&&decide (Lib.indexByte Qo (QA s (i+1))<0))=true
    · rw[qq h4] at h;cases h
    rw[qp h4] at h;cases h;have hb:QC s i 58=true:=zob hs (by decide);rw[hb] at h4;simp at h4;show 0<=Lib.indexByte Qo ((((QA s (i+1)).toNat:Int)).toNat.toUInt8);rw[zrg];exact h4
  · rw[qp h2] at h
    exfalso
    cases hn:vz s 1 (i+1) with
    |error e=>rw[hn] at h;cases h
    |ok ve=>
     obtain⟨v,e⟩:=ve;rw[hn] at h;simp only at h;by_cases h5:(QC s i 126&&ms.any (λm=>m.sign==126&&m.n==v))=true
     · rw[qq h5] at h;cases h
     rw[qp h5] at h;cases h;exact h2 (by rw[zob hs (by decide)];rfl)
theorem znb {s:ByteArray} {Qo:List UInt8}:∀(q:Nat) (ms:List Mk) (i:Nat) {ms':List Mk} {j:Nat},Z5 s Qo q ms i=.ok (ms',j)->zm8 Qo ms->zm8 Qo ms'
  |0,ms,i,ms',j,h,hl=>by unfold Z5 at h;cases h;exact hl
  |q+1,ms,i,ms',j,h,hl=>by
   unfold Z5 at h;split at h
   · cases hm:Kg s Qo ms i with
     |error e=>rw[hm] at h;cases h
     |ok mj=>
      obtain⟨m,k⟩:=mj;rw[hm] at h
      exact znb q (ms++[m]) k h (λy hy=>by
        rcases qU.1 hy with hy|hy
        · exact hl y hy
        · obtain rfl:=kf.1 hy;exact zp2 hm)
   · cases h;exact hl
theorem zoD {s:ByteArray} {i j:Nat} {c r:Int} (h:Z4 s i=.ok (c,r,j)):c<0->r=0:=by
  unfold Z4 at h;split at h
  · cases h;exact λ_=>rfl
  · split at h
    · cases h
    · split at h
      · cases h;exact λ_=>rfl
      · split at h
        · cases h
        · rename_i h3
          split at h
          · cases h
          · cases h
            intro h4;exact absurd (.inr h4) h3
def zqQ (Qo:List UInt8) (x:It):Prop:=zm8 Qo x.Qq/\(x.cls<0->x.ref=0)
theorem zp3 {s:ByteArray} {Qo:List UInt8} {line:Int} {i k:Nat} {x:It} (h:KW s Qo line i=.ok (x,k)):zqQ Qo x:=by
  unfold KW at h;split at h
  · cases h
  · rename_i hrh
    split at h
    · cases h
    · rename_i hm
      split at h
      · cases h
      · split at h
        · cases h
        · cases h
          exact⟨znb _ _ _ hm (λm hm=>by cases hm),zoD hrh⟩
end Go.Proofs.YtgklikkddckgbaaGreatDoor.Mo

import Derived.Test.YtgklikkddckgbaaGreatDoorJDW
import Derived.BigQuiet
import Derived.Deep.CutBlock
import Derived.Deep.OwnRows
import Derived.Deep.RegionHeld3
import Derived.Handy
import Derived.Laws.AppendOwnNone
import Derived.Lib.ItoaLen
import Derived.Shelf.Strings.BuilderK
import Derived.Stop.RegionWithIn
import Derived.WalkLawsBesides
import Derived.WalkSpells
import Derived.Shelf.Strings.OnBuilder
import Derived.Shelf.Small.Utf8
import Derived.Shelf.Small.Strs
import Derived.Shelf.Utf8.RuneCount
import Derived.Shelf.LaysM
import Derived.Shelf.Slices.Turned
/- Lemmas. -/
set_option linter.all false
namespace Go.Proofs.YtgklikkddckgbaaGreatDoor
open Go.RowKit
end Go.Proofs.YtgklikkddckgbaaGreatDoor
namespace Go.Proofs.YtgklikkddckgbaaGreatDoor
open Go Go.RowKit
end Go.Proofs.YtgklikkddckgbaaGreatDoor
namespace Go.Proofs.YtgklikkddckgbaaGreatDoor
open Go.RowKit
theorem zot (a:ByteArray):QF a a=true:=by simp[QF]
theorem zry.keep {w w':World} {B b o:Nat} {f:Ft} (h:zry w B b o f) (hb:b<B) (hk:∀p:Addr,p.block<B->w'.cell? p=w.cell? p):zry w' B b o f:=by
  obtain⟨h1,A,c,h2,h3,h4⟩:=h;exact⟨(hk ⟨b,_,none⟩ hb).trans h1,A,c,(hk ⟨b,_,none⟩ hb).trans h2,h3,h4.keep hk⟩
theorem zli.keep {w w':World} {B:Nat} {A:Option Addr} {fs:List Ft} (h:zli w B A fs) (hk:∀p:Addr,p.block<B->w'.cell? p=w.cell? p):zli w' B A fs:=λhl=>by
  obtain⟨b,off,e,hb,hn⟩:=h hl;exact⟨b,off,e,hb,λk hk'=>(hn k hk').keep hb hk⟩
theorem zli.below {w w':World} {B:Nat} {A:Option Addr} {fs:List Ft} (h:zli w B A fs) (hb:Below B w w'):zli w' B A fs:=h.keep λp hp=>hb.cell hp
theorem zli.more {w:World} {B B':Nat} {A:Option Addr} {fs:List Ft} (h:zli w B A fs) (hB:B<=B'):zli w B' A fs:=λhl=>by
  obtain⟨b,off,e,hb,hn⟩:=h hl;refine⟨b,off,e,by omega,λk hk=>?_⟩;obtain⟨h1,A,c,h2,h3,h4⟩:=hn k hk;exact⟨h1,A,c,h2,h3,h4.more hB⟩
end Go.Proofs.YtgklikkddckgbaaGreatDoor
namespace Go.Proofs.YtgklikkddckgbaaGreatDoor
end Go.Proofs.YtgklikkddckgbaaGreatDoor
namespace Go.Proofs.YtgklikkddckgbaaGreatDoor
def gK (own:List ByteArray) (s:ByteArray):Bool:=own.any λo=>QF o s
def gL (lg:Int) (own:List ByteArray) (pre:List Way) (v:Way):Bool:=
  Zx v.1 1 lg&&decide (0<=v.2)&&decide (v.2<=1048576)&&!(pre.any λu=>QF u.1 v.1)&&!gK own v.1
def vD (lg:Int) (own:List ByteArray):List Way->List Way->Bool
  |_,[]=>true
  |pre,v::l=>gL lg own pre v&&vD lg own (pre++[v]) l
def vT (l:List Way) (most lg:Int) (own:List ByteArray):Bool:=decide ((l.length:Int)<=most)&&vD lg own [] l
def vE (f:Ft):Bool:=Zx f.own 1 4&&vT f.Qs 15 4 [f.own]
def vF (n:Int):Int->List (Int×Int)->Bool
  |_,[]=>true
  |a,b::l=>decide (a<b.1)&&decide (b.1<n)&&decide (1<=b.2)&&decide (b.2<=1048576)&&vF n b.1 l
def ub (m:Met):Bool:=decide (1<=m.Qp.length)&&decide (m.Qp.length<=16)&&vT m.ends 4 2 []&&m.Qp.all vE&&vF m.Qp.length 0 m.Qt
theorem uv {α:Type} [Inhabited α] (l:List α) (k:Nat) (h:k<l.length):l.drop k=l.getD k default::l.drop (k+1):=by
  rw[zh h];simp[qe,h]
def gE (m:Met):List (List Way):=m.Qp.map (λf=>(f.own,(0:Int))::f.Qs)++[(⟨#[]⟩,0)::m.ends]
theorem zpQ (m:Met):(gE m).length=m.Qp.length+1:=by simp[gE]
end Go.Proofs.YtgklikkddckgbaaGreatDoor
namespace Go.Proofs.YtgklikkddckgbaaGreatDoor
open Go.RowKit Go.Shelf Go.Lib
attribute [local go_sem] jB
def gw (t:List UInt8):Option F3:=Kk.find? λf=>f.2.1==t
theorem zo6 {t:List UInt8} {m:Nat} (hm:m<14) (h:((Q8 m).2.1==t)=true) (hn:∀j,j<m->((Q8 j).2.1==t)=false):gw t=some (Q8 m):=
  zfa (λf:F3=>f.2.1==t) ([],[],[]) Kk m hm h hn
theorem zo7 {t:List UInt8} (hn:∀j,j<14->((Q8 j).2.1==t)=false):gw t=none:=
  zge (λf:F3=>f.2.1==t) ([],[],[]) Kk hn
def vB (t:List UInt8):List UInt8:=match gw t with|some f=>f.1|none=>t
theorem zpR (j:Nat) (t:ByteArray):((Q8 j).2.1==t.toList)=((Q8 j).2.1==t.data.toList):=by
  rw[zg]
end Go.Proofs.YtgklikkddckgbaaGreatDoor
namespace Go.Proofs.YtgklikkddckgbaaGreatDoor
open Go.RowKit
def Kt (w:World) (B:Nat) (A:Option Addr) (l:List ByteArray):Prop:=
  0<l.length->∃b off,A=some ⟨b,off,none⟩/\b<B/\∀k,k<l.length->w.cell? ⟨b,off+k,none⟩=some (.string (l.getD k ByteArray.empty))
theorem Kt.below {w w':World} {B:Nat} {A:Option Addr} {l:List ByteArray} (h:Kt w B A l) (hb:Below B w w'):Kt w' B A l:=λhl=>by
  obtain⟨b,off,e,hbb,hn⟩:=h hl;exact⟨b,off,e,hbb,λk hk=>(hb.cell (p:=⟨b,_,none⟩) hbb).trans (hn k hk)⟩
theorem Kt.more {w:World} {B B':Nat} {A:Option Addr} {l:List ByteArray} (h:Kt w B A l) (hB:B<=B'):Kt w B' A l:=λhl=>by
  obtain⟨b,off,e,hb,hn⟩:=h hl;exact⟨b,off,e,by omega,hn⟩
def Kd (w:World) (B:Nat) (A:Option Addr) (l:List (Int×Int)):Prop:=
  0<l.length->∃b off,A=some ⟨b,off,none⟩/\b<B/\∀k,k<l.length->w.cell? ⟨b,off+k*2,none⟩=some (.int .i64 (l.getD k default).1)/\w.cell? ⟨b,off+k*2+1,none⟩=some (.int .i64 (l.getD k default).2)
theorem Kd.keep {w w':World} {B:Nat} {A:Option Addr} {l:List (Int×Int)} (h:Kd w B A l) (hk:∀p:Addr,p.block<B->w'.cell? p=w.cell? p):Kd w' B A l:=λhl=>by
  obtain⟨b,off,e,hb,hn⟩:=h hl;exact⟨b,off,e,hb,λk hk'=>⟨(hk ⟨b,_,none⟩ hb).trans (hn k hk').1,(hk ⟨b,_,none⟩ hb).trans (hn k hk').2⟩⟩
theorem Kd.below {w w':World} {B:Nat} {A:Option Addr} {l:List (Int×Int)} (h:Kd w B A l) (hb:Below B w w'):Kd w' B A l:=h.keep λp hp=>hb.cell hp
theorem Kd.more {w:World} {B B':Nat} {A:Option Addr} {l:List (Int×Int)} (h:Kd w B A l) (hB:B<=B'):Kd w B' A l:=λhl=>by
  obtain⟨b,off,e,hb,hn⟩:=h hl;exact⟨b,off,e,by omega,hn⟩
structure zn7 (m:Met):Prop where
  Qp:m.Qp.length<=4611686018427387904
  Qs:∀f∈m.Qp,f.Qs.length<=4611686018427387904/\f.own.size<=9223372036854775807/\∀v∈f.Qs,v.1.size<=9223372036854775807
  ends:m.ends.length<=4611686018427387904/\∀v∈m.ends,v.1.size<=9223372036854775807
  Qt:m.Qt.length<=4611686018427387904
structure KA (w:World) (B:Nat) (Af Ae Ab:Option Addr) (cf ce cb:Nat) (m:Met):Prop where
  Qp:zli w B Af m.Qp
  ends:QR w B Ae m.ends
  Qt:Kd w B Ab m.Qt
  cf:m.Qp.length<=cf
  ce:m.ends.length<=ce
  cb:m.Qt.length<=cb
  bd:zn7 m
theorem KA.below {w w':World} {B:Nat} {Af Ae Ab:Option Addr} {cf ce cb:Nat} {m:Met} (h:KA w B Af Ae Ab cf ce cb m) (hb:Below B w w'):KA w' B Af Ae Ab cf ce cb m:=⟨h.Qp.below hb,h.ends.below hb,h.Qt.below hb,h.cf,h.ce,h.cb,h.bd⟩
theorem KA.more {w:World} {B B':Nat} {Af Ae Ab:Option Addr} {cf ce cb:Nat} {m:Met} (h:KA w B Af Ae Ab cf ce cb m) (hB:B<=B'):KA w B' Af Ae Ab cf ce cb m:=⟨h.Qp.more hB,h.ends.more hB,h.Qt.more hB,h.cf,h.ce,h.cb,h.bd⟩
theorem KA.on {w w':World} {Af Ae Ab:Option Addr} {cf ce cb:Nat} {m:Met} (h:KA w w.heap.size Af Ae Ab cf ce cb m) (hb:Below w.heap.size w w'):KA w' w'.heap.size Af Ae Ab cf ce cb m:=(h.below hb).more hb.size
structure Small (m:Met):Prop where
  Qp:m.Qp.length<=16
  pos:0<m.Qp.length
  Qs:∀f∈m.Qp,f.Qs.length<=15
  ends:m.ends.length<=4
theorem zqB {m:Met} (h:ub m=true):Small m:=by
  unfold ub at h;simp only[qA,qG] at h;obtain⟨⟨⟨⟨h1,h2⟩,h3⟩,h4⟩,h5⟩:=h;unfold vT at h3;simp only[qA,qG] at h3;refine⟨h2,h1,λf hf=>?_,by omega⟩;have:=zF.1 h4 f hf;unfold vE vT at this;simp only[qA,qG] at this;omega
theorem uz {lg:Int} {own:List ByteArray}:∀{pre l:List Way},vD lg own pre l=true->∀v∈l,0<=v.2/\v.2<=1048576/\Zx v.1 1 lg=true
  |_,[],_=>λv hv=>by cases hv
  |pre,x::l,h=>by
   unfold vD at h;rw[qA] at h;intro v hv;rcases zy.1 hv with rfl|hv
   · have h1:=h.1
     unfold gL at h1;simp only[qA,qG] at h1;exact⟨h1.1.1.1.2,h1.1.1.2,h1.1.1.1.1⟩
   · exact uz h.2 v hv
theorem zm1 {m:Met} (h:ub m=true):(gE m).length<=17/\∀l∈gE m,l.length<=16/\∀v∈l,0<=v.2/\v.2<=1048576:=by
  have hs:=zqB h;refine⟨by rw[zpQ];have:=hs.Qp;omega,λl hl=>?_⟩;unfold ub at h;simp only[qA,qG] at h;obtain⟨⟨⟨⟨_,_⟩,h3⟩,h4⟩,_⟩:=h;unfold gE at hl;rw[qU] at hl;rcases hl with hl|hl
  · obtain⟨f,hf,rfl⟩:=zV.1 hl
    have h5:=zF.1 h4 f hf;unfold vE vT at h5;simp only[qA,qG] at h5;refine⟨by have:=hs.Qs f hf;simp;omega,λv hv=>?_⟩;rcases zy.1 hv with rfl|hv
    · exact⟨xV _,by show(0:Int)<=1048576;decide⟩
    · have:=uz h5.2.2 v hv;exact⟨this.1,this.2.1⟩
  · have hl':l=(⟨#[]⟩,0)::m.ends:=by simpa using hl
    subst hl';unfold vT at h3;simp only[qA,qG] at h3;refine⟨by have:=hs.ends;simp;omega,λv hv=>?_⟩;rcases zy.1 hv with rfl|hv
    · exact⟨xV _,by show(0:Int)<=1048576;decide⟩
    · have:=uz h3.2 v hv;exact⟨this.1,this.2.1⟩
def zq9 (fs:List Ft):Prop:=∀f∈fs,f.own.size<=4
theorem zqC {m:Met} (h:ub m=true):zq9 m.Qp:=λf hf=>by
  unfold ub at h;simp only[qA,qG] at h;have h5:=zF.1 h.1.2 f hf;unfold vE Zx at h5;simp only[qA,qG] at h5;omega
structure zuE (rows:List (List Way)):Prop where
  len:rows.length<=17
  pos:∀l∈rows,0<l.length
  few:∀l∈rows,l.length<=16
  four:∀l∈rows,∀v∈l,v.1.size<=4
theorem Qb {s:ByteArray} {lo hi:Int} (h:Zx s lo hi=true):(s.size:Int)<=hi:=by
  unfold Zx at h;simp only[qA,qG] at h;exact h.2.2
theorem zra {m:Met} (h:ub m=true):zuE (gE m):=by
  obtain⟨h1,h2⟩:=zm1 h;refine⟨h1,λl hl=>?_,λl hl=>(h2 l hl).1,λl hl=>?_⟩
  · unfold gE at hl
    rw[qU] at hl;rcases hl with hl|hl
    · obtain⟨f,_,rfl⟩:=zV.1 hl;simp
    · have hl':l=(⟨#[]⟩,0)::m.ends:=by simpa using hl
      subst hl';simp
  · have hf:=zqC h
    unfold ub at h;simp only[qA,qG] at h;obtain⟨⟨⟨⟨_,_⟩,h3⟩,h4⟩,_⟩:=h;unfold gE at hl;rw[qU] at hl;rcases hl with hl|hl
    · obtain⟨f,hfm,rfl⟩:=zV.1 hl
      have h5:=zF.1 h4 f hfm;unfold vE vT at h5;simp only[qA,qG] at h5;intro v hv;rcases zy.1 hv with rfl|hv
      · exact hf f hfm
      · have:=Qb (uz h5.2.2 v hv).2.2;omega
    · have hl':l=(⟨#[]⟩,0)::m.ends:=by simpa using hl
      subst hl';unfold vT at h3;simp only[qA,qG] at h3;intro v hv;rcases zy.1 hv with rfl|hv
      · show(0:Nat)<=4;omega
      · have:=Qb (uz h3.2 v hv).2.2;omega
def vS:List UInt8:=[44,32]
def zny:List UInt8:=[59,32]
def zsr:List UInt8:=[59,32,101,110,100,32]
def pO:List UInt8:=[59,32,98,114,101,97,107,32]
def vM (fs:List Ft) (own:ByteArray) (j:Nat):Nat:=j+((fs.drop j).takeWhile (λf=>QF f.own own)).length
theorem zou {fs:List Ft} {own:ByteArray} {j:Nat} (hj:j<fs.length) (h:QF (fs.getD j default).own own=true):vM fs own j=vM fs own (j+1):=by
  unfold vM;rw[uv fs j hj,yc];rw[qq h,qv];omega
theorem zpS {fs:List Ft} {own:ByteArray} {j:Nat} (hj:j<fs.length) (h:QF (fs.getD j default).own own=false):vM fs own j=j:=by
  unfold vM;rw[uv fs j hj,yc,qp (by rw[h];simp)];simp
theorem zpT {fs:List Ft} {own:ByteArray} {j:Nat} (hj:¬j<fs.length):vM fs own j=j:=by
  unfold vM;rw[kn (by omega)];simp
theorem gM {fs:List Ft} {own:ByteArray} {j:Nat} (hj:j<=fs.length):j<=vM fs own j/\vM fs own j<=fs.length:=by
  unfold vM;have:=(List.takeWhile_sublist (λf:Ft=>QF f.own own) (l:=fs.drop j)).length_le;rw[zu] at this;omega
theorem zm2 {fs:List Ft} {j:Nat} (hj:j<fs.length):j<vM fs (fs.getD j default).own j:=by
  rw[zou hj (zot _)];have:=(gM (fs:=fs) (own:=(fs.getD j default).own) (show j+1<=fs.length by omega)).1;omega
def gc (fs:List Ft) (i j:Nat):List UInt8:=(if 0<i then vS else [])++((if 1<j-i then Lib.itoa ((j-i:Nat):Int)++[32] else [])++vB (fs.getD i default).own.data.toList)
def vU (fs:List Ft):Nat->Nat->List UInt8
  |0,_=>[]
  |n+1,i=>if i<fs.length then gc fs i (vM fs (fs.getD i default).own i)++vU fs n (vM fs (fs.getD i default).own i) else []
theorem znz (fs:List Ft) (n:Nat):vU fs n fs.length=[]:=by cases n<;>simp[vU]
def vG (of:List UInt8->List UInt8) (l:List Way):Nat->List UInt8
  |0=>[]
  |k+1=>vG of l k++((if 0<k then vS else [])++(of (l.getD k default).1.data.toList++([32]++Lib.itoa (l.getD k default).2)))
def gN (fs:List Ft) (k:Nat):List UInt8:=if 0<(fs.getD k default).Qs.length then zny++(Lib.itoa ((k:Int)+1)++([32]++vG vB (fs.getD k default).Qs (fs.getD k default).Qs.length)) else []
def vV (fs:List Ft):Nat->List UInt8
  |0=>[]
  |k+1=>vV fs k++gN fs k
def uB (l:List Way):List UInt8:=if 0<l.length then zsr++vG id l l.length else []
def vW (l:List (Int×Int)):Nat->List UInt8
  |0=>[]
  |k+1=>vW l k++(pO++(Lib.itoa (l.getD k default).1++([32]++Lib.itoa (l.getD k default).2)))
def vX (m:Met):List UInt8:=vU m.Qp m.Qp.length 0++(vV m.Qp m.Qp.length++(uB m.ends++vW m.Qt m.Qt.length))
structure zo8 (m:Met):Prop where
  pos:0<m.Qp.length
  Qp:m.Qp.length<=16
  own:∀k,k<m.Qp.length->(m.Qp.getD k default).own.size<=4
  few:∀k,k<m.Qp.length->(m.Qp.getD k default).Qs.length<=15
  Qs:∀k,k<m.Qp.length->∀j,j<(m.Qp.getD k default).Qs.length->((m.Qp.getD k default).Qs.getD j default).1.size<=4/\0<=((m.Qp.getD k default).Qs.getD j default).2/\((m.Qp.getD k default).Qs.getD j default).2<=1048576
  zuF:m.ends.length<=16
  ends:∀j,j<m.ends.length->(m.ends.getD j default).1.size<=4/\0<=(m.ends.getD j default).2/\(m.ends.getD j default).2<=1048576
  zuG:m.Qt.length<=16
  Qt:∀j,j<m.Qt.length->0<=(m.Qt.getD j default).1/\(m.Qt.getD j default).1<=16/\0<=(m.Qt.getD j default).2/\(m.Qt.getD j default).2<=1048576
theorem uC {α:Type} [Inhabited α] {l:List α} {k:Nat} (h:k<l.length):l.getD k default∈l:=by
  rw[qe,qC h];exact qM h
theorem uV {n:Int}:∀(l:List (Int×Int)) (a:Int),0<=a->a<=n->vF n a l=true->a+l.length<=n/\∀b∈l,0<=b.1/\b.1<=n/\0<=b.2/\b.2<=1048576
  |[],a,_,h,_=>⟨by simpa using h,λb h=>by cases h⟩
  |b::l,a,h0,h1,h=>by
   unfold vF at h;simp only[qA,qG] at h;obtain⟨⟨⟨⟨h2,h3⟩,h4⟩,h5⟩,h6⟩:=h;obtain⟨h7,h8⟩:=uV l b.1 (by omega) (by omega) h6;refine⟨by simp only[qv];omega,λc hc=>?_⟩;rcases zy.1 hc with rfl|hc
   · omega
   · exact h8 c hc
theorem zqD {m:Met} (h:ub m=true):zo8 m:=by
  have hs:=zm1 h;have ho:=zra h
  have hf:∀k,k<m.Qp.length->((m.Qp.getD k default).own,(0:Int))::(m.Qp.getD k default).Qs∈gE m:=λk hk=>by
    unfold gE;exact jL _ (zV.2 ⟨_,uC hk,rfl⟩)
  have he:((⟨#[]⟩,0)::m.ends:List Way)∈gE m:=by unfold gE;simp
  have h':=h;unfold ub at h';simp only[qA,qG] at h';obtain⟨⟨⟨⟨h1,h2⟩,_⟩,_⟩,h5⟩:=h';obtain⟨hb1,hb2⟩:=uV m.Qt 0 (by omega) (by omega) h5;have hb3:∀b∈m.Qt,b.1<=16:=λb hb=>by have:=(hb2 b hb).2.1;omega
  refine⟨by omega,h2,λk hk=>?_,λk hk=>?_,λk hk j hj=>?_,?_,λj hj=>?_,by omega,λj hj=>?_⟩
  · exact ho.four _ (hf k hk) _ (jY ..)
  · have:=(hs.2 _ (hf k hk)).1;simp only[qv] at this;omega
  · exact⟨ho.four _ (hf k hk) _ (ke _ (uC hj)),(hs.2 _ (hf k hk)).2 _ (ke _ (uC hj))⟩
  · have:=(hs.2 _ he).1;simp only[qv] at this;omega
  · exact⟨ho.four _ he _ (ke _ (uC hj)),(hs.2 _ he).2 _ (ke _ (uC hj))⟩
  · have:=hb2 _ (uC hj);have:=hb3 _ (uC hj);omega
theorem uW (s:ByteArray):s.data.toList.length=s.size:=by rw[qP];rfl
theorem gm {t:List UInt8} (h:t.length<=4):(vB t).length<=20:=by
  unfold vB;cases hb:gw t with
  |none=>simp;omega
  |some f=>
   simp only[];have hm:f∈Kk:=zi hb;have:∀f∈Kk,f.1.length<=20:=(by decide+kernel);exact this f hm
theorem uQ {of:List UInt8->List UInt8} {l:List Way} (h:∀j,j<l.length->(of (l.getD j default).1.data.toList).length<=20/\0<=(l.getD j default).2/\(l.getD j default).2<=1048576):∀k,k<=l.length->(vG of l k).length<=k*50
  |0,_=>by simp[vG]
  |k+1,hk=>by
   have ih:=uQ h k (by omega);have h1:=h k (by omega);have h2:=Lib.itoa_length_le (l.getD k default).2 (by omega) (by omega);have h3:(if 0<k then vS else []).length<=2:=by split<;>simp[vS]
   unfold vG;simp only[qk,qv,qH];omega
theorem zo9 {m:Met} (h:zo8 m) (k:Nat) (hk:k<m.Qp.length):(gN m.Qp k).length<=800:=by
  unfold gN;split
  · have h1:=uQ (of:=vB) (l:=(m.Qp.getD k default).Qs) (λj hj=>⟨gm (by have:=(h.Qs k hk j hj).1;simpa using this),(h.Qs k hk j hj).2⟩) _ (ql _)
    have h2:=h.few k hk;have h3:=h.Qp;have h4:=Lib.itoa_length_le ((k:Int)+1) (by omega) (by omega);simp only[qk,zny,qv,qH];omega
  · simp
theorem gx {m:Met} (h:zo8 m):∀k,k<=m.Qp.length->(vV m.Qp k).length<=k*800
  |0,_=>by simp[vV]
  |k+1,hk=>by
   have ih:=gx h k (by omega);have h1:=zo9 h k (by omega);unfold vV;simp only[qk];omega
theorem znA {m:Met} (h:zo8 m):(uB m.ends).length<=900:=by
  unfold uB;split
  · have h1:=uQ (of:=id) (l:=m.ends) (λj hj=>⟨by rw[show id (m.ends.getD j default).1.data.toList=(m.ends.getD j default).1.data.toList from rfl,uW];have:=(h.ends j hj).1;omega,(h.ends j hj).2⟩) _ (ql _)
    have:=h.zuF;simp only[qk,zsr,qv,qH];omega
  · simp
theorem pn {m:Met} (h:zo8 m):∀k,k<=m.Qt.length->(vW m.Qt k).length<=k*60
  |0,_=>by simp[vW]
  |k+1,hk=>by
   have ih:=pn h k (by omega);have h1:=h.Qt k (by omega);have h2:=Lib.itoa_length_le (m.Qt.getD k default).1 (by omega) (by omega);have h3:=Lib.itoa_length_le (m.Qt.getD k default).2 (by omega) (by omega);unfold vW;simp only[qk,pO,qv,qH];omega
theorem zpa {m:Met} (h:zo8 m) {i j:Nat} (hi:i<m.Qp.length) (hj:j<=m.Qp.length):(gc m.Qp i j).length<=50:=by
  have h1:=gm (t:=(m.Qp.getD i default).own.data.toList) (by have:=h.own i hi;simpa using this);have h3:(if 0<i then vS else []).length<=2:=by split<;>simp[vS]
  have h4:=h.Qp;have h5:=Lib.itoa_length_le ((j-i:Nat):Int) (by omega) (by omega)
  have h6:(if 1<j-i then Lib.itoa ((j-i:Nat):Int)++[32] else []).length<=22:=by
    split
    · simp only[qk,qv,qH];omega
    · simp
  unfold gc;simp only[qk];omega
theorem pP {m:Met} (h:zo8 m):∀(n i:Nat),(vU m.Qp n i).length<=n*50
  |0,_=>by simp[vU]
  |n+1,i=>by
   unfold vU;split
   · rename_i hi
     have h1:=gM (fs:=m.Qp) (own:=(m.Qp.getD i default).own) (zR hi);have ih:=pP h n (vM m.Qp (m.Qp.getD i default).own i);have h2:=zpa h hi h1.2;simp only[qk];omega
   · simp
section
variable {w:World} {b:Nat} {lv vf ve vb:Value} {ec ep:Int}
end
variable {w w1 w':World} {base b:Nat} {lv lv':Value} {m:Met} {ec ep Xi Xj:Int} {vf ve vb:Value} {vs:List Value}
variable {s:ByteArray} {T cap i:Nat}
variable {w w1 w':World} {base b:Nat} {s:ByteArray} {T cap i:Nat} {m:Met} {ec ep:Int} {vf ve vb:Value} {vs:List Value}
end Go.Proofs.YtgklikkddckgbaaGreatDoor
namespace Go.Proofs.YtgklikkddckgbaaGreatDoor
open Go.Lib
end Go.Proofs.YtgklikkddckgbaaGreatDoor
namespace Go.Proofs.YtgklikkddckgbaaGreatDoor
open Go.RowKit
theorem pB {l:List UInt8} {n:Nat} (h:l.length<=n):(⟨l.toArray⟩:ByteArray).size<=n:=by
  show l.toArray.size<=n;simpa using h
theorem uO (v:Int) (w:World) (hv:Vars w) (h0:-9223372036854775808<=v) (h1:v<=9223372036854775807):
    Calls Tryz.prog 50 #[.int .i64 v] w λe w'=>∃T:ByteArray,e=.returned (.string T)/\T.data.toList=Lib.itoa v/\T.size<=21/\Below w.heap.size w w':=
  (zk5 v w hv h0 h1).mono λe w' ⟨he,hb⟩=>⟨_,he,by simp,pB (Lib.itoa_length_le v h0 h1),hb⟩
def BB (b:Nat) (l:List UInt8) (w:World):Prop:=Lib.IsBuilderF 120 5 b b (Lib.byteCells l) w
theorem gn {T e B b:Nat} {p:Value} {bs:List Value} {w w':World} (h:Lib.BuilderAtF T e B b p bs w) (hb:Below w.heap.size w w'):Lib.BuilderAtF T e B b p bs w':=by
  have hlt:=h.lt;obtain⟨hB,v,hc,hown,hne⟩:=h;exact⟨hB,v,(hb.block b hlt).trans hc,hown.kept (Vn hb none) (by cases hv:v.ownBlock<;>simp),hne⟩
theorem BB.below {b:Nat} {l:List UInt8} {w w':World} (h:BB b l w) (hb:Below w.heap.size w w'):BB b l w':=
  h.elim (λx=>.inl (gn x hb)) (λx=>.inr (gn x hb))
theorem BB.lt {b:Nat} {l:List UInt8} {w:World} (h:BB b l w):b<w.heap.size:=h.elim (λx=>x.lt) (λx=>x.lt)
def FN74 (b:Nat):Value:=.func (.func 74) #[] #[.pointer (some ⟨b,0,none⟩)]
structure PS (b p:Nat) (W2:World) (l:List UInt8) (w:World):Prop where
  bb:BB b l w
  fn:w.heap[p]?=some (.cells #[FN74 b] 151 (0,0))
  lo:Below b W2 w
  ne:p≠b
theorem PS.bw {b p:Nat} {W2 w:World} {l:List UInt8} (h:PS b p W2 l w):b<w.heap.size:=h.bb.lt
theorem PS.pw {b p:Nat} {W2 w:World} {l:List UInt8} (h:PS b p W2 l w):p<w.heap.size:=(qg h.fn).1
theorem PS.below {b p:Nat} {W2 w w':World} {l:List UInt8} (h:PS b p W2 l w) (hb:Below w.heap.size w w'):PS b p W2 l w':=
  ⟨h.bb.below hb,(hb.block p h.pw).trans h.fn,h.lo.trans (hb.mono (zR h.bw)),h.ne⟩
theorem PS.alloc {b p:Nat} {W2 w:World} {l:List UInt8} (h:PS b p W2 l w) (o:Obj):PS b p W2 l (w.alloc o):=h.below ((qb _ _).alloc (ql _) o)
theorem PS.cell {b p:Nat} {W2 w:World} {l:List UInt8} (h:PS b p W2 l w):w.cell? ⟨p,0,none⟩=some (.func (.func 74) #[] #[.pointer (some ⟨b,0,none⟩)]):=qc _ _ 0 _ 151 (0,0) h.fn
structure SB (b p vb t:Nat) (x y:Value) (wq w:World):Prop where
  lo:Below b wq w
  bw:b<w.heap.size
  box:w.heap[vb]?=some (.cells #[x,y] t (0,0))
  fn:w.heap[p]?=some (.cells #[FN74 b] 151 (0,0))
  vne:vb≠b
  pne:p≠b
  t5:t≠5
theorem SB.all {b p vb t:Nat} {x y:Value} {wq w:World} (h:SB b p vb t x y wq w):SB b p vb t x y wq w/\w.cell? ⟨vb,0,none⟩=some x/\w.cell? ⟨vb,1,none⟩=some y/\w.cell? ⟨p,0,none⟩=some (.func (.func 74) #[] #[.pointer (some ⟨b,0,none⟩)]):=
  ⟨h,qc _ _ 0 _ t (0,0) h.box,qc _ _ 1 _ t (0,0) h.box,qc _ _ 0 _ 151 (0,0) h.fn⟩
theorem SB.keep {b p vb t:Nat} {x y:Value} {wq w w':World} (h:SB b p vb t x y wq w) (hb:Below w.heap.size w w'):SB b p vb t x y wq w':=
  ⟨h.lo.trans (hb.mono (zR h.bw)),by have:=hb.size;have:=h.bw;omega,(hb.block _ (qg h.box).1).trans h.box,(hb.block _ (qg h.fn).1).trans h.fn,h.vne,h.pne,h.t5⟩
section
variable {P:Program} {ops:Array Oper} {Q:Exit->Act->World->Prop}
end
section
variable {m:Met} {W2 wr w':World} {b4 b9 b12 b17 b20 b21 b22 b23:Bool} {x3 x10 x15 x18 x23 x26 x27:Value}
end
end Go.Proofs.YtgklikkddckgbaaGreatDoor
namespace Go.Proofs
open Go.Shelf Go.RowKit
def Tryz.Xu:Go.Shelf.Ren:=⟨fun|169=>52|n=>n,fun|70=>118|9=>9|0=>0|72=>120|37=>25|127=>156|3=>3|5=>5|n=>n,fun|n=>n⟩
theorem Tryz.zta:Go.Proofs.Lays.n169 Tryz.prog Tryz.Xu:={
  mixed:=by kernel_rfl
  f169:=Tryz.func52.trans (congrArg some (by kernel_rfl))
  t0:=Tryz.underlying0
  a0:=Tryz.isAgg0
  z0:=Tryz.sizeOf0
  v0:=Tryz.zeroValue0
  t3:=Tryz.underlying3
  a3:=Tryz.isAgg3
  z3:=Tryz.sizeOf3
  v3:=Tryz.zeroValue3
  t9:=Tryz.underlying9
  a9:=Tryz.isAgg9
  z9:=Tryz.sizeOf9
  v9:=Tryz.zeroValue9
  t37:=Tryz.underlying25
  a37:=Tryz.isAgg25
  z37:=Tryz.sizeOf25
  v37:=Tryz.zeroValue25
  t70:=Tryz.underlying118
  a70:=Tryz.isAgg118
  z70:=Tryz.sizeOf118
  v70:=Tryz.zeroValue118
  t72:=Tryz.underlying120
  a72:=Tryz.isAgg120
  z72:=Tryz.sizeOf120
  v72:=Tryz.zeroValue120
  t127:=Tryz.underlying156
  a127:=Tryz.isAgg156
  z127:=Tryz.sizeOf156
  v127:=Tryz.zeroValue156}
theorem Tryz.J3:Builder.Extra Tryz.prog Tryz.Xu:={
  sizeBuilder:=by kernel_rfl
  liesBuilder:=by kernel_rfl
  t5:=Tryz.underlying5
  a5:=Tryz.isAgg5
  z5:=Tryz.sizeOf5
  v5:=Tryz.zeroValue5
  infoByte:=by kernel_rfl
  cellsByte:=by kernel_rfl
  sizeByte:=by kernel_rfl
  neB5:=by decide}
def Tryz.Xv:Go.Shelf.Ren:=⟨fun|158=>81|165=>98|166=>48|167=>108|169=>52|230=>109|203=>110|240=>72|241=>124|197=>99|118=>138|168=>139|270=>140|262=>141|276=>103|277=>155|260=>125|242=>169|313=>170|278=>192|274=>193|275=>194|n=>n,fun|9=>9|4=>4|3=>3|5=>5|72=>120|0=>0|76=>123|75=>122|107=>177|70=>118|20=>20|37=>25|127=>156|21=>21|105=>162|164=>169|162=>244|203=>242|119=>225|46=>184|139=>228|138=>227|51=>221|160=>256|208=>270|206=>268|80=>68|n=>n,fun|13=>4|3=>1|4=>2|n=>n⟩
theorem Tryz.ztb:Go.Proofs.Lays.n158 Tryz.prog Tryz.Xv:={
  mixed:=by kernel_rfl
  f118:=Tryz.func138.trans (congrArg some (by kernel_rfl))
  f158:=Tryz.func81.trans (congrArg some (by kernel_rfl))
  f165:=Tryz.func98.trans (congrArg some (by kernel_rfl))
  f166:=Tryz.func48.trans (congrArg some (by kernel_rfl))
  f167:=Tryz.func108.trans (congrArg some (by kernel_rfl))
  f168:=Tryz.func139.trans (congrArg some (by kernel_rfl))
  f169:=Tryz.func52.trans (congrArg some (by kernel_rfl))
  f197:=Tryz.func99.trans (congrArg some (by kernel_rfl))
  f203:=Tryz.func110.trans (congrArg some (by kernel_rfl))
  f230:=Tryz.func109.trans (congrArg some (by kernel_rfl))
  f240:=Tryz.func72.trans (congrArg some (by kernel_rfl))
  f241:=Tryz.func124.trans (congrArg some (by kernel_rfl))
  f242:=Tryz.func169.trans (congrArg some (by kernel_rfl))
  f260:=Tryz.func125.trans (congrArg some (by kernel_rfl))
  f262:=Tryz.func141.trans (congrArg some (by kernel_rfl))
  f270:=Tryz.func140.trans (congrArg some (by kernel_rfl))
  f274:=Tryz.func193.trans (congrArg some (by kernel_rfl))
  f275:=Tryz.func194.trans (congrArg some (by kernel_rfl))
  f276:=Tryz.func103.trans (congrArg some (by kernel_rfl))
  f277:=Tryz.func155.trans (congrArg some (by kernel_rfl))
  f278:=Tryz.func192.trans (congrArg some (by kernel_rfl))
  f313:=Tryz.func170.trans (congrArg some (by kernel_rfl))
  t0:=Tryz.underlying0
  a0:=Tryz.isAgg0
  z0:=Tryz.sizeOf0
  v0:=Tryz.zeroValue0
  t3:=Tryz.underlying3
  a3:=Tryz.isAgg3
  z3:=Tryz.sizeOf3
  v3:=Tryz.zeroValue3
  t4:=Tryz.underlying4
  a4:=Tryz.isAgg4
  z4:=Tryz.sizeOf4
  v4:=Tryz.zeroValue4
  t5:=Tryz.underlying5
  a5:=Tryz.isAgg5
  z5:=Tryz.sizeOf5
  v5:=Tryz.zeroValue5
  t9:=Tryz.underlying9
  a9:=Tryz.isAgg9
  z9:=Tryz.sizeOf9
  v9:=Tryz.zeroValue9
  t20:=Tryz.underlying20
  a20:=Tryz.isAgg20
  z20:=Tryz.sizeOf20
  v20:=Tryz.zeroValue20
  t21:=Tryz.underlying21
  a21:=Tryz.isAgg21
  z21:=Tryz.sizeOf21
  v21:=Tryz.zeroValue21
  t37:=Tryz.underlying25
  a37:=Tryz.isAgg25
  z37:=Tryz.sizeOf25
  v37:=Tryz.zeroValue25
  t46:=Tryz.underlying184
  a46:=Tryz.isAgg184
  z46:=Tryz.sizeOf184
  v46:=Tryz.zeroValue184
  t51:=Tryz.underlying221
  a51:=Tryz.isAgg221
  z51:=Tryz.sizeOf221
  v51:=Tryz.zeroValue221
  t70:=Tryz.underlying118
  a70:=Tryz.isAgg118
  z70:=Tryz.sizeOf118
  v70:=Tryz.zeroValue118
  t72:=Tryz.underlying120
  a72:=Tryz.isAgg120
  z72:=Tryz.sizeOf120
  v72:=Tryz.zeroValue120
  t75:=Tryz.underlying122
  a75:=Tryz.isAgg122
  z75:=Tryz.sizeOf122
  v75:=Tryz.zeroValue122
  t76:=Tryz.underlying123
  a76:=Tryz.isAgg123
  z76:=Tryz.sizeOf123
  v76:=Tryz.zeroValue123
  t105:=Tryz.underlying162
  a105:=Tryz.isAgg162
  z105:=Tryz.sizeOf162
  v105:=Tryz.zeroValue162
  t107:=Tryz.underlying177
  a107:=Tryz.isAgg177
  z107:=Tryz.sizeOf177
  v107:=Tryz.zeroValue177
  t119:=Tryz.underlying225
  a119:=Tryz.isAgg225
  z119:=Tryz.sizeOf225
  t127:=Tryz.underlying156
  a127:=Tryz.isAgg156
  z127:=Tryz.sizeOf156
  v127:=Tryz.zeroValue156
  t138:=Tryz.underlying227
  a138:=Tryz.isAgg227
  z138:=Tryz.sizeOf227
  v138:=Tryz.zeroValue227
  t139:=Tryz.underlying228
  a139:=Tryz.isAgg228
  z139:=Tryz.sizeOf228
  v139:=Tryz.zeroValue228
  t160:=Tryz.underlying256
  a160:=Tryz.isAgg256
  z160:=Tryz.sizeOf256
  v160:=Tryz.zeroValue256
  t162:=Tryz.underlying244
  a162:=Tryz.isAgg244
  z162:=Tryz.sizeOf244
  v162:=Tryz.zeroValue244
  t164:=Tryz.underlying169
  a164:=Tryz.isAgg169
  z164:=Tryz.sizeOf169
  v164:=Tryz.zeroValue169
  t203:=Tryz.underlying242
  a203:=Tryz.isAgg242
  z203:=Tryz.sizeOf242
  v203:=Tryz.zeroValue242
  t206:=Tryz.underlying268
  a206:=Tryz.isAgg268
  z206:=Tryz.sizeOf268
  v206:=Tryz.zeroValue268
  t208:=Tryz.underlying270
  a208:=Tryz.isAgg270
  z208:=Tryz.sizeOf270
  v208:=Tryz.zeroValue270
  g3:=by kernel_rfl
  g4:=by kernel_rfl
  g13:=by kernel_rfl}
theorem Tryz.J4:Builder.Extra Tryz.prog Tryz.Xv:={
  sizeBuilder:=by kernel_rfl
  liesBuilder:=by kernel_rfl
  t5:=Tryz.underlying5
  a5:=Tryz.isAgg5
  z5:=Tryz.sizeOf5
  v5:=Tryz.zeroValue5
  infoByte:=by kernel_rfl
  cellsByte:=by kernel_rfl
  sizeByte:=by kernel_rfl
  neB5:=by decide}
open Go.RowKit in
theorem Tryz.strings_ToUpper_ascii (s:ByteArray) (w:World) (hs:s.size<=140737488355328) (hascii:∀(j:Nat) (b:UInt8),s.data.toList[j]?=some b->b.toNat<128):
    Calls Tryz.prog 81 #[.string s] w λe w'=>e=.returned (.string ⟨(Lib.toUpperA s.data.toList).toArray⟩)/\Below w.heap.size w w':=Any.strings_ToUpper_ascii Tryz.ztb Tryz.J4 s w hs hascii
def Tryz.K6:Go.Shelf.Ren:=⟨fun|156=>75|165=>98|166=>48|169=>52|240=>72|241=>124|276=>103|277=>155|n=>n,fun|31=>149|9=>9|3=>3|4=>4|0=>0|20=>20|72=>120|76=>123|70=>118|37=>25|75=>122|127=>156|164=>169|5=>5|80=>68|n=>n,fun|n=>n⟩
theorem Tryz.zrv:Go.Proofs.Lays.n156 Tryz.prog Tryz.K6:={
  mixed:=by kernel_rfl
  f156:=Tryz.func75.trans (congrArg some (by kernel_rfl))
  f165:=Tryz.func98.trans (congrArg some (by kernel_rfl))
  f166:=Tryz.func48.trans (congrArg some (by kernel_rfl))
  f169:=Tryz.func52.trans (congrArg some (by kernel_rfl))
  f240:=Tryz.func72.trans (congrArg some (by kernel_rfl))
  f241:=Tryz.func124.trans (congrArg some (by kernel_rfl))
  f276:=Tryz.func103.trans (congrArg some (by kernel_rfl))
  f277:=Tryz.func155.trans (congrArg some (by kernel_rfl))
  t0:=Tryz.underlying0
  a0:=Tryz.isAgg0
  z0:=Tryz.sizeOf0
  v0:=Tryz.zeroValue0
  t3:=Tryz.underlying3
  a3:=Tryz.isAgg3
  z3:=Tryz.sizeOf3
  v3:=Tryz.zeroValue3
  t4:=Tryz.underlying4
  a4:=Tryz.isAgg4
  z4:=Tryz.sizeOf4
  v4:=Tryz.zeroValue4
  t9:=Tryz.underlying9
  a9:=Tryz.isAgg9
  z9:=Tryz.sizeOf9
  v9:=Tryz.zeroValue9
  t20:=Tryz.underlying20
  a20:=Tryz.isAgg20
  z20:=Tryz.sizeOf20
  v20:=Tryz.zeroValue20
  t31:=Tryz.underlying149
  a31:=Tryz.isAgg149
  z31:=Tryz.sizeOf149
  v31:=Tryz.zeroValue149
  t37:=Tryz.underlying25
  a37:=Tryz.isAgg25
  z37:=Tryz.sizeOf25
  v37:=Tryz.zeroValue25
  t70:=Tryz.underlying118
  a70:=Tryz.isAgg118
  z70:=Tryz.sizeOf118
  v70:=Tryz.zeroValue118
  t72:=Tryz.underlying120
  a72:=Tryz.isAgg120
  z72:=Tryz.sizeOf120
  v72:=Tryz.zeroValue120
  t75:=Tryz.underlying122
  a75:=Tryz.isAgg122
  z75:=Tryz.sizeOf122
  v75:=Tryz.zeroValue122
  t76:=Tryz.underlying123
  a76:=Tryz.isAgg123
  z76:=Tryz.sizeOf123
  v76:=Tryz.zeroValue123
  t127:=Tryz.underlying156
  a127:=Tryz.isAgg156
  z127:=Tryz.sizeOf156
  v127:=Tryz.zeroValue156
  t164:=Tryz.underlying169
  a164:=Tryz.isAgg169
  z164:=Tryz.sizeOf169
  v164:=Tryz.zeroValue169}
theorem Tryz.Kl:Builder.Extra Tryz.prog Tryz.K6:={
  sizeBuilder:=by kernel_rfl
  liesBuilder:=by kernel_rfl
  t5:=Tryz.underlying5
  a5:=Tryz.isAgg5
  z5:=Tryz.sizeOf5
  v5:=Tryz.zeroValue5
  infoByte:=by kernel_rfl
  cellsByte:=by kernel_rfl
  sizeByte:=by kernel_rfl
  neB5:=by decide}
open Go.RowKit in
theorem Tryz.strings_Join (bk o c:Nat) (xs:List ByteArray) (sep:ByteArray) (w:World) (hcells:∀(j:Nat) x,xs[j]?=some x->w.cell? ⟨bk,o+j,none⟩=some (.string x)) (hbk:bk<w.heap.size) (hN:xs.length<=140737488355328) (hcap:xs.length<=c) (hlen:(Lib.join (xs.map (·.data.toList)) sep.data.toList).length<=140737488355328):
    Calls Tryz.prog 75 #[.slice (some ⟨bk,o,none⟩) xs.length c,.string sep] w λe w'=>e=.returned (.string ⟨(Lib.join (xs.map (·.data.toList)) sep.data.toList).toArray⟩)/\Below w.heap.size w w':=Any.strings_Join Tryz.zrv Tryz.Kl bk o c xs sep w hcells hbk hN hcap hlen
open Go.RowKit in
theorem Tryz.Builder_String_any_k (B b:Nat) (l:List UInt8) (w:World) (h:Lib.IsBuilderF 120 5 B b (Lib.byteCells l) w) (hBw:B<=w.heap.size):
    Calls Tryz.prog 52 #[.pointer (some ⟨b,0,none⟩)] w λe w'=>e=.returned (.string ⟨l.toArray⟩)/\(Lib.IsBuilderF 120 5 B b (Lib.byteCells l) w'/\Below B w w'/\Lib.OthersKept 5 (some b) w w'):=Any.Builder_String_any_k Tryz.zta Tryz.J3 B b l w h hBw
def Tryz.UO:Go.Shelf.Ren:=⟨fun|110=>133|109=>163|n=>n,fun|31=>149|9=>9|4=>4|3=>3|0=>0|n=>n,fun|n=>n⟩
theorem Tryz.zrw:Go.Proofs.Lays.n110 Tryz.prog Tryz.UO:={
  mixed:=by kernel_rfl
  f109:=Tryz.func163.trans (congrArg some (by kernel_rfl))
  f110:=Tryz.func133.trans (congrArg some (by kernel_rfl))
  t0:=Tryz.underlying0
  a0:=Tryz.isAgg0
  z0:=Tryz.sizeOf0
  v0:=Tryz.zeroValue0
  t3:=Tryz.underlying3
  a3:=Tryz.isAgg3
  z3:=Tryz.sizeOf3
  v3:=Tryz.zeroValue3
  t4:=Tryz.underlying4
  a4:=Tryz.isAgg4
  z4:=Tryz.sizeOf4
  v4:=Tryz.zeroValue4
  t9:=Tryz.underlying9
  a9:=Tryz.isAgg9
  z9:=Tryz.sizeOf9
  v9:=Tryz.zeroValue9
  t31:=Tryz.underlying149
  a31:=Tryz.isAgg149
  z31:=Tryz.sizeOf149
  v31:=Tryz.zeroValue149}
open Go.Lib in
theorem Tryz.slices_Contains_string (b off n c:Nat) (zs:List ByteArray) (x:ByteArray) (w:World) (hz:n<=zs.length) (hbig:n<=9223372036854775807) (hc:∀j,j<zs.length->w.cell? ⟨b,off+j,none⟩=some (.string (zs.getD j ByteArray.empty))):
    Calls Tryz.prog 133 #[.slice (some ⟨b,off,none⟩) n c,.string x] w λe w'=>e=.returned (.bool (Lib.containsS (zs.take n) x))/\w'=w:=Any.slices_Contains_string Tryz.zrw b off n c zs x w hz hbig hc
open Go.Lib in
theorem Tryz.slices_Contains_string_empty (a:Option Addr) (c:Nat) (x:ByteArray) (w:World):
    Calls Tryz.prog 133 #[.slice a 0 c,.string x] w λe w'=>e=.returned (.bool false)/\w'=w:=Any.slices_Contains_string_empty Tryz.zrw a c x w
end Go.Proofs

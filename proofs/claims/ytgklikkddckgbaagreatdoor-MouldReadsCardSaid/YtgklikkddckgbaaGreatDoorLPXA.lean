import Derived.Test.YtgklikkddckgbaaGreatDoorLDW
import Derived.BigQuiet
import Derived.Deep.CutBlock
import Derived.Deep.OwnRows
import Derived.Deep.RegionHeld3
import Derived.Handy
import Derived.Laws.AppendOwnNone
import Derived.Lib.ItoaLen
import Derived.Shelf.Strings.BuilderK
import Derived.Stop.RegionWithIn
import Derived.WalkLawsBesides
import Derived.WalkSpells
import Derived.Shelf.Strings.OnBuilder
import Derived.Shelf.Small.Utf8
import Derived.Shelf.Small.Strs
import Derived.Shelf.Utf8.RuneCount
import Derived.Shelf.LaysM
import Derived.Shelf.Slices.Turned
/- Lemmas. -/
set_option linter.all false
set_option maxRecDepth 100000
set_option maxHeartbeats 16000000
namespace Go.Proofs.YtgklikkddckgbaaGreatDoor
open Go.RowKit
end Go.Proofs.YtgklikkddckgbaaGreatDoor
namespace Go.Proofs.YtgklikkddckgbaaGreatDoor
open Go Go.RowKit
end Go.Proofs.YtgklikkddckgbaaGreatDoor
namespace Go.Proofs.YtgklikkddckgbaaGreatDoor
open Go.RowKit
theorem znT (a:ByteArray):ph a a=true:=by simp[ph]
theorem zp7.keep {w w':World} {B b o:Nat} {f:Ft} (h:zp7 w B b o f) (hb:b<B) (hk:∀p:Addr,p.block<B->w'.cell? p=w.cell? p):zp7 w' B b o f:=by
  obtain⟨h1,A,c,h2,h3,h4⟩:=h;exact⟨(hk ⟨b,_,none⟩ hb).trans h1,A,c,(hk ⟨b,_,none⟩ hb).trans h2,h3,h4.keep hk⟩
theorem zli.keep {w w':World} {B:Nat} {A:Option Addr} {fs:List Ft} (h:zli w B A fs) (hk:∀p:Addr,p.block<B->w'.cell? p=w.cell? p):zli w' B A fs:=λhl=>by
  obtain⟨b,off,e,hb,hn⟩:=h hl;exact⟨b,off,e,hb,λk hk'=>(hn k hk').keep hb hk⟩
theorem zli.below {w w':World} {B:Nat} {A:Option Addr} {fs:List Ft} (h:zli w B A fs) (hb:Below B w w'):zli w' B A fs:=h.keep λp hp=>hb.cell hp
theorem zli.more {w:World} {B B':Nat} {A:Option Addr} {fs:List Ft} (h:zli w B A fs) (hB:B<=B'):zli w B' A fs:=λhl=>by
  obtain⟨b,off,e,hb,hn⟩:=h hl;refine⟨b,off,e,by omega,λk hk=>?_⟩;obtain⟨h1,A,c,h2,h3,h4⟩:=hn k hk;exact⟨h1,A,c,h2,h3,h4.more hB⟩
end Go.Proofs.YtgklikkddckgbaaGreatDoor
namespace Go.Proofs.YtgklikkddckgbaaGreatDoor
end Go.Proofs.YtgklikkddckgbaaGreatDoor
namespace Go.Proofs.YtgklikkddckgbaaGreatDoor
def uN (own:List ByteArray) (s:ByteArray):Bool:=own.any λo=>ph o s
def gC (lg:Int) (own:List ByteArray) (pre:List Way) (v:Way):Bool:=
  QC v.1 1 lg&&decide (0<=v.2)&&decide (v.2<=1048576)&&!(pre.any λu=>ph u.1 v.1)&&!uN own v.1
def yZ (lg:Int) (own:List ByteArray):List Way->List Way->Bool
  |_,[]=>true
  |pre,v::l=>gC lg own pre v&&yZ lg own (pre++[v]) l
def vt (l:List Way) (most lg:Int) (own:List ByteArray):Bool:=decide ((l.length:Int)<=most)&&yZ lg own [] l
def va (f:Ft):Bool:=QC f.own 1 4&&vt f.gR 15 4 [f.own]
def yS (n:Int):Int->List (Int×Int)->Bool
  |_,[]=>true
  |a,b::l=>decide (a<b.1)&&decide (b.1<n)&&decide (1<=b.2)&&decide (b.2<=1048576)&&yS n b.1 l
def vp (m:Met):Bool:=decide (1<=m.gO.length)&&decide (m.gO.length<=16)&&vt m.ends 4 2 []&&m.gO.all va&&yS m.gO.length 0 m.gS
theorem ug {α:Type} [Inhabited α] (l:List α) (k:Nat) (h:k<l.length):l.drop k=l.getD k default::l.drop (k+1):=by
  rw[zm h];simp[qj,h]
def ut (m:Met):List (List Way):=m.gO.map (λf=>(f.own,(0:Int))::f.gR)++[(⟨#[]⟩,0)::m.ends]
theorem zoP (m:Met):(ut m).length=m.gO.length+1:=by simp[ut]
end Go.Proofs.YtgklikkddckgbaaGreatDoor
namespace Go.Proofs.YtgklikkddckgbaaGreatDoor
open Go.RowKit Go.Shelf Go.Lib
attribute [local go_sem] jd
def uZ (t:List UInt8):Option F3:=Zp.find? λf=>f.2.1==t
theorem zmW {t:List UInt8} {m:Nat} (hm:m<14) (h:((pu m).2.1==t)=true) (hn:∀j,j<m->((pu j).2.1==t)=false):uZ t=some (pu m):=
  zfa (λf:F3=>f.2.1==t) ([],[],[]) Zp m hm h hn
theorem zmX {t:List UInt8} (hn:∀j,j<14->((pu j).2.1==t)=false):uZ t=none:=
  zge (λf:F3=>f.2.1==t) ([],[],[]) Zp hn
def yN (t:List UInt8):List UInt8:=match uZ t with|some f=>f.1|none=>t
theorem znn (j:Nat) (t:ByteArray):((pu j).2.1==t.toList)=((pu j).2.1==t.data.toList):=by
  rw[qW]
end Go.Proofs.YtgklikkddckgbaaGreatDoor
namespace Go.Proofs.YtgklikkddckgbaaGreatDoor
open Go.RowKit
theorem znU (w:World) (j:Nat) (hj:j<14) (wr:World) (hb:Below (w.heap.size+1) (w.alloc (.cells Y7 173)) wr):
    wr.cell? ⟨w.heap.size,j*3,none⟩=some (vT (pu j).1)/\wr.cell? ⟨w.heap.size,j*3+1,none⟩=some (vT (pu j).2.1)/\wr.cell? ⟨w.heap.size,j*3+2,none⟩=some (vT (pu j).2.2):=by
  have hh:wr.heap[w.heap.size]?=some (.cells Y7 173 (0,0)):=(hb.block _ (by omega)).trans (qn w _)
  have hc:∀(k:Nat) (v:Value),Y7[k]?=some v->wr.cell? ⟨w.heap.size,k,none⟩=some v:=λk v h=>by
    simp only[World.cell?,hh];exact h
  have hall:∀j,j<14->Y7[j*3]?=some (vT (pu j).1)/\Y7[j*3+1]?=some (vT (pu j).2.1)/\Y7[j*3+2]?=some (vT (pu j).2.2):=by
    intro j hj;have:j=0∨j=1∨j=2∨j=3∨j=4∨j=5∨j=6∨j=7∨j=8∨j=9∨j=10∨j=11∨j=12∨j=13:=(by omega);rcases this with rfl|rfl|rfl|rfl|rfl|rfl|rfl|rfl|rfl|rfl|rfl|rfl|rfl|rfl<;>exact⟨rfl,rfl,rfl⟩
  obtain⟨h1,h2,h3⟩:=hall j hj;exact⟨hc _ _ h1,hc _ _ h2,hc _ _ h3⟩
theorem znV (t:ByteArray) (w:World):
    Calls Tryz.prog 83 #[.string t] w λe w'=>e=.returned (.string ⟨(yN t.data.toList).toArray⟩)/\Below w.heap.size w w':=by
  go_enter Tryz.func83,Tryz.ntmps83;go_wp2_with (go_at_call 111;refine(zg4 _).mono ?_);rintro e w1 ⟨rfl,rfl⟩;have Hc:=qh (znU w);have HB1:=qh ((qb w.heap.size w).alloc (ql _) (.cells Y7 173));have sW:(w.alloc (.cells Y7 173)).heap.size=w.heap.size+1:=by simp
  generalize w.alloc (.cells Y7 173)=W1 at*;go_wp2_with fail;go_loopw [7] (λq wr=>∃k:Nat,k<=14/\q=.int .i64 k/\Hid (∀j,j<k->((pu j).2.1==t.data.toList)=false)/\Hid (Below W1.heap.size W1 wr)) (λq _=>14-(intOf q).toNat)
  case atStart=>exact⟨0,by omega,rfl,qh (λj hj=>by omega),qh (qb _ _)⟩
  case round=>
    rename_i wr;obtain⟨k,hk,rfl,hno,hb⟩:=hrel;by_cases hlt:k<14
    · obtain⟨c0,c1,c2⟩:=Hc.out k hlt wr (by rw[<-sW];exact hb.out)
      have hs:=hb.out.size;have zr4:=qh (λ(h:((pu k).2.1==t.data.toList)=true)=>zmW hlt h hno.out)
      have zq3:=qh (λ(h:((pu k).2.1==t.data.toList)=false) j (hj:j<k+1)=>(by
        rcases Nat.lt_or_ge j k with h'|h'
        · exact hno.out j h'
        · obtain rfl:j=k:=by omega
          exact h:((pu j).2.1==t.data.toList)=false))
      have hfn:=znn k t;generalize pu k=f at*;obtain⟨f0,f1,f2⟩:=f;simp only[vT] at c0 c1 c2 zr4 zq3 hfn;have hbx:Below W1.heap.size W1 (wr.alloc (.cells #[.string ⟨f0.toArray⟩,.string ⟨f1.toArray⟩,.string ⟨f2.toArray⟩] 173)):=hb.out.alloc hs _;have Hbx:=qh hbx;have k3:(k:Int).toNat*3=k*3:=(by simp);clear hbx;cases hq:(f1==t.data.toList) with
      |true=>
       rw[hq] at hfn;have HL:=qh (zr4.out hq);clear hq;go_wp2_with fail;go_ret;refine⟨?_,HB1.out.trans (Hbx.out.mono (by omega))⟩;simp[yN,HL.out]
      |false=>
       rw[hq] at hfn;have HN:=qh (zq3.out hq);clear hq;go_wp2_with fail;go_roundw
       case rel=>exact⟨k+1,by omega,by go_num,HN,Hbx⟩
       case measure=>simp[intOf];omega
    · obtain rfl:k=14:=by omega
      go_wp2_with fail;go_ret;refine⟨?_,HB1.out.trans (hb.out.mono (by omega))⟩;simp[yN,zmX hno.out]
def QU (w:World) (B:Nat) (A:Option Addr) (l:List ByteArray):Prop:=
  0<l.length->∃b off,A=some ⟨b,off,none⟩/\b<B/\∀k,k<l.length->w.cell? ⟨b,off+k,none⟩=some (.string (l.getD k ByteArray.empty))
theorem QU.below {w w':World} {B:Nat} {A:Option Addr} {l:List ByteArray} (h:QU w B A l) (hb:Below B w w'):QU w' B A l:=λhl=>by
  obtain⟨b,off,e,hbb,hn⟩:=h hl;exact⟨b,off,e,hbb,λk hk=>(hb.cell (p:=⟨b,_,none⟩) hbb).trans (hn k hk)⟩
theorem QU.more {w:World} {B B':Nat} {A:Option Addr} {l:List ByteArray} (h:QU w B A l) (hB:B<=B'):QU w B' A l:=λhl=>by
  obtain⟨b,off,e,hb,hn⟩:=h hl;exact⟨b,off,e,by omega,hn⟩
def QG (w:World) (B:Nat) (A:Option Addr) (l:List (Int×Int)):Prop:=
  0<l.length->∃b off,A=some ⟨b,off,none⟩/\b<B/\∀k,k<l.length->w.cell? ⟨b,off+k*2,none⟩=some (.int .i64 (l.getD k default).1)/\w.cell? ⟨b,off+k*2+1,none⟩=some (.int .i64 (l.getD k default).2)
theorem QG.keep {w w':World} {B:Nat} {A:Option Addr} {l:List (Int×Int)} (h:QG w B A l) (hk:∀p:Addr,p.block<B->w'.cell? p=w.cell? p):QG w' B A l:=λhl=>by
  obtain⟨b,off,e,hb,hn⟩:=h hl;exact⟨b,off,e,hb,λk hk'=>⟨(hk ⟨b,_,none⟩ hb).trans (hn k hk').1,(hk ⟨b,_,none⟩ hb).trans (hn k hk').2⟩⟩
theorem QG.below {w w':World} {B:Nat} {A:Option Addr} {l:List (Int×Int)} (h:QG w B A l) (hb:Below B w w'):QG w' B A l:=h.keep λp hp=>hb.cell hp
theorem QG.more {w:World} {B B':Nat} {A:Option Addr} {l:List (Int×Int)} (h:QG w B A l) (hB:B<=B'):QG w B' A l:=λhl=>by
  obtain⟨b,off,e,hb,hn⟩:=h hl;exact⟨b,off,e,by omega,hn⟩
structure zmP (m:Met):Prop where
  gO:m.gO.length<=4611686018427387904
  gR:∀f∈m.gO,f.gR.length<=4611686018427387904/\f.own.size<=9223372036854775807/\∀v∈f.gR,v.1.size<=9223372036854775807
  ends:m.ends.length<=4611686018427387904/\∀v∈m.ends,v.1.size<=9223372036854775807
  gS:m.gS.length<=4611686018427387904
structure pW (w:World) (B:Nat) (Af Ae Ab:Option Addr) (cf ce cb:Nat) (m:Met):Prop where
  gO:zli w B Af m.gO
  ends:pn w B Ae m.ends
  gS:QG w B Ab m.gS
  cf:m.gO.length<=cf
  ce:m.ends.length<=ce
  cb:m.gS.length<=cb
  bd:zmP m
theorem pW.below {w w':World} {B:Nat} {Af Ae Ab:Option Addr} {cf ce cb:Nat} {m:Met} (h:pW w B Af Ae Ab cf ce cb m) (hb:Below B w w'):pW w' B Af Ae Ab cf ce cb m:=⟨h.gO.below hb,h.ends.below hb,h.gS.below hb,h.cf,h.ce,h.cb,h.bd⟩
theorem pW.more {w:World} {B B':Nat} {Af Ae Ab:Option Addr} {cf ce cb:Nat} {m:Met} (h:pW w B Af Ae Ab cf ce cb m) (hB:B<=B'):pW w B' Af Ae Ab cf ce cb m:=⟨h.gO.more hB,h.ends.more hB,h.gS.more hB,h.cf,h.ce,h.cb,h.bd⟩
theorem pW.on {w w':World} {Af Ae Ab:Option Addr} {cf ce cb:Nat} {m:Met} (h:pW w w.heap.size Af Ae Ab cf ce cb m) (hb:Below w.heap.size w w'):pW w' w'.heap.size Af Ae Ab cf ce cb m:=(h.below hb).more hb.size
structure Small (m:Met):Prop where
  gO:m.gO.length<=16
  pos:0<m.gO.length
  gR:∀f∈m.gO,f.gR.length<=15
  ends:m.ends.length<=4
theorem zpk {m:Met} (h:vp m=true):Small m:=by
  unfold vp at h;simp only[qA,qC] at h;obtain⟨⟨⟨⟨h1,h2⟩,h3⟩,h4⟩,h5⟩:=h;unfold vt at h3;simp only[qA,qC] at h3;refine⟨h2,h1,λf hf=>?_,by omega⟩;have:=zO.1 h4 f hf;unfold va vt at this;simp only[qA,qC] at this;omega
theorem OM.below {w w':World} {base:Nat} {m:Met} {vf ve vb:Value} {vs:List Value} (h:OM w base m vf ve vb vs) (hb:Below w.heap.size w w'):OM w' base m vf ve vb vs:=
  ⟨h.vl,h.gO.kept (Zq hb none) ZH,λk hk=>(h.gR k hk).kept (Zq hb none) ZH,h.ends.kept (Zq hb none) ZH,h.gS.kept (Zq hb none) ZH,h.apart⟩
theorem vH {lg:Int} {own:List ByteArray}:∀{pre l:List Way},yZ lg own pre l=true->∀v∈l,0<=v.2/\v.2<=1048576/\QC v.1 1 lg=true
  |_,[],_=>λv hv=>by cases hv
  |pre,x::l,h=>by
   unfold yZ at h;rw[qA] at h;intro v hv;rcases zi.1 hv with rfl|hv
   · have h1:=h.1
     unfold gC at h1;simp only[qA,qC] at h1;exact⟨h1.1.1.1.2,h1.1.1.2,h1.1.1.1.1⟩
   · exact vH h.2 v hv
theorem zmY {m:Met} (h:vp m=true):(ut m).length<=17/\∀l∈ut m,l.length<=16/\∀v∈l,0<=v.2/\v.2<=1048576:=by
  have hs:=zpk h;refine⟨by rw[zoP];have:=hs.gO;omega,λl hl=>?_⟩;unfold vp at h;simp only[qA,qC] at h;obtain⟨⟨⟨⟨_,_⟩,h3⟩,h4⟩,_⟩:=h;unfold ut at hl;rw[qJ] at hl;rcases hl with hl|hl
  · obtain⟨f,hf,rfl⟩:=ky.1 hl
    have h5:=zO.1 h4 f hf;unfold va vt at h5;simp only[qA,qC] at h5;refine⟨by have:=hs.gR f hf;simp;omega,λv hv=>?_⟩;rcases zi.1 hv with rfl|hv
    · exact⟨xY _,by show(0:Int)<=1048576;decide⟩
    · have:=vH h5.2.2 v hv;exact⟨this.1,this.2.1⟩
  · have hl':l=(⟨#[]⟩,0)::m.ends:=by simpa using hl
    subst hl';unfold vt at h3;simp only[qA,qC] at h3;refine⟨by have:=hs.ends;simp;omega,λv hv=>?_⟩;rcases zi.1 hv with rfl|hv
    · exact⟨xY _,by show(0:Int)<=1048576;decide⟩
    · have:=vH h3.2 v hv;exact⟨this.1,this.2.1⟩
def zpI (fs:List Ft):Prop:=∀f∈fs,f.own.size<=4
theorem zpl {m:Met} (h:vp m=true):zpI m.gO:=λf hf=>by
  unfold vp at h;simp only[qA,qC] at h;have h5:=zO.1 h.1.2 f hf;unfold va QC at h5;simp only[qA,qC] at h5;omega
structure zsW (rows:List (List Way)):Prop where
  len:rows.length<=17
  pos:∀l∈rows,0<l.length
  few:∀l∈rows,l.length<=16
  four:∀l∈rows,∀v∈l,v.1.size<=4
theorem gD {s:ByteArray} {lo hi:Int} (h:QC s lo hi=true):(s.size:Int)<=hi:=by
  unfold QC at h;simp only[qA,qC] at h;exact h.2.2
theorem zpJ {m:Met} (h:vp m=true):zsW (ut m):=by
  obtain⟨h1,h2⟩:=zmY h;refine⟨h1,λl hl=>?_,λl hl=>(h2 l hl).1,λl hl=>?_⟩
  · unfold ut at hl
    rw[qJ] at hl;rcases hl with hl|hl
    · obtain⟨f,_,rfl⟩:=ky.1 hl;simp
    · have hl':l=(⟨#[]⟩,0)::m.ends:=by simpa using hl
      subst hl';simp
  · have hf:=zpl h
    unfold vp at h;simp only[qA,qC] at h;obtain⟨⟨⟨⟨_,_⟩,h3⟩,h4⟩,_⟩:=h;unfold ut at hl;rw[qJ] at hl;rcases hl with hl|hl
    · obtain⟨f,hfm,rfl⟩:=ky.1 hl
      have h5:=zO.1 h4 f hfm;unfold va vt at h5;simp only[qA,qC] at h5;intro v hv;rcases zi.1 hv with rfl|hv
      · exact hf f hfm
      · have:=gD (vH h5.2.2 v hv).2.2;omega
    · have hl':l=(⟨#[]⟩,0)::m.ends:=by simpa using hl
      subst hl';unfold vt at h3;simp only[qA,qC] at h3;intro v hv;rcases zi.1 hv with rfl|hv
      · show(0:Nat)<=4;omega
      · have:=gD (vH h3.2 v hv).2.2;omega
def yV:List UInt8:=[44,32]
def vJ:List UInt8:=[59,32]
def uI:List UInt8:=[59,32,101,110,100,32]
def uO:List UInt8:=[59,32,98,114,101,97,107,32]
def vw (fs:List Ft) (own:ByteArray) (j:Nat):Nat:=j+((fs.drop j).takeWhile (λf=>ph f.own own)).length
theorem zmZ {fs:List Ft} {own:ByteArray} {j:Nat} (hj:j<fs.length) (h:ph (fs.getD j default).own own=true):vw fs own j=vw fs own (j+1):=by
  unfold vw;rw[ug fs j hj,List.takeWhile_cons];rw[qy h,qB];omega
theorem zno {fs:List Ft} {own:ByteArray} {j:Nat} (hj:j<fs.length) (h:ph (fs.getD j default).own own=false):vw fs own j=j:=by
  unfold vw;rw[ug fs j hj,List.takeWhile_cons,qx (by rw[h];simp)];simp
theorem znp {fs:List Ft} {own:ByteArray} {j:Nat} (hj:¬j<fs.length):vw fs own j=j:=by
  unfold vw;rw[kx (by omega)];simp
theorem zu9 {fs:List Ft} {own:ByteArray} {j:Nat} (hj:j<=fs.length):j<=vw fs own j/\vw fs own j<=fs.length:=by
  unfold vw;have:=(List.takeWhile_sublist (λf:Ft=>ph f.own own) (l:=fs.drop j)).length_le;rw[zK] at this;omega
theorem znW {fs:List Ft} {j:Nat} (hj:j<fs.length):j<vw fs (fs.getD j default).own j:=by
  rw[zmZ hj (znT _)];have:=(zu9 (fs:=fs) (own:=(fs.getD j default).own) (show j+1<=fs.length by omega)).1;omega
def uf (fs:List Ft) (i j:Nat):List UInt8:=(if 0<i then yV else [])++((if 1<j-i then Lib.itoa ((j-i:Nat):Int)++[32] else [])++yN (fs.getD i default).own.data.toList)
def vg (fs:List Ft):Nat->Nat->List UInt8
  |0,_=>[]
  |n+1,i=>if i<fs.length then uf fs i (vw fs (fs.getD i default).own i)++vg fs n (vw fs (fs.getD i default).own i) else []
theorem znq (fs:List Ft) (n:Nat):vg fs n fs.length=[]:=by cases n<;>simp[vg]
def yR (of:List UInt8->List UInt8) (l:List Way):Nat->List UInt8
  |0=>[]
  |k+1=>yR of l k++((if 0<k then yV else [])++(of (l.getD k default).1.data.toList++([32]++Lib.itoa (l.getD k default).2)))
def uP (fs:List Ft) (k:Nat):List UInt8:=if 0<(fs.getD k default).gR.length then vJ++(Lib.itoa ((k:Int)+1)++([32]++yR yN (fs.getD k default).gR (fs.getD k default).gR.length)) else []
def vo (fs:List Ft):Nat->List UInt8
  |0=>[]
  |k+1=>vo fs k++uP fs k
def ua (l:List Way):List UInt8:=if 0<l.length then uI++yR id l l.length else []
def vu (l:List (Int×Int)):Nat->List UInt8
  |0=>[]
  |k+1=>vu l k++(uO++(Lib.itoa (l.getD k default).1++([32]++Lib.itoa (l.getD k default).2)))
def vV (m:Met):List UInt8:=vg m.gO m.gO.length 0++(vo m.gO m.gO.length++(ua m.ends++vu m.gS m.gS.length))
structure zod (m:Met):Prop where
  pos:0<m.gO.length
  gO:m.gO.length<=16
  own:∀k,k<m.gO.length->(m.gO.getD k default).own.size<=4
  few:∀k,k<m.gO.length->(m.gO.getD k default).gR.length<=15
  gR:∀k,k<m.gO.length->∀j,j<(m.gO.getD k default).gR.length->((m.gO.getD k default).gR.getD j default).1.size<=4/\0<=((m.gO.getD k default).gR.getD j default).2/\((m.gO.getD k default).gR.getD j default).2<=1048576
  zqd:m.ends.length<=16
  ends:∀j,j<m.ends.length->(m.ends.getD j default).1.size<=4/\0<=(m.ends.getD j default).2/\(m.ends.getD j default).2<=1048576
  zqe:m.gS.length<=16
  gS:∀j,j<m.gS.length->0<=(m.gS.getD j default).1/\(m.gS.getD j default).1<=16/\0<=(m.gS.getD j default).2/\(m.gS.getD j default).2<=1048576
theorem vK {α:Type} [Inhabited α] {l:List α} {k:Nat} (h:k<l.length):l.getD k default∈l:=by
  rw[qj,qz h];exact qM h
theorem gE {n:Int}:∀(l:List (Int×Int)) (a:Int),0<=a->a<=n->yS n a l=true->a+l.length<=n/\∀b∈l,0<=b.1/\b.1<=n/\0<=b.2/\b.2<=1048576
  |[],a,_,h,_=>⟨by simpa using h,λb h=>by cases h⟩
  |b::l,a,h0,h1,h=>by
   unfold yS at h;simp only[qA,qC] at h;obtain⟨⟨⟨⟨h2,h3⟩,h4⟩,h5⟩,h6⟩:=h;obtain⟨h7,h8⟩:=gE l b.1 (by omega) (by omega) h6;refine⟨by simp only[qB];omega,λc hc=>?_⟩;rcases zi.1 hc with rfl|hc
   · omega
   · exact h8 c hc
theorem znr {m:Met} (h:vp m=true):zod m:=by
  have hs:=zmY h;have ho:=zpJ h
  have hf:∀k,k<m.gO.length->((m.gO.getD k default).own,(0:Int))::(m.gO.getD k default).gR∈ut m:=λk hk=>by
    unfold ut;exact jn _ (ky.2 ⟨_,vK hk,rfl⟩)
  have he:((⟨#[]⟩,0)::m.ends:List Way)∈ut m:=by unfold ut;simp
  have h':=h;unfold vp at h';simp only[qA,qC] at h';obtain⟨⟨⟨⟨h1,h2⟩,_⟩,_⟩,h5⟩:=h';obtain⟨hb1,hb2⟩:=gE m.gS 0 (by omega) (by omega) h5;have hb3:∀b∈m.gS,b.1<=16:=λb hb=>by have:=(hb2 b hb).2.1;omega
  refine⟨by omega,h2,λk hk=>?_,λk hk=>?_,λk hk j hj=>?_,?_,λj hj=>?_,by omega,λj hj=>?_⟩
  · exact ho.four _ (hf k hk) _ (jz ..)
  · have:=(hs.2 _ (hf k hk)).1;simp only[qB] at this;omega
  · exact⟨ho.four _ (hf k hk) _ (zN _ (vK hj)),(hs.2 _ (hf k hk)).2 _ (zN _ (vK hj))⟩
  · have:=(hs.2 _ he).1;simp only[qB] at this;omega
  · exact⟨ho.four _ he _ (zN _ (vK hj)),(hs.2 _ he).2 _ (zN _ (vK hj))⟩
  · have:=hb2 _ (vK hj);have:=hb3 _ (vK hj);omega
theorem yW (s:ByteArray):s.data.toList.length=s.size:=by rw[qS];rfl
theorem vD {t:List UInt8} (h:t.length<=4):(yN t).length<=20:=by
  unfold yN;cases hb:uZ t with
  |none=>simp;omega
  |some f=>
   simp only[];have hm:f∈Zp:=zn hb;have:∀f∈Zp,f.1.length<=20:=(by decide+kernel);exact this f hm
theorem vB {of:List UInt8->List UInt8} {l:List Way} (h:∀j,j<l.length->(of (l.getD j default).1.data.toList).length<=20/\0<=(l.getD j default).2/\(l.getD j default).2<=1048576):∀k,k<=l.length->(yR of l k).length<=k*50
  |0,_=>by simp[yR]
  |k+1,hk=>by
   have ih:=vB h k (by omega);have h1:=h k (by omega);have h2:=Lib.itoa_length_le (l.getD k default).2 (by omega) (by omega);have h3:(if 0<k then yV else []).length<=2:=by split<;>simp[yV]
   unfold yR;simp only[qv,qB,qG];omega
theorem zoe {m:Met} (h:zod m) (k:Nat) (hk:k<m.gO.length):(uP m.gO k).length<=800:=by
  unfold uP;split
  · have h1:=vB (of:=yN) (l:=(m.gO.getD k default).gR) (λj hj=>⟨vD (by have:=(h.gR k hk j hj).1;simpa using this),(h.gR k hk j hj).2⟩) _ (ql _)
    have h2:=h.few k hk;have h3:=h.gO;have h4:=Lib.itoa_length_le ((k:Int)+1) (by omega) (by omega);simp only[qv,vJ,qB,qG];omega
  · simp
theorem vL {m:Met} (h:zod m):∀k,k<=m.gO.length->(vo m.gO k).length<=k*800
  |0,_=>by simp[vo]
  |k+1,hk=>by
   have ih:=vL h k (by omega);have h1:=zoe h k (by omega);unfold vo;simp only[qv];omega
theorem gq {m:Met} (h:zod m):(ua m.ends).length<=900:=by
  unfold ua;split
  · have h1:=vB (of:=id) (l:=m.ends) (λj hj=>⟨by rw[show id (m.ends.getD j default).1.data.toList=(m.ends.getD j default).1.data.toList from rfl,yW];have:=(h.ends j hj).1;omega,(h.ends j hj).2⟩) _ (ql _)
    have:=h.zqd;simp only[qv,uI,qB,qG];omega
  · simp
theorem um {m:Met} (h:zod m):∀k,k<=m.gS.length->(vu m.gS k).length<=k*60
  |0,_=>by simp[vu]
  |k+1,hk=>by
   have ih:=um h k (by omega);have h1:=h.gS k (by omega);have h2:=Lib.itoa_length_le (m.gS.getD k default).1 (by omega) (by omega);have h3:=Lib.itoa_length_le (m.gS.getD k default).2 (by omega) (by omega);unfold vu;simp only[qv,uO,qB,qG];omega
theorem zof {m:Met} (h:zod m) {i j:Nat} (hi:i<m.gO.length) (hj:j<=m.gO.length):(uf m.gO i j).length<=50:=by
  have h1:=vD (t:=(m.gO.getD i default).own.data.toList) (by have:=h.own i hi;simpa using this);have h3:(if 0<i then yV else []).length<=2:=by split<;>simp[yV]
  have h4:=h.gO;have h5:=Lib.itoa_length_le ((j-i:Nat):Int) (by omega) (by omega)
  have h6:(if 1<j-i then Lib.itoa ((j-i:Nat):Int)++[32] else []).length<=22:=by
    split
    · simp only[qv,qB,qG];omega
    · simp
  unfold uf;simp only[qv];omega
theorem uB {m:Met} (h:zod m):∀(n i:Nat),(vg m.gO n i).length<=n*50
  |0,_=>by simp[vg]
  |n+1,i=>by
   unfold vg;split
   · rename_i hi
     have h1:=zu9 (fs:=m.gO) (own:=(m.gO.getD i default).own) (zL hi);have ih:=uB h n (vw m.gO (m.gO.getD i default).own i);have h2:=zof h hi h1.2;simp only[qv];omega
   · simp
section
variable {w:World} {b:Nat} {lv vf ve vb:Value} {ec ep:Int}
end
variable {w w1 w':World} {base b:Nat} {lv lv':Value} {m:Met} {ec ep KM KN:Int} {vf ve vb:Value} {vs:List Value}
variable {s:ByteArray} {T cap i:Nat}
variable {w w1 w':World} {base b:Nat} {s:ByteArray} {T cap i:Nat} {m:Met} {ec ep:Int} {vf ve vb:Value} {vs:List Value}
end Go.Proofs.YtgklikkddckgbaaGreatDoor
namespace Go.Proofs.YtgklikkddckgbaaGreatDoor
open Go.Lib
end Go.Proofs.YtgklikkddckgbaaGreatDoor
namespace Go.Proofs.YtgklikkddckgbaaGreatDoor
open Go.RowKit
theorem vW {l:List UInt8} {n:Nat} (h:l.length<=n):(⟨l.toArray⟩:ByteArray).size<=n:=by
  show l.toArray.size<=n;simpa using h
theorem vM (v:Int) (w:World) (hv:Vars w) (h0:-9223372036854775808<=v) (h1:v<=9223372036854775807):
    Calls Tryz.prog 50 #[.int .i64 v] w λe w'=>∃T:ByteArray,e=.returned (.string T)/\T.data.toList=Lib.itoa v/\T.size<=21/\Below w.heap.size w w':=
  (zk5 v w hv h0 h1).mono λe w' ⟨he,hb⟩=>⟨_,he,by simp,vW (Lib.itoa_length_le v h0 h1),hb⟩
theorem uC (t:ByteArray) (w:World) (ht:t.size<=4):
    Calls Tryz.prog 83 #[.string t] w λe w'=>∃T:ByteArray,e=.returned (.string T)/\T.data.toList=yN t.data.toList/\T.size<=21/\Below w.heap.size w w':=
  (znV t w).mono λe w' ⟨he,hb⟩=>⟨_,he,by simp,qm (vW (vD (by rw[yW];exact ht))) (by omega),hb⟩
def un (h:List UInt8) (of:List UInt8->List UInt8) (l:List Way) (j:Nat):List UInt8:=if 0<j then h++yR of l j else []
theorem gr (h:List UInt8) (of:List UInt8->List UInt8) (l:List Way):un h of l 0=[]:=rfl
theorem zm0 (h:List UInt8) (of:List UInt8->List UInt8) (l:List Way):un h of l 1=h++(of (l.getD 0 default).1.data.toList++([32]++Lib.itoa (l.getD 0 default).2)):=by
  unfold un;rw[qy (by omega)];simp[yR]
theorem zns (h:List UInt8) (of:List UInt8->List UInt8) (l:List Way) (j:Nat) (hj:0<j):un h of l (j+1)=un h of l j++(yV++(of (l.getD j default).1.data.toList++([32]++Lib.itoa (l.getD j default).2))):=by
  unfold un;rw[qy hj,qy (by omega)];simp[yR,hj]
theorem znX {h:List UInt8} {of:List UInt8->List UInt8} {l:List Way} {j:Nat} (hh:h.length<=50) (hl:(yR of l j).length<=j*50) (hj:j<=16):(un h of l j).length<=850:=by
  unfold un;split
  · rw[qv];omega
  · simp
theorem zog (fs:List Ft) (k:Nat):uP fs k=un (vJ++(Lib.itoa ((k:Int)+1)++[32])) yN (fs.getD k default).gR (fs.getD k default).gR.length:=by
  unfold uP un;split<;>simp
theorem zoQ (l:List Way):ua l=un uI id l l.length:=rfl
theorem znE (Af Ae Ab:Option Addr) (cf ce cb:Nat) (m:Met) (w:World) (hv:Vars w) (h:pW w w.heap.size Af Ae Ab cf ce cb m) (hm:vp m=true):
    Calls Tryz.prog 53 #[.agg #[.slice Af m.gO.length cf,.slice Ae m.ends.length ce,.slice Ab m.gS.length cb]] w λe w'=>e=.returned (.string ⟨(vV m).toArray⟩)/\Below w.heap.size w w':=by
  generalize hW1:w.alloc (.cells #[.slice Af m.gO.length cf,.slice Ae m.ends.length ce,.slice Ab m.gS.length cb] 79)=W1;have sW1:W1.heap.size=w.heap.size+1:=by rw[<-hW1];simp
  have hB1:Below w.heap.size w W1:=by rw[<-hW1];exact(qb _ _).alloc (ql _) _
  have m0:W1.cell? ⟨w.heap.size,0,none⟩=some (.slice Af m.gO.length cf):=by rw[<-hW1];simp
  have m1:W1.cell? ⟨w.heap.size,1,none⟩=some (.slice Ae m.ends.length ce):=by rw[<-hW1];simp
  have m2:W1.cell? ⟨w.heap.size,2,none⟩=some (.slice Ab m.gS.length cb):=by rw[<-hW1];simp
  have HW1:=qh hW1;have HB1:=qh hB1;have Hv:=qh (hv.below hB1 hv.six);have HP:=qh (znr hm);have HM:=qh (h.on hB1);have QL:=qh λ(W2:World) (hb2:Below W1.heap.size W1 W2) (o:Nat)=>hb2.cell (p:=⟨w.heap.size,o,none⟩) (by show w.heap.size<W1.heap.size;omega);have HIt:=qh λ(W2:World) (hb2:Below W1.heap.size W1 W2) (v:Int) (h0:0<=v) (h1:v<=1048577)=>vM v W2 ((hv.below hB1 hv.six).below hb2 (by have:=hv.six;omega)) (by omega) (by omega);have Hm0:=qh m0;have Hm1:=qh m1;have Hm2:=qh m2;have hf16:=HP.out.gO;have he16:=HP.out.zqd;have zqP:=HP.out.zqe;have HF:=qh (uB HP.out m.gO.length 0);have hpp:vV m=vg m.gO m.gO.length 0++(vo m.gO m.gO.length++(ua m.ends++vu m.gS m.gS.length)):=rfl;have HPP:=qh hpp;clear h hW1 hB1 hm hv m0 m1 m2 hpp;go_enter Tryz.func53,Tryz.ntmps53;go_upto_region 2 with fail
  rw[HW1.out];go_upto_block 0 with fail
  go_cut [3] from 4 to 66 (λv3 wx=>∃S:ByteArray,v3=.string S/\Hid (S.data.toList=vg m.gO m.gO.length 0)/\Hid (Below W1.heap.size W1 wx))
  case first=>
   go_wp2_with fail;go_loopw [3,4] (λa i wr=>∃(k n:Nat) (S:ByteArray),k<=m.gO.length/\m.gO.length-k<=n/\i=.int .i64 k/\a=.string S/\Hid (S.data.toList++vg m.gO n k=vg m.gO m.gO.length 0)/\Hid (Below W1.heap.size W1 wr)) (λ_ i _=>m.gO.length-(intOf i).toNat)
   case atStart=>exact⟨0,m.gO.length,_,by omega,by omega,rfl,rfl,qh rfl,qh (qb _ _)⟩
   case round=>
    rename_i wr;obtain⟨k,n,S,hk,hn,rfl,rfl,hS,hb⟩:=hrel;have m0:=(QL.out _ hb.out 0).trans Hm0.out;by_cases hlt:k<m.gO.length
    · obtain⟨n,rfl⟩:∃n',n=n'+1:=⟨n-1,by omega⟩
      obtain⟨b,off,rfl,hbb,hrow⟩:=(HM.out.gO.below hb.out) (by omega);have KF:=qh hrow;have f0:=(hrow k hlt).1;have hfe:vg m.gO (n+1) k=uf m.gO k (vw m.gO (m.gO.getD k default).own k)++vg m.gO n (vw m.gO (m.gO.getD k default).own k):=(by rw[vg,qy hlt]);have Hfe:=qh hfe;have Hgt:=qh (znW hlt);have VA:=qh (zu9 (fs:=m.gO) (own:=(m.gO.getD k default).own) hk).2;clear hrow hfe;generalize hown:(m.gO.getD k default).own=own at*;have pv:=qh hown;clear hown;generalize hJ:vw m.gO own k=J at*;have HJ:=qh hJ;clear hJ;obtain⟨wo,hwo⟩:∃wo:World,wo=wr:=⟨_,rfl⟩;subst hwo;go_upto_block 2 with fail
      go_cut [5] from 14 to 41 (λv5 wx=>v5=.int .i64 J/\Hid (Below wo.heap.size wo wx))
      case first=>
        go_wp2_with fail;go_loopw [5] (λj wi=>∃j':Nat,j'<=m.gO.length/\j=.int .i64 j'/\Hid (vw m.gO own j'=J)/\Hid (Below wo.heap.size wo wi)) (λj _=>m.gO.length-(intOf j).toNat)
        case atStart=>exact⟨k,by omega,rfl,HJ,qh (qb _ _)⟩
        case round=>
          rename_i wi;obtain⟨j,hj,rfl,hr,hbi⟩:=hrel;have q0:=(QL.out _ (hb.out.trans (hbi.out.mono hb.out.size)) 0).trans Hm0.out;have hbw:b<wo.heap.size:=(by have:=hb.out.size;omega);have fk:=(hbi.out.cell (p:=⟨b,off+k*2,none⟩) hbw).trans f0;by_cases hjt:j<m.gO.length
          · have fj:=(hbi.out.cell (p:=⟨b,off+j*2,none⟩) hbw).trans (KF.out j hjt).1
            have hd:decide ((j:Int)<(m.gO.length:Int))=true:=(by simp;omega);have QN:=qh (λh=>zmZ (own:=own) hjt h);have zsX:=qh (λh=>zno (own:=own) hjt h);have heq:ph (m.gO.getD j default).own own=((m.gO.getD j default).own.toList==own.toList):=rfl;generalize (m.gO.getD j default).own=oj at*;have Hrow2:=qh KF;have Hf0:=qh f0;clear f0;cases hq:ph oj own with
            |true=>
             have hq2:(oj.toList==own.toList)=true:=(by rw[<-heq,hq]);have Hq:=qh ((QN.out hq).symm.trans hr.out);clear hq heq;go_wp2_with fail;go_quiet (fail)
             go_wp2_with fail;go_roundw
             case rel=>exact⟨j+1,by omega,by go_num,Hq,qh (Xg hbi.out nq)⟩
             case measure=>simp[intOf];omega
            |false=>
             have hq2:(oj.toList==own.toList)=false:=(by rw[<-heq,hq]);have Hq:=qh ((zsX.out hq).symm.trans hr.out);clear hq heq;go_wp2_with fail;go_quiet (fail)
             go_wp2_with fail;go_meet
             exact⟨by rw[<-Hq.out],qh (Xg hbi.out nq)⟩
          · have hd:decide ((j:Int)<(m.gO.length:Int))=false:=by simp;omega
            have Hq:=qh ((znp (own:=own) hjt).symm.trans hr.out);go_wp2_with fail;go_quiet (fail)
            go_wp2_with fail;go_meet
            exact⟨by rw[<-Hq.out],qh (Xg hbi.out nq)⟩
      case rest=>
        rename_i wx;obtain⟨rfl,hbx⟩:=hcut;have hgt:=Hgt.out;have hle:=VA.out;have q0:=(QL.out _ (hb.out.trans (hbx.out.mono hb.out.size)) 0).trans Hm0.out;have hbw:b<wo.heap.size:=(by have:=hb.out.size;omega);have fk:=(hbx.out.cell (p:=⟨b,off+k*2,none⟩) hbw).trans f0;have HB:=qh (hb.out.trans (hbx.out.mono hb.out.size));have HI:=qh (HIt.out _ HB.out ((J:Int)-(k:Int)) (by omega) (by omega));have Hgr:=qh (show uf m.gO k J=(if 0<k then yV else [])++((if 1<J-k then Lib.itoa ((J-k:Nat):Int)++[32] else [])++yN own.data.toList) by unfold uf;rw[pv.out]);have Hos:=qh (show own.size<=4 by rw[<-pv.out];exact HP.out.own k hlt);have Hc:=qh (show((J-k:Nat):Int)=(J:Int)-(k:Int) by omega);have HS':=qh hS
        have hsz:S.size+200<=20000:=by
          have h1:=HF.out;rw[<-hS.out,qv,yW] at h1;omega
        by_cases h0:0<k
        · by_cases h1:1<J-k
          · go_wp2_with fail
            refine HI.out.mono ?_;rintro e w8 ⟨T,rfl,hT,hTs,Qo⟩;have HT:=qh hT;have Yg:=qh (HB.out.trans (Qo.mono (by have:=HB.out.size;omega)));have q1:=(QL.out _ Yg.out 0).trans Hm0.out;have fk1:=(Qo.cell (p:=⟨b,off+k*2,none⟩) (by have:=hbx.out.size;show b<_;omega)).trans fk;clear hT Qo q0 fk;go_wp2_with fail;refine(uC own _ Hos.out).mono ?_;rintro e w9 ⟨U,rfl,hU,hUs,pb⟩;have HU:=qh hU;have pP:=qh (Yg.out.trans (pb.mono (Yg.out.size)));clear pb hU;go_wp2_with fail;go_roundw
            case rel=>
              refine⟨J,n,_,hle,by omega,rfl,rfl,qh ?_,pP⟩;rw[<-HS'.out.out,Hfe.out,Hgr.out,qy h0,qy h1,Hc.out];simp[yV,HU.out,HT.out]
            case measure=>simp[intOf];omega
          · go_wp2_with fail
            refine(uC own _ Hos.out).mono ?_;rintro e w9 ⟨U,rfl,hU,hUs,pb⟩;have HU:=qh hU;have pP:=qh (HB.out.trans (pb.mono (HB.out.size)));clear pb hU;go_wp2_with fail;go_roundw
            case rel=>
              refine⟨J,n,_,hle,by omega,rfl,rfl,qh ?_,pP⟩;rw[<-HS'.out.out,Hfe.out,Hgr.out,qy h0,qx h1];simp[yV,HU.out]
            case measure=>simp[intOf];omega
        · by_cases h1:1<J-k
          · go_wp2_with fail
            refine HI.out.mono ?_;rintro e w8 ⟨T,rfl,hT,hTs,Qo⟩;have HT:=qh hT;have Yg:=qh (HB.out.trans (Qo.mono (by have:=HB.out.size;omega)));have q1:=(QL.out _ Yg.out 0).trans Hm0.out;have fk1:=(Qo.cell (p:=⟨b,off+k*2,none⟩) (by have:=hbx.out.size;show b<_;omega)).trans fk;clear hT Qo q0 fk;go_wp2_with fail;refine(uC own _ Hos.out).mono ?_;rintro e w9 ⟨U,rfl,hU,hUs,pb⟩;have HU:=qh hU;have pP:=qh (Yg.out.trans (pb.mono (Yg.out.size)));clear pb hU;go_wp2_with fail;go_roundw
            case rel=>
              refine⟨J,n,_,hle,by omega,rfl,rfl,qh ?_,pP⟩;rw[<-HS'.out.out,Hfe.out,Hgr.out,qx h0,qy h1,Hc.out];simp[yV,HU.out,HT.out]
            case measure=>simp[intOf];omega
          · go_wp2_with fail
            refine(uC own _ Hos.out).mono ?_;rintro e w9 ⟨U,rfl,hU,hUs,pb⟩;have HU:=qh hU;have pP:=qh (HB.out.trans (pb.mono (HB.out.size)));clear pb hU;go_wp2_with fail;go_roundw
            case rel=>
              refine⟨J,n,_,hle,by omega,rfl,rfl,qh ?_,pP⟩;rw[<-HS'.out.out,Hfe.out,Hgr.out,qx h0,qx h1];simp[yV,HU.out]
            case measure=>simp[intOf];omega
    · obtain rfl:k=m.gO.length:=by omega
      have hS':S.data.toList=vg m.gO m.gO.length 0:=(by have:=hS.out;rw[znq,ku] at this;exact this);have HS:=qh hS';clear hS hS';go_wp2_with fail;go_meet
      exact⟨S,rfl,HS,hb⟩
  case rest=>
  obtain⟨S1,rfl,hS1,hb1⟩:=hcut;have hs1:S1.size<=800:=by rw[<-yW,hS1.out];have:=HF.out;omega
  have m0:=(QL.out _ hb1.out 0).trans Hm0.out;obtain⟨wp,hwp⟩:∃wp:World,wp=wc:=⟨_,rfl⟩;subst hwp;go_upto_block 4 with fail
  go_cut [3] from 6 to 105 (λv3 wx=>∃S:ByteArray,v3=.string S/\Hid (S.data.toList=vg m.gO m.gO.length 0++vo m.gO m.gO.length)/\Hid (Below W1.heap.size W1 wx))
  case first=>
   clear m0;go_wp2_with fail;go_loopw [3,70] (λa i wr=>∃(k:Nat) (S:ByteArray),k<=m.gO.length/\i=.int .i64 k/\a=.string S/\Hid (S.data.toList=vg m.gO m.gO.length 0++vo m.gO k)/\Hid (Below W1.heap.size W1 wr)) (λ_ i _=>m.gO.length-(intOf i).toNat)
   case atStart=>exact⟨0,S1,by omega,rfl,rfl,qh (by rw[hS1.out];simp[vo]),hb1⟩
   case round=>
    rename_i wr;obtain⟨k,S,hk,rfl,rfl,hS,hb⟩:=hrel;by_cases hlt:k<m.gO.length
    · obtain⟨b,off,rfl,hbb,hrow⟩:=(HM.out.gO.below hb.out) (by omega)
      obtain⟨f0,A2,c2,f1,hc2,hIW⟩:=hrow k hlt;have zsY:=HP.out.few k hlt;have Hws:=qh (HP.out.gR k hlt);have Hwt:=qh (vL HP.out k (by omega));have Hsu:=qh (show vo m.gO (k+1)=vo m.gO k++uP m.gO k from rfl);have Xl:=qh (show uP m.gO k=if 0<(m.gO.getD k default).gR.length then vJ++(Lib.itoa ((k:Int)+1)++([32]++yR yN (m.gO.getD k default).gR (m.gO.getD k default).gR.length)) else [] from rfl);have Hlen:=qh (vB (of:=yN) (l:=(m.gO.getD k default).gR) (λj hj=>⟨vD (by have:=(HP.out.gR k hlt j hj).1;rw[yW];exact this),(HP.out.gR k hlt j hj).2⟩));have HIW:=qh hIW;have Hofp:=qh (zog m.gO k);generalize (m.gO.getD k default).own=own at*;generalize (m.gO.getD k default).gR=l at*;clear hrow hIW
      have hs:S.size<=13700:=by
        have h1:=HF.out;have h2:=Hwt.out;rw[<-yW,hS.out,qv];omega
      have HBr:=qh (hb.out.alloc hb.out.size (.cells #[.string own,.slice A2 l.length c2] 81));obtain⟨wo,hwo⟩:∃wo:World,wo=wr:=⟨_,rfl⟩;subst hwo;go_upto_block 5 with fail
      go_cut [3] from 71 to 105 (λv3 wx=>∃S:ByteArray,v3=.string S/\Hid (S.data.toList=vg m.gO m.gO.length 0++vo m.gO (k+1))/\Hid (Below W1.heap.size W1 wx))
      case first=>
        generalize hW2:wo.alloc (.cells #[.string own,.slice A2 l.length c2] 81)=W2 at*;have e0:W2.cell? ⟨wo.heap.size,1,none⟩=some (.slice A2 l.length c2):=(by rw[<-hW2];simp);have HW2:=qh hW2;have zsZ:=qh (HIW.out.below (show Below W1.heap.size wo W2 by rw[<-hW2];exact(qb _ _).alloc hb.out.size _));have Hp0:=qh (gr (vJ++(Lib.itoa ((k:Int)+1)++[32])) yN l);have Hp1:=qh (zm0 (vJ++(Lib.itoa ((k:Int)+1)++[32])) yN l);have Hpn:=qh (zns (vJ++(Lib.itoa ((k:Int)+1)++[32])) yN l);have Hpl:=qh (λj (hj:j<=l.length)=>znX (h:=vJ++(Lib.itoa ((k:Int)+1)++[32])) (of:=yN) (l:=l) (j:=j) (by have:=Lib.itoa_length_le ((k:Int)+1) (by omega) (by omega);simp[vJ];omega) (Hlen.out j hj) (by omega));clear hW2;go_upto_region 16 with fail
        rw[HW2.out];go_wp2_with fail;go_loopw [3,78] (λa i wi=>∃(j:Nat) (S2:ByteArray),j<=l.length/\i=.int .i64 j/\a=.string S2/\Hid (S2.data.toList=S.data.toList++un (vJ++(Lib.itoa ((k:Int)+1)++[32])) yN l j)/\Hid (Below W2.heap.size W2 wi)) (λ_ i _=>l.length-(intOf i).toNat)
        case atStart=>exact⟨0,S,by omega,rfl,rfl,qh (by rw[Hp0.out];simp),qh (qb _ _)⟩
        case round=>
          obtain⟨wi,hwi⟩:∃wi:World,wi=wr:=⟨_,rfl⟩;subst hwi;obtain⟨j,S2,hj,rfl,rfl,hS2,hbi⟩:=hrel;have HBi:=qh (HBr.out.trans (hbi.out.mono HBr.out.size));by_cases hjt:j<l.length
          · obtain⟨b2,o2,rfl,Uf,hrow2⟩:=(zsZ.out.below (hbi.out.mono HBr.out.size)) (by omega)
            obtain⟨r0,r1⟩:=hrow2 j hjt;obtain⟨hv4,hv0,hv1⟩:=Hws.out j hjt;have Hq1:=qh (λ(h:j=0)=>(show un (vJ++(Lib.itoa ((k:Int)+1)++[32])) yN l (j+1)=(vJ++(Lib.itoa ((k:Int)+1)++[32]))++(yN (l.getD j default).1.data.toList++([32]++Lib.itoa (l.getD j default).2)) by subst h;exact Hp1.out));have Hqn:=qh (Hpn.out j)
            have hs2:S2.size<=15000:=by
              have h1:=Hpl.out j hj;rw[<-yW,hS2.out,qv,yW];omega
            generalize l.getD j default=v at*;obtain⟨v1,v2⟩:=v;simp only[] at r0 r1 hv4 hv0 hv1 Hq1 Hqn;clear hrow2;obtain⟨U,hU⟩:∃U:ByteArray,Hid (U=⟨(yN v1.data.toList).toArray⟩):=⟨_,qh rfl⟩;obtain⟨V,hV⟩:∃V:ByteArray,Hid (V=⟨(Lib.itoa v2).toArray⟩):=⟨_,qh rfl⟩;have hUs:U.size<=20:=(by rw[hU.out];exact vW (vD (by rw[yW];exact hv4)));have hVs:V.size<=21:=(by rw[hV.out];exact vW (Lib.itoa_length_le v2 (by omega) (by omega)));have HWd:Hid (∀W,Calls Tryz.prog 83 #[.string v1] W λe w'=>e=.returned (.string U)/\Below W.heap.size W w'):=qh (λW=>by rw[hU.out];exact znV v1 W);generalize hwc:wi.alloc (.cells #[.string v1,.int .i64 v2] 83)=wc at*;have swc:wc.heap.size=wi.heap.size+1:=(by rw[<-hwc];simp);have c0:wc.cell? ⟨wi.heap.size,0,none⟩=some (.string v1):=(by rw[<-hwc];simp);have c1:wc.cell? ⟨wi.heap.size,1,none⟩=some (.int .i64 v2):=(by rw[<-hwc];simp);have Ug:=qh (show Below W1.heap.size W1 wc by rw[<-hwc];exact HBi.out.alloc HBi.out.size _);have zrJ:=qh (show Below W2.heap.size W2 wc by rw[<-hwc];exact hbi.out.alloc hbi.out.size _);have Uh:=qh hwc;have HS':=qh hS2.out;clear hwc;have zz0:¬(9223372036854775807<U.size+1):=(by omega);have zz1:¬(9223372036854775807<U.size+1+V.size):=(by omega);have zz2:¬(9223372036854775807<S2.size+2+(U.size+1+V.size)):=(by omega);go_upto_region 19 with fail
            rw[Uh.out];by_cases hj0:j=0
            · have po:=qh (Hq1.out hj0)
              have hX:Hid (un (vJ++(Lib.itoa ((k:Int)+1)++[32])) yN l j=[]):=qh (by rw[hj0];exact Hp0.out);subst hj0;have HIk:=qh (HIt.out _ Ug.out ((k:Int)+1) (by omega) (by omega));go_wp2_with fail;refine HIk.out.mono ?_;rintro e wd ⟨T,rfl,hT,hTs,Qo⟩;have HT:=qh hT;have KU:=qh (Ug.out.trans (Qo.mono Ug.out.size));have p0:=(Qo.cell (p:=⟨wi.heap.size,0,none⟩) (by show wi.heap.size<wc.heap.size;rw[swc];omega)).trans c0;have p1:=(Qo.cell (p:=⟨wi.heap.size,1,none⟩) (by show wi.heap.size<wc.heap.size;rw[swc];omega)).trans c1;have hld:wi.heap.size<wd.heap.size:=(by have:=Qo.size;omega);clear hT c0 c1;have zz3:¬(9223372036854775807<S2.size+(2+T.size+1)+(U.size+1+V.size)):=(by omega);have Ym:Hid (∀W,Below wd.heap.size wd W->Calls Tryz.prog 50 #[.int .i64 v2] W λe w'=>e=.returned (.string V)/\Below W.heap.size W w'):=qh (λW hb=>by rw[hV.out];exact zk5 v2 W ((Hv.out.below KU.out (by have:=Hv.out.six;omega)).below hb (by have:=KU.out.size;have:=Hv.out.six;omega)) (by omega) (by omega));go_upto_region 22 with fail
              go_region_held3 (λw'=>Below wd.heap.size wd w'/\∀b o,b<wd.heap.size->w'.cell? ⟨b,o,none⟩=wd.cell? ⟨b,o,none⟩) (((repeat (apply JK;assumption));exact pa)) (first|(go_at_call 83;refine(HWd.out _).mono ?_;rintro e w9 ⟨rfl,pb⟩)|(go_at_call 50;refine(Ym.out _ (by first|exact pa.1|exact qZ (by assumption))).mono ?_;rintro e w9 ⟨rfl,pb⟩))
              all_goals
                rename_i hHeld;have Zl:=hHeld.1;clear hHeld;have pP:=qh (KU.out.trans (Zl.mono KU.out.size));have zs0:=qh (Qo.trans (Zl.mono Qo.size));clear Zl p0 p1;go_wp2_with fail;go_roundw
                case rel=>
                  refine⟨1,_,by omega,rfl,rfl,qh ?_,qh (zrJ.out.trans (zs0.out.mono zrJ.out.size))⟩;rw[show un (vJ++(Lib.itoa ((k:Int)+1)++[32])) yN l 1=_ from po.out];simp[HS'.out,hX.out,gr,HT.out,hU.out,hV.out,vJ]
                case measure=>simp[intOf];omega
            · have po:=qh (Hqn.out (by omega))
              obtain⟨wd,hwd⟩:∃wd:World,wd=wc:=⟨_,rfl⟩;subst hwd;have KU:=Ug;have p0:=c0;have p1:=c1;have hld:wi.heap.size<wd.heap.size:=(by omega);clear c0 c1;have Ym:Hid (∀W,Below wd.heap.size wd W->Calls Tryz.prog 50 #[.int .i64 v2] W λe w'=>e=.returned (.string V)/\Below W.heap.size W w'):=qh (λW hb=>by rw[hV.out];exact zk5 v2 W ((Hv.out.below KU.out (by have:=Hv.out.six;omega)).below hb (by have:=KU.out.size;have:=Hv.out.six;omega)) (by omega) (by omega));go_upto_region 22 with fail
              go_region_held3 (λw'=>Below wd.heap.size wd w'/\∀b o,b<wd.heap.size->w'.cell? ⟨b,o,none⟩=wd.cell? ⟨b,o,none⟩) (((repeat (apply JK;assumption));exact pa)) (first|(go_at_call 83;refine(HWd.out _).mono ?_;rintro e w9 ⟨rfl,pb⟩)|(go_at_call 50;refine(Ym.out _ (by first|exact pa.1|exact qZ (by assumption))).mono ?_;rintro e w9 ⟨rfl,pb⟩))
              all_goals
                rename_i hHeld;have Zl:=hHeld.1;clear hHeld;have pP:=qh (KU.out.trans (Zl.mono KU.out.size));have zs0:=qh (Zl);clear Zl p0 p1;go_wp2_with fail;go_roundw
                case rel=>
                  refine⟨j+1,_,by omega,by go_num,rfl,qh ?_,qh (zrJ.out.trans (zs0.out.mono zrJ.out.size))⟩;simp[HS'.out,po.out,hU.out,hV.out,yV]
                case measure=>simp[intOf];omega
          · obtain rfl:j=l.length:=by omega
            go_wp2_with fail;go_meet
            refine⟨S2,rfl,qh ?_,HBi⟩;rw[hS2.out,hS.out,Hsu.out,Hofp.out];simp
      case rest=>
        rename_i wx;obtain⟨S3,rfl,p9,hb3⟩:=hcut;go_wp2_with fail;go_roundw
        case rel=>exact⟨k+1,S3,by omega,by go_num,rfl,p9,hb3⟩
        case measure=>simp[intOf];omega
    · obtain rfl:k=m.gO.length:=by omega
      go_wp2_with fail;go_meet
      exact⟨S,rfl,hS,hb⟩
  case rest=>
  rename_i wx2;obtain⟨S2,rfl,hS2,hb2⟩:=hcut;have Hwl:=qh (vL HP.out m.gO.length (ql _))
  have hs2:S2.size<=13700:=by
   have h1:=HF.out;have h2:=Hwl.out;rw[<-yW,hS2.out,qv];omega
  have m1:=(QL.out _ hb2.out 1).trans Hm1.out;go_upto_block 8 with fail
  go_cut [3] from 10 to 129 (λv3 wx=>∃S:ByteArray,v3=.string S/\Hid (S.data.toList=S2.data.toList++ua m.ends)/\Hid (Below W1.heap.size W1 wx))
  case first=>
   have Hel:=qh (vB (of:=id) (l:=m.ends) (λj hj=>⟨by rw[show id (m.ends.getD j default).1.data.toList=(m.ends.getD j default).1.data.toList from rfl,yW];have:=(HP.out.ends j hj).1;omega,(HP.out.ends j hj).2⟩));have Hws:=qh HP.out.ends;have HIW:=qh (HM.out.ends);have Het:=qh (zoQ m.ends);generalize m.ends=l at*;have Hp0:=qh (gr uI id l);have Hp1:=qh (zm0 uI id l);have Hpn:=qh (zns uI id l);have Hpl:=qh (λj (hj:j<=l.length)=>znX (h:=uI) (of:=id) (l:=l) (j:=j) (by simp[uI]) (Hel.out j hj) (by omega));clear m1;go_wp2_with fail;go_loopw [3,109] (λa i wi=>∃(j:Nat) (S3:ByteArray),j<=l.length/\i=.int .i64 j/\a=.string S3/\Hid (S3.data.toList=S2.data.toList++un uI id l j)/\Hid (Below W1.heap.size W1 wi)) (λ_ i _=>l.length-(intOf i).toNat)
   case atStart=>exact⟨0,S2,by omega,rfl,rfl,qh (by rw[Hp0.out];simp),hb2⟩
   case round=>
    obtain⟨wi,hwi⟩:∃wi:World,wi=wr:=⟨_,rfl⟩;subst hwi;obtain⟨j,S3,hj,rfl,rfl,p9,hbi⟩:=hrel;by_cases hjt:j<l.length
    · obtain⟨b2,o2,rfl,Uf,hrow2⟩:=(HIW.out.below hbi.out) (by omega)
      obtain⟨r0,r1⟩:=hrow2 j hjt;obtain⟨hv4,hv0,hv1⟩:=Hws.out j hjt;have Hq1:=qh (λ(h:j=0)=>(show un uI id l (j+1)=uI++(id (l.getD j default).1.data.toList++([32]++Lib.itoa (l.getD j default).2)) by subst h;exact Hp1.out));have Hqn:=qh (Hpn.out j)
      have hs3:S3.size<=15000:=by
        have h1:=Hpl.out j hj;rw[<-yW,p9.out,qv,yW];omega
      generalize l.getD j default=v at*;obtain⟨v1,v2⟩:=v;simp only[id] at r0 r1 hv4 hv0 hv1 Hq1 Hqn;clear hrow2;obtain⟨V,hV⟩:∃V:ByteArray,Hid (V=⟨(Lib.itoa v2).toArray⟩):=⟨_,qh rfl⟩;have hVs:V.size<=21:=(by rw[hV.out];exact vW (Lib.itoa_length_le v2 (by omega) (by omega)));generalize hwc:wi.alloc (.cells #[.string v1,.int .i64 v2] 83)=wc at*;have swc:wc.heap.size=wi.heap.size+1:=(by rw[<-hwc];simp);have c0:wc.cell? ⟨wi.heap.size,0,none⟩=some (.string v1):=(by rw[<-hwc];simp);have c1:wc.cell? ⟨wi.heap.size,1,none⟩=some (.int .i64 v2):=(by rw[<-hwc];simp);have Ug:=qh (show Below W1.heap.size W1 wc by rw[<-hwc];exact hbi.out.alloc hbi.out.size _);have Uh:=qh hwc;have HS':=qh p9.out;clear hwc;have zz0:¬(9223372036854775807<v1.size+1):=(by omega);have zz1:¬(9223372036854775807<v1.size+1+V.size):=(by omega);have zz2:¬(9223372036854775807<S3.size+6+(v1.size+1+V.size)):=(by omega);have zz3:¬(9223372036854775807<S3.size+2+(v1.size+1+V.size)):=(by omega);go_upto_region 28 with fail
      rw[Uh.out];by_cases hj0:j=0
      · have po:=qh (Hq1.out hj0)
        have hX:Hid (un uI id l j=[]):=qh (by rw[hj0];exact Hp0.out);subst hj0;obtain⟨wd,hwd⟩:∃wd:World,wd=wc:=⟨_,rfl⟩;subst hwd;have KU:=Ug;have p0:=c0;have p1:=c1;have hld:wi.heap.size<wd.heap.size:=(by omega);clear c0 c1;have Ym:Hid (∀W,Below wd.heap.size wd W->Calls Tryz.prog 50 #[.int .i64 v2] W λe w'=>e=.returned (.string V)/\Below W.heap.size W w'):=qh (λW hb=>by rw[hV.out];exact zk5 v2 W ((Hv.out.below KU.out (by have:=Hv.out.six;omega)).below hb (by have:=KU.out.size;have:=Hv.out.six;omega)) (by omega) (by omega));go_upto_region 31 with fail
        go_region_held3 (λw'=>Below wd.heap.size wd w'/\∀b o,b<wd.heap.size->w'.cell? ⟨b,o,none⟩=wd.cell? ⟨b,o,none⟩) (((repeat (apply JK;assumption));exact pa)) (first|(go_at_call 50;refine(Ym.out _ (by first|exact pa.1|exact qZ (by assumption))).mono ?_;rintro e w9 ⟨rfl,pb⟩)|(go_at_call 50;refine(HId.out _ (by first|exact pa.1|exact qZ (by assumption))).mono ?_;rintro e w9 ⟨rfl,pb⟩))
        all_goals
          rename_i hHeld;have Zl:=hHeld.1;clear hHeld;have pP:=qh (KU.out.trans (Zl.mono KU.out.size));clear Zl p0 p1;go_wp2_with fail;go_roundw
          case rel=>
            refine⟨1,_,by omega,rfl,rfl,qh ?_,pP⟩;rw[show un uI id l 1=_ from po.out];simp only[qH,qL,HS'.out,hX.out];simp[hV.out,uI]
          case measure=>simp[intOf];omega
      · have po:=qh (Hqn.out (by omega))
        obtain⟨wd,hwd⟩:∃wd:World,wd=wc:=⟨_,rfl⟩;subst hwd;have KU:=Ug;have p0:=c0;have p1:=c1;have hld:wi.heap.size<wd.heap.size:=(by omega);clear c0 c1;have Ym:Hid (∀W,Below wd.heap.size wd W->Calls Tryz.prog 50 #[.int .i64 v2] W λe w'=>e=.returned (.string V)/\Below W.heap.size W w'):=qh (λW hb=>by rw[hV.out];exact zk5 v2 W ((Hv.out.below KU.out (by have:=Hv.out.six;omega)).below hb (by have:=KU.out.size;have:=Hv.out.six;omega)) (by omega) (by omega));go_upto_region 31 with fail
        go_region_held3 (λw'=>Below wd.heap.size wd w'/\∀b o,b<wd.heap.size->w'.cell? ⟨b,o,none⟩=wd.cell? ⟨b,o,none⟩) (((repeat (apply JK;assumption));exact pa)) (first|(go_at_call 50;refine(Ym.out _ (by first|exact pa.1|exact qZ (by assumption))).mono ?_;rintro e w9 ⟨rfl,pb⟩)|(go_at_call 50;refine(HId.out _ (by first|exact pa.1|exact qZ (by assumption))).mono ?_;rintro e w9 ⟨rfl,pb⟩))
        all_goals
          rename_i hHeld;have Zl:=hHeld.1;clear hHeld;have pP:=qh (KU.out.trans (Zl.mono KU.out.size));clear Zl p0 p1;go_wp2_with fail;go_roundw
          case rel=>
            refine⟨j+1,_,by omega,by go_num,rfl,qh ?_,pP⟩;rw[po.out];simp[HS'.out,hV.out,yV]
          case measure=>simp[intOf];omega
    · obtain rfl:j=l.length:=by omega
      go_wp2_with fail;go_meet
      exact⟨S3,rfl,qh (by rw[p9.out,Het.out]),hbi⟩
  case rest=>
  rename_i wx3;obtain⟨S4,rfl,Jl,hb4⟩:=hcut
  have hs4:S4.size<=14700:=by
   have h1:=gq HP.out;rw[<-yW,Jl.out,qv,yW];omega
  have m2:=(QL.out _ hb4.out 2).trans Hm2.out;go_upto_block 10 with fail
  go_cut [3] from 12 to 148 (λv3 wx=>∃S:ByteArray,v3=.string S/\Hid (S.data.toList=S4.data.toList++vu m.gS m.gS.length)/\Hid (Below W1.heap.size W1 wx))
  case first=>
   have Hws:=qh HP.out.gS;have HIW:=qh (HM.out.gS);have Hbl:=qh (um HP.out);generalize m.gS=l at*;clear m2;go_wp2_with fail;go_loopw [3,133] (λa i wi=>∃(j:Nat) (S3:ByteArray),j<=l.length/\i=.int .i64 j/\a=.string S3/\Hid (S3.data.toList=S4.data.toList++vu l j)/\Hid (Below W1.heap.size W1 wi)) (λ_ i _=>l.length-(intOf i).toNat)
   case atStart=>exact⟨0,S4,by omega,rfl,rfl,qh (by simp[vu]),hb4⟩
   case round=>
    obtain⟨wi,hwi⟩:∃wi:World,wi=wr:=⟨_,rfl⟩;subst hwi;obtain⟨j,S3,hj,rfl,rfl,p9,hbi⟩:=hrel;by_cases hjt:j<l.length
    · obtain⟨b2,o2,rfl,Uf,hrow2⟩:=(HIW.out.below hbi.out) (by omega)
      obtain⟨r0,r1⟩:=hrow2 j hjt;obtain⟨hv0,hv1,hv2,hv3⟩:=Hws.out j hjt;have po:=qh (show vu l (j+1)=vu l j++(uO++(Lib.itoa (l.getD j default).1++([32]++Lib.itoa (l.getD j default).2))) from rfl)
      have hs3:S3.size<=16000:=by
        have h1:=Hbl.out j hj;rw[<-yW,p9.out,qv,yW];omega
      generalize l.getD j default=v at*;obtain⟨v1,v2⟩:=v;simp only[] at r0 r1 hv0 hv1 hv2 hv3 po;clear hrow2;obtain⟨U,hU⟩:∃U:ByteArray,Hid (U=⟨(Lib.itoa v1).toArray⟩):=⟨_,qh rfl⟩;obtain⟨V,hV⟩:∃V:ByteArray,Hid (V=⟨(Lib.itoa v2).toArray⟩):=⟨_,qh rfl⟩;have hUs:U.size<=21:=(by rw[hU.out];exact vW (Lib.itoa_length_le v1 (by omega) (by omega)));have hVs:V.size<=21:=(by rw[hV.out];exact vW (Lib.itoa_length_le v2 (by omega) (by omega)));generalize hwc:wi.alloc (.cells #[.int .i64 v1,.int .i64 v2] 85)=wd at*;have swc:wd.heap.size=wi.heap.size+1:=(by rw[<-hwc];simp);have p0:wd.cell? ⟨wi.heap.size,0,none⟩=some (.int .i64 v1):=(by rw[<-hwc];simp);have p1:wd.cell? ⟨wi.heap.size,1,none⟩=some (.int .i64 v2):=(by rw[<-hwc];simp);have KU:=qh (show Below W1.heap.size W1 wd by rw[<-hwc];exact hbi.out.alloc hbi.out.size _);have Uh:=qh hwc;have HS':=qh p9.out;have hld:wi.heap.size<wd.heap.size:=(by omega);clear hwc;have zz0:¬(9223372036854775807<8+U.size):=(by omega);have zz1:¬(9223372036854775807<8+U.size+1):=(by omega);have zz2:¬(9223372036854775807<8+U.size+1+V.size):=(by omega);have zz3:¬(9223372036854775807<S3.size+(8+U.size+1+V.size)):=(by omega);have Ym:Hid (∀W,Below wd.heap.size wd W->Calls Tryz.prog 50 #[.int .i64 v1] W λe w'=>e=.returned (.string U)/\Below W.heap.size W w'):=qh (λW hb=>by rw[hU.out];exact zk5 v1 W ((Hv.out.below KU.out (by have:=Hv.out.six;omega)).below hb (by have:=KU.out.size;have:=Hv.out.six;omega)) (by omega) (by omega));have HId:Hid (∀W,Below wd.heap.size wd W->Calls Tryz.prog 50 #[.int .i64 v2] W λe w'=>e=.returned (.string V)/\Below W.heap.size W w'):=qh (λW hb=>by rw[hV.out];exact zk5 v2 W ((Hv.out.below KU.out (by have:=Hv.out.six;omega)).below hb (by have:=KU.out.size;have:=Hv.out.six;omega)) (by omega) (by omega));go_upto_region 36 with fail
      rw[Uh.out];go_region_held3 (λw'=>Below wd.heap.size wd w'/\∀b o,b<wd.heap.size->w'.cell? ⟨b,o,none⟩=wd.cell? ⟨b,o,none⟩) (((repeat (apply JK;assumption));exact pa)) (first|(go_at_call 50;refine(Ym.out _ (by first|exact pa.1|exact qZ (by assumption))).mono ?_;rintro e w9 ⟨rfl,pb⟩)|(go_at_call 50;refine(HId.out _ (by first|exact pa.1|exact qZ (by assumption))).mono ?_;rintro e w9 ⟨rfl,pb⟩))
      all_goals
        rename_i hHeld;have Zl:=hHeld.1;clear hHeld;have pP:=qh (KU.out.trans (Zl.mono KU.out.size));clear Zl p0 p1;go_wp2_with fail;go_roundw
        case rel=>
          refine⟨j+1,_,by omega,by go_num,rfl,qh ?_,pP⟩;rw[po.out];simp[HS'.out,hU.out,hV.out,uO]
        case measure=>simp[intOf];omega
    · obtain rfl:j=l.length:=by omega
      go_wp2_with fail;go_meet
      exact⟨S3,rfl,qh p9.out,hbi⟩
  case rest=>
  rename_i wx4;obtain⟨S5,rfl,hS5,hb5⟩:=hcut;go_wp2_with fail;go_ret;refine⟨?_,HB1.out.trans (hb5.out.mono HB1.out.size)⟩;have e5:S5=⟨S5.data.toList.toArray⟩:=by cases S5;simp
  rw[e5,hS5.out,Jl.out,hS2.out,HPP.out];simp
def BB (b:Nat) (l:List UInt8) (w:World):Prop:=Lib.IsBuilderF 120 5 b b (Lib.byteCells l) w
theorem uh {T e B b:Nat} {p:Value} {bs:List Value} {w w':World} (h:Lib.BuilderAtF T e B b p bs w) (hb:Below w.heap.size w w'):Lib.BuilderAtF T e B b p bs w':=by
  have hlt:=h.lt;obtain⟨hB,v,hc,hown,hne⟩:=h;exact⟨hB,v,(hb.block b hlt).trans hc,hown.kept (Zq hb none) (by cases hv:v.ownBlock<;>simp),hne⟩
theorem BB.below {b:Nat} {l:List UInt8} {w w':World} (h:BB b l w) (hb:Below w.heap.size w w'):BB b l w':=
  h.elim (λx=>.inl (uh x hb)) (λx=>.inr (uh x hb))
theorem BB.lt {b:Nat} {l:List UInt8} {w:World} (h:BB b l w):b<w.heap.size:=h.elim (λx=>x.lt) (λx=>x.lt)
def FN74 (b:Nat):Value:=.func (.func 74) #[] #[.pointer (some ⟨b,0,none⟩)]
structure PS (b p:Nat) (W2:World) (l:List UInt8) (w:World):Prop where
  bb:BB b l w
  fn:w.heap[p]?=some (.cells #[FN74 b] 151 (0,0))
  lo:Below b W2 w
  ne:p≠b
theorem PS.bw {b p:Nat} {W2 w:World} {l:List UInt8} (h:PS b p W2 l w):b<w.heap.size:=h.bb.lt
theorem PS.pw {b p:Nat} {W2 w:World} {l:List UInt8} (h:PS b p W2 l w):p<w.heap.size:=(qg h.fn).1
theorem PS.below {b p:Nat} {W2 w w':World} {l:List UInt8} (h:PS b p W2 l w) (hb:Below w.heap.size w w'):PS b p W2 l w':=
  ⟨h.bb.below hb,(hb.block p h.pw).trans h.fn,h.lo.trans (hb.mono (zL h.bw)),h.ne⟩
theorem PS.alloc {b p:Nat} {W2 w:World} {l:List UInt8} (h:PS b p W2 l w) (o:Obj):PS b p W2 l (w.alloc o):=h.below ((qb _ _).alloc (ql _) o)
theorem PS.cell {b p:Nat} {W2 w:World} {l:List UInt8} (h:PS b p W2 l w):w.cell? ⟨p,0,none⟩=some (.func (.func 74) #[] #[.pointer (some ⟨b,0,none⟩)]):=qc _ _ 0 _ 151 (0,0) h.fn
structure SB (b p vb t:Nat) (x y:Value) (wq w:World):Prop where
  lo:Below b wq w
  bw:b<w.heap.size
  box:w.heap[vb]?=some (.cells #[x,y] t (0,0))
  fn:w.heap[p]?=some (.cells #[FN74 b] 151 (0,0))
  vne:vb≠b
  pne:p≠b
  t5:t≠5
theorem SB.all {b p vb t:Nat} {x y:Value} {wq w:World} (h:SB b p vb t x y wq w):SB b p vb t x y wq w/\w.cell? ⟨vb,0,none⟩=some x/\w.cell? ⟨vb,1,none⟩=some y/\w.cell? ⟨p,0,none⟩=some (.func (.func 74) #[] #[.pointer (some ⟨b,0,none⟩)]):=
  ⟨h,qc _ _ 0 _ t (0,0) h.box,qc _ _ 1 _ t (0,0) h.box,qc _ _ 0 _ 151 (0,0) h.fn⟩
theorem SB.keep {b p vb t:Nat} {x y:Value} {wq w w':World} (h:SB b p vb t x y wq w) (hb:Below w.heap.size w w'):SB b p vb t x y wq w':=
  ⟨h.lo.trans (hb.mono (zL h.bw)),by have:=hb.size;have:=h.bw;omega,(hb.block _ (qg h.box).1).trans h.box,(hb.block _ (qg h.fn).1).trans h.fn,h.vne,h.pne,h.t5⟩
section
variable {P:Program} {ops:Array Oper} {Q:Exit->Act->World->Prop}
end
section
variable {m:Met} {W2 wr w':World} {b4 b9 b12 b17 b20 b21 b22 b23:Bool} {x3 x10 x15 x18 x23 x26 x27:Value}
end
end Go.Proofs.YtgklikkddckgbaaGreatDoor
namespace Go.Proofs
open Go.Shelf Go.RowKit
def Tryz.KV:Go.Shelf.Ren:=⟨fun|169=>52|n=>n,fun|70=>118|9=>9|0=>0|72=>120|37=>25|127=>156|3=>3|5=>5|n=>n,fun|n=>n⟩
theorem Tryz.zrK:Go.Proofs.Lays.n169 Tryz.prog Tryz.KV:={
  mixed:=by kernel_rfl
  f169:=Tryz.func52.trans (congrArg some (by kernel_rfl))
  t0:=Tryz.underlying0
  a0:=Tryz.isAgg0
  z0:=Tryz.sizeOf0
  v0:=Tryz.zeroValue0
  t3:=Tryz.underlying3
  a3:=Tryz.isAgg3
  z3:=Tryz.sizeOf3
  v3:=Tryz.zeroValue3
  t9:=Tryz.underlying9
  a9:=Tryz.isAgg9
  z9:=Tryz.sizeOf9
  v9:=Tryz.zeroValue9
  t37:=Tryz.underlying25
  a37:=Tryz.isAgg25
  z37:=Tryz.sizeOf25
  v37:=Tryz.zeroValue25
  t70:=Tryz.underlying118
  a70:=Tryz.isAgg118
  z70:=Tryz.sizeOf118
  v70:=Tryz.zeroValue118
  t72:=Tryz.underlying120
  a72:=Tryz.isAgg120
  z72:=Tryz.sizeOf120
  v72:=Tryz.zeroValue120
  t127:=Tryz.underlying156
  a127:=Tryz.isAgg156
  z127:=Tryz.sizeOf156
  v127:=Tryz.zeroValue156}
theorem Tryz.Kv:Builder.Extra Tryz.prog Tryz.KV:={
  sizeBuilder:=by kernel_rfl
  liesBuilder:=by kernel_rfl
  t5:=Tryz.underlying5
  a5:=Tryz.isAgg5
  z5:=Tryz.sizeOf5
  v5:=Tryz.zeroValue5
  infoByte:=by kernel_rfl
  cellsByte:=by kernel_rfl
  sizeByte:=by kernel_rfl
  neB5:=by decide}
def Tryz.KW:Go.Shelf.Ren:=⟨fun|158=>81|165=>98|166=>48|167=>108|169=>52|230=>109|203=>110|240=>72|241=>124|197=>99|118=>138|168=>139|270=>140|262=>141|276=>103|277=>155|260=>125|242=>169|313=>170|278=>192|274=>193|275=>194|n=>n,fun|9=>9|4=>4|3=>3|5=>5|72=>120|0=>0|76=>123|75=>122|107=>177|70=>118|20=>20|37=>25|127=>156|21=>21|105=>162|164=>169|162=>244|203=>242|119=>225|46=>184|139=>228|138=>227|51=>221|160=>256|208=>270|206=>268|80=>68|n=>n,fun|13=>4|3=>1|4=>2|n=>n⟩
theorem Tryz.zrL:Go.Proofs.Lays.n158 Tryz.prog Tryz.KW:={
  mixed:=by kernel_rfl
  f118:=Tryz.func138.trans (congrArg some (by kernel_rfl))
  f158:=Tryz.func81.trans (congrArg some (by kernel_rfl))
  f165:=Tryz.func98.trans (congrArg some (by kernel_rfl))
  f166:=Tryz.func48.trans (congrArg some (by kernel_rfl))
  f167:=Tryz.func108.trans (congrArg some (by kernel_rfl))
  f168:=Tryz.func139.trans (congrArg some (by kernel_rfl))
  f169:=Tryz.func52.trans (congrArg some (by kernel_rfl))
  f197:=Tryz.func99.trans (congrArg some (by kernel_rfl))
  f203:=Tryz.func110.trans (congrArg some (by kernel_rfl))
  f230:=Tryz.func109.trans (congrArg some (by kernel_rfl))
  f240:=Tryz.func72.trans (congrArg some (by kernel_rfl))
  f241:=Tryz.func124.trans (congrArg some (by kernel_rfl))
  f242:=Tryz.func169.trans (congrArg some (by kernel_rfl))
  f260:=Tryz.func125.trans (congrArg some (by kernel_rfl))
  f262:=Tryz.func141.trans (congrArg some (by kernel_rfl))
  f270:=Tryz.func140.trans (congrArg some (by kernel_rfl))
  f274:=Tryz.func193.trans (congrArg some (by kernel_rfl))
  f275:=Tryz.func194.trans (congrArg some (by kernel_rfl))
  f276:=Tryz.func103.trans (congrArg some (by kernel_rfl))
  f277:=Tryz.func155.trans (congrArg some (by kernel_rfl))
  f278:=Tryz.func192.trans (congrArg some (by kernel_rfl))
  f313:=Tryz.func170.trans (congrArg some (by kernel_rfl))
  t0:=Tryz.underlying0
  a0:=Tryz.isAgg0
  z0:=Tryz.sizeOf0
  v0:=Tryz.zeroValue0
  t3:=Tryz.underlying3
  a3:=Tryz.isAgg3
  z3:=Tryz.sizeOf3
  v3:=Tryz.zeroValue3
  t4:=Tryz.underlying4
  a4:=Tryz.isAgg4
  z4:=Tryz.sizeOf4
  v4:=Tryz.zeroValue4
  t5:=Tryz.underlying5
  a5:=Tryz.isAgg5
  z5:=Tryz.sizeOf5
  v5:=Tryz.zeroValue5
  t9:=Tryz.underlying9
  a9:=Tryz.isAgg9
  z9:=Tryz.sizeOf9
  v9:=Tryz.zeroValue9
  t20:=Tryz.underlying20
  a20:=Tryz.isAgg20
  z20:=Tryz.sizeOf20
  v20:=Tryz.zeroValue20
  t21:=Tryz.underlying21
  a21:=Tryz.isAgg21
  z21:=Tryz.sizeOf21
  v21:=Tryz.zeroValue21
  t37:=Tryz.underlying25
  a37:=Tryz.isAgg25
  z37:=Tryz.sizeOf25
  v37:=Tryz.zeroValue25
  t46:=Tryz.underlying184
  a46:=Tryz.isAgg184
  z46:=Tryz.sizeOf184
  v46:=Tryz.zeroValue184
  t51:=Tryz.underlying221
  a51:=Tryz.isAgg221
  z51:=Tryz.sizeOf221
  v51:=Tryz.zeroValue221
  t70:=Tryz.underlying118
  a70:=Tryz.isAgg118
  z70:=Tryz.sizeOf118
  v70:=Tryz.zeroValue118
  t72:=Tryz.underlying120
  a72:=Tryz.isAgg120
  z72:=Tryz.sizeOf120
  v72:=Tryz.zeroValue120
  t75:=Tryz.underlying122
  a75:=Tryz.isAgg122
  z75:=Tryz.sizeOf122
  v75:=Tryz.zeroValue122
  t76:=Tryz.underlying123
  a76:=Tryz.isAgg123
  z76:=Tryz.sizeOf123
  v76:=Tryz.zeroValue123
  t105:=Tryz.underlying162
  a105:=Tryz.isAgg162
  z105:=Tryz.sizeOf162
  v105:=Tryz.zeroValue162
  t107:=Tryz.underlying177
  a107:=Tryz.isAgg177
  z107:=Tryz.sizeOf177
  v107:=Tryz.zeroValue177
  t119:=Tryz.underlying225
  a119:=Tryz.isAgg225
  z119:=Tryz.sizeOf225
  t127:=Tryz.underlying156
  a127:=Tryz.isAgg156
  z127:=Tryz.sizeOf156
  v127:=Tryz.zeroValue156
  t138:=Tryz.underlying227
  a138:=Tryz.isAgg227
  z138:=Tryz.sizeOf227
  v138:=Tryz.zeroValue227
  t139:=Tryz.underlying228
  a139:=Tryz.isAgg228
  z139:=Tryz.sizeOf228
  v139:=Tryz.zeroValue228
  t160:=Tryz.underlying256
  a160:=Tryz.isAgg256
  z160:=Tryz.sizeOf256
  v160:=Tryz.zeroValue256
  t162:=Tryz.underlying244
  a162:=Tryz.isAgg244
  z162:=Tryz.sizeOf244
  v162:=Tryz.zeroValue244
  t164:=Tryz.underlying169
  a164:=Tryz.isAgg169
  z164:=Tryz.sizeOf169
  v164:=Tryz.zeroValue169
  t203:=Tryz.underlying242
  a203:=Tryz.isAgg242
  z203:=Tryz.sizeOf242
  v203:=Tryz.zeroValue242
  t206:=Tryz.underlying268
  a206:=Tryz.isAgg268
  z206:=Tryz.sizeOf268
  v206:=Tryz.zeroValue268
  t208:=Tryz.underlying270
  a208:=Tryz.isAgg270
  z208:=Tryz.sizeOf270
  v208:=Tryz.zeroValue270
  g3:=by kernel_rfl
  g4:=by kernel_rfl
  g13:=by kernel_rfl}
theorem Tryz.Kw:Builder.Extra Tryz.prog Tryz.KW:={
  sizeBuilder:=by kernel_rfl
  liesBuilder:=by kernel_rfl
  t5:=Tryz.underlying5
  a5:=Tryz.isAgg5
  z5:=Tryz.sizeOf5
  v5:=Tryz.zeroValue5
  infoByte:=by kernel_rfl
  cellsByte:=by kernel_rfl
  sizeByte:=by kernel_rfl
  neB5:=by decide}
open Go.RowKit in
theorem Tryz.strings_ToUpper_ascii (s:ByteArray) (w:World) (hs:s.size<=140737488355328) (hascii:∀(j:Nat) (b:UInt8),s.data.toList[j]?=some b->b.toNat<128):
    Calls Tryz.prog 81 #[.string s] w λe w'=>e=.returned (.string ⟨(Lib.toUpperA s.data.toList).toArray⟩)/\Below w.heap.size w w':=Any.strings_ToUpper_ascii Tryz.zrL Tryz.Kw s w hs hascii
def Tryz.ZC:Go.Shelf.Ren:=⟨fun|156=>75|165=>98|166=>48|169=>52|240=>72|241=>124|276=>103|277=>155|n=>n,fun|31=>149|9=>9|3=>3|4=>4|0=>0|20=>20|72=>120|76=>123|70=>118|37=>25|75=>122|127=>156|164=>169|5=>5|80=>68|n=>n,fun|n=>n⟩
theorem Tryz.zp3:Go.Proofs.Lays.n156 Tryz.prog Tryz.ZC:={
  mixed:=by kernel_rfl
  f156:=Tryz.func75.trans (congrArg some (by kernel_rfl))
  f165:=Tryz.func98.trans (congrArg some (by kernel_rfl))
  f166:=Tryz.func48.trans (congrArg some (by kernel_rfl))
  f169:=Tryz.func52.trans (congrArg some (by kernel_rfl))
  f240:=Tryz.func72.trans (congrArg some (by kernel_rfl))
  f241:=Tryz.func124.trans (congrArg some (by kernel_rfl))
  f276:=Tryz.func103.trans (congrArg some (by kernel_rfl))
  f277:=Tryz.func155.trans (congrArg some (by kernel_rfl))
  t0:=Tryz.underlying0
  a0:=Tryz.isAgg0
  z0:=Tryz.sizeOf0
  v0:=Tryz.zeroValue0
  t3:=Tryz.underlying3
  a3:=Tryz.isAgg3
  z3:=Tryz.sizeOf3
  v3:=Tryz.zeroValue3
  t4:=Tryz.underlying4
  a4:=Tryz.isAgg4
  z4:=Tryz.sizeOf4
  v4:=Tryz.zeroValue4
  t9:=Tryz.underlying9
  a9:=Tryz.isAgg9
  z9:=Tryz.sizeOf9
  v9:=Tryz.zeroValue9
  t20:=Tryz.underlying20
  a20:=Tryz.isAgg20
  z20:=Tryz.sizeOf20
  v20:=Tryz.zeroValue20
  t31:=Tryz.underlying149
  a31:=Tryz.isAgg149
  z31:=Tryz.sizeOf149
  v31:=Tryz.zeroValue149
  t37:=Tryz.underlying25
  a37:=Tryz.isAgg25
  z37:=Tryz.sizeOf25
  v37:=Tryz.zeroValue25
  t70:=Tryz.underlying118
  a70:=Tryz.isAgg118
  z70:=Tryz.sizeOf118
  v70:=Tryz.zeroValue118
  t72:=Tryz.underlying120
  a72:=Tryz.isAgg120
  z72:=Tryz.sizeOf120
  v72:=Tryz.zeroValue120
  t75:=Tryz.underlying122
  a75:=Tryz.isAgg122
  z75:=Tryz.sizeOf122
  v75:=Tryz.zeroValue122
  t76:=Tryz.underlying123
  a76:=Tryz.isAgg123
  z76:=Tryz.sizeOf123
  v76:=Tryz.zeroValue123
  t127:=Tryz.underlying156
  a127:=Tryz.isAgg156
  z127:=Tryz.sizeOf156
  v127:=Tryz.zeroValue156
  t164:=Tryz.underlying169
  a164:=Tryz.isAgg169
  z164:=Tryz.sizeOf169
  v164:=Tryz.zeroValue169}
theorem Tryz.QM:Builder.Extra Tryz.prog Tryz.ZC:={
  sizeBuilder:=by kernel_rfl
  liesBuilder:=by kernel_rfl
  t5:=Tryz.underlying5
  a5:=Tryz.isAgg5
  z5:=Tryz.sizeOf5
  v5:=Tryz.zeroValue5
  infoByte:=by kernel_rfl
  cellsByte:=by kernel_rfl
  sizeByte:=by kernel_rfl
  neB5:=by decide}
open Go.RowKit in
theorem Tryz.strings_Join (bk o c:Nat) (xs:List ByteArray) (sep:ByteArray) (w:World) (hcells:∀(j:Nat) x,xs[j]?=some x->w.cell? ⟨bk,o+j,none⟩=some (.string x)) (hbk:bk<w.heap.size) (hN:xs.length<=140737488355328) (hcap:xs.length<=c) (hlen:(Lib.join (xs.map (·.data.toList)) sep.data.toList).length<=140737488355328):
    Calls Tryz.prog 75 #[.slice (some ⟨bk,o,none⟩) xs.length c,.string sep] w λe w'=>e=.returned (.string ⟨(Lib.join (xs.map (·.data.toList)) sep.data.toList).toArray⟩)/\Below w.heap.size w w':=Any.strings_Join Tryz.zp3 Tryz.QM bk o c xs sep w hcells hbk hN hcap hlen
open Go.RowKit in
theorem Tryz.Builder_String_any_k (B b:Nat) (l:List UInt8) (w:World) (h:Lib.IsBuilderF 120 5 B b (Lib.byteCells l) w) (hBw:B<=w.heap.size):
    Calls Tryz.prog 52 #[.pointer (some ⟨b,0,none⟩)] w λe w'=>e=.returned (.string ⟨l.toArray⟩)/\(Lib.IsBuilderF 120 5 B b (Lib.byteCells l) w'/\Below B w w'/\Lib.OthersKept 5 (some b) w w'):=Any.Builder_String_any_k Tryz.zrK Tryz.Kv B b l w h hBw
def Tryz.Vg:Go.Shelf.Ren:=⟨fun|110=>133|109=>163|n=>n,fun|31=>149|9=>9|4=>4|3=>3|0=>0|n=>n,fun|n=>n⟩
theorem Tryz.zp4:Go.Proofs.Lays.n110 Tryz.prog Tryz.Vg:={
  mixed:=by kernel_rfl
  f109:=Tryz.func163.trans (congrArg some (by kernel_rfl))
  f110:=Tryz.func133.trans (congrArg some (by kernel_rfl))
  t0:=Tryz.underlying0
  a0:=Tryz.isAgg0
  z0:=Tryz.sizeOf0
  v0:=Tryz.zeroValue0
  t3:=Tryz.underlying3
  a3:=Tryz.isAgg3
  z3:=Tryz.sizeOf3
  v3:=Tryz.zeroValue3
  t4:=Tryz.underlying4
  a4:=Tryz.isAgg4
  z4:=Tryz.sizeOf4
  v4:=Tryz.zeroValue4
  t9:=Tryz.underlying9
  a9:=Tryz.isAgg9
  z9:=Tryz.sizeOf9
  v9:=Tryz.zeroValue9
  t31:=Tryz.underlying149
  a31:=Tryz.isAgg149
  z31:=Tryz.sizeOf149
  v31:=Tryz.zeroValue149}
open Go.Lib in
theorem Tryz.slices_Contains_string (b off n c:Nat) (zs:List ByteArray) (x:ByteArray) (w:World) (hz:n<=zs.length) (hbig:n<=9223372036854775807) (hc:∀j,j<zs.length->w.cell? ⟨b,off+j,none⟩=some (.string (zs.getD j ByteArray.empty))):
    Calls Tryz.prog 133 #[.slice (some ⟨b,off,none⟩) n c,.string x] w λe w'=>e=.returned (.bool (Lib.containsS (zs.take n) x))/\w'=w:=Any.slices_Contains_string Tryz.zp4 b off n c zs x w hz hbig hc
open Go.Lib in
theorem Tryz.slices_Contains_string_empty (a:Option Addr) (c:Nat) (x:ByteArray) (w:World):
    Calls Tryz.prog 133 #[.slice a 0 c,.string x] w λe w'=>e=.returned (.bool false)/\w'=w:=Any.slices_Contains_string_empty Tryz.zp4 a c x w
end Go.Proofs


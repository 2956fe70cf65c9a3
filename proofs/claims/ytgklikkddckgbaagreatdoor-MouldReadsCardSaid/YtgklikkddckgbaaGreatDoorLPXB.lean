import Derived.Test.YtgklikkddckgbaaGreatDoorLPXA
import Derived.Deep.CutBlock
import Derived.Laws.EntriesVeiled
import Derived.Shelf.Strings.BuilderK
import Derived.Stop.RegionWithIn
/- Lemmas. -/
set_option linter.all false
set_option maxRecDepth 100000
set_option maxHeartbeats 16000000
namespace Go.Proofs.YtgklikkddckgbaaGreatDoor
open Go Go.RowKit
end Go.Proofs.YtgklikkddckgbaaGreatDoor
namespace Go.Proofs.YtgklikkddckgbaaGreatDoor
open Go.RowKit
theorem znY {a b:ByteArray} (h:ph a b=true):a=b:=by
  unfold ph at h;rw[qW,qW] at h;have:a.data.toList=b.data.toList:=by simpa using h
  rcases a with⟨⟨a⟩⟩;rcases b with⟨⟨b⟩⟩
  simp at this;rw[this]
end Go.Proofs.YtgklikkddckgbaaGreatDoor
namespace Go.Proofs.YtgklikkddckgbaaGreatDoor
end Go.Proofs.YtgklikkddckgbaaGreatDoor
namespace Go.Proofs.YtgklikkddckgbaaGreatDoor
theorem uQ {α:Type} [Inhabited α] (l:List α) (k:Nat) (h:k<l.length):l.take (k+1)=l.take k++[l.getD k default]:=by
  rw[qE h];simp[qj,h]
theorem znh (lg:Int) (own:List ByteArray) (l:List Way) (k:Nat) (h:k<l.length):
    yZ lg own (l.take k) (l.drop k)=(gC lg own (l.take k) (l.getD k default)&&yZ lg own (l.take (k+1)) (l.drop (k+1))):=by
  rw[ug l k h,uQ l k h];rfl
theorem znF (lg:Int) (own:List ByteArray) (l:List Way):yZ lg own (l.take l.length) (l.drop l.length)=true:=by
  rw[yx];rfl
theorem zni (n:Int) (a:Int) (l:List (Int×Int)) (k:Nat) (h:k<l.length):
    yS n a (l.drop k)=(decide (a<(l.getD k default).1)&&decide ((l.getD k default).1<n)&&decide (1<=(l.getD k default).2)&&decide ((l.getD k default).2<=1048576)&&yS n (l.getD k default).1 (l.drop (k+1))):=by
  rw[ug l k h];rfl
theorem zpm {α:Type} [Inhabited α] (l:List α) (p:α->Bool) (k:Nat) (h:k<l.length):(l.drop k).all p=(p (l.getD k default)&&(l.drop (k+1)).all p):=by
  rw[ug l k h];rfl
end Go.Proofs.YtgklikkddckgbaaGreatDoor
namespace Go.Proofs.YtgklikkddckgbaaGreatDoor
open Go.RowKit Go.Shelf Go.Lib
attribute [local go_sem] jd
def znZ (t:List UInt8):List UInt8:=match uZ t with|some f=>f.2.2|none=>[]
def SI (t:ByteArray) (w:World) (pre:List Nat) (W:World):Prop:=(∀j,j∈pre->((pu j).2.1==t.data.toList)=false)/\one W w.heap.size (.string t) 9/\one W (w.heap.size+1) (.string ⟨#[]⟩) 9/\one W (w.heap.size+2) (.string ⟨#[]⟩) 9/\Below w.heap.size w W
def SIx (t:ByteArray) (w:World) (c:Code) (pre:List Nat) (W:World):Prop:=c=.ret/\∃p m,pre=p++[m]/\(∀j,j∈p->((pu j).2.1==t.data.toList)=false)/\((pu m).2.1==t.data.toList)=true/\one W (w.heap.size+1) (.string ⟨(pu m).1.toArray⟩) 9/\one W (w.heap.size+2) (.string ⟨(pu m).2.2.toArray⟩) 9/\Below w.heap.size w W
def SAx (t:ByteArray) (w W3:World) (x:Nat) (a':Act) (W:World):Prop:=∃Bx,W3.heap.size<=Bx/\W.heap[Bx]?=some (.cells #[vT (pu x).1,vT (pu x).2.1,vT (pu x).2.2] 173 (0,0))/\
  ∃y6 y7 y8 y9 Vn YD y12 y13 y14,a'={tmps:=#[.string t,.pointer (some ⟨w.heap.size,0,none⟩),.pointer (some ⟨w.heap.size+1,0,none⟩),.pointer (some ⟨w.heap.size+1+1,0,none⟩),.pointer (some ⟨Bx,0,none⟩),zjf x,y6,y7,y8,y9,Vn,YD,y12,y13,y14],defers:=[]}
theorem zpK (F:Fence) (n:Nat) (h77:F.fn 76) (h51:F.fn 106) (hro:F.round=none) (hn:3<=n) (t:ByteArray) (w:World):
    CallsIn F n Tryz.prog 76 #[.string t] w λe w'=>e=.returned (.tuple #[.string ⟨(yN t.data.toList).toArray⟩,.string ⟨(znZ t.data.toList).toArray⟩])/\Below w.heap.size w w':=by
  have h1:1<=n:=by omega
  refine callsIn_of_wp_marks Tryz.func76 rfl h77 ?_ hro;simp only[Tryz.ntmps76,ya,qB,qG,Nat.reduceAdd,Nat.reduceSub,xu,xv,xZ,xD,jc,kh];gi_wp2;generalize hW3:World.alloc (World.alloc (World.alloc w _) _) _=W3;have sW3:W3.heap.size=w.heap.size+3:=by rw[<-hW3];simp
  have o0:one W3 w.heap.size (.string t) 9:=by rw[<-hW3];exact((qa _ _ _ (by simp;omega)).trans (qa _ _ _ (by simp))).trans (qn w _)
  have o1:one W3 (w.heap.size+1) (.string ⟨#[]⟩) 9:=by
    rw[<-hW3];have:=qn (w.alloc (.cells #[.string t] 9)) (.cells #[.string ⟨#[]⟩] 9);rw[qO] at this;exact(qa _ _ _ (by simp)).trans this
  have o2:one W3 (w.heap.size+2) (.string ⟨#[]⟩) 9:=by
    rw[<-hW3];have:=qn ((w.alloc (.cells #[.string t] 9)).alloc (.cells #[.string ⟨#[]⟩] 9)) (.cells #[.string ⟨#[]⟩] 9);rw[qO,qO] at this;exact this
  have hB3:Below w.heap.size w W3:=by rw[<-hW3];exact(((qb _ w).alloc (ql _) _).alloc (by simp) _).alloc (by simp;omega) _
  clear hW3
  refine zje hro h1 (gf:=106) (lb:=#[]) rfl h51 (enters_of Tryz.func106 (by kernel_rfl) rfl) (zjg F (n-1) h51 hro (by omega) W3) (λ_=>rfl)
    (SI t w) (SIx t w)
    ?hI ?hIx ⟨λj h=>(by cases h),o0,o1,o2,hB3⟩
    (SAx t w W3)
    ?assign ?body ?hAx ?done ?stop
  case hI=>
    rintro s A A' row ⟨h2,h3,h4,h5,h6⟩ hg hr;exact⟨h2,zb5 h3 (by omega) hg hr,zb5 h4 (by omega) hg hr,zb5 h5 (by omega) hg hr,h6.grown hg h6.size (λr e=>by have:=hr r e;omega)⟩
  case hIx=>
    rintro c s A A' row ⟨rfl,p,m,h1,h2,h3,h4,h5,h6⟩ hg hr;exact⟨rfl,p,m,h1,h2,h3,zb5 h4 (by omega) hg hr,zb5 h5 (by omega) hg hr,h6.grown hg h6.size (λr e=>by have:=hr r e;omega)⟩
  case hAx=>
    rintro x a' s A A' row ⟨Bx,h1,h2,y6,y7,y8,y9,Vn,YD,y12,y13,y14,h3⟩ hg hr;refine⟨Bx,h1,(hg.block Bx (qg h2).1 (λe=>?_)).trans h2,y6,y7,y8,y9,Vn,YD,y12,y13,y14,h3⟩;obtain⟨_,o,ho,hc⟩:=hr Bx e.symm;rw[h2] at ho;cases ho;cases hc
  case assign=>
    intro l pre x W K hi hsz hK;have hfv:zjf x=.agg #[.string ⟨(pu x).1.toArray⟩,.string ⟨(pu x).2.1.toArray⟩,.string ⟨(pu x).2.2.toArray⟩]:=rfl;gi_wp2;obtain⟨g1,g2,g3,g4,g5⟩:=hi;have q:∀{k:Nat} {v:Value} {ty:TypeId} (o:Obj),k<W3.heap.size->one W k v ty->one (W.alloc o) k v ty:=λo hk h=>(qa _ _ _ (by omega)).trans h;refine hK _ _ (KeepsOthers.alloc _ _) ⟨by simp,λi o hi ho _=>?_⟩ ⟨g1,q _ (by omega) g2,q _ (by omega) g3,q _ (by omega) g4,g5.alloc (by omega) _⟩ ⟨W.heap.size,hsz,qn W _,_,_,_,_,_,_,_,_,_,rfl⟩;exact(qa _ _ _ (by have:=(qg ho).1;omega)).trans ho
  case body=>
    rintro l pre x a' W ⟨hnn,p0,p1,p2,hB⟩ hlen ⟨Bx,hBx,hx,y6,y7,y8,y9,Vn,YD,y12,y13,y14,rfl⟩ hsz;have e2:w.heap.size+1+1=w.heap.size+2:=rfl
    have hin:∀(r:Bool),((pu x).2.1==t.data.toList)=r->∀j,j∈pre++[x]->((pu j).2.1==t.data.toList)=false∨(r=true/\j=x):=λr hr j hj=>by
      rcases qJ.1 hj with h|h
      · exact .inl (hnn j h)
      · obtain rfl:j=x:=by simpa using h
        cases r
        · exact .inl hr
        · exact .inr ⟨rfl,rfl⟩
    have zqo:((pu x).2.1==t.data.toList)=false->SI t w (pre++[x]) W:=λhf=>⟨λj hj=>(by rcases hin false hf j hj with h|⟨h,_⟩<;>first|exact h|cases h),p0,p1,p2,hB⟩;have c0:W.cell? ⟨w.heap.size,0,none⟩=some (.string t):=qc _ _ _ _ 9 (0,0) p0;have c1:W.cell? ⟨w.heap.size+1,0,none⟩=some (.string ⟨#[]⟩):=qc _ _ _ _ 9 (0,0) p1;have c2:W.cell? ⟨w.heap.size+2,0,none⟩=some (.string ⟨#[]⟩):=qc _ _ _ _ 9 (0,0) p2;have b0:W.cell? ⟨Bx,0,none⟩=some (.string ⟨(pu x).1.toArray⟩):=qc _ _ _ _ 173 (0,0) hx;have b1:W.cell? ⟨Bx,1,none⟩=some (.string ⟨(pu x).2.1.toArray⟩):=qc _ _ _ _ 173 (0,0) hx;have b2:W.cell? ⟨Bx,2,none⟩=some (.string ⟨(pu x).2.2.toArray⟩):=qc _ _ _ _ 173 (0,0) hx;have y1:=qf W (w.heap.size+1) 0 _ 9 p1;have y2:=qf W (w.heap.size+2) 0 _ 9 p2;have hfn:=znn x t;have Hnn:=qh hnn;have zr7:=qh zqo;clear hnn hin zqo;cases hP:((pu x).2.1==t.data.toList) with
    |false=>
     rw[hP] at hfn;have hp0:=zr7.out hP;have Hp0:=qh hp0;clear hp0 hP;gi_wp2
     all_goals exact⟨KeepsOthers.refl _,pr.refl _ _,Hp0.out⟩
    |true=>
     rw[hP] at hfn;have HP:=qh hP;clear hP;gi_wp2;gi_region
     all_goals gi_wp2
     all_goals refine⟨⟨((kv _ _ _).trans (kv _ _ _)).size,((kv _ _ _).trans (kv _ _ _)).same⟩,rfl,pre,x,rfl,Hnn.out,HP.out,?_,?_,?_⟩
     all_goals first
       |exact(qT _ _ _ _ (by show w.heap.size+1≠w.heap.size+2;omega)).trans (qs W (w.heap.size+1) 0 _ 9 _ p1)
       |exact qs _ (w.heap.size+2) 0 _ 9 _ ((qT _ _ _ _ (by show w.heap.size+2≠w.heap.size+1;omega)).trans p2)
       |exact((hB.setCell (by show w.heap.size<=w.heap.size+1;omega) _).setCell (by show w.heap.size<=w.heap.size+2;omega) _).drew
  case done=>
    rintro D xs W hD rfl ⟨hnn,p0,p1,p2,hB⟩ hK;have e2:w.heap.size+1+1=w.heap.size+2:=rfl;have c0:W.cell? ⟨w.heap.size,0,none⟩=some (.string t):=qc _ _ _ _ 9 (0,0) p0;have c1:W.cell? ⟨w.heap.size+1,0,none⟩=some (.string ⟨#[]⟩):=qc _ _ _ _ 9 (0,0) p1;have c2:W.cell? ⟨w.heap.size+2,0,none⟩=some (.string ⟨#[]⟩):=qc _ _ _ _ 9 (0,0) p2;have y1:=qf W (w.heap.size+1) 0 _ 9 p1;have y2:=qf W (w.heap.size+2) 0 _ 9 p2;gi_wp2
    have hd:((W.setCell ⟨w.heap.size+1,0,none⟩ (.string t)).setCell ⟨w.heap.size+2,0,none⟩ (.string ⟨#[]⟩)).heap[D]?=some (.deferred (some [])):=by
      refine(qT _ _ _ _ ?_).trans ((qT _ _ _ _ ?_).trans hK)
      · show D≠w.heap.size+2;omega
      · show D≠w.heap.size+1;omega
    refine⟨by simp,.inl ⟨_,_,rfl,xn hd,?_⟩⟩;have hB6:Below w.heap.size w ((W.setCell ⟨w.heap.size+1,0,none⟩ (.string t)).setCell ⟨w.heap.size+2,0,none⟩ (.string ⟨#[]⟩)):=(hB.setCell (by show w.heap.size<=w.heap.size+1;omega) _).setCell (by show w.heap.size<=w.heap.size+2;omega) _;generalize QJ:((W.setCell ⟨w.heap.size+1,0,none⟩ (.string t)).setCell ⟨w.heap.size+2,0,none⟩ (.string ⟨#[]⟩)).putObj D (.deferred none)=W5
    have d1:W5.cell? ⟨w.heap.size+1,0,none⟩=some (.string t):=by
      rw[<-QJ];exact(qw (zf (k:=w.heap.size+1) (by omega))).trans (qc _ _ _ _ 9 (0,0) ((qT _ _ _ _ (by show w.heap.size+1≠w.heap.size+2;omega)).trans (qs W (w.heap.size+1) 0 _ 9 _ p1)))
    have d2:W5.cell? ⟨w.heap.size+2,0,none⟩=some (.string ⟨#[]⟩):=by
      rw[<-QJ];exact(qw (zf (k:=w.heap.size+2) (by omega))).trans (qc _ _ _ _ 9 (0,0) (qs _ (w.heap.size+2) 0 _ 9 _ ((qT _ _ _ _ (by show w.heap.size+2≠w.heap.size+1;omega)).trans p2)))
    have hB5:Below w.heap.size w W5:=(by rw[<-QJ];exact hB6.grown (jx _ D _) hB6.size (λr e=>by cases e;omega));clear QJ;refine⟨_,by simp[results,Tryz.f76,go_sem,d1,d2];rfl,?_,hB5⟩;simp[yN,znZ,zmX (λj hj=>hnn j (by simpa using hj))]
  case stop=>
    rintro D c pre W hD ⟨k,hk,rfl⟩ ⟨rfl,p,m,hpm,hnn,hy,p1,p2,hB⟩ hK;have e2:w.heap.size+1+1=w.heap.size+2:=rfl;have c1:W.cell? ⟨w.heap.size+1,0,none⟩=some (.string ⟨(pu m).1.toArray⟩):=qc _ _ _ _ 9 (0,0) p1;have c2:W.cell? ⟨w.heap.size+2,0,none⟩=some (.string ⟨(pu m).2.2.toArray⟩):=qc _ _ _ _ 9 (0,0) p2;gi_wp2;refine⟨by simp,.inl ⟨_,_,rfl,xn hK,?_⟩⟩;obtain⟨rfl,rfl⟩:p=List.range k/\m=k:=by rw[kI] at hpm;have:=List.append_inj' hpm rfl;exact⟨this.1.symm,by simpa using this.2.symm⟩
    have KC:m<14:=hk;have hlow:∀j,j<m->((pu j).2.1==t.data.toList)=false:=λj hj=>hnn j (by simpa using hj);generalize QJ:W.putObj D (.deferred none)=W5
    have d1:W5.cell? ⟨w.heap.size+1,0,none⟩=some (.string ⟨(pu m).1.toArray⟩):=by
      rw[<-QJ];exact(qw (zf (k:=w.heap.size+1) (by omega))).trans c1
    have d2:W5.cell? ⟨w.heap.size+2,0,none⟩=some (.string ⟨(pu m).2.2.toArray⟩):=by
      rw[<-QJ];exact(qw (zf (k:=w.heap.size+2) (by omega))).trans c2
    have hB5:Below w.heap.size w W5:=(by rw[<-QJ];exact hB.grown (jx _ D _) hB.size (λr e=>by cases e;omega));clear QJ;refine⟨_,by simp[results,Tryz.f76,go_sem,d1,d2];rfl,?_,hB5⟩;simp[yN,znZ,zmW KC hy hlow]
theorem zn0 (t:ByteArray) (w:World):
    Calls Tryz.prog 76 #[.string t] w λe w'=>e=.returned (.tuple #[.string ⟨(yN t.data.toList).toArray⟩,.string ⟨(znZ t.data.toList).toArray⟩])/\Below w.heap.size w w':=
  (callsIn_wide (n:=5)).1 (zpK Fence.wide 5 trivial trivial rfl (by omega) t w)
end Go.Proofs.YtgklikkddckgbaaGreatDoor
namespace Go.Proofs.YtgklikkddckgbaaGreatDoor
open Go.RowKit
theorem znt (v:Way) (p:Nat) (s:ByteArray) (W:World) (hc:W.cell? ⟨p,0,none⟩=some (.string s)) (hp:p<W.heap.size):
    Calls Tryz.prog 132 #[.agg #[.string v.1,.int .i64 v.2],.pointer (some ⟨p,0,none⟩)] W λe w'=>e=.returned (.bool (ph v.1 s))/\Below W.heap.size W w':=by
  have hne:p≠W.heap.size:=by omega
  unfold ph;go_enter Tryz.func132,Tryz.ntmps132;go_wp2_with fail
  all_goals (go_ret;exact⟨by simp_all,(qb _ W).alloc (ql _) _⟩)
theorem zoh (A:Option Addr) (c p:Nat) (l:List Way) (s:ByteArray) (w:World) (hl:pn w w.heap.size A l) (hb:l.length<=4611686018427387904) (hc:w.cell? ⟨p,0,none⟩=some (.string s)) (hp:p<w.heap.size):
    Calls Tryz.prog 162 #[.slice A l.length c,.func (.func 132) #[] #[.pointer (some ⟨p,0,none⟩)]] w λe w'=>∃n:Int,e=.returned (.int .i64 n)/\decide (0<=n)=vI l s/\Below w.heap.size w w':=by
  go_enter Tryz.func162,Tryz.ntmps162;go_wp2_with fail;go_loopw [5,8] (λ_ i wr=>∃k:Nat,k<=l.length/\i=.int .i64 k/\(l.take k).any (λv=>ph v.1 s)=false/\Below w.heap.size w wr) (λ_ i _=>l.length-(intOf i).toNat)
  case atStart=>exact⟨0,by omega,rfl,rfl,qb _ _⟩
  case round=>
    rename_i wr;obtain⟨k,hk,rfl,hn,hbl⟩:=hrel;have Hn:=qh hn;clear hn;by_cases hlt:k<l.length
    · obtain⟨b,off,rfl,hbb,hrow⟩:=hl (by omega)
      have hc1:=(hbl.cell (p:=⟨b,off+k*2,none⟩) hbb).trans (hrow k hlt).1;have hc2:=(hbl.cell (p:=⟨b,off+k*2+1,none⟩) hbb).trans (hrow k hlt).2;have hcp:=(hbl.cell (p:=⟨p,0,none⟩) hp).trans hc;have po:=qh (zbp l (λv=>ph v.1 s) k hlt);have Xo:=qh (zhi l (λv=>ph v.1 s) k hlt);have hbs:=hbl.size;clear hrow hl;generalize l.getD k default=v at*;cases hq:ph v.1 s with
      |true=>
       have Hq:=qh hq;have hcl:=znt v p s wr hcp (by omega);rw[hq] at hcl;clear hq;go_wp2_with fail;refine hcl.mono ?_;rintro e w' ⟨rfl,hb'⟩;have hbe:=hbl.trans (hb'.mono hbs);go_wp2_with fail;go_ret;exact⟨_,rfl,by rw[show vI l s=true from Xo.out Hq.out];simp,hbe⟩
      |false=>
       have Hq:=qh hq;have hcl:=znt v p s wr hcp (by omega);rw[hq] at hcl;clear hq;go_wp2_with fail;refine hcl.mono ?_;rintro e w' ⟨rfl,hb'⟩;have hbe:=hbl.trans (hb'.mono hbs);go_wp2_with fail;go_roundw
       case rel=>exact⟨k+1,by omega,by go_num,by rw[po.out,Hn.out,Hq.out];rfl,hbe⟩
       case measure=>simp[intOf];omega
    · obtain rfl:k=l.length:=by omega
      go_wp2_with fail;go_ret;exact⟨_,rfl,by have hx:=Hn.out;rw[qU] at hx;unfold vI;rw[hx];rfl,hbl⟩
theorem znj (A:Option Addr) (c p:Nat) (l:List Way) (s:ByteArray) (w:World) (hl:pn w w.heap.size A l) (hb:l.length<=4611686018427387904) (hc:w.cell? ⟨p,0,none⟩=some (.string s)) (hp:p<w.heap.size):
    Calls Tryz.prog 131 #[.slice A l.length c,.func (.func 132) #[] #[.pointer (some ⟨p,0,none⟩)]] w λe w'=>e=.returned (.bool (vI l s))/\Below w.heap.size w w':=by
  go_enter Tryz.func131,Tryz.ntmps131;go_wp2_with fail;refine(zoh A c p l s w hl hb hc hp).mono ?_;rintro e w' ⟨n,rfl,hn,hb'⟩;have Hn:=qh hn;clear hn;go_wp2_with fail;go_ret;exact⟨YC (by rw[<-Hn.out]),hb'⟩
theorem pn.take {w:World} {B:Nat} {A:Option Addr} {l:List Way} (h:pn w B A l) (k:Nat):pn w B A (l.take k):=λhl=>by
  simp only[kQ] at hl;obtain⟨b,off,e,hb,hn⟩:=h (by omega);refine⟨b,off,e,hb,λj hj=>?_⟩;simp only[kQ] at hj;have e:(l.take k).getD j default=l.getD j default:=by simp only[qj,kX,qy (show j<k by omega)]
  rw[e];exact hn j (by omega)
theorem zoi (own:List ByteArray) (x:ByteArray):Lib.containsS own x=uN own x:=by
  rw[kF,Lib.containsS_iff];unfold uN;rw[kA];constructor
  · exact λh=>⟨x,h,znT x⟩
  · rintro⟨y,hy,he⟩
    rw[<-znY he];exact hy
theorem znG (A:Option Addr) (c:Nat) (own:List ByteArray) (x:ByteArray) (w:World) (hl:QU w w.heap.size A own) (hb:own.length<=9223372036854775807):
    Calls Tryz.prog 133 #[.slice A own.length c,.string x] w λe w'=>e=.returned (.bool (uN own x))/\w=w':=by
  by_cases h0:own.length=0
  · have e0:own=[]:=zF h0
    subst e0;refine(Tryz.slices_Contains_string_empty A c x w).mono ?_;rintro e w' ⟨rfl,rfl⟩;exact⟨rfl,rfl⟩
  · obtain⟨b,off,rfl,hbb,hn⟩:=hl (by omega)
    refine(Tryz.slices_Contains_string b off own.length c own x w (ql _) hb hn).mono ?_;rintro e w' ⟨rfl,rfl⟩;exact⟨by rw[qU,zoi],rfl⟩
theorem znu (A Ao:Option Addr) (c co:Nat) (l:List Way) (most lg:Int) (own:List ByteArray) (w:World) (hl:pn w w.heap.size A l) (hb:l.length<=4611686018427387904) (hc:l.length<=c) (ho:QU w w.heap.size Ao own) (hob:own.length<=16)
    (hv:∀v∈l,v.1.size<=9223372036854775807):
    Calls Tryz.prog 104 #[.slice A l.length c,.int .i64 most,.int .i64 lg,.slice Ao own.length co] w λe w'=>e=.returned (.bool (vt l most lg own))/\Below w.heap.size w w':=by
  by_cases hm:(l.length:Int)<=most
  · have hW:vt l most lg own=yZ lg own (l.take 0) (l.drop 0):=by unfold vt;simp[hm]
    generalize hR:vt l most lg own=R at*;have HW:=qh hW;clear hW hR;go_enter Tryz.func104,Tryz.ntmps104;go_wp2_with fail;go_loopw [18] (λi wr=>∃k:Nat,k<=l.length/\i=.int .i64 k/\Hid (R=yZ lg own (l.take k) (l.drop k))/\Below w.heap.size w wr) (λi _=>l.length-(intOf i).toNat)
    case atStart=>exact⟨0,by omega,rfl,HW,qb _ _⟩
    case round=>
      rename_i wr;obtain⟨k,hk,rfl,hRk,hbl⟩:=hrel;clear HW;by_cases hlt:k<l.length
      · obtain⟨b,off,rfl,hbb,hrow⟩:=hl (by omega)
        have hc1:=(hbl.cell (p:=⟨b,off+k*2,none⟩) hbb).trans (hrow k hlt).1;have hc2:=(hbl.cell (p:=⟨b,off+k*2+1,none⟩) hbb).trans (hrow k hlt).2;have po:=qh (hRk.out.trans (znh lg own l k hlt))
        have hvs:(l.getD k default).1.size<=9223372036854775807:=by
          rw[qj,qz hlt];exact hv _ (qM hlt)
        have hbs:=hbl.size;clear hrow;unfold gC at po;generalize l.getD k default=v at*;obtain⟨vs,vn⟩:=v;simp only[] at hc1 hc2 hvs po;generalize hW1:wr.alloc (.cells #[.string vs,.int .i64 vn] 83)=W1;have sW1:W1.heap.size=wr.heap.size+1:=(by rw[<-hW1];simp);have hB1:Below w.heap.size w W1:=(by rw[<-hW1];exact hbl.alloc hbs _);have e1:W1.cell? ⟨wr.heap.size,0,none⟩=some (.string vs):=(by rw[<-hW1];simp);have e2:W1.cell? ⟨wr.heap.size,1,none⟩=some (.int .i64 vn):=(by rw[<-hW1];simp);have HW1:=qh hW1;have hcn:=znj (some ⟨b,off,none⟩) c wr.heap.size (l.take k) vs W1 (((hl.take k).below hB1).more hB1.size) (by rw[List.length_take_of_le (by omega)];omega) e1 (by omega);rw[List.length_take_of_le (by omega)] at hcn;have pv:=qh λ(W2:World) (hb2:Below W1.heap.size W1 W2)=>znG Ao co own vs W2 ((QU.below ho (hB1.trans (hb2.mono (by omega)))).more (by have:=hb2.size;omega)) (by omega);have Hc2:=qh λ(W2:World) (hb2:Below W1.heap.size W1 W2)=>qY ((hb2.cell (p:=⟨wr.heap.size,0,none⟩) (by show wr.heap.size<W1.heap.size;omega)).trans e1) ((hb2.cell (p:=⟨wr.heap.size,1,none⟩) (by show wr.heap.size<W1.heap.size;omega)).trans e2);have hT:(List.take k l).any (λu=>ph u.1 vs)=vI (l.take k) vs:=rfl;rw[hT] at po;generalize vI (l.take k) vs=T at hcn po;generalize hO:uN own vs=O at po pv;have hsg:=λW2=>zgh vs lg W2 hvs;generalize hS:QC vs 1 lg=S at hsg po;have Hsg:=qh hsg;clear hT hO hS hsg hW1;go_wp2_with fail;rw[HW1.out];refine hcn.mono ?_;rintro e w2 ⟨rfl,hb2⟩;obtain⟨g1,g2⟩:=Hc2.out _ hb2;have Hb2:=qh (hB1.trans (hb2.mono (by omega)));have hown:=pv.out _ hb2;have ztC:=qh hown;clear hown hcn hb2;go_wp2_with fail;refine(Hsg.out _).mono ?_;rintro e w' ⟨rfl,rfl⟩;cases S with
        |false=>
         go_wp2_with fail;go_ret;exact⟨YC (by rw[po.out];rfl),Hb2.out⟩
        |true=>
         by_cases h1:vn<0
         · go_wp2_with fail
           go_ret;exact⟨YC (by rw[po.out];simp;omega),Hb2.out⟩
         · by_cases h2:1048576<vn
           · go_wp2_with fail
             go_ret;exact⟨YC (by rw[po.out];simp;omega),Hb2.out⟩
           · cases T with
             |true=>
              go_wp2_with fail;go_ret;exact⟨YC (by rw[po.out];simp),Hb2.out⟩
             |false=>
              go_wp2_with fail;refine(ztC.out).mono ?_;rintro e w' ⟨rfl,rfl⟩;cases O with
              |true=>
               go_wp2_with fail;go_ret;exact⟨YC (by rw[po.out];simp),Hb2.out⟩
              |false=>
               go_wp2_with fail;go_roundw
               case rel=>exact⟨k+1,by omega,by go_num,qh (by rw[po.out];simp;omega),Hb2.out⟩
               case measure=>simp[intOf];omega
      · obtain rfl:k=l.length:=by omega
        go_wp2_with fail;go_ret;exact⟨YC (by rw[hRk.out,znF]),hbl⟩
  · have hW:vt l most lg own=false:=by unfold vt;simp[hm]
    rw[hW];clear hW;go_enter Tryz.func104,Tryz.ntmps104;go_wp2_with fail;go_ret;exact⟨rfl,qb _ _⟩
theorem vP {k:IntKind} {a b:Int} (h:a=b):Ending.returned (.int k a)=.returned (.int k b):=by rw[h]
def znH (m:Met):Int:=if vp m then 0 else 2
theorem zoj (Af Ae Ab:Option Addr) (cf ce cb:Nat) (m:Met) (w:World) (h:pW w w.heap.size Af Ae Ab cf ce cb m):
    Calls Tryz.prog 73 #[.agg #[.slice Af m.gO.length cf,.slice Ae m.ends.length ce,.slice Ab m.gS.length cb]] w λe w'=>e=.returned (.int .i64 (znH m))/\Below w.heap.size w w':=by
  generalize hR:znH m=R;have HR:=qh hR;clear hR;have hfl:=h.bd.gO;have hel:=h.bd.ends.1;have hbl:=h.bd.gS;have H:=qh h;clear h;have hR0:R=(if vp m then 0 else 2):=HR.out.symm;by_cases h1:m.gO.length<1
  · have Hm:Hid (vp m=false):=qh (by unfold vp;simp;omega)
    have Kk:=qh hR0;clear hR0;go_enter Tryz.func73,Tryz.ntmps73;go_wp2_with fail;go_ret;exact⟨vP (by rw[Kk.out,Hm.out];rfl),(qb _ _).alloc (ql _) _⟩
  · by_cases h2:16<m.gO.length
    · have Hm:Hid (vp m=false):=qh (by unfold vp;simp;omega)
      have Kk:=qh hR0;clear hR0;go_enter Tryz.func73,Tryz.ntmps73;go_wp2_with fail;go_ret;exact⟨vP (by rw[Kk.out,Hm.out];rfl),(qb _ _).alloc (ql _) _⟩
    · have hm:vp m=(vt m.ends 4 2 []&&(m.gO.drop 0).all va&&yS m.gO.length 0 (m.gS.drop 0)):=by
        have a1:decide (1<=m.gO.length)=true:=qt (by omega);have a2:decide (m.gO.length<=16)=true:=qt (by omega);unfold vp;rw[a1,a2];simp only[zU,xL]
      rw[hm] at hR0;generalize hW1:w.alloc (.cells #[.slice Af m.gO.length cf,.slice Ae m.ends.length ce,.slice Ab m.gS.length cb] 79)=W1;have sW1:W1.heap.size=w.heap.size+1:=(by rw[<-hW1];simp);have hB1:Below w.heap.size w W1:=(by rw[<-hW1];exact(qb _ _).alloc (ql _) _);have m0:W1.cell? ⟨w.heap.size,0,none⟩=some (.slice Af m.gO.length cf):=(by rw[<-hW1];simp);have m1:W1.cell? ⟨w.heap.size,1,none⟩=some (.slice Ae m.ends.length ce):=(by rw[<-hW1];simp);have m2:W1.cell? ⟨w.heap.size,2,none⟩=some (.slice Ab m.gS.length cb):=(by rw[<-hW1];simp);have HM:=qh (H.out.on hB1);have HW1:=qh hW1;have KY:=qh λ(W2:World) (hb2:Below W1.heap.size W1 W2)=>qY ((hb2.cell (p:=⟨w.heap.size,0,none⟩) (by show w.heap.size<W1.heap.size;omega)).trans m0) (qY ((hb2.cell (p:=⟨w.heap.size,1,none⟩) (by show w.heap.size<W1.heap.size;omega)).trans m1) ((hb2.cell (p:=⟨w.heap.size,2,none⟩) (by show w.heap.size<W1.heap.size;omega)).trans m2));have hwe:=znu Ae none ce 0 m.ends 4 2 [] W1 HM.out.ends hel HM.out.ce (λhl=>absurd hl (by decide)) (by decide) HM.out.bd.ends.2;have Kk:=qh hR0;have HB1:=qh hB1;simp only[qG] at hwe;generalize vt m.ends 4 2 []=E at hwe Kk;clear hW1 hm hR0 m0 m1 m2 hB1;go_enter Tryz.func73,Tryz.ntmps73;go_wp2_with fail;rw[HW1.out];refine hwe.mono ?_;rintro e w2 ⟨rfl,hb2⟩;obtain⟨q0,q1,q2⟩:=KY.out _ hb2;have Hb2:=qh hb2;clear hwe hb2;cases E with
      |false=>
       go_wp2_with fail;go_ret;exact⟨vP (by rw[Kk.out];rfl),HB1.out.trans (Hb2.out.mono (by omega))⟩
      |true=>
       go_wp2_with fail;go_loopw [27] (λi wr=>∃k:Nat,k<=m.gO.length/\i=.int .i64 k/\Hid (R=(if((m.gO.drop k).all va&&yS m.gO.length 0 (m.gS.drop 0)) then 0 else 2))/\Hid (Below W1.heap.size W1 wr)) (λi _=>m.gO.length-(intOf i).toNat)
       case atStart=>exact⟨0,by omega,rfl,qh (by rw[Kk.out];rfl),Hb2⟩
       case round=>
         rename_i wr;obtain⟨k,hk,rfl,hRk,hbl⟩:=hrel;clear Kk Hb2 q0 q1 q2;obtain⟨q0,q1,q2⟩:=KY.out _ hbl.out;by_cases hlt:k<m.gO.length
         · obtain⟨b,off,rfl,hbb,hrow⟩:=(HM.out.below hbl.out).gO (by omega)
           obtain⟨hc1,A2,c2,hc2,hcc,hIW⟩:=hrow k hlt;have po:=qh (hRk.out.trans (by rw[zpm m.gO va k hlt]))
           have hmem:m.gO.getD k default∈m.gO:=by
             rw[qj,qz hlt];exact qM hlt
           obtain⟨bw,bo,bv⟩:=H.out.bd.gR _ hmem;have hbs:=hbl.out.size;clear hrow hmem;generalize m.gO.getD k default=f at*;obtain⟨own,gR⟩:=f;simp only[] at hc1 hc2 hcc hIW bw bo bv;have hfm:va ⟨own,gR⟩=(QC own 1 4&&vt gR 15 4 [own]):=rfl;rw[hfm] at po;generalize hW3:wr.alloc (.cells #[.string own,.slice A2 gR.length c2] 81)=W3;have sW3:W3.heap.size=wr.heap.size+1:=(by rw[<-hW3];simp);have hB3:Below W1.heap.size W1 W3:=(by rw[<-hW3];exact hbl.out.alloc hbs _);have e1:W3.cell? ⟨wr.heap.size,0,none⟩=some (.string own):=(by rw[<-hW3];simp);have e2:W3.cell? ⟨wr.heap.size,1,none⟩=some (.slice A2 gR.length c2):=(by rw[<-hW3];simp);have hB3':Below wr.heap.size wr W3:=(by rw[<-hW3];exact(qb _ _).alloc (ql _) _);have hsg:=zgh own 4 W3 bo;generalize J8:W3.alloc (.cells #[.string own] 9)=W4;have sW4:W4.heap.size=W3.heap.size+1:=(by rw[<-J8];simp);have hB4:Below W3.heap.size W3 W4:=(by rw[<-J8];exact(qb _ _).alloc (ql _) _);have hB34:=hB3'.trans (hB4.mono (by omega))
           have hst1:QU W4 W4.heap.size (some ⟨W3.heap.size,0,none⟩) [own]:=λ_=>⟨W3.heap.size,0,rfl,by omega,λj hj=>by
             obtain rfl:j=0:=by simp at hj;omega
             rw[<-J8];simp⟩
           have hwc:=znu A2 (some ⟨W3.heap.size,0,none⟩) c2 1 gR 15 4 [own] W4 ((hIW.below (hB34.mono (by omega))).more (by omega)) bw hcc hst1 (by simp) bv;simp only[qB,qG,kY,sW3] at hwc;have HW3:=qh hW3;have HW4:=qh J8;have HB4:=qh (hB3.trans (hB4.mono (by omega)));have HB3:=qh hB3;generalize QC own 1 4=S at hsg po;generalize vt gR 15 4 [own]=T at hwc po;have Uh:=qh hwc;clear hW3 J8 hfm hst1 hwc hB3 hB3' hB4 hB34 hIW bv;go_wp2_with fail;rw[HW3.out];refine hsg.mono ?_;rintro e w' ⟨rfl,rfl⟩;cases S with
           |false=>
            go_wp2_with fail;go_ret;exact⟨vP (by rw[po.out];rfl),HB1.out.trans (HB3.out.mono (by omega))⟩
           |true=>
            go_wp2_with fail;rw[HW4.out];refine Uh.out.mono ?_;rintro e w5 ⟨rfl,hb5⟩;have Hb5:=qh (HB4.out.trans (hb5.mono (by omega)));clear hb5;cases T with
            |false=>
             go_wp2_with fail;go_ret;exact⟨vP (by rw[po.out];rfl),HB1.out.trans (Hb5.out.mono (by omega))⟩
            |true=>
             go_wp2_with fail;go_roundw
             case rel=>exact⟨k+1,by omega,by go_num,qh (by rw[po.out];rfl),Hb5⟩
             case measure=>simp[intOf];omega
         · obtain rfl:k=m.gO.length:=by omega
           have HR1:Hid (R=(if yS m.gO.length 0 (m.gS.drop 0) then 0 else 2)):=qh (by rw[hRk.out,yx];rfl);clear hRk;go_wp2_with fail;obtain⟨wo,hwo⟩:∃wo:World,wo=wr:=⟨_,rfl⟩;subst hwo;go_loopw [5,48] (λa i wr2=>∃(k:Nat) (af:Int),k<=m.gS.length/\i=.int .i64 k/\a=.int .i64 af/\Hid (R=(if yS m.gO.length af (m.gS.drop k) then 0 else 2))/\Hid (Below W1.heap.size W1 wr2)) (λ_ i _=>m.gS.length-(intOf i).toNat)
           case atStart=>exact⟨0,0,by omega,rfl,rfl,HR1,hbl⟩
           case round=>
             obtain⟨k,af,hk,rfl,rfl,hRk,YQ⟩:=hrel;clear HR1 q0 q1 q2;obtain⟨q0,q1,q2⟩:=KY.out _ YQ.out;by_cases hlt:k<m.gS.length
             · obtain⟨b,off,rfl,hbb,hrow⟩:=(HM.out.below YQ.out).gS (by omega)
               obtain⟨hc1,hc2⟩:=hrow k hlt;have po:=qh (hRk.out.trans (by rw[zni m.gO.length af m.gS k hlt]));have hbs:=YQ.out.size;clear hrow;generalize m.gS.getD k default=x at*;obtain⟨xa,xc⟩:=x;simp only[] at hc1 hc2 po;have hne:w.heap.size<wr.heap.size:=(by omega);have r0:(wr.alloc (.cells #[.int .i64 xa,.int .i64 xc] 85)).cell? ⟨w.heap.size,0,none⟩=some (.slice Af m.gO.length cf):=(((qb wr.heap.size wr).alloc (ql _) _).cell (p:=⟨w.heap.size,0,none⟩) hne).trans q0;have Hb3:Hid (Below W1.heap.size W1 (wr.alloc (.cells #[.int .i64 xa,.int .i64 xc] 85))):=qh (YQ.out.alloc hbs _);by_cases g1:xa<=af
               · go_wp2_with fail
                 go_ret;exact⟨vP (by rw[po.out];simp;omega),HB1.out.trans (Hb3.out.mono (by omega))⟩
               · by_cases g2:(m.gO.length:Int)<=xa
                 · go_wp2_with fail
                   go_ret;exact⟨vP (by rw[po.out];simp;omega),HB1.out.trans (Hb3.out.mono (by omega))⟩
                 · by_cases g3:xc<1
                   · go_wp2_with fail
                     go_ret;exact⟨vP (by rw[po.out];simp;omega),HB1.out.trans (Hb3.out.mono (by omega))⟩
                   · by_cases g4:1048576<xc
                     · go_wp2_with fail
                       go_ret;exact⟨vP (by rw[po.out];simp;omega),HB1.out.trans (Hb3.out.mono (by omega))⟩
                     · go_wp2_with fail
                       go_roundw
                       case rel=>exact⟨k+1,xa,by omega,by go_num,rfl,qh (by rw[po.out];have e1:decide (af<xa)=true:=qt (by omega);have e2:decide (xa<(m.gO.length:Int))=true:=qt (by omega);have e3:decide (1<=xc)=true:=qt (by omega);have e4:decide (xc<=1048576)=true:=qt (by omega);rw[e1,e2,e3,e4];rfl),Hb3⟩
                       case measure=>simp[intOf];omega
             · obtain rfl:k=m.gS.length:=by omega
               go_wp2_with fail;go_ret;exact⟨vP (by rw[hRk.out,yx];rfl),HB1.out.trans (YQ.out.mono (by omega))⟩
theorem zoR (t:ByteArray) (w:World) (ht:t.size<=4):
    Calls Tryz.prog 76 #[.string t] w λe w'=>∃T N:ByteArray,e=.returned (.tuple #[.string T,.string N])/\T.data.toList=yN t.data.toList/\N.data.toList=znZ t.data.toList/\T.size<=21/\Below w.heap.size w w':=
  (zn0 t w).mono λe w' ⟨he,hb⟩=>⟨_,_,he,by simp,by simp,qm (vW (vD (by rw[yW];exact ht))) (by omega),hb⟩
theorem zpL {e:TypeId} {b:Option Nat} {w w':World} (hb:Below w.heap.size w w'):Lib.OthersKept e b w w':=
  λk o hk _ _=>(hb.block k (qg hk).1).trans hk
theorem znv (b:Nat) (l:List UInt8) (s:ByteArray) (w:World) (h:BB b l w) (hl:l.length+s.size<=140737488355328):
    Calls Tryz.prog 48 #[.pointer (some ⟨b,0,none⟩),.string s] w λe w'=>e=.returned (.tuple #[.int .i64 s.size,.nilIface])/\BB b (l++s.data.toList) w'/\Below b w w'/\Lib.OthersKept 5 (some b) w w':=by
  refine(Any.Builder_WriteString_k (ρ:=Tryz.ZC) {Tryz.zp3 with} Tryz.QM b b (Lib.byteCells l) s w h (by simpa [Lib.byteCells] using hl) (zL h.lt)).mono ?_;rintro e w' ⟨he,h1,h2,h3⟩;refine⟨he,.inr ?_,h2,h3⟩;have:Lib.byteCells (l++s.data.toList)=Lib.byteCells l++Lib.strCells s:=by simp[Lib.byteCells,Lib.strCells]
  rw[this];exact h1
def vR (xs:List ByteArray):List UInt8:=Lib.join (xs.map (·.data.toList)) [32]
theorem zpM (b g c:Nat) (l:List UInt8) (xs:List ByteArray) (w:World) (h:BB b l w) (hg:g<w.heap.size) (hc:∀(j:Nat) x,xs[j]?=some x->w.cell? ⟨g,0+j,none⟩=some (.string x)) (hn:xs.length<=c) (hx:xs.length<=16)
    (hl:l.length+(vR xs).length<=1000000):
    Calls Tryz.prog 74 #[.slice (some ⟨g,0,none⟩) xs.length c,.pointer (some ⟨b,0,none⟩)] w λe w'=>(∃v,e=.returned v)/\BB b (l++vR xs) w'/\Below b w w'/\Lib.OthersKept 5 (some b) w w':=by
  have hlt:=h.lt;have Hj:=qh (Tryz.strings_Join g 0 c xs ⟨#[32]⟩ w hc hg (by omega) hn (by have:=hl;unfold vR at this;show(Lib.join (xs.map (·.data.toList)) [32]).length<=_;omega));have HB:=qh h;have Hl:=qh hl;clear h hc hl;go_enter Tryz.func74,Tryz.ntmps74;go_wp2_with fail;refine Hj.out.mono ?_;rintro e w1 ⟨rfl,hb1⟩;have Hb1:=qh hb1;obtain⟨S,hS⟩:∃S:ByteArray,S=⟨(Lib.join (xs.map (·.data.toList)) (ByteArray.mk #[32]).data.toList).toArray⟩:=⟨_,rfl⟩;have HS:=qh (show S.data.toList=vR xs by rw[hS];simp[vR]);rw[<-hS];clear hS hb1;have hSs:S.size=(vR xs).length:=by rw[<-yW,HS.out]
  have Hw:=qh (znv b l S w1 (HB.out.below Hb1.out) (by have:=Hl.out;omega));go_wp2_with fail;refine Hw.out.mono ?_;rintro e w2 ⟨rfl,h2,h3,h4⟩;have H2:=qh (qY h2 (qY h3 h4));clear h2 h3 h4;go_wp2_with fail;go_end0;refine⟨⟨_,rfl⟩,by rw[<-HS.out];exact H2.out.1,Hb1.out.mono (zL hlt)|>.trans H2.out.2.1,Lib.OthersKept.trans (zpL Hb1.out) H2.out.2.2⟩
theorem PS.step {b p:Nat} {W2 w w':World} {l:List UInt8} (hb:Below w.heap.size w w') (h:PS b p W2 l w):PS b p W2 l w':=h.below hb
theorem PS.drew {b p:Nat} {W2 w:World} {l:List UInt8} (h:PS b p W2 l w):PS b p W2 l w.drew:=h.below (qb _ _).drew
theorem PS.text {b p:Nat} {W2 w:World} {l l':List UInt8} (h:PS b p W2 l w) (e:l=l'):PS b p W2 l' w:=e▸h
theorem PS.put {b p:Nat} {W2 w w':World} {l l':List UInt8} (h:PS b p W2 l w) (h1:BB b l' w') (h2:Below b w w') (h3:Lib.OthersKept 5 (some b) w w'):PS b p W2 l' w':=
  ⟨h1,h3 p _ h.fn (λe=>h.ne (kJ e)) (λc fz e=>by injection e with e1 e2 e3;cases e2),h.lo.trans h2,h.ne⟩
theorem zm1 (b g c p n:Nat) (l:List UInt8) (xs:List ByteArray) (W2 w:World) (h:PS b p W2 l w) (hn0:xs.length=n) (hg:g<w.heap.size) (hc:∀(j:Nat) x,xs[j]?=some x->w.cell? ⟨g,0+j,none⟩=some (.string x)) (hn:n<=c) (hx:n<=16)
    (hl:l.length+(vR xs).length<=1000000):
    Calls Tryz.prog 74 #[.slice (some ⟨g,0,none⟩) n c,.pointer (some ⟨b,0,none⟩)] w λe w'=>(∃v,e=.returned v)/\PS b p W2 (l++vR xs) w'/\Below b w w'/\Lib.OthersKept 5 (some b) w w':=by
  subst hn0;exact(zpM b g c l xs w h.bb hg hc hn hx hl).mono λe w' ⟨h1,h2,h3,h4⟩=>⟨h1,h.put h2 h3 h4,h3,h4⟩
theorem vN {b k:Nat} {t:TypeId} {xs:Array Value} {w w':World} (h:Lib.OthersKept 5 (some b) w w') (hk:w.heap[k]?=some (.cells xs t (0,0))) (hb:k≠b) (ht:t≠5):w'.heap[k]?=some (.cells xs t (0,0)):=
  h k _ hk (λe=>hb (kJ e)) (λc fz e=>by injection e with e1 e2 e3;exact ht e2)
theorem SB.put {b p vb t:Nat} {x y:Value} {wq w w':World} (h:SB b p vb t x y wq w) (h2:Below b w w') (h3:Lib.OthersKept 5 (some b) w w'):SB b p vb t x y wq w':=
  ⟨h.lo.trans h2,by have:=h2.size;have:=h.bw;omega,vN h3 h.box h.vne h.t5,vN h3 h.fn h.pne (by decide),h.vne,h.pne,h.t5⟩
theorem SB.XO {b p vb t:Nat} {x y:Value} {wq w w':World} {A:Prop} (h:SB b p vb t x y wq w/\A) (hb:Below w.heap.size w w'):SB b p vb t x y wq w'/\w'.cell? ⟨vb,0,none⟩=some x/\w'.cell? ⟨vb,1,none⟩=some y/\w'.cell? ⟨p,0,none⟩=some (.func (.func 74) #[] #[.pointer (some ⟨b,0,none⟩)]):=(h.1.keep hb).all
theorem SB.KP {b p vb t:Nat} {x y:Value} {wq w:World} {A:Prop} {o:Obj} (h:SB b p vb t x y wq w/\A):SB b p vb t x y wq (w.alloc o)/\(w.alloc o).cell? ⟨vb,0,none⟩=some x/\(w.alloc o).cell? ⟨vb,1,none⟩=some y/\(w.alloc o).cell? ⟨p,0,none⟩=some (.func (.func 74) #[] #[.pointer (some ⟨b,0,none⟩)]):=(h.1.keep ((qb _ w).alloc (ql _) o)).all
theorem SB.zqf {b p vb t:Nat} {x y:Value} {wq w w':World} {A:Prop} (h:SB b p vb t x y wq w/\A) (h2:Below b w w') (h3:Lib.OthersKept 5 (some b) w w'):SB b p vb t x y wq w'/\w'.cell? ⟨vb,0,none⟩=some x/\w'.cell? ⟨vb,1,none⟩=some y/\w'.cell? ⟨p,0,none⟩=some (.func (.func 74) #[] #[.pointer (some ⟨b,0,none⟩)]):=(h.1.put h2 h3).all
theorem vy (x:ByteArray):vR [x]=x.data.toList:=by simp[vR,Lib.join]
theorem ga (x y:ByteArray):vR [x,y]=x.data.toList++([32]++y.data.toList):=by simp[vR,Lib.join]
theorem uo (x y z:ByteArray):vR [x,y,z]=x.data.toList++([32]++(y.data.toList++([32]++z.data.toList))):=by simp[vR,Lib.join]
def p7:ByteArray:=⟨#[44,32]⟩
theorem zq4 {α:Type} {x y:α} {j:Nat} (h:[x][j]?=some y):j=0/\y=x:=by
  rcases j with _|j
  · exact⟨rfl,by simpa using h.symm⟩
  · simp at h
theorem zrM {α:Type} {x1 x2 y:α} {j:Nat} (h:[x1,x2][j]?=some y):(j=0/\y=x1)∨(j=1/\y=x2):=by
  rcases j with _|_|j
  · exact .inl ⟨rfl,by simpa using h.symm⟩
  · exact .inr ⟨rfl,by simpa using h.symm⟩
  · simp at h
theorem get3 {α:Type} {x1 x2 x3 y:α} {j:Nat} (h:[x1,x2,x3][j]?=some y):(j=0/\y=x1)∨(j=1/\y=x2)∨(j=2/\y=x3):=by
  rcases j with _|_|_|j
  · exact .inl ⟨rfl,by simpa using h.symm⟩
  · exact .inr (.inl ⟨rfl,by simpa using h.symm⟩)
  · exact .inr (.inr ⟨rfl,by simpa using h.symm⟩)
  · simp at h
theorem zpn (t:ByteArray) (w:World):
    Calls Tryz.prog 78 #[.string t] w λe w'=>e=.returned (.string ⟨(yN t.data.toList).toArray⟩)/\Below w.heap.size w w':=by
  go_enter Tryz.func78,Tryz.ntmps78;go_wp2_with fail;refine(zn0 t w).mono ?_;rintro e w1 ⟨rfl,hb⟩;go_wp2_with fail;go_ret;exact⟨rfl,hb⟩
theorem zpo (t:ByteArray) (w:World):
    Calls Tryz.prog 79 #[.string t] w λe w'=>e=.returned (.string ⟨(id t.data.toList).toArray⟩)/\Below w.heap.size w w':=by
  go_enter Tryz.func79,Tryz.ntmps79;go_wp2_with fail;go_ret;exact⟨rfl,qb _ _⟩
theorem zok (A:Option Addr) (c b p:Nat) (gR:List Way) (W2 w:World) (l:List UInt8) (hps:PS b p W2 l w) (hw:pn w b A gR) (hv:Vars w) (h6:9<=b) (hc:gR.length<=c) (zsY:gR.length<=16) (hll:l.length<=100000)
    (hok:∀j,j<gR.length->(gR.getD j default).1.size<=4/\0<=(gR.getD j default).2/\(gR.getD j default).2<=1048576):
    Calls Tryz.prog 77 #[.slice A gR.length c,.func (.func 78) #[] #[],.pointer (some ⟨p,0,none⟩)] w λe w'=>(∃v,e=.returned v)/\PS b p W2 (l++yR yN gR gR.length) w':=by
  have HPS:=qh hps;have HW:=qh hw;have HV:=qh hv;have Hok:=qh hok;have Hlen:=qh (vB (of:=yN) (l:=gR) (λj hj=>⟨vD (by rw[yW];exact(hok j hj).1),(hok j hj).2⟩));clear hps hw hv hok;go_enter Tryz.func77,Tryz.ntmps77;go_wp2_with fail;go_loopw [9] (λi wi=>∃j:Nat,j<=gR.length/\i=.int .i64 j/\Hid (PS b p W2 (l++yR yN gR j) wi)/\Hid (Below b w wi)) (λi _=>gR.length-(intOf i).toNat)
  case atStart=>exact⟨0,by omega,rfl,qh (HPS.out.text (by simp[yR])),qh (qb _ _)⟩
  case round=>
    obtain⟨wi,hwi⟩:∃wi:World,wi=wr:=⟨_,rfl⟩;subst hwi;obtain⟨j,hj,rfl,hps,hbi⟩:=hrel;by_cases hjt:j<gR.length
    · obtain⟨b2,o2,rfl,Uf,hrow2⟩:=(HW.out.below hbi.out) (by omega)
      obtain⟨r0,r1⟩:=hrow2 j hjt;obtain⟨hv4,hv0,hv1⟩:=Hok.out j hjt;have hsl:=Hlen.out j hj;have po:=qh (show yR yN gR (j+1)=yR yN gR j++((if 0<j then yV else [])++(yN (gR.getD j default).1.data.toList++([32]++Lib.itoa (gR.getD j default).2))) from rfl);generalize gR.getD j default=v at*;obtain⟨v1,v2⟩:=v;simp only[] at r0 r1 hv4 hv0 hv1 po;clear hrow2;generalize hX:yR yN gR j=X at*;clear hX;obtain⟨U,hU⟩:∃U:ByteArray,Hid (U=⟨(yN v1.data.toList).toArray⟩):=⟨_,qh rfl⟩;obtain⟨V,hV⟩:∃V:ByteArray,Hid (V=⟨(Lib.itoa v2).toArray⟩):=⟨_,qh rfl⟩;have hUs:U.size<=20:=(by rw[hU.out];exact vW (vD (by rw[yW];exact hv4)));have hVs:V.size<=21:=(by rw[hV.out];exact vW (Lib.itoa_length_le v2 (by omega) (by omega)));have HUV:=qh (show(vR [U,V]).length<=50 by rw[ga];simp only[qv,yW,qB,qG];omega);have HT:=qh (show vR [U,V]=yN v1.data.toList++([32]++Lib.itoa v2) by rw[ga,hU.out,hV.out]);have HWd:Hid (∀W,Calls Tryz.prog 78 #[.string v1] W λe w'=>e=.returned (.string U)/\Below W.heap.size W w'):=qh (λW=>by rw[hU.out];exact zpn v1 W);have Ym:Hid (∀W,Below b w W->Calls Tryz.prog 50 #[.int .i64 v2] W λe w'=>e=.returned (.string V)/\Below W.heap.size W w'):=qh (λW hb=>by rw[hV.out];exact zk5 v2 W (HV.out.below hb h6) (by omega) (by omega));generalize hwc:wi.alloc (.cells #[.string v1,.int .i64 v2] 83)=wc at*;have Swc:=qh (show wc.heap.size=wi.heap.size+1 by rw[<-hwc];simp);have KO:=qh (show wc.heap[wi.heap.size]?=some (.cells #[.string v1,.int .i64 v2] 83 (0,0)) by rw[<-hwc];exact qn wi _);have Xd:=qh (show PS b p W2 (l++X) wc by rw[<-hwc];exact hps.out.alloc _);have Ug:=qh (show Below b w wc by rw[<-hwc];exact hbi.out.alloc (zL hps.out.bw) _);have Xe:=qh (show wi.heap.size≠b by have:=hps.out.bw;omega);have Uh:=qh hwc;clear hwc hps hbi;go_upto_region 3 with fail
      rw[Uh.out];by_cases hj0:j=0
      · subst hj0
        have Q2:=qh (show yR yN gR (0+1)=X++vR [U,V] by rw[po.out,HT.out];simp);obtain⟨wq,hwq⟩:∃wq:World,wq=wc:=⟨_,rfl⟩;subst hwq;have HPq:=Xd;have HSB:=qh (show SB b p wi.heap.size 83 (.string v1) (.int .i64 v2) wq wq from⟨qb _ _,HPq.out.bw,KO.out,HPq.out.fn,Xe.out,HPq.out.ne,by decide⟩);go_upto_region 5 with fail
        go_region_held3 (λw'=>SB b p wi.heap.size 83 (.string v1) (.int .i64 v2) wq w'/\w'.cell? ⟨wi.heap.size,0,none⟩=some (.string v1)/\w'.cell? ⟨wi.heap.size,1,none⟩=some (.int .i64 v2)/\w'.cell? ⟨p,0,none⟩=some (.func (.func 74) #[] #[.pointer (some ⟨b,0,none⟩)])) ((first|exact SB.XO (by assumption) (by assumption)|exact SB.zqf (by assumption) (by assumption) (by assumption)|exact SB.KP (by assumption)|exact(HSB.out.keep (qb _ _).drew).all)) ((first|(go_at_call 78;refine(HWd.out _).mono ?_;rintro e w9 ⟨rfl,pb⟩)|(go_at_call 50;refine(Ym.out _ (Ug.out.trans (SB.lo (qZ (by assumption))))).mono ?_;rintro e w9 ⟨rfl,pb⟩)|(go_at_call 74;refine(zm1 b _ 2 p 2 (l++X) [U,V] W2 _ (by refine PS.alloc ?_ _;(repeat (apply PS.step;assumption));exact HPq.out.drew) rfl (by simp) (λk x hk=>by rcases zrM hk with⟨rfl,rfl⟩|⟨rfl,rfl⟩<;>simp) (by omega) (by omega) (by have:=HUV.out;simp only[qv,qB,qG] at*;omega)).mono ?_;rintro e w7 ⟨⟨vv,rfl⟩,Vh,QW,QS⟩)))
        all_goals
          have VB:=qh Vh;have HB7:=qh (Ug.out.trans (SB.lo (qZ (by assumption:SB b p wi.heap.size 83 (.string v1) (.int .i64 v2) wq w7/\_))));clear Vh;go_wp2_with fail;go_roundw
          case rel=>
            refine⟨0+1,by omega,by go_num,qh (VB.out.text ?_),HB7⟩;rw[Q2.out];simp
          case measure=>simp[intOf];omega
      · have Q2:=qh (show yR yN gR (j+1)=X++(p7.data.toList++vR [U,V]) by rw[po.out,HT.out,qy (by omega)];rfl)
        have hj0':0<j:=(by omega);have c0:=Xd.out.cell;go_wp2_with fail;refine(zm1 b _ 1 p 1 _ [p7] W2 _ (Xd.out.alloc _) rfl (by simp) (λk x hk=>?_) (by omega) (by omega) ?_).mono ?_
        · obtain⟨rfl,rfl⟩:=zq4 hk
          simp[p7]
        · rw[vy];simp only[qv,yW];show _+2<=_;omega
        rintro e wq ⟨⟨vv,rfl⟩,h1,h2,h3⟩;have HPq:=qh (h1.text (show _=(l++X)++p7.data.toList by rw[vy]));have HBq:=qh ((Ug.out.alloc (zL Xd.out.bw) _).trans h2);have HSB:=qh (show SB b p wi.heap.size 83 (.string v1) (.int .i64 v2) wq wq from⟨qb _ _,h1.bw,vN h3 ((qa _ _ _ (by rw[Swc.out];omega)).trans KO.out) Xe.out (by decide),h1.fn,Xe.out,h1.ne,by decide⟩);clear h1 h2 h3 c0;go_upto_region 5 with fail
        go_region_held3 (λw'=>SB b p wi.heap.size 83 (.string v1) (.int .i64 v2) wq w'/\w'.cell? ⟨wi.heap.size,0,none⟩=some (.string v1)/\w'.cell? ⟨wi.heap.size,1,none⟩=some (.int .i64 v2)/\w'.cell? ⟨p,0,none⟩=some (.func (.func 74) #[] #[.pointer (some ⟨b,0,none⟩)])) ((first|exact SB.XO (by assumption) (by assumption)|exact SB.zqf (by assumption) (by assumption) (by assumption)|exact SB.KP (by assumption)|exact(HSB.out.keep (qb _ _).drew).all)) ((first|(go_at_call 78;refine(HWd.out _).mono ?_;rintro e w9 ⟨rfl,pb⟩)|(go_at_call 50;refine(Ym.out _ (HBq.out.trans (SB.lo (qZ (by assumption))))).mono ?_;rintro e w9 ⟨rfl,pb⟩)|(go_at_call 74;refine(zm1 b _ 2 p 2 ((l++X)++p7.data.toList) [U,V] W2 _ (by refine PS.alloc ?_ _;(repeat (apply PS.step;assumption));exact HPq.out.drew) rfl (by simp) (λk x hk=>by rcases zrM hk with⟨rfl,rfl⟩|⟨rfl,rfl⟩<;>simp) (by omega) (by omega) (by have:=HUV.out;simp only[qv,qB,qG,show p7.data.toList.length=2 from rfl] at*;omega)).mono ?_;rintro e w7 ⟨⟨vv,rfl⟩,Vh,QW,QS⟩)))
        all_goals
          have VB:=qh Vh;have HB7:=qh (HBq.out.trans (SB.lo (qZ (by assumption:SB b p wi.heap.size 83 (.string v1) (.int .i64 v2) wq w7/\_))));clear Vh;go_wp2_with fail;go_roundw
          case rel=>
            refine⟨j+1,by omega,by go_num,qh (VB.out.text ?_),HB7⟩;rw[Q2.out];simp
          case measure=>simp[intOf];omega
    · obtain rfl:j=gR.length:=by omega
      have HP:=hps;clear hps hbi;go_wp2_with fail;go_end0;exact⟨⟨_,rfl⟩,HP.out⟩
theorem zol (A:Option Addr) (c b p:Nat) (gR:List Way) (W2 w:World) (l:List UInt8) (hps:PS b p W2 l w) (hw:pn w b A gR) (hv:Vars w) (h6:9<=b) (hc:gR.length<=c) (zsY:gR.length<=16) (hll:l.length<=100000)
    (hok:∀j,j<gR.length->(gR.getD j default).1.size<=4/\0<=(gR.getD j default).2/\(gR.getD j default).2<=1048576):
    Calls Tryz.prog 77 #[.slice A gR.length c,.func (.func 79) #[] #[],.pointer (some ⟨p,0,none⟩)] w λe w'=>(∃v,e=.returned v)/\PS b p W2 (l++yR id gR gR.length) w':=by
  have HPS:=qh hps;have HW:=qh hw;have HV:=qh hv;have Hok:=qh hok;have Hlen:=qh (vB (of:=id) (l:=gR) (λj hj=>⟨by rw[show id (gR.getD j default).1.data.toList=(gR.getD j default).1.data.toList from rfl,yW];have:=(hok j hj).1;omega,(hok j hj).2⟩));clear hps hw hv hok;go_enter Tryz.func77,Tryz.ntmps77;go_wp2_with fail;go_loopw [9] (λi wi=>∃j:Nat,j<=gR.length/\i=.int .i64 j/\Hid (PS b p W2 (l++yR id gR j) wi)/\Hid (Below b w wi)) (λi _=>gR.length-(intOf i).toNat)
  case atStart=>exact⟨0,by omega,rfl,qh (HPS.out.text (by simp[yR])),qh (qb _ _)⟩
  case round=>
    obtain⟨wi,hwi⟩:∃wi:World,wi=wr:=⟨_,rfl⟩;subst hwi;obtain⟨j,hj,rfl,hps,hbi⟩:=hrel;by_cases hjt:j<gR.length
    · obtain⟨b2,o2,rfl,Uf,hrow2⟩:=(HW.out.below hbi.out) (by omega)
      obtain⟨r0,r1⟩:=hrow2 j hjt;obtain⟨hv4,hv0,hv1⟩:=Hok.out j hjt;have hsl:=Hlen.out j hj;have po:=qh (show yR id gR (j+1)=yR id gR j++((if 0<j then yV else [])++(id (gR.getD j default).1.data.toList++([32]++Lib.itoa (gR.getD j default).2))) from rfl);generalize gR.getD j default=v at*;obtain⟨v1,v2⟩:=v;simp only[] at r0 r1 hv4 hv0 hv1 po;clear hrow2;generalize hX:yR id gR j=X at*;clear hX;obtain⟨U,hU⟩:∃U:ByteArray,Hid (U=⟨(id v1.data.toList).toArray⟩):=⟨_,qh rfl⟩;obtain⟨V,hV⟩:∃V:ByteArray,Hid (V=⟨(Lib.itoa v2).toArray⟩):=⟨_,qh rfl⟩;have hUs:U.size<=20:=(by rw[hU.out];exact vW (by rw[show id v1.data.toList=v1.data.toList from rfl,yW];omega));have hVs:V.size<=21:=(by rw[hV.out];exact vW (Lib.itoa_length_le v2 (by omega) (by omega)));have HUV:=qh (show(vR [U,V]).length<=50 by rw[ga];simp only[qv,yW,qB,qG];omega);have HT:=qh (show vR [U,V]=id v1.data.toList++([32]++Lib.itoa v2) by rw[ga,hU.out,hV.out]);have HWd:Hid (∀W,Calls Tryz.prog 79 #[.string v1] W λe w'=>e=.returned (.string U)/\Below W.heap.size W w'):=qh (λW=>by rw[hU.out];exact zpo v1 W);have Ym:Hid (∀W,Below b w W->Calls Tryz.prog 50 #[.int .i64 v2] W λe w'=>e=.returned (.string V)/\Below W.heap.size W w'):=qh (λW hb=>by rw[hV.out];exact zk5 v2 W (HV.out.below hb h6) (by omega) (by omega));generalize hwc:wi.alloc (.cells #[.string v1,.int .i64 v2] 83)=wc at*;have Swc:=qh (show wc.heap.size=wi.heap.size+1 by rw[<-hwc];simp);have KO:=qh (show wc.heap[wi.heap.size]?=some (.cells #[.string v1,.int .i64 v2] 83 (0,0)) by rw[<-hwc];exact qn wi _);have Xd:=qh (show PS b p W2 (l++X) wc by rw[<-hwc];exact hps.out.alloc _);have Ug:=qh (show Below b w wc by rw[<-hwc];exact hbi.out.alloc (zL hps.out.bw) _);have Xe:=qh (show wi.heap.size≠b by have:=hps.out.bw;omega);have Uh:=qh hwc;clear hwc hps hbi;go_upto_region 3 with fail
      rw[Uh.out];by_cases hj0:j=0
      · subst hj0
        have Q2:=qh (show yR id gR (0+1)=X++vR [U,V] by rw[po.out,HT.out];simp);obtain⟨wq,hwq⟩:∃wq:World,wq=wc:=⟨_,rfl⟩;subst hwq;have HPq:=Xd;have HSB:=qh (show SB b p wi.heap.size 83 (.string v1) (.int .i64 v2) wq wq from⟨qb _ _,HPq.out.bw,KO.out,HPq.out.fn,Xe.out,HPq.out.ne,by decide⟩);go_upto_region 5 with fail
        go_region_held3 (λw'=>SB b p wi.heap.size 83 (.string v1) (.int .i64 v2) wq w'/\w'.cell? ⟨wi.heap.size,0,none⟩=some (.string v1)/\w'.cell? ⟨wi.heap.size,1,none⟩=some (.int .i64 v2)/\w'.cell? ⟨p,0,none⟩=some (.func (.func 74) #[] #[.pointer (some ⟨b,0,none⟩)])) ((first|exact SB.XO (by assumption) (by assumption)|exact SB.zqf (by assumption) (by assumption) (by assumption)|exact SB.KP (by assumption)|exact(HSB.out.keep (qb _ _).drew).all)) ((first|(go_at_call 79;refine(HWd.out _).mono ?_;rintro e w9 ⟨rfl,pb⟩)|(go_at_call 50;refine(Ym.out _ (Ug.out.trans (SB.lo (qZ (by assumption))))).mono ?_;rintro e w9 ⟨rfl,pb⟩)|(go_at_call 74;refine(zm1 b _ 2 p 2 (l++X) [U,V] W2 _ (by refine PS.alloc ?_ _;(repeat (apply PS.step;assumption));exact HPq.out.drew) rfl (by simp) (λk x hk=>by rcases zrM hk with⟨rfl,rfl⟩|⟨rfl,rfl⟩<;>simp) (by omega) (by omega) (by have:=HUV.out;simp only[qv,qB,qG] at*;omega)).mono ?_;rintro e w7 ⟨⟨vv,rfl⟩,Vh,QW,QS⟩)))
        all_goals
          have VB:=qh Vh;have HB7:=qh (Ug.out.trans (SB.lo (qZ (by assumption:SB b p wi.heap.size 83 (.string v1) (.int .i64 v2) wq w7/\_))));clear Vh;go_wp2_with fail;go_roundw
          case rel=>
            refine⟨0+1,by omega,by go_num,qh (VB.out.text ?_),HB7⟩;rw[Q2.out];simp
          case measure=>simp[intOf];omega
      · have Q2:=qh (show yR id gR (j+1)=X++(p7.data.toList++vR [U,V]) by rw[po.out,HT.out,qy (by omega)];rfl)
        have hj0':0<j:=(by omega);have c0:=Xd.out.cell;go_wp2_with fail;refine(zm1 b _ 1 p 1 _ [p7] W2 _ (Xd.out.alloc _) rfl (by simp) (λk x hk=>?_) (by omega) (by omega) ?_).mono ?_
        · obtain⟨rfl,rfl⟩:=zq4 hk
          simp[p7]
        · rw[vy];simp only[qv,yW];show _+2<=_;omega
        rintro e wq ⟨⟨vv,rfl⟩,h1,h2,h3⟩;have HPq:=qh (h1.text (show _=(l++X)++p7.data.toList by rw[vy]));have HBq:=qh ((Ug.out.alloc (zL Xd.out.bw) _).trans h2);have HSB:=qh (show SB b p wi.heap.size 83 (.string v1) (.int .i64 v2) wq wq from⟨qb _ _,h1.bw,vN h3 ((qa _ _ _ (by rw[Swc.out];omega)).trans KO.out) Xe.out (by decide),h1.fn,Xe.out,h1.ne,by decide⟩);clear h1 h2 h3 c0;go_upto_region 5 with fail
        go_region_held3 (λw'=>SB b p wi.heap.size 83 (.string v1) (.int .i64 v2) wq w'/\w'.cell? ⟨wi.heap.size,0,none⟩=some (.string v1)/\w'.cell? ⟨wi.heap.size,1,none⟩=some (.int .i64 v2)/\w'.cell? ⟨p,0,none⟩=some (.func (.func 74) #[] #[.pointer (some ⟨b,0,none⟩)])) ((first|exact SB.XO (by assumption) (by assumption)|exact SB.zqf (by assumption) (by assumption) (by assumption)|exact SB.KP (by assumption)|exact(HSB.out.keep (qb _ _).drew).all)) ((first|(go_at_call 79;refine(HWd.out _).mono ?_;rintro e w9 ⟨rfl,pb⟩)|(go_at_call 50;refine(Ym.out _ (HBq.out.trans (SB.lo (qZ (by assumption))))).mono ?_;rintro e w9 ⟨rfl,pb⟩)|(go_at_call 74;refine(zm1 b _ 2 p 2 ((l++X)++p7.data.toList) [U,V] W2 _ (by refine PS.alloc ?_ _;(repeat (apply PS.step;assumption));exact HPq.out.drew) rfl (by simp) (λk x hk=>by rcases zrM hk with⟨rfl,rfl⟩|⟨rfl,rfl⟩<;>simp) (by omega) (by omega) (by have:=HUV.out;simp only[qv,qB,qG,show p7.data.toList.length=2 from rfl] at*;omega)).mono ?_;rintro e w7 ⟨⟨vv,rfl⟩,Vh,QW,QS⟩)))
        all_goals
          have VB:=qh Vh;have HB7:=qh (HBq.out.trans (SB.lo (qZ (by assumption:SB b p wi.heap.size 83 (.string v1) (.int .i64 v2) wq w7/\_))));clear Vh;go_wp2_with fail;go_roundw
          case rel=>
            refine⟨j+1,by omega,by go_num,qh (VB.out.text ?_),HB7⟩;rw[Q2.out];simp
          case measure=>simp[intOf];omega
    · obtain rfl:j=gR.length:=by omega
      have HP:=hps;clear hps hbi;go_wp2_with fail;go_end0;exact⟨⟨_,rfl⟩,HP.out⟩
def zn1:ByteArray:=⟨#[59]⟩
def zm2:ByteArray:=⟨#[59,32,98,114,101,97,107]⟩
def ENDB:ByteArray:=⟨#[59,32,101,110,100,32]⟩
theorem PS.start (w2 w3:World) (h:(w2.alloc (.cells #[.pointer none,.slice none 0 0] 120)).alloc (.cells #[.func (.func 74) #[] #[.pointer (some ⟨w2.heap.size,0,none⟩)]] 151)=w3):PS w2.heap.size (w2.heap.size+1) w2 [] w3:=by
  subst h;refine⟨?_,?_,((qb _ _).alloc (ql _) _).alloc (by simp) _,by omega⟩
  · exact(Lib.IsBuilderF.of (Lib.fresh_isBuilder 120 5 w2)).alloc _
  · have:=qn (w2.alloc (.cells #[.pointer none,.slice none 0 0] 120)) (.cells #[.func (.func 74) #[] #[.pointer (some ⟨w2.heap.size,0,none⟩)]] 151)
    rw[qO] at this;exact this
theorem zoS (Af Ae Ab:Option Addr) (cf ce cb:Nat) (m:Met) (w:World) (hv:Vars w) (h:pW w w.heap.size Af Ae Ab cf ce cb m) (hm:vp m=true):
    Calls Tryz.prog 49 #[.agg #[.slice Af m.gO.length cf,.slice Ae m.ends.length ce,.slice Ab m.gS.length cb]] w λe w'=>e=.returned (.tuple #[.string ⟨(vV m).toArray⟩,.int .i64 0])/\Below w.heap.size w w':=by
  generalize hW1:w.alloc (.cells #[.slice Af m.gO.length cf,.slice Ae m.ends.length ce,.slice Ab m.gS.length cb] 79)=W1;have sW1:W1.heap.size=w.heap.size+1:=by rw[<-hW1];simp
  have hB1:Below w.heap.size w W1:=by rw[<-hW1];exact(qb _ _).alloc (ql _) _
  have m0:W1.cell? ⟨w.heap.size,0,none⟩=some (.slice Af m.gO.length cf):=by rw[<-hW1];simp
  have m1:W1.cell? ⟨w.heap.size,1,none⟩=some (.slice Ae m.ends.length ce):=by rw[<-hW1];simp
  have m2:W1.cell? ⟨w.heap.size,2,none⟩=some (.slice Ab m.gS.length cb):=by rw[<-hW1];simp
  have HW1:=qh hW1;have HB1:=qh hB1;have Hch:=qh (zoj Af Ae Ab cf ce cb m W1 (h.on hB1));have Hc:Hid (znH m=0):=qh (by unfold znH;rw[hm];rfl);have HP:=qh (znr hm);have hf16:=HP.out.gO;have he16:=HP.out.zqd;have zqP:=HP.out.zqe;have HM:=qh (h.on hB1);have Hm0:=qh m0;have Hm1:=qh m1;have Hm2:=qh m2;have Hv1:=qh (hv.below hB1 hv.six);have HF:=qh (uB HP.out m.gO.length 0);have HPP:Hid (vV m=vg m.gO m.gO.length 0++(vo m.gO m.gO.length++(ua m.ends++vu m.gS m.gS.length))):=qh rfl;clear h hW1 hB1 hm hv m0 m1 m2;go_enter Tryz.func49,Tryz.ntmps49;go_wp2_with fail;rw[HW1.out];go_wp2_with fail;refine Hch.out.mono ?_;rintro e w2 ⟨rfl,hb2⟩;rw[Hc.out];have Hb2:=qh hb2;have hs2:=hb2.size;clear hb2;generalize hw3:(w2.alloc (.cells #[.pointer none,.slice none 0 0] 120)).alloc (.cells #[.func (.func 74) #[] #[.pointer (some ⟨w2.heap.size,0,none⟩)]] 151)=w3;have HP0:=qh (PS.start w2 w3 hw3);have Hw3:=qh hw3;have Hlo:=qh λ(l:List UInt8) (wx:World) (hp:PS w2.heap.size (w2.heap.size+1) w2 l wx)=>(show Below W1.heap.size W1 wx from Hb2.out.trans (hp.lo.mono Hb2.out.size));have QL:=qh λ(wx:World) (hb:Below W1.heap.size W1 wx) (o:Nat)=>hb.cell (p:=⟨w.heap.size,o,none⟩) (by show w.heap.size<W1.heap.size;omega);have Hv2:=qh (Hv1.out.below Hb2.out Hv1.out.six);have h6:=Hv2.out.six;have HIt:=qh λ(W2:World) (hb2:Below w2.heap.size w2 W2) (v:Int) (h0:0<=v) (h1:v<=1048577)=>vM v W2 (Hv2.out.below hb2 h6) (by omega) (by omega);clear hw3;go_upto_region 6 with fail
  rw[Hw3.out];go_upto_block 0 with fail
  go_cut [7] from 8 to 77 (λv7 wx=>Hid (PS w2.heap.size (w2.heap.size+1) w2 (vg m.gO m.gO.length 0) wx))
  case first=>
   go_wp2_with fail;go_loopw [7] (λi wr=>∃(k n:Nat) (l:List UInt8),k<=m.gO.length/\m.gO.length-k<=n/\i=.int .i64 k/\Hid (l++vg m.gO n k=vg m.gO m.gO.length 0)/\Hid (PS w2.heap.size (w2.heap.size+1) w2 l wr)) (λi _=>m.gO.length-(intOf i).toNat)
   case atStart=>exact⟨0,m.gO.length,[],by omega,by omega,rfl,qh rfl,HP0⟩
   case round=>
    obtain⟨wo,hwo⟩:∃wo:World,wo=wr:=⟨_,rfl⟩;subst hwo;obtain⟨k,n,l,hk,hn,rfl,hS,hp⟩:=hrel;have Hbo:=qh (Hlo.out _ _ hp.out);have m0:=(QL.out _ Hbo.out 0).trans Hm0.out;by_cases hlt:k<m.gO.length
    · obtain⟨n,rfl⟩:∃n',n=n'+1:=⟨n-1,by omega⟩
      obtain⟨b,off,rfl,hbb,hrow⟩:=(HM.out.gO.below Hbo.out) (by omega);have KF:=qh hrow;have f0:=(hrow k hlt).1;have hfe:vg m.gO (n+1) k=uf m.gO k (vw m.gO (m.gO.getD k default).own k)++vg m.gO n (vw m.gO (m.gO.getD k default).own k):=(by rw[vg,qy hlt]);have Hfe:=qh hfe;have Hgt:=qh (znW hlt);have VA:=qh (zu9 (fs:=m.gO) (own:=(m.gO.getD k default).own) hk).2;clear hrow hfe;generalize hown:(m.gO.getD k default).own=own at*;have pv:=qh hown;clear hown;generalize hJ:vw m.gO own k=J at*;have HJ:=qh hJ;clear hJ;have HS:=qh hS.out;have hsz:l.length<=800:=(by have h1:=HF.out;rw[<-hS.out,qv] at h1;omega);clear hS;go_upto_block 2 with fail
      go_cut [9] from 35 to 51 (λv9 wx=>v9=.int .i64 J/\wx=wo)
      case first=>
        go_wp2_with fail;go_loop [9] (λj=>∃j':Nat,j'<=m.gO.length/\j=.int .i64 j'/\Hid (vw m.gO own j'=J)) (λj=>m.gO.length-(intOf j).toNat)
        case atStart=>exact⟨k,by omega,rfl,HJ⟩
        case round=>
          obtain⟨j,hj,rfl,hr⟩:=hrel;by_cases hjt:j<m.gO.length
          · have fj:=(KF.out j hjt).1
            have hd:decide ((j:Int)<(m.gO.length:Int))=true:=(by simp;omega);have QN:=qh (λh=>zmZ (own:=own) hjt h);have zsX:=qh (λh=>zno (own:=own) hjt h);have heq:ph (m.gO.getD j default).own own=((m.gO.getD j default).own.toList==own.toList):=rfl;generalize (m.gO.getD j default).own=oj at*;clear f0;cases hq:ph oj own with
            |true=>
             have hq2:(oj.toList==own.toList)=true:=(by rw[<-heq,hq]);have Hq:=qh ((QN.out hq).symm.trans hr.out);clear hq heq;go_wp2_with fail;go_round
             case rel=>exact⟨j+1,by omega,by go_num,Hq⟩
             case measure=>simp[intOf];omega
            |false=>
             have hq2:(oj.toList==own.toList)=false:=(by rw[<-heq,hq]);have Hq:=qh ((zsX.out hq).symm.trans hr.out);clear hq heq;go_wp2_with fail;go_meet
             exact⟨by rw[<-Hq.out],rfl⟩
          · have hd:decide ((j:Int)<(m.gO.length:Int))=false:=by simp;omega
            have Hq:=qh ((znp (own:=own) hjt).symm.trans hr.out);go_wp2_with fail;go_meet
            exact⟨by rw[<-Hq.out],rfl⟩
      case rest=>
        obtain⟨rfl,hwz⟩:=hcut;have hwz':=hwz.symm;subst hwz';clear m0 f0;have hgt:=Hgt.out;have hle:=VA.out;have Hgr:=qh (show uf m.gO k J=(if 0<k then yV else [])++((if 1<J-k then Lib.itoa ((J-k:Nat):Int)++[32] else [])++yN own.data.toList) by unfold uf;rw[pv.out]);have Hos:=qh (show own.size<=4 by rw[<-pv.out];exact HP.out.own k hlt);have Hc2:=qh (show((J-k:Nat):Int)=(J:Int)-(k:Int) by omega);go_upto_if 53 with(fail)
        go_cut [53] from 54 to 56 (λv53 wx=>Hid (PS w2.heap.size (w2.heap.size+1) w2 (l++(if 0<k then yV else [])) wx))
        case first=>
          by_cases h0:0<k
          · have c0:=hp.out.cell
            go_wp2_with fail;refine(zm1 _ _ 1 _ 1 _ [p7] w2 _ (hp.out.alloc _) rfl (by simp) (λj x hj=>?_) (by omega) (by omega) ?_).mono ?_
            · obtain⟨rfl,rfl⟩:=zq4 hj
              simp[p7]
            · rw[vy];show _+2<=_;omega
            rintro e wq ⟨⟨vv,rfl⟩,h1,h2,h3⟩;have Hq:=qh (h1.text (show _=l++(if 0<k then yV else []) by rw[vy,qy h0];rfl));clear h1 h2 h3 c0;go_wp2_with fail;go_meet
            exact Hq
          · have Hq:=qh (hp.out.text (show _=l++(if 0<k then yV else []) by rw[qx h0];simp))
            go_wp2_with fail;go_meet
            exact Hq
        case rest=>
        obtain⟨wp,hwp⟩:∃wp:World,wp=wc:=⟨_,rfl⟩;subst hwp;have Hp:=qh hcut.out;clear hcut hp Hbo;go_wp2_with fail;refine(zoR own _ Hos.out).mono ?_;rintro e w4 ⟨T,N,rfl,hT,hN,hTs,hb4⟩;have HT:=qh hT;have Hp4:=qh (Hp.out.below hb4);clear hT hN hb4;go_upto_if 65 with(fail)
        go_cut [10] from 65 to 72 (λv10 wx=>∃Z:ByteArray,v10=.string Z/\Hid (Z.data.toList=(if 1<J-k then Lib.itoa ((J-k:Nat):Int)++[32] else [])++yN own.data.toList)/\Z.size<=60/\Hid (PS w2.heap.size (w2.heap.size+1) w2 (l++(if 0<k then yV else [])) wx))
        case first=>
          by_cases h1:1<J-k
          · have HI:=qh (HIt.out w4 Hp4.out.lo ((J:Int)-(k:Int)) (by omega) (by omega))
            go_wp2_with fail;refine HI.out.mono ?_;rintro e w5 ⟨V,rfl,hV,hVs,hb5⟩;have HV:=qh hV;have Hp5:=qh (Hp4.out.below hb5);clear hV hb5;go_wp2_with fail;go_meet
            refine⟨_,rfl,qh ?_,?_,Hp5⟩
            · rw[qy h1,Hc2.out];simp[HV.out,HT.out]
            · simp[qR];show V.size+1+T.size<=_;omega
          · go_wp2_with fail
            go_meet
            exact⟨T,rfl,qh (by rw[qx h1];simp[HT.out]),by omega,Hp4⟩
        case rest=>
        obtain⟨wp5,hwp⟩:∃wp:World,wp=wc:=⟨_,rfl⟩;subst hwp;obtain⟨Z,rfl,hZ,hZs,hp5⟩:=hcut;have c0:=hp5.out.cell;go_wp2_with fail;refine(zm1 _ _ 1 _ 1 _ [Z] w2 _ (hp5.out.alloc _) rfl (by simp) (λj x hj=>?_) (by omega) (by omega) ?_).mono ?_
        · obtain⟨rfl,rfl⟩:=zq4 hj
          simp
        · rw[vy,qv,yW];have:(if 0<k then yV else []).length<=2:=by split<;>simp[yV]
          omega
        rintro e wq ⟨⟨vv,rfl⟩,h1,h2,h3⟩;have Hq:=qh (h1.text (show _=l++uf m.gO k J by rw[vy,hZ.out,Hgr.out];simp));clear h1 h2 h3 c0;go_wp2_with fail;go_roundw
        case rel=>
          refine⟨J,n,_,hle,by omega,rfl,qh ?_,Hq⟩;rw[<-HS.out,Hfe.out];simp
        case measure=>simp[intOf];omega
    · obtain rfl:k=m.gO.length:=by omega
      have hS':l=vg m.gO m.gO.length 0:=(by have:=hS.out;rw[znq,ku] at this;exact this);have Hq:=qh (hp.out.text hS');clear hS hS' hp;go_wp2_with fail;go_meet
      exact Hq
  case rest=>
  obtain⟨wp,hwp⟩:∃wp:World,wp=wc:=⟨_,rfl⟩;subst hwp;have Hp1:=qh hcut.out;have m0:=(QL.out _ (Hlo.out _ _ hcut.out) 0).trans Hm0.out;clear hcut;generalize hFB:vg m.gO m.gO.length 0=FB at*;have hFl:FB.length<=800:=by have:=HF.out;omega
  clear hFB;go_upto_block 4 with fail
  go_cut [13] from 14 to 101 (λv13 wx=>Hid (PS w2.heap.size (w2.heap.size+1) w2 (FB++vo m.gO m.gO.length) wx))
  case first=>
   clear m0;go_wp2_with fail;go_loopw [82] (λi wr=>∃k:Nat,k<=m.gO.length/\i=.int .i64 k/\Hid (PS w2.heap.size (w2.heap.size+1) w2 (FB++vo m.gO k) wr)) (λi _=>m.gO.length-(intOf i).toNat)
   case atStart=>exact⟨0,by omega,rfl,qh (Hp1.out.text (by simp[vo]))⟩
   case round=>
    obtain⟨wo,hwo⟩:∃wo:World,wo=wr:=⟨_,rfl⟩;subst hwo;obtain⟨k,hk,rfl,hp⟩:=hrel;by_cases hlt:k<m.gO.length
    · have Hbo:=qh (Hlo.out _ _ hp.out)
      obtain⟨b,off,rfl,hbb,hrow⟩:=(HM.out.gO.below Hbo.out) (by omega);obtain⟨f0,A2,c2,f1,hc2,hIW⟩:=hrow k hlt;have zsY:=HP.out.few k hlt;have Hws:=qh (HP.out.gR k hlt);have hwt:=vL HP.out k (by omega);have Hsu:=qh (show vo m.gO (k+1)=vo m.gO k++(if 0<(m.gO.getD k default).gR.length then vJ++(Lib.itoa ((k:Int)+1)++([32]++yR yN (m.gO.getD k default).gR (m.gO.getD k default).gR.length)) else []) from rfl);have HIW:=qh hIW;generalize (m.gO.getD k default).own=own at*;generalize (m.gO.getD k default).gR=ws at*;generalize hWT:vo m.gO k=WT at*;clear hrow hIW hWT;generalize hwc:wo.alloc (.cells #[.string own,.slice A2 ws.length c2] 81)=wc at*;have g1:wc.cell? ⟨wo.heap.size,1,none⟩=some (.slice A2 ws.length c2):=(by rw[<-hwc];simp);have KO:=qh (show wc.heap[wo.heap.size]?=some (.cells #[.string own,.slice A2 ws.length c2] 81 (0,0)) by rw[<-hwc];exact qn wo _);have Xd:=qh (show PS w2.heap.size (w2.heap.size+1) w2 (FB++WT) wc by rw[<-hwc];exact hp.out.alloc _);have Xe:=qh (show wo.heap.size≠w2.heap.size by have:=hp.out.bw;omega);have zsZ:=qh (show pn wc w2.heap.size A2 ws from(HIW.out.below (show Below W1.heap.size wo wc by rw[<-hwc];exact(qb _ _).alloc Hbo.out.size _)).more hs2);have Uh:=qh hwc;clear hwc hp;go_upto_region 23 with fail
      rw[Uh.out];by_cases hne:0<ws.length
      · obtain⟨V,hV⟩:∃V:ByteArray,Hid (V=⟨(Lib.itoa ((k:Int)+1)).toArray⟩):=⟨_,qh rfl⟩
        have hVs:V.size<=21:=(by rw[hV.out];exact vW (Lib.itoa_length_le _ (by omega) (by omega)));have HT:=qh (show vR [zn1,V,⟨#[]⟩]=vJ++(Lib.itoa ((k:Int)+1)++[32]) by rw[uo,hV.out];simp[zn1,vJ]);have HUV:=qh (show(vR [zn1,V,⟨#[]⟩]).length<=50 by rw[uo];simp only[qv,yW,qB,qG];show 1+(1+(V.size+(1+0)))<=50;omega);have Ym:Hid (∀W,Below w2.heap.size wc W->Calls Tryz.prog 50 #[.int .i64 ((k:Int)+1)] W λe w'=>e=.returned (.string V)/\Below W.heap.size W w'):=qh (λW hb=>by rw[hV.out];exact zk5 _ W (Hv2.out.below (Xd.out.lo.trans hb) h6) (by omega) (by omega));have HSB:=qh (show SB w2.heap.size (w2.heap.size+1) wo.heap.size 81 (.string own) (.slice A2 ws.length c2) wc wc from⟨qb _ _,Xd.out.bw,KO.out,Xd.out.fn,Xe.out,Xd.out.ne,by decide⟩);have hwr:=qi ((k:Int)+1) (by omega);have Q2:=qh (Hsu.out.trans (by rw[qy hne]));go_upto_region 24 with fail
        go_region_held3 (λw'=>SB w2.heap.size (w2.heap.size+1) wo.heap.size 81 (.string own) (.slice A2 ws.length c2) wc w'/\w'.cell? ⟨wo.heap.size,0,none⟩=some (.string own)/\w'.cell? ⟨wo.heap.size,1,none⟩=some (.slice A2 ws.length c2)/\w'.cell? ⟨w2.heap.size+1,0,none⟩=some (.func (.func 74) #[] #[.pointer (some ⟨w2.heap.size,0,none⟩)])) ((first|exact SB.XO (by assumption) (by assumption)|exact SB.zqf (by assumption) (by assumption) (by assumption)|exact SB.KP (by assumption)|exact(HSB.out.keep (qb _ _).drew).all)) ((first|(go_at_call 50;refine(Ym.out _ (SB.lo (qZ (by assumption)))).mono ?_;rintro e w9 ⟨rfl,pb⟩)|(go_at_call 74;refine(zm1 w2.heap.size _ 3 (w2.heap.size+1) 3 (FB++WT) [zn1,V,⟨#[]⟩] w2 _ (by refine PS.alloc ?_ _;(repeat (apply PS.step;assumption));exact Xd.out.drew) rfl (by simp) (λk x hk=>by rcases get3 hk with⟨rfl,rfl⟩|⟨rfl,rfl⟩|⟨rfl,rfl⟩<;>simp[zn1]) (by omega) (by omega) (by have:=HUV.out;simp only[qv] at*;omega)).mono ?_;rintro e w7 ⟨⟨vv,rfl⟩,Vh,QW,QS⟩)))
        all_goals
          have VB:=qh Vh;have zs1:SB w2.heap.size (w2.heap.size+1) wo.heap.size 81 (.string own) (.slice A2 ws.length c2) wc w7:=qZ (by assumption);have HS7:=qh zs1;have g7:=zs1.all.2.2.1;clear Vh zs1 g1;have zq5:=qh (zok A2 c2 w2.heap.size (w2.heap.size+1) ws w2 w7 _ VB.out (zsZ.out.below HS7.out.lo) (Hv2.out.below VB.out.lo h6) h6 hc2 (by omega) (by have:=HUV.out;simp only[qv];omega) Hws.out);go_wp2_with fail;refine zq5.out.mono ?_;rintro e w8 ⟨⟨vv2,rfl⟩,hp8⟩;have HP8:=qh hp8;clear hp8 g7;go_wp2_with fail;go_roundw
          case rel=>
            refine⟨k+1,by omega,by go_num,qh (HP8.out.text ?_)⟩;rw[Q2.out,HT.out];simp
          case measure=>simp[intOf];omega
      · have Q2:=qh (Hsu.out.trans (by rw[qx hne]))
        go_wp2_with fail;go_roundw
        case rel=>exact⟨k+1,by omega,by go_num,qh (Xd.out.text (by rw[Q2.out];simp))⟩
        case measure=>simp[intOf];omega
    · obtain rfl:k=m.gO.length:=by omega
      go_wp2_with fail;go_meet
      exact hp
  case rest=>
  obtain⟨wp2,hwp⟩:∃wp:World,wp=wc:=⟨_,rfl⟩;subst hwp;have Hp2:=qh hcut.out;have m1:=(QL.out _ (Hlo.out _ _ hcut.out) 1).trans Hm1.out;have hwt:=vL HP.out m.gO.length (ql _);clear hcut m0 Hp1;generalize hWT:vo m.gO m.gO.length=WT at*;clear hWT;go_upto_if 105 with(fail)
  go_cut [102] from 103 to 112 (λv102 wx=>Hid (PS w2.heap.size (w2.heap.size+1) w2 ((FB++WT)++ua m.ends) wx))
  case first=>
   by_cases hne:0<m.ends.length
   · have c0:=Hp2.out.cell
     have HIE:=qh ((HM.out.ends.below (Hlo.out _ _ Hp2.out)).more hs2);have Q2:=qh (show ua m.ends=uI++yR id m.ends m.ends.length by unfold ua;rw[qy hne]);have Hws:=qh HP.out.ends;have hce:=HM.out.ce;generalize m.ends=ws at*;go_wp2_with fail;refine(zm1 _ _ 1 _ 1 _ [ENDB] w2 _ (Hp2.out.alloc _) rfl (by simp) (λj x hj=>?_) (by omega) (by omega) ?_).mono ?_
     · obtain⟨rfl,rfl⟩:=zq4 hj
       simp[ENDB]
     · rw[vy,qv];show _+6<=_;omega
     rintro e wq ⟨⟨vv,rfl⟩,h1,h2,h3⟩;have Hq:=qh (h1.text (show _=(FB++WT)++uI by rw[vy];rfl));have m1q:=(QL.out _ (Hlo.out _ _ h1) 1).trans Hm1.out;have zq5:=qh (zol Ae ce w2.heap.size (w2.heap.size+1) ws w2 wq _ Hq.out ((HIE.out.below ((qb _ _).alloc (zL Hp2.out.bw) _)).below h2) (Hv2.out.below Hq.out.lo h6) h6 hce (by omega) (by simp only[qv];show _+6<=_;omega) Hws.out);clear h1 h2 h3 c0 m1;go_wp2_with fail;refine zq5.out.mono ?_;rintro e w8 ⟨⟨vv2,rfl⟩,hp8⟩;have HP8:=qh (hp8.text (show _=(FB++WT)++ua ws by rw[Q2.out];simp));clear hp8 m1q;go_wp2_with fail;go_meet
     exact HP8
   · have HP8:=qh (Hp2.out.text (show _=(FB++WT)++ua m.ends by unfold ua;rw[qx hne];simp))
     go_wp2_with fail;go_meet
     exact HP8
  case rest=>
  obtain⟨wp3,hwp⟩:∃wp:World,wp=wc:=⟨_,rfl⟩;subst hwp;have Hp3:=qh hcut.out;have m2:=(QL.out _ (Hlo.out _ _ hcut.out) 2).trans Hm2.out;have het:=gq HP.out;clear hcut m1 Hp2;generalize hET:ua m.ends=ET at*;clear hET;have Hbt:=qh (um HP.out);have Hbr:=qh HP.out.gS;have HIB:=qh HM.out.gS;generalize m.gS=bs at*;go_wp2_with fail;go_loopw [116] (λi wr=>∃k:Nat,k<=bs.length/\i=.int .i64 k/\Hid (PS w2.heap.size (w2.heap.size+1) w2 (((FB++WT)++ET)++vu bs k) wr)) (λi _=>bs.length-(intOf i).toNat)
  case atStart=>exact⟨0,by omega,rfl,qh (Hp3.out.text (by simp[vu]))⟩
  case round=>
   obtain⟨wo,hwo⟩:∃wo:World,wo=wr:=⟨_,rfl⟩;subst hwo;obtain⟨k,hk,rfl,hp⟩:=hrel;by_cases hlt:k<bs.length
   · have Hbo:=qh (Hlo.out _ _ hp.out)
     obtain⟨b,off,rfl,hbb,hrow⟩:=(HIB.out.below Hbo.out) (by omega);obtain⟨f0,f1⟩:=hrow k hlt;obtain⟨hv0,hv1,hv2,hv3⟩:=Hbr.out k hlt;have hbl:=Hbt.out k hk;have po:=qh (show vu bs (k+1)=vu bs k++(uO++(Lib.itoa (bs.getD k default).1++([32]++Lib.itoa (bs.getD k default).2))) from rfl);generalize bs.getD k default=v at*;obtain⟨v1,v2⟩:=v;simp only[] at f0 f1 hv0 hv1 hv2 hv3 po;generalize hBT:vu bs k=BT at*;clear hrow hBT;obtain⟨U,hU⟩:∃U:ByteArray,Hid (U=⟨(Lib.itoa v1).toArray⟩):=⟨_,qh rfl⟩;obtain⟨V,hV⟩:∃V:ByteArray,Hid (V=⟨(Lib.itoa v2).toArray⟩):=⟨_,qh rfl⟩;have hUs:U.size<=21:=(by rw[hU.out];exact vW (Lib.itoa_length_le v1 (by omega) (by omega)));have hVs:V.size<=21:=(by rw[hV.out];exact vW (Lib.itoa_length_le v2 (by omega) (by omega)));have HT:=qh (show vR [zm2,U,V]=uO++(Lib.itoa v1++([32]++Lib.itoa v2)) by rw[uo,hU.out,hV.out];simp[zm2,uO]);have HUV:=qh (show(vR [zm2,U,V]).length<=60 by rw[uo];simp only[qv,yW,qB,qG];show 7+(1+(U.size+(1+V.size)))<=60;omega);generalize hwc:wo.alloc (.cells #[.int .i64 v1,.int .i64 v2] 85)=wc at*;have KO:=qh (show wc.heap[wo.heap.size]?=some (.cells #[.int .i64 v1,.int .i64 v2] 85 (0,0)) by rw[<-hwc];exact qn wo _);have Xd:=qh (show PS w2.heap.size (w2.heap.size+1) w2 (((FB++WT)++ET)++BT) wc by rw[<-hwc];exact hp.out.alloc _);have Xe:=qh (show wo.heap.size≠w2.heap.size by have:=hp.out.bw;omega);have Uh:=qh hwc;clear hwc hp;have Ym:Hid (∀W,Below w2.heap.size wc W->Calls Tryz.prog 50 #[.int .i64 v1] W λe w'=>e=.returned (.string U)/\Below W.heap.size W w'):=qh (λW hb=>by rw[hU.out];exact zk5 _ W (Hv2.out.below (Xd.out.lo.trans hb) h6) (by omega) (by omega));have HId:Hid (∀W,Below w2.heap.size wc W->Calls Tryz.prog 50 #[.int .i64 v2] W λe w'=>e=.returned (.string V)/\Below W.heap.size W w'):=qh (λW hb=>by rw[hV.out];exact zk5 _ W (Hv2.out.below (Xd.out.lo.trans hb) h6) (by omega) (by omega));have HSB:=qh (show SB w2.heap.size (w2.heap.size+1) wo.heap.size 85 (.int .i64 v1) (.int .i64 v2) wc wc from⟨qb _ _,Xd.out.bw,KO.out,Xd.out.fn,Xe.out,Xd.out.ne,by decide⟩);go_upto_region 33 with fail
     rw[Uh.out];go_region_held3 (λw'=>SB w2.heap.size (w2.heap.size+1) wo.heap.size 85 (.int .i64 v1) (.int .i64 v2) wc w'/\w'.cell? ⟨wo.heap.size,0,none⟩=some (.int .i64 v1)/\w'.cell? ⟨wo.heap.size,1,none⟩=some (.int .i64 v2)/\w'.cell? ⟨w2.heap.size+1,0,none⟩=some (.func (.func 74) #[] #[.pointer (some ⟨w2.heap.size,0,none⟩)])) ((first|exact SB.XO (by assumption) (by assumption)|exact SB.zqf (by assumption) (by assumption) (by assumption)|exact SB.KP (by assumption)|exact(HSB.out.keep (qb _ _).drew).all)) ((first|(go_at_call 50;refine(Ym.out _ (SB.lo (qZ (by assumption)))).mono ?_;rintro e w9 ⟨rfl,pb⟩)|(go_at_call 50;refine(HId.out _ (SB.lo (qZ (by assumption)))).mono ?_;rintro e w9 ⟨rfl,pb⟩)|(go_at_call 74;refine(zm1 w2.heap.size _ 3 (w2.heap.size+1) 3 (((FB++WT)++ET)++BT) [zm2,U,V] w2 _ (by refine PS.alloc ?_ _;(repeat (apply PS.step;assumption));exact Xd.out.drew) rfl (by simp) (λk x hk=>by rcases get3 hk with⟨rfl,rfl⟩|⟨rfl,rfl⟩|⟨rfl,rfl⟩<;>simp[zm2]) (by omega) (by omega) (by have:=HUV.out;simp only[qv] at*;omega)).mono ?_;rintro e w7 ⟨⟨vv,rfl⟩,Vh,QW,QS⟩)))
     all_goals
       have VB:=qh Vh;clear Vh;go_wp2_with fail;go_roundw
       case rel=>
         refine⟨k+1,by omega,by go_num,qh (VB.out.text ?_)⟩;rw[po.out,HT.out];simp
       case measure=>simp[intOf];omega
   · obtain rfl:k=bs.length:=by omega
     have zs2:=qh (Tryz.Builder_String_any_k w2.heap.size w2.heap.size _ wo hp.out.bb (zL hp.out.bw));have gT:=qh (Hlo.out _ _ hp.out);clear hp;go_wp2_with fail;refine zs2.out.mono ?_;rintro e w9 ⟨rfl,hx1,hx2,hx3⟩;have Hb9:=qh hx2;clear hx1 hx2 hx3;go_wp2_with fail;go_ret2;refine⟨?_,HB1.out.trans ((gT.out.trans (Hb9.out.mono hs2)).mono HB1.out.size)⟩;rw[HPP.out];simp
section
variable {P:Program} {ops:Array Oper} {Q:Exit->Act->World->Prop}
end
section
variable {m:Met} {W2 wr w':World} {b4 b9 b12 b17 b20 b21 b22 b23:Bool} {x3 x10 x15 x18 x23 x26 x27:Value}
end
end Go.Proofs.YtgklikkddckgbaaGreatDoor


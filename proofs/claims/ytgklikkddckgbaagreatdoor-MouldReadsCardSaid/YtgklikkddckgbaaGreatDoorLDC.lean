import Derived.Test.YtgklikkddckgbaaGreatDoorLDB
import Derived.LoopIn
import Derived.LoopNIn
import Derived.OwnWalkIn
import Derived.RangeFuncNested
import Derived.Shelf.RegionOpen
/- Lemmas. -/
set_option linter.all false
set_option maxRecDepth 100000
set_option maxHeartbeats 8000000
namespace Go.Proofs.YtgklikkddckgbaaGreatDoor
open Go.RowKit Go.Shelf Go.Lib
attribute [local go_sem] jd
def vT (l:List UInt8):Value:=.string ⟨l.toArray⟩
def zjf (j:Nat):Value:=.agg #[vT (pu j).1,vT (pu j).2.1,vT (pu j).2.2]
theorem zjg (F:Fence) (n:Nat) (h51:F.fn 106) (hro:F.round=none) (hn:1<=n) (w:World):
  zlh F n Tryz.prog 106 #[] (λj:Nat=>#[zjf j]) (λxs=>xs=List.range 14) (λpre=>∃m,m<14/\pre=List.range (m+1)) 14 w:=λl J Jx W hW hJ hJx hY h0=>by
 refine callsIn_of_wp Tryz.func106 rfl h51 ?_ hro;simp only[Tryz.ntmps106,ya,qB,qG,Nat.reduceAdd,Nat.reduceSub,xu,xv,xZ,xD,jc,kh];generalize hT:(ByteArray.mk (List.toArray (List.append _ _)))=T0;have hT2:T0=TB:=by rw[<-hT];kernel_rfl
 clear hT;subst hT2;have hsz:=zi9;gi_wp2;have hWs:=hW.size
 gi_loopw [3,4] (λk a wr=>∃(i k' a' m:Nat) (f0 f1:List UInt8) (x0 x1 x2:ByteArray),k=.int .i64 k'/\a=.int .i64 a'/\i<=300/\zgd (Xn.drop i) i k' a' m f0 f1=true/\
   wr.heap[W.heap.size]?=some (.cells #[.string x0,.string x1,.string x2] 173 (0,0))/\wr.heap[W.heap.size+1]?=some (.stringIter TB i)/\(1<=k'->x0=⟨f0.toArray⟩)/\(2<=k'->x1=⟨f1.toArray⟩)/\J (List.range m) wr)
  (λ_ _ wr=>300-wr.iterPos (W.heap.size+1))
 case atStart=>
  refine⟨0,0,0,0,[],[],⟨#[]⟩,⟨#[]⟩,⟨#[]⟩,rfl,rfl,by omega,ziB,?_,?_,λh=>by omega,λh=>by omega,?_⟩
  ·exact(qa _ _ _ (by simp)).trans (qn W _)
  ·have:=qn (W.alloc (.cells #[.string ⟨#[]⟩,.string ⟨#[]⟩,.string ⟨#[]⟩] 173)) (.stringIter TB 0);rw[qO] at this;exact this
  ·exact hJ.alloc _ (hJ.alloc _ h0)
 case round=>
  obtain⟨i,k,a,m,f0,f1,x0,x1,x2,rfl,rfl,hi,hsc,hB,hI,hx0,hx1,hJm⟩:=hrel;have hx0':=qh hx0;have hx1':=qh hx1;clear hx0 hx1;by_cases hlt:i<300
  ·have hil:i<TB.size:=(by omega);rw[zl8 i hil] at hsc;unfold zgd at hsc;rw[qA] at hsc;obtain⟨zqn,hsc⟩:=hsc;have zqn:=zk zqn;have hnx:(Instr.next (.pointer (some ⟨W.heap.size+1,0,none⟩)) true 0).run Tryz.prog wr=.ok (.tuple #[.bool true,.int .i64 i,.int .i32 (TB[i]'hil).toNat]) (wr.iterAt (W.heap.size+1) TB (i+1)):=run_next_ascii_at wr _ TB i 0 hI hil zqn;have hI1:=iterAt_heap wr (W.heap.size+1) TB i (i+1) hI;have hB1:=(iterAt_other wr (W.heap.size+1) W.heap.size TB (i+1) (by omega)).trans hB;have hJ1:J (List.range m) (wr.iterAt (W.heap.size+1) TB (i+1)):=hJ _ _ _ (some (W.heap.size+1)) hJm ⟨rfl,rfl,rfl,by rw[iterAt_size];exact ql _,λj _ hj=>iterAt_other wr _ _ TB _ (λe=>hj (by rw[e]))⟩ (λr e=>by cases e;omega);have hpos:wr.iterPos (W.heap.size+1)=i:=(by unfold World.iterPos;rw[hI]);have Hpos:=qh hpos;clear hpos;by_cases h32:TB[i]=32
   ·rw[qy h32,qA] at hsc;obtain⟨hai,hsc⟩:=hsc;have hai:=zk hai;have ht:(((TB[i]'hil).toNat:Int) !=32)=false:=(by rw[h32];rfl);have hex:=zl9 a i;have Hex:=qh hex;clear hex h32;have b1:(0:Int)<=(a:Int):=(by omega);have b2:(a:Int)<=(i:Int):=(by omega);have b3:(i:Int)<=(TB.size:Int):=(by omega);generalize hw1:wr.iterAt (W.heap.size+1) TB (i+1)=w1 at*;have hm0:((0:Int)+1).tmod 3=1:=(by decide);have hm1:((1:Int)+1).tmod 3=2:=(by decide);have hm2:((2:Int)+1).tmod 3=0:=(by decide);have d0:w1.cell? ⟨W.heap.size,0,none⟩=some (.string x0):=qc _ _ _ _ 173 (0,0) hB1;have d1:w1.cell? ⟨W.heap.size,1,none⟩=some (.string x1):=qc _ _ _ _ 173 (0,0) hB1;have d2:w1.cell? ⟨W.heap.size,2,none⟩=some (.string x2):=qc _ _ _ _ 173 (0,0) hB1;have z0:=qf w1 W.heap.size 0 _ 173 hB1;have z1:=qf w1 W.heap.size 1 _ 173 hB1;have z2:=qf w1 W.heap.size 2 _ 173 hB1;have po:=qh λ(j:Nat) (v:Value)=>qs w1 W.heap.size j _ 173 v hB1;have Hsi:=qh λ(j:Nat) (v:Value)=>(qT w1 ⟨W.heap.size,j,none⟩ v (W.heap.size+1) (by show W.heap.size+1≠W.heap.size;omega)).trans hI1;have Hsj:=qh λ(j:Nat) (v:Value)=>hJ (List.range m) w1 (w1.setCell ⟨W.heap.size,j,none⟩ v) (some W.heap.size) hJ1 (zaV (zb4 w1 _) (.inl rfl) _) (λr e=>by cases e;omega);by_cases hk0:k=0
    ·subst hk0;rw[qy rfl] at hsc;have Hsc:=qh hsc;clear hsc;gi_wp2;refine⟨λ_ h=>(by cases h),?_⟩;gi_wp2;go_roundw
     case rel=>exact⟨i+1,1,i+1,m,znO a i,f1,TB.extract a i,x1,x2,rfl,by go_num,by omega,Hsc.out,po.out 0 _,Hsi.out 0 _,λ_=>Hex.out,λh=>by omega,Hsj.out 0 _⟩
     case measure=>
      have:(w1.setCell ⟨W.heap.size,0,none⟩ (.string (TB.extract a i))).iterPos (W.heap.size+1)=i+1:=(by unfold World.iterPos;rw[Hsi.out 0 _]);rw[this,Hpos.out];omega
    ·rw[qx hk0] at hsc;by_cases hk1:k=1
     ·subst hk1;rw[qy rfl] at hsc;have Hsc:=qh hsc;clear hsc;gi_wp2;refine⟨λ_ h=>(by cases h),?_⟩;gi_wp2;go_roundw
      case rel=>exact⟨i+1,2,i+1,m,f0,znO a i,x0,TB.extract a i,x2,rfl,by go_num,by omega,Hsc.out,po.out 1 _,Hsi.out 1 _,λ_=>hx0'.out (by omega),λh=>Hex.out,Hsj.out 1 _⟩
      case measure=>
       have:(w1.setCell ⟨W.heap.size,1,none⟩ (.string (TB.extract a i))).iterPos (W.heap.size+1)=i+1:=(by unfold World.iterPos;rw[Hsi.out 1 _]);rw[this,Hpos.out];omega
     ·rw[qx hk1] at hsc;by_cases hk2:k=2
      ·subst hk2;rw[qy rfl,qA,qA] at hsc;obtain⟨⟨KC,hft⟩,hsc⟩:=hsc;have KC:=zk KC;have hft:(f0,f1,znO a i)=pu m:=(by simpa using hft);have hfv:zjf m=.agg #[.string x0,.string x1,.string (TB.extract a i)]:=by
        unfold zjf vT;rw[<-hft,hx0'.out (by omega),hx1'.out (by omega),Hex.out]
       obtain⟨fn,tmps,assign,body,hy,hR⟩:=hY (List.range m) m _ (Hsj.out 2 (.string (TB.extract a i))) (by simpa using KC);rw[hfv] at hy;have Hsc:=qh hsc;have HR:=qh hR;clear hsc hft hfv hR;gi_wp2;refine HR.out.mono ?_;rintro e W4 (⟨rfl,hJ4,hk4⟩|⟨rfl,hJx4⟩)
       ·have hB4:=hk4.2 W.heap.size _ (by omega) (po.out 2 (.string (TB.extract a i))) (.inl rfl);have hI4:=hk4.2 (W.heap.size+1) _ (by omega) (Hsi.out 2 (.string (TB.extract a i))) (.inr rfl);gi_wp2;go_roundw
        case rel=>exact⟨i+1,0,i+1,m+1,f0,f1,x0,x1,TB.extract a i,rfl,by go_num,by omega,Hsc.out,hB4,hI4,λh=>by omega,λh=>by omega,by rw[kI];exact hJ4⟩
        case measure=>
         have:W4.iterPos (W.heap.size+1)=i+1:=(by unfold World.iterPos;rw[hI4]);rw[this,Hpos.out];omega
       ·gi_wp2;refine zt (qI rfl _ _ _) rfl ?_;exact⟨⟨_,rfl⟩,.inr ⟨List.range (m+1),⟨m,KC,rfl⟩,by rw[kI];exact hJx4⟩⟩
      ·rw[qx hk2] at hsc;cases hsc
   ·rw[qx h32] at hsc;have ht:(((TB[i]'hil).toNat:Int) !=32)=true:=by
     simp only[bne_iff_ne];intro e;exact h32 (zbg (b:=32) (by have:(32:UInt8).toNat=32:=rfl;omega))
    have Hsc:=qh hsc;clear hsc h32;generalize hw1:wr.iterAt (W.heap.size+1) TB (i+1)=w1 at*;gi_wp2;go_roundw
    case rel=>exact⟨i+1,k,a,m,f0,f1,x0,x1,x2,rfl,rfl,by omega,Hsc.out,hB1,hI1,hx0'.out,hx1'.out,hJ1⟩
    case measure=>
     have:w1.iterPos (W.heap.size+1)=i+1:=(by unfold World.iterPos;rw[hI1]);rw[this,Hpos.out];omega
  ·obtain rfl:i=300:=by omega
   have hd:Xn.drop 300=[]:=kx (by rw[zhe];omega);rw[hd] at hsc;have hm:m=14:=(by simpa [zgd] using hsc);have hnx:(Instr.next (.pointer (some ⟨W.heap.size+1,0,none⟩)) true 0).run Tryz.prog wr=.ok (.tuple #[.bool false]) wr:=run_next_end_at wr _ TB 300 0 hI (by omega);subst hm;gi_wp2;go_end0;exact⟨⟨_,rfl⟩,.inl ⟨List.range 14,rfl,hJm⟩⟩
attribute [local go_sem] jd
def zbJ (t:List UInt8):List UInt8:=match zer t with|some f=>f.2.1|none=>[]
def zck (t:List UInt8):Bool:=(zer t).isSome
def one (w:World) (b:Nat) (v:Value) (ty:TypeId):Prop:=w.heap[b]?=some (.cells #[v] ty (0,0))
theorem zb5 {W W':World} {row:Option Nat} {B k:Nat} {v:Value} {ty:TypeId} (h:one W k v ty) (hk:k<B) (hg:W.grownBy W' row) (hr:∀r,row=some r->B<=r):one W' k v ty:=
 (hg.block k (qg h).1 (λe=>by have:=hr _ e.symm;omega)).trans h
def NI (t:ByteArray) (w:World) (pre:List Nat) (W:World):Prop:=(∀j,j∈pre->((pu j).1==t.data.toList)=false)/\one W w.heap.size (.string t) 9/\one W (w.heap.size+1) (.string ⟨#[]⟩) 9/\one W (w.heap.size+2) (.bool false) 4/\Below w.heap.size w W
def NIx (t:ByteArray) (w:World) (c:Code) (pre:List Nat) (W:World):Prop:=c=.ret/\∃p m,pre=p++[m]/\(∀j,j∈p->((pu j).1==t.data.toList)=false)/\((pu m).1==t.data.toList)=true/\one W (w.heap.size+1) (.string ⟨(pu m).2.1.toArray⟩) 9/\one W (w.heap.size+2) (.bool true) 4/\Below w.heap.size w W
def NAx (t:ByteArray) (w W3:World) (x:Nat) (a':Act) (W:World):Prop:=∃Bx,W3.heap.size<=Bx/\W.heap[Bx]?=some (.cells #[vT (pu x).1,vT (pu x).2.1,vT (pu x).2.2] 173 (0,0))/\
 ∃y6 y7 y8 y9 Vn YD,a'={tmps:=#[.string t,.pointer (some ⟨w.heap.size,0,none⟩),.pointer (some ⟨w.heap.size+1,0,none⟩),.pointer (some ⟨w.heap.size+1+1,0,none⟩),.pointer (some ⟨Bx,0,none⟩),zjf x,y6,y7,y8,y9,Vn,YD],defers:=[]}
theorem zgk (j:Nat) (t:ByteArray):((pu j).1==t.toList)=((pu j).1==t.data.toList):=by
 rw[qW]
theorem zkA (F:Fence) (n:Nat) (h18:F.fn 195) (h51:F.fn 106) (hro:F.round=none) (hn:3<=n) (t:ByteArray) (w:World):
  CallsIn F n Tryz.prog 195 #[.string t] w λe w'=>e=.returned (.tuple #[.string ⟨(zbJ t.data.toList).toArray⟩,.bool (zck t.data.toList)])/\Below w.heap.size w w':=by
 have h1:1<=n:=by omega
 refine callsIn_of_wp_marks Tryz.func195 rfl h18 ?_ hro;simp only[Tryz.ntmps195,ya,qB,qG,Nat.reduceAdd,Nat.reduceSub,xu,xv,xZ,xD,jc,kh];gi_wp2;generalize hW3:World.alloc (World.alloc (World.alloc w _) _) _=W3;have sW3:W3.heap.size=w.heap.size+3:=by rw[<-hW3];simp
 have o0:one W3 w.heap.size (.string t) 9:=by rw[<-hW3];exact((qa _ _ _ (by simp;omega)).trans (qa _ _ _ (by simp))).trans (qn w _)
 have o1:one W3 (w.heap.size+1) (.string ⟨#[]⟩) 9:=by
  rw[<-hW3];have:=qn (w.alloc (.cells #[.string t] 9)) (.cells #[.string ⟨#[]⟩] 9);rw[qO] at this;exact(qa _ _ _ (by simp)).trans this
 have o2:one W3 (w.heap.size+2) (.bool false) 4:=by
  rw[<-hW3];have:=qn ((w.alloc (.cells #[.string t] 9)).alloc (.cells #[.string ⟨#[]⟩] 9)) (.cells #[.bool false] 4);rw[qO,qO] at this;exact this
 have hB3:Below w.heap.size w W3:=by rw[<-hW3];exact(((qb _ w).alloc (ql _) _).alloc (by simp) _).alloc (by simp;omega) _
 clear hW3;refine zje hro h1 (gf:=106) (lb:=#[]) rfl h51 (enters_of Tryz.func106 (by kernel_rfl) rfl) (zjg F (n-1) h51 hro (by omega) W3) (λ_=>rfl)
  (NI t w) (NIx t w)
  ?hI ?hIx ⟨λj h=>(by cases h),o0,o1,o2,hB3⟩
  (NAx t w W3)
  ?assign ?body ?hAx ?done ?stop
 case hI=>
  rintro s A A' row ⟨h2,h3,h4,h5,h6⟩ hg hr;exact⟨h2,zb5 h3 (by omega) hg hr,zb5 h4 (by omega) hg hr,zb5 h5 (by omega) hg hr,h6.grown hg h6.size (λr e=>by have:=hr r e;omega)⟩
 case hIx=>
  rintro c s A A' row ⟨rfl,p,m,h1,h2,h3,h4,h5,h6⟩ hg hr;exact⟨rfl,p,m,h1,h2,h3,zb5 h4 (by omega) hg hr,zb5 h5 (by omega) hg hr,h6.grown hg h6.size (λr e=>by have:=hr r e;omega)⟩
 case hAx=>
  rintro x a' s A A' row ⟨Bx,h1,h2,y6,y7,y8,y9,Vn,YD,h3⟩ hg hr;refine⟨Bx,h1,(hg.block Bx (qg h2).1 (λe=>?_)).trans h2,y6,y7,y8,y9,Vn,YD,h3⟩;obtain⟨_,o,ho,hc⟩:=hr Bx e.symm;rw[h2] at ho;cases ho;cases hc
 case assign=>
  intro l pre x W K hi hsz hK;have hfv:zjf x=.agg #[.string ⟨(pu x).1.toArray⟩,.string ⟨(pu x).2.1.toArray⟩,.string ⟨(pu x).2.2.toArray⟩]:=rfl;gi_wp2;obtain⟨g1,g2,g3,g4,g5⟩:=hi;have q:∀{k:Nat} {v:Value} {ty:TypeId} (o:Obj),k<W3.heap.size->one W k v ty->one (W.alloc o) k v ty:=λo hk h=>(qa _ _ _ (by omega)).trans h;refine hK _ _ (KeepsOthers.alloc _ _) ⟨by simp,λi o hi ho _=>?_⟩ ⟨g1,q _ (by omega) g2,q _ (by omega) g3,q _ (by omega) g4,g5.alloc (by omega) _⟩ ⟨W.heap.size,hsz,qn W _,_,_,_,_,_,_,rfl⟩;exact(qa _ _ _ (by have:=(qg ho).1;omega)).trans ho
 case body=>
  rintro l pre x a' W ⟨hnn,p0,p1,p2,hB⟩ hlen ⟨Bx,hBx,hx,y6,y7,y8,y9,Vn,YD,rfl⟩ hsz;have e2:w.heap.size+1+1=w.heap.size+2:=rfl;have hin:∀(r:Bool),((pu x).1==t.data.toList)=r->∀j,j∈pre++[x]->((pu j).1==t.data.toList)=false∨(r=true/\j=x):=λr hr j hj=>by
   rcases qJ.1 hj with h|h
   ·exact .inl (hnn j h)
   ·obtain rfl:j=x:=by simpa using h
    cases r
    ·exact .inl hr
    ·exact .inr ⟨rfl,rfl⟩
  have zqo:((pu x).1==t.data.toList)=false->NI t w (pre++[x]) W:=λhf=>⟨λj hj=>(by rcases hin false hf j hj with h|⟨h,_⟩<;>first|exact h|cases h),p0,p1,p2,hB⟩;have c0:W.cell? ⟨w.heap.size,0,none⟩=some (.string t):=qc _ _ _ _ 9 (0,0) p0;have c1:W.cell? ⟨w.heap.size+1,0,none⟩=some (.string ⟨#[]⟩):=qc _ _ _ _ 9 (0,0) p1;have c2:W.cell? ⟨w.heap.size+2,0,none⟩=some (.bool false):=qc _ _ _ _ 4 (0,0) p2;have b0:W.cell? ⟨Bx,0,none⟩=some (.string ⟨(pu x).1.toArray⟩):=qc _ _ _ _ 173 (0,0) hx;have b1:W.cell? ⟨Bx,1,none⟩=some (.string ⟨(pu x).2.1.toArray⟩):=qc _ _ _ _ 173 (0,0) hx;have y1:=qf W (w.heap.size+1) 0 _ 9 p1;have y2:=qf W (w.heap.size+2) 0 _ 4 p2;have hfn:=zgk x t;have Hnn:=qh hnn;have zr7:=qh zqo;clear hnn hin zqo;cases hP:((pu x).1==t.data.toList) with
  |false=>
   rw[hP] at hfn;have hp0:=zr7.out hP;have Hp0:=qh hp0;clear hp0 hP;gi_wp2
   all_goals exact⟨KeepsOthers.refl _,pr.refl _ _,Hp0.out⟩
  |true=>
   rw[hP] at hfn;have HP:=qh hP;clear hP;gi_wp2;refine⟨((kv _ _ _).trans (kv _ _ _)),rfl,pre,x,rfl,Hnn.out,HP.out,?_,?_,?_⟩
   ·unfold one;exact(qT _ _ _ _ (by show w.heap.size+1≠w.heap.size+2;omega)).trans (qs W (w.heap.size+1) 0 _ 9 _ p1)
   ·unfold one;exact qs _ (w.heap.size+2) 0 _ 4 _ ((qT _ _ _ _ (by show w.heap.size+2≠w.heap.size+1;omega)).trans p2)
   ·exact(hB.setCell (by show w.heap.size<=w.heap.size+1;omega) _).setCell (by show w.heap.size<=w.heap.size+2;omega) _
 case done=>
  rintro D xs W hD rfl ⟨hnn,p0,p1,p2,hB⟩ hK;have e2:w.heap.size+1+1=w.heap.size+2:=rfl;have c1:W.cell? ⟨w.heap.size+1,0,none⟩=some (.string ⟨#[]⟩):=qc _ _ _ _ 9 (0,0) p1;have c2:W.cell? ⟨w.heap.size+2,0,none⟩=some (.bool false):=qc _ _ _ _ 4 (0,0) p2;have y1:=qf W (w.heap.size+1) 0 _ 9 p1;have y2:=qf W (w.heap.size+2) 0 _ 4 p2;gi_wp2;have hd:((W.setCell ⟨w.heap.size+1,0,none⟩ (.string ⟨#[]⟩)).setCell ⟨w.heap.size+2,0,none⟩ (.bool false)).heap[D]?=some (.deferred (some [])):=by
   refine(qT _ _ _ _ ?_).trans ((qT _ _ _ _ ?_).trans hK)
   ·show D≠w.heap.size+2;omega
   ·show D≠w.heap.size+1;omega
  refine⟨by simp,.inl ⟨_,_,rfl,xn hd,?_⟩⟩;have hB6:Below w.heap.size w ((W.setCell ⟨w.heap.size+1,0,none⟩ (.string ⟨#[]⟩)).setCell ⟨w.heap.size+2,0,none⟩ (.bool false)):=(hB.setCell (by show w.heap.size<=w.heap.size+1;omega) _).setCell (by show w.heap.size<=w.heap.size+2;omega) _;generalize QJ:((W.setCell ⟨w.heap.size+1,0,none⟩ (.string ⟨#[]⟩)).setCell ⟨w.heap.size+2,0,none⟩ (.bool false)).putObj D (.deferred none)=W5;have d1:W5.cell? ⟨w.heap.size+1,0,none⟩=some (.string ⟨#[]⟩):=by
   rw[<-QJ];exact(qw (zf (k:=w.heap.size+1) (by omega))).trans (qc _ _ _ _ 9 (0,0) ((qT _ _ _ _ (by show w.heap.size+1≠w.heap.size+2;omega)).trans (qs W (w.heap.size+1) 0 _ 9 _ p1)))
  have d2:W5.cell? ⟨w.heap.size+2,0,none⟩=some (.bool false):=by
   rw[<-QJ];exact(qw (zf (k:=w.heap.size+2) (by omega))).trans (qc _ _ _ _ 4 (0,0) (qs _ (w.heap.size+2) 0 _ 4 _ ((qT _ _ _ _ (by show w.heap.size+2≠w.heap.size+1;omega)).trans p2)))
  have hB5:Below w.heap.size w W5:=by rw[<-QJ];exact hB6.grown (jx _ D _) hB6.size (λr e=>by cases e;omega)
  clear QJ;refine⟨_,by simp[results,Tryz.f195,go_sem,d1,d2];rfl,?_,hB5⟩;simp[zbJ,zck,zgg (λj hj=>hnn j (by simpa using hj))]
 case stop=>
  rintro D c pre W hD ⟨k,hk,rfl⟩ ⟨rfl,p,m,hpm,hnn,hy,p1,p2,hB⟩ hK;have e2:w.heap.size+1+1=w.heap.size+2:=rfl;have c1:W.cell? ⟨w.heap.size+1,0,none⟩=some (.string ⟨(pu m).2.1.toArray⟩):=qc _ _ _ _ 9 (0,0) p1;have c2:W.cell? ⟨w.heap.size+2,0,none⟩=some (.bool true):=qc _ _ _ _ 4 (0,0) p2;gi_wp2;refine⟨by simp,.inl ⟨_,_,rfl,xn hK,?_⟩⟩;obtain⟨rfl,rfl⟩:p=List.range k/\m=k:=by rw[kI] at hpm;have:=List.append_inj' hpm rfl;exact⟨this.1.symm,by simpa using this.2.symm⟩
  have KC:m<14:=hk;have hlow:∀j,j<m->((pu j).1==t.data.toList)=false:=λj hj=>hnn j (by simpa using hj);generalize QJ:W.putObj D (.deferred none)=W5;have d1:W5.cell? ⟨w.heap.size+1,0,none⟩=some (.string ⟨(pu m).2.1.toArray⟩):=by
   rw[<-QJ];exact(qw (zf (k:=w.heap.size+1) (by omega))).trans c1
  have d2:W5.cell? ⟨w.heap.size+2,0,none⟩=some (.bool true):=by
   rw[<-QJ];exact(qw (zf (k:=w.heap.size+2) (by omega))).trans c2
  have hB5:Below w.heap.size w W5:=by rw[<-QJ];exact hB.grown (jx _ D _) hB.size (λr e=>by cases e;omega)
  clear QJ;refine⟨_,by simp[results,Tryz.f195,go_sem,d1,d2];rfl,?_,hB5⟩;simp[zbJ,zck,zgf KC hy hlow]
theorem zjh (t:ByteArray) (w:World):
  Calls Tryz.prog 195 #[.string t] w λe w'=>e=.returned (.tuple #[.string ⟨(zbJ t.data.toList).toArray⟩,.bool (zck t.data.toList)])/\Below w.heap.size w w':=
 (callsIn_wide (n:=5)).1 (zkA Fence.wide 5 trivial trivial rfl (by omega) t w)
end Go.Proofs.YtgklikkddckgbaaGreatDoor
namespace Go.Proofs.YtgklikkddckgbaaGreatDoor
open Go.RowKit
def zp6 (c:UInt8):Bool:=decide ((0:Int)<=Lib.indexByte [44,59,120,47] c)
def zbM (t:ByteArray):Bool:=match t.data.toList with|[]=>false|c::_=>zp6 c
def pT (t:ByteArray):ByteArray×Int:=
 if QC t 1 4 then(t,0) else if t.size=0∨pm t=true∨zbM t=true then(⟨#[]⟩,130) else
  match zer t.data.toList with|some f=>(⟨f.2.1.toArray⟩,0)|none=>(⟨#[]⟩,131)
def zcA (t:ByteArray) (w:World) (e:Ending) (w':World):Prop:=e=.returned (.tuple #[.string (pT t).1,.int .i64 (pT t).2])/\Below w.heap.size w w'
theorem zji (c:UInt8) (w:World):Calls Tryz.prog 114 #[.string ⟨#[44,59,120,47]⟩,.int .u8 c.toNat] w λe w'=>e=.returned (.int .i64 (Lib.indexByte [44,59,120,47] c))/\w=w':=by
 refine(Tryz.strings_IndexByte ⟨#[44,59,120,47]⟩ c.toNat w).mono ?_;rintro e w' ⟨rfl,rfl⟩;refine⟨?_,rfl⟩;have e:((c.toNat:Int).toNat.toUInt8)=c:=by simp
 rw[e]
theorem ziF {t:ByteArray} {w w':World} (h:QC t 1 4=true) (hb:Below w.heap.size w w'):zcA t w (.returned (.tuple #[.string t,.int .i64 0])) w':=by
 unfold zcA pT;rw[qy h];exact⟨rfl,hb⟩
theorem zfB {t:ByteArray} {w w':World} (h:QC t 1 4=false) (h1:t.size=0∨pm t=true∨zbM t=true) (hb:Below w.heap.size w w'):zcA t w (.returned (.tuple #[.string ⟨#[]⟩,.int .i64 130])) w':=by
 unfold zcA pT;rw[qx (by rw[h];simp),qy h1];exact⟨rfl,hb⟩
theorem ziG {t:ByteArray} {w w':World} (h:QC t 1 4=false) (h0:¬t.size=0) (h1:pm t=false) (h2:zbM t=false) (h3:zck t.data.toList=true) (hb:Below w.heap.size w w'):zcA t w (.returned (.tuple #[.string ⟨(zbJ t.data.toList).toArray⟩,.int .i64 0])) w':=by
 unfold zcA pT;rw[qx (by rw[h];simp),qx (by rw[h1,h2];simp[h0])];unfold zck at h3;unfold zbJ;cases hn:zer t.data.toList with
 |none=>rw[hn] at h3;cases h3
 |some f=>exact⟨rfl,hb⟩
theorem zgl {t:ByteArray} {w w':World} (h:QC t 1 4=false) (h0:¬t.size=0) (h1:pm t=false) (h2:zbM t=false) (h3:zck t.data.toList=false) (hb:Below w.heap.size w w'):zcA t w (.returned (.tuple #[.string ⟨#[]⟩,.int .i64 131])) w':=by
 unfold zcA pT;rw[qx (by rw[h];simp),qx (by rw[h1,h2];simp[h0])];unfold zck at h3;cases hn:zer t.data.toList with
 |some f=>rw[hn] at h3;cases h3
 |none=>exact⟨rfl,hb⟩
theorem zfC (b:Nat) (t:ByteArray) (w:World) (hc:w.cell? ⟨b,2,none⟩=some (.string t)) (hb:b<w.heap.size) (ht:t.size<=65536):
  Calls Tryz.prog 171 #[.pointer (some ⟨b,0,none⟩)] w (zcA t w):=by
 have XI:=qh λW hc=>zbl b t W hc;go_enter Tryz.func171,Tryz.ntmps171;go_wp2_with fail;refine(zgh t 4 w (by omega)).mono ?_;rintro e w' ⟨rfl,rfl⟩;cases hs:QC t 1 4 with
 |true=>
  have Hs:=qh hs;clear hs;go_wp2_with fail;go_ret2;exact ziF Hs.out (qb _ _)
 |false=>
  have Hs:=qh hs;clear hs;by_cases h0:t.size=0
  ·have h1:=zcS h0;have h2:=zba h0;have H0:=qh h0;clear h0 h1;go_wp2_with fail;go_ret2;exact zfB Hs.out (.inl H0.out) (qb _ _)
  ·have h1:0<t.size:=(by omega);have h2:=zdh h1;cases hf:pm t with
   |true=>
    rw[hf] at XI;have Hf:=qh hf;clear hf h0;go_wp2_with fail;refine(XI.out _ hc).mono ?_;rintro e w' ⟨rfl,rfl⟩;go_wp2_with fail;go_ret2;exact zfB Hs.out (.inr (.inl Hf.out)) (qb _ _)
   |false=>
    rw[hf] at XI;have Hf:=qh hf;have hbh:zbM t=zp6 (t[0]'h1):=by
     unfold zbM;have:t.data.toList=t[0]::t.data.toList.tail:=by
      rcases t with⟨⟨_|⟨c,l⟩⟩⟩
      ·exact absurd h1 (by decide)
      ·rfl
     rw[this]
    have Hix:=qh λW=>zji (t[0]'h1) W;have Hbh:=qh hbh;have H0:=qh h0;unfold zp6 at hbh;generalize hn:Lib.indexByte [44,59,120,47] (t[0]'h1)=n at Hix hbh;clear hf h0 hn;cases hbn:decide ((0:Int)<=n) with
    |true=>
     rw[hbn] at hbh;have Hbn:=qh hbh;clear hbh;have hn0:(0:Int)<=n:=zk hbn;clear hbn;go_wp2_with fail;refine(XI.out _ hc).mono ?_;rintro e w' ⟨rfl,rfl⟩;go_wp2_with fail;refine(Hix.out _).mono ?_;rintro e w' ⟨rfl,rfl⟩;go_wp2_with fail;go_ret2;exact zfB Hs.out (.inr (.inr Hbn.out)) (qb _ _)
    |false=>
     rw[hbn] at hbh;have Hbn:=qh hbh;clear hbh;have hn0:¬(0:Int)<=n:=zA hbn;clear hbn;go_wp2_with fail;refine(XI.out _ hc).mono ?_;rintro e w' ⟨rfl,rfl⟩;go_wp2_with fail;refine(Hix.out _).mono ?_;rintro e w' ⟨rfl,rfl⟩;go_wp2_with fail;refine(zjh t _).mono ?_;rintro e w' ⟨rfl,hb2⟩;have Hf4:=qh λh=>ziG Hs.out H0.out Hf.out Hbn.out h hb2;have Hf5:=qh λh=>zgl Hs.out H0.out Hf.out Hbn.out h hb2;cases hok:zck t.data.toList with
     |true=>
      have Hf6:=qh (Hf4.out hok);clear hok;go_wp2_with fail;go_ret2;exact Hf6.out
     |false=>
      have Hf6:=qh (Hf5.out hok);clear hok;go_wp2_with fail;go_ret2;exact Hf6.out
abbrev Way:=ByteArray×Int
def Qu (l:List Way):List Value:=l.flatMap λv=>[.string v.1,.int .i64 v.2]
def pn (w:World) (B:Nat) (A:Option Addr) (l:List Way):Prop:=
 0<l.length->∃b off,A=some ⟨b,off,none⟩/\b<B/\∀k,k<l.length->w.cell? ⟨b,off+k*2,none⟩=some (.string (l.getD k default).1)/\w.cell? ⟨b,off+k*2+1,none⟩=some (.int .i64 (l.getD k default).2)
theorem pn.keep {w w':World} {B:Nat} {A:Option Addr} {l:List Way} (h:pn w B A l) (hk:∀p:Addr,p.block<B->w'.cell? p=w.cell? p):pn w' B A l:=λhl=>by
 obtain⟨b,off,e,hb,hn⟩:=h hl;exact⟨b,off,e,hb,λk hk'=>⟨(hk ⟨b,_,none⟩ hb).trans (hn k hk').1,(hk ⟨b,_,none⟩ hb).trans (hn k hk').2⟩⟩
theorem pn.below {w w':World} {B:Nat} {A:Option Addr} {l:List Way} (h:pn w B A l) (hb:Below B w w'):pn w' B A l:=h.keep λp hp=>hb.cell hp
theorem pn.more {w:World} {B B':Nat} {A:Option Addr} {l:List Way} (h:pn w B A l) (hB:B<=B'):pn w B' A l:=λhl=>by
 obtain⟨b,off,e,hb,hn⟩:=h hl;exact⟨b,off,e,by omega,hn⟩
def ph (a b:ByteArray):Bool:=a.toList==b.toList
def vI (l:List Way) (s:ByteArray):Bool:=l.any λv=>ph v.1 s
theorem zhW (v:Way) (p:Nat) (s:ByteArray) (W:World) (hc:W.cell? ⟨p,0,none⟩=some (.string s)) (hp:p<W.heap.size):
  Calls Tryz.prog 196 #[.agg #[.string v.1,.int .i64 v.2],.pointer (some ⟨p,0,none⟩)] W λe w'=>e=.returned (.bool (ph v.1 s))/\Below W.heap.size W w':=by
 have hne:p≠W.heap.size:=by omega
 unfold ph;go_enter Tryz.func196,Tryz.ntmps196;go_wp2_with fail
 all_goals (go_ret;exact⟨by simp_all,(qb _ W).alloc (ql _) _⟩)
theorem zbp {α:Type} [Inhabited α] (l:List α) (p:α->Bool) (k:Nat) (hk:k<l.length):(l.take (k+1)).any p=((l.take k).any p||p (l.getD k default)):=by
 rw[qE hk,xx];simp[qj,hk]
theorem zhi {α:Type} [Inhabited α] (l:List α) (p:α->Bool) (k:Nat) (hk:k<l.length) (h:p (l.getD k default)=true):l.any p=true:=
 kA.2 ⟨l[k],qM hk,by simpa [qj,hk] using h⟩
theorem zjj (A:Option Addr) (c p:Nat) (l:List Way) (s:ByteArray) (w:World) (hl:pn w w.heap.size A l) (hb:l.length<=4611686018427387904) (hc:w.cell? ⟨p,0,none⟩=some (.string s)) (hp:p<w.heap.size):
  Calls Tryz.prog 162 #[.slice A l.length c,.func (.func 196) #[] #[.pointer (some ⟨p,0,none⟩)]] w λe w'=>∃n:Int,e=.returned (.int .i64 n)/\decide (0<=n)=vI l s/\Below w.heap.size w w':=by
 go_enter Tryz.func162,Tryz.ntmps162;go_wp2_with fail;go_loopw [5,8] (λ_ i wr=>∃k:Nat,k<=l.length/\i=.int .i64 k/\(l.take k).any (λv=>ph v.1 s)=false/\Below w.heap.size w wr) (λ_ i _=>l.length-(intOf i).toNat)
 case atStart=>exact⟨0,by omega,rfl,rfl,qb _ _⟩
 case round=>
  rename_i wr;obtain⟨k,hk,rfl,hn,hbl⟩:=hrel;have Hn:=qh hn;clear hn;by_cases hlt:k<l.length
  ·obtain⟨b,off,rfl,hbb,hrow⟩:=hl (by omega);have hc1:=(hbl.cell (p:=⟨b,off+k*2,none⟩) hbb).trans (hrow k hlt).1;have hc2:=(hbl.cell (p:=⟨b,off+k*2+1,none⟩) hbb).trans (hrow k hlt).2;have hcp:=(hbl.cell (p:=⟨p,0,none⟩) hp).trans hc;have po:=qh (zbp l (λv=>ph v.1 s) k hlt);have Xo:=qh (zhi l (λv=>ph v.1 s) k hlt);have hbs:=hbl.size;clear hrow hl;generalize l.getD k default=v at*;cases hq:ph v.1 s with
   |true=>
    have Hq:=qh hq;have hcl:=zhW v p s wr hcp (by omega);rw[hq] at hcl;clear hq;go_wp2_with fail;refine hcl.mono ?_;rintro e w' ⟨rfl,hb'⟩;have hbe:=hbl.trans (hb'.mono hbs);go_wp2_with fail;go_ret;exact⟨_,rfl,by rw[show vI l s=true from Xo.out Hq.out];simp,hbe⟩
   |false=>
    have Hq:=qh hq;have hcl:=zhW v p s wr hcp (by omega);rw[hq] at hcl;clear hq;go_wp2_with fail;refine hcl.mono ?_;rintro e w' ⟨rfl,hb'⟩;have hbe:=hbl.trans (hb'.mono hbs);go_wp2_with fail;go_roundw
    case rel=>exact⟨k+1,by omega,by go_num,by rw[po.out,Hn.out,Hq.out];rfl,hbe⟩
    case measure=>simp[intOf];omega
  ·obtain rfl:k=l.length:=by omega
   go_wp2_with fail;go_ret;exact⟨_,rfl,by have hx:=Hn.out;rw[qU] at hx;unfold vI;rw[hx];rfl,hbl⟩
theorem zgm (A:Option Addr) (c p:Nat) (l:List Way) (s:ByteArray) (w:World) (hl:pn w w.heap.size A l) (hb:l.length<=4611686018427387904) (hc:w.cell? ⟨p,0,none⟩=some (.string s)) (hp:p<w.heap.size):
  Calls Tryz.prog 131 #[.slice A l.length c,.func (.func 196) #[] #[.pointer (some ⟨p,0,none⟩)]] w λe w'=>e=.returned (.bool (vI l s))/\Below w.heap.size w w':=by
 go_enter Tryz.func131,Tryz.ntmps131;go_wp2_with fail;refine(zjj A c p l s w hl hb hc hp).mono ?_;rintro e w' ⟨n,rfl,hn,hb'⟩;have Hn:=qh hn;clear hn;go_wp2_with fail;go_ret;exact⟨YC (by rw[<-Hn.out]),hb'⟩
theorem JB (A:Option Addr) (c:Nat) (l:List Way) (s:ByteArray) (w:World) (hl:pn w w.heap.size A l) (hb:l.length<=4611686018427387904):
  Calls Tryz.prog 174 #[.slice A l.length c,.string s] w λe w'=>e=.returned (.bool (vI l s))/\Below w.heap.size w w':=by
 go_enter Tryz.func174,Tryz.ntmps174;go_wp2_with fail;have hB:Below w.heap.size w (w.alloc (.cells #[.string s] 9)):=(qb _ w).alloc (ql _) _;refine(zgm A c w.heap.size l s _ ((hl.below hB).more hB.size) hb (by simp) (by simp)).mono ?_;rintro e w' ⟨rfl,hb'⟩;have hbe:=hB.trans (hb'.mono hB.size);go_wp2_with fail;go_ret;exact⟨rfl,hbe⟩
structure Ft where
 own:ByteArray
 gR:List Way
instance:Inhabited Ft:=⟨⟨⟨#[]⟩,[]⟩⟩
def zp7 (w:World) (B b o:Nat) (f:Ft):Prop:=w.cell? ⟨b,o,none⟩=some (.string f.own)/\∃A c,w.cell? ⟨b,o+1,none⟩=some (.slice A f.gR.length c)/\f.gR.length<=c/\pn w B A f.gR
def zli (w:World) (B:Nat) (A:Option Addr) (fs:List Ft):Prop:=
 0<fs.length->∃b off,A=some ⟨b,off,none⟩/\b<B/\∀k,k<fs.length->zp7 w B b (off+k*2) (fs.getD k default)
def VF (sg:ByteArray) (all:Bool) (f:Ft):Bool:=!(all&&ph f.own sg)&&(ph f.own sg||vI f.gR sg)
def Vo (sg:ByteArray) (all:Bool) (f:Ft):Bool:=!(all&&ph f.own sg)&&decide (f.gR.length=15)
def Xp (fs:List Ft) (sg:ByteArray) (all:Bool):Int:=if fs.any (VF sg all) then 132 else if fs.any (Vo sg all) then 3 else 0
def zmb (b:Bool):Int:=if b then 3 else 0
theorem zkB (A:Option Addr) (c:Nat) (fs:List Ft) (sg:ByteArray) (all:Bool) (w:World) (hl:zli w w.heap.size A fs) (hb:fs.length<=16) (hw:∀f∈fs,f.gR.length<=15):
  Calls Tryz.prog 172 #[.slice A fs.length c,.string sg,.bool all] w λe w'=>e=.returned (.int .i64 (Xp fs sg all))/\Below w.heap.size w w':=by
 go_enter Tryz.func172,Tryz.ntmps172;go_wp2_with fail;go_loopw [7,12] (λe i wr=>∃k:Nat,k<=fs.length/\i=.int .i64 k/\e=.int .i64 (zmb ((fs.take k).any (Vo sg all)))/\(fs.take k).any (VF sg all)=false/\Below w.heap.size w wr) (λ_ i _=>fs.length-(intOf i).toNat)
 case atStart=>exact⟨0,by omega,rfl,rfl,rfl,qb _ _⟩
 case round=>
  rename_i wr;obtain⟨k,hk,rfl,rfl,hn,hbl⟩:=hrel;by_cases hlt:k<fs.length
  ·obtain⟨b,off,rfl,hbb,hrow⟩:=hl (by omega);obtain⟨h1,A',c',h2,h3,h4⟩:=hrow k hlt;have hc1:=(hbl.cell (p:=⟨b,off+k*2,none⟩) hbb).trans h1;have hc2:=(hbl.cell (p:=⟨b,off+k*2+1,none⟩) hbb).trans h2;have h4':=h4.below hbl;have hn1:=zbp fs (VF sg all) k hlt;have hn2:=zbp fs (Vo sg all) k hlt;have hit:=zhi fs (VF sg all) k hlt;have hw15:(fs.getD k default).gR.length<=15:=by
    rw[qj,qz hlt];exact hw _ (qM hlt)
   rw[hn] at hn1;have hbs:=hbl.size;clear hrow hl h1 h2 h4 hn;generalize fs.getD k default=f at*;obtain⟨own,gR⟩:=f;simp only[VF,Vo] at hn1 hn2 hit;simp only[] at hc1 hc2 h3 h4' hw15;generalize (fs.take k).any (Vo sg all)=e0 at hn2;have hwb:Below w.heap.size w (wr.alloc (.cells #[.string own,.slice A' gR.length c'] 81)):=hbl.alloc hbs _;cases hq:ph own sg with
   |true=>
    rw[hq] at hn1 hn2 hit;have hq':=hq;unfold ph at hq';cases all with
    |true=>
     have Hn1:=qh hn1;have KR:=qh hn2;clear hn1 hn2 hit hq;go_wp2_with fail;go_roundw
     case rel=>exact⟨k+1,by omega,by go_num,by rw[KR.out];simp,by rw[Hn1.out];rfl,hwb⟩
     case measure=>simp[intOf];omega
    |false=>
     have Xo:=qh hit;clear hn1 hn2 hit hq;go_wp2_with fail;go_ret;exact⟨by unfold Xp;rw[show fs.any (VF sg false)=true from Xo.out rfl];rfl,hwb⟩
   |false=>
    rw[hq] at hn1 hn2 hit;have hq':=hq;unfold ph at hq';simp only[xJ,jN,zU,zg] at hn1 hn2 hit;have hha:=JB A' c' gR sg (wr.alloc (.cells #[.string own,.slice A' gR.length c'] 81)) ((h4'.below ((qb _ wr).alloc (by omega) _)).more (by simp;omega)) (by omega);have Hcx:=qh λ(w':World) (hb':Below (wr.alloc (.cells #[.string own,.slice A' gR.length c'] 81)).heap.size (wr.alloc (.cells #[.string own,.slice A' gR.length c'] 81)) w')=>(hb'.cell (p:=⟨wr.heap.size,1,none⟩) (by simp)).trans (show(wr.alloc (.cells #[.string own,.slice A' gR.length c'] 81)).cell? ⟨wr.heap.size,1,none⟩=some (.slice A' gR.length c') by simp);cases hh:vI gR sg with
    |true=>
     rw[hh] at hha;have Xo:=qh (hit hh);clear hn1 hn2 hit hq hh;cases all<;>
     ·go_wp2_with fail;refine hha.mono ?_;rintro e w' ⟨rfl,hb'⟩;have hbe:=hwb.trans (hb'.mono hwb.size);go_wp2_with fail;go_ret;exact⟨by unfold Xp;rw[Xo.out];rfl,hbe⟩
    |false=>
     rw[hh] at hha hn1;have Hn1:=qh hn1;clear hn1 hit hq hh;cases QK:decide (gR.length=15) with
     |true=>
      rw[QK] at hn2;have KR:=qh hn2;have Q7:((gR.length:Int)==15)=true:=(by have:=zk QK;simp;omega);clear hn2 QK;cases all<;>
      ·go_wp2_with fail;refine hha.mono ?_;rintro e w' ⟨rfl,hb'⟩;have hbe:=hwb.trans (hb'.mono hwb.size);have hcx:=Hcx.out _ hb';go_wp2_with fail;go_roundw
       case rel=>exact⟨k+1,by omega,by go_num,by rw[KR.out];simp[zmb],by rw[Hn1.out],hbe⟩
       case measure=>simp[intOf];omega
     |false=>
      rw[QK] at hn2;have KR:=qh hn2;have Q7:((gR.length:Int)==15)=false:=(by have:=zA QK;simp;omega);clear hn2 QK;cases all<;>
      ·go_wp2_with fail;refine hha.mono ?_;rintro e w' ⟨rfl,hb'⟩;have hbe:=hwb.trans (hb'.mono hwb.size);have hcx:=Hcx.out _ hb';go_wp2_with fail;go_roundw
       case rel=>exact⟨k+1,by omega,by go_num,by rw[KR.out];simp,by rw[Hn1.out],hbe⟩
       case measure=>simp[intOf];omega
  ·obtain rfl:k=fs.length:=by omega
   have Hn:=qh hn;clear hn;go_wp2_with fail;go_ret;refine⟨?_,hbl⟩;have hx:=Hn.out;rw[qU] at hx;unfold Xp;rw[qU,hx];rfl
end Go.Proofs.YtgklikkddckgbaaGreatDoor
namespace Go.Proofs.YtgklikkddckgbaaGreatDoor
abbrev Tok:=Nat×ByteArray
def zkC:Tok:=(0,⟨#[]⟩)
def toks (s:ByteArray) (p:Nat):List Tok:=
 if h:pX s p<s.size/\p<=s.size then(pX s p,s.extract (pX s p) (ZE s (pX s p)))::toks s (ZE s (pX s p)) else [(s.size,⟨#[]⟩)]
termination_by s.size-p
decreasing_by have:=zch (s:=s) p h.2;have:=zed (s:=s) (pX s p) h.1;have:=zcU (s:=s) (pX s p) (by omega);omega
def hd (L:List Tok):Tok:=L.headD zkC
def gW (L:List Tok):List Tok:=match L with|[]=>[]|[x]=>[x]|_::l=>l
theorem zc8 {s:ByteArray} {p:Nat} (h:pX s p<s.size) (hp:p<=s.size):toks s p=(pX s p,s.extract (pX s p) (ZE s (pX s p)))::toks s (ZE s (pX s p)):=by
 rw[toks,jm ⟨h,hp⟩]
theorem zcm {s:ByteArray} {p:Nat} (h:¬pX s p<s.size):toks s p=[(s.size,⟨#[]⟩)]:=by
 rw[toks,xt (by omega)]
theorem zbV (s:ByteArray) (p:Nat):0<(toks s p).length:=by
 rw[toks];split<;>simp
theorem zcD {s:ByteArray} {a e:Nat} (h:e<=s.size):(s.extract a e).size=e-a:=by simp;omega
theorem zhj (s:ByteArray) (a:Nat):s.extract a a=⟨#[]⟩:=by
 apply kN;simp[kU]
theorem zfD {s:ByteArray} {p:Nat} (hp:p<=s.size):hd (toks s p)=(pX s p,s.extract (pX s p) (ZE s (pX s p))):=by
 have hs:=zch (s:=s) p hp;by_cases h:pX s p<s.size
 ·rw[zc8 h hp];rfl
 ·have e:pX s p=s.size:=by omega
  rw[zcm h,e,zcC (by omega),zhj];rfl
theorem zef {s:ByteArray} {p:Nat} (hp:p<=s.size):(hd (toks s p)).1+(hd (toks s p)).2.size<=s.size/\toks s ((hd (toks s p)).1+(hd (toks s p)).2.size)=gW (toks s p):=by
 have hs:=zch (s:=s) p hp;have ht:=zcU (s:=s) (pX s p) hs.2;rw[zfD hp];simp only[];rw[zcD ht.2];by_cases h:pX s p<s.size
 ·have e:pX s p+(ZE s (pX s p)-pX s p)=ZE s (pX s p):=by omega
  rw[e,zc8 h hp];refine⟨ht.2,?_⟩;have:=zbV s (ZE s (pX s p));cases hq:toks s (ZE s (pX s p)) with
  |nil=>rw[hq] at this;simp at this
  |cons x l=>rfl
 ·have e:pX s p=s.size:=by omega
  rw[e,zcC (by omega),zcm h];refine⟨by omega,?_⟩;rw[zcm (by have:=zch (s:=s) (s.size+(s.size-s.size)) (by omega);omega)];rfl
theorem zlB (s:ByteArray) {p:Nat} (hp:p<=s.size):(hd (toks s p)).2.size<=s.size:=by have:=(zef hp).1;omega
theorem XU (L:List Tok):(gW L).length<=L.length:=by
 unfold gW;split<;>simp
theorem zlC {L:List Tok} (h:0<L.length):0<(gW L).length:=by
 match L with
 |[]=>simp at h
 |[x]=>simp[gW]
 |_::y::l=>simp[gW]
theorem zjk {s:ByteArray} {p:Nat} (h:(hd (toks s p)).2≠⟨#[]⟩):(gW (toks s p)).length<(toks s p).length:=by
 by_cases h1:pX s p<s.size/\p<=s.size
 ·rw[zc8 h1.1 h1.2];have:=zbV s (ZE s (pX s p));cases hq:toks s (ZE s (pX s p)) with
  |nil=>rw[hq] at this;simp at this
  |cons x l=>simp[gW]
 ·exfalso;apply h;rw[toks,xt h1];rfl
structure Met where
 gO:List Ft
 ends:List Way
 gS:List (Int×Int)
def Met.zero:Met:=⟨[],[],[]⟩
abbrev Z9:=Except (Int×Nat) (List Tok×Met)
def gV (t:ByteArray) (lo hi:Int):Int×Int:=match vE t with|none=>(0,130)|some n=>if n<lo∨n>hi then(0,2) else(n,0)
def COMMA:ByteArray:=⟨#[44]⟩
def Ki:ByteArray:=⟨#[59]⟩
def zcn (own:ByteArray):Ft:=⟨own,[]⟩
def XJ (n:Int) (Z1:Nat) (L:List Tok) (m:Met):Z9:=
 if(pT (hd L).2).2=0 then
  if(m.gO.length:Int)+n<=16 then .ok (gW L,{m with gO:=m.gO++List.replicate n.toNat (zcn (pT (hd L).2).1)}) else .error (3,Z1)
 else .error ((pT (hd L).2).2,(hd L).1)
def Xq (L:List Tok) (m:Met):Z9:=
 if pm (hd L).2 then
  if(gV (hd L).2 1 16).2=0 then XJ (gV (hd L).2 1 16).1 (hd L).1 (gW L) m else .error ((gV (hd L).2 1 16).2,(hd L).1)
 else XJ 1 (hd L).1 L m
def uk (sg:ByteArray) (c:Int) (all:Bool) (f:Ft):Ft:=if !all||!(ph f.own sg) then{f with gR:=f.gR++[(sg,c)]} else f
def yY (fs:List Ft) (i n:Nat) (sg:ByteArray) (c:Int) (all:Bool):List Ft:=fs.take i++((fs.drop i).take n).map (uk sg c all)++fs.drop (i+n)
def ZS:Nat->List Tok->Met->Nat->Nat->Bool->Z9
 |0,L,m,i,n,all=>.error (130,0)
 |f+1,L,m,i,n,all=>
  if(pT (hd L).2).2=0 then
   if Xp ((m.gO.drop i).take n) (pT (hd L).2).1 all=0 then
    if(gV (hd (gW L)).2 0 1048576).2=0 then
     if ph (hd (gW (gW L))).2 COMMA then ZS f (gW (gW (gW L))) {m with gO:=yY m.gO i n (pT (hd L).2).1 (gV (hd (gW L)).2 0 1048576).1 all} i n all
     else .ok (gW (gW L),{m with gO:=yY m.gO i n (pT (hd L).2).1 (gV (hd (gW L)).2 0 1048576).1 all})
    else .error ((gV (hd (gW L)).2 0 1048576).2,(hd (gW L)).1)
   else .error (Xp ((m.gO.drop i).take n) (pT (hd L).2).1 all,(hd L).1)
  else .error ((pT (hd L).2).2,(hd L).1)
def Z2:Nat->List Tok->Met->Z9
 |0,L,m=>.error (130,0)
 |f+1,L,m=>
  if QC (hd L).2 1 2 then
   if vI m.ends (hd L).2 then .error (132,(hd L).1)
   else if m.ends.length=4 then .error (3,(hd L).1)
   else if(gV (hd (gW L)).2 0 1048576).2=0 then
    if ph (hd (gW (gW L))).2 COMMA then Z2 f (gW (gW (gW L))) {m with ends:=m.ends++[((hd L).2,(gV (hd (gW L)).2 0 1048576).1)]}
    else .ok (gW (gW L),{m with ends:=m.ends++[((hd L).2,(gV (hd (gW L)).2 0 1048576).1)]})
   else .error ((gV (hd (gW L)).2 0 1048576).2,(hd (gW L)).1)
  else .error (130,(hd L).1)
def zag (m:Met):Int:=match m.gS.getLast? with|none=>0|some b=>b.1
def YE (L:List Tok) (m:Met):Z9:=
 if(gV (hd L).2 (zag m+1) (m.gO.length-1)).2=0 then
  if(gV (hd (gW L)).2 1 1048576).2=0 then .ok (gW (gW L),{m with gS:=m.gS++[((gV (hd L).2 (zag m+1) (m.gO.length-1)).1,(gV (hd (gW L)).2 1 1048576).1)]})
  else .error ((gV (hd (gW L)).2 1 1048576).2,(hd (gW L)).1)
 else .error ((gV (hd L).2 (zag m+1) (m.gO.length-1)).2,(hd L).1)
def ANY:ByteArray:=⟨#[97,110,121]⟩
def END:ByteArray:=⟨#[101,110,100]⟩
def Zr:ByteArray:=⟨#[98,114,101,97,107]⟩
def Q4 (L:List Tok) (m:Met):Z9:=
 if ph (hd L).2 ANY then ZS (gW L).length (gW L) m 0 m.gO.length true
 else if ph (hd L).2 END then Z2 (gW L).length (gW L) m
 else if ph (hd L).2 Zr then YE (gW L) m
 else if pm (hd L).2 then
  if(gV (hd L).2 1 m.gO.length).2=0 then ZS (gW L).length (gW L) m ((gV (hd L).2 1 m.gO.length).1.toNat-1) 1 false
  else .error ((gV (hd L).2 1 m.gO.length).2,(hd L).1)
 else .error (130,(hd L).1)
def KD:Nat->List Tok->Met->Except (Int×Nat) Met
 |0,L,m=>.error (130,0)
 |f+1,L,m=>
  if(hd L).2.size=0 then .ok m
  else if ph (hd L).2 Ki then
   match Q4 (gW L) m with
   |.ok (L',m')=>KD f L' m'
   |.error x=>.error x
  else .error (130,(hd L).1)
def JL:Nat->List Tok->Met->Except (Int×Nat) Met
 |0,L,m=>.error (130,0)
 |f+1,L,m=>
  match Xq L m with
  |.error x=>.error x
  |.ok (L',m')=>if ph (hd L').2 COMMA then JL f (gW L') m' else KD L'.length L' m'
def Zs (s:ByteArray):Except (Int×Nat) Met:=if s.size>65536 then .error (3,65536) else JL (toks s 0).length (toks s 0) Met.zero
end Go.Proofs.YtgklikkddckgbaaGreatDoor
namespace Go.Proofs.YtgklikkddckgbaaGreatDoor
end Go.Proofs.YtgklikkddckgbaaGreatDoor
namespace Go.Proofs.YtgklikkddckgbaaGreatDoor.Mo
open Go.RowKit
def pg (s:ByteArray) (i:Nat) (c:Int):Bool:=if h:i<s.size then((s[i].toNat:Int)==c) else false
theorem QX {s:ByteArray} {i:Nat} {c:Int} (h:i<s.size):pg s i c=((s[i].toNat:Int)==c):=by unfold pg;rw[jm h]
theorem zcE {s:ByteArray} {i:Nat} {c:Int} (h:¬i<s.size):pg s i c=false:=by unfold pg;rw[xt h]
theorem XV {s:ByteArray} {i:Nat} {c:Int} (h:pg s i c=true):i<s.size:=by
 by_cases hi:i<s.size
 ·exact hi
 ·rw[zcE hi] at h;cases h
def vG (s:ByteArray) (i:Nat):Bool:=if h:i<s.size then((s[i].toNat:Int)==10) else true
theorem zeu {s:ByteArray} {i:Nat} (h:i<s.size):vG s i=((s[i].toNat:Int)==10):=by unfold vG;rw[jm h]
theorem zco {s:ByteArray} {i:Nat} (h:¬i<s.size):vG s i=true:=by unfold vG;rw[xt h]
def pY (s:ByteArray) (i:Nat) (a b:Int):Bool:=if h:i<s.size then(decide (a<=(s[i].toNat:Int))&&decide ((s[i].toNat:Int)<=b)) else false
theorem Vp {s:ByteArray} {i:Nat} {a b:Int} (h:i<s.size):pY s i a b=(decide (a<=(s[i].toNat:Int))&&decide ((s[i].toNat:Int)<=b)):=by unfold pY;rw[jm h]
theorem zcF {s:ByteArray} {i:Nat} {a b:Int} (h:¬i<s.size):pY s i a b=false:=by unfold pY;rw[xt h]
theorem zb7 {s:ByteArray} {i:Nat} {a b:Int} (h:pY s i a b=true):i<s.size:=by
 by_cases hi:i<s.size
 ·exact hi
 ·rw[zcF hi] at h;cases h
def py (s:ByteArray):List Int->Nat->Except Nat Nat
 |[],i=>.ok i
 |c::t,i=>if pg s i c then py s t (i+1) else .error i
def zap (s:ByteArray) (i:Nat):Nat:=if h:i<s.size then if((s[i].toNat:Int)==10) then i else zap s (i+1) else i
termination_by s.size-i
theorem zb8 {s:ByteArray} {i:Nat} (h:vG s i=true):zap s i=i:=by
 unfold zap;by_cases hi:i<s.size
 ·rw[zeu hi] at h;rw[jm hi,qy h]
 ·rw[xt hi]
theorem zfE {s:ByteArray} {i:Nat} (h:vG s i=false):zap s i=zap s (i+1):=by
 by_cases hi:i<s.size
 ·rw[zeu hi] at h;conv=>lhs;unfold zap
  rw[jm hi,qx (by rw[h];simp)]
 ·rw[zco hi] at h;cases h
theorem zbs {s:ByteArray} (i:Nat) (hi:i<=s.size):i<=zap s i/\zap s i<=s.size:=by
 induction h:s.size-i generalizing i with
 |zero=>rw[zb8 (zco (by omega))];omega
 |succ n ih=>
  cases he:vG s i with
  |true=>rw[zb8 he];omega
  |false=>rw[zfE he];have:=ih (i+1) (by omega) (by omega);omega
def vc (s:ByteArray) (a i:Nat):Bool:=pY s i 48 57&&(decide (i=a)||!pg s a 48)
def gV (s:ByteArray) (a i:Nat):Nat:=if h:i<s.size then if vc s a i then gV s a (i+1) else i else i
termination_by s.size-i
theorem zbZ {s:ByteArray} {a i:Nat} (h:vc s a i=true):gV s a i=gV s a (i+1):=by
 have hi:i<s.size:=by
  unfold vc at h;rw[qA] at h;exact zb7 h.1
 conv=>lhs;unfold gV
 rw[jm hi,qy h]
theorem zaZ {s:ByteArray} {a i:Nat} (h:vc s a i=false):gV s a i=i:=by
 unfold gV;split
 ·rw[qx (by rw[h];simp)]
 ·rfl
theorem Vq {s:ByteArray} (a i:Nat) (hi:i<=s.size):i<=gV s a i/\gV s a i<=s.size:=by
 induction h:s.size-i generalizing i with
 |zero=>
  have:vc s a i=false:=by unfold vc;rw[zcF (by omega)];rfl
  rw[zaZ this];omega
 |succ n ih=>
  cases he:vc s a i with
  |false=>rw[zaZ he];omega
  |true=>rw[zbZ he];have:=ih (i+1) (by omega) (by omega);omega
def vF (l:List UInt8):Nat:=l.foldl (λn c=>10*n+(c.toNat-48)) 0
def yM (s:ByteArray) (a b:Nat):List UInt8:=(s.data.toList.drop a).take (b-a)
def yL (s:ByteArray) (least:Int) (i:Nat):Except (Int×Nat) (Int×Nat):=
 if gV s i i=i then .error (180,i)
 else if((vF (yM s i (gV s i i)):Int)<least∨512<(vF (yM s i (gV s i i)):Int)) then .error (2,i)
 else .ok ((vF (yM s i (gV s i i)):Int),gV s i i)
structure Mk where
 sign:Int
 n:Int
 at_:Nat
structure It where
 cls:Int
 ref:Int
 gP:List Mk
 at_:Nat
def JM:List UInt8:=[97,98,99,100,101,102,103,104,105,106,107,108,109,110,111,112,113,114,115,116,117,118,119,121,122]
def yP (c:UInt8):Int:=Lib.indexByte JM c
def gZ (s:ByteArray) (i:Nat):UInt8:=if h:i<s.size then s[i] else 0
def QH (s:ByteArray) (i:Nat):Except (Int×Nat) (Int×Int×Nat):=
 if pg s i 120 then .ok (-1,0,i+1)
 else if¬i<s.size then .error (180,i)
 else if 0<=yP (gZ s i) then .ok (yP (gZ s i),0,i+1)
 else if¬pY s i 65 90∨yP (gZ s i|||32)<0 then .error (180,i)
 else if¬pY s (i+1) 49 57 then .error (180,i+1)
 else .ok (yP (gZ s i|||32),(gZ s (i+1)).toNat-48,i+2)
def pO (l:List Mk) (sign:Int):Nat:=l.countP λm=>m.sign==sign
def pZ:List UInt8:=[58,47,94,64,126,39]
def zd9 (c:UInt8):Bool:=decide (0<=Lib.indexByte pZ c)
def QY (s:ByteArray) (gN:List UInt8) (ms:List Mk) (i:Nat):Except (Int×Nat) (Mk×Nat):=
 if(if pg s i 126 then 4 else 1)<=pO ms (gZ s i).toNat then .error (180,i)
 else if pg s i 58||pg s i 39 then
  (if¬pY s (i+1) 97 122 then .error (180,i+1)
  else if pg s i 58&&decide (Lib.indexByte gN (gZ s (i+1))<0) then .error (181,i+1)
  else .ok (⟨(gZ s i).toNat,(gZ s (i+1)).toNat,i⟩,i+2))
 else match yL s 1 (i+1) with
  |.error e=>.error e
  |.ok (v,e)=>if pg s i 126&&ms.any (λm=>m.sign==126&&m.n==v) then .error (2,i+1) else .ok (⟨(gZ s i).toNat,v,i⟩,e)
def QV (s:ByteArray) (gN:List UInt8):Nat->List Mk->Nat->Except (Int×Nat) (List Mk×Nat)
 |0,ms,i=>.ok (ms,i)
 |f+1,ms,i=>if i<s.size/\zd9 (gZ s i) then
  (match QY s gN ms i with
  |.error e=>.error e
  |.ok (m,j)=>QV s gN f (ms++[m]) j)
  else .ok (ms,i)
def Xr (m:Mk):Bool:=m.sign==94||m.sign==64||m.sign==126
def Kj (s:ByteArray) (gN:List UInt8) (line:Int) (i:Nat):Except (Int×Nat) (It×Nat):=
 match QH s i with
 |.error e=>.error e
 |.ok (cls,ref,j)=>match QV s gN (s.size+1) [] j with
  |.error e=>.error e
  |.ok (ms,k)=>if¬vG s k/\¬pg s k 32 then .error (180,k)
   else match(if 0<=line then ms.find? (λm=>Xr m&&decide (line<m.n)) else none) with
    |some m=>.error (182,m.at_)
    |none=>.ok (⟨cls,ref,ms,i⟩,k)
structure Rw where
 round:Bool
 items:List It
structure Fm where
 name:List UInt8
 gN:List UInt8
 gQ:List Met
 rows:List Rw
 rounds:Bool
 least:Int
 most:Int
 shift:Int
def Fm.zero:Fm:=⟨[],[],[],[],false,0,0,0⟩
def ziH (n:Int) (k:Int) (r:Rw):Int:=if r.round then k+n*r.items.length else k+r.items.length
def ZF (rows:List Rw) (n:Int):Int:=rows.foldl (ziH n) 0
def ZT (f:Fm) (round:Bool) (n:Nat):Int:=if round&&f.most==0 then-1 else ZF f.rows f.least+n
def Ka (s:ByteArray) (f:Fm) (round:Bool):Nat->List It->Nat->Except (Int×Nat) (List It×Nat)
 |0,l,i=>.ok (l,i)
 |q+1,l,i=>if pg s i 32 then
  (match Kj s f.gN (ZT f round l.length) (i+1) with
  |.error e=>.error e
  |.ok (x,j)=>Ka s f round q (l++[x]) j)
  else .ok (l,i)
def VG (f:Fm) (round:Bool):Int:=if round then(f.most-1)*f.shift else if f.rounds then f.most*f.shift else 0
def Kd (s:ByteArray) (f:Fm) (round:Bool) (start i:Nat):Except (Int×Nat) (Fm×Nat):=
 if¬pg s i 32 then .error (180,i)
 else match Ka s f round (s.size+1) [] i with
  |.error e=>.error e
  |.ok (l,j)=>
   if 512<ZF (f.rows++[⟨round,l⟩]) f.most then .error (3,start)
   else match l.find? (λx=>decide (0<=x.cls)&&decide (25<=x.cls+VG f round)&&!(round&&f.most==0)) with
    |some x=>.error (5,x.at_)
    |none=>.ok ({f with rows:=f.rows++[⟨round,l⟩]},j)
def pF (r:Except Nat Nat):Except (Int×Nat) Nat:=match r with
 |.error i=>.error (180,i)
 |.ok j=>.ok j
def ROUND:List Int:=[114,111,117,110,100,32]
def Zt:List Int:=[109,101,116,114,101,32]
def znf:List Int:=[102,111,114,109,32]
def pM:List Int:=[115,116,97,110,122,97]
def XW (s:ByteArray) (f:Fm) (i:Nat):Except (Int×Nat) (Fm×Nat):=
 if f.rounds then .error (180,i)
 else match pF (py s ROUND i) with
 |.error e=>.error e
 |.ok a=>match yL s 0 a with
  |.error e=>.error e
  |.ok (least,b)=>match pF (py s [32] b) with
   |.error e=>.error e
   |.ok c=>match yL s 0 c with
    |.error e=>.error e
    |.ok (most,d)=>if most<least then .error (2,c)
     else match pF (py s [32] d) with
     |.error e=>.error e
     |.ok g=>match yL s 0 g with
      |.error e=>.error e
      |.ok (shift,h)=>match Kd s {f with least:=least,most:=most,shift:=shift} true i h with
       |.error e=>.error e
       |.ok (f',j)=>.ok ({f' with rounds:=true},j)
def YF (s:ByteArray) (f:Fm) (i:Nat):Except (Int×Nat) (Fm×Nat):=
 match pF (py s Zt i) with
 |.error e=>.error e
 |.ok a=>if¬pY s a 97 122 then .error (180,a)
  else if 0<=Lib.indexByte f.gN (gZ s a) then .error (181,a)
  else match pF (py s [32] (a+1)) with
   |.error e=>.error e
   |.ok b=>match Zs ⟨(yM s b (zap s b)).toArray⟩ with
    |.error (e,p)=>.error (e,b+p)
    |.ok m=>.ok ({f with gN:=f.gN++[gZ s a],gQ:=f.gQ++[m]},zap s b)
def QZ (s:ByteArray) (f:Fm) (zr8:Bool) (i:Nat):Except (Int×Nat) (Fm×Nat):=
 if¬zr8 then
  (match pF (py s znf i) with
  |.error e=>.error e
  |.ok a=>if vG s a then .error (180,a) else .ok ({f with name:=yM s a (zap s a)},zap s a))
 else if pg s i 109&&f.rows.isEmpty then YF s f i
 else if pg s i 114 then XW s f i
 else match pF (py s pM i) with
  |.error e=>.error e
  |.ok a=>Kd s f false i a
def ZK (s:ByteArray) (i:Nat):Nat:=if i<s.size then i+1 else i
def Q8 (s:ByteArray):Nat->Fm->Bool->Nat->Except (Int×Nat) Fm
 |0,f,t,i=>.ok f
 |q+1,f,t,i=>
  if¬i<s.size then(if f.rows.isEmpty then .error (180,s.size) else .ok f)
  else if pg s i 10 then Q8 s q f t (ZK s i)
  else if pg s i 35 then Q8 s q f t (ZK s (zap s i))
  else match QZ s f t i with
   |.error e=>.error e
   |.ok (f',j)=>Q8 s q f' true (ZK s j)
def Kz (s:ByteArray):Except (Int×Nat) Fm:=if 65536<s.size then .error (3,65536) else Q8 s (s.size+1) Fm.zero false 0
structure Off (L:List Nat) (w w':World):Prop where
 os:w'.os=w.os
 tape:w'.tape=w.tape
 output:w'.output=w.output
 size:w.heap.size<=w'.heap.size
 block:∀k,k<w.heap.size->k∉L->w'.heap[k]?=w.heap[k]?
theorem Off.refl (L:List Nat) (w:World):Off L w w:=⟨rfl,rfl,rfl,ql _,λ_ _ _=>rfl⟩
theorem Off.trans {L:List Nat} {w w' w2:World} (h:Off L w w') (h':Off L w' w2):Off L w w2:=
 ⟨h'.os.trans h.os,h'.tape.trans h.tape,h'.output.trans h.output,qm h.size h'.size,λk hk hn=>(h'.block k (qD hk h.size) hn).trans (h.block k hk hn)⟩
theorem Off.mono {L L':List Nat} {w w':World} (h:Off L w w') (hl:∀k,k∈L->k∈L'∨w.heap.size<=k):Off L' w w':=
 ⟨h.os,h.tape,h.output,h.size,λk hk hn=>h.block k hk λhm=>(hl k hm).elim hn (λh=>by omega)⟩
theorem Off.of_below {B:Nat} {w w':World} (h:Below B w w') (hB:w.heap.size<=B) (L:List Nat):Off L w w':=⟨h.os,h.tape,h.output,h.size,λk hk _=>h.block k (by omega)⟩
theorem Off.below {L:List Nat} {w w':World} {B:Nat} (h:Off L w w') (hB:B<=w.heap.size) (hl:∀k,k∈L->B<=k):Below B w w':=
 ⟨h.os,h.tape,h.output,h.size,λk hk=>h.block k (by omega) λhm=>by have:=hl k hm;omega⟩
theorem Off.drew (L:List Nat) (w:World):Off L w w.drew:=⟨rfl,rfl,rfl,ql _,λ_ _ _=>rfl⟩
theorem Off.drewN (L:List Nat) (w:World) (n:Nat):Off L w (w.drewN n):=⟨rfl,rfl,rfl,ql _,λ_ _ _=>rfl⟩
theorem Off.alloc (L:List Nat) (w:World) (o:Obj):Off L w (w.alloc o):=Off.of_below ((qb w.heap.size w).alloc (ql _) o) (ql _) L
theorem Off.grown {L:List Nat} {w w':World} {r:Option Nat} (h:w.grownBy w' r) (hr:∀k,r=some k->k∈L):Off L w w':=
 ⟨h.os,h.tape,h.output,h.size,λk hk hn=>h.block k hk λe=>hn (hr k e.symm)⟩
theorem Off.setCell (w:World) (b o:Nat) (v:Value):Off [b] w (w.setCell ⟨b,o,none⟩ v):=
 ⟨rfl,rfl,rfl,by simp,λk _ hn=>qT _ _ _ _ (by show k≠b;exact λe=>hn (by simp[e]))⟩
theorem Off.cell {L:List Nat} {w w':World} (h:Off L w w') {b o:Nat} (hb:b<w.heap.size) (hn:b∉L):w'.cell? ⟨b,o,none⟩=w.cell? ⟨b,o,none⟩:=qw (h.block b hb hn)
theorem Off.own {L:List Nat} {w w':World} (h:Off L w w') {B e z n:Nat} {v:Value} {xs:List Value} (ho:w.ownsRow B e z v n xs) (hn:∀k,v.ownBlock=some k->k∉L):w'.ownsRow B e z v n xs:=by
 refine⟨ho.1,ho.2.imp id ?_⟩;rintro⟨g,cap,cur,h1,h2,h3,h4⟩;exact⟨g,cap,cur,h1,h2,(h.block g (qg h3).1 (hn g (by rw[h1];rfl))).trans h3,h4⟩
def zkD (e:Int) (p:Nat):Value:=.iface 133 (.agg #[.int .i64 e,.int .i64 p])
def vU (e:Int) (p:Nat):Ending:=.panicked [{v:=zkD e p,recovered:=false}]
theorem gX (e:Int) (p:Nat) (w:World):Calls Tryz.prog 112 #[.int .i64 e,.int .i64 p] w λx w'=>x=vU e p/\Below w.heap.size w w':=by
 go_enter Tryz.func112,Tryz.ntmps112;go_wp2_with fail;exact⟨rfl,rfl,qb _ _⟩
def rdC (s:ByteArray) (i fb:Nat):Array Value:=#[.string s,.int .i64 i,.pointer (some ⟨fb,0,none⟩)]
structure Rd (w:World) (rb fb:Nat) (s:ByteArray) (i:Nat):Prop where
 r:w.heap[rb]?=some (.cells (rdC s i fb) 137 (0,0))
 le:i<=s.size
 sz:s.size<=65536
theorem Rd.lt {w:World} {rb fb:Nat} {s:ByteArray} {i:Nat} (h:Rd w rb fb s i):rb<w.heap.size:=(qg h.r).1
theorem Rd.cells {w:World} {rb fb:Nat} {s:ByteArray} {i:Nat} (h:Rd w rb fb s i):w.cell? ⟨rb,0,none⟩=some (.string s)/\w.cell? ⟨rb,1,none⟩=some (.int .i64 i)/\w.cell? ⟨rb,2,none⟩=some (.pointer (some ⟨fb,0,none⟩))/\w.frozen? ⟨rb,1,none⟩=false:=
 ⟨qc _ _ 0 _ _ (0,0) h.r,qc _ _ 1 _ _ (0,0) h.r,qc _ _ 2 _ _ (0,0) h.r,qf _ _ 1 _ _ h.r⟩
theorem Rd.to {w:World} {rb fb:Nat} {s:ByteArray} {i:Nat} (h:Rd w rb fb s i) {j:Nat} (hj:j<=s.size):Rd (w.setCell ⟨rb,1,none⟩ (.int .i64 j)) rb fb s j:=
 ⟨qs w rb 1 (rdC s i fb) _ _ h.r,hj,h.sz⟩
theorem Rd.off {L:List Nat} {w w':World} {rb fb:Nat} {s:ByteArray} {i:Nat} (h:Rd w rb fb s i) (ho:Off L w w') (hn:rb∉L):Rd w' rb fb s i:=
 ⟨(ho.block _ h.lt hn).trans h.r,h.le,h.sz⟩
theorem Rd.drewN {w:World} {rb fb:Nat} {s:ByteArray} {i:Nat} (h:Rd w rb fb s i) (n:Nat):Rd (w.drewN n) rb fb s i:=⟨h.r,h.le,h.sz⟩
theorem Rd.below {w w':World} {rb fb:Nat} {s:ByteArray} {i:Nat} (h:Rd w rb fb s i) (hb:Below w.heap.size w w'):Rd w' rb fb s i:=
 ⟨(hb.block _ h.lt).trans h.r,h.le,h.sz⟩
def YG (rb fb:Nat) (s:ByteArray) (w:World) (v:Value) (r:Except (Int×Nat) Nat) (e:Ending) (w':World):Prop:=
 match r with
 |.ok j=>e=.returned v/\Rd w' rb fb s j/\Off [rb] w w'
 |.error (c,p)=>e=vU c p/\Off [rb] w w'
theorem is_q (rb fb:Nat) (s:ByteArray) (i:Nat) (c:UInt8) (w:World) (h:Rd w rb fb s i):
  Calls Tryz.prog 89 #[.pointer (some ⟨rb,0,none⟩),.int .u8 c.toNat] w λe w'=>e=.returned (.bool (pg s i c.toNat))/\∃n,w'=w.drewN n:=by
 obtain⟨r0,r1,r2,r3⟩:=h.cells;have hsz:=h.sz;clear h;by_cases hi:i<s.size
 ·rw[QX hi];have hd:decide ((i:Int)<(s.size:Int))=true:=qt (by omega);go_enter Tryz.func89,Tryz.ntmps89;go_wp2_with fail;go_quiet (fail)
  go_wp2_with fail;go_ret;exact⟨rfl,_,rfl⟩
 ·rw[zcE hi];have hd:decide ((i:Int)<(s.size:Int))=false:=qd (by omega);go_enter Tryz.func89,Tryz.ntmps89;go_wp2_with fail;go_quiet (fail)
  go_wp2_with fail;go_ret;exact⟨rfl,_,rfl⟩
theorem ZG {B:Nat} {a w:World} (h:Below B a w) (n:Nat):Below B a (w.drewN n):=⟨h.os,h.tape,h.output,h.size,h.block⟩
theorem zdZ (rb fb:Nat) (s:ByteArray) (i:Nat) (c:UInt8) (w:World) (h:Rd w rb fb s i):
  Calls Tryz.prog 89 #[.pointer (some ⟨rb,0,none⟩),.int .u8 c.toNat] w λe w'=>e=.returned (.bool (pg s i c.toNat))/\Below w.heap.size w w':=by
 refine(is_q rb fb s i c w h).mono ?_;rintro e w' ⟨rfl,n,rfl⟩;exact⟨rfl,ZG (qb _ _) n⟩
theorem zlD (rb fb:Nat) (s:ByteArray) (i:Nat) (w:World) (h:Rd w rb fb s i):
  Calls Tryz.prog 88 #[.pointer (some ⟨rb,0,none⟩)] w λe w'=>e=.returned (.bool (vG s i))/\∃n,w'=w.drewN n:=by
 obtain⟨r0,r1,r2,r3⟩:=h.cells;have hsz:=h.sz;have hle:=h.le;clear h;by_cases hi:i<s.size
 ·rw[zeu hi];have hne:((i:Int)==(s.size:Int))=false:=by
   have:¬((i:Int)=(s.size:Int)):=(by omega);simpa using this
  go_enter Tryz.func88,Tryz.ntmps88;go_wp2_with fail;go_quiet (fail)
  go_wp2_with fail;go_ret;exact⟨rfl,_,rfl⟩
 ·rw[zco hi];have hne:((i:Int)==(s.size:Int))=true:=by
   have:(i:Int)=(s.size:Int):=(by omega);simpa using this
  go_enter Tryz.func88,Tryz.ntmps88;go_wp2_with fail;go_quiet (fail)
  go_wp2_with fail;go_ret;exact⟨rfl,_,rfl⟩
theorem zdn (rb fb:Nat) (s:ByteArray) (i:Nat) (w:World) (h:Rd w rb fb s i):
  Calls Tryz.prog 88 #[.pointer (some ⟨rb,0,none⟩)] w λe w'=>e=.returned (.bool (vG s i))/\Below w.heap.size w w':=by
 refine(zlD rb fb s i w h).mono ?_;rintro e w' ⟨rfl,n,rfl⟩;exact⟨rfl,ZG (qb _ _) n⟩
theorem YH (rb fb:Nat) (s:ByteArray) (i:Nat) (w:World) (h:Rd w rb fb s i):
  Calls Tryz.prog 92 #[.pointer (some ⟨rb,0,none⟩)] w λe w'=>e=vU 180 i/\Below w.heap.size w w':=by
 obtain⟨r0,r1,r2,r3⟩:=h.cells;go_enter Tryz.func92,Tryz.ntmps92;go_wp2_with fail;refine(gX 180 i w).mono ?_;rintro e w' ⟨rfl,hb⟩;exact⟨rfl,rfl,hb⟩
theorem zd0 (rb fb:Nat) (s:ByteArray) (i:Nat) (w:World) (h:Rd w rb fb s i):
  Calls Tryz.prog 87 #[.pointer (some ⟨rb,0,none⟩)] w (YG rb fb s w (.tuple #[]) (.ok (ZK s i))):=by
 obtain⟨r0,r1,r2,r3⟩:=h.cells;have hsz:=h.sz;have H:=qh h;unfold ZK;by_cases hi:i<s.size
 ·rw[qy hi];have hw:IntKind.i64.wrap ((i:Int)+1)=(i:Int)+1:=qi _ (by omega);have hd:decide ((i:Int)<(s.size:Int))=true:=qt (by omega);clear h;go_enter Tryz.func87,Tryz.ntmps87;go_wp2_with fail;go_quiet (fail)
  go_wp2_with fail;refine q9 (qI rfl _ _ _) rfl ?_;exact⟨rfl,(H.out.drewN nq).to (j:=i+1) (by omega),(Off.drewN _ w nq).trans (Off.setCell (w.drewN nq) rb 1 _)⟩
 ·rw[qx hi];have hd:decide ((i:Int)<(s.size:Int))=false:=qd (by omega);clear h;go_enter Tryz.func87,Tryz.ntmps87;go_wp2_with fail;go_quiet (fail)
  go_wp2_with fail;refine q9 (qI rfl _ _ _) rfl ?_;exact⟨rfl,H.out.drewN nq,Off.drewN _ w nq⟩
end Go.Proofs.YtgklikkddckgbaaGreatDoor.Mo

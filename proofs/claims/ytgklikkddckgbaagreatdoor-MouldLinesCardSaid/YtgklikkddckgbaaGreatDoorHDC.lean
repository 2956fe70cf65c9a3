import Derived.LoopIn
import Derived.LoopNIn
import Derived.OwnWalkIn
import Derived.RangeFuncNested
import Derived.Shelf.RegionOpen
import Derived.Test.YtgklikkddckgbaaGreatDoorHDB
/- Lemmas of the claim. -/
set_option linter.all false
namespace Go.Proofs.YtgklikkddckgbaaGreatDoor
open Go.RowKit Go.Shelf Go.Lib
attribute [local go_sem] Oper.semAt_some
def strL (l:List UInt8):Value:=.string ⟨l.toArray⟩
def zjf (j:Nat):Value:=.agg #[strL (zan j).1,strL (zan j).2.1,strL (zan j).2.2]
set_option maxRecDepth 100000 in
set_option maxHeartbeats 4000000 in
theorem zjg (F:Fence) (n:Nat) (h51:F.fn 106) (hro:F.round=none) (hn:1≤n) (w:World):
  zlh F n Tryz.prog 106 #[] (fun j:Nat=>#[zjf j]) (fun xs=>xs=List.range 14) (fun pre=>∃m,m<14∧pre=List.range (m+1)) 14 w:=fun l J Jx W hW hJ hJx hY h0=>by
 refine callsIn_of_wp Tryz.func106 rfl h51 ?_ hro;simp only[Tryz.ntmps106,List.size_toArray,List.length_cons,List.length_nil,Nat.reduceAdd,Nat.reduceSub,Array.replicate_succ,Array.replicate_zero,List.push_toArray,List.append_toArray,List.nil_append,List.cons_append];generalize hT:(ByteArray.mk (List.toArray (List.append _ _)))=T0;have hT2:T0=TB:=by rw[←hT];kernel_rfl
 clear hT;subst hT2;have hsz:=zi9;gi_wp2;have hWs:=hW.size
 gi_loopw [3,4] (fun k a wr=>∃(i k' a' m:Nat) (f0 f1:List UInt8) (x0 x1 x2:ByteArray),k=.int .i64 k'∧a=.int .i64 a'∧i≤300∧zgd (tblL.drop i) i k' a' m f0 f1=true∧
   wr.heap[W.heap.size]?=some (.cells #[.string x0,.string x1,.string x2] 173 (0,0))∧wr.heap[W.heap.size+1]?=some (.stringIter TB i)∧(1≤k'→x0=⟨f0.toArray⟩)∧(2≤k'→x1=⟨f1.toArray⟩)∧J (List.range m) wr)
  (fun _ _ wr=>300-wr.iterPos (W.heap.size+1))
 case atStart=>
  refine⟨0,0,0,0,[],[],⟨#[]⟩,⟨#[]⟩,⟨#[]⟩,rfl,rfl,by omega,ziB,?_,?_,fun h=>by omega,fun h=>by omega,?_⟩
  ·exact(qa _ _ _ (by simp)).trans (qn W _)
  ·have:=qn (W.alloc (.cells #[.string ⟨#[]⟩,.string ⟨#[]⟩,.string ⟨#[]⟩] 173)) (.stringIter TB 0);rw[World.size_alloc] at this;exact this
  ·exact hJ.alloc _ (hJ.alloc _ h0)
 case round=>
  obtain⟨i,k,a,m,f0,f1,x0,x1,x2,rfl,rfl,hi,hsc,hB,hI,hx0,hx1,hJm⟩:=hrel;have hx0':=qh hx0;have hx1':=qh hx1;clear hx0 hx1;by_cases hlt:i<300
  ·have hil:i<TB.size:=(by omega);rw[zl8 i hil] at hsc;unfold zgd at hsc;rw[Bool.and_eq_true] at hsc;obtain⟨hc128,hsc⟩:=hsc;have hc128:=of_decide_eq_true hc128;have hnx:(Instr.next (.pointer (some ⟨W.heap.size+1,0,none⟩)) true 0).run Tryz.prog wr=.ok (.tuple #[.bool true,.int .i64 i,.int .i32 (TB[i]'hil).toNat]) (wr.iterAt (W.heap.size+1) TB (i+1)):=run_next_ascii_at wr _ TB i 0 hI hil hc128;have hI1:=iterAt_heap wr (W.heap.size+1) TB i (i+1) hI;have hB1:=(iterAt_other wr (W.heap.size+1) W.heap.size TB (i+1) (by omega)).trans hB;have hJ1:J (List.range m) (wr.iterAt (W.heap.size+1) TB (i+1)):=hJ _ _ _ (some (W.heap.size+1)) hJm ⟨rfl,rfl,rfl,by rw[iterAt_size];exact ql _,fun j _ hj=>iterAt_other wr _ _ TB _ (fun e=>hj (by rw[e]))⟩ (fun r e=>by cases e;omega);have hpos:wr.iterPos (W.heap.size+1)=i:=(by unfold World.iterPos;rw[hI]);have Hpos:=qh hpos;clear hpos;by_cases h32:TB[i]=32
   ·rw[if_pos h32,Bool.and_eq_true] at hsc;obtain⟨hai,hsc⟩:=hsc;have hai:=of_decide_eq_true hai;have ht:(((TB[i]'hil).toNat:Int) !=32)=false:=(by rw[h32];rfl);have hex:=zl9 a i;have Hex:=qh hex;clear hex h32;have b1:(0:Int)≤(a:Int):=(by omega);have b2:(a:Int)≤(i:Int):=(by omega);have b3:(i:Int)≤(TB.size:Int):=(by omega);generalize hw1:wr.iterAt (W.heap.size+1) TB (i+1)=w1 at*;have hm0:((0:Int)+1).tmod 3=1:=(by decide);have hm1:((1:Int)+1).tmod 3=2:=(by decide);have hm2:((2:Int)+1).tmod 3=0:=(by decide);have d0:w1.cell? ⟨W.heap.size,0,none⟩=some (.string x0):=qc _ _ _ _ 173 (0,0) hB1;have d1:w1.cell? ⟨W.heap.size,1,none⟩=some (.string x1):=qc _ _ _ _ 173 (0,0) hB1;have d2:w1.cell? ⟨W.heap.size,2,none⟩=some (.string x2):=qc _ _ _ _ 173 (0,0) hB1;have z0:=qf w1 W.heap.size 0 _ 173 hB1;have z1:=qf w1 W.heap.size 1 _ 173 hB1;have z2:=qf w1 W.heap.size 2 _ 173 hB1;have Hst:=qh fun(j:Nat) (v:Value)=>qs w1 W.heap.size j _ 173 v hB1;have Hsi:=qh fun(j:Nat) (v:Value)=>(qT w1 ⟨W.heap.size,j,none⟩ v (W.heap.size+1) (by show W.heap.size+1≠W.heap.size;omega)).trans hI1;have Hsj:=qh fun(j:Nat) (v:Value)=>hJ (List.range m) w1 (w1.setCell ⟨W.heap.size,j,none⟩ v) (some W.heap.size) hJ1 (zaV (zb4 w1 _) (.inl rfl) _) (fun r e=>by cases e;omega);by_cases hk0:k=0
    ·subst hk0;rw[if_pos rfl] at hsc;have Hsc:=qh hsc;clear hsc;gi_wp2;refine⟨fun _ h=>(by cases h),?_⟩;gi_wp2;go_roundw
     case rel=>exact⟨i+1,1,i+1,m,cutL a i,f1,TB.extract a i,x1,x2,rfl,by go_num,by omega,Hsc.out,Hst.out 0 _,Hsi.out 0 _,fun _=>Hex.out,fun h=>by omega,Hsj.out 0 _⟩
     case measure=>
      have:(w1.setCell ⟨W.heap.size,0,none⟩ (.string (TB.extract a i))).iterPos (W.heap.size+1)=i+1:=(by unfold World.iterPos;rw[Hsi.out 0 _]);rw[this,Hpos.out];omega
    ·rw[if_neg hk0] at hsc;by_cases hk1:k=1
     ·subst hk1;rw[if_pos rfl] at hsc;have Hsc:=qh hsc;clear hsc;gi_wp2;refine⟨fun _ h=>(by cases h),?_⟩;gi_wp2;go_roundw
      case rel=>exact⟨i+1,2,i+1,m,f0,cutL a i,x0,TB.extract a i,x2,rfl,by go_num,by omega,Hsc.out,Hst.out 1 _,Hsi.out 1 _,fun _=>hx0'.out (by omega),fun h=>Hex.out,Hsj.out 1 _⟩
      case measure=>
       have:(w1.setCell ⟨W.heap.size,1,none⟩ (.string (TB.extract a i))).iterPos (W.heap.size+1)=i+1:=(by unfold World.iterPos;rw[Hsi.out 1 _]);rw[this,Hpos.out];omega
     ·rw[if_neg hk1] at hsc;by_cases hk2:k=2
      ·subst hk2;rw[if_pos rfl,Bool.and_eq_true,Bool.and_eq_true] at hsc;obtain⟨⟨hm14,hft⟩,hsc⟩:=hsc;have hm14:=of_decide_eq_true hm14;have hft:(f0,f1,cutL a i)=zan m:=(by simpa using hft);have hfv:zjf m=.agg #[.string x0,.string x1,.string (TB.extract a i)]:=by
        unfold zjf strL;rw[←hft,hx0'.out (by omega),hx1'.out (by omega),Hex.out]
       obtain⟨fn,tmps,assign,body,hy,hR⟩:=hY (List.range m) m _ (Hsj.out 2 (.string (TB.extract a i))) (by simpa using hm14);rw[hfv] at hy;have Hsc:=qh hsc;have HR:=qh hR;clear hsc hft hfv hR;gi_wp2;refine HR.out.mono ?_;rintro e W4 (⟨rfl,hJ4,hk4⟩|⟨rfl,hJx4⟩)
       ·have hB4:=hk4.2 W.heap.size _ (by omega) (Hst.out 2 (.string (TB.extract a i))) (.inl rfl);have hI4:=hk4.2 (W.heap.size+1) _ (by omega) (Hsi.out 2 (.string (TB.extract a i))) (.inr rfl);gi_wp2;go_roundw
        case rel=>exact⟨i+1,0,i+1,m+1,f0,f1,x0,x1,TB.extract a i,rfl,by go_num,by omega,Hsc.out,hB4,hI4,fun h=>by omega,fun h=>by omega,by rw[List.range_succ];exact hJ4⟩
        case measure=>
         have:W4.iterPos (W.heap.size+1)=i+1:=(by unfold World.iterPos;rw[hI4]);rw[this,Hpos.out];omega
       ·gi_wp2;refine bodyPost_ret (results_none rfl _ _ _) rfl ?_;exact⟨⟨_,rfl⟩,.inr ⟨List.range (m+1),⟨m,hm14,rfl⟩,by rw[List.range_succ];exact hJx4⟩⟩
      ·rw[if_neg hk2] at hsc;cases hsc
   ·rw[if_neg h32] at hsc;have ht:(((TB[i]'hil).toNat:Int) !=32)=true:=by
     simp only[bne_iff_ne];intro e;exact h32 (zbg (b:=32) (by have:(32:UInt8).toNat=32:=rfl;omega))
    have Hsc:=qh hsc;clear hsc h32;generalize hw1:wr.iterAt (W.heap.size+1) TB (i+1)=w1 at*;gi_wp2;go_roundw
    case rel=>exact⟨i+1,k,a,m,f0,f1,x0,x1,x2,rfl,rfl,by omega,Hsc.out,hB1,hI1,hx0'.out,hx1'.out,hJ1⟩
    case measure=>
     have:w1.iterPos (W.heap.size+1)=i+1:=(by unfold World.iterPos;rw[hI1]);rw[this,Hpos.out];omega
  ·obtain rfl:i=300:=by omega
   have hd:tblL.drop 300=[]:=List.drop_eq_nil_of_le (by rw[zhe];omega);rw[hd] at hsc;have hm:m=14:=(by simpa [zgd] using hsc);have hnx:(Instr.next (.pointer (some ⟨W.heap.size+1,0,none⟩)) true 0).run Tryz.prog wr=.ok (.tuple #[.bool false]) wr:=run_next_end_at wr _ TB 300 0 hI (by omega);subst hm;gi_wp2;go_end0;exact⟨⟨_,rfl⟩,.inl ⟨List.range 14,rfl,hJm⟩⟩
attribute [local go_sem] Oper.semAt_some
def zbJ (t:List UInt8):List UInt8:=match zer t with|some f=>f.2.1|none=>[]
def zck (t:List UInt8):Bool:=(zer t).isSome
def one (w:World) (b:Nat) (v:Value) (ty:TypeId):Prop:=w.heap[b]?=some (.cells #[v] ty (0,0))
theorem zb5 {W W':World} {row:Option Nat} {B k:Nat} {v:Value} {ty:TypeId} (h:one W k v ty) (hk:k<B) (hg:W.grownBy W' row) (hr:∀r,row=some r→B≤r):one W' k v ty:=
 (hg.block k (qg h).1 (fun e=>by have:=hr _ e.symm;omega)).trans h
def NI (t:ByteArray) (w:World) (pre:List Nat) (W:World):Prop:=(∀j,j∈pre→((zan j).1==t.data.toList)=false)∧one W w.heap.size (.string t) 9∧one W (w.heap.size+1) (.string ⟨#[]⟩) 9∧one W (w.heap.size+2) (.bool false) 4∧Below w.heap.size w W
def NIx (t:ByteArray) (w:World) (c:Code) (pre:List Nat) (W:World):Prop:=c=.ret∧∃p m,pre=p++[m]∧(∀j,j∈p→((zan j).1==t.data.toList)=false)∧((zan m).1==t.data.toList)=true∧one W (w.heap.size+1) (.string ⟨(zan m).2.1.toArray⟩) 9∧one W (w.heap.size+2) (.bool true) 4∧Below w.heap.size w W
def NAx (t:ByteArray) (w W3:World) (x:Nat) (a':Act) (W:World):Prop:=∃Bx,W3.heap.size≤Bx∧W.heap[Bx]?=some (.cells #[strL (zan x).1,strL (zan x).2.1,strL (zan x).2.2] 173 (0,0))∧
 ∃y6 y7 y8 y9 y10 y11,a'={tmps:=#[.string t,.pointer (some ⟨w.heap.size,0,none⟩),.pointer (some ⟨w.heap.size+1,0,none⟩),.pointer (some ⟨w.heap.size+1+1,0,none⟩),.pointer (some ⟨Bx,0,none⟩),zjf x,y6,y7,y8,y9,y10,y11],defers:=[]}
theorem zgk (j:Nat) (t:ByteArray):((zan j).1==t.toList)=((zan j).1==t.data.toList):=by
 rw[ByteArray.toList_eq]
set_option maxRecDepth 100000 in
set_option maxHeartbeats 4000000 in
theorem zkA (F:Fence) (n:Nat) (h18:F.fn 195) (h51:F.fn 106) (hro:F.round=none) (hn:3≤n) (t:ByteArray) (w:World):
  CallsIn F n Tryz.prog 195 #[.string t] w fun e w'=>e=.returned (.tuple #[.string ⟨(zbJ t.data.toList).toArray⟩,.bool (zck t.data.toList)])∧Below w.heap.size w w':=by
 have h1:1≤n:=by omega
 refine callsIn_of_wp_marks Tryz.func195 rfl h18 ?_ hro;simp only[Tryz.ntmps195,List.size_toArray,List.length_cons,List.length_nil,Nat.reduceAdd,Nat.reduceSub,Array.replicate_succ,Array.replicate_zero,List.push_toArray,List.append_toArray,List.nil_append,List.cons_append];gi_wp2;generalize hW3:World.alloc (World.alloc (World.alloc w _) _) _=W3;have sW3:W3.heap.size=w.heap.size+3:=by rw[←hW3];simp
 have o0:one W3 w.heap.size (.string t) 9:=by rw[←hW3];exact((qa _ _ _ (by simp;omega)).trans (qa _ _ _ (by simp))).trans (qn w _)
 have o1:one W3 (w.heap.size+1) (.string ⟨#[]⟩) 9:=by
  rw[←hW3];have:=qn (w.alloc (.cells #[.string t] 9)) (.cells #[.string ⟨#[]⟩] 9);rw[World.size_alloc] at this;exact(qa _ _ _ (by simp)).trans this
 have o2:one W3 (w.heap.size+2) (.bool false) 4:=by
  rw[←hW3];have:=qn ((w.alloc (.cells #[.string t] 9)).alloc (.cells #[.string ⟨#[]⟩] 9)) (.cells #[.bool false] 4);rw[World.size_alloc,World.size_alloc] at this;exact this
 have hB3:Below w.heap.size w W3:=by rw[←hW3];exact(((qb _ w).alloc (ql _) _).alloc (by simp) _).alloc (by simp;omega) _
 clear hW3;refine zje hro h1 (gf:=106) (lb:=#[]) rfl h51 (enters_of Tryz.func106 (by kernel_rfl) rfl) (zjg F (n-1) h51 hro (by omega) W3) (fun _=>rfl)
  (NI t w) (NIx t w)
  ?hI ?hIx ⟨fun j h=>(by cases h),o0,o1,o2,hB3⟩
  (NAx t w W3)
  ?assign ?body ?hAx ?done ?stop
 case hI=>
  rintro s A A' row ⟨h2,h3,h4,h5,h6⟩ hg hr;exact⟨h2,zb5 h3 (by omega) hg hr,zb5 h4 (by omega) hg hr,zb5 h5 (by omega) hg hr,h6.grown hg h6.size (fun r e=>by have:=hr r e;omega)⟩
 case hIx=>
  rintro c s A A' row ⟨rfl,p,m,h1,h2,h3,h4,h5,h6⟩ hg hr;exact⟨rfl,p,m,h1,h2,h3,zb5 h4 (by omega) hg hr,zb5 h5 (by omega) hg hr,h6.grown hg h6.size (fun r e=>by have:=hr r e;omega)⟩
 case hAx=>
  rintro x a' s A A' row ⟨Bx,h1,h2,y6,y7,y8,y9,y10,y11,h3⟩ hg hr;refine⟨Bx,h1,(hg.block Bx (qg h2).1 (fun e=>?_)).trans h2,y6,y7,y8,y9,y10,y11,h3⟩;obtain⟨_,o,ho,hc⟩:=hr Bx e.symm;rw[h2] at ho;cases ho;cases hc
 case assign=>
  intro l pre x W K hi hsz hK;have hfv:zjf x=.agg #[.string ⟨(zan x).1.toArray⟩,.string ⟨(zan x).2.1.toArray⟩,.string ⟨(zan x).2.2.toArray⟩]:=rfl;gi_wp2;obtain⟨g1,g2,g3,g4,g5⟩:=hi;have q:∀{k:Nat} {v:Value} {ty:TypeId} (o:Obj),k<W3.heap.size→one W k v ty→one (W.alloc o) k v ty:=fun o hk h=>(qa _ _ _ (by omega)).trans h;refine hK _ _ (KeepsOthers.alloc _ _) ⟨by simp,fun i o hi ho _=>?_⟩ ⟨g1,q _ (by omega) g2,q _ (by omega) g3,q _ (by omega) g4,g5.alloc (by omega) _⟩ ⟨W.heap.size,hsz,qn W _,_,_,_,_,_,_,rfl⟩;exact(qa _ _ _ (by have:=(qg ho).1;omega)).trans ho
 case body=>
  rintro l pre x a' W ⟨hnn,p0,p1,p2,hB⟩ hlen ⟨Bx,hBx,hx,y6,y7,y8,y9,y10,y11,rfl⟩ hsz;have e2:w.heap.size+1+1=w.heap.size+2:=rfl;have hin:∀(r:Bool),((zan x).1==t.data.toList)=r→∀j,j∈pre++[x]→((zan j).1==t.data.toList)=false∨(r=true∧j=x):=fun r hr j hj=>by
   rcases List.mem_append.1 hj with h|h
   ·exact .inl (hnn j h)
   ·obtain rfl:j=x:=by simpa using h
    cases r
    ·exact .inl hr
    ·exact .inr ⟨rfl,rfl⟩
  have hinF:((zan x).1==t.data.toList)=false→NI t w (pre++[x]) W:=fun hf=>⟨fun j hj=>(by rcases hin false hf j hj with h|⟨h,_⟩<;>first|exact h|cases h),p0,p1,p2,hB⟩;have c0:W.cell? ⟨w.heap.size,0,none⟩=some (.string t):=qc _ _ _ _ 9 (0,0) p0;have c1:W.cell? ⟨w.heap.size+1,0,none⟩=some (.string ⟨#[]⟩):=qc _ _ _ _ 9 (0,0) p1;have c2:W.cell? ⟨w.heap.size+2,0,none⟩=some (.bool false):=qc _ _ _ _ 4 (0,0) p2;have b0:W.cell? ⟨Bx,0,none⟩=some (.string ⟨(zan x).1.toArray⟩):=qc _ _ _ _ 173 (0,0) hx;have b1:W.cell? ⟨Bx,1,none⟩=some (.string ⟨(zan x).2.1.toArray⟩):=qc _ _ _ _ 173 (0,0) hx;have y1:=qf W (w.heap.size+1) 0 _ 9 p1;have y2:=qf W (w.heap.size+2) 0 _ 4 p2;have hfn:=zgk x t;have Hnn:=qh hnn;have HinF:=qh hinF;clear hnn hin hinF;cases hP:((zan x).1==t.data.toList) with
  |false=>
   rw[hP] at hfn;have hp0:=HinF.out hP;have Hp0:=qh hp0;clear hp0 hP;gi_wp2
   all_goals exact⟨KeepsOthers.refl _,KeepsFor.refl _ _,Hp0.out⟩
  |true=>
   rw[hP] at hfn;have HP:=qh hP;clear hP;gi_wp2;refine⟨((KeepsOthers.setCell _ _ _).trans (KeepsOthers.setCell _ _ _)),rfl,pre,x,rfl,Hnn.out,HP.out,?_,?_,?_⟩
   ·unfold one;exact(qT _ _ _ _ (by show w.heap.size+1≠w.heap.size+2;omega)).trans (qs W (w.heap.size+1) 0 _ 9 _ p1)
   ·unfold one;exact qs _ (w.heap.size+2) 0 _ 4 _ ((qT _ _ _ _ (by show w.heap.size+2≠w.heap.size+1;omega)).trans p2)
   ·exact(hB.setCell (by show w.heap.size≤w.heap.size+1;omega) _).setCell (by show w.heap.size≤w.heap.size+2;omega) _
 case done=>
  rintro D xs W hD rfl ⟨hnn,p0,p1,p2,hB⟩ hK;have e2:w.heap.size+1+1=w.heap.size+2:=rfl;have c1:W.cell? ⟨w.heap.size+1,0,none⟩=some (.string ⟨#[]⟩):=qc _ _ _ _ 9 (0,0) p1;have c2:W.cell? ⟨w.heap.size+2,0,none⟩=some (.bool false):=qc _ _ _ _ 4 (0,0) p2;have y1:=qf W (w.heap.size+1) 0 _ 9 p1;have y2:=qf W (w.heap.size+2) 0 _ 4 p2;gi_wp2;have hd:((W.setCell ⟨w.heap.size+1,0,none⟩ (.string ⟨#[]⟩)).setCell ⟨w.heap.size+2,0,none⟩ (.bool false)).heap[D]?=some (.deferred (some [])):=by
   refine(qT _ _ _ _ ?_).trans ((qT _ _ _ _ ?_).trans hK)
   ·show D≠w.heap.size+2;omega
   ·show D≠w.heap.size+1;omega
  refine⟨by simp,.inl ⟨_,_,rfl,run_takeDeferred hd,?_⟩⟩;have hB6:Below w.heap.size w ((W.setCell ⟨w.heap.size+1,0,none⟩ (.string ⟨#[]⟩)).setCell ⟨w.heap.size+2,0,none⟩ (.bool false)):=(hB.setCell (by show w.heap.size≤w.heap.size+1;omega) _).setCell (by show w.heap.size≤w.heap.size+2;omega) _;generalize hW5:((W.setCell ⟨w.heap.size+1,0,none⟩ (.string ⟨#[]⟩)).setCell ⟨w.heap.size+2,0,none⟩ (.bool false)).putObj D (.deferred none)=W5;have d1:W5.cell? ⟨w.heap.size+1,0,none⟩=some (.string ⟨#[]⟩):=by
   rw[←hW5];exact(qw (World.putObj_heap_other (k:=w.heap.size+1) (by omega))).trans (qc _ _ _ _ 9 (0,0) ((qT _ _ _ _ (by show w.heap.size+1≠w.heap.size+2;omega)).trans (qs W (w.heap.size+1) 0 _ 9 _ p1)))
  have d2:W5.cell? ⟨w.heap.size+2,0,none⟩=some (.bool false):=by
   rw[←hW5];exact(qw (World.putObj_heap_other (k:=w.heap.size+2) (by omega))).trans (qc _ _ _ _ 4 (0,0) (qs _ (w.heap.size+2) 0 _ 4 _ ((qT _ _ _ _ (by show w.heap.size+2≠w.heap.size+1;omega)).trans p2)))
  have hB5:Below w.heap.size w W5:=by rw[←hW5];exact hB6.grown (grownBy_putObj' _ D _) hB6.size (fun r e=>by cases e;omega)
  clear hW5;refine⟨_,by simp[results,Tryz.f195,go_sem,d1,d2];rfl,?_,hB5⟩;simp[zbJ,zck,zgg (fun j hj=>hnn j (by simpa using hj))]
 case stop=>
  rintro D c pre W hD ⟨k,hk,rfl⟩ ⟨rfl,p,m,hpm,hnn,hy,p1,p2,hB⟩ hK;have e2:w.heap.size+1+1=w.heap.size+2:=rfl;have c1:W.cell? ⟨w.heap.size+1,0,none⟩=some (.string ⟨(zan m).2.1.toArray⟩):=qc _ _ _ _ 9 (0,0) p1;have c2:W.cell? ⟨w.heap.size+2,0,none⟩=some (.bool true):=qc _ _ _ _ 4 (0,0) p2;gi_wp2;refine⟨by simp,.inl ⟨_,_,rfl,run_takeDeferred hK,?_⟩⟩;obtain⟨rfl,rfl⟩:p=List.range k∧m=k:=by rw[List.range_succ] at hpm;have:=List.append_inj' hpm rfl;exact⟨this.1.symm,by simpa using this.2.symm⟩
  have hm14:m<14:=hk;have hlow:∀j,j<m→((zan j).1==t.data.toList)=false:=fun j hj=>hnn j (by simpa using hj);generalize hW5:W.putObj D (.deferred none)=W5;have d1:W5.cell? ⟨w.heap.size+1,0,none⟩=some (.string ⟨(zan m).2.1.toArray⟩):=by
   rw[←hW5];exact(qw (World.putObj_heap_other (k:=w.heap.size+1) (by omega))).trans c1
  have d2:W5.cell? ⟨w.heap.size+2,0,none⟩=some (.bool true):=by
   rw[←hW5];exact(qw (World.putObj_heap_other (k:=w.heap.size+2) (by omega))).trans c2
  have hB5:Below w.heap.size w W5:=by rw[←hW5];exact hB.grown (grownBy_putObj' _ D _) hB.size (fun r e=>by cases e;omega)
  clear hW5;refine⟨_,by simp[results,Tryz.f195,go_sem,d1,d2];rfl,?_,hB5⟩;simp[zbJ,zck,zgf hm14 hy hlow]
theorem zjh (t:ByteArray) (w:World):
  Calls Tryz.prog 195 #[.string t] w fun e w'=>e=.returned (.tuple #[.string ⟨(zbJ t.data.toList).toArray⟩,.bool (zck t.data.toList)])∧Below w.heap.size w w':=
 (callsIn_wide (n:=5)).1 (zkA Fence.wide 5 trivial trivial rfl (by omega) t w)
end Go.Proofs.YtgklikkddckgbaaGreatDoor
namespace Go.Proofs.YtgklikkddckgbaaGreatDoor
open Go.RowKit
def badC (c:UInt8):Bool:=decide ((0:Int)≤Lib.indexByte [44,59,120,47] c)
def zbM (t:ByteArray):Bool:=match t.data.toList with|[]=>false|c::_=>badC c
def zaH (t:ByteArray):ByteArray×Int:=
 if zaJ t 1 4 then(t,0) else if t.size=0∨figB t=true∨zbM t=true then(⟨#[]⟩,130) else
  match zer t.data.toList with|some f=>(⟨f.2.1.toArray⟩,0)|none=>(⟨#[]⟩,131)
def zcA (t:ByteArray) (w:World) (e:Ending) (w':World):Prop:=e=.returned (.tuple #[.string (zaH t).1,.int .i64 (zaH t).2])∧Below w.heap.size w w'
theorem zji (c:UInt8) (w:World):Calls Tryz.prog 114 #[.string ⟨#[44,59,120,47]⟩,.int .u8 c.toNat] w fun e w'=>e=.returned (.int .i64 (Lib.indexByte [44,59,120,47] c))∧w=w':=by
 refine(Tryz.strings_IndexByte ⟨#[44,59,120,47]⟩ c.toNat w).mono ?_;rintro e w' ⟨rfl,rfl⟩;refine⟨?_,rfl⟩;have e:((c.toNat:Int).toNat.toUInt8)=c:=by simp
 rw[e]
theorem ziF {t:ByteArray} {w w':World} (h:zaJ t 1 4=true) (hb:Below w.heap.size w w'):zcA t w (.returned (.tuple #[.string t,.int .i64 0])) w':=by
 unfold zcA zaH;rw[if_pos h];exact⟨rfl,hb⟩
theorem zfB {t:ByteArray} {w w':World} (h:zaJ t 1 4=false) (h1:t.size=0∨figB t=true∨zbM t=true) (hb:Below w.heap.size w w'):zcA t w (.returned (.tuple #[.string ⟨#[]⟩,.int .i64 130])) w':=by
 unfold zcA zaH;rw[if_neg (by rw[h];simp),if_pos h1];exact⟨rfl,hb⟩
theorem ziG {t:ByteArray} {w w':World} (h:zaJ t 1 4=false) (h0:¬t.size=0) (h1:figB t=false) (h2:zbM t=false) (h3:zck t.data.toList=true) (hb:Below w.heap.size w w'):zcA t w (.returned (.tuple #[.string ⟨(zbJ t.data.toList).toArray⟩,.int .i64 0])) w':=by
 unfold zcA zaH;rw[if_neg (by rw[h];simp),if_neg (by rw[h1,h2];simp[h0])];unfold zck at h3;unfold zbJ;cases hn:zer t.data.toList with
 |none=>rw[hn] at h3;cases h3
 |some f=>exact⟨rfl,hb⟩
theorem zgl {t:ByteArray} {w w':World} (h:zaJ t 1 4=false) (h0:¬t.size=0) (h1:figB t=false) (h2:zbM t=false) (h3:zck t.data.toList=false) (hb:Below w.heap.size w w'):zcA t w (.returned (.tuple #[.string ⟨#[]⟩,.int .i64 131])) w':=by
 unfold zcA zaH;rw[if_neg (by rw[h];simp),if_neg (by rw[h1,h2];simp[h0])];unfold zck at h3;cases hn:zer t.data.toList with
 |some f=>rw[hn] at h3;cases h3
 |none=>exact⟨rfl,hb⟩
set_option maxRecDepth 100000 in
set_option maxHeartbeats 4000000 in
theorem zfC (b:Nat) (t:ByteArray) (w:World) (hc:w.cell? ⟨b,2,none⟩=some (.string t)) (hb:b<w.heap.size) (ht:t.size≤65536):
  Calls Tryz.prog 171 #[.pointer (some ⟨b,0,none⟩)] w (zcA t w):=by
 have Hfg:=qh fun W hc=>zbl b t W hc;go_enter Tryz.func171,Tryz.ntmps171;go_wp2_with fail;refine(zgh t 4 w (by omega)).mono ?_;rintro e w' ⟨rfl,rfl⟩;cases hs:zaJ t 1 4 with
 |true=>
  have Hs:=qh hs;clear hs;go_wp2_with fail;go_ret2;exact ziF Hs.out (qb _ _)
 |false=>
  have Hs:=qh hs;clear hs;by_cases h0:t.size=0
  ·have h1:=zcS h0;have h2:=zba h0;have H0:=qh h0;clear h0 h1;go_wp2_with fail;go_ret2;exact zfB Hs.out (.inl H0.out) (qb _ _)
  ·have h1:0<t.size:=(by omega);have h2:=zdh h1;cases hf:figB t with
   |true=>
    rw[hf] at Hfg;have Hf:=qh hf;clear hf h0;go_wp2_with fail;refine(Hfg.out _ hc).mono ?_;rintro e w' ⟨rfl,rfl⟩;go_wp2_with fail;go_ret2;exact zfB Hs.out (.inr (.inl Hf.out)) (qb _ _)
   |false=>
    rw[hf] at Hfg;have Hf:=qh hf;have hbh:zbM t=badC (t[0]'h1):=by
     unfold zbM;have:t.data.toList=t[0]::t.data.toList.tail:=by
      rcases t with⟨⟨_|⟨c,l⟩⟩⟩
      ·exact absurd h1 (by decide)
      ·rfl
     rw[this]
    have Hix:=qh fun W=>zji (t[0]'h1) W;have Hbh:=qh hbh;have H0:=qh h0;unfold badC at hbh;generalize hn:Lib.indexByte [44,59,120,47] (t[0]'h1)=n at Hix hbh;clear hf h0 hn;cases hbn:decide ((0:Int)≤n) with
    |true=>
     rw[hbn] at hbh;have Hbn:=qh hbh;clear hbh;have hn0:(0:Int)≤n:=of_decide_eq_true hbn;clear hbn;go_wp2_with fail;refine(Hfg.out _ hc).mono ?_;rintro e w' ⟨rfl,rfl⟩;go_wp2_with fail;refine(Hix.out _).mono ?_;rintro e w' ⟨rfl,rfl⟩;go_wp2_with fail;go_ret2;exact zfB Hs.out (.inr (.inr Hbn.out)) (qb _ _)
    |false=>
     rw[hbn] at hbh;have Hbn:=qh hbh;clear hbh;have hn0:¬(0:Int)≤n:=of_decide_eq_false hbn;clear hbn;go_wp2_with fail;refine(Hfg.out _ hc).mono ?_;rintro e w' ⟨rfl,rfl⟩;go_wp2_with fail;refine(Hix.out _).mono ?_;rintro e w' ⟨rfl,rfl⟩;go_wp2_with fail;refine(zjh t _).mono ?_;rintro e w' ⟨rfl,hb2⟩;have Hf4:=qh fun h=>ziG Hs.out H0.out Hf.out Hbn.out h hb2;have Hf5:=qh fun h=>zgl Hs.out H0.out Hf.out Hbn.out h hb2;cases hok:zck t.data.toList with
     |true=>
      have Hf6:=qh (Hf4.out hok);clear hok;go_wp2_with fail;go_ret2;exact Hf6.out
     |false=>
      have Hf6:=qh (Hf5.out hok);clear hok;go_wp2_with fail;go_ret2;exact Hf6.out
abbrev Way:=ByteArray×Int
def zaf (l:List Way):List Value:=l.flatMap fun v=>[.string v.1,.int .i64 v.2]
def IsWays (w:World) (B:Nat) (A:Option Addr) (l:List Way):Prop:=
 0<l.length→∃b off,A=some ⟨b,off,none⟩∧b<B∧∀k,k<l.length→w.cell? ⟨b,off+k*2,none⟩=some (.string (l.getD k default).1)∧w.cell? ⟨b,off+k*2+1,none⟩=some (.int .i64 (l.getD k default).2)
theorem IsWays.keep {w w':World} {B:Nat} {A:Option Addr} {l:List Way} (h:IsWays w B A l) (hk:∀p:Addr,p.block<B→w'.cell? p=w.cell? p):IsWays w' B A l:=fun hl=>by
 obtain⟨b,off,e,hb,hn⟩:=h hl;exact⟨b,off,e,hb,fun k hk'=>⟨(hk ⟨b,_,none⟩ hb).trans (hn k hk').1,(hk ⟨b,_,none⟩ hb).trans (hn k hk').2⟩⟩
theorem IsWays.below {w w':World} {B:Nat} {A:Option Addr} {l:List Way} (h:IsWays w B A l) (hb:Below B w w'):IsWays w' B A l:=h.keep fun p hp=>hb.cell hp
theorem IsWays.more {w:World} {B B':Nat} {A:Option Addr} {l:List Way} (h:IsWays w B A l) (hB:B≤B'):IsWays w B' A l:=fun hl=>by
 obtain⟨b,off,e,hb,hn⟩:=h hl;exact⟨b,off,e,by omega,hn⟩
def eqS (a b:ByteArray):Bool:=a.toList==b.toList
def hasW (l:List Way) (s:ByteArray):Bool:=l.any fun v=>eqS v.1 s
theorem zhW (v:Way) (p:Nat) (s:ByteArray) (W:World) (hc:W.cell? ⟨p,0,none⟩=some (.string s)) (hp:p<W.heap.size):
  Calls Tryz.prog 196 #[.agg #[.string v.1,.int .i64 v.2],.pointer (some ⟨p,0,none⟩)] W fun e w'=>e=.returned (.bool (eqS v.1 s))∧Below W.heap.size W w':=by
 have hne:p≠W.heap.size:=by omega
 unfold eqS;go_enter Tryz.func196,Tryz.ntmps196;go_wp2_with fail
 all_goals (go_ret;exact⟨by simp_all,(qb _ W).alloc (ql _) _⟩)
theorem zbp {α:Type} [Inhabited α] (l:List α) (p:α→Bool) (k:Nat) (hk:k<l.length):(l.take (k+1)).any p=((l.take k).any p||p (l.getD k default)):=by
 rw[List.take_succ_eq_append_getElem hk,List.any_append];simp[List.getD_eq_getElem?_getD,hk]
theorem zhi {α:Type} [Inhabited α] (l:List α) (p:α→Bool) (k:Nat) (hk:k<l.length) (h:p (l.getD k default)=true):l.any p=true:=
 List.any_eq_true.2 ⟨l[k],qM hk,by simpa [List.getD_eq_getElem?_getD,hk] using h⟩
set_option maxRecDepth 100000 in
set_option maxHeartbeats 4000000 in
theorem zjj (A:Option Addr) (c p:Nat) (l:List Way) (s:ByteArray) (w:World) (hl:IsWays w w.heap.size A l) (hb:l.length≤4611686018427387904) (hc:w.cell? ⟨p,0,none⟩=some (.string s)) (hp:p<w.heap.size):
  Calls Tryz.prog 162 #[.slice A l.length c,.func (.func 196) #[] #[.pointer (some ⟨p,0,none⟩)]] w fun e w'=>∃n:Int,e=.returned (.int .i64 n)∧decide (0≤n)=hasW l s∧Below w.heap.size w w':=by
 go_enter Tryz.func162,Tryz.ntmps162;go_wp2_with fail;go_loopw [5,8] (fun _ i wr=>∃k:Nat,k≤l.length∧i=.int .i64 k∧(l.take k).any (fun v=>eqS v.1 s)=false∧Below w.heap.size w wr) (fun _ i _=>l.length-(intOf i).toNat)
 case atStart=>exact⟨0,by omega,rfl,rfl,qb _ _⟩
 case round=>
  rename_i wr;obtain⟨k,hk,rfl,hn,hbl⟩:=hrel;have Hn:=qh hn;clear hn;by_cases hlt:k<l.length
  ·obtain⟨b,off,rfl,hbb,hrow⟩:=hl (by omega);have hc1:=(hbl.cell (p:=⟨b,off+k*2,none⟩) hbb).trans (hrow k hlt).1;have hc2:=(hbl.cell (p:=⟨b,off+k*2+1,none⟩) hbb).trans (hrow k hlt).2;have hcp:=(hbl.cell (p:=⟨p,0,none⟩) hp).trans hc;have Hst:=qh (zbp l (fun v=>eqS v.1 s) k hlt);have Hit:=qh (zhi l (fun v=>eqS v.1 s) k hlt);have hbs:=hbl.size;clear hrow hl;generalize l.getD k default=v at*;cases hq:eqS v.1 s with
   |true=>
    have Hq:=qh hq;have hcl:=zhW v p s wr hcp (by omega);rw[hq] at hcl;clear hq;go_wp2_with fail;refine hcl.mono ?_;rintro e w' ⟨rfl,hb'⟩;have hbe:=hbl.trans (hb'.mono hbs);go_wp2_with fail;go_ret;exact⟨_,rfl,by rw[show hasW l s=true from Hit.out Hq.out];simp,hbe⟩
   |false=>
    have Hq:=qh hq;have hcl:=zhW v p s wr hcp (by omega);rw[hq] at hcl;clear hq;go_wp2_with fail;refine hcl.mono ?_;rintro e w' ⟨rfl,hb'⟩;have hbe:=hbl.trans (hb'.mono hbs);go_wp2_with fail;go_roundw
    case rel=>exact⟨k+1,by omega,by go_num,by rw[Hst.out,Hn.out,Hq.out];rfl,hbe⟩
    case measure=>simp[intOf];omega
  ·obtain rfl:k=l.length:=by omega
   go_wp2_with fail;go_ret;exact⟨_,rfl,by have hx:=Hn.out;rw[List.take_length] at hx;unfold hasW;rw[hx];rfl,hbl⟩
theorem zgm (A:Option Addr) (c p:Nat) (l:List Way) (s:ByteArray) (w:World) (hl:IsWays w w.heap.size A l) (hb:l.length≤4611686018427387904) (hc:w.cell? ⟨p,0,none⟩=some (.string s)) (hp:p<w.heap.size):
  Calls Tryz.prog 131 #[.slice A l.length c,.func (.func 196) #[] #[.pointer (some ⟨p,0,none⟩)]] w fun e w'=>e=.returned (.bool (hasW l s))∧Below w.heap.size w w':=by
 go_enter Tryz.func131,Tryz.ntmps131;go_wp2_with fail;refine(zjj A c p l s w hl hb hc hp).mono ?_;rintro e w' ⟨n,rfl,hn,hb'⟩;have Hn:=qh hn;clear hn;go_wp2_with fail;go_ret;exact⟨zbB (by rw[←Hn.out]),hb'⟩
theorem has_any (A:Option Addr) (c:Nat) (l:List Way) (s:ByteArray) (w:World) (hl:IsWays w w.heap.size A l) (hb:l.length≤4611686018427387904):
  Calls Tryz.prog 174 #[.slice A l.length c,.string s] w fun e w'=>e=.returned (.bool (hasW l s))∧Below w.heap.size w w':=by
 go_enter Tryz.func174,Tryz.ntmps174;go_wp2_with fail;have hB:Below w.heap.size w (w.alloc (.cells #[.string s] 9)):=(qb _ w).alloc (ql _) _;refine(zgm A c w.heap.size l s _ ((hl.below hB).more hB.size) hb (by simp) (by simp)).mono ?_;rintro e w' ⟨rfl,hb'⟩;have hbe:=hB.trans (hb'.mono hB.size);go_wp2_with fail;go_ret;exact⟨rfl,hbe⟩
structure Ft where
 own:ByteArray
 ways:List Way
instance:Inhabited Ft:=⟨⟨⟨#[]⟩,[]⟩⟩
def FtAt (w:World) (B b o:Nat) (f:Ft):Prop:=w.cell? ⟨b,o,none⟩=some (.string f.own)∧∃A c,w.cell? ⟨b,o+1,none⟩=some (.slice A f.ways.length c)∧f.ways.length≤c∧IsWays w B A f.ways
def zli (w:World) (B:Nat) (A:Option Addr) (fs:List Ft):Prop:=
 0<fs.length→∃b off,A=some ⟨b,off,none⟩∧b<B∧∀k,k<fs.length→FtAt w B b (off+k*2) (fs.getD k default)
def zb6 (sg:ByteArray) (all:Bool) (f:Ft):Bool:=!(all&&eqS f.own sg)&&(eqS f.own sg||hasW f.ways sg)
def zdm (sg:ByteArray) (all:Bool) (f:Ft):Bool:=!(all&&eqS f.own sg)&&decide (f.ways.length=15)
def zcl (fs:List Ft) (sg:ByteArray) (all:Bool):Int:=if fs.any (zb6 sg all) then 132 else if fs.any (zdm sg all) then 3 else 0
def zmb (b:Bool):Int:=if b then 3 else 0
set_option maxRecDepth 100000 in
set_option maxHeartbeats 8000000 in
theorem zkB (A:Option Addr) (c:Nat) (fs:List Ft) (sg:ByteArray) (all:Bool) (w:World) (hl:zli w w.heap.size A fs) (hb:fs.length≤16) (hw:∀f∈fs,f.ways.length≤15):
  Calls Tryz.prog 172 #[.slice A fs.length c,.string sg,.bool all] w fun e w'=>e=.returned (.int .i64 (zcl fs sg all))∧Below w.heap.size w w':=by
 go_enter Tryz.func172,Tryz.ntmps172;go_wp2_with fail;go_loopw [7,12] (fun e i wr=>∃k:Nat,k≤fs.length∧i=.int .i64 k∧e=.int .i64 (zmb ((fs.take k).any (zdm sg all)))∧(fs.take k).any (zb6 sg all)=false∧Below w.heap.size w wr) (fun _ i _=>fs.length-(intOf i).toNat)
 case atStart=>exact⟨0,by omega,rfl,rfl,rfl,qb _ _⟩
 case round=>
  rename_i wr;obtain⟨k,hk,rfl,rfl,hn,hbl⟩:=hrel;by_cases hlt:k<fs.length
  ·obtain⟨b,off,rfl,hbb,hrow⟩:=hl (by omega);obtain⟨h1,A',c',h2,h3,h4⟩:=hrow k hlt;have hc1:=(hbl.cell (p:=⟨b,off+k*2,none⟩) hbb).trans h1;have hc2:=(hbl.cell (p:=⟨b,off+k*2+1,none⟩) hbb).trans h2;have h4':=h4.below hbl;have hn1:=zbp fs (zb6 sg all) k hlt;have hn2:=zbp fs (zdm sg all) k hlt;have hit:=zhi fs (zb6 sg all) k hlt;have hw15:(fs.getD k default).ways.length≤15:=by
    rw[List.getD_eq_getElem?_getD,List.getElem?_eq_getElem hlt];exact hw _ (qM hlt)
   rw[hn] at hn1;have hbs:=hbl.size;clear hrow hl h1 h2 h4 hn;generalize fs.getD k default=f at*;obtain⟨own,ways⟩:=f;simp only[zb6,zdm] at hn1 hn2 hit;simp only[] at hc1 hc2 h3 h4' hw15;generalize (fs.take k).any (zdm sg all)=e0 at hn2;have hwb:Below w.heap.size w (wr.alloc (.cells #[.string own,.slice A' ways.length c'] 81)):=hbl.alloc hbs _;cases hq:eqS own sg with
   |true=>
    rw[hq] at hn1 hn2 hit;have hq':=hq;unfold eqS at hq';cases all with
    |true=>
     have Hn1:=qh hn1;have Hn2:=qh hn2;clear hn1 hn2 hit hq;go_wp2_with fail;go_roundw
     case rel=>exact⟨k+1,by omega,by go_num,by rw[Hn2.out];simp,by rw[Hn1.out];rfl,hwb⟩
     case measure=>simp[intOf];omega
    |false=>
     have Hit:=qh hit;clear hn1 hn2 hit hq;go_wp2_with fail;go_ret;exact⟨by unfold zcl;rw[show fs.any (zb6 sg false)=true from Hit.out rfl];rfl,hwb⟩
   |false=>
    rw[hq] at hn1 hn2 hit;have hq':=hq;unfold eqS at hq';simp only[Bool.and_false,Bool.not_false,Bool.true_and,Bool.false_or] at hn1 hn2 hit;have hha:=has_any A' c' ways sg (wr.alloc (.cells #[.string own,.slice A' ways.length c'] 81)) ((h4'.below ((qb _ wr).alloc (by omega) _)).more (by simp;omega)) (by omega);have Hcx:=qh fun(w':World) (hb':Below (wr.alloc (.cells #[.string own,.slice A' ways.length c'] 81)).heap.size (wr.alloc (.cells #[.string own,.slice A' ways.length c'] 81)) w')=>(hb'.cell (p:=⟨wr.heap.size,1,none⟩) (by simp)).trans (show(wr.alloc (.cells #[.string own,.slice A' ways.length c'] 81)).cell? ⟨wr.heap.size,1,none⟩=some (.slice A' ways.length c') by simp);cases hh:hasW ways sg with
    |true=>
     rw[hh] at hha;have Hit:=qh (hit hh);clear hn1 hn2 hit hq hh;cases all<;>
     ·go_wp2_with fail;refine hha.mono ?_;rintro e w' ⟨rfl,hb'⟩;have hbe:=hwb.trans (hb'.mono hwb.size);go_wp2_with fail;go_ret;exact⟨by unfold zcl;rw[Hit.out];rfl,hbe⟩
    |false=>
     rw[hh] at hha hn1;have Hn1:=qh hn1;clear hn1 hit hq hh;cases h15:decide (ways.length=15) with
     |true=>
      rw[h15] at hn2;have Hn2:=qh hn2;have h15':((ways.length:Int)==15)=true:=(by have:=of_decide_eq_true h15;simp;omega);clear hn2 h15;cases all<;>
      ·go_wp2_with fail;refine hha.mono ?_;rintro e w' ⟨rfl,hb'⟩;have hbe:=hwb.trans (hb'.mono hwb.size);have hcx:=Hcx.out _ hb';go_wp2_with fail;go_roundw
       case rel=>exact⟨k+1,by omega,by go_num,by rw[Hn2.out];simp[zmb],by rw[Hn1.out],hbe⟩
       case measure=>simp[intOf];omega
     |false=>
      rw[h15] at hn2;have Hn2:=qh hn2;have h15':((ways.length:Int)==15)=false:=(by have:=of_decide_eq_false h15;simp;omega);clear hn2 h15;cases all<;>
      ·go_wp2_with fail;refine hha.mono ?_;rintro e w' ⟨rfl,hb'⟩;have hbe:=hwb.trans (hb'.mono hwb.size);have hcx:=Hcx.out _ hb';go_wp2_with fail;go_roundw
       case rel=>exact⟨k+1,by omega,by go_num,by rw[Hn2.out];simp,by rw[Hn1.out],hbe⟩
       case measure=>simp[intOf];omega
  ·obtain rfl:k=fs.length:=by omega
   have Hn:=qh hn;clear hn;go_wp2_with fail;go_ret;refine⟨?_,hbl⟩;have hx:=Hn.out;rw[List.take_length] at hx;unfold zcl;rw[List.take_length,hx];rfl
end Go.Proofs.YtgklikkddckgbaaGreatDoor
namespace Go.Proofs.YtgklikkddckgbaaGreatDoor
abbrev Tok:=Nat×ByteArray
def zkC:Tok:=(0,⟨#[]⟩)
def toks (s:ByteArray) (p:Nat):List Tok:=
 if h:zaz s p<s.size∧p≤s.size then(zaz s p,s.extract (zaz s p) (zbb s (zaz s p)))::toks s (zbb s (zaz s p)) else [(s.size,⟨#[]⟩)]
termination_by s.size-p
decreasing_by have:=zch (s:=s) p h.2;have:=zed (s:=s) (zaz s p) h.1;have:=zcU (s:=s) (zaz s p) (by omega);omega
def hd (L:List Tok):Tok:=L.headD zkC
def adv (L:List Tok):List Tok:=match L with|[]=>[]|[x]=>[x]|_::l=>l
theorem zc8 {s:ByteArray} {p:Nat} (h:zaz s p<s.size) (hp:p≤s.size):toks s p=(zaz s p,s.extract (zaz s p) (zbb s (zaz s p)))::toks s (zbb s (zaz s p)):=by
 rw[toks,dif_pos ⟨h,hp⟩]
theorem zcm {s:ByteArray} {p:Nat} (h:¬zaz s p<s.size):toks s p=[(s.size,⟨#[]⟩)]:=by
 rw[toks,dif_neg (by omega)]
theorem zbV (s:ByteArray) (p:Nat):0<(toks s p).length:=by
 rw[toks];split<;>simp
theorem zcD {s:ByteArray} {a e:Nat} (h:e≤s.size):(s.extract a e).size=e-a:=by simp;omega
theorem zhj (s:ByteArray) (a:Nat):s.extract a a=⟨#[]⟩:=by
 apply ByteArray.ext;simp[ByteArray.data_extract]
theorem zfD {s:ByteArray} {p:Nat} (hp:p≤s.size):hd (toks s p)=(zaz s p,s.extract (zaz s p) (zbb s (zaz s p))):=by
 have hs:=zch (s:=s) p hp;by_cases h:zaz s p<s.size
 ·rw[zc8 h hp];rfl
 ·have e:zaz s p=s.size:=by omega
  rw[zcm h,e,zcC (by omega),zhj];rfl
theorem zef {s:ByteArray} {p:Nat} (hp:p≤s.size):(hd (toks s p)).1+(hd (toks s p)).2.size≤s.size∧toks s ((hd (toks s p)).1+(hd (toks s p)).2.size)=adv (toks s p):=by
 have hs:=zch (s:=s) p hp;have ht:=zcU (s:=s) (zaz s p) hs.2;rw[zfD hp];simp only[];rw[zcD ht.2];by_cases h:zaz s p<s.size
 ·have e:zaz s p+(zbb s (zaz s p)-zaz s p)=zbb s (zaz s p):=by omega
  rw[e,zc8 h hp];refine⟨ht.2,?_⟩;have:=zbV s (zbb s (zaz s p));cases hq:toks s (zbb s (zaz s p)) with
  |nil=>rw[hq] at this;simp at this
  |cons x l=>rfl
 ·have e:zaz s p=s.size:=by omega
  rw[e,zcC (by omega),zcm h];refine⟨by omega,?_⟩;rw[zcm (by have:=zch (s:=s) (s.size+(s.size-s.size)) (by omega);omega)];rfl
theorem zlB (s:ByteArray) {p:Nat} (hp:p≤s.size):(hd (toks s p)).2.size≤s.size:=by have:=(zef hp).1;omega
theorem zaW (L:List Tok):(adv L).length≤L.length:=by
 unfold adv;split<;>simp
theorem zlC {L:List Tok} (h:0<L.length):0<(adv L).length:=by
 match L with
 |[]=>simp at h
 |[x]=>simp[adv]
 |_::y::l=>simp[adv]
theorem zjk {s:ByteArray} {p:Nat} (h:(hd (toks s p)).2≠⟨#[]⟩):(adv (toks s p)).length<(toks s p).length:=by
 by_cases h1:zaz s p<s.size∧p≤s.size
 ·rw[zc8 h1.1 h1.2];have:=zbV s (zbb s (zaz s p));cases hq:toks s (zbb s (zaz s p)) with
  |nil=>rw[hq] at this;simp at this
  |cons x l=>simp[adv]
 ·exfalso;apply h;rw[toks,dif_neg h1];rfl
structure Met where
 feet:List Ft
 ends:List Way
 brks:List (Int×Int)
def Met.zero:Met:=⟨[],[],[]⟩
abbrev Res:=Except (Int×Nat) (List Tok×Met)
def numE (t:ByteArray) (lo hi:Int):Int×Int:=match numB t with|none=>(0,130)|some n=>if n<lo∨n>hi then(0,2) else(n,0)
def COMMA:ByteArray:=⟨#[44]⟩
def SEMI:ByteArray:=⟨#[59]⟩
def zcn (own:ByteArray):Ft:=⟨own,[]⟩
def zaE (n:Int) (at0:Nat) (L:List Tok) (m:Met):Res:=
 if(zaH (hd L).2).2=0 then
  if(m.feet.length:Int)+n≤16 then .ok (adv L,{m with feet:=m.feet++List.replicate n.toNat (zcn (zaH (hd L).2).1)}) else .error (3,at0)
 else .error ((zaH (hd L).2).2,(hd L).1)
def zbv (L:List Tok) (m:Met):Res:=
 if figB (hd L).2 then
  if(numE (hd L).2 1 16).2=0 then zaE (numE (hd L).2 1 16).1 (hd L).1 (adv L) m else .error ((numE (hd L).2 1 16).2,(hd L).1)
 else zaE 1 (hd L).1 L m
def layF (sg:ByteArray) (c:Int) (all:Bool) (f:Ft):Ft:=if !all||!(eqS f.own sg) then{f with ways:=f.ways++[(sg,c)]} else f
def layR (fs:List Ft) (i n:Nat) (sg:ByteArray) (c:Int) (all:Bool):List Ft:=fs.take i++((fs.drop i).take n).map (layF sg c all)++fs.drop (i+n)
def zbm:Nat→List Tok→Met→Nat→Nat→Bool→Res
 |0,L,m,i,n,all=>.error (130,0)
 |f+1,L,m,i,n,all=>
  if(zaH (hd L).2).2=0 then
   if zcl ((m.feet.drop i).take n) (zaH (hd L).2).1 all=0 then
    if(numE (hd (adv L)).2 0 1048576).2=0 then
     if eqS (hd (adv (adv L))).2 COMMA then zbm f (adv (adv (adv L))) {m with feet:=layR m.feet i n (zaH (hd L).2).1 (numE (hd (adv L)).2 0 1048576).1 all} i n all
     else .ok (adv (adv L),{m with feet:=layR m.feet i n (zaH (hd L).2).1 (numE (hd (adv L)).2 0 1048576).1 all})
    else .error ((numE (hd (adv L)).2 0 1048576).2,(hd (adv L)).1)
   else .error (zcl ((m.feet.drop i).take n) (zaH (hd L).2).1 all,(hd L).1)
  else .error ((zaH (hd L).2).2,(hd L).1)
def zbq:Nat→List Tok→Met→Res
 |0,L,m=>.error (130,0)
 |f+1,L,m=>
  if zaJ (hd L).2 1 2 then
   if hasW m.ends (hd L).2 then .error (132,(hd L).1)
   else if m.ends.length=4 then .error (3,(hd L).1)
   else if(numE (hd (adv L)).2 0 1048576).2=0 then
    if eqS (hd (adv (adv L))).2 COMMA then zbq f (adv (adv (adv L))) {m with ends:=m.ends++[((hd L).2,(numE (hd (adv L)).2 0 1048576).1)]}
    else .ok (adv (adv L),{m with ends:=m.ends++[((hd L).2,(numE (hd (adv L)).2 0 1048576).1)]})
   else .error ((numE (hd (adv L)).2 0 1048576).2,(hd (adv L)).1)
  else .error (130,(hd L).1)
def zag (m:Met):Int:=match m.brks.getLast? with|none=>0|some b=>b.1
def zbN (L:List Tok) (m:Met):Res:=
 if(numE (hd L).2 (zag m+1) (m.feet.length-1)).2=0 then
  if(numE (hd (adv L)).2 1 1048576).2=0 then .ok (adv (adv L),{m with brks:=m.brks++[((numE (hd L).2 (zag m+1) (m.feet.length-1)).1,(numE (hd (adv L)).2 1 1048576).1)]})
  else .error ((numE (hd (adv L)).2 1 1048576).2,(hd (adv L)).1)
 else .error ((numE (hd L).2 (zag m+1) (m.feet.length-1)).2,(hd L).1)
def ANY:ByteArray:=⟨#[97,110,121]⟩
def END:ByteArray:=⟨#[101,110,100]⟩
def BREAK:ByteArray:=⟨#[98,114,101,97,107]⟩
def zas (L:List Tok) (m:Met):Res:=
 if eqS (hd L).2 ANY then zbm (adv L).length (adv L) m 0 m.feet.length true
 else if eqS (hd L).2 END then zbq (adv L).length (adv L) m
 else if eqS (hd L).2 BREAK then zbN (adv L) m
 else if figB (hd L).2 then
  if(numE (hd L).2 1 m.feet.length).2=0 then zbm (adv L).length (adv L) m ((numE (hd L).2 1 m.feet.length).1.toNat-1) 1 false
  else .error ((numE (hd L).2 1 m.feet.length).2,(hd L).1)
 else .error (130,(hd L).1)
def zax:Nat→List Tok→Met→Except (Int×Nat) Met
 |0,L,m=>.error (130,0)
 |f+1,L,m=>
  if(hd L).2.size=0 then .ok m
  else if eqS (hd L).2 SEMI then
   match zas (adv L) m with
   |.ok (L',m')=>zax f L' m'
   |.error x=>.error x
  else .error (130,(hd L).1)
def zaS:Nat→List Tok→Met→Except (Int×Nat) Met
 |0,L,m=>.error (130,0)
 |f+1,L,m=>
  match zbv L m with
  |.error x=>.error x
  |.ok (L',m')=>if eqS (hd L').2 COMMA then zaS f (adv L') m' else zax L'.length L' m'
def zbd (s:ByteArray):Except (Int×Nat) Met:=if s.size>65536 then .error (3,65536) else zaS (toks s 0).length (toks s 0) Met.zero
end Go.Proofs.YtgklikkddckgbaaGreatDoor
namespace Go.Proofs.YtgklikkddckgbaaGreatDoor
end Go.Proofs.YtgklikkddckgbaaGreatDoor
namespace Go.Proofs.YtgklikkddckgbaaGreatDoor.Mo
open Go.RowKit
def isB (s:ByteArray) (i:Nat) (c:Int):Bool:=if h:i<s.size then((s[i].toNat:Int)==c) else false
theorem zaA {s:ByteArray} {i:Nat} {c:Int} (h:i<s.size):isB s i c=((s[i].toNat:Int)==c):=by unfold isB;rw[dif_pos h]
theorem zcE {s:ByteArray} {i:Nat} {c:Int} (h:¬i<s.size):isB s i c=false:=by unfold isB;rw[dif_neg h]
theorem zbr {s:ByteArray} {i:Nat} {c:Int} (h:isB s i c=true):i<s.size:=by
 by_cases hi:i<s.size
 ·exact hi
 ·rw[zcE hi] at h;cases h
def endB (s:ByteArray) (i:Nat):Bool:=if h:i<s.size then((s[i].toNat:Int)==10) else true
theorem zeu {s:ByteArray} {i:Nat} (h:i<s.size):endB s i=((s[i].toNat:Int)==10):=by unfold endB;rw[dif_pos h]
theorem zco {s:ByteArray} {i:Nat} (h:¬i<s.size):endB s i=true:=by unfold endB;rw[dif_neg h]
def inB (s:ByteArray) (i:Nat) (a b:Int):Bool:=if h:i<s.size then(decide (a≤(s[i].toNat:Int))&&decide ((s[i].toNat:Int)≤b)) else false
theorem zbw {s:ByteArray} {i:Nat} {a b:Int} (h:i<s.size):inB s i a b=(decide (a≤(s[i].toNat:Int))&&decide ((s[i].toNat:Int)≤b)):=by unfold inB;rw[dif_pos h]
theorem zcF {s:ByteArray} {i:Nat} {a b:Int} (h:¬i<s.size):inB s i a b=false:=by unfold inB;rw[dif_neg h]
theorem zb7 {s:ByteArray} {i:Nat} {a b:Int} (h:inB s i a b=true):i<s.size:=by
 by_cases hi:i<s.size
 ·exact hi
 ·rw[zcF hi] at h;cases h
def zal (s:ByteArray):List Int→Nat→Except Nat Nat
 |[],i=>.ok i
 |c::t,i=>if isB s i c then zal s t (i+1) else .error i
def zap (s:ByteArray) (i:Nat):Nat:=if h:i<s.size then if((s[i].toNat:Int)==10) then i else zap s (i+1) else i
termination_by s.size-i
theorem zb8 {s:ByteArray} {i:Nat} (h:endB s i=true):zap s i=i:=by
 unfold zap;by_cases hi:i<s.size
 ·rw[zeu hi] at h;rw[dif_pos hi,if_pos h]
 ·rw[dif_neg hi]
theorem zfE {s:ByteArray} {i:Nat} (h:endB s i=false):zap s i=zap s (i+1):=by
 by_cases hi:i<s.size
 ·rw[zeu hi] at h;conv=>lhs;unfold zap
  rw[dif_pos hi,if_neg (by rw[h];simp)]
 ·rw[zco hi] at h;cases h
theorem zbs {s:ByteArray} (i:Nat) (hi:i≤s.size):i≤zap s i∧zap s i≤s.size:=by
 induction h:s.size-i generalizing i with
 |zero=>rw[zb8 (zco (by omega))];omega
 |succ n ih=>
  cases he:endB s i with
  |true=>rw[zb8 he];omega
  |false=>rw[zfE he];have:=ih (i+1) (by omega) (by omega);omega
def digB (s:ByteArray) (a i:Nat):Bool:=inB s i 48 57&&(decide (i=a)||!isB s a 48)
def numE (s:ByteArray) (a i:Nat):Nat:=if h:i<s.size then if digB s a i then numE s a (i+1) else i else i
termination_by s.size-i
theorem zbZ {s:ByteArray} {a i:Nat} (h:digB s a i=true):numE s a i=numE s a (i+1):=by
 have hi:i<s.size:=by
  unfold digB at h;rw[Bool.and_eq_true] at h;exact zb7 h.1
 conv=>lhs;unfold numE
 rw[dif_pos hi,if_pos h]
theorem zaZ {s:ByteArray} {a i:Nat} (h:digB s a i=false):numE s a i=i:=by
 unfold numE;split
 ·rw[if_neg (by rw[h];simp)]
 ·rfl
theorem za2 {s:ByteArray} (a i:Nat) (hi:i≤s.size):i≤numE s a i∧numE s a i≤s.size:=by
 induction h:s.size-i generalizing i with
 |zero=>
  have:digB s a i=false:=by unfold digB;rw[zcF (by omega)];rfl
  rw[zaZ this];omega
 |succ n ih=>
  cases he:digB s a i with
  |false=>rw[zaZ he];omega
  |true=>rw[zbZ he];have:=ih (i+1) (by omega) (by omega);omega
def valD (l:List UInt8):Nat:=l.foldl (fun n c=>10*n+(c.toNat-48)) 0
def cutB (s:ByteArray) (a b:Nat):List UInt8:=(s.data.toList.drop a).take (b-a)
def numP (s:ByteArray) (least:Int) (i:Nat):Except (Int×Nat) (Int×Nat):=
 if numE s i i=i then .error (180,i)
 else if((valD (cutB s i (numE s i i)):Int)<least∨512<(valD (cutB s i (numE s i i)):Int)) then .error (2,i)
 else .ok ((valD (cutB s i (numE s i i)):Int),numE s i i)
structure Mk where
 sign:Int
 n:Int
 at_:Nat
structure It where
 cls:Int
 ref:Int
 marks:List Mk
 at_:Nat
def LETT:List UInt8:=[97,98,99,100,101,102,103,104,105,106,107,108,109,110,111,112,113,114,115,116,117,118,119,121,122]
def clsN (c:UInt8):Int:=Lib.indexByte LETT c
def zaa (s:ByteArray) (i:Nat):UInt8:=if h:i<s.size then s[i] else 0
def zav (s:ByteArray) (i:Nat):Except (Int×Nat) (Int×Int×Nat):=
 if isB s i 120 then .ok (-1,0,i+1)
 else if¬i<s.size then .error (180,i)
 else if 0≤clsN (zaa s i) then .ok (clsN (zaa s i),0,i+1)
 else if¬inB s i 65 90∨clsN (zaa s i|||32)<0 then .error (180,i)
 else if¬inB s (i+1) 49 57 then .error (180,i+1)
 else .ok (clsN (zaa s i|||32),(zaa s (i+1)).toNat-48,i+2)
def zaC (l:List Mk) (sign:Int):Nat:=l.countP fun m=>m.sign==sign
def SIGNS:List UInt8:=[58,47,94,64,126,39]
def zd9 (c:UInt8):Bool:=decide (0≤Lib.indexByte SIGNS c)
def za0 (s:ByteArray) (letters:List UInt8) (ms:List Mk) (i:Nat):Except (Int×Nat) (Mk×Nat):=
 if(if isB s i 126 then 4 else 1)≤zaC ms (zaa s i).toNat then .error (180,i)
 else if isB s i 58||isB s i 39 then
  (if¬inB s (i+1) 97 122 then .error (180,i+1)
  else if isB s i 58&&decide (Lib.indexByte letters (zaa s (i+1))<0) then .error (181,i+1)
  else .ok (⟨(zaa s i).toNat,(zaa s (i+1)).toNat,i⟩,i+2))
 else match numP s 1 (i+1) with
  |.error e=>.error e
  |.ok (v,e)=>if isB s i 126&&ms.any (fun m=>m.sign==126&&m.n==v) then .error (2,i+1) else .ok (⟨(zaa s i).toNat,v,i⟩,e)
def zaB (s:ByteArray) (letters:List UInt8):Nat→List Mk→Nat→Except (Int×Nat) (List Mk×Nat)
 |0,ms,i=>.ok (ms,i)
 |f+1,ms,i=>if i<s.size∧zd9 (zaa s i) then
  (match za0 s letters ms i with
  |.error e=>.error e
  |.ok (m,j)=>zaB s letters f (ms++[m]) j)
  else .ok (ms,i)
def zb0 (m:Mk):Bool:=m.sign==94||m.sign==64||m.sign==126
def zbC (s:ByteArray) (letters:List UInt8) (line:Int) (i:Nat):Except (Int×Nat) (It×Nat):=
 match zav s i with
 |.error e=>.error e
 |.ok (cls,ref,j)=>match zaB s letters (s.size+1) [] j with
  |.error e=>.error e
  |.ok (ms,k)=>if¬endB s k∧¬isB s k 32 then .error (180,k)
   else match(if 0≤line then ms.find? (fun m=>zb0 m&&decide (line<m.n)) else none) with
    |some m=>.error (182,m.at_)
    |none=>.ok (⟨cls,ref,ms,i⟩,k)
structure Rw where
 round:Bool
 items:List It
structure Fm where
 name:List UInt8
 letters:List UInt8
 metres:List Met
 rows:List Rw
 rounds:Bool
 least:Int
 most:Int
 shift:Int
def Fm.zero:Fm:=⟨[],[],[],[],false,0,0,0⟩
def ziH (n:Int) (k:Int) (r:Rw):Int:=if r.round then k+n*r.items.length else k+r.items.length
def za6 (rows:List Rw) (n:Int):Int:=rows.foldl (ziH n) 0
def zbi (f:Fm) (round:Bool) (n:Nat):Int:=if round&&f.most==0 then-1 else za6 f.rows f.least+n
def za1 (s:ByteArray) (f:Fm) (round:Bool):Nat→List It→Nat→Except (Int×Nat) (List It×Nat)
 |0,l,i=>.ok (l,i)
 |q+1,l,i=>if isB s i 32 then
  (match zbC s f.letters (zbi f round l.length) (i+1) with
  |.error e=>.error e
  |.ok (x,j)=>za1 s f round q (l++[x]) j)
  else .ok (l,i)
def upP (f:Fm) (round:Bool):Int:=if round then(f.most-1)*f.shift else if f.rounds then f.most*f.shift else 0
def zaF (s:ByteArray) (f:Fm) (round:Bool) (start i:Nat):Except (Int×Nat) (Fm×Nat):=
 if¬isB s i 32 then .error (180,i)
 else match za1 s f round (s.size+1) [] i with
  |.error e=>.error e
  |.ok (l,j)=>
   if 512<za6 (f.rows++[⟨round,l⟩]) f.most then .error (3,start)
   else match l.find? (fun x=>decide (0≤x.cls)&&decide (25≤x.cls+upP f round)&&!(round&&f.most==0)) with
    |some x=>.error (5,x.at_)
    |none=>.ok ({f with rows:=f.rows++[⟨round,l⟩]},j)
def zao (r:Except Nat Nat):Except (Int×Nat) Nat:=match r with
 |.error i=>.error (180,i)
 |.ok j=>.ok j
def ROUND:List Int:=[114,111,117,110,100,32]
def METRE:List Int:=[109,101,116,114,101,32]
def FORM:List Int:=[102,111,114,109,32]
def STANZA:List Int:=[115,116,97,110,122,97]
def zbF (s:ByteArray) (f:Fm) (i:Nat):Except (Int×Nat) (Fm×Nat):=
 if f.rounds then .error (180,i)
 else match zao (zal s ROUND i) with
 |.error e=>.error e
 |.ok a=>match numP s 0 a with
  |.error e=>.error e
  |.ok (least,b)=>match zao (zal s [32] b) with
   |.error e=>.error e
   |.ok c=>match numP s 0 c with
    |.error e=>.error e
    |.ok (most,d)=>if most<least then .error (2,c)
     else match zao (zal s [32] d) with
     |.error e=>.error e
     |.ok g=>match numP s 0 g with
      |.error e=>.error e
      |.ok (shift,h)=>match zaF s {f with least:=least,most:=most,shift:=shift} true i h with
       |.error e=>.error e
       |.ok (f',j)=>.ok ({f' with rounds:=true},j)
def zb9 (s:ByteArray) (f:Fm) (i:Nat):Except (Int×Nat) (Fm×Nat):=
 match zao (zal s METRE i) with
 |.error e=>.error e
 |.ok a=>if¬inB s a 97 122 then .error (180,a)
  else if 0≤Lib.indexByte f.letters (zaa s a) then .error (181,a)
  else match zao (zal s [32] (a+1)) with
   |.error e=>.error e
   |.ok b=>match zbd ⟨(cutB s b (zap s b)).toArray⟩ with
    |.error (e,p)=>.error (e,b+p)
    |.ok m=>.ok ({f with letters:=f.letters++[zaa s a],metres:=f.metres++[m]},zap s b)
def za3 (s:ByteArray) (f:Fm) (titled:Bool) (i:Nat):Except (Int×Nat) (Fm×Nat):=
 if¬titled then
  (match zao (zal s FORM i) with
  |.error e=>.error e
  |.ok a=>if endB s a then .error (180,a) else .ok ({f with name:=cutB s a (zap s a)},zap s a))
 else if isB s i 109&&f.rows.isEmpty then zb9 s f i
 else if isB s i 114 then zbF s f i
 else match zao (zal s STANZA i) with
  |.error e=>.error e
  |.ok a=>zaF s f false i a
def za4 (s:ByteArray) (i:Nat):Nat:=if i<s.size then i+1 else i
def zaK (s:ByteArray):Nat→Fm→Bool→Nat→Except (Int×Nat) Fm
 |0,f,t,i=>.ok f
 |q+1,f,t,i=>
  if¬i<s.size then(if f.rows.isEmpty then .error (180,s.size) else .ok f)
  else if isB s i 10 then zaK s q f t (za4 s i)
  else if isB s i 35 then zaK s q f t (za4 s (zap s i))
  else match za3 s f t i with
   |.error e=>.error e
   |.ok (f',j)=>zaK s q f' true (za4 s j)
def zbO (s:ByteArray):Except (Int×Nat) Fm:=if 65536<s.size then .error (3,65536) else zaK s (s.size+1) Fm.zero false 0
structure Off (L:List Nat) (w w':World):Prop where
 os:w'.os=w.os
 tape:w'.tape=w.tape
 output:w'.output=w.output
 size:w.heap.size≤w'.heap.size
 block:∀k,k<w.heap.size→k∉L→w'.heap[k]?=w.heap[k]?
theorem Off.refl (L:List Nat) (w:World):Off L w w:=⟨rfl,rfl,rfl,ql _,fun _ _ _=>rfl⟩
theorem Off.trans {L:List Nat} {w w' w2:World} (h:Off L w w') (h':Off L w' w2):Off L w w2:=
 ⟨h'.os.trans h.os,h'.tape.trans h.tape,h'.output.trans h.output,qm h.size h'.size,fun k hk hn=>(h'.block k (Nat.lt_of_lt_of_le hk h.size) hn).trans (h.block k hk hn)⟩
theorem Off.mono {L L':List Nat} {w w':World} (h:Off L w w') (hl:∀k,k∈L→k∈L'∨w.heap.size≤k):Off L' w w':=
 ⟨h.os,h.tape,h.output,h.size,fun k hk hn=>h.block k hk fun hm=>(hl k hm).elim hn (fun h=>by omega)⟩
theorem Off.of_below {B:Nat} {w w':World} (h:Below B w w') (hB:w.heap.size≤B) (L:List Nat):Off L w w':=⟨h.os,h.tape,h.output,h.size,fun k hk _=>h.block k (by omega)⟩
theorem Off.below {L:List Nat} {w w':World} {B:Nat} (h:Off L w w') (hB:B≤w.heap.size) (hl:∀k,k∈L→B≤k):Below B w w':=
 ⟨h.os,h.tape,h.output,h.size,fun k hk=>h.block k (by omega) fun hm=>by have:=hl k hm;omega⟩
theorem Off.drew (L:List Nat) (w:World):Off L w w.drew:=⟨rfl,rfl,rfl,ql _,fun _ _ _=>rfl⟩
theorem Off.drewN (L:List Nat) (w:World) (n:Nat):Off L w (w.drewN n):=⟨rfl,rfl,rfl,ql _,fun _ _ _=>rfl⟩
theorem Off.alloc (L:List Nat) (w:World) (o:Obj):Off L w (w.alloc o):=Off.of_below ((qb w.heap.size w).alloc (ql _) o) (ql _) L
theorem Off.grown {L:List Nat} {w w':World} {r:Option Nat} (h:w.grownBy w' r) (hr:∀k,r=some k→k∈L):Off L w w':=
 ⟨h.os,h.tape,h.output,h.size,fun k hk hn=>h.block k hk fun e=>hn (hr k e.symm)⟩
theorem Off.setCell (w:World) (b o:Nat) (v:Value):Off [b] w (w.setCell ⟨b,o,none⟩ v):=
 ⟨rfl,rfl,rfl,by simp,fun k _ hn=>qT _ _ _ _ (by show k≠b;exact fun e=>hn (by simp[e]))⟩
theorem Off.cell {L:List Nat} {w w':World} (h:Off L w w') {b o:Nat} (hb:b<w.heap.size) (hn:b∉L):w'.cell? ⟨b,o,none⟩=w.cell? ⟨b,o,none⟩:=qw (h.block b hb hn)
theorem Off.own {L:List Nat} {w w':World} (h:Off L w w') {B e z n:Nat} {v:Value} {xs:List Value} (ho:w.ownsRow B e z v n xs) (hn:∀k,v.ownBlock=some k→k∉L):w'.ownsRow B e z v n xs:=by
 refine⟨ho.1,ho.2.imp id ?_⟩;rintro⟨g,cap,cur,h1,h2,h3,h4⟩;exact⟨g,cap,cur,h1,h2,(h.block g (qg h3).1 (hn g (by rw[h1];rfl))).trans h3,h4⟩
def zkD (e:Int) (p:Nat):Value:=.iface 133 (.agg #[.int .i64 e,.int .i64 p])
def PanE (e:Int) (p:Nat):Ending:=.panicked [{v:=zkD e p,recovered:=false}]
theorem fail_any (e:Int) (p:Nat) (w:World):Calls Tryz.prog 112 #[.int .i64 e,.int .i64 p] w fun x w'=>x=PanE e p∧Below w.heap.size w w':=by
 go_enter Tryz.func112,Tryz.ntmps112;go_wp2_with fail;exact⟨rfl,rfl,qb _ _⟩
def rdC (s:ByteArray) (i fb:Nat):Array Value:=#[.string s,.int .i64 i,.pointer (some ⟨fb,0,none⟩)]
structure Rd (w:World) (rb fb:Nat) (s:ByteArray) (i:Nat):Prop where
 r:w.heap[rb]?=some (.cells (rdC s i fb) 137 (0,0))
 le:i≤s.size
 sz:s.size≤65536
theorem Rd.lt {w:World} {rb fb:Nat} {s:ByteArray} {i:Nat} (h:Rd w rb fb s i):rb<w.heap.size:=(qg h.r).1
theorem Rd.cells {w:World} {rb fb:Nat} {s:ByteArray} {i:Nat} (h:Rd w rb fb s i):w.cell? ⟨rb,0,none⟩=some (.string s)∧w.cell? ⟨rb,1,none⟩=some (.int .i64 i)∧w.cell? ⟨rb,2,none⟩=some (.pointer (some ⟨fb,0,none⟩))∧w.frozen? ⟨rb,1,none⟩=false:=
 ⟨qc _ _ 0 _ _ (0,0) h.r,qc _ _ 1 _ _ (0,0) h.r,qc _ _ 2 _ _ (0,0) h.r,qf _ _ 1 _ _ h.r⟩
theorem Rd.to {w:World} {rb fb:Nat} {s:ByteArray} {i:Nat} (h:Rd w rb fb s i) {j:Nat} (hj:j≤s.size):Rd (w.setCell ⟨rb,1,none⟩ (.int .i64 j)) rb fb s j:=
 ⟨qs w rb 1 (rdC s i fb) _ _ h.r,hj,h.sz⟩
theorem Rd.off {L:List Nat} {w w':World} {rb fb:Nat} {s:ByteArray} {i:Nat} (h:Rd w rb fb s i) (ho:Off L w w') (hn:rb∉L):Rd w' rb fb s i:=
 ⟨(ho.block _ h.lt hn).trans h.r,h.le,h.sz⟩
theorem Rd.drewN {w:World} {rb fb:Nat} {s:ByteArray} {i:Nat} (h:Rd w rb fb s i) (n:Nat):Rd (w.drewN n) rb fb s i:=⟨h.r,h.le,h.sz⟩
theorem Rd.below {w w':World} {rb fb:Nat} {s:ByteArray} {i:Nat} (h:Rd w rb fb s i) (hb:Below w.heap.size w w'):Rd w' rb fb s i:=
 ⟨(hb.block _ h.lt).trans h.r,h.le,h.sz⟩
def zbx (rb fb:Nat) (s:ByteArray) (w:World) (v:Value) (r:Except (Int×Nat) Nat) (e:Ending) (w':World):Prop:=
 match r with
 |.ok j=>e=.returned v∧Rd w' rb fb s j∧Off [rb] w w'
 |.error (c,p)=>e=PanE c p∧Off [rb] w w'
theorem is_q (rb fb:Nat) (s:ByteArray) (i:Nat) (c:UInt8) (w:World) (h:Rd w rb fb s i):
  Calls Tryz.prog 89 #[.pointer (some ⟨rb,0,none⟩),.int .u8 c.toNat] w fun e w'=>e=.returned (.bool (isB s i c.toNat))∧∃n,w'=w.drewN n:=by
 obtain⟨r0,r1,r2,r3⟩:=h.cells;have hsz:=h.sz;clear h;by_cases hi:i<s.size
 ·rw[zaA hi];have hd:decide ((i:Int)<(s.size:Int))=true:=qt (by omega);go_enter Tryz.func89,Tryz.ntmps89;go_wp2_with fail;go_quiet (fail)
  go_wp2_with fail;go_ret;exact⟨rfl,_,rfl⟩
 ·rw[zcE hi];have hd:decide ((i:Int)<(s.size:Int))=false:=qd (by omega);go_enter Tryz.func89,Tryz.ntmps89;go_wp2_with fail;go_quiet (fail)
  go_wp2_with fail;go_ret;exact⟨rfl,_,rfl⟩
theorem zad {B:Nat} {a w:World} (h:Below B a w) (n:Nat):Below B a (w.drewN n):=⟨h.os,h.tape,h.output,h.size,h.block⟩
theorem zdZ (rb fb:Nat) (s:ByteArray) (i:Nat) (c:UInt8) (w:World) (h:Rd w rb fb s i):
  Calls Tryz.prog 89 #[.pointer (some ⟨rb,0,none⟩),.int .u8 c.toNat] w fun e w'=>e=.returned (.bool (isB s i c.toNat))∧Below w.heap.size w w':=by
 refine(is_q rb fb s i c w h).mono ?_;rintro e w' ⟨rfl,n,rfl⟩;exact⟨rfl,zad (qb _ _) n⟩
theorem zlD (rb fb:Nat) (s:ByteArray) (i:Nat) (w:World) (h:Rd w rb fb s i):
  Calls Tryz.prog 88 #[.pointer (some ⟨rb,0,none⟩)] w fun e w'=>e=.returned (.bool (endB s i))∧∃n,w'=w.drewN n:=by
 obtain⟨r0,r1,r2,r3⟩:=h.cells;have hsz:=h.sz;have hle:=h.le;clear h;by_cases hi:i<s.size
 ·rw[zeu hi];have hne:((i:Int)==(s.size:Int))=false:=by
   have:¬((i:Int)=(s.size:Int)):=(by omega);simpa using this
  go_enter Tryz.func88,Tryz.ntmps88;go_wp2_with fail;go_quiet (fail)
  go_wp2_with fail;go_ret;exact⟨rfl,_,rfl⟩
 ·rw[zco hi];have hne:((i:Int)==(s.size:Int))=true:=by
   have:(i:Int)=(s.size:Int):=(by omega);simpa using this
  go_enter Tryz.func88,Tryz.ntmps88;go_wp2_with fail;go_quiet (fail)
  go_wp2_with fail;go_ret;exact⟨rfl,_,rfl⟩
theorem zdn (rb fb:Nat) (s:ByteArray) (i:Nat) (w:World) (h:Rd w rb fb s i):
  Calls Tryz.prog 88 #[.pointer (some ⟨rb,0,none⟩)] w fun e w'=>e=.returned (.bool (endB s i))∧Below w.heap.size w w':=by
 refine(zlD rb fb s i w h).mono ?_;rintro e w' ⟨rfl,n,rfl⟩;exact⟨rfl,zad (qb _ _) n⟩
theorem zay (rb fb:Nat) (s:ByteArray) (i:Nat) (w:World) (h:Rd w rb fb s i):
  Calls Tryz.prog 92 #[.pointer (some ⟨rb,0,none⟩)] w fun e w'=>e=PanE 180 i∧Below w.heap.size w w':=by
 obtain⟨r0,r1,r2,r3⟩:=h.cells;go_enter Tryz.func92,Tryz.ntmps92;go_wp2_with fail;refine(fail_any 180 i w).mono ?_;rintro e w' ⟨rfl,hb⟩;exact⟨rfl,rfl,hb⟩
theorem zd0 (rb fb:Nat) (s:ByteArray) (i:Nat) (w:World) (h:Rd w rb fb s i):
  Calls Tryz.prog 87 #[.pointer (some ⟨rb,0,none⟩)] w (zbx rb fb s w (.tuple #[]) (.ok (za4 s i))):=by
 obtain⟨r0,r1,r2,r3⟩:=h.cells;have hsz:=h.sz;have H:=qh h;unfold za4;by_cases hi:i<s.size
 ·rw[if_pos hi];have hw:IntKind.i64.wrap ((i:Int)+1)=(i:Int)+1:=qi _ (by omega);have hd:decide ((i:Int)<(s.size:Int))=true:=qt (by omega);clear h;go_enter Tryz.func87,Tryz.ntmps87;go_wp2_with fail;go_quiet (fail)
  go_wp2_with fail;refine bodyPost_end (results_none rfl _ _ _) rfl ?_;exact⟨rfl,(H.out.drewN nq).to (j:=i+1) (by omega),(Off.drewN _ w nq).trans (Off.setCell (w.drewN nq) rb 1 _)⟩
 ·rw[if_neg hi];have hd:decide ((i:Int)<(s.size:Int))=false:=qd (by omega);clear h;go_enter Tryz.func87,Tryz.ntmps87;go_wp2_with fail;go_quiet (fail)
  go_wp2_with fail;refine bodyPost_end (results_none rfl _ _ _) rfl ?_;exact⟨rfl,H.out.drewN nq,Off.drewN _ w nq⟩
end Go.Proofs.YtgklikkddckgbaaGreatDoor.Mo

import Derived.Test.YtgklikkddckgbaaGreatDoorJBA
import Derived.WalkLawsBesides
import Derived.WalkSpells
import Derived.Deep.Quiet
import Derived.Lib.Hide
import Derived.RangeFuncRecord
/- Lemmas. -/
set_option linter.all false
set_option maxRecDepth 100000
set_option maxHeartbeats 8000000
namespace Go.Proofs.YtgklikkddckgbaaGreatDoor.Mo
open Go.RowKit
theorem zqm (m:Nat) (hm1:1<=m) (B fb fx rx:Nat) (f:Fm) (vl vm vs:Value) (N:Nat) (vis:List Value) (ZR:Nat->List Value) (i:Nat) (w:World) (hk:QQ f i) (hi:i<=65536) (hn1:f.least<=N) (hn2:(N:Int)<=f.most):
    SeqR Zb (JL B fb fx rx f vl vm vs N vis ZR) Fence.wide m Tryz.prog 37 #[.pointer (some ⟨fx,0,none⟩),.pointer (some ⟨rx,0,none⟩)] zo5 (ztE w.heap.size (vH f N)) (λxs=>Jv xs (vH f N)) (λpre=>pre≠[]/\∃ds,ds<+:vH f N/\Jv pre ds) (vH f N).length w:=by
  intro l J Jx W hW aJ aJx hB hY h0;have hE:=hB [] W h0;have hE2:∀pre W1,J pre W1->JL B fb fx rx f vl vm vs N vis ZR W1:=hB;have c0:=qc _ _ 0 _ _ (0,0) hE.x;have c1:=qc _ _ 0 _ _ (0,0) hE.r;have HC:=qh (zmW B fb f vl vm vs N W hE.fm);rw[qp (by omega)] at HC;obtain⟨Ar,cr,hvs⟩:=Zn hE.rw.o;subst hvs;have f3:=hE.fm.cells.2.2.2.1;have Gb:(N:Int)<=512:=by have:=hk.m0;omega
  have ztf:=qh (show f.rows.length<=65536 by have:=hk.le;omega);have Hcnt:=qh (py f.rows N (by omega) Gb)
  have ztF:=qh (show((vH f N).length:Int)<=33554432 by
    have h:=zhp f.rows N (by omega) Gb f.rows.length (ql _);rw[qR] at h;rw[gI f N (by omega)];have:=hk.le;omega)
  have HE:=qh hE;have HB:=qh hE2;have HJ:=qh h0;have HaJ:=qh aJ;have HY:=qh hY;have Hsz:=qh hW.size;have Hk:=qh hk;clear hE hE2 hB h0 aJ aJx hY hW hk;simp only[kU,zf,zj];refine callsIn_of_wp Tryz.func37 rfl trivial ?_ rfl;simp only[Tryz.ntmps37,jJ,qv,qH,Nat.reduceAdd,Nat.reduceSub,je,jf,jI,kU,zj,zf];gi_wp2;refine⟨trivial,CallsIn.mono (yh.2 HC.out) ?_⟩;rintro e w2 ⟨rfl,rfl⟩;gi_wp2;clear c0 c1 f3;gi_loopw [4,5,6,21] (λt4 t5 t6 q wr=>∃(k:Nat) (xs:List YD),k<=f.rows.length/\q=.int .i64 k/\t4=.int .i64 ((vY f (vy (f.rows.take k) N)).out.length:Int)/\t5=.int .i64 (vY f (vy (f.rows.take k) N)).Q6/\t6=.int .i64 (vY f (vy (f.rows.take k) N)).up/\Hid (Jv xs (vY f (vy (f.rows.take k) N)).out)/\Hid (J xs wr)/\Hid (W.heap.size<=wr.heap.size)) (λ_ _ _ q _=>f.rows.length-(intOf q).toNat)
  case atStart=>exact⟨0,[],qQ _,rfl,rfl,rfl,rfl,qh Jv.nil,HJ,qh (ql _)⟩
  case round=>
   rename_i wr;obtain⟨k,xs,hk',rfl,rfl,rfl,rfl,hEn,hJ,hsz⟩:=hrel;by_cases hlt:k<f.rows.length
   · have hE:=HB.out xs wr hJ.out
     obtain⟨g,rfl,k0,k1⟩:=zom hE.rw hlt;obtain⟨Ai,ci,Yf⟩:=hE.rw.it k hlt;rw[Yf] at k1;have c0:=qc _ _ 0 _ _ (0,0) hE.x;have c1:=qc _ _ 0 _ _ (0,0) hE.r;have c1':(wr.alloc (.cells #[.bool (f.rows.getD k ⟨false,[]⟩).round,.slice Ai (f.rows.getD k ⟨false,[]⟩).items.length ci] 106)).cell? ⟨rx,0,none⟩=some (.int .i64 (N:Int)):=(World.cell?_alloc_lt wr _ _ (qg hE.r).1).trans c1;have hb4:Below wr.heap.size wr (wr.alloc (.cells #[.bool (f.rows.getD k ⟨false,[]⟩).round,.slice Ai (f.rows.getD k ⟨false,[]⟩).items.length ci] 106)):=(qb _ _).alloc (ql _) _;have hs4:(wr.alloc (.cells #[.bool (f.rows.getD k ⟨false,[]⟩).round,.slice Ai (f.rows.getD k ⟨false,[]⟩).items.length ci] 106)).heap[wr.heap.size]?=some (.cells #[.bool (f.rows.getD k ⟨false,[]⟩).round,.slice Ai (f.rows.getD k ⟨false,[]⟩).items.length ci] 106 (0,0)):=qn wr _;have hJ4:=HaJ.out xs wr _ hJ.out (hb4.mono hsz.out) (ud hb4);have ztG:W.heap.size<=(wr.alloc (.cells #[.bool (f.rows.getD k ⟨false,[]⟩).round,.slice Ai (f.rows.getD k ⟨false,[]⟩).items.length ci] 106)).heap.size:=qm hsz.out hb4.size;have Hbt:=qh (gH f.rows N k hlt);obtain⟨cs0,hcs0⟩:=zo4 f.rows N (k+1);have Hcs:=qh hcs0;have hcnt:=Hcnt.out (k+1) (by omega);have Hvi:=qh Yf;have hmem:f.rows.getD k ⟨false,[]⟩∈f.rows:=(by rw[qe,qC hlt];exact qM hlt);have Vh:=qh (Hk.out.it _ hmem);have HitS:=qh λ(W2:World) (h2:JL B fb fx rx f vl vm (.slice (some ⟨g,0,none⟩) f.rows.length cr) N vis ZR W2)=>h2.its k hlt;have hsb:wr.heap.size=wr.heap.size:=rfl;generalize hr:f.rows.getD k ⟨false,[]⟩=r at*;rw[Yf] at HitS;clear hcs0 hb4 hmem Yf hE hsb;have KB:=qh hJ4;have HS4:=qh hs4;have ztH:=qh ztG;clear hJ4 hs4 ztG hJ hsz;have hS0:vY f (vy (f.rows.take k) N++List.replicate 0 r)=vY f (vy (f.rows.take k) N):=(by simp);have HS0:=qh hS0;clear hS0;have hT512:ue N r<=512:=by unfold ue;split<;>omega
     have zrn:(vy (f.rows.take k) N).length+ue N r<=33554432:=by
       have h:=hcnt;rw[Hbt.out,qk,kz] at h;have:=ztf.out;omega
     have HbT:Hid (∀t,t<=ue N r->0<=(vY f (vy (f.rows.take k) N++List.replicate t r)).Q6/\(vY f (vy (f.rows.take k) N++List.replicate t r)).Q6<=33554432/\0<=(vY f (vy (f.rows.take k) N++List.replicate t r)).up/\(vY f (vy (f.rows.take k) N++List.replicate t r)).up<=17179869184):=qh λt ht=>by
       have h1:=zqk f (vy (f.rows.take k) N++List.replicate t r);have h2:=zq6 f Hk.out.s0 (vy (f.rows.take k) N++List.replicate t r);rw[qk,kz] at h1 h2;omega
     have HpT:Hid (∀t,t<ue N r->(uu f (vY f (vy (f.rows.take k) N++List.replicate t r)) r).out<+:vH f N):=qh λt ht=>by
       have e:vy f.rows N=(vy (f.rows.take k) N++List.replicate t r++[r])++(List.replicate (ue N r-t-1) r++cs0):=by
         rw[Hcs.out,Hbt.out]
         have:List.replicate (ue N r) r=List.replicate t r++([r]++List.replicate (ue N r-t-1) r):=by
           rw[show [r]=List.replicate 1 r from rfl,List.replicate_append_replicate,List.replicate_append_replicate];congr 1
           omega
         rw[this];simp only[qF]
       unfold vH;rw[e,<-pN];exact zoj f _ _
     have HnT:Hid (∀t,vY f (vy (f.rows.take k) N++List.replicate (t+1) r)=uu f (vY f (vy (f.rows.take k) N++List.replicate t r)) r):=qh λt=>by
       rw[List.replicate_succ',<-qF,pN]
     have Jw:Hid (vY f (vy (f.rows.take k) N++List.replicate (ue N r) r)=vY f (vy (f.rows.take (k+1)) N)):=qh (by rw[Hbt.out]);clear hcnt zrn;rw[<-HS0.out] at hEn|-;generalize (vy (f.rows.take k) N)=bs at*;generalize hT:ue N r=T at*;unfold ue at hT;cases hrr:r.round
     all_goals
       rw[hrr] at hT k0 c1' HS4 KB ztH;simp only[zo,jb,ks,yy] at hT;have HT:=qh hT.symm;clear hT;gi_wp2;generalize YT:wr.alloc _=W4 at HS4 KB ztH|-;clear YT c1' k0 k1 c0 c1;generalize hsb:wr.heap.size=sb at*;gi_loopw [4,5,6,29] (λt4 t5 t6 q wr=>∃(t:Nat) (xs:List YD),t<=T/\q=.int .i64 t/\t4=.int .i64 ((vY f (bs++List.replicate t r)).out.length:Int)/\t5=.int .i64 (vY f (bs++List.replicate t r)).Q6/\t6=.int .i64 (vY f (bs++List.replicate t r)).up/\Hid (Jv xs (vY f (bs++List.replicate t r)).out)/\Hid (J xs wr)/\Hid (wr.heap[sb]?=some (.cells #[.bool r.round,.slice Ai r.items.length ci] 106 (0,0)))/\Hid (W.heap.size<=wr.heap.size)) (λ_ _ _ q _=>T-(intOf q).toNat)
       case atStart=>exact⟨0,xs,qQ _,rfl,rfl,rfl,rfl,hEn,KB,qh (by rw[hrr];exact HS4.out),ztH⟩
       case round=>
         rename World=>wr2
         obtain⟨t,xs2,ht,rfl,rfl,rfl,rfl,ztI,hJ2,hS2,hsz2⟩:=hrel;by_cases hlt2:t<T
         · first|(have hq:(t:Int)<1:=by have:=HT.out;omega)|(have hq:(t:Int)<(N:Int):=by have:=HT.out;omega)
           have hE:=HB.out xs2 wr2 hJ2.out;have b0:=qc _ _ 0 _ _ (0,0) hS2.out;have b1:=qc _ _ 1 _ _ (0,0) hS2.out;have hbd:=HbT.out t (by omega);have Hpr:=qh (HpT.out t hlt2);have KS:=qh (HnT.out t);have hln:=Hpr.out.length_le;have htot:=ztF.out;generalize hS:vY f (bs++List.replicate t r)=S at*
           have hln2:S.out.length+r.items.length<=(vH f N).length:=by
             unfold uu at hln;simpa [px] using hln
           have hln3:S.out.length+r.items.length<=33554432:=(by omega);clear hS hln htot;have Hln:=qh hln2;clear hln2;gi_wp2;gi_loopw [4,34] (λt4 q wr=>∃(j:Nat) (xs:List YD),j<=r.items.length/\q=.int .i64 j/\t4=.int .i64 ((S.out.length+j:Nat):Int)/\Hid (Jv xs (S.out++uY f.Qo S.Q6 S.up S.out.length (r.items.take j)))/\Hid (J xs wr)/\Hid (wr.heap[sb]?=some (.cells #[.bool r.round,.slice Ai r.items.length ci] 106 (0,0)))/\Hid (W.heap.size<=wr.heap.size)) (λ_ q _=>r.items.length-(intOf q).toNat)
           case atStart=>exact⟨0,xs2,qQ _,rfl,by simp,qh (by simpa [uY] using ztI.out),hJ2,hS2,hsz2⟩
           case round=>
             rename World=>wr3
             obtain⟨j,xs3,hj,rfl,rfl,zsB,hJ3,Z8,zsC⟩:=hrel;clear b0 b1 hE;by_cases hlt3:j<r.items.length
             · have hE3:=HB.out xs3 wr3 hJ3.out
               have ztJ:=HitS.out wr3 hE3;obtain⟨g2,rfl,hcell⟩:=znx ztJ hlt3;have hxm:r.items.getD j Q7∈r.items:=(by rw[qe,qC hlt3];exact qM hlt3);have VZ:=Vh.out _ hxm;have hown:=ztJ.h j hlt3;obtain⟨Ah,ch,hvh⟩:=Zn hown;rw[hvh] at hown hcell;have htk:=zpN f.Qo S.Q6 S.up S.out.length r.items j hlt3;have KT:=qh htk;clear htk hxm hvh ztJ hE3;generalize r.items.getD j Q7=x at hcell VZ hown KT;have q0:wr3.cell? ⟨g2,j*13,none⟩=some (.int .i64 x.cls):=hcell 0 (by decide);have q1:wr3.cell? ⟨g2,j*13+1,none⟩=some (.int .i64 x.ref):=hcell 1 (by decide);have q2:wr3.cell? ⟨g2,j*13+2,none⟩=some (.int .i64 (Zo f.Qo x.Qq)):=hcell 2 (by decide);have q3:wr3.cell? ⟨g2,j*13+3,none⟩=some (.int .u8 (Qy x.Qq 58)):=hcell 3 (by decide);have q4:wr3.cell? ⟨g2,j*13+4,none⟩=some (.int .i64 (Qy x.Qq 47)):=hcell 4 (by decide);have q5:wr3.cell? ⟨g2,j*13+5,none⟩=some (.int .i64 (Qy x.Qq 94)):=hcell 5 (by decide);have q6:wr3.cell? ⟨g2,j*13+6,none⟩=some (.int .i64 (Qy x.Qq 64)):=hcell 6 (by decide);have q7:wr3.cell? ⟨g2,j*13+7,none⟩=some (.slice Ah (QH x.Qq).length ch):=hcell 7 (by decide);have q8:wr3.cell? ⟨g2,j*13+8,none⟩=some (.int .i32 (Qy x.Qq 39)):=hcell 8 (by decide);have q9:wr3.cell? ⟨g2,j*13+9,none⟩=some (.int .i64 x.at_):=hcell 9 (by decide);have q10:wr3.cell? ⟨g2,j*13+10,none⟩=some (.int .i64 (Zt x.Qq)):=hcell 10 (by decide);have q11:wr3.cell? ⟨g2,j*13+11,none⟩=some (.bool (QU x.Qq 58)):=hcell 11 (by decide);have q12:wr3.cell? ⟨g2,j*13+12,none⟩=some (.bool (QU x.Qq 47)):=hcell 12 (by decide);have hb4:Below wr3.heap.size wr3 (wr3.alloc (.cells #[.int .i64 x.cls,.int .i64 x.ref,.int .i64 (Zo f.Qo x.Qq),.int .u8 (Qy x.Qq 58),.int .i64 (Qy x.Qq 47),.int .i64 (Qy x.Qq 94),.int .i64 (Qy x.Qq 64),.slice Ah (QH x.Qq).length ch,.int .i32 (Qy x.Qq 39),.int .i64 x.at_,.int .i64 (Zt x.Qq),.bool (QU x.Qq 58),.bool (QU x.Qq 47)] 108)):=(qb _ _).alloc (ql _) _;have Hdem:=qh (zo2 f.Qo x (.slice Ah (QH x.Qq).length ch) ((S.out.length+j:Nat):Int) S.Q6 S.up (wr3.alloc (.cells #[.int .i64 x.cls,.int .i64 x.ref,.int .i64 (Zo f.Qo x.Qq),.int .u8 (Qy x.Qq 58),.int .i64 (Qy x.Qq 47),.int .i64 (Qy x.Qq 94),.int .i64 (Qy x.Qq 64),.slice Ah (QH x.Qq).length ch,.int .i32 (Qy x.Qq 39),.int .i64 x.at_,.int .i64 (Zt x.Qq),.bool (QU x.Qq 58),.bool (QU x.Qq 47)] 108)) B VZ ((Off.of_below hb4 (ql _) []).own hown (by simp)) (by omega) (by omega) (by omega));unfold ZE at Hdem;have Hb4:=qh hb4;have Hx4:=qh (show(QH x.Qq).length<=4 by rw[zfL];exact VZ.four);clear hb4 hcell VZ hown;gi_wp2;refine⟨trivial,CallsIn.mono (yh.2 Hdem.out) ?_⟩;rintro e w9 ⟨QG,vh9,rfl,YM⟩;have zrI:Below wr3.heap.size wr3 w9:=Hb4.out.trans (QG.mono Hb4.out.size);have V0:=(zrI.block sb (qg Z8.out).1).trans Z8.out;have hJ9:=HaJ.out xs3 wr3 w9 hJ3.out (zrI.mono zsC.out) (ud zrI)
               have hdl:(S.out++uY f.Qo S.Q6 S.up S.out.length (r.items.take j)).length=S.out.length+j:=by
                 rw[qk,px,xu (by omega)]
               have hxl:=zsB.out.len;have hsn:=zsB.out.snoc (vC f.Qo x ((S.out.length+j:Nat):Int) S.Q6 S.up) vh9;rw[hdl] at hxl hsn;rw[qF,<-KT.out] at hsn
               have Hpf:Hid ((S.out++uY f.Qo S.Q6 S.up S.out.length (r.items.take (j+1)))<+:vH f N):=qh (by
                 refine List.IsPrefix.trans ?_ Hpr.out;show _<+:S.out++uY f.Qo S.Q6 S.up S.out.length r.items;exact(List.prefix_append_right_inj _).2 (zqj _ _ _ _ _ _))
               have hgt:(vH f N)[xs3.length]?=some (vC f.Qo x ((S.out.length+j:Nat):Int) S.Q6 S.up):=by
                 obtain⟨tl,htl⟩:=Hpf.out;have hl3:(S.out++uY f.Qo S.Q6 S.up S.out.length (r.items.take j)).length=xs3.length:=(by rw[hdl,hxl]);rw[<-htl,KT.out,<-qF,qF,<-hl3,kd (yA _)];simp
               obtain⟨fn,tmps,assign,body,hy,hR⟩:=HY.out xs3 ⟨S.out.length+j,vC f.Qo x ((S.out.length+j:Nat):Int) S.Q6 S.up,vh9⟩ w9 hJ9 (by have:=Hln.out;omega) ⟨VK YM (by have:=Hsz.out;have:=zsC.out;have:=Hb4.out.size;omega),by show((QH x.Qq).map _).length<=4;rw[kg];exact Hx4.out,by show S.out.length+j=_;omega,hgt⟩;simp only[zo5,Int.natCast_add] at hy;have HR:=qh hR;have Hsn:=qh hsn;have HS9:=qh V0;have Hw9:=qh (qm zsC.out zrI.size);clear zrI V0 hJ9 hdl hxl hsn hgt hR YM QG q0 q1 q2 q3 q4 q5 q6 q7 q8 q9 q10 q11 q12;gi_wp2;refine HR.out.mono ?_;rintro e W3 (⟨rfl,Kj,hk5⟩|⟨rfl,hJx5⟩)
               · have Z9:=qh Kj
                 have HS5:=qh (hk5.2 sb _ HS9.out);have Hw5:=qh (qm Hw9.out hk5.1);clear Kj hk5 hy;gi_wp2;go_roundw
                 case rel=>exact⟨j+1,_,by omega,by go_num,by go_num,Hsn,Z9,HS5,Hw5⟩
                 case measure=>simp[intOf];omega
               · have Z9:=qh hJx5
                 clear hJx5 hy;gi_wp2;refine zH (qW rfl _ _ _) rfl ?_;exact⟨⟨_,rfl⟩,.inr ⟨_,⟨by simp,_,Hpf.out,Hsn.out⟩,Z9.out⟩⟩
             · obtain rfl:j=r.items.length:=by omega
               rw[qR] at zsB;have hE3:=HB.out xs3 wr3 hJ3.out;have c0:=qc _ _ 0 _ _ (0,0) hE3.x;have f7:=hE3.fm.cells.2.2.2.2.2.2.2;have b0:=qc _ _ 0 _ _ (0,0) Z8.out;rw[hrr] at b0;have hs0:=Hk.out.s0;have e1:(vY f (bs++List.replicate (t+1) r)).out=S.out++uY f.Qo S.Q6 S.up S.out.length r.items:=(by rw[KS.out];rfl);have e2:(vY f (bs++List.replicate (t+1) r)).Q6=S.Q6+1:=(by rw[KS.out];rfl);have e3:(vY f (bs++List.replicate (t+1) r)).up=if r.round then S.up+f.shift else S.up:=by rw[KS.out];rfl
               rw[hrr] at e3;simp only[zo,jb,ks] at e3;have E1:=qh e1;have E2:=qh e2;have E3:=qh e3;clear e1 e2 e3 hE3;gi_wp2;go_roundw
               case rel=>exact⟨t+1,xs3,by omega,by go_num,by rw[E1.out,qk,px],by rw[E2.out],by rw[E3.out],qh (by rw[E1.out];exact zsB.out),hJ3,Z8,zsC⟩
               case measure=>simp[intOf];omega
         · obtain rfl:t=T:=by omega
           rw[Jw.out] at ztI|-;first|(have hq:¬(t:Int)<1:=by have:=HT.out;omega)|(have hq:¬(t:Int)<(N:Int):=by have:=HT.out;omega)
           have hrows:=ztf.out;gi_wp2;go_roundw
           case rel=>exact⟨k+1,xs2,by omega,by go_num,rfl,rfl,rfl,ztI,hJ2,hsz2⟩
           case measure=>simp[intOf];omega
   · obtain rfl:k=f.rows.length:=by omega
     gi_wp2;go_end0;refine⟨⟨_,rfl⟩,.inl ⟨xs,?_,hJ.out⟩⟩;have h:=hEn.out;rw[qR] at h;exact h
def QO (T:List Nat) (W W':World):Prop:=W.heap.size<=W'.heap.size/\∀(i:Nat) (cs:Array Value) (t:Nat),W.heap[i]?=some (.cells cs t (0,0))->t∉T->W'.heap[i]?=some (.cells cs t (0,0))
theorem QO.Vi {W W':World} (T:List Nat) (h:QI 0 W W'):QO T W W':=⟨h.1,λi cs t hi _=>h.2 i _ (qQ _) hi (.inl rfl)⟩
theorem QO.of_below {W W':World} (T:List Nat) (h:Below W.heap.size W W'):QO T W W':=QO.Vi T (ud h)
theorem QO.trans {T:List Nat} {A B C:World} (h:QO T A B) (h2:QO T B C):QO T A C:=⟨qm h.1 h2.1,λi cs t hi ht=>h2.2 i cs t (h.2 i cs t hi ht) ht⟩
theorem QO.sub {T T':List Nat} {A B:World} (h:QO T A B) (hs:∀t,t∈T->t∈T'):QO T' A B:=⟨h.1,λi cs t hi ht=>h.2 i cs t hi (λhm=>ht (hs t hm))⟩
theorem QO.set {W:World} {b t:Nat} {cs:Array Value} (hb:W.heap[b]?=some (.cells cs t (0,0))) (o:Nat) (v:Value):QO [t] W (W.setCell ⟨b,o,none⟩ v):=by
  refine⟨by simp,λi cs' t' hi ht=>(qT _ _ _ _ (λe=>?_)).trans hi⟩;have e2:i=b:=e;subst e2;rw[hb] at hi;cases hi;exact ht (by simp)
theorem QO.grown {W W':World} {B e z n:Nat} {v:Value} {xs:List Value} (ho:W.ownsRow B e z v n xs) (hg:W.grownBy W' v.ownBlock):QO [e] W W':=by
  refine⟨hg.size,λi cs t hi ht=>(hg.block i (qg hi).1 (λq=>?_)).trans hi⟩;rcases Za ho hi (λq2=>ht (by simp[q2])) with h0|h0
  · rw[h0] at q;cases q
  · exact h0 q.symm
theorem vZ {T:List Nat} {w w':World} {B e z n:Nat} {v:Value} {xs:List Value} (h:w.ownsRow B e z v n xs) (hk:QO T w w') (he:e∉T):w'.ownsRow B e z v n xs:=by
  refine⟨h.1,h.2.imp id ?_⟩;rintro⟨g,cap,cur,h1,h2,h3,h4⟩;exact⟨g,cap,cur,h1,h2,hk.2 g _ _ h3 he,h4⟩
theorem QO.st {T:List Nat} {A B:World} (h:QO T A B) (ht:106∉T):Zb A B:=⟨h.1,λi cs hi=>h.2 i cs _ hi ht⟩
structure Zi (T:List Nat):Prop where
  a:92∉T
  b:5∉T
  c:79∉T
  d:81∉T
  e:83∉T
  f:85∉T
  g:106∉T
  h:108∉T
  i:3∉T
  j:24∉T
theorem Zi.nil:Zi []:=⟨by simp,by simp,by simp,by simp,by simp,by simp,by simp,by simp,by simp,by simp⟩
theorem ZA.kT {T:List Nat} {w w':World} {B:Nat} {Qo:List UInt8} {v:Value} {l:List It} {Q1:List Value} (h:ZA w B Qo v l Q1) (hk:QO T w w') (hT:Zi T):ZA w' B Qo v l Q1:=⟨h.n,vZ h.o hk hT.h,λk hk'=>vZ (h.h k hk') hk hT.i⟩
theorem RwM.kT {T:List Nat} {w w':World} {B:Nat} {vs:Value} {rows:List Rw} {vis:List Value} (h:RwM w B vs rows vis) (hk:QO T w w') (hT:Zi T):RwM w' B vs rows vis:=⟨h.n,vZ h.o hk hT.g,h.it⟩
theorem Ze.kT {T:List Nat} {w w':World} {B fb:Nat} {f:Fm} {vl vm vs:Value} (h:Ze w B fb f vl vm vs) (hk:QO T w w') (hT:Zi T):Ze w' B fb f vl vm vs:=by
  obtain⟨cs,hm⟩:=h.m;obtain⟨vis,hr,hi⟩:=h.r;refine⟨hk.2 _ _ _ h.x hT.a,h.hB,vZ h.l hk hT.b,⟨cs,hm.n,vZ hm.o hk hT.c,λk hk'=>?_⟩,⟨vis,hr.kT hk hT,λk hk'=>?_⟩⟩
  · obtain⟨a,vs,b⟩:=hm.m k hk'
    exact⟨a,vs,b.vl,vZ b.Qp hk hT.d,λq hq=>vZ (b.Qs q hq) hk hT.e,vZ b.ends hk hT.e,vZ b.Qt hk hT.f,b.apart⟩
  · obtain⟨Q1,h2⟩:=hi k hk'
    exact⟨Q1,h2.kT hk hT⟩
theorem JL.kT {T:List Nat} {B fb fx rx:Nat} {f:Fm} {vl vm vs:Value} {n:Int} {vis:List Value} {ZR:Nat->List Value} {W W':World} (h:JL B fb fx rx f vl vm vs n vis ZR W) (hk:QO T W W') (hT:Zi T):JL B fb fx rx f vl vm vs n vis ZR W':=
  ⟨h.fm.kT hk hT,hk.2 _ _ _ h.x hT.j,hk.2 _ _ _ h.r hT.i,h.rw.kT hk hT,λk hk'=>(h.its k hk').kT hk hT⟩
theorem ztK:Tryz.prog.info? 45=some Tryz.t45:=by kernel_rfl
theorem ztL:Tryz.t45.zero=some (.agg zD):=by kernel_rfl
theorem ztM:Tryz.t45.size=9:=by kernel_rfl
theorem zq7:Tryz.t45.bytes=88:=by kernel_rfl
def ydC (xs:List YD):List Value:=xs.flatMap λx=>(Jl x.d x.v).toList
theorem zqn (xs:List YD) (x:YD):ydC (xs++[x])=ydC xs++(Jl x.d x.v).toList:=by unfold ydC;simp
structure J9 (w:World) (B:Nat) (v:Value) (xs:List YD):Prop where
  o:w.ownsRow B 45 9 v xs.length (ydC xs)
  h:∀x∈xs,w.ownsRow B 3 1 x.v x.d.has.length (ua x.d.has)/\x.d.has.length<=4
theorem J9.kT {T:List Nat} {w w':World} {B:Nat} {v:Value} {xs:List YD} (h:J9 w B v xs) (hk:QO T w w') (h1:45∉T) (h2:3∉T):J9 w' B v xs:=
  ⟨vZ h.o hk h1,λx hx=>⟨vZ (h.h x hx).1 hk h2,(h.h x hx).2⟩⟩
theorem zqo (vf:Value) (r:Int) (w:World) (hf:vf=.pointer none∨∃b,vf=.pointer (some ⟨b,0,none⟩)):Calls Tryz.prog 18 #[vf,.int .i64 r] w λe w'=>e=.returned (.func (.func 37) #[] #[.pointer (some ⟨w.heap.size,0,none⟩),.pointer (some ⟨w.heap.size+1,0,none⟩)])/\w'=(w.alloc (.cells #[vf] 24)).alloc (.cells #[.int .i64 r] 3):=by
  rcases hf with rfl|⟨b,rfl⟩
  · go_enter Tryz.func18,Tryz.ntmps18
    go_wp2_with fail;go_ret;exact⟨rfl,rfl⟩
  · go_enter Tryz.func18,Tryz.ntmps18
    go_wp2_with fail;go_ret;exact⟨rfl,rfl⟩
theorem Qj {W W':World} (h:Below W.heap.size W W'):KeepsOthers W W':=⟨h.size,λk o hk _=>(h.block k (qg hk).1).trans hk⟩
theorem gJ {F:Fence} {m:Nat} {P:Program} {ops:Array Oper} {rest:List Oper} {o:Oper} {a:Act} {Q:Exit->Act->World->Prop} (w0:World) (hgd:o.guard=none) (s x:Operand) (t:TypeId)
    (ho:o.op=.call {callee:=.builtin .append,args:=#[s,x],argTypes:=#[t,t]})
    (base:Nat) (e:TypeId) (i:TypeInfo) (z:Value) (size bytes:Nat) (ht:P.underlying t=some (.slice e)) (hi:P.info? e=some i) (hz:i.zero=some z)
    (hsize:i.size=size) (hby:i.bytes=bytes) (hzs:z.cells.size=size) (hsz:0<size)
    (v:Value) (n:Nat) (xs:List Value) (nw:Array Value) (g:Nat) (hs:a.eval s=v) (hx:a.eval x=.slice (some ⟨g,0,none⟩) 1 1) (hg:g=w0.heap.size) (hown:w0.ownsRow base e size v n xs)
    (hl:nw.size=size) (h1:∀u∈nw.toList,u.oneCell'=true)
    (h63:n+1<=maxLen) (hbytes:(n+1)*bytes<=140737488355328) (hbase:base<=w0.heap.size)
    (h:∀v' w',w'.ownsRow base e size v' (n+1) (xs++nw.toList)->w0.grownBy w' v.ownBlock->wpListIn F m P ops Q rest (a.put o.dst v') w'):wpListIn F m P ops Q (o::rest) a (w0.alloc (.cells nw e)):=by
  subst hg;refine wpListIn_append_own (w0.alloc (.cells nw e)) hgd s x t ho base e i z size bytes ht hi hz hsize hby hzs hsz v n xs hs (hown.alloc _) ⟨w0.heap.size,0,none⟩ 1 1 nw.toList hx (by simp[hl]) ?_ h1 h63 hbytes (by simp;omega) ?_
  · intro j u hu
    have e1:(⟨w0.heap.size,0,none⟩:Addr).add j=⟨w0.heap.size,j,none⟩:=by
      unfold Addr.add;by_cases hj:j=0
      · simp[hj]
      · simp[hj]
    rw[e1,jP (w0.alloc (.cells nw e)) w0.heap.size j nw e (0,0) (heap_alloc_new w0 _)];simpa using hu
  · intro v' w' h2 h3 _
    exact h v' w' h2 (zc4 h3)
structure LI (w:World) (B fb fx rx:Nat) (f:Fm) (vl vm vs:Value) (n:Int) (vis:List Value) (ZR:Nat->List Value) (ob:Nat) (pre:List YD) (W:World):Prop where
  e:JL B fb fx rx f vl vm vs n vis ZR W
  b:Below w.heap.size w W
  hob:w.heap.size<=ob
  v:∃v,W.heap[ob]?=some (.cells #[v] 36 (0,0))/\J9 W w.heap.size v pre
theorem LI.kept {w:World} {B fb fx rx:Nat} {f:Fm} {vl vm vs:Value} {n:Int} {vis:List Value} {ZR:Nat->List Value} {ob:Nat} {pre:List YD} {W W':World} (h:LI w B fb fx rx f vl vm vs n vis ZR ob pre W) (hb:Below w.heap.size W W') (hk:QI 0 W W'):LI w B fb fx rx f vl vm vs n vis ZR ob pre W':=by
  have k:=QO.Vi [] hk;obtain⟨v,h1,h2⟩:=h.v;exact⟨h.e.kT k Zi.nil,h.b.trans hb,h.hob,v,k.2 _ _ _ h1 (by simp),h2.kT k (by simp) (by simp)⟩
theorem LI.step {w:World} {B fb fx rx:Nat} {f:Fm} {vl vm vs:Value} {n:Int} {vis:List Value} {ZR:Nat->List Value} {ob:Nat} {pre:List YD} {V w5:World} {v v5:Value} {x:YD} (h:LI w B fb fx rx f vl vm vs n vis ZR ob pre V)
    (hv:V.heap[ob]?=some (.cells #[v] 36 (0,0))) (hd:J9 V w.heap.size v pre) (hx:V.ownsRow w.heap.size 3 1 x.v x.d.has.length (ua x.d.has)/\x.d.has.length<=4)
    (ho:w5.ownsRow w.heap.size 45 9 v5 (pre.length+1) (ydC pre++(Jl x.d x.v).toList)) (hg:V.grownBy w5 v.ownBlock):
    w5.cell? ⟨ob,0,none⟩=some v/\w5.frozen? ⟨ob,0,none⟩=false/\Hid (LI w B fb fx rx f vl vm vs n vis ZR ob (pre++[x]) (w5.setCell ⟨ob,0,none⟩ v5)/\KeepsOthers V (w5.setCell ⟨ob,0,none⟩ v5)/\Zb V (w5.setCell ⟨ob,0,none⟩ v5)):=by
  have k1:QO [45] V w5:=QO.grown hd.o hg;have hv5:=k1.2 _ _ _ hv (by decide);have k2:QO [36] w5 (w5.setCell ⟨ob,0,none⟩ v5):=QO.set hv5 0 v5;have k:QO [45,36] V (w5.setCell ⟨ob,0,none⟩ v5):=(k1.sub (by simp)).trans (k2.sub (by simp));refine⟨qc _ _ 0 _ _ (0,0) hv5,qf _ _ 0 _ _ hv5,qh ⟨⟨h.e.kT k ⟨by decide,by decide,by decide,by decide,by decide,by decide,by decide,by decide,by decide,by decide⟩,(h.b.grown hg h.b.size (λb e=>(hd.o.lt b e).1)).setCell (p:=⟨ob,0,none⟩) h.hob _,h.hob,v5,qs w5 ob 0 _ _ v5 hv5,?_,?_⟩,?_,k.st (by decide)⟩⟩
  · rw[qk,zI,zqn]
    exact vZ ho k2 (by decide)
  · intro y hy
    rcases qU.1 hy with hy|hy
    · exact⟨vZ (hd.h y hy).1 k (by decide),(hd.h y hy).2⟩
    · obtain rfl:y=x:=by simpa using hy
      exact⟨vZ hx.1 k (by decide),hx.2⟩
  · refine(KeepsOthers.of_grownBy hg (λj o hj hjo=>?_)).trans (kt _ _ _)
    obtain⟨c,fz,h1⟩:=jQ hd.o j hj;rw[h1] at hjo;cases hjo;rfl
def LA (fb N ob c:Nat) (x:YD) (bp:Nat) (a:Act):Prop:=a={tmps:=#[.pointer (some ⟨fb,0,none⟩),.int .i64 (N:Int),undef,undef,.slice none 0 0,.int .i64 0,.int .i64 0,.pointer (some ⟨ob,0,none⟩),undef,.pointer (some ⟨bp,0,none⟩),.pointer (some ⟨fb,0,none⟩),.int .i64 (N:Int),.int .i64 0,.int .i64 0,.bool false,undef,.pointer (some ⟨fb,0,none⟩),.int .i64 (N:Int),.func (.func 37) #[] #[.pointer (some ⟨c,0,none⟩),.pointer (some ⟨c+1,0,none⟩)],.int .i64 (x.k:Int),.agg (Jl x.d x.v),undef,undef,undef,undef,undef],defers:=[]}
def ztN (f:Fm) (n:Int) (w:World) (e:Exit) (a:Act) (W:World):Prop:=
  match e with
  |.ret=>∃D v xs,a.defers=[{target:=.collected D,args:=#[]}]/\a.tmps.getD 4 undef=v/\a.tmps.getD 5 undef=.int .i64 0/\W.heap[D]?=some (.deferred (some []))/\w.heap.size<=D/\
      Jv xs (vH f n)/\J9 W w.heap.size v xs/\Below w.heap.size w W
  |_=>False
def LnOk (f:Fm) (n:Int) (w:World) (e:Ending) (w':World):Prop:=Below w.heap.size w w'/\∃v xs,e=.returned (.tuple #[v,.int .i64 0])/\Jv xs (vH f n)/\J9 w' w.heap.size v xs
attribute [local go_sem] jB
theorem zmX (B fb:Nat) (f:Fm) (vl vm vs:Value) (N:Nat) (i:Nat) (w:World) (h:Ze w B fb f vl vm vs) (hk:QQ f i) (hi:i<=65536) (hn1:f.least<=N) (hn2:(N:Int)<=f.most):
    Calls Tryz.prog 21 #[.pointer (some ⟨fb,0,none⟩),.int .i64 (N:Int)] w (LnOk f N w):=by
  have Hc:=zmW B fb f vl vm vs N w h;rw[qp (by omega)] at Hc;have HC:=qh Hc;obtain⟨vis,ZR,hrw,hits⟩:=h.parts;obtain⟨W1,hW1⟩:∃W1,w.alloc (.cells #[.slice none 0 0] 36)=W1:=⟨_,rfl⟩;have hb1:Below w.heap.size w W1:=by rw[<-hW1];exact(qb _ _).alloc (ql _) _
  have ho1:W1.heap[w.heap.size]?=some (.cells #[.slice none 0 0] 36 (0,0)):=by rw[<-hW1];exact qn w _
  have hb3:Below W1.heap.size W1 ((W1.alloc (.cells #[.pointer (some ⟨fb,0,none⟩)] 24)).alloc (.cells #[.int .i64 (N:Int)] 3)):=((qb _ _).alloc (ql _) _).alloc (by simp) _;have hF3:((W1.alloc (.cells #[.pointer (some ⟨fb,0,none⟩)] 24)).alloc (.cells #[.int .i64 (N:Int)] 3)).heap[W1.heap.size]?=some (.cells #[.pointer (some ⟨fb,0,none⟩)] 24 (0,0)):=(qa _ _ _ (by simp)).trans (qn W1 _)
  have hr3:((W1.alloc (.cells #[.pointer (some ⟨fb,0,none⟩)] 24)).alloc (.cells #[.int .i64 (N:Int)] 3)).heap[W1.heap.size+1]?=some (.cells #[.int .i64 (N:Int)] 3 (0,0)):=by
    have:=qn (W1.alloc (.cells #[.pointer (some ⟨fb,0,none⟩)] 24)) (.cells #[.int .i64 (N:Int)] 3);rw[qZ] at this;exact this
  have ztg:=qh (zqo (.pointer (some ⟨fb,0,none⟩)) (N:Int) W1 (.inr ⟨fb,rfl⟩));have k1:=QO.of_below [] (hb1:Below w.heap.size w W1);have k3:=QO.of_below [] hb3;generalize hW3:((W1.alloc (.cells #[.pointer (some ⟨fb,0,none⟩)] 24)).alloc (.cells #[.int .i64 (N:Int)] 3))=W3 at hb3 hF3 hr3 k3 ztg
  have hE3:JL B fb W1.heap.size (W1.heap.size+1) f vl vm vs N vis ZR W3:=
    ⟨(h.kT k1 Zi.nil).kT k3 Zi.nil,hF3,hr3,(hrw.kT k1 Zi.nil).kT k3 Zi.nil,λq hq=>((hits q hq).kT k1 Zi.nil).kT k3 Zi.nil⟩
  have Yg:Below w.heap.size w W3:=hb1.trans (hb3.mono hb1.size)
  have hLI:LI w B fb W1.heap.size (W1.heap.size+1) f vl vm vs N vis ZR w.heap.size [] W3:=
    ⟨hE3,Yg,ql _,_,k3.2 _ _ _ ho1 (by simp),⟨rfl,.inl ⟨rfl,rfl⟩⟩,λx hx=>by cases hx⟩
  have hseq:=zqm 5 (by omega) B fb W1.heap.size (W1.heap.size+1) f vl vm vs N vis ZR i W3 hk hi hn1 hn2
  have ztF:Hid (((vH f N).length:Int)<=33554432):=qh (by
    have m0:=hk.m0;have l0:=hk.l0;have h:=zhp f.rows N (by omega) (by omega) f.rows.length (ql _);rw[qR] at h;rw[gI f N (by omega)];have:=hk.le;omega)
  have HLI:=qh hLI;have HW1:=qh hW1;have V1:=qh Yg.size;clear hLI hW1 Yg hE3 k1 k3 hb1 hb3 ho1 hF3 hr3 Hc h hk hrw hits hW3;refine(yh (n:=6)).1 ?_;refine yd Tryz.func21 rfl trivial ?_ rfl;simp only[Tryz.ntmps21,jJ,qv,qH,Nat.reduceAdd,Nat.reduceSub,je,jf,jI,kU,zj,zf];refine wpIn_wide.2 (km (Q:=ztN f N w) ?_ ?_)
  · rintro e a W hq
    cases e<;>try exact hq.elim
    obtain⟨D,v,xs,hd,h4,h5,hK,hD,hen,hdm,hb⟩:=hq;obtain⟨T,df⟩:=a;simp only[] at hd h4 h5;subst hd;have h4':T[4]?.getD undef=v:=(by simpa using h4);have h5':T[5]?.getD undef=.int .i64 0:=(by simpa using h5);refine⟨by simp,.inl ⟨_,_,rfl,jS hK,?_⟩⟩;refine⟨.tuple #[v,.int .i64 0],?_,⟨hb.os,hb.tape,hb.output,by rw[World.putObj_size];exact hb.size,λk hk=>(qV (by omega)).trans (hb.block k hk)⟩,v,xs,rfl,hen,hdm.kT (QO.Vi [] (QI.put W D _ _ hK rfl rfl)) (by simp) (by simp)⟩;simp[results,Tryz.f21,go_sem,h4',h5']
  go_wp2_with fail;refine HC.out.mono ?_;rintro e w2 ⟨rfl,rfl⟩;go_wp2_with fail;rw[HW1.out];refine ztg.out.mono ?_;rintro e w4 ⟨rfl,rfl⟩;go_wp2_with fail
  refine wpIn_wide.1 (zq5 (F:=Fence.wide) (n:=6) (R:=Zb) (Base:=JL B fb W1.heap.size (W1.heap.size+1) f vl vm vs N vis ZR) (λA B C=>Zb.trans) Zb.put rfl (by decide) (gf:=37) (lb:=#[.pointer (some ⟨W1.heap.size,0,none⟩),.pointer (some ⟨W1.heap.size+1,0,none⟩)]) rfl trivial (enters_of Tryz.func37 (by kernel_rfl) rfl) hseq (λ_=>rfl)
    (λpre W=>LI w B fb W1.heap.size (W1.heap.size+1) f vl vm vs N vis ZR w.heap.size pre W) (λ_ _ _=>False) ?hI ?hIx (λpre W h=>h.e) HLI.out (λpre x a' W'=>∃bp,LA fb N w.heap.size W1.heap.size x bp a'/\W'.heap[bp]?=some (.cells (Jl x.d x.v) 45 (0,0))/\W'.ownsRow w.heap.size 3 1 x.v x.d.has.length (ua x.d.has)/\x.d.has.length<=4) ?assign ?body ?hAx ?done ?stop)
  case hI=>exact λs A A' h hb hk=>h.kept (hb.mono V1.out) hk
  case hIx=>exact λc s A A' h _ _=>h
  case stop=>exact λD c pre W _ _ h _=>h.elim
  case hAx=>
    rintro pre x a' W l o o' ⟨bp,h1,h2,h3,h4⟩ ho hc hw;have k:=QO.Vi [] (QI.put W l o o' ho hc hw);exact⟨bp,h1,k.2 _ _ _ h2 (by simp),vZ h3 k (by simp),h4⟩
  case assign=>
    rintro l pre ⟨xk,xd,xv⟩ V K hi hfit hsz hK;obtain⟨Ax,cx,hxv⟩:=Zn hfit.1;simp only[] at hxv;subst hxv;have HK:=qh hK;have Hfit:=qh hfit;have Hi:=qh hi;clear hK hfit hi;simp only[zo5,Jl];gi_wp2;have hb:Below V.heap.size V (V.alloc (.cells (Jl xd (.slice Ax xd.has.length cx)) 45)):=(qb _ V).alloc (ql _) _;have k:=QO.of_below [] hb;exact HK.out _ _ (Qj hb) (Zb.of_below hb) (Hi.out.kept (hb.mono Hi.out.b.size) (ud hb)) ⟨V.heap.size,rfl,qn V _,vZ (VK Hfit.out.1 V1.out) k (by simp),Hfit.out.2.1⟩
  case body=>
    rintro l pre ⟨xk,xd,xv⟩ a' V hi hlen ⟨bp,rfl,hbp,hown,zro⟩ hsz;obtain⟨Ax,cx,hxv⟩:=Zn hown;simp only[] at hxv hbp hlen;subst hxv;obtain⟨v,hv,hd⟩:=hi.v;obtain⟨Av,cv,hvv⟩:=Zn hd.o;subst hvv;have c7:=qc _ _ 0 _ _ (0,0) hv;unfold Jl at hbp;have b0:=qc _ _ 0 _ _ (0,0) hbp;have b1:=qc _ _ 1 _ _ (0,0) hbp;have b2:=qc _ _ 2 _ _ (0,0) hbp;have b3:=qc _ _ 3 _ _ (0,0) hbp;have b4:=qc _ _ 4 _ _ (0,0) hbp;have b5:=qc _ _ 5 _ _ (0,0) hbp;have b6:=qc _ _ 6 _ _ (0,0) hbp;have b7:=qc _ _ 7 _ _ (0,0) hbp;have b8:=qc _ _ 8 _ _ (0,0) hbp;have QW:=qh (λv5 w5=>hi.step (v5:=v5) (w5:=w5) (x:=⟨xk,xd,.slice Ax xd.has.length cx⟩) hv hd ⟨hown,zro⟩);have htot:=ztF.out;have hbV:=hi.b.size;have Hd:=qh hd.o;clear hi hbp hown hv hd;simp only[Jl] at QW|-;gi_wp2_with (gi_at_builtin;refine gJ V rfl _ _ 36 rfl w.heap.size 45 _ _ 9 88 Tryz.underlying36 ztK ztL ztM zq7 rfl (by decide) (.slice Av pre.length cv) pre.length (ydC pre) #[.int .i64 xd.Q6,.int .i64 xd.cls,.int .i64 xd.ref,.int .i64 xd.met,.int .i64 xd.syl,.int .i64 xd.same,.int .i64 xd.ends,.slice Ax xd.has.length cx,.int .i32 xd.beg] V.heap.size rfl rfl rfl Hd.out rfl (by intro u hu;simp at hu;rcases hu with rfl|rfl|rfl|rfl|rfl|rfl|rfl|rfl|rfl<;>rfl) (by unfold maxLen;omega) (by omega) hbV ?_;intro v5 w5 hown5 hgr5;obtain⟨d5,f5,HF5⟩:=QW.out v5 w5 hown5 hgr5;obtain⟨g5,cap5,rfl⟩:=Jm hown5 (by omega);clear hown5 hgr5)
    exact⟨HF5.out.2.1,HF5.out.2.2,HF5.out.1⟩
  case done=>
    rintro D xs W hD hen hi hK;obtain⟨v,hv,hd⟩:=hi.v;obtain⟨Av,cv,hvv⟩:=Zn hd.o;subst hvv;have c7:=qc _ _ 0 _ _ (0,0) hv;have Qu:=qh (zm hen (zm hd (zm hi.b (zm hD hK))));clear hen hd hi hD hK hv hseq;go_wp2_with fail;exact⟨D,_,xs,rfl,rfl,rfl,Qu.out.2.2.2.2,qm V1.out Qu.out.2.2.2.1,Qu.out.1,Qu.out.2.1,Qu.out.2.2.1⟩
def YD0:YD:=⟨0,⟨0,0,0,0,0,0,0,[],0⟩,.nilFunc⟩
theorem zpA:∀(xs:List YD) (k o:Nat),k<xs.length->o<9->(ydC xs)[k*9+o]?=(Jl (xs.getD k YD0).d (xs.getD k YD0).v)[o]?
  |[],k,o,hk,_=>by simp at hk
  |x::xs,0,o,_,ho=>by
   unfold ydC;rw[qX,qY (by simp[Jl];omega)];simp
  |x::xs,k+1,o,hk,ho=>by
   have ih:=zpA xs k o (by simpa using hk) ho;unfold ydC at ih|-;rw[qX,kd (by simp[Jl];omega)];have e:(k+1)*9+o-(Jl x.d x.v).toList.length=k*9+o:=(by simp[Jl];omega);rw[e,ih];simp
theorem J9.get {w:World} {B g n c:Nat} {xs:List YD} (h:J9 w B (.slice (some ⟨g,0,none⟩) n c) xs) (hn:xs.length=n) {k:Nat} (hk:k<n) (o:Nat) (ho:o<9):w.cell? ⟨g,k*9+o,none⟩=(Jl (xs.getD k YD0).d (xs.getD k YD0).v)[o]?:=by
  have h1:=h.o;rw[hn] at h1;exact(h1.cellAt (k*9+o) (by omega)).trans (zpA xs k o (by omega) ho)
end Go.Proofs.YtgklikkddckgbaaGreatDoor.Mo


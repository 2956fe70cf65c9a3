import Derived.Test.YtgklikkddckgbaaGreatDoorHBB
/- Lemmas of the claim. -/
set_option linter.all false
namespace Go.Proofs.YtgklikkddckgbaaGreatDoor.Mo
open Go.RowKit
set_option maxRecDepth 100000 in
set_option maxHeartbeats 8000000 in
theorem each_seq (m:Nat) (hm1:1≤m) (B fb fx rx:Nat) (f:Fm) (vl vm vs:Value) (N:Nat) (vis:List Value) (vhss:Nat→List Value) (i:Nat) (w:World) (hk:FmOk f i) (hi:i≤65536) (hn1:f.least≤N) (hn2:(N:Int)≤f.most):
    SeqR KeepsSt (EachM B fb fx rx f vl vm vs N vis vhss) Fence.wide m Tryz.prog 37 #[.pointer (some ⟨fx,0,none⟩),.pointer (some ⟨rx,0,none⟩)] ydEncs (ydFits w.heap.size (demandsP f N)) (fun xs=>Enum xs (demandsP f N)) (fun pre=>pre≠[]∧∃ds,ds<+:demandsP f N∧Enum pre ds) (demandsP f N).length w:=by
  intro l J Jx W hW aJ aJx hB hY h0;have hE:=hB [] W h0;have hE2:∀pre W1,J pre W1→EachM B fb fx rx f vl vm vs N vis vhss W1:=hB;have c0:=qc _ _ 0 _ _ (0,0) hE.x;have c1:=qc _ _ 0 _ _ (0,0) hE.r;have HC:=qh (check_form B fb f vl vm vs N W hE.fm);rw[if_neg (by omega)] at HC;obtain⟨Ar,cr,hvs⟩:=zab hE.rw.o;subst hvs;have f3:=hE.fm.cells.2.2.2.1;have h512:(N:Int)≤512:=by have:=hk.m0;omega
  have Hrows:=qh (show f.rows.length≤65536 by have:=hk.le;omega);have Hcnt:=qh (blocks_count f.rows N (by omega) h512)
  have Htot:=qh (show((demandsP f N).length:Int)≤33554432 by
    have h:=zhp f.rows N (by omega) h512 f.rows.length (ql _);rw[List.take_length] at h;rw[demands_len f N (by omega)];have:=hk.le;omega)
  have HE:=qh hE;have HB:=qh hE2;have HJ:=qh h0;have HaJ:=qh aJ;have HY:=qh hY;have Hsz:=qh hW.size;have Hk:=qh hk;clear hE hE2 hB h0 aJ aJx hY hW hk;simp only[List.append_toArray,List.cons_append,List.nil_append];refine callsIn_of_wp Tryz.func37 rfl trivial ?_ rfl;simp only[Tryz.ntmps37,List.size_toArray,List.length_cons,List.length_nil,Nat.reduceAdd,Nat.reduceSub,Array.replicate_succ,Array.replicate_zero,List.push_toArray,List.append_toArray,List.nil_append,List.cons_append];gi_wp2;refine⟨trivial,CallsIn.mono (callsIn_wide.2 HC.out) ?_⟩;rintro e w2 ⟨rfl,rfl⟩;gi_wp2;clear c0 c1 f3;gi_loopw [4,5,6,21] (fun t4 t5 t6 q wr=>∃(k:Nat) (xs:List YD),k≤f.rows.length∧q=.int .i64 k∧t4=.int .i64 ((dAll f (blocksP (f.rows.take k) N)).out.length:Int)∧t5=.int .i64 (dAll f (blocksP (f.rows.take k) N)).stz∧t6=.int .i64 (dAll f (blocksP (f.rows.take k) N)).up∧Hid (Enum xs (dAll f (blocksP (f.rows.take k) N)).out)∧Hid (J xs wr)∧Hid (W.heap.size≤wr.heap.size)) (fun _ _ _ q _=>f.rows.length-(intOf q).toNat)
  case atStart=>exact⟨0,[],Nat.zero_le _,rfl,rfl,rfl,rfl,qh Enum.nil,HJ,qh (ql _)⟩
  case round=>
    rename_i wr;obtain⟨k,xs,hk',rfl,rfl,rfl,rfl,hEn,hJ,hsz⟩:=hrel;by_cases hlt:k<f.rows.length
    · have hE:=HB.out xs wr hJ.out
      obtain⟨g,rfl,k0,k1⟩:=rw_cells hE.rw hlt;obtain⟨Ai,ci,hvi⟩:=hE.rw.it k hlt;rw[hvi] at k1;have c0:=qc _ _ 0 _ _ (0,0) hE.x;have c1:=qc _ _ 0 _ _ (0,0) hE.r;have c1':(wr.alloc (.cells #[.bool (f.rows.getD k ⟨false,[]⟩).round,.slice Ai (f.rows.getD k ⟨false,[]⟩).items.length ci] 106)).cell? ⟨rx,0,none⟩=some (.int .i64 (N:Int)):=(World.cell?_alloc_lt wr _ _ (qg hE.r).1).trans c1;have hb4:Below wr.heap.size wr (wr.alloc (.cells #[.bool (f.rows.getD k ⟨false,[]⟩).round,.slice Ai (f.rows.getD k ⟨false,[]⟩).items.length ci] 106)):=(qb _ _).alloc (ql _) _;have hs4:(wr.alloc (.cells #[.bool (f.rows.getD k ⟨false,[]⟩).round,.slice Ai (f.rows.getD k ⟨false,[]⟩).items.length ci] 106)).heap[wr.heap.size]?=some (.cells #[.bool (f.rows.getD k ⟨false,[]⟩).round,.slice Ai (f.rows.getD k ⟨false,[]⟩).items.length ci] 106 (0,0)):=qn wr _;have hJ4:=HaJ.out xs wr _ hJ.out (hb4.mono hsz.out) (keeps_of_below hb4);have hsz4:W.heap.size≤(wr.alloc (.cells #[.bool (f.rows.getD k ⟨false,[]⟩).round,.slice Ai (f.rows.getD k ⟨false,[]⟩).items.length ci] 106)).heap.size:=qm hsz.out hb4.size;have Hbt:=qh (blocks_take f.rows N k hlt);obtain⟨cs0,hcs0⟩:=blocks_pre f.rows N (k+1);have Hcs:=qh hcs0;have hcnt:=Hcnt.out (k+1) (by omega);have Hvi:=qh hvi;have hmem:f.rows.getD k ⟨false,[]⟩∈f.rows:=(by rw[List.getD_eq_getElem?_getD,List.getElem?_eq_getElem hlt];exact qM hlt);have Hit:=qh (Hk.out.it _ hmem);have HitS:=qh fun(W2:World) (h2:EachM B fb fx rx f vl vm (.slice (some ⟨g,0,none⟩) f.rows.length cr) N vis vhss W2)=>h2.its k hlt;have hsb:wr.heap.size=wr.heap.size:=rfl;generalize hr:f.rows.getD k ⟨false,[]⟩=r at*;rw[hvi] at HitS;clear hcs0 hb4 hmem hvi hE hsb;have HJ4:=qh hJ4;have HS4:=qh hs4;have Hsz4:=qh hsz4;clear hJ4 hs4 hsz4 hJ hsz;have hS0:dAll f (blocksP (f.rows.take k) N++List.replicate 0 r)=dAll f (blocksP (f.rows.take k) N):=(by simp);have HS0:=qh hS0;clear hS0;have hT512:timesR N r≤512:=by unfold timesR;split<;>omega
      have hlen0:(blocksP (f.rows.take k) N).length+timesR N r≤33554432:=by
        have h:=hcnt;rw[Hbt.out,List.length_append,List.length_replicate] at h;have:=Hrows.out;omega
      have HbT:Hid (∀t,t≤timesR N r→0≤(dAll f (blocksP (f.rows.take k) N++List.replicate t r)).stz∧(dAll f (blocksP (f.rows.take k) N++List.replicate t r)).stz≤33554432∧0≤(dAll f (blocksP (f.rows.take k) N++List.replicate t r)).up∧(dAll f (blocksP (f.rows.take k) N++List.replicate t r)).up≤17179869184):=qh fun t ht=>by
        have h1:=dAll_stz f (blocksP (f.rows.take k) N++List.replicate t r);have h2:=dAll_up f Hk.out.s0 (blocksP (f.rows.take k) N++List.replicate t r);rw[List.length_append,List.length_replicate] at h1 h2;omega
      have HpT:Hid (∀t,t<timesR N r→(dStep f (dAll f (blocksP (f.rows.take k) N++List.replicate t r)) r).out<+:demandsP f N):=qh fun t ht=>by
        have e:blocksP f.rows N=(blocksP (f.rows.take k) N++List.replicate t r++[r])++(List.replicate (timesR N r-t-1) r++cs0):=by
          rw[Hcs.out,Hbt.out]
          have:List.replicate (timesR N r) r=List.replicate t r++([r]++List.replicate (timesR N r-t-1) r):=by
            rw[show [r]=List.replicate 1 r from rfl,List.replicate_append_replicate,List.replicate_append_replicate];congr 1
            omega
          rw[this];simp only[List.append_assoc]
        unfold demandsP;rw[e,←dAll_snoc];exact dAll_pre f _ _
      have HnT:Hid (∀t,dAll f (blocksP (f.rows.take k) N++List.replicate (t+1) r)=dStep f (dAll f (blocksP (f.rows.take k) N++List.replicate t r)) r):=qh fun t=>by
        rw[List.replicate_succ',←List.append_assoc,dAll_snoc]
      have Hend:Hid (dAll f (blocksP (f.rows.take k) N++List.replicate (timesR N r) r)=dAll f (blocksP (f.rows.take (k+1)) N)):=qh (by rw[Hbt.out]);clear hcnt hlen0;rw[←HS0.out] at hEn⊢;generalize (blocksP (f.rows.take k) N)=bs at*;generalize hT:timesR N r=T at*;unfold timesR at hT;cases hrr:r.round
      all_goals
        rw[hrr] at hT k0 c1' HS4 HJ4 Hsz4;simp only[Bool.false_eq_true,if_false,if_true,Int.toNat_natCast] at hT;have HT:=qh hT.symm;clear hT;gi_wp2;generalize hW4:wr.alloc _=W4 at HS4 HJ4 Hsz4⊢;clear hW4 c1' k0 k1 c0 c1;generalize hsb:wr.heap.size=sb at*;gi_loopw [4,5,6,29] (fun t4 t5 t6 q wr=>∃(t:Nat) (xs:List YD),t≤T∧q=.int .i64 t∧t4=.int .i64 ((dAll f (bs++List.replicate t r)).out.length:Int)∧t5=.int .i64 (dAll f (bs++List.replicate t r)).stz∧t6=.int .i64 (dAll f (bs++List.replicate t r)).up∧Hid (Enum xs (dAll f (bs++List.replicate t r)).out)∧Hid (J xs wr)∧Hid (wr.heap[sb]?=some (.cells #[.bool r.round,.slice Ai r.items.length ci] 106 (0,0)))∧Hid (W.heap.size≤wr.heap.size)) (fun _ _ _ q _=>T-(intOf q).toNat)
        case atStart=>exact⟨0,xs,Nat.zero_le _,rfl,rfl,rfl,rfl,hEn,HJ4,qh (by rw[hrr];exact HS4.out),Hsz4⟩
        case round=>
          rename World=>wr2
          obtain⟨t,xs2,ht,rfl,rfl,rfl,rfl,hEn2,hJ2,hS2,hsz2⟩:=hrel;by_cases hlt2:t<T
          · first|(have hq:(t:Int)<1:=by have:=HT.out;omega)|(have hq:(t:Int)<(N:Int):=by have:=HT.out;omega)
            have hE:=HB.out xs2 wr2 hJ2.out;have b0:=qc _ _ 0 _ _ (0,0) hS2.out;have b1:=qc _ _ 1 _ _ (0,0) hS2.out;have hbd:=HbT.out t (by omega);have Hpr:=qh (HpT.out t hlt2);have Hnx:=qh (HnT.out t);have hln:=Hpr.out.length_le;have htot:=Htot.out;generalize hS:dAll f (bs++List.replicate t r)=S at*
            have hln2:S.out.length+r.items.length≤(demandsP f N).length:=by
              unfold dStep at hln;simpa [dRow_len] using hln
            have hln3:S.out.length+r.items.length≤33554432:=(by omega);clear hS hln htot;have Hln:=qh hln2;clear hln2;gi_wp2;gi_loopw [4,34] (fun t4 q wr=>∃(j:Nat) (xs:List YD),j≤r.items.length∧q=.int .i64 j∧t4=.int .i64 ((S.out.length+j:Nat):Int)∧Hid (Enum xs (S.out++dRow f.letters S.stz S.up S.out.length (r.items.take j)))∧Hid (J xs wr)∧Hid (wr.heap[sb]?=some (.cells #[.bool r.round,.slice Ai r.items.length ci] 106 (0,0)))∧Hid (W.heap.size≤wr.heap.size)) (fun _ q _=>r.items.length-(intOf q).toNat)
            case atStart=>exact⟨0,xs2,Nat.zero_le _,rfl,by simp,qh (by simpa [dRow] using hEn2.out),hJ2,hS2,hsz2⟩
            case round=>
              rename World=>wr3
              obtain⟨j,xs3,hj,rfl,rfl,hEn3,hJ3,hS3,hsz3⟩:=hrel;clear b0 b1 hE;by_cases hlt3:j<r.items.length
              · have hE3:=HB.out xs3 wr3 hJ3.out
                have hIts:=HitS.out wr3 hE3;obtain⟨g2,rfl,hcell⟩:=its_cells hIts hlt3;have hxm:r.items.getD j It0∈r.items:=(by rw[List.getD_eq_getElem?_getD,List.getElem?_eq_getElem hlt3];exact qM hlt3);have hxok:=Hit.out _ hxm;have hown:=hIts.h j hlt3;obtain⟨Ah,ch,hvh⟩:=zab hown;rw[hvh] at hown hcell;have htk:=dRow_take f.letters S.stz S.up S.out.length r.items j hlt3;have Htk:=qh htk;clear htk hxm hvh hIts hE3;generalize r.items.getD j It0=x at hcell hxok hown Htk;have q0:wr3.cell? ⟨g2,j*13,none⟩=some (.int .i64 x.cls):=hcell 0 (by decide);have q1:wr3.cell? ⟨g2,j*13+1,none⟩=some (.int .i64 x.ref):=hcell 1 (by decide);have q2:wr3.cell? ⟨g2,j*13+2,none⟩=some (.int .i64 (zbQ f.letters x.marks)):=hcell 2 (by decide);have q3:wr3.cell? ⟨g2,j*13+3,none⟩=some (.int .u8 (nOf x.marks 58)):=hcell 3 (by decide);have q4:wr3.cell? ⟨g2,j*13+4,none⟩=some (.int .i64 (nOf x.marks 47)):=hcell 4 (by decide);have q5:wr3.cell? ⟨g2,j*13+5,none⟩=some (.int .i64 (nOf x.marks 94)):=hcell 5 (by decide);have q6:wr3.cell? ⟨g2,j*13+6,none⟩=some (.int .i64 (nOf x.marks 64)):=hcell 6 (by decide);have q7:wr3.cell? ⟨g2,j*13+7,none⟩=some (.slice Ah (zau x.marks).length ch):=hcell 7 (by decide);have q8:wr3.cell? ⟨g2,j*13+8,none⟩=some (.int .i32 (nOf x.marks 39)):=hcell 8 (by decide);have q9:wr3.cell? ⟨g2,j*13+9,none⟩=some (.int .i64 x.at_):=hcell 9 (by decide);have q10:wr3.cell? ⟨g2,j*13+10,none⟩=some (.int .i64 (zai x.marks)):=hcell 10 (by decide);have q11:wr3.cell? ⟨g2,j*13+11,none⟩=some (.bool (zat x.marks 58)):=hcell 11 (by decide);have q12:wr3.cell? ⟨g2,j*13+12,none⟩=some (.bool (zat x.marks 47)):=hcell 12 (by decide);have hb4:Below wr3.heap.size wr3 (wr3.alloc (.cells #[.int .i64 x.cls,.int .i64 x.ref,.int .i64 (zbQ f.letters x.marks),.int .u8 (nOf x.marks 58),.int .i64 (nOf x.marks 47),.int .i64 (nOf x.marks 94),.int .i64 (nOf x.marks 64),.slice Ah (zau x.marks).length ch,.int .i32 (nOf x.marks 39),.int .i64 x.at_,.int .i64 (zai x.marks),.bool (zat x.marks 58),.bool (zat x.marks 47)] 108)):=(qb _ _).alloc (ql _) _;have Hdem:=qh (demand_any f.letters x (.slice Ah (zau x.marks).length ch) ((S.out.length+j:Nat):Int) S.stz S.up (wr3.alloc (.cells #[.int .i64 x.cls,.int .i64 x.ref,.int .i64 (zbQ f.letters x.marks),.int .u8 (nOf x.marks 58),.int .i64 (nOf x.marks 47),.int .i64 (nOf x.marks 94),.int .i64 (nOf x.marks 64),.slice Ah (zau x.marks).length ch,.int .i32 (nOf x.marks 39),.int .i64 x.at_,.int .i64 (zai x.marks),.bool (zat x.marks 58),.bool (zat x.marks 47)] 108)) B hxok ((Off.of_below hb4 (ql _) []).own hown (by simp)) (by omega) (by omega) (by omega));unfold itC at Hdem;have Hb4:=qh hb4;have Hx4:=qh (show(zau x.marks).length≤4 by rw[zfL];exact hxok.four);clear hb4 hcell hxok hown;gi_wp2;refine⟨trivial,CallsIn.mono (callsIn_wide.2 Hdem.out) ?_⟩;rintro e w9 ⟨hb9,vh9,rfl,ho9⟩;have hb49:Below wr3.heap.size wr3 w9:=Hb4.out.trans (hb9.mono Hb4.out.size);have hS9:=(hb49.block sb (qg hS3.out).1).trans hS3.out;have hJ9:=HaJ.out xs3 wr3 w9 hJ3.out (hb49.mono hsz3.out) (keeps_of_below hb49)
                have hdl:(S.out++dRow f.letters S.stz S.up S.out.length (r.items.take j)).length=S.out.length+j:=by
                  rw[List.length_append,dRow_len,List.length_take_of_le (by omega)]
                have hxl:=hEn3.out.len;have hsn:=hEn3.out.snoc (demandP f.letters x ((S.out.length+j:Nat):Int) S.stz S.up) vh9;rw[hdl] at hxl hsn;rw[List.append_assoc,←Htk.out] at hsn
                have Hpf:Hid ((S.out++dRow f.letters S.stz S.up S.out.length (r.items.take (j+1)))<+:demandsP f N):=qh (by
                  refine List.IsPrefix.trans ?_ Hpr.out;show _<+:S.out++dRow f.letters S.stz S.up S.out.length r.items;exact(List.prefix_append_right_inj _).2 (dRow_pre _ _ _ _ _ _))
                have hgt:(demandsP f N)[xs3.length]?=some (demandP f.letters x ((S.out.length+j:Nat):Int) S.stz S.up):=by
                  obtain⟨tl,htl⟩:=Hpf.out;have hl3:(S.out++dRow f.letters S.stz S.up S.out.length (r.items.take j)).length=xs3.length:=(by rw[hdl,hxl]);rw[←htl,Htk.out,←List.append_assoc,List.append_assoc,←hl3,List.getElem?_append_right (Nat.le_refl _)];simp
                obtain⟨fn,tmps,assign,body,hy,hR⟩:=HY.out xs3 ⟨S.out.length+j,demandP f.letters x ((S.out.length+j:Nat):Int) S.stz S.up,vh9⟩ w9 hJ9 (by have:=Hln.out;omega) ⟨zaT ho9 (by have:=Hsz.out;have:=hsz3.out;have:=Hb4.out.size;omega),by show((zau x.marks).map _).length≤4;rw[List.length_map];exact Hx4.out,by show S.out.length+j=_;omega,hgt⟩;simp only[ydEncs,Int.natCast_add] at hy;have HR:=qh hR;have Hsn:=qh hsn;have HS9:=qh hS9;have Hw9:=qh (qm hsz3.out hb49.size);clear hb49 hS9 hJ9 hdl hxl hsn hgt hR ho9 hb9 q0 q1 q2 q3 q4 q5 q6 q7 q8 q9 q10 q11 q12;gi_wp2;refine HR.out.mono ?_;rintro e W3 (⟨rfl,hJ5,hk5⟩|⟨rfl,hJx5⟩)
                · have HJ5:=qh hJ5
                  have HS5:=qh (hk5.2 sb _ HS9.out);have Hw5:=qh (qm Hw9.out hk5.1);clear hJ5 hk5 hy;gi_wp2;go_roundw
                  case rel=>exact⟨j+1,_,by omega,by go_num,by go_num,Hsn,HJ5,HS5,Hw5⟩
                  case measure=>simp[intOf];omega
                · have HJ5:=qh hJx5
                  clear hJx5 hy;gi_wp2;refine bodyPost_ret (results_none rfl _ _ _) rfl ?_;exact⟨⟨_,rfl⟩,.inr ⟨_,⟨by simp,_,Hpf.out,Hsn.out⟩,HJ5.out⟩⟩
              · obtain rfl:j=r.items.length:=by omega
                rw[List.take_length] at hEn3;have hE3:=HB.out xs3 wr3 hJ3.out;have c0:=qc _ _ 0 _ _ (0,0) hE3.x;have f7:=hE3.fm.cells.2.2.2.2.2.2.2;have b0:=qc _ _ 0 _ _ (0,0) hS3.out;rw[hrr] at b0;have hs0:=Hk.out.s0;have e1:(dAll f (bs++List.replicate (t+1) r)).out=S.out++dRow f.letters S.stz S.up S.out.length r.items:=(by rw[Hnx.out];rfl);have e2:(dAll f (bs++List.replicate (t+1) r)).stz=S.stz+1:=(by rw[Hnx.out];rfl);have e3:(dAll f (bs++List.replicate (t+1) r)).up=if r.round then S.up+f.shift else S.up:=by rw[Hnx.out];rfl
                rw[hrr] at e3;simp only[Bool.false_eq_true,if_false,if_true] at e3;have E1:=qh e1;have E2:=qh e2;have E3:=qh e3;clear e1 e2 e3 hE3;gi_wp2;go_roundw
                case rel=>exact⟨t+1,xs3,by omega,by go_num,by rw[E1.out,List.length_append,dRow_len],by rw[E2.out],by rw[E3.out],qh (by rw[E1.out];exact hEn3.out),hJ3,hS3,hsz3⟩
                case measure=>simp[intOf];omega
          · obtain rfl:t=T:=by omega
            rw[Hend.out] at hEn2⊢;first|(have hq:¬(t:Int)<1:=by have:=HT.out;omega)|(have hq:¬(t:Int)<(N:Int):=by have:=HT.out;omega)
            have hrows:=Hrows.out;gi_wp2;go_roundw
            case rel=>exact⟨k+1,xs2,by omega,by go_num,rfl,rfl,rfl,hEn2,hJ2,hsz2⟩
            case measure=>simp[intOf];omega
    · obtain rfl:k=f.rows.length:=by omega
      gi_wp2;go_end0;refine⟨⟨_,rfl⟩,.inl ⟨xs,?_,hJ.out⟩⟩;have h:=hEn.out;rw[List.take_length] at h;exact h
end Go.Proofs.YtgklikkddckgbaaGreatDoor.Mo

import Derived.Test.YtgklikkddckgbaaGreatDoorHBE
import Derived.Test.YtgklikkddckgbaaGreatDoorHBG
import Derived.Test.YtgklikkddckgbaaGreatDoorHEB
/- Lemmas of the claim. -/
set_option linter.all false
namespace Go.Proofs.YtgklikkddckgbaaGreatDoor.Mo
open Go.RowKit
set_option maxRecDepth 100000 in
set_option maxHeartbeats 4000000 in
theorem same_any (B1 B2:Nat) (d:Dm) (v1 v2:Value) (w:World) (h1:w.ownsRow B1 3 1 v1 d.has.length (intC d.has)) (h2:w.ownsRow B2 3 1 v2 d.has.length (intC d.has)) (h4:d.has.length≤4):
    Calls Tryz.prog 19 #[.agg (dmC d v1),.agg (dmC d v2)] w fun e w'=>e=.returned (.bool true)∧Below w.heap.size w w':=by
  obtain⟨A1,c1,rfl,_,r1⟩:=zdO h1;obtain⟨A2,c2,rfl,_,r2⟩:=zdO h2;obtain⟨W1,hW1⟩:∃W1,(w.alloc (.cells (dmC d (.slice A1 d.has.length c1)) 45)).alloc (.cells (dmC d (.slice A2 d.has.length c2)) 45)=W1:=⟨_,rfl⟩;have hb1:Below w.heap.size w W1:=by rw[←hW1];exact((qb _ _).alloc (ql _) _).alloc (by simp) _
  have hx1:W1.heap[w.heap.size]?=some (.cells (dmC d (.slice A1 d.has.length c1)) 45 (0,0)):=by rw[←hW1];exact(qa _ _ _ (by simp)).trans (qn w _)
  have hx2:W1.heap[w.heap.size+1]?=some (.cells (dmC d (.slice A2 d.has.length c2)) 45 (0,0)):=by
    rw[←hW1];have:=qn (w.alloc (.cells (dmC d (.slice A1 d.has.length c1)) 45)) (.cells (dmC d (.slice A2 d.has.length c2)) 45);rw[World.size_alloc] at this;exact this
  have R1:=qh r1;have R2:=qh r2;have HW1:=qh hW1;have Hb1:=qh hb1
  have HX:Hid (∀W,Below W1.heap.size W1 W→W.cell? ⟨w.heap.size,7,none⟩=some (.slice A1 d.has.length c1)∧W.cell? ⟨w.heap.size+1,7,none⟩=some (.slice A2 d.has.length c2)):=qh fun W hb=>
    ⟨qc _ _ 7 _ _ (0,0) ((hb.block _ (qg hx1).1).trans hx1),qc _ _ 7 _ _ (0,0) ((hb.block _ (qg hx2).1).trans hx2)⟩
  clear h1 h2 r1 r2 hb1 hx1 hx2 hW1;simp only[dmC] at HW1⊢;go_enter Tryz.func19,Tryz.ntmps19;go_wp2_with fail;rw[HW1.out];go_loopw [5] (fun q wr=>∃k:Nat,k≤d.has.length∧q=.int .i64 k∧Hid (Below W1.heap.size W1 wr)) (fun q _=>d.has.length-(intOf q).toNat)
  case atStart=>exact⟨0,Nat.zero_le _,rfl,qh (qb _ _)⟩
  case round=>
    rename World=>wr
    obtain⟨k,hk,rfl,hb⟩:=hrel;obtain⟨x7,y7⟩:=HX.out wr hb.out;by_cases hlt:k<d.has.length
    · obtain⟨g1,rfl,hg1,e1⟩:=R1.out (by omega)
      obtain⟨g2,rfl,hg2,e2⟩:=R2.out (by omega);have hbw:=Hb1.out.trans (hb.out.mono Hb1.out.size);have q1:=(hbw.cell (p:=⟨g1,k,none⟩) hg1).trans (e1 k hlt);have q2:=(hbw.cell (p:=⟨g2,k,none⟩) hg2).trans (e2 k hlt);have HB:=qh (zc3 hb.out 1);clear e1 e2 hbw;go_wp2_with fail;go_region;go_wp2_with fail;go_roundw
      case rel=>exact⟨k+1,by omega,by go_num,HB⟩
      case measure=>simp[intOf];omega
    · obtain rfl:k=d.has.length:=by omega
      go_wp2_with fail;go_ret;exact⟨rfl,Hb1.out.trans (hb.out.mono Hb1.out.size)⟩
def demandsE (f:Fm) (n:Int):List Dm:=if n<f.least∨f.most<n then [] else demandsP f n
theorem each1_off (l:Nat) (B fb fx rx:Nat) (f:Fm) (vl vm vs:Value) (n:Int) (vis:List Value) (vhss:Nat→List Value) (w:World) (h:EachM B fb fx rx f vl vm vs n vis vhss w) (hn:n<f.least∨f.most<n):
    Calls Tryz.prog 37 #[.func (.yield l) #[] #[],.pointer (some ⟨fx,0,none⟩),.pointer (some ⟨rx,0,none⟩)] w fun e w'=>(∃v,e=.returned v)∧w=w':=by
  have c0:=qc _ _ 0 _ 24 (0,0) h.x;have c1:=qc _ _ 0 _ 3 (0,0) h.r;have Hc:=check_form B fb f vl vm vs n w h.fm;rw[if_pos hn] at Hc;have HC:=qh Hc;clear Hc h hn;go_enter Tryz.func37,Tryz.ntmps37;go_wp2_with fail;refine HC.out.mono ?_;rintro e w2 ⟨rfl,rfl⟩;go_wp2_with fail
  (try simp only[Exit.inBlock,Exit.then])
  refine bodyPost_ret (results_none rfl _ _ _) rfl ?_;exact⟨⟨_,rfl⟩,rfl⟩
theorem each_all (m:Nat) (hm1:1≤m) (B fb fx rx:Nat) (f:Fm) (vl vm vs:Value) (n:Int) (vis:List Value) (vhss:Nat→List Value) (i:Nat) (w:World) (hk:FmOk f i) (hi:i≤65536):
    SeqR KeepsSt (EachM B fb fx rx f vl vm vs n vis vhss) Fence.wide m Tryz.prog 37 #[.pointer (some ⟨fx,0,none⟩),.pointer (some ⟨rx,0,none⟩)] ydEncs (ydFits w.heap.size (demandsE f n)) (fun xs=>Enum xs (demandsE f n)) (fun pre=>pre≠[]∧∃ds,ds<+:demandsE f n∧Enum pre ds) (demandsE f n).length w:=by
  by_cases hn:n<f.least∨f.most<n
  · have e:demandsE f n=[]:=by unfold demandsE;rw[if_pos hn]
    rw[e];intro l J Jx W hW hJ hJx hB hY h0;refine(callsIn_wide (n:=m)).2 ((each1_off l B fb fx rx f vl vm vs n vis vhss W (hB [] W h0) hn).mono ?_);rintro e W' ⟨hv,rfl⟩;exact⟨hv,.inl ⟨[],Enum.nil,h0⟩⟩
  · have e:demandsE f n=demandsP f n:=by unfold demandsE;rw[if_neg hn]
    rw[e];obtain⟨N,rfl⟩:∃N:Nat,n=(N:Int):=⟨n.toNat,by have:=hk.l0;omega⟩;exact each_seq m hm1 B fb fx rx f vl vm vs N vis vhss i w hk hi (by omega) (by omega)

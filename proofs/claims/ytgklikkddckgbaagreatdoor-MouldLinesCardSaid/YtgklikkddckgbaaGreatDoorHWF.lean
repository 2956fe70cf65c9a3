import Derived.Test.YtgklikkddckgbaaGreatDoorHWC
import Derived.Test.YtgklikkddckgbaaGreatDoorHWE
set_option linter.all false
namespace Go.Proofs.YtgklikkddckgbaaGreatDoor.Mo
open Go.RowKit
theorem dm_cells {w:World} {g k:Nat} {d:Dm} {v:Value} (h:∀o,o<9→w.cell? ⟨g,k*9+o,none⟩=(dmC d v)[o]?):w.cell? ⟨g,k*9,none⟩=some (.int .i64 d.stz)∧w.cell? ⟨g,k*9+1,none⟩=some (.int .i64 d.cls)∧w.cell? ⟨g,k*9+2,none⟩=some (.int .i64 d.ref)∧w.cell? ⟨g,k*9+3,none⟩=some (.int .i64 d.met)∧w.cell? ⟨g,k*9+4,none⟩=some (.int .i64 d.syl)∧w.cell? ⟨g,k*9+5,none⟩=some (.int .i64 d.same)∧w.cell? ⟨g,k*9+6,none⟩=some (.int .i64 d.ends)∧w.cell? ⟨g,k*9+7,none⟩=some v∧w.cell? ⟨g,k*9+8,none⟩=some (.int .i32 d.beg):=
  ⟨h 0 (by decide),h 1 (by decide),h 2 (by decide),h 3 (by decide),h 4 (by decide),h 5 (by decide),h 6 (by decide),h 7 (by decide),h 8 (by decide)⟩
theorem len_sum:∀l:List Int,(∀z∈l,1≤z)→(l.length:Int)≤l.sum
  |[],_=>by simp
  |y::ys,hy=>by
   have h1:=hy y (by simp);have h2:=len_sum ys (fun z hz=>hy z (by simp[hz]));simp only[List.length_cons,List.sum_cons];push_cast;omega
set_option maxRecDepth 100000 in
set_option maxHeartbeats 4000000 in
theorem alike_any (B1 B2 n c1 c2:Nat) (A1 A2:Option Addr) (ds:List Dm) (x1 x2:List YD) (w:World) (h1:DmsM w B1 (.slice A1 n c1) x1) (h2:DmsM w B2 (.slice A2 n c2) x2) (e1:x1.map YD.d=ds) (e2:x2.map YD.d=ds) (hn:ds.length=n) (hb:n≤33554432):
    Calls Tryz.prog 25 #[.slice A1 n c1,.slice A2 n c2] w fun e w'=>e=.returned (.bool true)∧Below w.heap.size w w':=by
  have H1:=qh (And.intro h1 e1);have H2:=qh (And.intro h2 e2);have Hn:=qh hn;clear h1 h2 e1 e2 hn;go_enter Tryz.func25,Tryz.ntmps25;go_wp2_with fail;go_loopw [5] (fun q wr=>∃k:Nat,k≤n∧q=.int .i64 k∧Hid (Below w.heap.size w wr)) (fun q _=>n-(intOf q).toNat)
  case atStart=>exact⟨0,Nat.zero_le _,rfl,qh (qb _ _)⟩
  case round=>
    rename World=>wr
    obtain⟨k,hk,rfl,hbr⟩:=hrel;by_cases hlt:k<n
    · obtain⟨g1,d,Ah1,ch1,rfl,hg1,hd1,hc1,ho1,hf1⟩:=dms_at H1.out.1 H1.out.2 Hn.out hlt
      obtain⟨g2,d2,Ah2,ch2,rfl,hg2,hd2,hc2,ho2,hf2⟩:=dms_at H2.out.1 H2.out.2 Hn.out hlt;obtain rfl:d=d2:=Option.some.inj (hd1.symm.trans hd2);have p:=fun o ho=>(hbr.out.cell (p:=⟨g1,k*9+o,none⟩) hg1).trans (hc1 o ho);have q:=fun o ho=>(hbr.out.cell (p:=⟨g2,k*9+o,none⟩) hg2).trans (hc2 o ho);obtain⟨p0,p1,p2,p3,p4,p5,p6,p7,p8⟩:=dm_cells p;obtain⟨q0,q1,q2,q3,q4,q5,q6,q7,q8⟩:=dm_cells q;have Hs:Hid (∀W,Below wr.heap.size wr W→Calls Tryz.prog 19 #[.agg (dmC d (.slice Ah1 d.has.length ch1)),.agg (dmC d (.slice Ah2 d.has.length ch2))] W fun e w'=>e=.returned (.bool true)∧Below W.heap.size W w'):=qh (fun W hW=>same_any B1 B2 d _ _ W (own_kT ho1 (KeepT.of_below [] (bel_on hbr.out hW)) (by simp)) (own_kT ho2 (KeepT.of_below [] (bel_on hbr.out hW)) (by simp)) hf1);simp only[dmC] at Hs;have hg1r:g1<wr.heap.size:=Nat.lt_of_lt_of_le hg1 hbr.out.size;have hg2r:g2<wr.heap.size:=Nat.lt_of_lt_of_le hg2 hbr.out.size;clear p q hc1 hc2 ho1 ho2 hd1 hd2;go_wp2_with fail;go_region_held3 (fun w'=>Below wr.heap.size wr w'∧∀b o,b<wr.heap.size→w'.cell? ⟨b,o,none⟩=wr.cell? ⟨b,o,none⟩) (((repeat (apply ze2;assumption));exact startS)) (first|(go_at_call 19;refine(Hs.out _ (by first|exact startS.1|exact And.left (by assumption))).mono ?_;rintro e w9 ⟨rfl,hb9⟩))
      have hS9:Below wr.heap.size wr w9:=And.left (by assumption);have Hb9:=qh (bel_on hbr.out hS9);clear Hs hS9 hb9;go_wp2_with fail;go_roundw
      case rel=>exact⟨k+1,by omega,by go_num,Hb9⟩
      case measure=>simp[intOf];omega
    · obtain rfl:k=n:=by omega
      go_wp2_with fail;go_ret;exact⟨rfl,hbr.out⟩
def rhC (ds:List Dm):List Value:=ds.flatMap fun d=>[.int .i64 d.cls,.int .i64 d.ref]
structure SchM (w:World) (B:Nat) (vl vz:Value) (ds:List Dm) (zs:List Int):Prop where
  l:w.ownsRow B 42 2 vl ds.length (rhC ds)
  z:w.ownsRow B 3 1 vz zs.length (intC zs)
theorem rhC_get:∀(ds:List Dm) (k:Nat) (d:Dm),ds[k]?=some d→(rhC ds)[k*2]?=some (.int .i64 d.cls)∧(rhC ds)[k*2+1]?=some (.int .i64 d.ref)
  |[],k,d,h=>by simp at h
  |x::ds,0,d,h=>by
   simp at h;subst h;exact⟨rfl,rfl⟩
  |x::ds,k+1,d,h=>by
   have ih:=rhC_get ds k d (by simpa using h);unfold rhC at ih⊢;rw[List.flatMap_cons];refine⟨?_,?_⟩
   · rw[List.getElem?_append_right (by simp;omega),←ih.1]
     congr 1
     simp;omega
   · rw[List.getElem?_append_right (by simp;omega),←ih.2]
     congr 1
     simp;omega
theorem rhC_snoc (ds:List Dm) (d:Dm):rhC (ds++[d])=rhC ds++[.int .i64 d.cls,.int .i64 d.ref]:=by unfold rhC;simp
theorem SchM.line {w:World} {B n c:Nat} {A:Option Addr} {vz:Value} {ds:List Dm} {zs:List Int} (h:SchM w B (.slice A n c) vz ds zs) (hn:ds.length=n) {k:Nat} (hk:k<n):
    ∃(g:Nat) (d:Dm),A=some ⟨g,0,none⟩∧g<w.heap.size∧ds[k]?=some d∧w.cell? ⟨g,k*2,none⟩=some (.int .i64 d.cls)∧w.cell? ⟨g,k*2+1,none⟩=some (.int .i64 d.ref):=by
  have hl:=h.l;rw[hn] at hl;have hd:ds[k]?=some ds[k]:=by simp
  have hg:=rhC_get ds k _ hd;rcases hl.2 with⟨_,e0⟩|⟨g,cap,cur,e,_,hgb,hcap,_⟩
  · omega
  · cases e
    exact⟨g,ds[k],rfl,(qg hgb).1,hd,(hl.cellAt (k*2) (by omega)).trans hg.1,(hl.cellAt (k*2+1) (by omega)).trans hg.2⟩
theorem SchM.stz {w:World} {B n c:Nat} {A:Option Addr} {vl:Value} {ds:List Dm} {zs:List Int} (h:SchM w B vl (.slice A n c) ds zs) (hn:zs.length=n) {k:Nat} (hk:k<n):
    ∃g:Nat,A=some ⟨g,0,none⟩∧g<w.heap.size∧w.cell? ⟨g,k,none⟩=some (.int .i64 (zs.getD k 0)):=by
  obtain⟨A2,c2,e,_,hr⟩:=zdO h.z;cases e;obtain⟨g,rfl,hg,hc⟩:=hr (by omega);exact⟨g,rfl,hg,hc k (by omega)⟩
theorem sum_get:∀(zs:List Int) (k:Nat),(∀z∈zs,1≤z)→k<zs.length→1≤zs.getD k 0∧(zs.take (k+1)).sum=(zs.take k).sum+zs.getD k 0∧(zs.take (k+1)).sum≤zs.sum∧0≤(zs.take k).sum
  |[],k,_,h=>by simp at h
  |z::zs,0,h,_=>by
   have h1:=h z (by simp);have h2:=expZ_len zs 0 (fun y hy=>by have:=h y (by simp[hy]);omega);simp;omega
  |z::zs,k+1,h,hk=>by
   have h1:=h z (by simp);obtain⟨a,b,c,d⟩:=sum_get zs k (fun y hy=>h y (by simp[hy])) (by simpa using hk);simp only[List.take_succ_cons,List.sum_cons,List.getD_cons_succ];omega
set_option maxRecDepth 100000 in
set_option maxHeartbeats 4000000 in
theorem check_any (B n c m cz:Nat) (A Az:Option Addr) (ds:List Dm) (zs:List Int) (w:World) (h:SchM w B (.slice A n c) (.slice Az m cz) ds zs) (hn:ds.length=n) (hm:zs.length=m) (hd:∀d∈ds,DmR d) (hz:∀z∈zs,1≤z) (hs:zs.sum=n) (h512:n≤512):
    Calls Tryz.prog 43 #[.agg #[.slice A n c,.slice Az m cz]] w fun e w'=>e=.returned (.int .i64 0)∧Below w.heap.size w w':=by
  obtain⟨W1,hW1⟩:∃W1,w.alloc (.cells #[.slice A n c,.slice Az m cz] 60)=W1:=⟨_,rfl⟩;have hb1:Below w.heap.size w W1:=by rw[←hW1];exact(qb _ _).alloc (ql _) _
  have hx1:W1.heap[w.heap.size]?=some (.cells #[.slice A n c,.slice Az m cz] 60 (0,0)):=by rw[←hW1];exact qn w _
  have b0:=qc _ _ 0 _ _ (0,0) hx1;have b1:=qc _ _ 1 _ _ (0,0) hx1;have H:=qh h;have Hn:=qh hn;have Hm:=qh hm;have Hd:=qh hd;have Hz:=qh hz;have Hs:=qh hs;have HW1:=qh hW1;have Hb1:=qh hb1;have Hx1:=qh hx1
  have hm2:m≤n:=by
    have:=len_sum zs hz;omega
  clear h hn hm hd hz hs hW1 hb1 hx1;go_enter Tryz.func43,Tryz.ntmps43;go_wp2_with fail;rw[HW1.out];go_loopw [3,5,16] (fun t3 t5 q wr=>∃k:Nat,k≤m∧q=.int .i64 k∧t3=.int .i64 ((n:Int)-(zs.take k).sum)∧wr=W1) (fun _ _ q _=>m-(intOf q).toNat)
  case atStart=>exact⟨0,Nat.zero_le _,rfl,by simp,rfl⟩
  case round=>
    obtain⟨k,hk,rfl,rfl,hwr⟩:=hrel;rw[hwr];clear hwr;by_cases hlt:k<m
    · obtain⟨g,rfl,hg,hc⟩:=H.out.stz Hm.out hlt
      have q0:=(Hb1.out.cell (p:=⟨g,k,none⟩) hg).trans hc;obtain⟨s1,s2,s3,s4⟩:=sum_get zs k Hz.out (by rw[Hm.out];exact hlt);have Hs2:=qh s2;rw[Hs.out] at s3;generalize zs.getD k 0=z at*;generalize (zs.take k).sum=S at*;have g1:decide (z<1)=false:=qd (by omega);have g2:decide (z>(n:Int)-S)=false:=qd (by omega);have w1:IntKind.i64.wrap ((n:Int)-S-z)=(n:Int)-S-z:=qi _ (by omega);clear hc s1 s2 s3 s4;go_wp2_with fail;go_roundw
      case rel=>exact⟨k+1,by omega,by go_num,by rw[Hs2.out];congr 1;omega,by first|rfl|trivial⟩
      case measure=>simp[intOf];omega
    · obtain rfl:k=m:=by omega
      rw[←Hm.out,List.take_length,Hs.out,Int.sub_self];rw[Hm.out];go_wp2_with fail;go_loopw [7,34] (fun t7 q wr=>∃k:Nat,k≤n∧q=.int .i64 k∧Hid (Below W1.heap.size W1 wr)) (fun _ q _=>n-(intOf q).toNat)
      case atStart=>exact⟨0,Nat.zero_le _,rfl,qh (qb _ _)⟩
      case round=>
        rename World=>wr
        obtain⟨j,hj,rfl,hbr⟩:=hrel;by_cases hlt2:j<n
        · obtain⟨g,d,rfl,hg,hdj,hc0,hc1⟩:=H.out.line Hn.out hlt2
          have hgr:=Hd.out d (List.mem_of_getElem? hdj);have hbw:=Hb1.out.trans (hbr.out.mono Hb1.out.size);have q0:=(hbw.cell (p:=⟨g,j*2,none⟩) hg).trans hc0;have q1:=(hbw.cell (p:=⟨g,j*2+1,none⟩) hg).trans hc1;have HB:Hid (∀o,Below W1.heap.size W1 (wr.alloc o)):=qh (fun o=>hbr.out.alloc hbr.out.size o);obtain⟨c1,c2⟩:=hgr.c;obtain⟨r1,r2⟩:=hgr.r;have hx:=hgr.x;have g1:decide (d.cls< -1)=false:=qd (by omega);have g2:decide (d.cls≥25)=false:=qd (by omega);have g3:decide (d.ref<0)=false:=qd (by omega);have g4:decide (d.ref>9)=false:=qd (by omega);clear hgr hbw hc0 hc1 hdj;by_cases hc:d.cls= -1
          · have hr:=hx hc
            have e1:(d.cls== -1)=true:=(by simpa using hc);have e2:(d.ref==0)=true:=(by simpa using hr);clear hx;go_wp2_with fail;go_roundw
            case rel=>exact⟨j+1,by omega,by go_num,HB.out _⟩
            case measure=>simp[intOf];omega
          · clear hx
            have e1:(d.cls== -1)=false:=(by simpa using hc);go_wp2_with fail;go_roundw
            case rel=>exact⟨j+1,by omega,by go_num,HB.out _⟩
            case measure=>simp[intOf];omega
        · obtain rfl:j=n:=by omega
          go_wp2_with fail;go_ret;exact⟨rfl,Hb1.out.trans (hbr.out.mono Hb1.out.size)⟩
set_option maxRecDepth 100000 in
set_option maxHeartbeats 4000000 in
theorem may_any (B n c m cz:Nat) (A Az:Option Addr) (ds:List Dm) (zs:List Int) (w:World) (h:SchM w B (.slice A n c) (.slice Az m cz) ds zs) (hn:ds.length=n) (hm:zs.length=m) (hd:∀d∈ds,DmR d) (hz:∀z∈zs,1≤z) (hs:zs.sum=n) (h512:n≤512):
    Calls Tryz.prog 44 #[.agg #[.slice A n c,.slice Az m cz]] w fun e w'=>e=.returned (.bool true)∧Below w.heap.size w w':=by
  obtain⟨W1,hW1⟩:∃W1,w.alloc (.cells #[.slice A n c,.slice Az m cz] 60)=W1:=⟨_,rfl⟩;have hb1:Below w.heap.size w W1:=by rw[←hW1];exact(qb _ _).alloc (ql _) _
  have hx1:W1.heap[w.heap.size]?=some (.cells #[.slice A n c,.slice Az m cz] 60 (0,0)):=by rw[←hW1];exact qn w _
  have b0:=qc _ _ 0 _ _ (0,0) hx1;have b1:=qc _ _ 1 _ _ (0,0) hx1;have H:=qh h;have Hn:=qh hn;have Hm:=qh hm;have Hd:=qh hd;have Hz:=qh hz;have Hs:=qh hs;have HW1:=qh hW1;have Hb1:=qh hb1;have Hx1:=qh hx1
  have hm2:m≤n:=by
    have:=len_sum zs hz;omega
  clear h hn hm hd hz hs hW1 hb1 hx1;go_enter Tryz.func44,Tryz.ntmps44;go_wp2_with fail;rw[HW1.out];go_loopw [3,5,18] (fun t3 t5 q wr=>∃k:Nat,k≤m∧q=.int .i64 k∧t3=.int .i64 ((n:Int)-(zs.take k).sum)∧wr=W1) (fun _ _ q _=>m-(intOf q).toNat)
  case atStart=>exact⟨0,Nat.zero_le _,rfl,by simp,rfl⟩
  case round=>
    obtain⟨k,hk,rfl,rfl,hwr⟩:=hrel;rw[hwr];clear hwr;by_cases hlt:k<m
    · obtain⟨g,rfl,hg,hc⟩:=H.out.stz Hm.out hlt
      have q0:=(Hb1.out.cell (p:=⟨g,k,none⟩) hg).trans hc;obtain⟨s1,s2,s3,s4⟩:=sum_get zs k Hz.out (by rw[Hm.out];exact hlt);have Hs2:=qh s2;rw[Hs.out] at s3;generalize zs.getD k 0=z at*;generalize (zs.take k).sum=S at*;have g1:decide (z<1)=false:=qd (by omega);have g2:decide (z>(n:Int)-S)=false:=qd (by omega);have w1:IntKind.i64.wrap ((n:Int)-S-z)=(n:Int)-S-z:=qi _ (by omega);clear hc s1 s2 s3 s4;go_wp2_with fail;go_roundw
      case rel=>exact⟨k+1,by omega,by go_num,by rw[Hs2.out];congr 1;omega,by first|rfl|trivial⟩
      case measure=>simp[intOf];omega
    · obtain rfl:k=m:=by omega
      rw[←Hm.out,List.take_length,Hs.out,Int.sub_self];rw[Hm.out];go_wp2_with fail;go_loopw [7,36] (fun t7 q wr=>∃k:Nat,k≤n∧q=.int .i64 k∧Hid (Below W1.heap.size W1 wr)) (fun _ q _=>n-(intOf q).toNat)
      case atStart=>exact⟨0,Nat.zero_le _,rfl,qh (qb _ _)⟩
      case round=>
        rename World=>wr
        obtain⟨j,hj,rfl,hbr⟩:=hrel;by_cases hlt2:j<n
        · obtain⟨g,d,rfl,hg,hdj,hc0,hc1⟩:=H.out.line Hn.out hlt2
          have hgr:=Hd.out d (List.mem_of_getElem? hdj);have hbw:=Hb1.out.trans (hbr.out.mono Hb1.out.size);have q0:=(hbw.cell (p:=⟨g,j*2,none⟩) hg).trans hc0;have q1:=(hbw.cell (p:=⟨g,j*2+1,none⟩) hg).trans hc1;have HB:Hid (∀o,Below W1.heap.size W1 (wr.alloc o)):=qh (fun o=>hbr.out.alloc hbr.out.size o);obtain⟨c1,c2⟩:=hgr.c;obtain⟨r1,r2⟩:=hgr.r;have hx:=hgr.x;have g1:decide (d.cls< -1)=false:=qd (by omega);have g2:decide (d.cls≥25)=false:=qd (by omega);have g3:decide (d.ref<0)=false:=qd (by omega);have g4:decide (d.ref>9)=false:=qd (by omega);clear hgr hbw hc0 hc1 hdj;by_cases hc:d.cls= -1
          · have hr:=hx hc
            have e1:decide (d.cls<0)=true:=qt (by omega);have e2:decide (d.ref>0)=false:=qd (by omega);clear hx;go_wp2_with fail;go_roundw
            case rel=>exact⟨j+1,by omega,by go_num,HB.out _⟩
            case measure=>simp[intOf];omega
          · clear hx
            have e1:decide (d.cls<0)=false:=qd (by omega);go_wp2_with fail;go_roundw
            case rel=>exact⟨j+1,by omega,by go_num,HB.out _⟩
            case measure=>simp[intOf];omega
        · obtain rfl:j=n:=by omega
          go_wp2_with fail;go_ret;exact⟨rfl,Hb1.out.trans (hbr.out.mono Hb1.out.size)⟩

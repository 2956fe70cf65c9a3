import Derived.Test.YtgklikkddckgbaaGreatDoorHWF
set_option linter.all false
namespace Go.Proofs.YtgklikkddckgbaaGreatDoor.Mo
open Go.RowKit
set_option maxRecDepth 100000 in
set_option maxHeartbeats 4000000 in
theorem schemed_any (B B2 n c c2 m cz:Nat) (A A2 Az:Option Addr) (ds:List Dm) (zs:List Int) (xs:List YD) (w:World) (h:SchM w B (.slice A n c) (.slice Az m cz) ds zs) (hx:DmsM w B2 (.slice A2 n c2) xs) (hxd:xs.map YD.d=ds) (hn:ds.length=n) (hm:zs.length=m) (hd:∀d∈ds,DmR d) (hg:ZG ds zs) (h512:n≤512):
    Calls Tryz.prog 26 #[.agg #[.slice A n c,.slice Az m cz],.slice A2 n c2] w fun e w'=>e=.returned (.bool true)∧Below w.heap.size w w':=by
  have hpos:∀z∈zs,0≤z:=fun z hz=>by have:=hg.p z hz;omega
  have hs:zs.sum=n:=by
    have:=expZ_len zs 0 hpos;rw[←hg.e,List.length_map,hn] at this;exact this.symm
  obtain⟨W1,hW1⟩:∃W1,w.alloc (.cells #[.slice A n c,.slice Az m cz] 60)=W1:=⟨_,rfl⟩;have hb1:Below w.heap.size w W1:=by rw[←hW1];exact(qb _ _).alloc (ql _) _
  have hx1:W1.heap[w.heap.size]?=some (.cells #[.slice A n c,.slice Az m cz] 60 (0,0)):=by rw[←hW1];exact qn w _
  have b0:=qc _ _ 0 _ _ (0,0) hx1;have b1:=qc _ _ 1 _ _ (0,0) hx1;have k1:=KeepT.of_below [] hb1;have Hmay:=qh (may_any B n c m cz A Az ds zs W1 ⟨own_kT h.l k1 (by simp),own_kT h.z k1 (by simp)⟩ hn hm hd hg.p hs h512);have H:=qh h;have Hx:=qh hx;have Hxd:=qh hxd;have Hn:=qh hn;have Hm:=qh hm;have Hg:=qh hg;have Hpos:=qh hpos;have Hs:=qh hs;have HW1:=qh hW1;have Hb1:=qh hb1;have Hx1:=qh hx1
  have hm2:m≤n:=by
    have:=len_sum zs hg.p;omega
  clear h hx hxd hn hm hd hg hpos hs hW1 hb1 hx1 k1;go_enter Tryz.func26,Tryz.ntmps26;go_wp2_with fail;rw[HW1.out];refine Hmay.out.mono ?_;rintro e w2 ⟨rfl,hb2⟩;have hx2:=row_at Hx1.out hb2;have c0:=qc _ _ 0 _ _ (0,0) hx2;have Hx2:=qh hx2;have Hb2:=qh (bel_on Hb1.out hb2);clear b0 b1 hb2 hx2;go_wp2_with fail;clear c0;go_loopw [6,7,8] (fun t6 t7 t8 wr=>∃i:Nat,i≤m∧t7=.int .i64 i∧t6=.int .i64 (zs.take i).sum∧Hid (Below w2.heap.size w2 wr)) (fun _ t7 _ _=>m-(intOf t7).toNat)
  case atStart=>exact⟨0,Nat.zero_le _,rfl,by simp,qh (qb _ _)⟩
  case round=>
    rename World=>wr
    obtain⟨i,hi,rfl,rfl,hbr⟩:=hrel;have hxr:=row_at Hx2.out hbr.out;have c1:=qc _ _ 1 _ _ (0,0) hxr;clear hxr;by_cases hlt:i<m
    · obtain⟨s1,s2,s3,s4⟩:=sum_get zs i Hg.out.p (by rw[Hm.out];exact hlt)
      have Hs2:=qh s2;have Hget:=qh (fun k hk=>expZ_get zs 0 i k Hpos.out (by rw[Hm.out];exact hlt) hk);rw[Hs.out] at s3;obtain⟨S,hS⟩:∃S:Nat,(zs.take i).sum=(S:Int):=⟨((zs.take i).sum).toNat,by omega⟩;obtain⟨z,hz⟩:∃z:Nat,zs.getD i 0=(z:Int):=⟨(zs.getD i 0).toNat,by omega⟩;rw[hS,Int.toNat_natCast,hz] at Hget;have Hzi:=qh hz;rw[hS,hz] at Hs2;have hSz:S+z≤n:=(by omega);rw[hS];have Hbr:=hbr;clear s1 s2 s3 s4 hS hz c1;obtain⟨wb,hwb⟩:∃wb,wb=wr:=⟨_,rfl⟩;rw[←hwb] at Hbr hbr⊢;clear hwb;have hxr:=row_at Hx2.out hbr.out;have c1:=qc _ _ 1 _ _ (0,0) hxr;clear hxr;go_wp2_with fail;clear c1;go_loopw [6,8] (fun t6 t8 wr=>∃k:Nat,k≤z∧t8=.int .i64 k∧t6=.int .i64 ((S+k:Nat):Int)∧Hid (Below w2.heap.size w2 wr)) (fun _ t8 _=>z-(intOf t8).toNat)
      case atStart=>exact⟨0,Nat.zero_le _,rfl,by simp,Hbr⟩
      case round=>
        rename World=>wi
        obtain⟨k,hk,rfl,rfl,hbi⟩:=hrel;have hxi:=row_at Hx2.out hbi.out;have c0:=qc _ _ 0 _ _ (0,0) hxi;have c1:=qc _ _ 1 _ _ (0,0) hxi;have hbw:=bel_on Hb2.out hbi.out;obtain⟨gz,rfl,hgz,hcz⟩:=H.out.stz Hm.out hlt;have z0:=(hbw.cell (p:=⟨gz,i,none⟩) hgz).trans hcz;rw[Hzi.out] at z0;clear hcz;by_cases hlt2:k<z
        · have hln:S+k<n:=by omega
          obtain⟨gl,d,rfl,hgl,hdj,hl0,hl1⟩:=H.out.line Hn.out hln;obtain⟨g2,d2,Ah,ch,rfl,hg2,hd2,hc2,_,_⟩:=dms_at Hx.out Hxd.out Hn.out hln;obtain rfl:d=d2:=Option.some.inj (hdj.symm.trans hd2);have p0:=(hbw.cell (p:=⟨gl,(S+k)*2,none⟩) hgl).trans hl0;have p1:=(hbw.cell (p:=⟨gl,(S+k)*2+1,none⟩) hgl).trans hl1;have q0:wi.cell? ⟨g2,(S+k)*9,none⟩=some (.int .i64 d.stz):=(hbw.cell (p:=⟨g2,(S+k)*9,none⟩) hg2).trans (hc2 0 (by decide));have q1:wi.cell? ⟨g2,(S+k)*9+1,none⟩=some (.int .i64 d.cls):=(hbw.cell (p:=⟨g2,(S+k)*9+1,none⟩) hg2).trans (hc2 1 (by decide));have q2:wi.cell? ⟨g2,(S+k)*9+2,none⟩=some (.int .i64 d.ref):=(hbw.cell (p:=⟨g2,(S+k)*9+2,none⟩) hg2).trans (hc2 2 (by decide))
          have hstz:d.stz=(i:Int):=by
            have h1:=Hget.out k (by omega);rw[←Hg.out.e,List.getElem?_map,hdj] at h1;simpa using h1
          rw[hstz] at q0;have HB:=qh (fun n=>zc3 hbi.out n);clear hl0 hl1 hc2 hdj hd2 hstz hbw hxi;generalize hSk:S+k=L at*;go_wp2_with fail;go_quiet (fail)
          go_wp2_with fail;go_roundw
          case rel=>exact⟨k+1,by omega,by go_num,by first|(congr 1;omega)|(go_num;omega),qh (HB.out _)⟩
          case measure=>simp[intOf];omega
        · obtain rfl:k=z:=by omega
          clear hbw hxi c0;go_wp2_with fail;go_roundw
          case rel=>exact⟨i+1,by omega,by go_num,by rw[Hs2.out];congr 1,hbi⟩
          case measure=>simp[intOf];omega
    · obtain rfl:i=m:=by omega
      rw[←Hm.out,List.take_length,Hs.out];rw[Hm.out];have Hf:=qh (bel_on Hb2.out hbr.out);go_wp2_with fail;go_ret;exact⟨by first|rfl|simp,Hf.out⟩

import Derived.Test.YtgklikkddckgbaaGreatDoorLZN
import Derived.Deep.Cut
/- Lemmas. -/
set_option linter.all false
set_option maxRecDepth 100000
set_option maxHeartbeats 8000000
namespace Go.Proofs.YtgklikkddckgbaaGreatDoor.Mo
open Go.RowKit
theorem CM.below {B E:Nat} {m:Met} {vf ve vb:Value} {vs:List Value} {W W':World} (h:CM B E m vf ve vb vs W) (hb:Below W.heap.size W W'):CM B E m vf ve vb vs W':=
  ⟨h.vl,h.gO.kept (Zq hb none) ZH,λk hk=>(h.gR k hk).kept (Zq hb none) ZH,h.ends.kept (Zq hb none) ZH,h.gS.kept (Zq hb none) ZH,h.ah⟩
theorem CM.grown {B E B' z n:Nat} {m:Met} {v vf ve vb:Value} {vs xs:List Value} {W W':World} (h:CM B E m vf ve vb vs W) (ho:W.ownsRow B' 79 z v n xs) (hg:W.grownBy W' v.ownBlock):CM B E m vf ve vb vs W':=
  ⟨h.vl,h.gO.kept hg (Zu h.gO ho (by decide)),λk hk=>(h.gR k hk).kept hg (Zu (h.gR k hk) ho (by decide)),h.ends.kept hg (Zu h.ends ho (by decide)),h.gS.kept hg (Zu h.gS ho (by decide)),h.ah⟩
theorem CM.mono {B C E:Nat} {m:Met} {vf ve vb:Value} {vs:List Value} {W:World} (h:CM B E m vf ve vb vs W) (hC:C<=B):CM C E m vf ve vb vs W:=
  ⟨h.vl,Jc h.gO hC,λk hk=>Jc (h.gR k hk) hC,Jc h.ends hC,Jc h.gS hC,h.ah⟩
structure MsC (B:Nat) (ms:List Met) (n:Nat) (v:Value) (cs:List (Value×Value×Value)) (us:Nat->List Value) (lo:Nat->Nat) (W:World):Prop where
  nn:cs.length=n
  o:W.ownsRow B 79 3 v n (vS cs)
  m:∀k,k<n->CM (lo k) (lo (k+1)) (ms.getD k yO) (cs.getD k default).1 (cs.getD k default).2.1 (cs.getD k default).2.2 (us k) W
  up:∀i j,i<=j->j<=n->lo i<=lo j
  low:B<=lo 0
  top:lo n<=W.heap.size
theorem MsC.start (B:Nat) (ms:List Met) (W:World) (hB:B<=W.heap.size):MsC B ms 0 (.slice none 0 0) [] (λ_=>[]) (λ_=>B) W:=
  ⟨rfl,zP _ _ _ _,λk hk=>by omega,λ_ _ _ _=>ql _,ql _,hB⟩
theorem MsC.below {B n:Nat} {ms:List Met} {v:Value} {cs:List (Value×Value×Value)} {us:Nat->List Value} {lo:Nat->Nat} {W W':World} (h:MsC B ms n v cs us lo W) (hb:Below W.heap.size W W'):MsC B ms n v cs us lo W':=
  ⟨h.nn,h.o.kept (Zq hb none) ZH,λk hk=>(h.m k hk).below hb,h.up,h.low,qm h.top hb.size⟩
theorem MsC.step {B n:Nat} {ms:List Met} {v v5 vf ve vb:Value} {cs:List (Value×Value×Value)} {us:Nat->List Value} {vs:List Value} {lo:Nat->Nat} {W W9 w5:World} (h:MsC B ms n v cs us lo W) (hb:Below W.heap.size W W9)
    (hc:CM W.heap.size W9.heap.size (ms.getD n yO) vf ve vb vs W9) (ho:w5.ownsRow B 79 3 v5 (n+1) (vS cs++[vf,ve,vb])) (hg:W9.grownBy w5 v.ownBlock):
    MsC B ms (n+1) v5 (cs++[(vf,ve,vb)]) (λk=>if k=n then vs else us k) (λk=>if k=n+1 then W9.heap.size else lo k) w5:=by
  have h9:=h.below hb;have hlen:=h.nn;refine⟨by simp[hlen],by rw[zeH];exact ho,λk hk=>?_,λi j hij hj=>?_,?_,?_⟩
  · by_cases e:k=n
    · subst e
      have e1:(cs++[(vf,ve,vb)]).getD k default=(vf,ve,vb):=(by rw[qj,zD (by omega),hlen,xH];rfl);have e2:¬k=k+1:=(by omega);simp only[e1,kt,qx e2];exact(hc.grown h9.o hg).mono h.top
    · have hk':k<n:=by omega
      have e1:(cs++[(vf,ve,vb)]).getD k default=cs.getD k default:=(by rw[qj,qj,qQ (by omega)]);have e2:¬k=n+1:=(by omega);have e3:¬k+1=n+1:=(by omega);simp only[e1,qx e,qx e2,qx e3];exact(h9.m k hk').grown h9.o hg
  · by_cases e:j=n+1
    · by_cases e':i=n+1
      · simp only[e,e',kt];exact ql _
      · simp only[e,kt,qx e']
        exact qm (h.up i n (by omega) (ql _)) (qm h.top hb.size)
    · have e':¬i=n+1:=by omega
      simp only[qx e,qx e'];exact h.up i j hij (by omega)
  · have e:¬0=n+1:=by omega
    simp only[qx e];exact h.low
  · simp only[kt]
    exact hg.size
theorem Zy.raw {w:World} {B:Nat} {v:Value} {ms:List Met} {cs:List (Value×Value×Value)} (h:Zy w B v ms cs):∃A c,v=.slice A ms.length c/\∀k,k<ms.length->∃g Af Ae Ab cf ce cb vs,A=some ⟨g,0,none⟩/\g<w.heap.size/\
    w.cell? ⟨g,k*3,none⟩=some (.slice Af (ms.getD k yO).gO.length cf)/\w.cell? ⟨g,k*3+1,none⟩=some (.slice Ae (ms.getD k yO).ends.length ce)/\w.cell? ⟨g,k*3+2,none⟩=some (.slice Ab (ms.getD k yO).gS.length cb)/\OM w B (ms.getD k yO) (.slice Af (ms.getD k yO).gO.length cf) (.slice Ae (ms.getD k yO).ends.length ce) (.slice Ab (ms.getD k yO).gS.length cb) vs:=by
  have hlen:=ui cs;rw[h.n] at hlen;rcases h.o.2 with⟨rfl,h0⟩|⟨g,cap,cur,rfl,_,hg,hcap,_⟩
  · rw[h0];exact⟨none,0,rfl,λk hk=>by omega⟩
  · refine⟨_,cap,rfl,λk hk=>?_⟩
    obtain⟨_,vs,ho⟩:=h.m k hk;obtain⟨Af,cf,e1⟩:=pJ ho.gO;obtain⟨Ae,ce,e2⟩:=pJ ho.ends;obtain⟨Ab,cb,e3⟩:=pJ ho.gS;have hget:=uj cs k (by rw[h.n];exact hk);rw[e1,e2,e3] at hget ho;exact⟨g,Af,Ae,Ab,cf,ce,cb,vs,rfl,(qg hg).1,(h.o.cellAt (k*3) (by omega)).trans hget.1,(h.o.cellAt (k*3+1) (by omega)).trans hget.2.1,(h.o.cellAt (k*3+2) (by omega)).trans hget.2.2,ho⟩
theorem zoF (B fb:Nat) (f:Fm) (vl vm vs:Value) (w:World) (h:pL w B fb f vl vm vs) (hm:∀m∈f.gQ,vp m=true) (hn:f.gQ.length<=65536):
    Calls Tryz.prog 33 #[.pointer (some ⟨fb,0,none⟩)] w λe w'=>∃v cs us lo,e=.returned v/\MsC w.heap.size f.gQ f.gQ.length v cs us lo w'/\Below w.heap.size w w':=by
  obtain⟨cs0,hM⟩:=h.m;obtain⟨A,c,rfl,hat⟩:=hM.raw;have q2:w.cell? ⟨fb,2,none⟩=some (.slice A f.gQ.length c):=qc _ _ 2 _ _ (0,0) h.x;have XX:=qh hat;have Hm:=qh hm;clear h hM hat hm;go_enter Tryz.func33,Tryz.ntmps33;go_wp2_with fail;go_loopw [3,5,13] (λt3 t5 i wr=>∃(n:Nat) (cs:List (Value×Value×Value)) (us:Nat->List Value) (lo:Nat->Nat),n<=f.gQ.length/\i=.int .i64 n/\Hid (MsC w.heap.size f.gQ n t3 cs us lo wr/\Below w.heap.size w wr)) (λ_ _ i _=>f.gQ.length-(intOf i).toNat)
  case atStart=>exact⟨0,[],_,_,qF _,rfl,qh ⟨MsC.start _ _ _ (ql _),qb _ _⟩⟩
  case round=>
    obtain⟨wi,hwi⟩:∃W:World,W=wr:=⟨_,rfl⟩;subst hwi;obtain⟨n,cs,us,lo,hle,rfl,hI⟩:=hrel;by_cases hlt:n<f.gQ.length
    · obtain⟨g,Af,Ae,Ab,cf,ce,cb,zs,rfl,hg,k0,k1,k2,hO⟩:=XX.out n hlt
      obtain⟨A3,c3,rfl⟩:=pJ hI.out.1.o;have hOi:=OM.below hO hI.out.2;have hmn:vp (f.gQ.getD n yO)=true:=Hm.out _ (by rw[qj,qz hlt];exact qM hlt);have k0':=(hI.out.2.cell (p:=⟨g,n*3,none⟩) hg).trans k0;have k1':=(hI.out.2.cell (p:=⟨g,n*3+1,none⟩) hg).trans k1;have k2':=(hI.out.2.cell (p:=⟨g,n*3+2,none⟩) hg).trans k2;have po:=qh λ(W9 w5:World) (v5 vf ve vb:Value) (vs:List Value)=>hI.out.1.step (W9:=W9) (w5:=w5) (v5:=v5) (vf:=vf) (ve:=ve) (vb:=vb) (vs:=vs);clear k0 k1 k2 hO;generalize f.gQ.getD n yO=m at*;obtain⟨W1,hW1⟩:∃W1,wi.alloc (.cells #[.slice Af m.gO.length cf,.slice Ae m.ends.length ce,.slice Ab m.gS.length cb] 79)=W1:=⟨_,rfl⟩;have hb1:Below wi.heap.size wi W1:=(by rw[<-hW1];exact(qb _ _).alloc (ql _) _);have Qe:=qh (zo9 B m _ _ _ zs W1 (OM.below hOi hb1) hmn);have HW1:=qh hW1;have Hb1:=qh hb1;clear hOi hmn hW1 hb1;go_upto_region 7 with(fail)
      rw[HW1.out];have hx1:W1.heap[wi.heap.size]?=some (.cells #[.slice Af m.gO.length cf,.slice Ae m.ends.length ce,.slice Ab m.gS.length cb] 79 (0,0)):=(by rw[<-HW1.out];exact qn wi _);have e0:=qc _ _ 0 _ _ (0,0) hx1;have e1:=qc _ _ 1 _ _ (0,0) hx1;have e2:=qc _ _ 2 _ _ (0,0) hx1;clear hx1 k0' k1' k2';go_wp2_with fail;refine Qe.out.mono ?_;rintro e w9 ⟨vf,ve,vb,vs',rfl,hcm,pb⟩;obtain⟨Bf,df,rfl⟩:=pJ hcm.gO;obtain⟨Be,de,rfl⟩:=pJ hcm.ends;obtain⟨Bb,db,rfl⟩:=pJ hcm.gS;have Zm:Below wi.heap.size wi w9:=Hb1.out.trans (pb.mono Hb1.out.size);have HoD:=qh (hI.out.1.below Zm).o;have Q2:=qh λ(w5:World) (v5:Value)=>po.out w9 w5 v5 _ _ _ _ Zm (hcm.mono Hb1.out.size);have Hbw:=qh (hI.out.2.trans (Zm.mono hI.out.2.size));have Hsz:=qh λb e=>(HoD.out.lt b e).1;have hW9:w.heap.size<=w9.heap.size:=Hbw.out.size;clear hcm pb Zm e0 e1 e2 po;go_wp2_with (at_builtin;go_loud (refine VL w9 rfl _ _ 26 rfl w.heap.size 79 _ _ 3 72 Tryz.underlying26 zlu zlv zlw zka rfl (by decide) (.slice A3 n c3) n (vS cs) #[.slice Bf m.gO.length df,.slice Be m.ends.length de,.slice Bb m.gS.length db] w9.heap.size rfl rfl rfl HoD.out rfl (by intro u hu;simp at hu;rcases hu with rfl|rfl|rfl<;>rfl) (by unfold maxLen;omega) (by omega) hW9 ?_;intro v5 w5 hown5 hgr5 hl5;have HF5:=qh (Q2.out w5 v5 hown5 hgr5);have Y8:=qh (Hbw.out.grown hgr5 Hbw.out.size Hsz.out);obtain⟨g5,cap5,rfl⟩:=Zv hown5 (by omega);clear hown5 hgr5 hl5));go_roundw
      case rel=>exact⟨n+1,_,_,_,by omega,by go_num,qh ⟨HF5.out,Y8.out⟩⟩
      case measure=>simp[intOf];omega
    · obtain rfl:n=f.gQ.length:=by omega
      obtain⟨A3,c3,rfl⟩:=pJ hI.out.1.o;go_wp2_with fail;go_ret;exact⟨_,cs,us,lo,rfl,hI.out.1,hI.out.2⟩
end Go.Proofs.YtgklikkddckgbaaGreatDoor.Mo

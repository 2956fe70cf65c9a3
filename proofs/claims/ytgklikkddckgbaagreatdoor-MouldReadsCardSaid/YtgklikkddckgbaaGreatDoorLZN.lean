import Derived.Test.YtgklikkddckgbaaGreatDoorLZL
import Derived.Deep.CutBlock
/- Lemmas. -/
set_option linter.all false
set_option maxRecDepth 100000
set_option maxHeartbeats 16000000
namespace Go.Proofs.YtgklikkddckgbaaGreatDoor.Mo
open Go.RowKit
structure CM (B E:Nat) (m:Met) (vf ve vb:Value) (vs:List Value) (W:World):Prop where
  vl:vs.length=m.gO.length
  gO:W.ownsRow B 81 2 vf m.gO.length (Zn m.gO vs)
  gR:∀k,k<m.gO.length->W.ownsRow B 83 2 (vs.getD k yK) (m.gO.getD k default).gR.length (Qu (m.gO.getD k default).gR)
  ends:W.ownsRow B 83 2 ve m.ends.length (Qu m.ends)
  gS:W.ownsRow B 85 2 vb m.gS.length (JC m.gS)
  ah:∀v,v=vf∨v=ve∨v=vb∨v∈vs->∀g,v.ownBlock=some g->g<E
theorem CM.zp5 {B E:Nat} {m:Met} {vf ve vb:Value} {vs:List Value} {W:World} (h:CM B E m vf ve vb vs W) (hb:zmP m):∃Af Ae Ab cf ce cb,vf=.slice Af m.gO.length cf/\ve=.slice Ae m.ends.length ce/\vb=.slice Ab m.gS.length cb/\pW W W.heap.size Af Ae Ab cf ce cb m:=by
  obtain⟨Af,cf,e1,h1,i1⟩:=zoK h.vl h.gO h.gR;obtain⟨Ae,ce,e2,h2,i2⟩:=zds h.ends;obtain⟨Ab,cb,e3,h3,i3⟩:=zob h.gS;exact⟨Af,Ae,Ab,cf,ce,cb,e1,e2,e3,i1,i2,i3,h1,h2,h3,hb⟩
theorem zoM {l:List Way}:∀u∈Qu l,u.oneCell'=true:=by
  intro u hu;unfold Qu at hu;obtain⟨v,_,hv⟩:=List.mem_flatMap.1 hu;simp at hv;rcases hv with rfl|rfl<;>rfl
theorem zpV {l:List (Int×Int)}:∀u∈JC l,u.oneCell'=true:=by
  intro u hu;unfold JC at hu;obtain⟨v,_,hv⟩:=List.mem_flatMap.1 hu;simp at hv;rcases hv with rfl|rfl<;>rfl
theorem gK:∀(fs:List Ft) (vs:List Value),(∀k,k<vs.length->∃A n c,vs.getD k yK=.slice A n c)->∀u∈Zn fs vs,u.oneCell'=true
  |[],_,_,u,h=>by cases h
  |f::fs,[],_,u,h=>by cases h
  |f::fs,v::vs,hv,u,h=>by
   simp only[Zn,zi] at h;rcases h with rfl|rfl|h
   · rfl
   · obtain⟨A,n,c,e⟩:=hv 0 (by simp)
     have e':u=.slice A n c:=(by simpa using e);rw[e'];rfl
   · exact gK fs vs (λk hk=>by have:=hv (k+1) (by simp;omega);simpa using this) u h
theorem ztj {α:Type} (a:List α) (x y:α) (b:List α):(a++y::b).set a.length x=a++x::b:=by
  induction a with
  |nil=>rfl
  |cons h t ih=>simp[ih]
theorem zo8 {α:Type} [Inhabited α] (l:List α) (k:Nat):l.set k (l.getD k default)=l:=by
  apply List.ext_getElem?;intro j;by_cases e:k=j
  · subst e
    by_cases hk:k<l.length
    · rw[List.getElem?_set_self hk,qj,qz hk];rfl
    · rw[List.getElem?_eq_none (by simpa using hk),List.getElem?_eq_none (by omega)]
  · rw[List.getElem?_set_ne e]
structure ClS (w:World) (m:Met) (Af Ae Ab:Option Addr) (cf ce cb:Nat) (vs us:List Value) (W:World):Prop where
  lo:Below w.heap.size w W
  box:W.heap[w.heap.size]?=some (.cells #[.slice Af m.gO.length cf,.slice Ae m.ends.length ce,.slice Ab m.gS.length cb] 79 (0,0))
  res:W.heap[w.heap.size+1]?=some (.cells #[.slice none 0 0,.slice none 0 0,.slice none 0 0] 79 (0,0))
  gO:W.ownsRow w.heap.size 81 2 (.slice Af m.gO.length cf) m.gO.length (Zn m.gO (us++vs.drop us.length))
  gR:∀k,k<us.length->W.ownsRow w.heap.size 83 2 (us.getD k yK) (m.gO.getD k default).gR.length (Qu (m.gO.getD k default).gR)
theorem ClS.below {w:World} {m:Met} {Af Ae Ab:Option Addr} {cf ce cb:Nat} {vs us:List Value} {W W':World} (h:ClS w m Af Ae Ab cf ce cb vs us W) (hb:Below W.heap.size W W'):ClS w m Af Ae Ab cf ce cb vs us W':=
  ⟨h.lo.trans (hb.mono h.lo.size),(hb.block _ (qg h.box).1).trans h.box,(hb.block _ (qg h.res).1).trans h.res,h.gO.kept (Zq hb none) ZH,λk hk=>(h.gR k hk).kept (Zq hb none) ZH⟩
theorem ClS.cell {w:World} {m:Met} {Ae Ab:Option Addr} {g cf ce cb:Nat} {vs us:List Value} {W:World} (h:ClS w m (some ⟨g,0,none⟩) Ae Ab cf ce cb vs us W) (hol:vs.length=m.gO.length) (hi:us.length<m.gO.length):
    W.cell? ⟨g,us.length*2+1,none⟩=some (vs.getD us.length yK)/\(∀o,W.frozen? ⟨g,o,none⟩=false)/\g<W.heap.size/\w.heap.size+1<g:=by
  have hf:=h.gO;have hl:(us++vs.drop us.length).length=m.gO.length:=by simp[hol];omega
  obtain⟨a1,a2⟩:=zcr m.gO (us++vs.drop us.length) us.length hl hi;have hg:=hf.lt g rfl
  have n1:g≠w.heap.size:=by
    rintro rfl;rcases pI hf h.box (by decide) with h0|h0
    · cases h0
    · exact h0 rfl
  have n2:g≠w.heap.size+1:=by
    rintro rfl;rcases pI hf h.res (by decide) with h0|h0
    · cases h0
    · exact h0 rfl
  refine⟨(hf.cellAt (us.length*2+1) (by omega)).trans (a2.trans ?_),λo=>hf.frozenAt o,hg.2,by omega⟩;congr 1
  rw[qj,zD (by omega),xH,kD,xG,qj]
theorem ClS.step {w:World} {m:Met} {Ae Ab:Option Addr} {g cf ce cb:Nat} {vs us:List Value} {W W9:World} (h:ClS w m (some ⟨g,0,none⟩) Ae Ab cf ce cb vs us W) (hol:vs.length=m.gO.length) (hi:us.length<m.gO.length) (hb:Below W.heap.size W W9) {x:Value}
    (ho:W9.ownsRow W.heap.size 83 2 x (m.gO.getD us.length default).gR.length (Qu (m.gO.getD us.length default).gR)):ClS w m (some ⟨g,0,none⟩) Ae Ab cf ce cb vs (us++[x]) (W9.setCell ⟨g,us.length*2+1,none⟩ x):=by
  obtain⟨_,_,hg1,hg2⟩:=h.cell hol hi;have h9:=h.below hb;have hf:=h9.gO;have hl:(us++vs.drop us.length).length=m.gO.length:=by simp[hol];omega
  have hset:(Zn m.gO (us++vs.drop us.length)).set (us.length*2+1) x=Zn m.gO (us++[x]++vs.drop (us.length+1)):=by
    have:=zc9 m.gO (us++vs.drop us.length) us.length x (m.gO.getD us.length default) hl hi rfl;rw[zo8] at this;rw[<-this];congr 1
    rw[zm (by omega:us.length<vs.length)];rw[ztj];simp
  have far:∀{n B:Nat} {v:Value} {z:List Value},W9.ownsRow B 83 2 v n z->(W9.setCell ⟨g,us.length*2+1,none⟩ x).ownsRow B 83 2 v n z:=λhz=>hz.kept ((hf.stored (us.length*2+1) x).2) (Zu hz hf (by decide));refine⟨h9.lo.setCell (p:=⟨g,us.length*2+1,none⟩) (by show w.heap.size<=g;omega) x,(qT _ _ _ _ (by show w.heap.size≠g;omega)).trans h9.box,(qT _ _ _ _ (by show w.heap.size+1≠g;omega)).trans h9.res,?_,λk hk=>?_⟩
  · have e:(us++[x]).length=us.length+1:=by simp
    rw[e,<-hset];exact(hf.stored (us.length*2+1) x).1
  · have e:(us++[x]).length=us.length+1:=by simp
    rw[e] at hk;by_cases e:k<us.length
    · have:=far (h9.gR k e)
      rwa [show(us++[x]).getD k yK=us.getD k yK by
        rw[qj,qj,qQ e]]
    · obtain rfl:k=us.length:=by omega
      rw[show(us++[x]).getD us.length yK=x by rw[qj,zD (by omega),xH];rfl];exact far (Jc ho h.lo.size)
theorem uE {W:World} {B e z n b T k:Nat} {v u:Value} {x:List Value} {cs:Array Value} {fz:Nat×Nat} (h:W.ownsRow B e z v n x) (hb:W.heap[b]?=some (.cells cs T fz)) (ht:e≠T):(W.setCell ⟨b,k,none⟩ u).ownsRow B e z v n x:=
  xg h (a:=⟨b,k,none⟩) (by
    rcases pI h hb ht with h0|h0
    · rw[h0];simp
    · exact h0) u
structure CR (B:Nat) (m:Met) (vf ve vb:Value) (us:List Value) (W:World):Prop where
  gO:W.ownsRow B 81 2 vf m.gO.length (Zn m.gO us)
  gR:∀k,k<m.gO.length->W.ownsRow B 83 2 (us.getD k yK) (m.gO.getD k default).gR.length (Qu (m.gO.getD k default).gR)
  ends:W.ownsRow B 83 2 ve m.ends.length (Qu m.ends)
  gS:W.ownsRow B 85 2 vb m.gS.length (JC m.gS)
theorem CR.set {B b k:Nat} {m:Met} {vf ve vb u:Value} {us:List Value} {W:World} {cs:Array Value} {fz:Nat×Nat} (h:CR B m vf ve vb us W) (hb:W.heap[b]?=some (.cells cs 79 fz)):CR B m vf ve vb us (W.setCell ⟨b,k,none⟩ u):=
  ⟨uE h.gO hb (by decide),λk hk=>uE (h.gR k hk) hb (by decide),uE h.ends hb (by decide),uE h.gS hb (by decide)⟩
theorem CR.cm {B:Nat} {m:Met} {vf ve vb:Value} {us:List Value} {W:World} (h:CR B m vf ve vb us W) (hl:us.length=m.gO.length):CM B W.heap.size m vf ve vb us W:=by
  refine⟨hl,h.gO,h.gR,h.ends,h.gS,?_⟩;rintro v (rfl|rfl|rfl|hv) g hg
  · exact(h.gO.lt g hg).2
  · exact(h.ends.lt g hg).2
  · exact(h.gS.lt g hg).2
  · obtain⟨k,hk,rfl⟩:=xF hv
    have h2:=h.gR k (by omega);rw[qj,qz hk] at h2;exact(h2.lt g hg).2
theorem znN {P:Program} {o:Oper} {a:Act} {w:World} {f:FuncId} {args:Array Value} {K:Act->World->Prop} {Q:Exit->Act->World->Prop} (h:(execOp a.eval o).run P w=.ok (.enter f args) w)
    (hc:Calls P f args w λe w'=>∃v,e=.returned v/\K (a.put o.dst v) w'):o.wp P a w K Q:=by
  unfold Oper.wp;rw[h];refine Calls.mono hc ?_;rintro e w' ⟨v,rfl,hk⟩;exact hk
theorem zpG {W:World} {B e z n c:Nat} {A:Option Addr} {x:List Value} (h:W.ownsRow B e z (.slice A n c) n x) (hn:0<n):∃g,A=some ⟨g,0,none⟩:=by
  rcases h.2 with⟨h1,h2⟩|⟨g,cap,cur,h1,_⟩
  · omega
  · cases h1;exact⟨g,rfl⟩
theorem zo9 (B:Nat) (m:Met) (vf ve vb:Value) (vs:List Value) (w:World) (h:OM w B m vf ve vb vs) (hm:vp m=true):
    Calls Tryz.prog 57 #[.agg #[vf,ve,vb]] w λe w'=>∃Zf YS vb' vs',e=.returned (.agg #[Zf,YS,vb'])/\CM w.heap.size w'.heap.size m Zf YS vb' vs' w'/\Below w.heap.size w w':=by
  have hp:=znr hm;have hp16:=hp.gO;have hpe:=hp.zqd;have hpb:=hp.zqe;have Hpw:=qh hp.few;obtain⟨Af,cf,rfl⟩:=pJ h.gO;obtain⟨Ae,ce,rfl⟩:=pJ h.ends;obtain⟨Ab,cb,rfl⟩:=pJ h.gS;obtain⟨W2,hW2⟩:∃W2,(w.alloc (.cells #[.slice Af m.gO.length cf,.slice Ae m.ends.length ce,.slice Ab m.gS.length cb] 79)).alloc (.cells #[.slice none 0 0,.slice none 0 0,.slice none 0 0] 79)=W2:=⟨_,rfl⟩;have hb2:Below w.heap.size w W2:=by rw[<-hW2];exact((qb _ _).alloc (ql _) _).alloc (by simp) _
  have hx1:W2.heap[w.heap.size]?=some (.cells #[.slice Af m.gO.length cf,.slice Ae m.ends.length ce,.slice Ab m.gS.length cb] 79 (0,0)):=by rw[<-hW2];exact(qa _ _ _ (by simp)).trans (qn w _)
  have hx2:W2.heap[w.heap.size+1]?=some (.cells #[.slice none 0 0,.slice none 0 0,.slice none 0 0] 79 (0,0)):=by
    rw[<-hW2];have:=qn (w.alloc (.cells #[.slice Af m.gO.length cf,.slice Ae m.ends.length ce,.slice Ab m.gS.length cb] 79)) (.cells #[.slice none 0 0,.slice none 0 0,.slice none 0 0] 79);rw[qO] at this;exact this
  have HW2:=qh hW2;have Hb2:=qh hb2;have Hx1:=qh hx1;have Zj:=qh hx2;have Ho:=qh λ(W:World) (hb:Below w.heap.size w W)=>OM.below h hb;have q0:W2.cell? ⟨w.heap.size,0,none⟩=some (.slice Af m.gO.length cf):=qc _ _ 0 _ _ (0,0) hx1
  have Qe:=qh (zor B m.gO.length _ _ W2 ((Ho.out _ hb2).gO) (by
    intro u hu
    have:=gK (fs:=m.gO) (vs:=vs) (λk hk=>by
      obtain⟨A,c,e⟩:=pJ (h.gR k (by rw[<-h.vl];exact hk));exact⟨A,_,c,e⟩) u hu
    exact this) (by omega))
  clear h hW2 hb2 hx1 hx2;go_enter Tryz.func57,Tryz.ntmps57;go_upto_region 1 with(fail)
  rw[HW2.out];go_wp2_with fail;refine Qe.out.mono ?_;rintro e w3 ⟨v',rfl,ho3,hb3⟩;obtain⟨A3,c3,rfl⟩:=pJ ho3;have x3:=ub Hx1.out hb3;have y3:=ub Zj.out hb3;have z0:=qf _ _ 0 _ _ x3;have k3:=qc _ _ 0 _ _ (0,0) x3;have s3:=qs _ _ 0 _ _ (.slice A3 m.gO.length c3) x3;have hlow:w.heap.size<W2.heap.size:=(qg Hx1.out).1
  have HC:Hid (ClS w m A3 Ae Ab c3 ce cb vs [] (w3.setCell ⟨w.heap.size,0,none⟩ (.slice A3 m.gO.length c3))):=qh
    ⟨(Hb2.out.trans (hb3.mono Hb2.out.size)).setCell (p:=⟨w.heap.size,0,none⟩) (ql _) _,s3,(qT _ _ _ _ (by show w.heap.size+1≠w.heap.size;omega)).trans y3,Jc (ownsRow_setCell_below ho3 (a:=⟨w.heap.size,0,none⟩) hlow _) (by omega),λk hk=>by simp at hk⟩
  have q8:(w3.setCell ⟨w.heap.size,0,none⟩ (.slice A3 m.gO.length c3)).cell? ⟨w.heap.size,0,none⟩=some (.slice A3 m.gO.length c3):=qc _ _ 0 _ _ (0,0) s3;have Hvl:Hid (vs.length=m.gO.length):=qh (Ho.out _ Hb2.out).vl;clear ho3 hb3 x3 y3 s3 Qe q0;obtain⟨W4,J8⟩:∃W4,w3.setCell ⟨w.heap.size,0,none⟩ (.slice A3 m.gO.length c3)=W4:=⟨_,rfl⟩;rw[J8] at HC q8;have HW4:=qh J8;clear J8;go_upto_region 2 with(fail)
  rw[HW4.out];go_wp2_with fail;clear q8 z0 k3;go_loopw [3,11] (λt3 i wr=>∃(n:Nat) (us:List Value),n<=m.gO.length/\i=.int .i64 n/\Hid (us.length=n/\ClS w m A3 Ae Ab c3 ce cb vs us wr)) (λ_ i _=>m.gO.length-(intOf i).toNat)
  case atStart=>exact⟨0,[],qF _,rfl,qh ⟨rfl,HC.out⟩⟩
  case round=>
    obtain⟨wi,hwi⟩:∃W:World,W=wr:=⟨_,rfl⟩;subst hwi;obtain⟨n,us,hus,rfl,ztk⟩:=hrel;have hn:=ztk.out.1;have hcs:=qh ztk.out.2;clear ztk;by_cases hlt:n<m.gO.length
    · subst hn
      obtain⟨g,rfl⟩:=zpG hcs.out.gO (by omega);obtain⟨hc1,hz,hgl,hg2⟩:=hcs.out.cell Hvl.out hlt;have hrow:=(Ho.out _ hcs.out.lo).gR us.length hlt;obtain⟨Aw,cw,hA⟩:=pJ hrow;have hwl:=Hpw.out us.length hlt;rw[hA] at hc1 hrow;have po:=qh λ(W9:World) (x:Value)=>hcs.out.step (W9:=W9) (x:=x) Hvl.out hlt;have Hcs:=qh hcs.out;clear hA;generalize hnl:us.length=n at*;have Hnl:=qh hnl;clear hnl;generalize (m.gO.getD n default).gR=ws at*;have k0:=qc _ _ 0 _ _ (0,0) hcs.out.box;have hb1:w.heap.size<wi.heap.size:=(qg hcs.out.box).1;have Kc:=qh λ(W':World) (hb:Below wi.heap.size wi W')=>zm6 B ws.length (.slice Aw ws.length cw) _ W' (hrow.kept (Zq hb none) ZH) zoM (by omega);have i1:(0:Int)<=(n:Int):=(by omega);have i2:(n:Int)<(m.gO.length:Int):=(by omega);clear hcs hrow;go_upto_region 5 with(fail)
      have hz1:=hz (n*2+1);clear hz;refine zhw (S:=λw'=>w'.cell? ⟨w.heap.size,0,none⟩=some (.slice (some ⟨g,0,none⟩) m.gO.length c3)/\w'.cell? ⟨g,n*2+1,none⟩=some (.slice Aw ws.length cw)/\Below wi.heap.size wi w') (X:=λx=>[12].contains x) (by kernel_rfl) ?_;have hHeld:wi.drew.cell? ⟨w.heap.size,0,none⟩=some (.slice (some ⟨g,0,none⟩) m.gO.length c3)/\wi.drew.cell? ⟨g,n*2+1,none⟩=some (.slice Aw ws.length cw)/\Below wi.heap.size wi wi.drew:=⟨k0,hc1,(qb _ _).drew⟩;refine Zh (i:=0) (v:=?_) rfl (by kernel_rfl) (by kernel_rfl) (by kernel_rfl) (by kernel_rfl) (λ_ _ _ h=>h) (zl ⟨by rfl,?_⟩) (by assumption) ?_;rotate_left
      · intro w hSw
        obtain⟨hS1,hS2,p9⟩:=hSw;go_simp;try with_reducible rfl
      simp only[Act.put,qu,qr,qq,qe,qp,qk];refine Zh (i:=1) (v:=?_) rfl (by kernel_rfl) (by kernel_rfl) (by kernel_rfl) (by kernel_rfl) (λ_ _ _ h=>h) (zl ⟨by rfl,?_⟩) (by assumption) ?_;rotate_left
      · intro w hSw
        obtain⟨hS1,hS2,p9⟩:=hSw;go_simp;try with_reducible rfl
      simp only[Act.put,qu,qr,qq,qe,qp,qk];refine Zh (i:=2) (v:=?_) rfl (by kernel_rfl) (by kernel_rfl) (by kernel_rfl) (by kernel_rfl) (λ_ _ _ h=>h) (zl ⟨by rfl,?_⟩) (by assumption) ?_;rotate_left
      · intro w hSw
        obtain⟨hS1,hS2,p9⟩:=hSw;go_simp;try with_reducible rfl
      simp only[Act.put,qu,qr,qq,qe,qp,qk];refine Zh (i:=3) (v:=?_) rfl (by kernel_rfl) (by kernel_rfl) (by kernel_rfl) (by kernel_rfl) (λ_ _ _ h=>h) (zl ⟨by rfl,?_⟩) (by assumption) ?_;rotate_left
      · intro w hSw
        obtain⟨hS1,hS2,p9⟩:=hSw;go_simp;try with_reducible rfl
      simp only[Act.put,qu,qr,qq,qe,qp,qk];refine Zh (i:=4) (v:=?_) rfl (by kernel_rfl) (by kernel_rfl) (by kernel_rfl) (by kernel_rfl) (λ_ _ _ h=>h) (zl ⟨by rfl,?_⟩) (by assumption) ?_;rotate_left
      · intro w hSw
        obtain⟨hS1,hS2,p9⟩:=hSw;go_simp;try with_reducible rfl
      simp only[Act.put,qu,qr,qq,qe,qp,qk];refine Zh (i:=5) (v:=?_) rfl (by kernel_rfl) (by kernel_rfl) (by kernel_rfl) (by kernel_rfl) (λ_ _ _ h=>h) (zl ⟨by rfl,?_⟩) (by assumption) ?_;rotate_left
      · intro w hSw
        obtain⟨hS1,hS2,p9⟩:=hSw;go_simp;try with_reducible rfl
      simp only[Act.put,qu,qr,qq,qe,qp,qk];refine Zh (i:=6) (v:=?_) rfl (by kernel_rfl) (by kernel_rfl) (by kernel_rfl) (by kernel_rfl) (λ_ _ _ h=>h) (zl ⟨by rfl,?_⟩) (by assumption) ?_;rotate_left
      · intro w hSw
        obtain⟨hS1,hS2,p9⟩:=hSw;go_simp;try with_reducible rfl
      simp only[Act.put,qu,qr,qq,qe,qp,qk];refine Zh (i:=7) (v:=?_) rfl (by kernel_rfl) (by kernel_rfl) (by kernel_rfl) (by kernel_rfl) (λ_ _ _ h=>h) (zl ⟨by rfl,?_⟩) (by assumption) ?_;rotate_left
      · intro w hSw
        obtain⟨hS1,hS2,p9⟩:=hSw;go_simp;try with_reducible rfl
      simp only[Act.put,qu,qr,qq,qe,qp,qk];refine Zh (i:=8) (v:=?_) rfl (by kernel_rfl) (by kernel_rfl) (by kernel_rfl) (by kernel_rfl) (λ_ _ _ h=>h) (zl ⟨by rfl,?_⟩) (by assumption) ?_;rotate_left
      · intro w hSw
        obtain⟨hS1,hS2,p9⟩:=hSw;go_simp;try with_reducible rfl
      simp only[Act.put,qu,qr,qq,qe,qp,qk];refine zbL (i:=9) (by kernel_rfl) (Kf rfl rfl (znN (f:=85) (args:=#[.slice Aw ws.length cw]) (by go_simp;try rfl) ((Kc.out _ hHeld.2.2).mono ?_)));rintro e w9 ⟨x9,rfl,Jg,pb⟩;have Zm:Below wi.heap.size wi w9:=hHeld.2.2.trans (pb.mono hHeld.2.2.size);have ZD:w9.cell? ⟨w.heap.size,0,none⟩=some (.slice (some ⟨g,0,none⟩) m.gO.length c3)/\w9.cell? ⟨g,n*2+1,none⟩=some (.slice Aw ws.length cw)/\Below wi.heap.size wi w9:=⟨(Zm.cell (p:=⟨w.heap.size,0,none⟩) hb1).trans k0,(Zm.cell (p:=⟨g,n*2+1,none⟩) hgl).trans hc1,Zm⟩;have z9:=(Zm.frozen (p:=⟨g,n*2+1,none⟩) hgl).trans hz1;have c9:=ZD.2.1;obtain⟨A9,zqa,e9⟩:=pJ Jg;subst e9;refine⟨_,rfl,.inr ZD,?_⟩;simp only[Act.put,qu,qr,qq,qe,qp,qk];refine zbL (i:=10) (by kernel_rfl) (Kf rfl rfl (VZ (v:=.pointer (some ⟨g,n*2,none⟩)) (w':=w9) (by go_simp;try rfl) ?_));refine⟨.inr ZD,?_⟩;simp only[Act.put,qu,qr,qq,qe,qp,qk];refine Zh (i:=11) (v:=?_) rfl (by kernel_rfl) (by kernel_rfl) (by kernel_rfl) (by kernel_rfl) (λ_ _ _ h=>h) (zl ⟨by rfl,?_⟩) (by assumption) ?_;rotate_left
      · intro w hSw
        obtain⟨hS1,hS2,p9⟩:=hSw;go_simp;try with_reducible rfl
      simp only[Act.put,qu,qr,qq,qe,qp,qk];refine zbL (i:=12) (by kernel_rfl) (Kf rfl rfl (zlx (w':=w9.setCell ⟨g,n*2+1,none⟩ (.slice A9 ws.length zqa)) (by go_simp;try rfl) ?_));refine⟨.inl rfl,?_⟩;simp only[Act.put,qu,qr,qq,qe,qp,qk];refine zhv (by kernel_rfl) ?_ _;have Q2:=qh (po.out w9 _ Zm (Jc Jg hHeld.2.2.size));clear hHeld ZD Zm pb c9 z9 hz1 k0 hc1;go_wp2_with fail;go_roundw
      case rel=>exact⟨n+1,us++[.slice A9 ws.length zqa],by omega,by go_num,qh ⟨by rw[qv,zv,Hnl.out],Q2.out⟩⟩
      case measure=>simp[intOf];omega
    · obtain rfl:n=m.gO.length:=by omega
      have Hnl:=qh hn;clear hn;have hxi:=hcs.out.box;have hri:=hcs.out.res;have k1:=qc _ _ 1 _ _ (0,0) hxi;have k2:=qc _ _ 2 _ _ (0,0) hxi;have y1:=qf _ _ 1 _ _ hxi;have y2:=qf _ _ 2 _ _ hxi;have hb1:w.heap.size<wi.heap.size:=(qg hxi).1;have hb2:w.heap.size+1<wi.heap.size:=(qg hri).1;have Ke:=qh λ(W':World) (hb:Below wi.heap.size wi W')=>zm6 B m.ends.length (.slice Ae m.ends.length ce) _ W' ((Ho.out _ hcs.out.lo).ends.kept (Zq hb none) ZH) zoM (by omega);have Kb:=qh λ(W':World) (hb:Below wi.heap.size wi W')=>zos B m.gS.length (.slice Ab m.gS.length cb) _ W' ((Ho.out _ hcs.out.lo).gS.kept (Zq hb none) ZH) zpV (by omega);have Hxi:=qh hxi;have Hri:=qh hri;clear hxi hri;go_upto_region 7 with(fail)
      refine zhw (S:=λw'=>w'.cell? ⟨w.heap.size,1,none⟩=some (.slice Ae m.ends.length ce)/\w'.cell? ⟨w.heap.size,2,none⟩=some (.slice Ab m.gS.length cb)/\Below wi.heap.size wi w') (X:=λx=>[7,8,9].contains x) (by kernel_rfl) ?_;have hHeld:wi.drew.cell? ⟨w.heap.size,1,none⟩=some (.slice Ae m.ends.length ce)/\wi.drew.cell? ⟨w.heap.size,2,none⟩=some (.slice Ab m.gS.length cb)/\Below wi.heap.size wi wi.drew:=⟨k1,k2,(qb _ _).drew⟩;refine Zh (i:=0) (v:=?_) rfl (by kernel_rfl) (by kernel_rfl) (by kernel_rfl) (by kernel_rfl) (λ_ _ _ h=>h) (zl ⟨by rfl,?_⟩) (by assumption) ?_;rotate_left
      · intro w hSw
        obtain⟨hS1,hS2,p9⟩:=hSw;go_simp;try with_reducible rfl
      simp only[Act.put,qu,qr,qq,qe,qp,qk];refine Zh (i:=1) (v:=?_) rfl (by kernel_rfl) (by kernel_rfl) (by kernel_rfl) (by kernel_rfl) (λ_ _ _ h=>h) (zl ⟨by rfl,?_⟩) (by assumption) ?_;rotate_left
      · intro w hSw
        obtain⟨hS1,hS2,p9⟩:=hSw;go_simp;try with_reducible rfl
      simp only[Act.put,qu,qr,qq,qe,qp,qk];refine Zh (i:=3) (v:=?_) rfl (by kernel_rfl) (by kernel_rfl) (by kernel_rfl) (by kernel_rfl) (λ_ _ _ h=>h) (zl ⟨by rfl,?_⟩) (by assumption) ?_;rotate_left
      · intro w hSw
        obtain⟨hS1,hS2,p9⟩:=hSw;go_simp;try with_reducible rfl
      simp only[Act.put,qu,qr,qq,qe,qp,qk];refine Zh (i:=4) (v:=?_) rfl (by kernel_rfl) (by kernel_rfl) (by kernel_rfl) (by kernel_rfl) (λ_ _ _ h=>h) (zl ⟨by rfl,?_⟩) (by assumption) ?_;rotate_left
      · intro w hSw
        obtain⟨hS1,hS2,p9⟩:=hSw;go_simp;try with_reducible rfl
      simp only[Act.put,qu,qr,qq,qe,qp,qk];refine zbL (i:=2) (by kernel_rfl) (Kf rfl rfl (znN (f:=85) (args:=#[.slice Ae m.ends.length ce]) (by go_simp;try rfl) ((Ke.out _ hHeld.2.2).mono ?_)));rintro e w9 ⟨x9,rfl,Jg,pb⟩;have Zm:Below wi.heap.size wi w9:=hHeld.2.2.trans (pb.mono hHeld.2.2.size);have ZD:w9.cell? ⟨w.heap.size,1,none⟩=some (.slice Ae m.ends.length ce)/\w9.cell? ⟨w.heap.size,2,none⟩=some (.slice Ab m.gS.length cb)/\Below wi.heap.size wi w9:=⟨(Zm.cell (p:=⟨w.heap.size,1,none⟩) hb1).trans k1,(Zm.cell (p:=⟨w.heap.size,2,none⟩) hb1).trans k2,Zm⟩;refine⟨_,rfl,.inr ZD,?_⟩;simp only[Act.put,qu,qr,qq,qe,qp,qk];refine Zh (i:=6) (v:=?_) rfl (by kernel_rfl) (by kernel_rfl) (by kernel_rfl) (by kernel_rfl) (λ_ _ _ h=>h) (zl ⟨by rfl,?_⟩) (by assumption) ?_;rotate_left
      · intro w hSw
        obtain⟨hS1,hS2,p9⟩:=hSw;go_simp;try with_reducible rfl
      simp only[Act.put,qu,qr,qq,qe,qp,qk];refine zbL (i:=5) (by kernel_rfl) (Kf rfl rfl (znN (f:=86) (args:=#[.slice Ab m.gS.length cb]) (by go_simp;try rfl) ((Kb.out _ ZD.2.2).mono ?_)));rintro e wA ⟨xA,rfl,hoA,Za⟩;have Yn:Below wi.heap.size wi wA:=Zm.trans (Za.mono Zm.size);have Yo:wA.cell? ⟨w.heap.size,1,none⟩=some (.slice Ae m.ends.length ce)/\wA.cell? ⟨w.heap.size,2,none⟩=some (.slice Ab m.gS.length cb)/\Below wi.heap.size wi wA:=⟨(Yn.cell (p:=⟨w.heap.size,1,none⟩) hb1).trans k1,(Yn.cell (p:=⟨w.heap.size,2,none⟩) hb1).trans k2,Yn⟩;obtain⟨A9,c9,e9⟩:=pJ Jg;obtain⟨AA,cA,eA⟩:=pJ hoA;subst e9;subst eA;have g1:=Yo.1;have g2:=Yo.2.1;have v1:=(Yn.frozen (p:=⟨w.heap.size,1,none⟩) hb1).trans y1;have v2:=(Yn.frozen (p:=⟨w.heap.size,2,none⟩) hb1).trans y2;refine⟨_,rfl,.inr Yo,?_⟩;simp only[Act.put,qu,qr,qq,qe,qp,qk];refine zbL (i:=7) (by kernel_rfl) (Kf rfl rfl (zlx (w':=wA.setCell ⟨w.heap.size,1,none⟩ (.slice A9 m.ends.length c9)) (by go_simp;try rfl) ?_));refine⟨.inl rfl,?_⟩;simp only[Act.put,qu,qr,qq,qe,qp,qk];have hxA:=(Yn.block _ hb1).trans Hxi.out;have hxB:=qs wA w.heap.size 1 _ _ (.slice A9 m.ends.length c9) hxA;have hxC:=qs _ w.heap.size 2 _ _ (.slice AA m.gS.length cA) hxB;have g3:=qc _ _ 2 _ _ (0,0) hxB;have v3:=qf _ _ 2 _ _ hxB;have hrA:=(Yn.block _ hb2).trans Hri.out;have hrC:((wA.setCell ⟨w.heap.size,1,none⟩ (.slice A9 m.ends.length c9)).setCell ⟨w.heap.size,2,none⟩ (.slice AA m.gS.length cA)).heap[w.heap.size+1]?=_:=(qT _ _ _ _ (by show w.heap.size+1≠w.heap.size;omega)).trans ((qT _ _ _ _ (by show w.heap.size+1≠w.heap.size;omega)).trans hrA);generalize hWB:wA.setCell ⟨w.heap.size,1,none⟩ (.slice A9 m.ends.length c9)=WB at*;generalize hWC:WB.setCell ⟨w.heap.size,2,none⟩ (.slice AA m.gS.length cA)=WC at*;refine zbL (i:=8) (by kernel_rfl) (Kf rfl rfl (VZ (v:=.pointer (some ⟨w.heap.size,2,none⟩)) (w':=WB) (by go_simp;try rfl) ?_));refine⟨.inl rfl,?_⟩;simp only[Act.put,qu,qr,qq,qe,qp,qk];refine zbL (i:=9) (by kernel_rfl) (Kf rfl rfl (zlx (w':=WC) (by rw[<-hWC];go_simp;try rfl) ?_));refine⟨.inl rfl,?_⟩;simp only[Act.put,qu,qr,qq,qe,qp,qk];refine zhv (by kernel_rfl) ?_ _;have l0:=qc _ _ 0 _ _ (0,0) hxC;have l1:=qc _ _ 1 _ _ (0,0) hxC;have l2:=qc _ _ 2 _ _ (0,0) hxC;have s0:=qc _ _ 0 _ _ (0,0) hrC;have s1:=qc _ _ 1 _ _ (0,0) hrC;have s2:=qc _ _ 2 _ _ (0,0) hrC;have u0:=qf _ _ 0 _ _ hrC;have u1:=qf _ _ 1 _ _ hrC;have u2:=qf _ _ 2 _ _ hrC
      have hCR:CR w.heap.size m (.slice A3 m.gO.length c3) (.slice A9 m.ends.length c9) (.slice AA m.gS.length cA) us WC:=by
        have hA:=hcs.out.below Yn;have hf:=hA.gO;rw[Hnl.out,kx (by rw[Hvl.out];exact Nat.le_refl _),ku] at hf;have hr:CR w.heap.size m (.slice A3 m.gO.length c3) (.slice A9 m.ends.length c9) (.slice AA m.gS.length cA) us wA:=⟨hf,λk hk=>hA.gR k (by rw[Hnl.out];exact hk),(Jc Jg (by have:=hHeld.2.2.size;omega)).kept (Zq Za none) ZH,Jc hoA (by have:=Zm.size;omega)⟩;have h1:=hr.set (k:=1) (u:=.slice A9 m.ends.length c9) hxA;rw[hWB] at h1;have h2:=h1.set (k:=2) (u:=.slice AA m.gS.length cA) hxB;rw[hWC] at h2;exact h2
      have hLo:Below w.heap.size w WC:=by
        rw[<-hWC,<-hWB];exact((hcs.out.lo.trans (Yn.mono hcs.out.lo.size)).setCell (p:=⟨w.heap.size,1,none⟩) (ql _) _).setCell (p:=⟨w.heap.size,2,none⟩) (ql _) _
      have hd0:=qs WC (w.heap.size+1) 0 _ _ (.slice A3 m.gO.length c3) hrC;have hd1:=qs _ (w.heap.size+1) 1 _ _ (.slice A9 m.ends.length c9) hd0;have hd2:=qs _ (w.heap.size+1) 2 _ _ (.slice AA m.gS.length cA) hd1;have hCR2:=((hCR.set (k:=0) (u:=.slice A3 m.gO.length c3) hrC).set (k:=1) (u:=.slice A9 m.ends.length c9) hd0).set (k:=2) (u:=.slice AA m.gS.length cA) hd1;have hLo2:=((hLo.setCell (p:=⟨w.heap.size+1,0,none⟩) (by show w.heap.size<=w.heap.size+1;omega) (.slice A3 m.gO.length c3)).setCell (p:=⟨w.heap.size+1,1,none⟩) (by show w.heap.size<=w.heap.size+1;omega) (.slice A9 m.ends.length c9)).setCell (p:=⟨w.heap.size+1,2,none⟩) (by show w.heap.size<=w.heap.size+1;omega) (.slice AA m.gS.length cA);have HD:=qh (qY (hCR2.cm Hnl.out) hLo2);have e0:=qc _ _ 0 _ _ (0,0) hd2;have e1:=qc _ _ 1 _ _ (0,0) hd2;have e2:=qc _ _ 2 _ _ (0,0) hd2;have hd3:(((WC.setCell ⟨w.heap.size+1,0,none⟩ (.slice A3 m.gO.length c3)).setCell ⟨w.heap.size+1,1,none⟩ (.slice A9 m.ends.length c9)).setCell ⟨w.heap.size+1,2,none⟩ (.slice AA m.gS.length cA)).heap[w.heap.size+1]?=some (.cells #[.slice A3 m.gO.length c3,.slice A9 m.ends.length c9,.slice AA m.gS.length cA] 79 (0,0)):=hd2;have Hd3:=qh hd3;clear hCR hLo hd0 hd1 hd2 hd3 hCR2 hLo2 e0 e1 e2;clear hHeld ZD Yo hrC hxC hxA hxB hrA g1 g2 g3 v1 v2 v3 k1 k2 y1 y2;go_wp2_with fail;refine zt (results_cell_row rfl _ _ (w.heap.size+1) 79 #[.slice A3 m.gO.length c3,.slice A9 m.ends.length c9,.slice AA m.gS.length cA] (0,0) _ rfl Hd3.out Tryz.underlying79 (by rfl) (by kernel_rfl)) rfl ?_;exact⟨_,_,_,us,rfl,HD.out.1,HD.out.2⟩
end Go.Proofs.YtgklikkddckgbaaGreatDoor.Mo

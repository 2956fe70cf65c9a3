import Derived.Test.YtgklikkddckgbaaGreatDoorLDR
/- Lemmas. -/
set_option linter.all false
set_option maxRecDepth 100000
set_option maxHeartbeats 16000000
namespace Go.Proofs.YtgklikkddckgbaaGreatDoor
open Go.RowKit
variable {w w1 w':World} {base b:Nat} {s:ByteArray} {T cap i:Nat} {m:Met} {ec ep:Int} {vf ve vb:Value} {vs:List Value}
theorem zk5 (v:Int) (w:World) (hv:Vars w) (h0:-9223372036854775808<=v) (h1:v<=9223372036854775807):
  Calls Tryz.prog 50 #[.int .i64 v] w λe w'=>e=.returned (.string ⟨(Lib.itoa v).toArray⟩)/\Below w.heap.size w w':=by
 refine(Tryz.strconv_Itoa v h0 h1 w hv.2.2.1).mono ?_;rintro e w' ⟨rfl,k,os,rfl⟩;exact⟨rfl,zes w k os⟩
def pC (base b:Nat) (s:ByteArray) (T cap i:Nat) (m:Met) (ec ep:Int) (vf ve vb:Value) (vs:List Value) (t:Tok) (lo hi:Int) (w:World) (e:Ending) (w':World):Prop:=
 w.grownBy w' (some b)/\if(gV t.2 lo hi).2=0 then e=.returned (.tuple #[.int .i64 (gV t.2 lo hi).1,.bool true])/\RQ w' base b s T cap (i+1) m ec ep vf ve vb vs
  else e=.returned (.tuple #[.int .i64 0,.bool false])/\RQ w' base b s T cap i m (gV t.2 lo hi).2 t.1 vf ve vb vs
theorem pC.bad {w':World} {t:Tok} {lo hi:Int} (h:vE t.2=none) (hb:w.grownBy w' (some b)) (hr:RQ w' base b s T cap i m 130 t.1 vf ve vb vs):pC base b s T cap i m ec ep vf ve vb vs t lo hi w (.returned (.tuple #[.int .i64 0,.bool false])) w':=by
 have e:gV t.2 lo hi=(0,130):=by unfold gV;rw[h]
 refine⟨hb,?_⟩;rw[e,qx (by decide)];exact⟨rfl,hr⟩
theorem pC.out {w':World} {t:Tok} {lo hi v:Int} (h:vE t.2=some v) (h2:v<lo∨v>hi) (hb:w.grownBy w' (some b)) (hr:RQ w' base b s T cap i m 2 t.1 vf ve vb vs):pC base b s T cap i m ec ep vf ve vb vs t lo hi w (.returned (.tuple #[.int .i64 0,.bool false])) w':=by
 have e:gV t.2 lo hi=(0,2):=by unfold gV;rw[h];exact qy h2
 refine⟨hb,?_⟩;rw[e,qx (by decide)];exact⟨rfl,hr⟩
theorem pC.good {w':World} {t:Tok} {lo hi v:Int} (h:vE t.2=some v) (h2:¬(v<lo∨v>hi)) (hb:w.grownBy w' (some b)) (hr:RQ w' base b s T cap (i+1) m ec ep vf ve vb vs):pC base b s T cap i m ec ep vf ve vb vs t lo hi w (.returned (.tuple #[.int .i64 v,.bool true])) w':=by
 have e:gV t.2 lo hi=(v,0):=by unfold gV;rw[h];exact qx h2
 refine⟨hb,?_⟩;rw[e,qy rfl];exact⟨rfl,hr⟩
theorem zc0 {t:ByteArray} (h:pm t=true):t.size≠0:=λe=>by
 have:=zdI t (zcS e);rw[h] at this;cases this
theorem zeS {t:ByteArray} (h:Xf t.data.toList=true):pm t=true:=by
 unfold Xf at h;unfold pm;cases hl:t.data.toList with
 |nil=>rw[hl] at h;cases h
 |cons c r=>rw[hl] at h;simp only[] at h;simp[h]
theorem zg5 {t:ByteArray} (h:0<t.size):Xf t.data.toList=((t[0].toNat:Int)==45):=by
 unfold Xf;cases hl:t.data.toList with
 |nil=>
  have h1:=congrArg List.length hl;rw[qS] at h1;have e:t.data.size=t.size:=rfl;simp only[qG] at h1;omega
 |cons c r=>
  have e:t[0]=c:=by
   have h1:t.data.toList[0]?=some c:=(by rw[hl];rfl);have h2:t.data.toList[0]?=some t[0]:=by
    rw[qz (by simpa using h)];rfl
   rw[h2] at h1;exact kJ h1
  rw[e]
theorem zki {D:ByteArray} {j:Nat} (h:j<D.size):D.data.toList[j]?=some D[j]:=by
 rw[qz (by simpa using h)];rfl
theorem zhG (s:ByteArray):(s.extract 1 s.size).data.toList=s.data.toList.drop 1:=by
 simp[kU,Array.toList_extract,List.extract_eq_take_drop];exact jO (by simp)
theorem zk6 {a b:ByteArray} (h:a.data.toList=b.data.toList):a=b:=by
 apply kN;exact xh.1 h
theorem zkj {t:ByteArray} (h:Xf t.data.toList=true):(t.extract 1 t.size).data.toList=yX t.data.toList:=by
 unfold yX;rw[qy h,zhG];cases t.data.toList<;>rfl
theorem zg6 {t:ByteArray} (h:Xf t.data.toList=false):t.data.toList=yX t.data.toList:=by unfold yX;rw[qx (by rw[h];simp)]
theorem zk7 {t D:ByteArray} (hD:D.data.toList=yX t.data.toList) (h:Xf t.data.toList=true):(D.toList !=t.toList)=true:=by
 rw[bne_iff_ne,qW,qW];intro e;have h2:=congrArg List.length e;have hp:=zc0 (zeS h);rw[hD] at h2;unfold yX at h2;rw[qy h] at h2;simp at h2;omega
theorem zk8 {t D:ByteArray} (hD:D.data.toList=yX t.data.toList) (h:Xf t.data.toList=false):(D.toList !=t.toList)=false:=by
 have e:D=t:=zk6 (by rw[hD,<-zg6 h]);subst e;simp[bne]
theorem ziV {l:List UInt8} (h:Xf l=true) (a:Nat):Xm l a= -(a:Int):=by unfold Xm;rw[qy h]
theorem ziW {l:List UInt8} (h:Xf l=false) (a:Nat):Xm l a=(a:Int):=by unfold Xm;rw[qx (by rw[h];simp)]
def zsI (t:ByteArray) (v:Value):Prop:=∃D:ByteArray,v=.string D/\D.data.toList=yX t.data.toList
theorem zbc (lo hi:Int) (h:RQ w base b s T cap i m ec ep vf ve vb vs) (hv:Vars w) (h6:9<=base) (hs:s.size<=65536):
  Calls Tryz.prog 157 #[.pointer (some ⟨b,0,none⟩),.int .i64 lo,.int .i64 hi] w (pC base b s T cap i m ec ep vf ve vb vs (hd ((toks s 0).drop i)) lo hi w):=by
 have c0:=h.rr.rb.c0;have t0:=h.t0;have t1:=h.t1;have hN:0<(toks s 0).length-i:=by have:=h.hi;omega
 have hcp:(toks s 0).length-i<=cap-i:=by have:=h.caps;omega
 have hi0:=h.hi;have htz:=(V3 h.hi).size;have hbl:=h.bl;have H1:=qh (h.below ((qb w.heap.size w).alloc (ql _) (.cells #[.int .i64 (hd ((toks s 0).drop i)).1,.string (hd ((toks s 0).drop i)).2] 187)));have Hb1:Hid (World.grownBy w (w.alloc (.cells #[.int .i64 (hd ((toks s 0).drop i)).1,.string (hd ((toks s 0).drop i)).2] 187)) (some b)):=qh (zb3 (zb4 w _) _);have Hv:=qh (hv.below (zf4 Hb1.out h.bs h.rr.hb) h6);have YR:=qh h.bs;have ZO:=qh λ(W:World) (hq:RQ W base b s T cap i m ec ep vf ve vb vs) h0=>hq.next h0;unfold uH at c0;have hX:Hid ((w.alloc (.cells #[.int .i64 (hd ((toks s 0).drop i)).1,.string (hd ((toks s 0).drop i)).2] 187)).heap[w.heap.size]?=_):=qh (qn w _);have hsz1:(w.alloc (.cells #[.int .i64 (hd ((toks s 0).drop i)).1,.string (hd ((toks s 0).drop i)).2] 187)).heap.size=w.heap.size+1:=by simp
 have HX:=hX;clear h hv hX;have Yv:Hid ((hd ((toks s 0).drop i)).2.size≠0->2<=(toks s 0).length-i):=qh λh0=>by have:=zcz (V3 hi0) h0;simpa using this
 generalize hW1:w.alloc (.cells #[.int .i64 (hd ((toks s 0).drop i)).1,.string (hd ((toks s 0).drop i)).2] 187)=W1 at H1 Hb1 Hv HX hsz1;have HW1:=qh hW1;clear hW1;generalize hd ((toks s 0).drop i)=tk at*;have KH:Hid (∃N,(toks s 0).length-i=N):=qh ⟨_,rfl⟩;have HZ0:Hid (∀(W:World),RQ W base b s T cap i m ec ep vf ve vb vs->W.cell? ⟨b,0,none⟩=some (.slice (some ⟨T,i*2,none⟩) ((toks s 0).length-i) (cap-i))):=qh (λW h=>h.rr.rb.c0);generalize (toks s 0).length-i=N at*;generalize cap-i=C at*;obtain⟨p,t⟩:=tk;simp only[] at t0 t1 htz ZO HW1 HX Yv;clear hi0;have ZP:=λW=>zbG t W;have HF:=qh ZP;clear ZP;go_enter Tryz.func157,Tryz.ntmps157;go_upto_region 2 with(fail)
 rw[HW1.out];have x0:W1.cell? ⟨w.heap.size,0,none⟩=some (.int .i64 p):=qc _ _ _ _ 187 (0,0) HX.out;have x1:W1.cell? ⟨w.heap.size,1,none⟩=some (.string t):=qc _ _ _ _ 187 (0,0) HX.out;clear t0 t1 c0 HW1;go_upto_region 3 with(fail)
 go_cut [26] from 20 to 26 (λv26 wx=>v26=.bool (Xf t.data.toList)/\wx=W1)
 case first=>
  cases hm:Xf t.data.toList with|true=>?_|false=>?_
  rotate_right
  focus
   have HFm:=HF.out W1;cases hf:pm t with|true=>?_|false=>?_
   rotate_right
   rotate_right;have htp:0<t.size:=(by have:=zc0 hf;omega);have h45:((t[0].toNat:Int)==45)=false:=(by rw[<-zg5 htp,hm])
   all_goals(rw[hf] at HFm;have Hm:=qh hm;clear hm hf HF)
  rotate_right;have Qg:=zeS hm;have htp:0<t.size:=(by have:=zc0 Qg;omega);have h45:((t[0].toNat:Int)==45)=true:=(by rw[<-zg5 htp,hm]);have HFm:=HF.out W1;rw[Qg] at HFm;have Hm:=qh hm;clear hm Qg HF
  all_goals
   go_wp2_with fail;refine HFm.mono ?_;rintro e w' ⟨rfl,rfl⟩;go_wp2_with fail;go_meet
   exact⟨by rw[Hm.out],rfl⟩
 case rest=>
 obtain⟨rfl,rfl⟩:=hcut;go_upto_if 26 with(fail)
 go_cut [9] from 20 to 28 (λv9 wy=>zsI t v9/\wy=wc)
 case first=>
  cases hm:Xf t.data.toList with
  |true=>
   have Qg:=zc0 (zeS hm);have htp:1<=t.size:=(by omega);have HD:Hid (zsI t (.string (t.extract 1 t.size))):=qh ⟨_,rfl,zkj hm⟩;clear Qg;go_wp2_with fail;go_meet
   exact⟨HD.out,rfl⟩
  |false=>
   have HD:Hid (zsI t (.string t)):=qh ⟨_,rfl,zg6 hm⟩;go_wp2_with fail;go_meet
   exact⟨HD.out,rfl⟩
 case rest=>
 obtain⟨⟨D,rfl,hD⟩,rfl⟩:=hcut;have hDs:D.size<=t.size:=by
  have h1:D.size=(yX t.data.toList).length:=by rw[<-hD];simp
  have h2:t.size=t.data.toList.length:=by simp
  rw[h1,h2];unfold yX;split<;>simp
 have Hdl:=qh hD;have HFl:=qh λc=>gX c (p,t) H1.out;unfold ue at HFl;simp only[] at HFl;clear hD;go_wp2_with fail;go_loop [10,11] (λv q=>∃(a j:Nat),q=.int .i64 j/\v=.int .i64 a/\j<=D.size/\j<=18/\Hid (a<10^j/\a<1000000000000000000)/\Hid (Lib.decFrom a (D.data.toList.drop j)=Lib.decFrom 0 D.data.toList)) (λ_ q=>D.size-(intOf q).toNat)
 case atStart=>exact⟨0,0,rfl,rfl,by omega,by omega,qh ⟨by decide,by decide⟩,qh rfl⟩
 case round=>
  obtain⟨a,j,rfl,rfl,hj,hj18,ha,hd⟩:=hrel;by_cases hlt:j<D.size
  ·have Kl:=qh (zki hlt);have hc256:=(D[j]).toNat_lt;have Qx:Hid ((D[j].toNat<48∨57<D[j].toNat)->vE t=none):=qh λh=>zl2 (by rw[<-Hdl.out];exact zl1 Kl.out h hd.out);have pU:Hid ((h1:48<=D[j].toNat)->(h2:D[j].toNat<=57)->Lib.decFrom (a*10+(D[j].toNat-48)) (D.data.toList.drop (j+1))=Lib.decFrom 0 D.data.toList):=qh λh1 h2=>zk3 Kl.out h1 h2 hd.out;by_cases h1:48<=D[j].toNat
   ·have g1:¬(D[j].toNat:Int)<48:=(by omega);by_cases h2:D[j].toNat<=57
    ·have g2:¬(57:Int)<(D[j].toNat:Int):=(by omega);by_cases h3:j<18
     ·have g3:¬(18:Int)<=(j:Int):=(by omega);have Hs:=qh (pU.out h1 h2);have hp17:a<100000000000000000:=by
       have e1:10^j<=10^17:=Nat.pow_le_pow_right (by decide) (by omega);have e2:(10:Nat)^17=100000000000000000:=(by decide);have:=ha.out.1;omega
      have r1:IntKind.i64.wrap ((a:Int)*10)=(a:Int)*10:=qi _ (by omega);have r2:IntKind.i64.wrap ((a:Int)*10+((D[j].toNat:Int)-48))=(a:Int)*10+((D[j].toNat:Int)-48):=qi _ (by omega);have r3:wrap64 ((a:Int)*10+((D[j].toNat:Int)-48))=(a:Int)*10+((D[j].toNat:Int)-48):=(by unfold wrap64;omega);have Hp:Hid (a*10+(D[j].toNat-48)<10^(j+1)/\a*10+(D[j].toNat-48)<1000000000000000000):=qh ⟨by rw[Nat.pow_succ];have:=ha.out.1;omega,by omega⟩;clear hp17;go_wp2_with fail;go_round
      case rel=>exact⟨a*10+(D[j].toNat-48),j+1,by go_num,by congr 1;omega,by omega,by omega,Hp,Hs⟩
      case measure=>simp[intOf];omega
     ·have Hn:=qh (zk4 (t:=t) (by rw[<-Hdl.out,qS];show 18<D.size;omega));have g3:(18:Int)<=(j:Int):=(by omega);go_wp2_with fail;refine(HFl.out 130).mono ?_;rintro e w' ⟨rfl,pB,pb⟩;have Qd:=qh pB;have pP:=qh (gtr Hb1.out pb);clear pB pb;go_wp2_with fail;go_ret2;exact pC.bad (t:=(p,t)) Hn.out pP.out Qd.out
    ·have Hn:=qh (Qx.out (.inr (by omega)));have g2:(57:Int)<(D[j].toNat:Int):=(by omega);go_wp2_with fail;refine(HFl.out 130).mono ?_;rintro e w' ⟨rfl,pB,pb⟩;have Qd:=qh pB;have pP:=qh (gtr Hb1.out pb);clear pB pb;go_wp2_with fail;go_ret2;exact pC.bad (t:=(p,t)) Hn.out pP.out Qd.out
   ·have Hn:=qh (Qx.out (.inl (by omega)));have g1:(D[j].toNat:Int)<48:=(by omega);go_wp2_with fail;refine(HFl.out 130).mono ?_;rintro e w' ⟨rfl,pB,pb⟩;have Qd:=qh pB;have pP:=qh (gtr Hb1.out pb);clear pB pb;go_wp2_with fail;go_ret2;exact pC.bad (t:=(p,t)) Hn.out pP.out Qd.out
  ·obtain rfl:j=D.size:=by omega
   have hde:Lib.decFrom 0 (yX t.data.toList)=some a:=by
    have h1:=hd.out;rw[kx (by simp)] at h1;rw[<-Hdl.out,<-h1];rfl
   have hlen:(yX t.data.toList).length<=18:=(by rw[<-Hdl.out,qS];exact hj18);have pE:=qh (zl3 hlen hde);have Ha:=qh ha.out.2;clear hde hlen ha hd hj18 hj hlt;go_upto_region 12 with(fail)
   go_cut [63] from 60 to 63 (λv63 wy=>v63=.bool (Xf t.data.toList)/\wy=wc)
   case first=>
    cases hm:Xf t.data.toList with
    |true=>
     have hq:=zk7 Hdl.out hm;have Hm:=qh hm;clear hm;go_wp2_with fail;go_meet
     exact⟨by rw[Hm.out];exact congrArg Value.bool hq,rfl⟩
    |false=>
     have hq:=zk8 Hdl.out hm;have Hm:=qh hm;clear hm;go_wp2_with fail;go_meet
     exact⟨by rw[Hm.out];exact congrArg Value.bool hq,rfl⟩
   case rest=>
   rename_i wx;obtain⟨rfl,rfl⟩:=hcut;go_upto_if 63 with(fail)
   go_cut [10] from 60 to 65 (λv10 wy=>v10=.int .i64 (Xm t.data.toList a)/\wy=wc)
   case first=>
    cases hm:Xf t.data.toList with
    |true=>
     have Hm:=qh (ziV hm a);have hn1:IntKind.i64.wrap (-(a:Int))= -(a:Int):=qi _ (by have:=Ha.out;omega);have hn2:wrap64 (-(a:Int))= -(a:Int):=(by have:=Ha.out;unfold wrap64;omega);go_wp2_with fail;go_meet
     exact⟨by rw[Hm.out],rfl⟩
    |false=>
     have Hm:=qh (ziW hm a);go_wp2_with fail;go_meet
     exact⟨by rw[Hm.out],rfl⟩
   case rest=>
   obtain⟨rfl,rfl⟩:=hcut;have Hvb:Hid (-1000000000000000000<Xm t.data.toList a/\Xm t.data.toList a<1000000000000000000):=qh (by have:=Ha.out;unfold Xm;split<;>omega);generalize Xm t.data.toList a=v at*;have hxs:w.heap.size<wc.heap.size:=(by omega);cases hf:pm t with
   |false=>
    have HFm:=HF.out;simp only[hf] at HFm;have HFn:=qh HFm;have Hn:=qh (ze7 hf);clear HFm hf HF;go_wp2_with fail;go_quiet ((go_at_call 156;exact kP ((HFn.out _).mono (λ_ _ h=>⟨h.1,h.2.symm⟩))))
    have hbd:=Xg (qb wc.heap.size wc) nq;have HW:=qh (H1.out.below hbd);have Vy:=qh (gtr Hb1.out (Zq hbd _));have x0':(wc.drewN nq).cell? ⟨w.heap.size,0,none⟩=some (.int .i64 p):=x0;have x1':(wc.drewN nq).cell? ⟨w.heap.size,1,none⟩=some (.string t):=x1;clear hbd;have ZB:=qh (gX 130 (p,t) HW.out);unfold ue at ZB;simp only[] at ZB;go_wp2_with fail;refine ZB.out.mono ?_;rintro e w' ⟨rfl,pB,pb⟩;have Qd:=qh pB;have pP:=qh (gtr Vy.out pb);clear pB pb;go_wp2_with fail;go_ret2;exact pC.bad (t:=(p,t)) Hn.out pP.out Qd.out
   |true=>
    have HFm:=HF.out;simp only[hf] at HFm;have HFn:Hid (∀W,Calls Tryz.prog 156 #[.string t] W λe w'=>e=.returned (.bool true)/\Below W.heap.size W w'):=qh (λW=>(HFm W).mono λe w' h=>⟨h.1,by rw[<-h.2];exact qb _ _⟩);have HIt:Hid (∀W,Below wc.heap.size wc W->Calls Tryz.prog 50 #[.int .i64 v] W λe w'=>e=.returned (.string ⟨(Lib.itoa v).toArray⟩)/\Below W.heap.size W w'):=qh (λW hb=>zk5 v W (Hv.out.below hb (by have:=Hv.out.six;omega)) (by have:=Hvb.out;omega) (by have:=Hvb.out;omega));have JG:Hid (vE t=if Lib.itoa v=t.data.toList then some v else none):=qh (by rw[pE.out];simp[hf]);have Hfs:=qh (zc0 hf);clear HFm hf HF;go_wp2_with fail;go_region_held3 (λw'=>Below wc.heap.size wc w'/\∀b o,b<wc.heap.size->w'.cell? ⟨b,o,none⟩=wc.cell? ⟨b,o,none⟩) (((repeat (apply JK;assumption));exact pa)) (first|(go_at_call 156;refine(HFn.out _).mono ?_;rintro e w9 ⟨rfl,pb⟩)|(go_at_call 50;refine(HIt.out _ (by first|exact pa.1|exact qZ (by assumption))).mono ?_;rintro e w9 ⟨rfl,pb⟩))
    rename_i hHeld;have hS:=hHeld.1;clear hHeld;have HW:=qh (H1.out.below hS);have Vy:=qh (gtr Hb1.out (Zq hS _));have x0':w9.cell? ⟨w.heap.size,0,none⟩=some (.int .i64 p):=(hS.cell (p:=⟨w.heap.size,0,none⟩) hxs).trans x0;have x1':w9.cell? ⟨w.heap.size,1,none⟩=some (.string t):=(hS.cell (p:=⟨w.heap.size,1,none⟩) hxs).trans x1;have hN2:=Yv.out Hfs.out;clear hS;have Hnm2:Hid (∀L,Lib.itoa v=L->vE t=if L=t.data.toList then some v else none):=qh (λL h=>by rw[JG.out,h]);generalize hL:Lib.itoa v=L;have Hnm3:=qh (Hnm2.out L hL);clear hL JG Hnm2 pE HIt;by_cases hi1:L=t.data.toList
    ·have Hn:Hid (vE t=some v):=qh (by rw[Hnm3.out,qy hi1]);have k1:(L==t.toList)=true:=(by rw[qW,hi1];simp);have k2:(L !=t.toList)=false:=(by rw[qW,hi1];simp);simp only[k1,Bool.not_true];clear hi1;by_cases h1:v<lo
     ·have ZB:=qh (gX 2 (p,t) HW.out);unfold ue at ZB;simp only[] at ZB;go_wp2_with fail;refine ZB.out.mono ?_;rintro e w' ⟨rfl,pB,pb⟩;have Qd:=qh pB;have pP:=qh (gtr Vy.out pb);clear pB pb;go_wp2_with fail;go_ret2;exact pC.out (t:=(p,t)) Hn.out (.inl h1) pP.out Qd.out
     ·by_cases h2:hi<v
      ·have ZB:=qh (gX 2 (p,t) HW.out);unfold ue at ZB;simp only[] at ZB;go_wp2_with fail;refine ZB.out.mono ?_;rintro e w' ⟨rfl,pB,pb⟩;have Qd:=qh pB;have pP:=qh (gtr Vy.out pb);clear pB pb;go_wp2_with fail;go_ret2;exact pC.out (t:=(p,t)) Hn.out (.inr h2) pP.out Qd.out
      ·have c0:=HZ0.out _ HW.out;have z0:=HW.out.rr.rb.z 0;have HRx:=qh (ZO.out _ HW.out Hfs.out);have Vz:=qh (zaV Vy.out (p:=⟨b,0,none⟩) (.inl rfl) (.slice (some ⟨T,i*2+2,none⟩) (N-1) (C-1)));have hC1:¬C=1:=(by omega);go_wp2_with fail;go_ret2;exact pC.good (t:=(p,t)) Hn.out (by omega) Vz.out HRx.out
    ·have Hn:Hid (vE t=none):=qh (by rw[Hnm3.out,qx hi1]);have k1:(L==t.toList)=false:=(by rw[qW,zw];exact hi1);have k2:(L !=t.toList)=true:=(by rw[qW,bne_iff_ne];exact hi1);simp only[k1,jN];clear hi1;have ZB:=qh (gX 130 (p,t) HW.out);unfold ue at ZB;simp only[] at ZB;go_wp2_with fail;refine ZB.out.mono ?_;rintro e w' ⟨rfl,pB,pb⟩;have Qd:=qh pB;have pP:=qh (gtr Vy.out pb);clear pB pb;go_wp2_with fail;go_ret2;exact pC.bad (t:=(p,t)) Hn.out pP.out Qd.out
theorem zl4 (c:UInt8):zp6 c=(((((c.toNat:Int)==44)||((c.toNat:Int)==59))||((c.toNat:Int)==120))||((c.toNat:Int)==47)):=by
 unfold zp6;by_cases h1:c=44
 ·subst h1;rfl
 by_cases h2:c=59
 ·subst h2;rfl
 by_cases h3:c=120
 ·subst h3;rfl
 by_cases h4:c=47
 ·subst h4;rfl
 have n1:((c.toNat:Int)==44)=false:=by
  simp only[zw];intro e;exact h1 (zbg (b:=44) (by have:(44:UInt8).toNat=44:=rfl;omega))
 have n2:((c.toNat:Int)==59)=false:=by
  simp only[zw];intro e;exact h2 (zbg (b:=59) (by have:(59:UInt8).toNat=59:=rfl;omega))
 have n3:((c.toNat:Int)==120)=false:=by
  simp only[zw];intro e;exact h3 (zbg (b:=120) (by have:(120:UInt8).toNat=120:=rfl;omega))
 have n4:((c.toNat:Int)==47)=false:=by
  simp only[zw];intro e;exact h4 (zbg (b:=47) (by have:(47:UInt8).toNat=47:=rfl;omega))
 rw[n1,n2,n3,n4];have e:Lib.indexByte [44,59,120,47] c= -1:=by
  have m1:((44:UInt8)==c)=false:=by simp;exact λh=>h1 h.symm
  have m2:((59:UInt8)==c)=false:=by simp;exact λh=>h2 h.symm
  have m3:((120:UInt8)==c)=false:=by simp;exact λh=>h3 h.symm
  have m4:((47:UInt8)==c)=false:=by simp;exact λh=>h4 h.symm
  simp[Lib.indexByte,m1,m2,m3,m4]
 rw[e];rfl
theorem zg7 {t:ByteArray} (h:0<t.size):∃r,t.data.toList=t[0]::r:=by
 have h1:=zki h;cases hl:t.data.toList with
 |nil=>rw[hl] at h1;cases h1
 |cons c r=>rw[hl] at h1;simp at h1;exact⟨r,by rw[h1]⟩
theorem zdT {t:ByteArray} (h:0<t.size):zbM t=zp6 t[0]:=by
 obtain⟨r,hr⟩:=zg7 h;unfold zbM;rw[hr]
def Shaped (t:ByteArray):Prop:=∀h:0<t.size,zdj t[0]=true->t.size=1
theorem zkk {s:ByteArray} {L:List Tok} (h:KG s L):Shaped (hd L).2:=by
 obtain⟨p,hp,rfl⟩:=h;intro h0 hm;have hd1:=zfD (s:=s) hp;have hs:=zch (s:=s) p hp;have hst:=zcU (s:=s) (pX s p) hs.2;generalize hd (toks s p)=x at*;subst hd1;simp only[] at h0 hm|-;have hz:(s.extract (pX s p) (ZE s (pX s p))).size=ZE s (pX s p)-pX s p:=zcD hst.2;have hlt:pX s p<s.size:=by
  by_cases h:pX s p<s.size
  ·exact h
  ·have e2:=zcC h;omega
 have e:(s.extract (pX s p) (ZE s (pX s p)))[0]=s[pX s p]:=by
  simp[ByteArray.getElem_extract]
 rw[e] at hm;rw[hz,zb2 hlt hm];omega
def znQ (t:ByteArray):Prop:=t.size=0∨pm t=true∨zbM t=true
theorem zk9 {t:ByteArray} (h:zgi t=true):znQ t:=by
 unfold zgi at h;rw[qW] at h;simp only[kG] at h;rcases h with(h|h)|h
 ·left;have:t.data.toList=[]:=by simpa using h
  have h2:=congrArg List.length this;rw[qS] at h2;exact h2
 ·right;right;have:t.data.toList=[44]:=by simpa using h
  unfold zbM;rw[this];rfl
 ·right;right;have:t.data.toList=[59]:=by simpa using h
  unfold zbM;rw[this];rfl
theorem zmK {t:ByteArray} (h0:0<t.size) (h:((t[0].toNat:Int)==120)=true):znQ t:=by
 right;right;rw[zdT h0,zl4,h];simp
theorem zmL {t:ByteArray} (h0:0<t.size) (h:((t[0].toNat:Int)==47)=true):znQ t:=by
 right;right;rw[zdT h0,zl4,h];simp
theorem ziy {t:ByteArray} (h:t.size=1) (c:UInt8) (hc:t[0]=c):t.data.toList=[c]:=by
 obtain⟨r,hr⟩:=zg7 (t:=t) (by omega);have h2:=congrArg List.length hr;rw[qS] at h2;have e:t.data.size=t.size:=rfl;simp only[qB] at h2;have:r=[]:=zF (by omega);rw[hr,this,hc]
theorem zla {t:ByteArray} (hsh:Shaped t) (h0:0<t.size) (hm:zgi t=false) (hf:pm t=false) (hx:((t[0].toNat:Int)==120)=false) (hs:((t[0].toNat:Int)==47)=false):¬znQ t:=by
 rintro(h|h|h)
 ·omega
 ·rw[hf] at h;cases h
 ·rw[zdT h0,zl4,hx,hs,yf,yf] at h;have h1:=hsh h0 h;unfold zgi at hm;rw[qW] at hm;simp only[zM] at hm;rw[kG] at h;rcases h with h|h
  ·have:t[0]=44:=zbg (b:=44) (by have:(44:UInt8).toNat=44:=rfl;have:(t[0].toNat:Int)=44:=(by simpa using h);omega)
   rw[ziy h1 _ this] at hm;exact absurd hm.1.2 (by decide)
  ·have:t[0]=59:=zbg (b:=59) (by have:(59:UInt8).toNat=59:=rfl;have:(t[0].toNat:Int)=59:=(by simpa using h);omega)
   rw[ziy h1 _ this] at hm;exact absurd hm.2 (by decide)
variable {w w1 w':World} {base b:Nat} {s:ByteArray} {T cap i:Nat} {m:Met} {ec ep:Int} {vf ve vb:Value} {vs:List Value}
def pt (base b:Nat) (s:ByteArray) (T cap i:Nat) (m:Met) (ec ep:Int) (vf ve vb:Value) (vs:List Value) (t:Tok) (w:World) (e:Ending) (w':World):Prop:=
 w.grownBy w' (some b)/\if(pT t.2).2=0 then e=.returned (.tuple #[.string (pT t.2).1,.bool true])/\RQ w' base b s T cap (i+1) m ec ep vf ve vb vs
  else e=.returned (.tuple #[.string ⟨#[]⟩,.bool false])/\RQ w' base b s T cap i m (pT t.2).2 t.1 vf ve vb vs
theorem pt.signs {t:Tok} (h:QC t.2 1 4=true) (hb:w.grownBy w' (some b)) (hr:RQ w' base b s T cap (i+1) m ec ep vf ve vb vs):pt base b s T cap i m ec ep vf ve vb vs t w (.returned (.tuple #[.string t.2,.bool true])) w':=by
 have e:pT t.2=(t.2,0):=by unfold pT;rw[qy h]
 refine⟨hb,?_⟩;rw[e,qy rfl];exact⟨rfl,hr⟩
theorem pt.bad {t:Tok} (h:QC t.2 1 4=false) (h2:znQ t.2) (hb:w.grownBy w' (some b)) (hr:RQ w' base b s T cap i m 130 t.1 vf ve vb vs):pt base b s T cap i m ec ep vf ve vb vs t w (.returned (.tuple #[.string ⟨#[]⟩,.bool false])) w':=by
 have e:pT t.2=(⟨#[]⟩,130):=by unfold pT;rw[qx (by rw[h];simp)];exact qy h2
 refine⟨hb,?_⟩;rw[e,qx (by decide)];exact⟨rfl,hr⟩
theorem pt.no {t:Tok} (h:QC t.2 1 4=false) (h2:¬znQ t.2) (hn:∀j,j<14->((pu j).1==t.2.data.toList)=false) (hb:w.grownBy w' (some b)) (hr:RQ w' base b s T cap i m 131 t.1 vf ve vb vs):pt base b s T cap i m ec ep vf ve vb vs t w (.returned (.tuple #[.string ⟨#[]⟩,.bool false])) w':=by
 have e:pT t.2=(⟨#[]⟩,131):=by
  unfold pT;rw[qx (by rw[h];simp)];refine(qx h2).trans ?_;rw[zgg hn]
 refine⟨hb,?_⟩;rw[e,qx (by decide)];exact⟨rfl,hr⟩
theorem pt.yes {t:Tok} {k:Nat} (h:QC t.2 1 4=false) (h2:¬znQ t.2) (hk:k<14) (hy:((pu k).1==t.2.data.toList)=true) (hn:∀j,j<k->((pu j).1==t.2.data.toList)=false) (hb:w.grownBy w' (some b)) (hr:RQ w' base b s T cap (i+1) m ec ep vf ve vb vs):pt base b s T cap i m ec ep vf ve vb vs t w (.returned (.tuple #[.string ⟨(pu k).2.1.toArray⟩,.bool true])) w':=by
 have e:pT t.2=(⟨(pu k).2.1.toArray⟩,0):=by
  unfold pT;rw[qx (by rw[h];simp)];refine(qx h2).trans ?_;rw[zgf hk hy hn]
 refine⟨hb,?_⟩;rw[e,qy rfl];exact⟨rfl,hr⟩
theorem zde (h:RQ w base b s T cap i m ec ep vf ve vb vs) (hs:s.size<=65536):
  Calls Tryz.prog 158 #[.pointer (some ⟨b,0,none⟩)] w (pt base b s T cap i m ec ep vf ve vb vs (hd ((toks s 0).drop i)) w):=by
 have c0:=h.rr.rb.c0;have t0:=h.t0;have t1:=h.t1;have hN:0<(toks s 0).length-i:=by have:=h.hi;omega
 have hcp:(toks s 0).length-i<=cap-i:=by have:=h.caps;omega
 have hi0:=h.hi;have htz:=(V3 h.hi).size;have Hsh:=qh (zkk (V3 h.hi));have hbl:=h.bl;have H1:=qh (h.below ((qb w.heap.size w).alloc (ql _) (.cells #[.int .i64 (hd ((toks s 0).drop i)).1,.string (hd ((toks s 0).drop i)).2] 187)));have Hb1:Hid (World.grownBy w (w.alloc (.cells #[.int .i64 (hd ((toks s 0).drop i)).1,.string (hd ((toks s 0).drop i)).2] 187)) (some b)):=qh (zb3 (zb4 w _) _);have ZO:=qh λ(W:World) (hq:RQ W base b s T cap i m ec ep vf ve vb vs) h0=>hq.next h0;unfold uH at c0;have HX:Hid ((w.alloc (.cells #[.int .i64 (hd ((toks s 0).drop i)).1,.string (hd ((toks s 0).drop i)).2] 187)).heap[w.heap.size]?=_):=qh (qn w _);have hsz1:(w.alloc (.cells #[.int .i64 (hd ((toks s 0).drop i)).1,.string (hd ((toks s 0).drop i)).2] 187)).heap.size=w.heap.size+1:=by simp
 have Yv:Hid ((hd ((toks s 0).drop i)).2.size≠0->2<=(toks s 0).length-i):=qh λh0=>by have:=zcz (V3 hi0) h0;simpa using this
 have HZ0:Hid (∀(W:World),RQ W base b s T cap i m ec ep vf ve vb vs->W.cell? ⟨b,0,none⟩=some (.slice (some ⟨T,i*2,none⟩) ((toks s 0).length-i) (cap-i))):=qh (λW h=>h.rr.rb.c0);clear h;generalize hW1:w.alloc (.cells #[.int .i64 (hd ((toks s 0).drop i)).1,.string (hd ((toks s 0).drop i)).2] 187)=W1 at H1 Hb1 HX hsz1;have HW1:=qh hW1;clear hW1;generalize hd ((toks s 0).drop i)=tk at*;generalize (toks s 0).length-i=N at*;generalize cap-i=C at*;obtain⟨p,t⟩:=tk;simp only[] at t0 t1 htz ZO HW1 HX Yv Hsh;clear hi0;go_enter Tryz.func158,Tryz.ntmps158;go_upto_region 2 with(fail)
 rw[HW1.out];have x0:W1.cell? ⟨w.heap.size,0,none⟩=some (.int .i64 p):=qc _ _ _ _ 187 (0,0) HX.out;have x1:W1.cell? ⟨w.heap.size,1,none⟩=some (.string t):=qc _ _ _ _ 187 (0,0) HX.out;clear t0 t1 c0 HW1;have c0:=HZ0.out _ H1.out;have z0:=H1.out.rr.rb.z 0;have hxs:w.heap.size<W1.heap.size:=by omega
 clear hsz1;go_wp2_with fail;refine(zdY t 1 4 W1 (by omega)).mono ?_;rintro e w' ⟨rfl,rfl⟩;cases hsg:QC t 1 4 with
 |true=>
  have hpos:t.size≠0:=by
   intro e;unfold QC at hsg;rw[e] at hsg;simp at hsg
  have hN2:=Yv.out hpos;have HRx:=qh (ZO.out _ H1.out hpos);have Vz:=qh (zaV Hb1.out (p:=⟨b,0,none⟩) (.inl rfl) (.slice (some ⟨T,i*2+2,none⟩) (N-1) (C-1)));have hC1:¬C=1:=by omega
  have Hsg:=qh hsg;have hbx:b≠w.heap.size:=by omega
  clear hsg hpos;go_wp2_with fail;go_ret2;exact pt.signs (t:=(p,t)) Hsg.out Vz.out HRx.out
 |false=>
  have Hsg:=qh hsg;clear hsg;have HW:=H1;have Vy:=Hb1;have HMk:=qh (zhf t);have HFg:=qh (zbG t);cases hmk:zgi t with
  |true=>
   have X1:=qh (zk9 hmk);have HM:=HMk.out W1;rw[hmk] at HM;clear hmk;go_wp2_with fail;refine HM.mono ?_;rintro e w' ⟨rfl,rfl⟩;have ZB:=qh (gX 130 (p,t) HW.out);unfold ue at ZB;simp only[] at ZB;go_wp2_with fail;refine ZB.out.mono ?_;rintro e w' ⟨rfl,pB,pb⟩;have Qd:=qh pB;have pP:=qh (gtr Vy.out pb);clear pB pb;go_wp2_with fail;go_ret2;exact pt.bad (t:=(p,t)) Hsg.out X1.out pP.out Qd.out
  |false=>
   have hpos:0<t.size:=by
    have hm:=hmk;unfold zgi at hm;simp only[zM] at hm;have h1:=hm.1.1;rw[qW] at h1;cases hz:t.size with
    |zero=>
     rw[zcS hz] at h1;cases h1
    |succ k=>omega
   have HM:Calls Tryz.prog 188 #[.string t] W1 λe w'=>e=.returned (.bool false)/\W1=w':=(by have:=HMk.out W1;rw[hmk] at this;exact this);cases hfg:pm t with
   |true=>
    have X1:Hid (znQ t):=qh (.inr (.inl hfg));have HF:Calls Tryz.prog 156 #[.string t] W1 λe w'=>e=.returned (.bool true)/\W1=w':=(by have:=HFg.out W1;rw[hfg] at this;exact this);clear hmk hfg;go_wp2_with fail;refine HM.mono ?_;rintro e w' ⟨rfl,rfl⟩;go_wp2_with fail;refine HF.mono ?_;rintro e w' ⟨rfl,rfl⟩;have ZB:=qh (gX 130 (p,t) HW.out);unfold ue at ZB;simp only[] at ZB;go_wp2_with fail;refine ZB.out.mono ?_;rintro e w' ⟨rfl,pB,pb⟩;have Qd:=qh pB;have pP:=qh (gtr Vy.out pb);clear pB pb;go_wp2_with fail;go_ret2;exact pt.bad (t:=(p,t)) Hsg.out X1.out pP.out Qd.out
   |false=>
    have HF:Calls Tryz.prog 156 #[.string t] W1 λe w'=>e=.returned (.bool false)/\W1=w':=(by have:=HFg.out W1;rw[hfg] at this;exact this);have Hmf:=qh (qY hmk hfg);clear hmk hfg;cases hx:((t[0].toNat:Int)==120) with
    |true=>
     have X1:=qh (zmK hpos hx);go_wp2_with fail;refine HM.mono ?_;rintro e w' ⟨rfl,rfl⟩;go_wp2_with fail;refine HF.mono ?_;rintro e w' ⟨rfl,rfl⟩;have ZB:=qh (gX 130 (p,t) HW.out);unfold ue at ZB;simp only[] at ZB;go_wp2_with fail;refine ZB.out.mono ?_;rintro e w' ⟨rfl,pB,pb⟩;have Qd:=qh pB;have pP:=qh (gtr Vy.out pb);clear pB pb;go_wp2_with fail;go_ret2;exact pt.bad (t:=(p,t)) Hsg.out X1.out pP.out Qd.out
    |false=>
     cases hs7:((t[0].toNat:Int)==47) with
     |true=>
      have X1:=qh (zmL hpos hs7);go_wp2_with fail;refine HM.mono ?_;rintro e w' ⟨rfl,rfl⟩;go_wp2_with fail;refine HF.mono ?_;rintro e w' ⟨rfl,rfl⟩;have ZB:=qh (gX 130 (p,t) HW.out);unfold ue at ZB;simp only[] at ZB;go_wp2_with fail;refine ZB.out.mono ?_;rintro e w' ⟨rfl,pB,pb⟩;have Qd:=qh pB;have pP:=qh (gtr Vy.out pb);clear pB pb;go_wp2_with fail;go_ret2;exact pt.bad (t:=(p,t)) Hsg.out X1.out pP.out Qd.out
     |false=>
      have Hnb:=qh (zla Hsh.out hpos Hmf.out.1 Hmf.out.2 hx hs7);have HRn:=qh (zg4 W1);go_wp2_with fail;refine HM.mono ?_;rintro e w' ⟨rfl,rfl⟩;go_wp2_with fail;refine HF.mono ?_;rintro e w' ⟨rfl,rfl⟩;go_wp2_with fail;refine HRn.out.mono ?_;rintro e w3 ⟨rfl,hw3⟩;have hb3:Below W1.heap.size W1 w3:=(by rw[hw3];exact(qb _ _).alloc (ql _) _);have hn3:w3.heap[W1.heap.size]?=some (.cells Y7 173 (0,0)):=(by rw[hw3];exact qn W1 _);have H3:=qh (H1.out.below hb3);have HB3:=qh (gtr Hb1.out (Zq hb3 _));have y0:w3.cell? ⟨w.heap.size,0,none⟩=some (.int .i64 p):=(hb3.cell (p:=⟨w.heap.size,0,none⟩) hxs).trans x0;have y1:w3.cell? ⟨w.heap.size,1,none⟩=some (.string t):=(hb3.cell (p:=⟨w.heap.size,1,none⟩) hxs).trans x1;have hxs3:w.heap.size<w3.heap.size:=qD hxs hb3.size;have hns3:W1.heap.size<w3.heap.size:=(qg hn3).1;clear hx hs7 x0 x1 c0 z0 hw3 hb3 HM HF HW Vy HMk HFg HRn;go_wp2_with fail;go_loopw [53] (λq wr=>∃k:Nat,k<=14/\q=.int .i64 k/\Hid (∀j,j<k->((pu j).1==t.data.toList)=false)/\Below w3.heap.size w3 wr) (λq _=>14-(intOf q).toNat)
      case atStart=>exact⟨0,by omega,rfl,qh (λj hj=>by omega),qb _ _⟩
      case round=>
       rename_i wr;obtain⟨k,hk,rfl,hno,hb⟩:=hrel;have HW:=qh (H3.out.below hb);have Vy:=qh (gtr HB3.out (Zq hb _));have x0:wr.cell? ⟨w.heap.size,0,none⟩=some (.int .i64 p):=(hb.cell (p:=⟨w.heap.size,0,none⟩) hxs3).trans y0;have x1:wr.cell? ⟨w.heap.size,1,none⟩=some (.string t):=(hb.cell (p:=⟨w.heap.size,1,none⟩) hxs3).trans y1;have hnr:wr.heap[W1.heap.size]?=some (.cells Y7 173 (0,0)):=(hb.block _ hns3).trans hn3;have hsr:=hb.size;have hxs4:w.heap.size<wr.heap.size:=(by omega);have hns4:W1.heap.size<wr.heap.size:=(by omega);by_cases hlt:k<14
       ·have n1:wr.cell? ⟨W1.heap.size,k*3,none⟩=some (.string ⟨(pu k).1.toArray⟩):=(by rw[jM _ _ _ _ 173 (0,0) hnr];exact(zeR k hlt).1);have n2:wr.cell? ⟨W1.heap.size,k*3+1,none⟩=some (.string ⟨(pu k).2.1.toArray⟩):=(by rw[jM _ _ _ _ 173 (0,0) hnr];exact(zeR k hlt).2.1);have n3:wr.cell? ⟨W1.heap.size,k*3+2,none⟩=some (.string ⟨(pu k).2.2.toArray⟩):=(by rw[jM _ _ _ _ 173 (0,0) hnr];exact(zeR k hlt).2.2);have hba:Below wr.heap.size wr (wr.alloc (.cells #[.string ⟨(pu k).1.toArray⟩,.string ⟨(pu k).2.1.toArray⟩,.string ⟨(pu k).2.2.toArray⟩] 173)):=(qb _ wr).alloc (ql _) _;have HWa:=qh (HW.out.below hba);have HBa:=qh (gtr Vy.out (Zq hba _));have Xx:=qh (hb.trans (hba.mono hb.size));have hfn:=zgk k t;have YQ:b<wr.heap.size:=HW.out.bl;clear hba hnr;cases hP:((pu k).1==t.data.toList) with
        |true=>
         rw[hP] at hfn;have hN2:=Yv.out (by omega);have HRx:=qh ((ZO.out _ HW.out (by omega)).below ((qb _ _).alloc (ql _) (.cells #[.string ⟨(pu k).1.toArray⟩,.string ⟨(pu k).2.1.toArray⟩,.string ⟨(pu k).2.2.toArray⟩] 173)));have Vz:=qh (zb3 (zaV Vy.out (p:=⟨b,0,none⟩) (.inl rfl) (.slice (some ⟨T,i*2+2,none⟩) (N-1) (C-1))) (.cells #[.string ⟨(pu k).1.toArray⟩,.string ⟨(pu k).2.1.toArray⟩,.string ⟨(pu k).2.2.toArray⟩] 173));have hC1:¬C=1:=(by omega);have c0:=HZ0.out _ HW.out;have z0:=HW.out.rr.rb.z 0;have HP:=qh hP;clear hP;go_wp2_with fail;go_ret2;exact pt.yes (t:=(p,t)) Hsg.out Hnb.out hlt HP.out hno.out Vz.out HRx.out
        |false=>
         rw[hP] at hfn;have HP:=qh hP;clear hP;go_wp2_with fail;go_roundw
         case rel=>exact⟨k+1,by omega,by go_num,qh (λj hj=>by rcases Nat.lt_succ_iff_lt_or_eq.1 hj with h|h;· exact hno.out j h
                                                              ·rw[h];exact HP.out),Xx.out⟩
         case measure=>simp[intOf];omega
       ·obtain rfl:k=14:=by omega
        clear hnr;have ZB:=qh (gX 131 (p,t) HW.out);unfold ue at ZB;simp only[] at ZB;go_wp2_with fail;refine ZB.out.mono ?_;rintro e w' ⟨rfl,pB,pb⟩;have Qd:=qh pB;have pP:=qh (gtr Vy.out pb);clear pB pb;go_wp2_with fail;go_ret2;exact pt.no (t:=(p,t)) Hsg.out Hnb.out hno.out pP.out Qd.out
theorem zc1 {t:ByteArray} {lo hi:Int} (h:(gV t lo hi).2=0):t.size≠0:=by
 unfold gV at h;cases hn:vE t with
 |none=>rw[hn] at h;exact absurd (show(130:Int)=0 from h) (by decide)
 |some v=>exact zc0 (zdk hn).1
theorem zeT {t:ByteArray} (h:(pT t).2=0):t.size≠0:=by
 intro e;have e2:pT t=(⟨#[]⟩,130):=by
  unfold pT;have hsg:QC t 1 4=false:=by
   unfold QC;rw[e];simp
  rw[qx (by rw[hsg];simp)];exact qy (.inl e)
 rw[e2] at h;exact absurd h (by decide)
variable {w w1 w':World} {base b:Nat} {s:ByteArray} {T cap i:Nat} {m:Met} {ec ep:Int} {vf ve vb:Value} {vs:List Value}
def RG (base b:Nat) (s:ByteArray) (T cap:Nat) (w:World) (r:Z9) (e:Ending) (w':World):Prop:=
 Below base w w'/\match r with
 |.error (c,p)=>e=.returned (.bool false)/\w'.cell? ⟨b,4,none⟩=some (.int .i64 c)/\w'.cell? ⟨b,5,none⟩=some (.int .i64 p)/\b<w'.heap.size
 |.ok (L',m')=>e=.returned (.bool true)/\∃i' ec ep vf ve vb vs,(toks s 0).drop i'=L'/\RQ w' base b s T cap i' m' ec ep vf ve vb vs
theorem RG.err {r:Z9} {c:Int} {p:Nat} (h:r=.error (c,p)) (hb:Below base w w') (hr:RQ w' base b s T cap i m c p vf ve vb vs):RG base b s T cap w r (.returned (.bool false)) w':=by
 subst h;exact⟨hb,rfl,hr.rr.rb.c4,hr.rr.rb.c5,hr.bl⟩
theorem RG.good {r:Z9} {L:List Tok} (h:r=.ok (L,m)) (hL:(toks s 0).drop i=L) (hb:Below base w w') (hr:RQ w' base b s T cap i m ec ep vf ve vb vs):RG base b s T cap w r (.returned (.bool true)) w':=by
 subst h;exact⟨hb,rfl,i,ec,ep,vf,ve,vb,vs,hL,hr⟩
theorem zg8 (h:RQ w base b s T cap i m ec ep vf ve vb vs) (hv:Vars w) (h6:9<=base) (hs:s.size<=65536) (h16:m.gO.length<=16):
  Calls Tryz.prog 126 #[.pointer (some ⟨b,0,none⟩)] w (RG base b s T cap w (Xq ((toks s 0).drop i) m)):=by
 have c0:=h.rr.rb.c0;have t0:=h.t0;have t1:=h.t1;have hN:0<(toks s 0).length-i:=by have:=h.hi;omega
 have hcp:(toks s 0).length-i<=cap-i:=by have:=h.caps;omega
 have hi0:=h.hi;have hbl:=h.bl;have H1:=qh (h.below ((qb w.heap.size w).alloc (ql _) (.cells #[.int .i64 (hd ((toks s 0).drop i)).1,.string (hd ((toks s 0).drop i)).2] 187)));have Hb1:Hid (World.grownBy w (w.alloc (.cells #[.int .i64 (hd ((toks s 0).drop i)).1,.string (hd ((toks s 0).drop i)).2] 187)) (some b)):=qh (zb3 (zb4 w _) _);have Hv:=qh (hv.below (zf4 Hb1.out h.bs h.rr.hb) h6);have Hgb:=qh (λ(W:World) (hg:w.grownBy W (some b))=>zf4 hg h.bs h.rr.hb);unfold uH at c0;have HX:Hid ((w.alloc (.cells #[.int .i64 (hd ((toks s 0).drop i)).1,.string (hd ((toks s 0).drop i)).2] 187)).heap[w.heap.size]?=_):=qh (qn w _);have hsz1:(w.alloc (.cells #[.int .i64 (hd ((toks s 0).drop i)).1,.string (hd ((toks s 0).drop i)).2] 187)).heap.size=w.heap.size+1:=by simp
 have hP:Xq ((toks s 0).drop i) m=if pm (hd ((toks s 0).drop i)).2 then(if(gV (hd ((toks s 0).drop i)).2 1 16).2=0 then XJ (gV (hd ((toks s 0).drop i)).2 1 16).1 (hd ((toks s 0).drop i)).1 (gW ((toks s 0).drop i)) m else .error ((gV (hd ((toks s 0).drop i)).2 1 16).2,(hd ((toks s 0).drop i)).1)) else XJ 1 (hd ((toks s 0).drop i)).1 ((toks s 0).drop i) m:=rfl
 have XF:=qh (λh0=>V4 (s:=s) (i:=i) hi0 h0);have QN:=qh (λh=>zcK (t:=(hd ((toks s 0).drop i)).2) (lo:=1) (hi:=16) h);have KA:=qh (λh=>zc1 (t:=(hd ((toks s 0).drop i)).2) (lo:=1) (hi:=16) h);clear h hv;generalize hW1:w.alloc (.cells #[.int .i64 (hd ((toks s 0).drop i)).1,.string (hd ((toks s 0).drop i)).2] 187)=W1 at H1 Hb1 HX hsz1 Hv;have HW1:=qh hW1;clear hW1;have pk:=zbc 1 16 H1.out Hv.out h6 hs;have pE:=qh pk;clear pk;generalize XL:(toks s 0).drop i=L at*;have VP:=qh XL;clear XL;generalize htk:hd L=tk at*;have Zk:=qh htk;clear htk;generalize (toks s 0).length-i=N at*;generalize cap-i=C at*;obtain⟨p,t⟩:=tk;simp only[] at t0 t1 HW1 HX hP XF QN KA;have HF:=qh (zbG t);go_enter Tryz.func126,Tryz.ntmps126;go_upto_region 2 with(fail)
 rw[HW1.out];have x0:W1.cell? ⟨w.heap.size,0,none⟩=some (.int .i64 p):=qc _ _ _ _ 187 (0,0) HX.out;have x1:W1.cell? ⟨w.heap.size,1,none⟩=some (.string t):=qc _ _ _ _ 187 (0,0) HX.out;have hxs:w.heap.size<W1.heap.size:=by omega
 clear t0 t1 c0 HW1 hsz1;cases hf:pm t with
 |true=>
  rw[hf,qy rfl] at hP;have HFt:Hid (Calls Tryz.prog 156 #[.string t] W1 λe w'=>e=.returned (.bool true)/\W1=w'):=qh (by have:=HF.out W1;rw[hf] at this;exact this);unfold pC at pE;simp only[] at pE;generalize hE:gV t 1 16=E at*;obtain⟨n,er⟩:=E;simp only[] at pE QN hP KA;by_cases h0:er=0
  ·subst h0;rw[qy rfl] at hP;have HP:=qh hP;have Hn:=qh (QN.out rfl);have HJ:=qh (XF.out (KA.out rfl)).2;clear hf hE hP QN KA XF;go_wp2_with fail;refine HFt.out.mono ?_;rintro e w' ⟨rfl,rfl⟩;go_wp2_with fail;refine pE.out.mono ?_;rintro e w2 ⟨hb2,hr2⟩;simp only[ye,kt] at hr2;obtain⟨rfl,hr2⟩:=hr2;have H2:=qh hr2;have HB2:=qh (gtr Hb1.out hb2);have Hy:Hid (w2.heap[w.heap.size]?=some (.cells #[.int .i64 p,.string t] 187 (0,0))):=qh ((hb2.block w.heap.size hxs (by simp;omega)).trans HX.out);have y0:w2.cell? ⟨w.heap.size,0,none⟩=some (.int .i64 p):=qc _ _ _ _ 187 (0,0) Hy.out;have y1:w2.cell? ⟨w.heap.size,1,none⟩=some (.string t):=qc _ _ _ _ 187 (0,0) Hy.out;clear hr2 hb2 x0 x1;have hft:=zde H2.out hs;rw[HJ.out] at hft;have T1:=qh (λer=>zem (n:=n) (Z1:=p) (L:=(gW L)) (m:=m) (er:=er));have T2:=qh (zdC (n:=n) (Z1:=p) (L:=(gW L)) (m:=m));have T3:=qh (zfW (n:=n) (Z1:=p) (L:=(gW L)) (m:=m));have HA2:=qh (λh0=>V4 (s:=s) (i:=(i+1)) H2.out.hi h0);have Hfp:=qh (λh=>zeT (t:=(hd (gW L)).2) h);rw[HJ.out] at HA2;unfold pt at hft;generalize hF:pT (hd (gW L)).2=F at*;obtain⟨own,er⟩:=F;simp only[] at hft T1 T2 T3 Hfp;have Hft:=qh hft;clear hft hF;go_wp2_with fail;refine Hft.out.mono ?_;rintro e w3 ⟨hb3,hr3⟩;have HB3:=qh (gtr HB2.out hb3);have q0:w3.cell? ⟨w.heap.size,0,none⟩=some (.int .i64 p):=(qw (hb3.block w.heap.size (qg Hy.out).1 (by simp;omega))).trans y0;have q1:w3.cell? ⟨w.heap.size,1,none⟩=some (.string t):=(qw (hb3.block w.heap.size (qg Hy.out).1 (by simp;omega))).trans y1;by_cases h0:er=0
   ·subst h0;simp only[ye,kt] at hr3;obtain⟨rfl,hr3⟩:=hr3;have H3:=qh hr3;have HD:=qh (HA2.out (Hfp.out rfl)).2;clear hr3 hb3 HA2 Hfp Hft y0 y1;obtain⟨A0,cc0,KE⟩:=pJ H3.out.rr.gO;subst KE;have d1:=H3.out.rr.rb.c1;have hn1:=Hn.out.1;have hn2:=Hn.out.2;by_cases hlong:(m.gO.length:Int)+n<=16
    ·have KS:=qh (HP.out.trans (T3.out rfl hlong));have zsJ:=qh (Hgb.out _ HB3.out);clear T1 T2 T3 q0 q1;go_wp2_with fail;go_loopw [9] (λq wr=>∃(k:Nat) (Zf:Value) (vs':List Value),(k:Int)<=n/\q=.int .i64 k/\Hid (RQ wr base b s T cap ((i+1)+1) (m.more k own) ec ep Zf ve vb vs')/\Hid (Below base w wr)) (λq _=>(n:Int).toNat-(intOf q).toNat)
     case atStart=>exact⟨0,_,vs,by omega,rfl,qh (by rw[Met.ZI];exact H3.out),zsJ⟩
     case round=>
      rename_i wr;obtain⟨k,Zf,vs',hk,rfl,hr,hbr⟩:=hrel;clear d1;by_cases hlt:(k:Int)<n
      ·have f1:=hr.out.rr.rb.c1;have z1:=hr.out.rr.rb.z 1;have hrb:=hr.out.bl;have hfe:=hr.out.rr.gO;rw[Met.Qh] at hfe;have hmk:(m.more k own).gO.length=m.gO.length+k:=Met.Qh _ _ _;obtain⟨A,cc,hvs⟩:=pJ hfe
       have hne:Zf.ownBlock≠some b:=by rcases pI hr.out.rr.gO hr.out.rr.rb (by decide) with e|e;· rw[e];simp
                                       ·exact e
       have J2:=qh λ(w4:World) (v4:Value) ho hg=>hr.out.foot (w1:=w4) (own:=own) (v':=v4) (by rw[hmk];exact ho) hg;have hrs:=hr.out.bs;have Xi:=qh λ(w4:World) (hg:wr.grownBy w4 Zf.ownBlock)=>qY ((zp (w:=wr) (w':=w4) (a:=⟨b,1,none⟩) (hg.block b hrb (λe=>hne e.symm))).trans z1) ((qw (w:=wr) (w':=w4) (a:=⟨b,1,none⟩) (hg.block b hrb (λe=>hne e.symm))).trans f1);have Qg:∀q,Zf.ownBlock=some q->base<=q:=λq hq=>(hfe.lt q hq).1;have Q0:=qh λ(w4:World) (hg:wr.grownBy w4 Zf.ownBlock) (v4:Value)=>(hbr.out.grown hg hrs Qg).setCell (show base<=b from hr.out.rr.hb) v4 (p:=⟨b,1,none⟩);have Hfe:=qh hfe;have zsi:m.gO.length+k<16:=(by omega);clear hr hfe Qg hmk hne hbr;subst hvs;go_wp2_with (at_builtin;go_loud (refine VL _ rfl _ _ 75 rfl base 81 _ _ 2 40 ji zh2 zh3 zh4 zfP rfl (by decide) (.slice A (m.gO.length+k) cc) (m.gO.length+k) (Zn (m.more k own).gO vs') _ _ rfl rfl ?c0 (by exact Hfe.out) rfl ?c1 ?c2 ?c3 ?c4 ?_;rotate_right;intro v1 w4 hown1 hg1 pR;obtain⟨g1,Qn,rfl⟩:=Zv hown1 (by omega);obtain⟨hz1,hc3⟩:=Xi.out _ hg1;have gT:=qh (J2.out _ _ hown1 hg1);have pV:=qh (Q0.out _ hg1 (.slice (some ⟨g1,0,none⟩) (m.gO.length+k+1) Qn));clear hown1 hg1 pR))
       case c0=>simp
       case c1=>exact⟨rfl,rfl⟩
       case c2=>unfold maxLen;omega
       case c3=>omega
       case c4=>exact hrs
       go_roundw
       case rel=>exact⟨k+1,_,_,by omega,by go_num,qh (by rw[<-Met.ZJ];exact gT.out),pV⟩
       case measure=>simp[intOf];omega
      ·have hkn:k=(n:Int).toNat:=(by omega);have HP3:Hid (Xq L m=.ok (gW (gW L),m.more k own)):=qh (by rw[hkn];exact KS.out);clear hkn;go_wp2_with fail;go_ret;exact RG.good HP3.out HD.out hbr.out hr.out
    ·have KS:=qh (HP.out.trans (T2.out rfl (by omega)));have hfl:=gX 3 (p,t) H3.out;unfold ue at hfl;simp only[] at hfl;have Jj:=qh hfl;clear T1 T2 T3 hfl;go_wp2_with fail;refine Jj.out.mono ?_;rintro e w' ⟨rfl,pB,pb⟩;have Qd:=qh pB;have pP:=qh (Hgb.out _ (gtr HB3.out pb));clear pB pb;go_wp2_with fail;go_ret;exact RG.err KS.out pP.out Qd.out
   ·rw[qx h0] at hr3;obtain⟨rfl,hr3⟩:=hr3;have Qd:=qh hr3;have pP:=qh (Hgb.out _ HB3.out);have KS:=qh (HP.out.trans (T1.out _ rfl h0));clear hr3 hb3;go_wp2_with fail;go_ret;exact RG.err KS.out pP.out Qd.out
  ·rw[qx h0] at hP;have HP:=qh hP;have H0:=qh h0;clear hf hE hP QN KA XF;go_wp2_with fail;refine HFt.out.mono ?_;rintro e w' ⟨rfl,rfl⟩;go_wp2_with fail;refine pE.out.mono ?_;rintro e w2 ⟨hb2,hr2⟩;rw[qx h0] at hr2;obtain⟨rfl,hr2⟩:=hr2;have Qd:=qh hr2;have pP:=qh (Hgb.out _ (gtr Hb1.out hb2));clear hr2 hb2;go_wp2_with fail;go_ret;exact RG.err HP.out pP.out Qd.out
 |false=>
  rw[hf,qx (by decide)] at hP;have HP:=qh hP;have HFt:Hid (Calls Tryz.prog 156 #[.string t] W1 λe w'=>e=.returned (.bool false)/\W1=w'):=qh (by have:=HF.out W1;rw[hf] at this;exact this);have Hn:Hid ((1:Int)<=1/\(1:Int)<=16):=qh (by omega);have HJ:=VP;have Hy:=HX;clear hP hf QN KA XF pE;have y0:=x0;have y1:=x1;clear x0 x1;go_wp2_with fail;refine HFt.out.mono ?_;rintro e w2 ⟨rfl,rfl⟩;have hft:=zde H1.out hs;rw[HJ.out] at hft;have T1:=qh (λer=>zem (n:=(1:Int)) (Z1:=p) (L:=L) (m:=m) (er:=er));have T2:=qh (zdC (n:=(1:Int)) (Z1:=p) (L:=L) (m:=m));have T3:=qh (zfW (n:=(1:Int)) (Z1:=p) (L:=L) (m:=m));have HA2:=qh (λh0=>V4 (s:=s) (i:=i) H1.out.hi h0);have Hfp:=qh (λh=>zeT (t:=(hd L).2) h);rw[HJ.out] at HA2;unfold pt at hft;generalize hF:pT (hd L).2=F at*;obtain⟨own,er⟩:=F;simp only[] at hft T1 T2 T3 Hfp;have Hft:=qh hft;clear hft hF;go_wp2_with fail;refine Hft.out.mono ?_;rintro e w3 ⟨hb3,hr3⟩;have HB3:=qh (gtr Hb1.out hb3);have q0:w3.cell? ⟨w.heap.size,0,none⟩=some (.int .i64 p):=(qw (hb3.block w.heap.size (qg Hy.out).1 (by simp;omega))).trans y0;have q1:w3.cell? ⟨w.heap.size,1,none⟩=some (.string t):=(qw (hb3.block w.heap.size (qg Hy.out).1 (by simp;omega))).trans y1;by_cases h0:er=0
  ·subst h0;simp only[ye,kt] at hr3;obtain⟨rfl,hr3⟩:=hr3;have H3:=qh hr3;have HD:=qh (HA2.out (Hfp.out rfl)).2;clear hr3 hb3 HA2 Hfp Hft y0 y1;obtain⟨A0,cc0,KE⟩:=pJ H3.out.rr.gO;subst KE;have d1:=H3.out.rr.rb.c1;have hn1:=Hn.out.1;have hn2:=Hn.out.2;by_cases hlong:(m.gO.length:Int)+(1:Int)<=16
   ·have KS:=qh (HP.out.trans (T3.out rfl hlong));have zsJ:=qh (Hgb.out _ HB3.out);clear T1 T2 T3 q0 q1;go_wp2_with fail;go_loopw [9] (λq wr=>∃(k:Nat) (Zf:Value) (vs':List Value),(k:Int)<=(1:Int)/\q=.int .i64 k/\Hid (RQ wr base b s T cap (i+1) (m.more k own) ec ep Zf ve vb vs')/\Hid (Below base w wr)) (λq _=>((1:Int):Int).toNat-(intOf q).toNat)
    case atStart=>exact⟨0,_,vs,by omega,rfl,qh (by rw[Met.ZI];exact H3.out),zsJ⟩
    case round=>
     rename_i wr;obtain⟨k,Zf,vs',hk,rfl,hr,hbr⟩:=hrel;clear d1;by_cases hlt:(k:Int)<(1:Int)
     ·have f1:=hr.out.rr.rb.c1;have z1:=hr.out.rr.rb.z 1;have hrb:=hr.out.bl;have hfe:=hr.out.rr.gO;rw[Met.Qh] at hfe;have hmk:(m.more k own).gO.length=m.gO.length+k:=Met.Qh _ _ _;obtain⟨A,cc,hvs⟩:=pJ hfe
      have hne:Zf.ownBlock≠some b:=by rcases pI hr.out.rr.gO hr.out.rr.rb (by decide) with e|e;· rw[e];simp
                                      ·exact e
      have J2:=qh λ(w4:World) (v4:Value) ho hg=>hr.out.foot (w1:=w4) (own:=own) (v':=v4) (by rw[hmk];exact ho) hg;have hrs:=hr.out.bs;have Xi:=qh λ(w4:World) (hg:wr.grownBy w4 Zf.ownBlock)=>qY ((zp (w:=wr) (w':=w4) (a:=⟨b,1,none⟩) (hg.block b hrb (λe=>hne e.symm))).trans z1) ((qw (w:=wr) (w':=w4) (a:=⟨b,1,none⟩) (hg.block b hrb (λe=>hne e.symm))).trans f1);have Qg:∀q,Zf.ownBlock=some q->base<=q:=λq hq=>(hfe.lt q hq).1;have Q0:=qh λ(w4:World) (hg:wr.grownBy w4 Zf.ownBlock) (v4:Value)=>(hbr.out.grown hg hrs Qg).setCell (show base<=b from hr.out.rr.hb) v4 (p:=⟨b,1,none⟩);have Hfe:=qh hfe;have zsi:m.gO.length+k<16:=(by omega);clear hr hfe Qg hmk hne hbr;subst hvs;go_wp2_with (at_builtin;go_loud (refine VL _ rfl _ _ 75 rfl base 81 _ _ 2 40 ji zh2 zh3 zh4 zfP rfl (by decide) (.slice A (m.gO.length+k) cc) (m.gO.length+k) (Zn (m.more k own).gO vs') _ _ rfl rfl ?c0 (by exact Hfe.out) rfl ?c1 ?c2 ?c3 ?c4 ?_;rotate_right;intro v1 w4 hown1 hg1 pR;obtain⟨g1,Qn,rfl⟩:=Zv hown1 (by omega);obtain⟨hz1,hc3⟩:=Xi.out _ hg1;have gT:=qh (J2.out _ _ hown1 hg1);have pV:=qh (Q0.out _ hg1 (.slice (some ⟨g1,0,none⟩) (m.gO.length+k+1) Qn));clear hown1 hg1 pR))
      case c0=>simp
      case c1=>exact⟨rfl,rfl⟩
      case c2=>unfold maxLen;omega
      case c3=>omega
      case c4=>exact hrs
      go_roundw
      case rel=>exact⟨k+1,_,_,by omega,by go_num,qh (by rw[<-Met.ZJ];exact gT.out),pV⟩
      case measure=>simp[intOf];omega
     ·have hkn:k=((1:Int):Int).toNat:=(by omega);have HP3:Hid (Xq L m=.ok (gW L,m.more k own)):=qh (by rw[hkn];exact KS.out);clear hkn;go_wp2_with fail;go_ret;exact RG.good HP3.out HD.out hbr.out hr.out
   ·have KS:=qh (HP.out.trans (T2.out rfl (by omega)));have hfl:=gX 3 (p,t) H3.out;unfold ue at hfl;simp only[] at hfl;have Jj:=qh hfl;clear T1 T2 T3 hfl;go_wp2_with fail;refine Jj.out.mono ?_;rintro e w' ⟨rfl,pB,pb⟩;have Qd:=qh pB;have pP:=qh (Hgb.out _ (gtr HB3.out pb));clear pB pb;go_wp2_with fail;go_ret;exact RG.err KS.out pP.out Qd.out
  ·rw[qx h0] at hr3;obtain⟨rfl,hr3⟩:=hr3;have Qd:=qh hr3;have pP:=qh (Hgb.out _ HB3.out);have KS:=qh (HP.out.trans (T1.out _ rfl h0));clear hr3 hb3;go_wp2_with fail;go_ret;exact RG.err KS.out pP.out Qd.out
end Go.Proofs.YtgklikkddckgbaaGreatDoor


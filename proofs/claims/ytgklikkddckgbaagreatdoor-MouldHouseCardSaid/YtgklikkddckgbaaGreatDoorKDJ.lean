import Derived.Test.YtgklikkddckgbaaGreatDoorKDH
/- Lemmas. -/
set_option linter.all false
set_option maxRecDepth 100000
set_option maxHeartbeats 16000000
namespace Go.Proofs.YtgklikkddckgbaaGreatDoor
open Go.RowKit
structure OM (w:World) (base:Nat) (m:Met) (vf ve vb:Value) (vs:List Value):Prop where
 vl:vs.length=m.gD.length
 gD:w.ownsRow base 81 2 vf m.gD.length (Z0 m.gD vs)
 gG:∀k,k<m.gD.length->w.ownsRow base 83 2 (vs.getD k yN) (m.gD.getD k default).gG.length (QG (m.gD.getD k default).gG)
 ends:w.ownsRow base 83 2 ve m.ends.length (QG m.ends)
 gH:w.ownsRow base 85 2 vb m.gH.length (Xj m.gH)
 apart:Apart (ve::vs)
theorem RS.om {w:World} {base b a:Nat} {s t:ByteArray} {m:Met} {ah:Int} {vf ve vb:Value} {vs:List Value} (h:RS w base b s a t m ah vf ve vb vs):OM w base m vf ve vb vs:=⟨h.vl,h.gD,h.gG,h.ends,h.gH,h.apart⟩
theorem zcs {w:World} {base k o e z n:Nat} {v x:Value} {xs:List Value} (h:w.ownsRow base e z v n xs) (hk:k<base):(w.setCell ⟨k,o,none⟩ x).ownsRow base e z v n xs:=
 h.kept (zaN w k o x) (by
  cases hv:v.ownBlock with
  |none=>exact .inl rfl
  |some q=>right;intro e;cases e;have:=(h.lt _ hv).1;omega)
theorem OM.put {w:World} {base k:Nat} {m:Met} {vf ve vb:Value} {vs:List Value} (h:OM w base m vf ve vb vs) (hk:k<base) (o:Nat) (x:Value):OM (w.setCell ⟨k,o,none⟩ x) base m vf ve vb vs:=
 ⟨h.vl,zcs h.gD hk,λj hj=>zcs (h.gG j hj) hk,zcs h.ends hk,zcs h.gH hk,h.apart⟩
theorem zcY {w:World} {base base' e z n:Nat} {v:Value} {xs:List Value} (h:w.ownsRow base e z v n xs) (hb:base'<=base):w.ownsRow base' e z v n xs:=
 ⟨h.1,h.2.imp id λ⟨g,cap,cur,h1,h2,h3⟩=>⟨g,cap,cur,h1,qm hb h2,h3⟩⟩
theorem OM.zpI {w:World} {base base':Nat} {m:Met} {vf ve vb:Value} {vs:List Value} (h:OM w base m vf ve vb vs) (hb:base'<=base):OM w base' m vf ve vb vs:=
 ⟨h.vl,zcY h.gD hb,λj hj=>zcY (h.gG j hj) hb,zcY h.ends hb,zcY h.gH hb,h.apart⟩
def zlR:Value:=.agg #[yN,yN,yN]
def QR (s:ByteArray) (w:World) (e:Ending) (w':World):Prop:=Below w.heap.size w w'/\
 match Zg s with
 |.error (c,p)=>e=.returned (.tuple #[zlR,.agg #[.int .i64 c,.int .i64 p]])
 |.ok m=>gY m/\∃vf ve vb vs,e=.returned (.tuple #[.agg #[vf,ve,vb],.agg #[.int .i64 0,.int .i64 0]])/\OM w' w.heap.size m vf ve vb vs
def JR (s:ByteArray) (w0:World) (l g:Nat) (a:Act) (w:World):Prop:=
 Below w0.heap.size w0 w/\Vars w/\
 w.heap[w0.heap.size]?=some (.cells #[yN,yN,yN] 79 (0,0))/\w.heap[w0.heap.size+1]?=some (.cells #[.int .i64 0,.int .i64 0] 87 (0,0))/\
 match l with
 |0=>Fr s w0.heap.size (w0.heap.size+2) a/\∃(L:List Tok) (m:Met) (f:Nat) (vf ve vb:Value) (vs:List Value),L.length*3+2<=g/\L.length<=f/\Km s L/\gY m/\Jl f L m=Zg s/\RS w (w0.heap.size+2) (w0.heap.size+2) s (hd L).1 (hd L).2 m (zag m) vf ve vb vs
 |1=>Fr s w0.heap.size (w0.heap.size+2) a/\∃(L:List Tok) (m:Met) (f:Nat) (vf ve vb:Value) (vs:List Value),L.length*3+1<=g/\L.length<=f/\Km s L/\gY m/\0<m.gD.length/\Ki f L m=Zg s/\RS w (w0.heap.size+2) (w0.heap.size+2) s (hd L).1 (hd L).2 m (zag m) vf ve vb vs
 |2=>∃(c:Int) (p:Nat),FrE s w0.heap.size (w0.heap.size+2) c a/\Zg s=.error (c,p)/\w.cell? ⟨w0.heap.size+2,1,none⟩=some (.int .i64 p)
 |_=>False
theorem zmE {s:ByteArray} {w0:World} {l g:Nat} {a:Act} {w:World} (h:JR s w0 l g a w):l<3:=by
 obtain⟨_,_,_,_,h⟩:=h;match l,h with
 |0,_=>omega
 |1,_=>omega
 |2,_=>omega
theorem zie {L L':List Tok} {m m':Met} (h:JY L m=.ok (L',m')) (hz:gY m):gY m'/\zag m'=zag m/\L'.length<=L.length/\0<m'.gD.length:=by
 have tail:∀(n:Int) (p:Nat) (L1:List Tok),1<=n->L1.length<=L.length->Xi n p L1 m=.ok (L',m')->gY m'/\zag m'=zag m/\L'.length<=L.length/\0<m'.gD.length:=λn p L1 hn1 hl h=>by
  unfold Xi at h;split at h
  ·split at h
   ·rename_i h16;simp only[ke,kD] at h;obtain⟨rfl,rfl⟩:=h;refine⟨⟨?_,λk hk=>?_,hz.ends,hz.brk⟩,rfl,qm (Xt L1) hl,by simp;omega⟩
    ·have:=hz.gD;simp only[qq,xt];omega
    ·simp only[] at hk|-;by_cases hlt:k<m.gD.length
     ·rw[qj,qY hlt,<-qj];exact hz.gG k hlt
     ·simp only[qq,xt] at hk;rw[qj,kH (by omega),List.getElem?_replicate,qx (by omega)];simp[zcn]
   ·cases h
  ·cases h
 unfold JY at h;split at h
 ·split at h
  ·rename_i hn;exact tail _ _ _ (zcK hn).1 (Xt L) h
  ·cases h
 ·exact tail _ _ _ (by decide) (ql _) h
theorem zif:∀(f:Nat) (L:List Tok) (m:Met) (i n:Nat) (all:Bool) (L':List Tok) (m':Met),Zv f L m i n all=.ok (L',m')->L'.length<=L.length:=by
 intro f;induction f with
 |zero=>intro L m i n all L' m' h;cases h
 |succ f ih=>
  intro L m i n all L' m' h;have a1:=Xt L;have a2:=Xt (gL L);have a3:=Xt (gL (gL L));unfold Zv at h;split at h
  ·split at h
   ·split at h
    ·split at h
     ·have:=ih _ _ _ _ _ _ _ h;omega
     ·simp only[ke,kD] at h;rw[<-h.1];omega
    ·cases h
   ·cases h
  ·cases h
theorem zkQ:∀(f:Nat) (L:List Tok) (m:Met) (L':List Tok) (m':Met),ZG f L m=.ok (L',m')->L'.length<=L.length:=by
 intro f;induction f with
 |zero=>intro L m L' m' h;cases h
 |succ f ih=>
  intro L m L' m' h;have a1:=Xt L;have a2:=Xt (gL L);have a3:=Xt (gL (gL L));unfold ZG at h;split at h
  ·split at h
   ·cases h
   ·split at h
    ·cases h
    ·split at h
     ·split at h
      ·have:=ih _ _ _ _ h;omega
      ·simp only[ke,kD] at h;rw[<-h.1];omega
     ·cases h
  ·cases h
theorem zjN {L:List Tok} {m:Met} {L':List Tok} {m':Met} (h:Ya L m=.ok (L',m')):L'.length<=L.length:=by
 have a1:=Xt L;have a2:=Xt (gL L);unfold Ya at h;split at h
 ·split at h
  ·simp only[ke,kD] at h;rw[<-h.1];omega
  ·cases h
 ·cases h
theorem zgL:∀(f:Nat) (L:List Tok) (m:Met) (i n:Nat) (all:Bool) (L':List Tok) (m':Met),i+n<=m.gD.length->Zv f L m i n all=.ok (L',m')->m'.gD.length=m.gD.length:=by
 intro f;induction f with
 |zero=>intro L m i n all L' m' hin h;cases h
 |succ f ih=>
  intro L m i n all L' m' hin h;unfold Zv at h;split at h
  ·split at h
   ·split at h
    ·split at h
     ·have hl:=za5 m.gD i n (pH (hd L).2).1 (gK (hd (gL L)).2 0 1048576).1 all hin;have:=ih _ _ _ _ _ _ _ (by simp only[];omega) h;simp only[] at this;omega
     ·simp only[ke,kD] at h;rw[<-h.2];exact za5 _ _ _ _ _ _ hin
    ·cases h
   ·cases h
  ·cases h
theorem zjO:∀(f:Nat) (L:List Tok) (m:Met) (L':List Tok) (m':Met),ZG f L m=.ok (L',m')->m'.gD.length=m.gD.length:=by
 intro f;induction f with
 |zero=>intro L m L' m' h;cases h
 |succ f ih=>
  intro L m L' m' h;unfold ZG at h;split at h
  ·split at h
   ·cases h
   ·split at h
    ·cases h
    ·split at h
     ·split at h
      ·have:=ih _ _ _ _ h;exact this
      ·simp only[ke,kD] at h;rw[<-h.2]
     ·cases h
  ·cases h
theorem zeG {L:List Tok} {m:Met} {L':List Tok} {m':Met} (h:QL L m=.ok (L',m')):m'.gD.length=m.gD.length:=by
 unfold QL at h;split at h
 ·exact zgL _ _ _ _ _ _ _ _ (by omega) h
 ·split at h
  ·exact zjO _ _ _ _ _ h
  ·split at h
   ·unfold Ya at h;split at h
    ·split at h
     ·simp only[ke,kD] at h;rw[<-h.2]
     ·cases h
    ·cases h
   ·split at h
    ·split at h
     ·rename_i hn;have:=zcK hn;exact zgL _ _ _ _ _ _ _ _ (by omega) h
     ·cases h
    ·cases h
theorem zfm {L:List Tok} {m:Met} {L':List Tok} {m':Met} (h:QL L m=.ok (L',m')):L'.length<=L.length:=by
 have a1:=Xt L;unfold QL at h;split at h
 ·have:=zif _ _ _ _ _ _ _ _ h;omega
 ·split at h
  ·have:=zkQ _ _ _ _ _ h;omega
  ·split at h
   ·have:=zjN h;omega
   ·split at h
    ·split at h
     ·have:=zif _ _ _ _ _ _ _ _ h;omega
     ·cases h
    ·cases h
theorem zlS {w:World} {B e z n:Nat} {v:Value} {x:List Value} (h:w.ownsRow B e z v n x):∃A c,v=.slice A n c/\n<=c/\True:=by
 rcases h.2 with⟨rfl,h0⟩|⟨g,cap,cur,rfl,_,hg,hcap,_⟩
 ·exact⟨none,0,by rw[h0],by omega,trivial⟩
 ·exact⟨_,cap,rfl,hcap,trivial⟩
theorem zig {s:ByteArray} {w wr w3:World} {c:Int} {p:Nat} (hb:Below w.heap.size w wr) (Za:Vars wr) (h6:9<=w.heap.size) (x2:wr.heap[w.heap.size]?=some (.cells #[yN,yN,yN] 79 (0,0))) (x3:wr.heap[w.heap.size+1]?=some (.cells #[.int .i64 0,.int .i64 0] 87 (0,0)))
  (h2:w.heap.size+2<=wr.heap.size) (hb3:Below (w.heap.size+2) wr w3) (hR:Zg s=.error (c,p)) (hat:w3.cell? ⟨w.heap.size+2,1,none⟩=some (.int .i64 p)):
  ∀g a,FrE s w.heap.size (w.heap.size+2) c a->JR s w 2 g a w3:=λg a ha=>
 ⟨hb.trans (hb3.mono (by omega)),Za.below hb3 (by omega),(hb3.block w.heap.size (by omega)).trans x2,(hb3.block (w.heap.size+1) (by omega)).trans x3,c,p,ha,hR,hat⟩
def zjP (s:ByteArray) (w:World) (g:Nat) (e:Ending) (w4:World):Prop:=
 ∃c:Int,e=.returned (.int .i64 c)/\((c=0/\∀a,Fr s w.heap.size (w.heap.size+2) a->zet (JR s w) g 1 a w4)∨(c≠0/\∀g' a,FrE s w.heap.size (w.heap.size+2) c a->JR s w 2 g' a w4))
theorem ziL {s:ByteArray} {w wr w3 w4:World} {L:List Tok} {m:Met} {q g:Nat} {e:Ending} (hb:Below w.heap.size w wr) (Za:Vars wr) (h6:9<=w.heap.size) (x2:wr.heap[w.heap.size]?=some (.cells #[yN,yN,yN] 79 (0,0))) (x3:wr.heap[w.heap.size+1]?=some (.cells #[.int .i64 0,.int .i64 0] 87 (0,0)))
  (h2:w.heap.size+2<=wr.heap.size) (hb3:Below (w.heap.size+2) wr w3) (h0:(hd L).2.size≠0) (zrw:gU (hd L).2 ZU=true) (hlt:(gL L).length<L.length) (hg:L.length*3+1<=g) (hf:L.length<=q+1) (hfe:0<m.gD.length) (hR:Ki (q+1) L m=Zg s)
  (hcl:uF (w.heap.size+2) (w.heap.size+2) s w3 (QL (gL L) m) e w4):zjP s w g e w4:=by
 obtain⟨hb4,hcl⟩:=hcl;have hbb:=hb3.trans hb4;cases hc:QL (gL L) m with
 |error x=>
  obtain⟨c,p⟩:=x;rw[hc] at hcl;obtain⟨rfl,hne,hat⟩:=hcl;refine⟨c,rfl,.inr ⟨hne,zig hb Za h6 x2 x3 h2 hbb ?_ hat⟩⟩;rw[<-hR];unfold Ki;simp[h0,zrw,hc]
 |ok y=>
  obtain⟨L',m'⟩:=y;rw[hc] at hcl;obtain⟨rfl,hL',hz',vf,ve,vb,vs,hr⟩:=hcl;have hln:=zfm hc;have hfl:=zeG hc;refine⟨0,rfl,.inl ⟨rfl,λa ha=>⟨L'.length*3+1,by omega,hb.trans (hbb.mono (by omega)),Za.below hbb (by omega),(hbb.block w.heap.size (by omega)).trans x2,(hbb.block (w.heap.size+1) (by omega)).trans x3,ha,L',m',q,vf,ve,vb,vs,ql _,by omega,hL',hz',by omega,?_,hr⟩⟩⟩;rw[<-hR];conv=>rhs;unfold Ki
  simp[h0,zrw,hc]
theorem zjQ {s:ByteArray} {L:List Tok} (hL:Km s L) (h:gU (hd L).2 ZU=true):(gL L).length<L.length:=by
 obtain⟨p,hp,rfl⟩:=hL;refine zjk λe=>?_;rw[e] at h;exact absurd h (by decide+kernel)
theorem zbK {w wr:World} {v0 v1 v2 v3 v4:Value} {x0 x1 x2 x3 x4:Value} (hb:Below w.heap.size w wr) (hx2:wr.heap[w.heap.size]?=some (.cells #[x0,x1,x2] 79 (0,0))) (hx3:wr.heap[w.heap.size+1]?=some (.cells #[x3,x4] 87 (0,0)))
  {W6:World} (Jd:(((((wr.setCell ⟨w.heap.size,0,none⟩ v0).setCell ⟨w.heap.size,1,none⟩ v1).setCell ⟨w.heap.size,2,none⟩ v2).setCell ⟨w.heap.size+1,0,none⟩ v3).setCell ⟨w.heap.size+1,1,none⟩ v4)=W6):
  Below w.heap.size w W6/\W6.heap[w.heap.size]?=some (.cells #[v0,v1,v2] 79 (0,0))/\W6.heap[w.heap.size+1]?=some (.cells #[v3,v4] 87 (0,0)):=by
 have g2:=qs _ w.heap.size 2 _ 79 v2 (qs _ w.heap.size 1 _ 79 v1 (qs wr w.heap.size 0 _ 79 v0 hx2));generalize Ql:((wr.setCell ⟨w.heap.size,0,none⟩ v0).setCell ⟨w.heap.size,1,none⟩ v1).setCell ⟨w.heap.size,2,none⟩ v2=W5 at*;have q3:W5.heap[w.heap.size+1]?=some (.cells #[x3,x4] 87 (0,0)):=by
  rw[<-Ql];refine(qT _ _ _ _ ?_).trans ((qT _ _ _ _ ?_).trans ((qT _ _ _ _ ?_).trans hx3))<;>(show w.heap.size+1≠w.heap.size;omega)
 have g5:=qs _ (w.heap.size+1) 1 _ 87 v4 (qs W5 (w.heap.size+1) 0 _ 87 v3 q3);refine⟨?_,?_,by rw[<-Jd];exact g5⟩
 ·rw[<-Jd,<-Ql];exact((((hb.setCell (by show w.heap.size<=w.heap.size;omega) _).setCell (by show w.heap.size<=w.heap.size;omega) _).setCell (by show w.heap.size<=w.heap.size;omega) _).setCell (by show w.heap.size<=w.heap.size+1;omega) _).setCell (by show w.heap.size<=w.heap.size+1;omega) _
 ·rw[<-Jd];refine(qT _ _ _ _ ?_).trans ((qT _ _ _ _ ?_).trans g2)<;>(show w.heap.size≠w.heap.size+1;omega)
theorem zfX {w W:World} {T:Array Value} {Q:Ending->World->Prop} {v0 v1 v2 v3 v4:Value} (h2:T.getD 2 undef=.pointer (some ⟨w.heap.size,0,none⟩)) (h3:T.getD 3 undef=.pointer (some ⟨w.heap.size+1,0,none⟩))
  (r0:W.heap[w.heap.size]?=some (.cells #[v0,v1,v2] 79 (0,0))) (r1:W.heap[w.heap.size+1]?=some (.cells #[v3,v4] 87 (0,0))) (hQ:Q (.returned (.tuple #[.agg #[v0,v1,v2],.agg #[v3,v4]])) W):
  bodyPost Tryz.prog Tryz.f115 Q Exit.ret {tmps:=T,defers:=[]} W:=by
 have d0:W.cell? ⟨w.heap.size,0,none⟩=some v0:=qc _ _ _ _ 79 (0,0) r0;have d1:W.cell? ⟨w.heap.size,1,none⟩=some v1:=qc _ _ _ _ 79 (0,0) r0;have d2:W.cell? ⟨w.heap.size,2,none⟩=some v2:=qc _ _ _ _ 79 (0,0) r0;have d3:W.cell? ⟨w.heap.size+1,0,none⟩=some v3:=qc _ _ _ _ 87 (0,0) r1;have d4:W.cell? ⟨w.heap.size+1,1,none⟩=some v4:=qc _ _ _ _ 87 (0,0) r1;have h2':T[2]?.getD undef=.pointer (some ⟨w.heap.size,0,none⟩):=by simpa using h2
 have h3':T[3]?.getD undef=.pointer (some ⟨w.heap.size+1,0,none⟩):=by simpa using h3
 refine zv (v:=.tuple #[.agg #[v0,v1,v2],.agg #[v3,v4]]) ?_ rfl hQ;simp[results,Tryz.f115,go_sem,h2',h3',d0,d1,d2,d3,d4,Tryz.isAgg79,Tryz.isAgg87,Tryz.sizeOf79,yt]
theorem zjR (s:ByteArray) (w:World) (zqV:s.size<=4611686018427387904) (hs6:65536<s.size):
  Calls Tryz.prog 115 #[.string s] w (QR s w):=by
 have HR2:Hid (Zg s=.error (3,65536)):=qh (by unfold Zg;rw[qx hs6]);go_enter Tryz.func115,Tryz.ntmps115;go_wp2_with fail;generalize hw1:(w.alloc (.cells #[.slice none 0 0,.slice none 0 0,.slice none 0 0] 79)).alloc (.cells #[.int .i64 0,.int .i64 0] 87)=w1;have x2:w1.heap[w.heap.size]?=some (.cells #[yN,yN,yN] 79 (0,0)):=by rw[<-hw1];exact(qa _ _ _ (by simp)).trans (qn w _)
 have x3:w1.heap[w.heap.size+1]?=some (.cells #[.int .i64 0,.int .i64 0] 87 (0,0)):=by
  rw[<-hw1];have:=qn (w.alloc (.cells #[.slice none 0 0,.slice none 0 0,.slice none 0 0] 79)) (.cells #[.int .i64 0,.int .i64 0] 87);rw[qO] at this;exact this
 have hb1:Below w.heap.size w w1:=by rw[<-hw1];exact((qb _ _).alloc (ql _) _).alloc (by simp) _
 have k0:w1.cell? ⟨w.heap.size,0,none⟩=some (.slice none 0 0):=qc _ _ _ _ 79 (0,0) x2;have k1:w1.cell? ⟨w.heap.size,1,none⟩=some (.slice none 0 0):=qc _ _ _ _ 79 (0,0) x2;have k2:w1.cell? ⟨w.heap.size,2,none⟩=some (.slice none 0 0):=qc _ _ _ _ 79 (0,0) x2;have l0:w1.cell? ⟨w.heap.size+1,0,none⟩=some (.int .i64 0):=qc _ _ _ _ 87 (0,0) x3;have l1:w1.cell? ⟨w.heap.size+1,1,none⟩=some (.int .i64 0):=qc _ _ _ _ 87 (0,0) x3;have z0:=qf w1 w.heap.size 0 _ 79 x2;have z1:=qf w1 w.heap.size 1 _ 79 x2;have z2:=qf w1 w.heap.size 2 _ 79 x2;have y0:=qf w1 (w.heap.size+1) 0 _ 87 x3;have y1:=qf w1 (w.heap.size+1) 1 _ 87 x3;have Hb1:=qh hb1;have X2:=qh x2;have X3:=qh x3;clear hb1 hw1 x2 x3;refine zbY (λ_ _ _ _=>False) ?_ (λ_ _ _ _ h=>h.elim);go_wp2_with fail;obtain⟨hbe,r0,r1⟩:=zbK (v0:=.slice none 0 0) (v1:=.slice none 0 0) (v2:=.slice none 0 0) (v3:=.int .i64 3) (v4:=.int .i64 65536) Hb1.out X2.out X3.out rfl;exact zfX rfl rfl r0 r1 ⟨hbe,by rw[HR2.out];rfl⟩
theorem ziM (s:ByteArray) (w:World) (hv:Vars w) (hs6:s.size<=65536):
  Calls Tryz.prog 115 #[.string s] w (QR s w):=by
 go_enter Tryz.func115,Tryz.ntmps115;go_wp2_with fail;generalize hw1:(w.alloc (.cells #[.slice none 0 0,.slice none 0 0,.slice none 0 0] 79)).alloc (.cells #[.int .i64 0,.int .i64 0] 87)=w1;have sw1:w1.heap.size=w.heap.size+2:=by rw[<-hw1];simp
 refine ze3 rfl rfl rfl (JR s w) (λ_ _ _ _=>zmE) ?p2 ?p1 ?p0 ?first
 case p2=>
  intro g a wr hJ;obtain⟨hb,Za,hx2,hx3,c,p,hfr,hR,hat⟩:=hJ;obtain⟨f,rfl⟩:=hfr;have k0:wr.cell? ⟨w.heap.size,0,none⟩=some (.slice none 0 0):=qc _ _ _ _ 79 (0,0) hx2;have k1:wr.cell? ⟨w.heap.size,1,none⟩=some (.slice none 0 0):=qc _ _ _ _ 79 (0,0) hx2;have k2:wr.cell? ⟨w.heap.size,2,none⟩=some (.slice none 0 0):=qc _ _ _ _ 79 (0,0) hx2;have l0:wr.cell? ⟨w.heap.size+1,0,none⟩=some (.int .i64 0):=qc _ _ _ _ 87 (0,0) hx3;have l1:wr.cell? ⟨w.heap.size+1,1,none⟩=some (.int .i64 0):=qc _ _ _ _ 87 (0,0) hx3;have z0:=qf wr w.heap.size 0 _ 79 hx2;have z1:=qf wr w.heap.size 1 _ 79 hx2;have z2:=qf wr w.heap.size 2 _ 79 hx2;have y0:=qf wr (w.heap.size+1) 0 _ 87 hx3;have y1:=qf wr (w.heap.size+1) 1 _ 87 hx3;go_wp2_with fail;go_region
  all_goals
   go_wp2_with fail;have g2:=qs _ w.heap.size 2 _ 79 (.slice none 0 0) (qs _ w.heap.size 1 _ 79 (.slice none 0 0) (qs wr w.heap.size 0 _ 79 (.slice none 0 0) hx2));have g3:=hx3;generalize Ql:((wr.setCell ⟨w.heap.size,0,none⟩ (.slice none 0 0)).setCell ⟨w.heap.size,1,none⟩ (.slice none 0 0)).setCell ⟨w.heap.size,2,none⟩ (.slice none 0 0)=W5 at*;have q3:W5.heap[w.heap.size+1]?=some (.cells #[.int .i64 0,.int .i64 0] 87 (0,0)):=by
    rw[<-Ql];refine(qT _ _ _ _ ?_).trans ((qT _ _ _ _ ?_).trans ((qT _ _ _ _ ?_).trans hx3))<;>(show w.heap.size+1≠w.heap.size;omega)
   have g5:=qs _ (w.heap.size+1) 1 _ 87 (.int .i64 p) (qs W5 (w.heap.size+1) 0 _ 87 (.int .i64 c) q3);have g4:((W5.setCell ⟨w.heap.size+1,0,none⟩ (.int .i64 c)).setCell ⟨w.heap.size+1,1,none⟩ (.int .i64 p)).heap[w.heap.size]?=some (.cells #[.slice none 0 0,.slice none 0 0,.slice none 0 0] 79 (0,0)):=by
    refine(qT _ _ _ _ ?_).trans ((qT _ _ _ _ ?_).trans g2)<;>(show w.heap.size≠w.heap.size+1;omega)
   have hb5:Below w.heap.size w ((W5.setCell ⟨w.heap.size+1,0,none⟩ (.int .i64 c)).setCell ⟨w.heap.size+1,1,none⟩ (.int .i64 p)).drew:=by
    rw[<-Ql];exact(((((hb.setCell (by show w.heap.size<=w.heap.size;omega) _).setCell (by show w.heap.size<=w.heap.size;omega) _).setCell (by show w.heap.size<=w.heap.size;omega) _).setCell (by show w.heap.size<=w.heap.size+1;omega) _).setCell (by show w.heap.size<=w.heap.size+1;omega) _).drew
   generalize Jd:((W5.setCell ⟨w.heap.size+1,0,none⟩ (.int .i64 c)).setCell ⟨w.heap.size+1,1,none⟩ (.int .i64 p)).drew=W6;have r0:W6.heap[w.heap.size]?=some (.cells #[.slice none 0 0,.slice none 0 0,.slice none 0 0] 79 (0,0)):=(by rw[<-Jd];exact g4);have r1:W6.heap[w.heap.size+1]?=some (.cells #[.int .i64 c,.int .i64 p] 87 (0,0)):=(by rw[<-Jd];exact g5);rw[Jd] at hb5;have d0:W6.cell? ⟨w.heap.size,0,none⟩=some (.slice none 0 0):=qc _ _ _ _ 79 (0,0) r0;have d1:W6.cell? ⟨w.heap.size,1,none⟩=some (.slice none 0 0):=qc _ _ _ _ 79 (0,0) r0;have d2:W6.cell? ⟨w.heap.size,2,none⟩=some (.slice none 0 0):=qc _ _ _ _ 79 (0,0) r0;have d3:W6.cell? ⟨w.heap.size+1,0,none⟩=some (.int .i64 c):=qc _ _ _ _ 87 (0,0) r1;have d4:W6.cell? ⟨w.heap.size+1,1,none⟩=some (.int .i64 p):=qc _ _ _ _ 87 (0,0) r1;have hres:QR s w (.returned (.tuple #[zlR,.agg #[.int .i64 c,.int .i64 p]])) W6:=by
    unfold QR;rw[hR];exact⟨hb5,rfl⟩
   refine zv (v:=.tuple #[zlR,.agg #[.int .i64 c,.int .i64 p]]) ?_ rfl hres;simp[results,Tryz.f115,go_sem,d0,d1,d2,d3,d4,Tryz.isAgg79,Tryz.isAgg87,Tryz.sizeOf79,yt];rfl
 case p1=>
  intro q2 g a wr hJ;obtain⟨hb,Za,hx2,hx3,hfr,L,m,f,vf,ve,vb,vs,hg,hf,hL,hz,hfe,hR,hr⟩:=hJ;obtain⟨u,rfl⟩:=hfr;have hlp:0<L.length:=by
   obtain⟨p,hp,e⟩:=hL;rw[e];exact zbV s p
  obtain⟨q,rfl⟩:∃q,f=q+1:=⟨f-1,by omega⟩;have hbase:w.heap.size+2<=wr.heap.size:=hr.bs;obtain⟨gf,cf,Kk⟩:=ZR hr.gD hfe;subst Kk;have hcf:m.gD.length<=cf:=by
   obtain⟨A,c,e,hc,_⟩:=zlS hr.gD;cases e;exact hc
  have d1:=hr.rb.c1;have d2:=hr.rb.c2;have Hq2:=qh q2;have Hr:=qh hr;have HR:=qh hR;have Hb:=qh hb;have Hvr:=qh Za;have Q6:=qh hx2;have Jy:=qh hx3;have Hg:=qh hg;have Hf:=qh hf;have H6:Hid (9<=w.heap.size):=qh hv.six;clear q2 hR hr hb Za hx2 hx3 hg hf;have hqs:gU (hd L).2 ZU=((hd L).2.toList==[59]):=zia _;by_cases h0:(hd L).2.size=0
  ·have hl0:(hd L).2.toList=[]:=zba h0;have HR2:Hid (Zg s=.ok m):=qh (by rw[<-HR.out];unfold Ki;rw[qx h0]);obtain⟨A4,J8,hve⟩:=pR Hr.out.ends;obtain⟨A5,XV,hvb⟩:=pR Hr.out.gH;subst hve hvb;have c3:=Hr.out.rb.c3;have c4:=Hr.out.rb.c4;have c5:=Hr.out.rb.c5;have k0:wr.cell? ⟨w.heap.size,0,none⟩=some (.slice none 0 0):=qc _ _ _ _ 79 (0,0) Q6.out;have k1:wr.cell? ⟨w.heap.size,1,none⟩=some (.slice none 0 0):=qc _ _ _ _ 79 (0,0) Q6.out;have k2:wr.cell? ⟨w.heap.size,2,none⟩=some (.slice none 0 0):=qc _ _ _ _ 79 (0,0) Q6.out;have l0:wr.cell? ⟨w.heap.size+1,0,none⟩=some (.int .i64 0):=qc _ _ _ _ 87 (0,0) Jy.out;have l1:wr.cell? ⟨w.heap.size+1,1,none⟩=some (.int .i64 0):=qc _ _ _ _ 87 (0,0) Jy.out;have z0:=qf wr w.heap.size 0 _ 79 Q6.out;have z1:=qf wr w.heap.size 1 _ 79 Q6.out;have z2:=qf wr w.heap.size 2 _ 79 Q6.out;have y0:=qf wr (w.heap.size+1) 0 _ 87 Jy.out;have y1:=qf wr (w.heap.size+1) 1 _ 87 Jy.out;clear h0 hqs;go_wp2_with fail;obtain⟨hbe,r0,r1⟩:=zbK (v0:=.slice (some ⟨gf,0,none⟩) m.gD.length cf) (v1:=.slice A4 m.ends.length J8) (v2:=.slice A5 m.gH.length XV) (v3:=.int .i64 0) (v4:=.int .i64 0) Hb.out Q6.out Jy.out rfl;refine zfX rfl rfl r0 r1 ?_;have Je:=((((Hr.out.om.put (k:=w.heap.size) (by omega) 0 (.slice (some ⟨gf,0,none⟩) m.gD.length cf)).put (k:=w.heap.size) (by omega) 1 (.slice A4 m.ends.length J8)).put (k:=w.heap.size) (by omega) 2 (.slice A5 m.gH.length XV)).put (k:=w.heap.size+1) (by omega) 0 (.int .i64 0)).put (k:=w.heap.size+1) (by omega) 1 (.int .i64 0);refine⟨hbe,?_⟩;rw[HR2.out];exact⟨hz,_,_,_,vs,rfl,Je.zpI (by omega)⟩
  ·cases hc:gU (hd L).2 ZU with
   |false=>
    have hne:((hd L).2.toList==[59])=false:=(by rw[<-hqs,hc]);have hpos:0<(hd L).2.size:=(by omega);have hl1:=zdh hpos;have hne':((hd L).2.toList !=[59])=true:=(by simp[bne,hne]);have HR2:Hid (Zg s=.error (130,(hd L).1)):=qh (by rw[<-HR.out];unfold Ki;simp[h0,hc]);have HJ2:=qh (zig Hb.out Hvr.out H6.out Q6.out Jy.out hbase (qb _ _) HR2.out d1);clear h0 hqs hc;go_wp2_with fail;go_step3
    exact⟨0,by have:=Hg.out;omega,HJ2.out _ _ (FrE.of rfl rfl rfl rfl rfl rfl rfl)⟩
   |true=>
    have hne:((hd L).2.toList==[59])=true:=(by rw[<-hqs,hc]);have hpos:0<(hd L).2.size:=(by omega);have hl1:=zdh hpos;have hne':((hd L).2.toList !=[59])=false:=(by simp[bne,hne]);have XT:=qh (zjQ hL hc);have Hce:=qh (λ(w3 w4:World) (e:Ending) hb3 hcl=>ziL (w3:=w3) (w4:=w4) (e:=e) (g:=g) Hb.out Hvr.out H6.out Q6.out Jy.out hbase hb3 h0 hc XT.out Hg.out Hf.out hfe HR.out hcl);have Hcr:=qh (λ(c:Int) (p:Nat) (he:QL (gL L) m=.error (c,p))=>(show Zg s=.error (c,p) by rw[<-HR.out];unfold Ki;simp[h0,hc,he]));have hnx:=Yk Hr.out hL hs6;have Qi:=qh λw1 hg=>Yl (w':=w1) Hr.out hg;clear h0 hqs hc;go_wp2_with fail;refine hnx.mono ?_;rintro e w3 ⟨rfl,h3,hg3⟩;have H3:=qh h3;have Hb3:=qh (Qi.out w3 hg3);have d2:=h3.rb.c2;have Hv3:=qh (Hvr.out.below Hb3.out (by have:=H6.out;omega));clear hnx Qi h3 hg3;have HL:=qh hL.gL;have q1:=zjJ (hd (gL L)).2;have q2:=zjK (hd (gL L)).2;have q3:=zgE (hd (gL L)).2;cases hc1:gU (hd (gL L)).2 ANY with
    |true=>
     have n1:((hd (gL L)).2.toList==[97,110,121])=true:=(by rw[<-q1,hc1]);have Qg:=qh (show QL (gL L) m=Zv (gL (gL L)).length (gL (gL L)) m 0 m.gD.length true by unfold QL;simp[hc1]);have hnx:=Yk H3.out HL.out hs6;have Qi:=qh λw1 hg=>Yl (w':=w1) H3.out hg;clear hc1 q1 q2 q3;go_wp2_with fail;refine hnx.mono ?_;rintro e w5 ⟨rfl,h5,hg5⟩;have H5:=qh h5;have Hb5:=qh (Hb3.out.trans (Qi.out w5 hg5));have d3:=h5.rb.c3;have hw:=zgF H5.out HL.out.gL hs6 (Hvr.out.below Hb5.out (by have:=H6.out;omega)) (by have:=H6.out;omega) hz 0 m.gD.length cf (by omega) true;simp only[Nat.zero_mul] at hw;have Hw:=qh hw;clear hnx Qi h5 hg5 hw;go_wp2_with fail;refine Hw.out.mono ?_;rintro e w6 ⟨hb6,hcl⟩;have hce:=Hce.out w5 w6 e Hb5.out (by rw[Qg.out];exact⟨hb6,hcl⟩);clear hb6 hcl;obtain⟨c,rfl,hce⟩:=hce;rcases hce with⟨rfl,hJ⟩|⟨hne,hJ⟩
     ·have HJ:=qh hJ;clear hJ;go_wp2_with fail;go_step3
      exact HJ.out _ (Fr.of rfl rfl rfl rfl rfl rfl)
     ·have HJ:=qh hJ;have hne':(c==0)=false:=(by simpa using hne);clear hJ hne;go_wp2_with fail;go_step3
      apply_assumption
      refine zY (zaU (zby (qH _))) (Hq2.out _ _ _ (HJ.out 0 _ ?_));exact FrE.of rfl rfl rfl rfl rfl rfl rfl
    |false=>
     have n1:((hd (gL L)).2.toList==[97,110,121])=false:=(by rw[<-q1,hc1]);clear q1;cases hc2:gU (hd (gL L)).2 END with
     |true=>
      have n2:((hd (gL L)).2.toList==[101,110,100])=true:=(by rw[<-q2,hc2]);have Qg:=qh (show QL (gL L) m=ZG (gL (gL L)).length (gL (gL L)) m by unfold QL;simp[hc1,hc2]);have hnx:=Yk H3.out HL.out hs6;have Qi:=qh λw1 hg=>Yl (w':=w1) H3.out hg;clear hc1 hc2 q2 q3;go_wp2_with fail;refine hnx.mono ?_;rintro e w5 ⟨rfl,h5,hg5⟩;have H5:=qh h5;have Hb5:=qh (Hb3.out.trans (Qi.out w5 hg5));have Hw:=qh (zkP H5.out HL.out.gL hs6 (Hvr.out.below Hb5.out (by have:=H6.out;omega)) (by have:=H6.out;omega) hz);clear hnx Qi h5 hg5;go_wp2_with fail;refine Hw.out.mono ?_;rintro e w6 ⟨hb6,hcl⟩;have hce:=Hce.out w5 w6 e Hb5.out (by rw[Qg.out];exact⟨hb6,hcl⟩);clear hb6 hcl;obtain⟨c,rfl,hce⟩:=hce;rcases hce with⟨rfl,hJ⟩|⟨hne,hJ⟩
      ·have HJ:=qh hJ;clear hJ;go_wp2_with fail;go_step3
       exact HJ.out _ (Fr.of rfl rfl rfl rfl rfl rfl)
      ·have HJ:=qh hJ;have hne':(c==0)=false:=(by simpa using hne);clear hJ hne;go_wp2_with fail;go_step3
       apply_assumption
       refine zY (zaU (zby (qH _))) (Hq2.out _ _ _ (HJ.out 0 _ ?_));exact FrE.of rfl rfl rfl rfl rfl rfl rfl
     |false=>
      have n2:((hd (gL L)).2.toList==[101,110,100])=false:=(by rw[<-q2,hc2]);clear q2;cases hc3:gU (hd (gL L)).2 Q5 with
      |true=>
       have n3:((hd (gL L)).2.toList==[98,114,101,97,107])=true:=(by rw[<-q3,hc3]);have Qg:=qh (show QL (gL L) m=Ya (gL (gL L)) m by unfold QL;simp[hc1,hc2,hc3]);have hnx:=Yk H3.out HL.out hs6;have Qi:=qh λw1 hg=>Yl (w':=w1) H3.out hg;clear hc1 hc2 hc3 q3;go_wp2_with fail;refine hnx.mono ?_;rintro e w5 ⟨rfl,h5,hg5⟩;have H5:=qh h5;have Hb5:=qh (Hb3.out.trans (Qi.out w5 hg5));have Hw:=qh (zjL H5.out HL.out.gL hs6 (Hvr.out.below Hb5.out (by have:=H6.out;omega)) (by have:=H6.out;omega) hz);clear hnx Qi h5 hg5;go_wp2_with fail;refine Hw.out.mono ?_;rintro e w6 ⟨hb6,hcl⟩;have hce:=Hce.out w5 w6 e Hb5.out (by rw[Qg.out];exact⟨hb6,hcl⟩);clear hb6 hcl;obtain⟨c,rfl,hce⟩:=hce;rcases hce with⟨rfl,hJ⟩|⟨hne,hJ⟩
       ·have HJ:=qh hJ;clear hJ;go_wp2_with fail;go_step3
        exact HJ.out _ (Fr.of rfl rfl rfl rfl rfl rfl)
       ·have HJ:=qh hJ;have hne':(c==0)=false:=(by simpa using hne);clear hJ hne;go_wp2_with fail;go_step3
        apply_assumption
        refine zY (zaU (zby (qH _))) (Hq2.out _ _ _ (HJ.out 0 _ ?_));exact FrE.of rfl rfl rfl rfl rfl rfl rfl
      |false=>
       have n3:((hd (gL L)).2.toList==[98,114,101,97,107])=false:=(by rw[<-q3,hc3]);clear q3;have Zr:=zbl (w.heap.size+2) (hd (gL L)).2 w3 d2;cases hc4:gZ (hd (gL L)).2 with
       |false=>
        rw[hc4] at Zr;have Her:=qh (show QL (gL L) m=.error (130,(hd (gL L)).1) by unfold QL;simp[hc1,hc2,hc3,hc4]);have hce:=Hce.out w3 w3 (.returned (.int .i64 130)) Hb3.out (by rw[Her.out];exact⟨qb _ _,rfl,by decide,H3.out.rb.c1⟩);have Hce3:=qh hce;clear hc1 hc2 hc3 hc4 hce;go_wp2_with fail;refine Zr.mono ?_;rintro e w' ⟨rfl,rfl⟩;obtain⟨c,hc,hce⟩:=Hce3.out;cases hc;rcases hce with⟨h,_⟩|⟨hne,hJ⟩
        ·exact absurd h (by decide)
        ·have HJ:=qh hJ;clear hJ hne;go_wp2_with fail;go_step3
         apply_assumption
         refine zY (zaU (zby (qH _))) (Hq2.out _ _ _ (HJ.out 0 _ ?_));exact FrE.of rfl rfl rfl rfl rfl rfl rfl
       |true=>
        rw[hc4] at Zr;have c3:=H3.out.rb.c3;have hbl3:=H3.out.bl;have Hfig:=qh Zr;have gX:=zcd (w.heap.size+2) (hd (gL L)).2 1 m.gD.length w3.drew d2 hbl3 (Hv3.out.drewN 1) (by have:=HL.out.size;omega);have Qy:=qh (λh=>zcK (t:=(hd (gL L)).2) (lo:=1) (hi:=m.gD.length) h);have Qg:=qh (show QL (gL L) m=(if(gK (hd (gL L)).2 1 m.gD.length).2=0 then Zv (gL (gL L)).length (gL (gL L)) m ((gK (hd (gL L)).2 1 m.gD.length).1.toNat-1) 1 false else .error ((gK (hd (gL L)).2 1 m.gD.length).2,(hd (gL L)).1)) by unfold QL;simp[hc1,hc2,hc3,hc4]);generalize gK (hd (gL L)).2 1 m.gD.length=E at gX Qy Qg;obtain⟨nn,en⟩:=E;simp only[] at gX Qy Qg;have pr:=qh gX;have Yt:=qh λ(w9:World) (gQ:Below w3.drew.heap.size w3.drew w9)=>qV ((RS.drewN H3.out 1).below gQ) (Hb3.out.trans ((Vg (qb (w.heap.size+2) w3) 1:Below (w.heap.size+2) w3 w3.drew).trans (gQ.mono H3.out.bs)));clear hc1 hc2 hc3 hc4 Zr gX;go_wp2_with fail;refine Hfig.out.mono ?_;rintro e w' ⟨rfl,rfl⟩;go_wp2_with fail;go_region_with (go_at_call 148;refine(pr.out).mono ?_;rintro e w9 ⟨rfl,gQ⟩;obtain⟨h9,zqg⟩:=Yt.out _ gQ;have H9:=qh h9;have Hb9:=qh zqg;have k3:=h9.rb.c3;clear h9 zqg gQ)
        all_goals
         clear pr Yt Hfig;by_cases hn0:en=0
         ·subst hn0;have hin:=Qy.out rfl;obtain⟨i,hi⟩:∃i:Nat,nn=(i:Int)+1:=⟨(nn-1).toNat,by have:=hin.1;omega⟩;subst hi;have hil:i<m.gD.length:=(by have:=hin.2;omega);have zr0:=Qg.out;rw[qx rfl,show((i:Int)+1).toNat-1=i by omega] at zr0;have Hcl1:=qh zr0;have hnx:=Yk H9.out HL.out hs6;have Qi:=qh λw1 hg=>Yl (w':=w1) H9.out hg;have hic:i<cf:=(by omega);have hine:¬i=cf:=(by omega);clear hin zr0 Qy Qg;go_wp2_with fail;refine hnx.mono ?_;rintro e w5 ⟨rfl,h5,hg5⟩;have H5:=qh h5;have Hb5:=qh (Hb9.out.trans (Qi.out w5 hg5));have d5:=h5.rb.c3;have hw:=zgF H5.out HL.out.gL hs6 (Hvr.out.below Hb5.out (by have:=H6.out;omega)) (by have:=H6.out;omega) hz i 1 (cf-i) (by omega) false;have Hw:=qh hw;have hf16:=hz.gD;clear hnx Qi h5 hg5 hw;go_wp2_with fail;refine Hw.out.mono ?_;rintro e w6 ⟨hb6,hcl⟩;have hce:=Hce.out w5 w6 e Hb5.out (by rw[Hcl1.out];exact⟨hb6,hcl⟩);clear hb6 hcl;obtain⟨c,rfl,hce⟩:=hce;rcases hce with⟨rfl,hJ⟩|⟨hne,hJ⟩
          ·have HJ:=qh hJ;clear hJ;go_wp2_with fail;go_step3
           exact HJ.out _ (Fr.of rfl rfl rfl rfl rfl rfl)
          ·have HJ:=qh hJ;have hne':(c==0)=false:=(by simpa using hne);clear hJ hne;go_wp2_with fail;go_step3
           apply_assumption
           refine zY (zaU (zby (qH _))) (Hq2.out _ _ _ (HJ.out 0 _ ?_));exact FrE.of rfl rfl rfl rfl rfl rfl rfl
         ·have Her:=qh (show QL (gL L) m=.error (en,(hd (gL L)).1) by rw[Qg.out,qv hn0]);have hce:=Hce.out _ _ (.returned (.int .i64 en)) Hb9.out (by rw[Her.out];exact⟨qb _ _,rfl,hn0,H9.out.rb.c1⟩);have hne1:(en==0)=false:=(by simpa using hn0);clear hn0;obtain⟨c,hc,hce⟩:=hce;cases hc;rcases hce with⟨h,_⟩|⟨hne,hJ⟩
          ·subst h;simp at hne1
          ·have HJ:=qh hJ;clear hJ hne;go_wp2_with fail;go_step3
           apply_assumption
           refine zY (zaU (zby (qH _))) (Hq2.out _ _ _ (HJ.out 0 _ ?_));exact FrE.of rfl rfl rfl rfl rfl rfl rfl
 case p0=>
  intro q1 g a wr hJ;obtain⟨hb,Za,hx2,hx3,hfr,L,m,f,vf,ve,vb,vs,hg,hf,hL,hz,hR,hr⟩:=hJ;obtain⟨u,rfl⟩:=hfr;have hlp:0<L.length:=by
   obtain⟨p,hp,e⟩:=hL;rw[e];exact zbV s p
  obtain⟨q,rfl⟩:∃q,f=q+1:=⟨f-1,by omega⟩;have hgr:=zjG hr hL hs6 Za (by have:=hv.six;omega) hz.gD;have hbase:w.heap.size+2<=wr.heap.size:=hr.bs;have Hq1:=qh q1;have HR:=qh hR;have Hb:=qh hb;have Hvr:=qh Za;have Q6:=qh hx2;have Jy:=qh hx3;have Hg:=qh hg;have Hf:=qh hf;clear q1 hR hr hb Za hx2 hx3 hg hf;cases hgp:JY L m with
  |error x=>
   obtain⟨c,p⟩:=x;rw[hgp] at hgr;have HR2:Hid (Zg s=.error (c,p)):=qh (by rw[<-HR.out];unfold Jl;rw[hgp]);clear hgp;go_wp2_with fail;refine hgr.mono ?_;rintro e w2 ⟨hb2,rfl,hc0⟩;have x2:=(hb2.block w.heap.size (by omega)).trans Q6.out;have x3:=(hb2.block (w.heap.size+1) (by omega)).trans Jy.out;have hb3:=Hb.out.trans (hb2.mono (by omega));have k0:w2.cell? ⟨w.heap.size,0,none⟩=some (.slice none 0 0):=qc _ _ _ _ 79 (0,0) x2;have k1:w2.cell? ⟨w.heap.size,1,none⟩=some (.slice none 0 0):=qc _ _ _ _ 79 (0,0) x2;have k2:w2.cell? ⟨w.heap.size,2,none⟩=some (.slice none 0 0):=qc _ _ _ _ 79 (0,0) x2;have l0:w2.cell? ⟨w.heap.size+1,0,none⟩=some (.int .i64 0):=qc _ _ _ _ 87 (0,0) x3;have l1:w2.cell? ⟨w.heap.size+1,1,none⟩=some (.int .i64 0):=qc _ _ _ _ 87 (0,0) x3;have z0:=qf w2 w.heap.size 0 _ 79 x2;have z1:=qf w2 w.heap.size 1 _ 79 x2;have z2:=qf w2 w.heap.size 2 _ 79 x2;have y0:=qf w2 (w.heap.size+1) 0 _ 87 x3;have y1:=qf w2 (w.heap.size+1) 1 _ 87 x3;have hc0':(c !=0)=true:=(by simpa using hc0);unfold zjF;clear hc0;go_wp2_with fail;obtain⟨hbe,r0,r1⟩:=zbK (v0:=.slice none 0 0) (v1:=.slice none 0 0) (v2:=.slice none 0 0) (v3:=.int .i64 c) (v4:=.int .i64 p) hb3 x2 x3 rfl;exact zfX rfl rfl r0 r1 ⟨hbe,by rw[HR2.out];rfl⟩
  |ok y=>
   obtain⟨L',m'⟩:=y;rw[hgp] at hgr;obtain⟨hz',hah,hlen,hpo⟩:=zie hgp hz;have hR2:(if gU (hd L').2 COMMA then Jl q (gL L') m' else Ki L'.length L' m')=Zg s:=by
    rw[<-HR.out];conv=>rhs;unfold Jl
    rw[hgp]
   have HR2:=qh hR2;clear hR2;clear hgp;go_wp2_with fail;refine hgr.mono ?_;rintro e w2 ⟨hb2,rfl,hL',Q8,ve',vb',vs',h2⟩;have x2:=(hb2.block w.heap.size (by omega)).trans Q6.out;have x3:=(hb2.block (w.heap.size+1) (by omega)).trans Jy.out;have hb3:=Hb.out.trans (hb2.mono (by omega));have hv3:=Hvr.out.below hb2 (by have:=hv.six;omega);have Q9:gU (hd L').2 COMMA=((hd L').2.toList==[44]):=zce _;rw[<-hah] at h2;have H2:=qh h2;have d2:=h2.rb.c2;clear h2 hgr;unfold zjE;cases hc:gU (hd L').2 COMMA with
   |true=>
    have hne:((hd L').2.toList==[44])=true:=(by rw[<-Q9,hc]);have HR3:Hid (Jl q (gL L') m'=Zg s):=qh (by rw[<-HR2.out,hc];rfl);have XT:=qh (zcX hL' hc);have hnx:=Yk H2.out hL' hs6;have Qi:=qh λw1 hg=>Yl (w':=w1) H2.out hg;clear hc Q9;go_wp2_with fail;refine hnx.mono ?_;rintro e w3 ⟨rfl,h3,hg3⟩;have hb4:=Qi.out w3 hg3;have hbs2:=H2.out.bs;have J0:∀a,Fr s w.heap.size (w.heap.size+2) a->zet (JR s w) g 0 a w3:=λa ha=>⟨(gL L').length*3+2,by have:=XT.out;have:=Hg.out;omega,hb3.trans (hb4.mono (by omega)),hv3.below hb4 (by have:=hv.six;omega),
     (hb4.block w.heap.size (by omega)).trans x2,(hb4.block (w.heap.size+1) (by omega)).trans x3,ha,gL L',m',q,Q8,ve',vb',vs',ql _,by have:=XT.out;have:=Hf.out;omega,hL'.gL,hz',HR3.out,h3⟩
    have HJ0:=qh J0;clear J0 hb4 h3 hg3 Qi hnx hb3 hv3 x2 x3;go_wp2_with fail;go_step3
    refine HJ0.out _ ?_;exact Fr.of rfl rfl rfl rfl rfl rfl
   |false=>
    have hne:((hd L').2.toList==[44])=false:=(by rw[<-Q9,hc]);have HR3:Hid (Ki L'.length L' m'=Zg s):=qh (by rw[<-HR2.out,hc];rfl);have J1:∀a,Fr s w.heap.size (w.heap.size+2) a->JR s w 1 (L'.length*3+1) a w2:=λa ha=>⟨hb3,hv3,x2,x3,ha,L',m',L'.length,Q8,ve',vb',vs',ql _,ql _,hL',hz',hpo,HR3.out,H2.out⟩;have JS:=qh J1;clear J1 hc Q9 hb3 hv3 x2 x3;go_wp2_with fail;go_step3
    apply_assumption
    refine zY (zaU (zby (by have:=Hg.out;omega))) (Hq1.out _ _ _ (JS.out _ ?_));exact Fr.of rfl rfl rfl rfl rfl rfl
 case first=>
  intro q0;have Hq0:=qh q0;have hb1:Below w.heap.size w w1:=by rw[<-hw1];exact((qb _ _).alloc (ql _) _).alloc (by simp) _
  have Hb1:=qh hb1;have Hw1:=qh hw1;have x2:w1.heap[w.heap.size]?=some (.cells #[yN,yN,yN] 79 (0,0)):=by rw[<-hw1];exact(qa _ _ _ (by simp)).trans (qn w _)
  have x3:w1.heap[w.heap.size+1]?=some (.cells #[.int .i64 0,.int .i64 0] 87 (0,0)):=by
   rw[<-hw1];have:=qn (w.alloc (.cells #[.slice none 0 0,.slice none 0 0,.slice none 0 0] 79)) (.cells #[.int .i64 0,.int .i64 0] 87);rw[qO] at this;exact this
  have X2:=qh x2;have X3:=qh x3;generalize hw2:w1.alloc (.cells #[.string s,.int .i64 0,.string ⟨#[]⟩,.slice none 0 0,.slice none 0 0,.slice none 0 0,.int .i64 0] 210)=w2;have r2:RB w2 (w.heap.size+2) s 0 ⟨#[]⟩ yN yN yN 0:=by
   rw[<-hw2,<-sw1];exact qn w1 _
  have hb2:Below (w.heap.size+2) w1 w2:=by rw[<-hw2];exact(qb _ _).alloc (by omega) _
  have Hw2:=qh hw2;have s2:w2.heap.size=w.heap.size+3:=by rw[<-hw2];simp[sw1]
  have hnx:=zhT (w.heap.size+2) 0 s ⟨#[]⟩ yN yN yN 0 w2 r2 (by show 0+0<=s.size;omega) (by omega);have Zq:=qh hnx;have Hb2:=qh hb2;have R2:=qh r2;have HvH:=qh hv;clear q0 hb1 hw1 hw2 hnx hb2 r2 x2 x3 hv;go_wp2_with fail;rw[Hw2.out];refine Zq.out.mono ?_;rintro e w3 ⟨rfl,r3,hg3⟩;have hs0:(0:Nat)+(⟨#[]⟩:ByteArray).size=0:=rfl;rw[hs0] at r3;have hh:=zfD (s:=s) (p:=0) (by omega);have hb3:Below (w.heap.size+2) w1 w3:=Hb2.out.grown hg3 (by omega) (λk e=>by cases e;omega);have hrs:RS w3 (w.heap.size+2) (w.heap.size+2) s (hd (toks s 0)).1 (hd (toks s 0)).2 Met.zero (zag Met.zero) yN yN yN []:=by
   rw[hh];exact⟨r3,ql _,rfl,kd _ _ _ _,λk hk=>absurd hk (Nat.not_lt_zero _),kd _ _ _ _,kd _ _ _ _,λi j k hi hj hij h1 h2=>by simp at hi hj;omega⟩
  have hz0:gY Met.zero:=⟨by simp[Met.zero],λk hk=>absurd hk (Nat.not_lt_zero _),by simp[Met.zero],by simp[Met.zero,zag]⟩;have hR0:Jl (toks s 0).length (toks s 0) Met.zero=Zg s:=by
   conv=>rhs;unfold Zg
   rw[qv (by omega)]
  have J0:∀a,Fr s w.heap.size (w.heap.size+2) a->JR s w 0 ((toks s 0).length*3+2) a w3:=λa ha=>⟨Hb1.out.trans (hb3.mono (by omega)),(HvH.out.below Hb1.out HvH.out.six).below hb3 (by have:=HvH.out.six;omega),
   (hb3.block w.heap.size (by omega)).trans X2.out,(hb3.block (w.heap.size+1) (by omega)).trans X3.out,ha,toks s 0,Met.zero,(toks s 0).length,yN,yN,yN,[],ql _,ql _,⟨0,by omega,rfl⟩,hz0,hR0,hrs⟩
  have HJ0:=qh J0;clear J0 hrs hz0 hR0 hb3 hh r3 hg3;go_wp2_with fail;go_step3
  apply_assumption
  exact Hq0.out _ _ _ (HJ0.out _ (Fr.of rfl rfl rfl rfl rfl rfl))
theorem zkR (s:ByteArray) (w:World) (hv:Vars w) (zqV:s.size<=4611686018427387904):
  Calls Tryz.prog 115 #[.string s] w (QR s w):=by
 by_cases h:65536<s.size
 ·exact zjR s w zqV h
 ·exact ziM s w hv (by omega)
end Go.Proofs.YtgklikkddckgbaaGreatDoor
namespace Go.Proofs.YtgklikkddckgbaaGreatDoor.Mo
open Go.RowKit
theorem Y4 {W:World} {B C e z n:Nat} {v:Value} {c:List Value} (h:W.ownsRow B e z v n c) (hC:C<=B):W.ownsRow C e z v n c:=by
 refine⟨h.1,h.2.imp id ?_⟩;rintro⟨g,cap,cur,h1,h2,h3⟩;exact⟨g,cap,cur,h1,qm hC h2,h3⟩
def gR (w:World) (L T:List Nat):Prop:=∀k∈L,∃cs e fz,w.heap[k]?=some (.cells cs e fz)/\e∈T
theorem Off.pd {L T:List Nat} {w w':World} (h:Off L w w') {B e z n:Nat} {v:Value} {xs:List Value} (ho:w.ownsRow B e z v n xs) (ht:gR w L T) (he:e∉T):w'.ownsRow B e z v n xs:=
 h.own ho λk hk hm=>by
  obtain⟨cs,e',fz,hb,hT⟩:=ht k hm;rcases py ho hb (λee=>he (by rw[ee];exact hT)) with h0|h0
  ·rw[h0] at hk;cases hk
  ·exact h0 hk
theorem zea {w:World} {B e z n:Nat} {v:Value} {xs:List Value} (h:w.ownsRow B e z v n xs):gR w v.ownBlock.toList [e]:=λk hk=>by
 rw[zA] at hk;obtain⟨c,fz,h1⟩:=xv h k hk;exact⟨c,e,fz,h1,by simp⟩
theorem gR.cons {w:World} {L T:List Nat} {k e:Nat} {cs:Array Value} {fz:Nat×Nat} (h:gR w L T) (hk:w.heap[k]?=some (.cells cs e fz)):gR w (k::L) (e::T):=λq hq=>by
 rcases zi.1 hq with rfl|hq
 ·exact⟨cs,e,fz,hk,by simp⟩
 ·obtain⟨a,b,c,h1,h2⟩:=h q hq;exact⟨a,b,c,h1,zM _ h2⟩
theorem gR.one {w:World} {k e:Nat} {cs:Array Value} {fz:Nat×Nat} (hk:w.heap[k]?=some (.cells cs e fz)):gR w [k] [e]:=gR.cons (λ_ hq=>by cases hq) hk
theorem gR.nil {w:World} {T:List Nat}:gR w [] T:=λ_ hq=>by cases hq
def un:List (Value×Value×Value)->List Value
 |[]=>[]
 |c::t=>c.1::c.2.1::c.2.2::un t
theorem zeH:∀(l:List (Value×Value×Value)) (c:Value×Value×Value),un (l++[c])=un l++[c.1,c.2.1,c.2.2]
 |[],c=>rfl
 |x::l,c=>by simp[un,zeH l c]
def uo:Met:=⟨[],[],[]⟩
structure Z2 (w:World) (B:Nat) (v:Value) (ms:List Met) (cs:List (Value×Value×Value)):Prop where
 n:cs.length=ms.length
 o:w.ownsRow B 79 3 v ms.length (un cs)
 m:∀k,k<ms.length->gY (ms.getD k uo)/\∃vs,OM w B (ms.getD k uo) (cs.getD k default).1 (cs.getD k default).2.1 (cs.getD k default).2.2 vs
theorem OM.JC {w w':World} {B:Nat} {m:Met} {vf ve vb:Value} {vs:List Value} {L T:List Nat} (h:OM w B m vf ve vb vs) (ho:Off L w w') (ht:gR w L T) (h1:81∉T) (h2:83∉T) (h3:85∉T):OM w' B m vf ve vb vs:=
 ⟨h.vl,ho.pd h.gD ht h1,λk hk=>ho.pd (h.gG k hk) ht h2,ho.pd h.ends ht h2,ho.pd h.gH ht h3,h.apart⟩
theorem OM.mono {w:World} {B C:Nat} {m:Met} {vf ve vb:Value} {vs:List Value} (h:OM w B m vf ve vb vs) (hC:C<=B):OM w C m vf ve vb vs:=
 ⟨h.vl,Y4 h.gD hC,λk hk=>Y4 (h.gG k hk) hC,Y4 h.ends hC,Y4 h.gH hC,h.apart⟩
theorem Z2.off {w w':World} {B:Nat} {v:Value} {ms:List Met} {cs:List (Value×Value×Value)} {L T:List Nat} (h:Z2 w B v ms cs) (ho:Off L w w') (ht:gR w L T) (h0:79∉T) (h1:81∉T) (h2:83∉T) (h3:85∉T):Z2 w' B v ms cs:=
 ⟨h.n,ho.pd h.o ht h0,λk hk=>by
  obtain⟨a,vs,b⟩:=h.m k hk;exact⟨a,vs,OM.JC b ho ht h1 h2 h3⟩⟩
def uU (gC:List UInt8):List It->List Value->List Value
 |x::xs,v::vs=>(p9 gC x.cls x.ref x.gE x.at_ v).toList++uU gC xs vs
 |_,_=>[]
theorem zih (gC:List UInt8):∀(l:List It) (vs:List Value),vs.length=l.length->(uU gC l vs).length=l.length*13
 |[],vs,h=>by simp[uU]
 |x::xs,[],h=>by simp at h
 |x::xs,v::vs,h=>by
  have:=zih gC xs vs (by simpa using h);simp only[uU,qq,this,qB];have:(p9 gC x.cls x.ref x.gE x.at_ v).toList.length=13:=rfl;omega
theorem zgM (gC:List UInt8):∀(l:List It) (vs:List Value) (x:It) (v:Value),vs.length=l.length->uU gC (l++[x]) (vs++[v])=uU gC l vs++(p9 gC x.cls x.ref x.gE x.at_ v).toList
 |[],[],x,v,_=>by simp[uU]
 |[],_::_,_,_,h=>by simp at h
 |_::_,[],_,_,h=>by simp at h
 |q::rs,u::vs,r,v,h=>by
  have ih:=zgM gC rs vs r v (by simpa using h);simp only[zO,uU,ih,qQ]
def pk:It:=⟨0,0,[],0⟩
theorem zii (gC:List UInt8):∀(l:List It) (vs:List Value) (k o:Nat),vs.length=l.length->k<l.length->o<13->(uU gC l vs)[k*13+o]?=(p9 gC (l.getD k pk).cls (l.getD k pk).ref (l.getD k pk).gE (l.getD k pk).at_ (vs.getD k .nilFunc))[o]?
 |[],vs,k,o,_,hk,_=>by simp at hk
 |x::xs,[],k,o,h,_,_=>by simp at h
 |x::xs,v::vs,0,o,h,_,ho=>by
  have:(p9 gC x.cls x.ref x.gE x.at_ v).toList.length=13:=rfl;simp only[uU,Nat.zero_mul,xK,List.getD_cons_zero];rw[qY (by omega)];simp
 |x::xs,v::vs,k+1,o,h,hk,ho=>by
  have ih:=zii gC xs vs k o (by simpa using h) (by simpa using hk) ho;have e1:(k+1)*13+o=13+(k*13+o):=by omega
  have e2:(p9 gC x.cls x.ref x.gE x.at_ v).toList.length=13:=rfl;simp only[uU,List.getD_cons_succ];rw[e1,kH (by omega),e2,show 13+(k*13+o)-13=k*13+o by omega];exact ih
structure Qj (w:World) (B:Nat) (gC:List UInt8) (v:Value) (l:List It) (pq:List Value):Prop where
 n:pq.length=l.length
 o:w.ownsRow B 108 13 v l.length (uU gC l pq)
 h:∀k,k<l.length->w.ownsRow B 3 1 (pq.getD k .nilFunc) (pm (l.getD k pk).gE).length (ud (pm (l.getD k pk).gE))
theorem Qj.off {w w':World} {B:Nat} {gC:List UInt8} {v:Value} {l:List It} {pq:List Value} {L T:List Nat} (h:Qj w B gC v l pq) (ho:Off L w w') (ht:gR w L T) (h1:108∉T) (h2:3∉T):Qj w' B gC v l pq:=
 ⟨h.n,ho.pd h.o ht h1,λk hk=>ho.pd (h.h k hk) ht h2⟩
theorem Qj.mono {w:World} {B C:Nat} {gC:List UInt8} {v:Value} {l:List It} {pq:List Value} (h:Qj w B gC v l pq) (hC:C<=B):Qj w C gC v l pq:=⟨h.n,Y4 h.o hC,λk hk=>Y4 (h.h k hk) hC⟩
theorem RwM.off {w w':World} {B:Nat} {vs:Value} {rows:List Rw} {vis:List Value} {L T:List Nat} (h:RwM w B vs rows vis) (ho:Off L w w') (ht:gR w L T) (h1:106∉T):RwM w' B vs rows vis:=⟨h.n,ho.pd h.o ht h1,h.it⟩
structure uy (x:It):Prop where
 mks:∀m∈x.gE,uw m
 cl:-1<=x.cls/\x.cls<=24
 rf:0<=x.ref/\x.ref<=9
 one:∀c:Int,c≠126->pB x.gE c<=1
 four:pB x.gE 126<=4
structure pb (f:Fm) (i:Nat):Prop where
 le:vV f.rows+f.rows.length<=i
 l0:0<=f.least/\f.least<=512
 m0:0<=f.most/\f.most<=512
 s0:0<=f.shift/\f.shift<=512
 lm:f.least<=f.most
 ll:f.gC.length=f.gF.length/\f.gC.length<=i
 it:∀r∈f.rows,∀x∈r.items,uy x
 nd:f.gC.Nodup
 lt:∀c∈f.gC,97<=c.toNat/\c.toNat<=122
def fmC (f:Fm) (vl vm vs:Value):Array Value:=#[.string ⟨f.name.toArray⟩,vl,vm,vs,.bool f.rounds,.int .i64 f.least,.int .i64 f.most,.int .i64 f.shift]
structure px (w:World) (B fb:Nat) (f:Fm) (vl vm vs:Value):Prop where
 x:w.heap[fb]?=some (.cells (fmC f vl vm vs) 92 (0,0))
 hB:B<=fb
 l:w.ownsRow B 5 1 vl f.gC.length (ZL f.gC)
 m:∃cs,Z2 w B vm f.gF cs
 r:∃vis,RwM w B vs f.rows vis/\∀k,k<f.rows.length->∃pq,Qj w B f.gC (vis.getD k .nilFunc) (f.rows.getD k ⟨false,[]⟩).items pq
theorem px.lt {w:World} {B fb:Nat} {f:Fm} {vl vm vs:Value} (h:px w B fb f vl vm vs):fb<w.heap.size:=(qg h.x).1
theorem px.off {w w':World} {B fb:Nat} {f:Fm} {vl vm vs:Value} {L:List Nat} (h:px w B fb f vl vm vs) (ho:Off L w w') (ht:gR w L [137]):px w' B fb f vl vm vs:=by
 have pW:fb∉L:=λhm=>by
  obtain⟨cs,e,fz,hb,hT⟩:=ht fb hm;rw[h.x] at hb;simp at hb hT;have h1:=hb.2.1;rw[hT] at h1;exact absurd h1 (by decide)
 obtain⟨cs,hm⟩:=h.m;obtain⟨vis,hr,hi⟩:=h.r;exact⟨(ho.block _ h.lt pW).trans h.x,h.hB,ho.pd h.l ht (by decide),⟨cs,hm.off ho ht (by decide) (by decide) (by decide) (by decide)⟩,⟨vis,hr.off ho ht (by decide),λk hk=>by
  obtain⟨pq,h2⟩:=hi k hk;exact⟨pq,h2.off ho ht (by decide) (by decide)⟩⟩⟩
theorem px.below {w w':World} {B fb:Nat} {f:Fm} {vl vm vs:Value} (h:px w B fb f vl vm vs) (hb:Below w.heap.size w w'):px w' B fb f vl vm vs:=h.off (Off.of_below hb (ql _) []) gR.nil
theorem px.pl {w w':World} {B fb rb:Nat} {f:Fm} {vl vm vs:Value} {s:ByteArray} {i:Nat} (h:px w B fb f vl vm vs) (hr:Rd w rb fb s i) (ho:Off [rb] w w'):px w' B fb f vl vm vs:=h.off ho (gR.one hr.r)
theorem px.ne {w:World} {B fb rb:Nat} {f:Fm} {vl vm vs:Value} {s:ByteArray} {i:Nat} (h:px w B fb f vl vm vs) (hr:Rd w rb fb s i):fb≠rb:=λe=>by
 have h1:=h.x;have h2:=hr.r;rw[e,h2] at h1;simp at h1
theorem px.letM {w:World} {B fb:Nat} {f:Fm} {vl vm vs:Value} (h:px w B fb f vl vm vs):Yh w B fb f.gC vl:=⟨qc _ _ 1 _ _ (0,0) h.x,h.l⟩
theorem px.vln {w:World} {B fb rb:Nat} {f:Fm} {vl vm vs:Value} {s:ByteArray} {i:Nat} (h:px w B fb f vl vm vs) (hr:Rd w rb fb s i):∀k,vl.ownBlock=some k->k≠rb/\k<w.heap.size:=λk hk=>by
 refine⟨λe=>?_,(h.l.lt k hk).2⟩;subst e;rcases py h.l hr.r (by decide) with h0|h0
 ·rw[h0] at hk;cases hk
 ·exact h0 hk
theorem px.cells {w:World} {B fb:Nat} {f:Fm} {vl vm vs:Value} (h:px w B fb f vl vm vs):
  w.cell? ⟨fb,0,none⟩=some (.string ⟨f.name.toArray⟩)/\w.cell? ⟨fb,1,none⟩=some vl/\w.cell? ⟨fb,2,none⟩=some vm/\w.cell? ⟨fb,3,none⟩=some vs/\w.cell? ⟨fb,4,none⟩=some (.bool f.rounds)/\
  w.cell? ⟨fb,5,none⟩=some (.int .i64 f.least)/\w.cell? ⟨fb,6,none⟩=some (.int .i64 f.most)/\w.cell? ⟨fb,7,none⟩=some (.int .i64 f.shift):=
 ⟨qc _ _ 0 _ _ (0,0) h.x,qc _ _ 1 _ _ (0,0) h.x,qc _ _ 2 _ _ (0,0) h.x,qc _ _ 3 _ _ (0,0) h.x,qc _ _ 4 _ _ (0,0) h.x,qc _ _ 5 _ _ (0,0) h.x,qc _ _ 6 _ _ (0,0) h.x,qc _ _ 7 _ _ (0,0) h.x⟩
theorem px.z {w:World} {B fb:Nat} {f:Fm} {vl vm vs:Value} (h:px w B fb f vl vm vs) (o:Nat):w.frozen? ⟨fb,o,none⟩=false:=qf _ _ o _ _ h.x
theorem px.XD {w:World} {B fb:Nat} {f:Fm} {vl vm vs:Value} {i:Nat} (h:px w B fb f vl vm vs) (hk:pb f i) (hi:i<=65536) (n:Int) (h0:0<=n) (h1:n<=512):
  Calls Tryz.prog 36 #[.pointer (some ⟨fb,0,none⟩),.int .i64 n] w λe w'=>e=.returned (.int .i64 (Zh f.rows n))/\Below w.heap.size w w':=by
 obtain⟨vis,hr,_⟩:=h.r;have:=hk.le;exact zjy B fb vs f.rows vis n w (qc _ _ 3 _ _ (0,0) h.x) hr h0 h1 (by omega) (by omega) h.lt
theorem zij {f:Fm} {i:Nat} (hk:pb f i) (hi:i<=65536) {n:Int} (h0:0<=n) (h1:n<=512):0<=Zh f.rows n/\Zh f.rows n<=33554432:=by
 have:=zhp f.rows n h0 h1 f.rows.length (ql _);rw[qZ] at this;have:=hk.le;omega
theorem zjS (c:UInt8):yR c<=24:=by
 unfold yR;by_cases h:0<=Lib.indexByte Jm c
 ·obtain⟨o,ho⟩:∃o:Nat,Lib.indexByte Jm c=o:=⟨(Lib.indexByte Jm c).toNat,by omega⟩;have h1:=(xN ho).1;have h2:=(kh.1 h1).1;have h3:Jm.length=25:=rfl;omega
 ·omega
theorem zgN {s:ByteArray} {i j:Nat} {cls ref:Int} (h:Qx s i=.ok (cls,ref,j)):i<j/\-1<=cls/\cls<=24/\0<=ref/\ref<=9:=by
 unfold Qx at h;split at h
 ·cases h;omega
 ·split at h
  ·cases h
  ·split at h
   ·cases h;have:=zjS (gO s i);omega
   ·split at h
    ·cases h
    ·rename_i h1 h2 h3 h4;split at h
     ·cases h
     ·rename_i h5;cases h;have h6:pK s (i+1) 49 57=true:=(by simpa using h5);have h7:=zb7 h6;rw[Y0 h7] at h6;simp only[qz,qC] at h6;rw[ZI h7];have h8:¬yR (gO s i|||32)<0:=λe=>h4 (.inr e);have h9:=zjS (gO s i|||32);omega
theorem zgO {s:ByteArray} {gC:List UInt8}:∀(f:Nat) (ms:List Mk) (i:Nat) {ms':List Mk} {k:Nat},QU s gC f ms i=.ok (ms',k)->i<=k
 |0,ms,i,ms',k,h=>by unfold QU at h;cases h;exact ql _
 |f+1,ms,i,ms',k,h=>by
  unfold QU at h;split at h
  ·rename_i hc;cases hm:QM s gC ms i with
   |error e=>rw[hm] at h;cases h
   |ok mj=>
    obtain⟨m,j⟩:=mj;rw[hm] at h;have:=zgO f _ j h;obtain⟨h1,h2,h3⟩:=zcW hc.1 hc.2 hm;have:=(zdz h2).1;omega
  ·cases h;exact ql _
theorem zeI {s:ByteArray} {gC:List UInt8}:∀(f:Nat) (ms:List Mk) (i:Nat) {ms':List Mk} {k:Nat},QU s gC f ms i=.ok (ms',k)->(∀c:Int,c≠126->pB ms c<=1)/\pB ms 126<=4->(∀c:Int,c≠126->pB ms' c<=1)/\pB ms' 126<=4
 |0,ms,i,ms',k,h,hh=>by unfold QU at h;cases h;exact hh
 |f+1,ms,i,ms',k,h,hh=>by
  unfold QU at h;split at h
  ·rename_i hc;cases hm:QM s gC ms i with
   |error e=>rw[hm] at h;cases h
   |ok mj=>
    obtain⟨m,j⟩:=mj;rw[hm] at h;refine zeI f _ j h ⟨λc hc2=>?_,?_⟩
    ·have h1:=hh.1 c hc2;rw[zdA];by_cases e:m.sign=c
     ·obtain⟨f1,f2⟩:=zdP hm;have hb:gT s i 126=false:=by
       rw[QH hc.1,<-ZI hc.1];have:¬((gO s i).toNat:Int)=126:=(by rw[<-f1,e];exact hc2);simpa using this
      have:=f2 hb;rw[e] at this;rw[qx e];omega
     ·rw[qv e];omega
    ·rw[zdA];by_cases e:m.sign=126
     ·rw[qx e];obtain⟨f1,_⟩:=zdP hm;rw[e] at f1;have hb:gT s i 126=true:=by
       rw[QH hc.1,<-ZI hc.1,<-f1];rfl
      unfold QM at hm;rw[hb,<-f1] at hm;by_cases h4:4<=pB ms 126
      ·rw[qx (by simpa using h4)] at hm;cases hm
      ·omega
     ·rw[qv e];have:=hh.2;omega
  ·cases h;exact hh
theorem zdD {s:ByteArray} {gC:List UInt8} {line:Int} {i k:Nat} {x:It} (h:Kj s gC line i=.ok (x,k)):i<k:=by
 unfold Kj at h;cases hr:Qx s i with
 |error e=>rw[hr] at h;cases h
 |ok c=>
  obtain⟨cls,ref,j⟩:=c;rw[hr] at h;simp only[] at h;cases hm:QU s gC (s.size+1) [] j with
  |error e=>rw[hm] at h;cases h
  |ok mk=>
   obtain⟨ms,q⟩:=mk;rw[hm] at h;simp only[] at h;have h1:=zgO _ _ _ hm;have h2:=(zgN hr).1;split at h
   ·cases h
   ·split at h
    ·cases h
    ·cases h;omega
theorem zen {s:ByteArray} {gC:List UInt8} {line:Int} {i k:Nat} {x:It} (h:Kj s gC line i=.ok (x,k)) (hmk:∀m∈x.gE,uw m):uy x:=by
 unfold Kj at h;cases hr:Qx s i with
 |error e=>rw[hr] at h;cases h
 |ok c=>
  obtain⟨cls,ref,j⟩:=c;rw[hr] at h;simp only[] at h;cases hm:QU s gC (s.size+1) [] j with
  |error e=>rw[hm] at h;cases h
  |ok mk=>
   obtain⟨ms,q⟩:=mk;rw[hm] at h;simp only[] at h;have h1:=zeI _ _ _ hm ⟨λc _=>by simp[pB],by simp[pB]⟩;have h2:=zgN hr;split at h
   ·cases h
   ·split at h
    ·cases h
    ·cases h;exact⟨hmk,⟨h2.2.1,h2.2.2.1⟩,h2.2.2.2,h1.1,h1.2⟩
theorem zeJ {α:Type} {p:α->Bool} {d:α}:∀{l:List α} {k:Nat},k<l.length->(∀x∈l.take k,p x=false)->p (l.getD k d)=true->l.find? p=some (l.getD k d)
 |[],k,hk,_,_=>by simp at hk
 |x::l,0,_,_,h=>by
  rw[kf];have h2:p x=true:=h;rw[h2];rfl
 |x::l,k+1,hk,ha,h=>by
  rw[kf,ha x (by simp)];exact zeJ (by simpa using hk) (λy hy=>ha y (by simp[hy])) h
theorem zeo {α:Type} {p:α->Bool} {l:List α} (h:∀x∈l,p x=false):l.find? p=none:=by
 rw[kl];intro x hx;rw[h x hx];simp
def JD (f:Fm) (round:Bool) (x:It):Bool:=decide (0<=x.cls)&&decide (25<=x.cls+Vi f round)&&!(round&&f.most==0)
def zbk (f:Fm) (round:Bool) (start:Nat) (r:Except (Int×Nat) (List It×Nat)):Except (Int×Nat) (Fm×Nat):=match r with
 |.error e=>.error e
 |.ok (l,j)=>
  if 512<Zh (f.rows++[⟨round,l⟩]) f.most then .error (3,start)
  else match l.find? (JD f round) with
   |some x=>.error (5,x.at_)
   |none=>.ok ({f with rows:=f.rows++[⟨round,l⟩]},j)
theorem zd5 {s:ByteArray} {f:Fm} {round:Bool} {start i:Nat} (h:gT s i 32=true):Kd s f round start i=zbk f round start (Kx s f round (s.size+1) [] i):=by
 unfold Kd zbk JD;rw[qv (by rw[h];simp)];rfl
end Go.Proofs.YtgklikkddckgbaaGreatDoor.Mo

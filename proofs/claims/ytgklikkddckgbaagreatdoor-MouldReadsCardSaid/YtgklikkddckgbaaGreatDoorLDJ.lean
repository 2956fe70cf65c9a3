import Derived.Test.YtgklikkddckgbaaGreatDoorLDH
/- Lemmas. -/
set_option linter.all false
set_option maxRecDepth 100000
set_option maxHeartbeats 16000000
namespace Go.Proofs.YtgklikkddckgbaaGreatDoor
open Go.RowKit
structure OM (w:World) (base:Nat) (m:Met) (vf ve vb:Value) (vs:List Value):Prop where
 vl:vs.length=m.gO.length
 gO:w.ownsRow base 81 2 vf m.gO.length (Zn m.gO vs)
 gR:∀k,k<m.gO.length->w.ownsRow base 83 2 (vs.getD k yK) (m.gO.getD k default).gR.length (Qu (m.gO.getD k default).gR)
 ends:w.ownsRow base 83 2 ve m.ends.length (Qu m.ends)
 gS:w.ownsRow base 85 2 vb m.gS.length (JC m.gS)
 apart:Apart (ve::vs)
theorem RS.om {w:World} {base b a:Nat} {s t:ByteArray} {m:Met} {ah:Int} {vf ve vb:Value} {vs:List Value} (h:RS w base b s a t m ah vf ve vb vs):OM w base m vf ve vb vs:=⟨h.vl,h.gO,h.gR,h.ends,h.gS,h.apart⟩
theorem zcs {w:World} {base k o e z n:Nat} {v x:Value} {xs:List Value} (h:w.ownsRow base e z v n xs) (hk:k<base):(w.setCell ⟨k,o,none⟩ x).ownsRow base e z v n xs:=
 h.kept (zaN w k o x) (by
  cases hv:v.ownBlock with
  |none=>exact .inl rfl
  |some q=>right;intro e;cases e;have:=(h.lt _ hv).1;omega)
theorem OM.put {w:World} {base k:Nat} {m:Met} {vf ve vb:Value} {vs:List Value} (h:OM w base m vf ve vb vs) (hk:k<base) (o:Nat) (x:Value):OM (w.setCell ⟨k,o,none⟩ x) base m vf ve vb vs:=
 ⟨h.vl,zcs h.gO hk,λj hj=>zcs (h.gR j hj) hk,zcs h.ends hk,zcs h.gS hk,h.apart⟩
theorem zcY {w:World} {base base' e z n:Nat} {v:Value} {xs:List Value} (h:w.ownsRow base e z v n xs) (hb:base'<=base):w.ownsRow base' e z v n xs:=
 ⟨h.1,h.2.imp id λ⟨g,cap,cur,h1,h2,h3⟩=>⟨g,cap,cur,h1,qm hb h2,h3⟩⟩
theorem OM.zpZ {w:World} {base base':Nat} {m:Met} {vf ve vb:Value} {vs:List Value} (h:OM w base m vf ve vb vs) (hb:base'<=base):OM w base' m vf ve vb vs:=
 ⟨h.vl,zcY h.gO hb,λj hj=>zcY (h.gR j hj) hb,zcY h.ends hb,zcY h.gS hb,h.apart⟩
def zlR:Value:=.agg #[yK,yK,yK]
def Zb (s:ByteArray) (w:World) (e:Ending) (w':World):Prop:=Below w.heap.size w w'/\
 match Zs s with
 |.error (c,p)=>e=.returned (.tuple #[zlR,.agg #[.int .i64 c,.int .i64 p]])
 |.ok m=>pl m/\∃vf ve vb vs,e=.returned (.tuple #[.agg #[vf,ve,vb],.agg #[.int .i64 0,.int .i64 0]])/\OM w' w.heap.size m vf ve vb vs
def JR (s:ByteArray) (w0:World) (l g:Nat) (a:Act) (w:World):Prop:=
 Below w0.heap.size w0 w/\Vars w/\
 w.heap[w0.heap.size]?=some (.cells #[yK,yK,yK] 79 (0,0))/\w.heap[w0.heap.size+1]?=some (.cells #[.int .i64 0,.int .i64 0] 87 (0,0))/\
 match l with
 |0=>Fr s w0.heap.size (w0.heap.size+2) a/\∃(L:List Tok) (m:Met) (f:Nat) (vf ve vb:Value) (vs:List Value),L.length*3+2<=g/\L.length<=f/\KG s L/\pl m/\JL f L m=Zs s/\RS w (w0.heap.size+2) (w0.heap.size+2) s (hd L).1 (hd L).2 m (zag m) vf ve vb vs
 |1=>Fr s w0.heap.size (w0.heap.size+2) a/\∃(L:List Tok) (m:Met) (f:Nat) (vf ve vb:Value) (vs:List Value),L.length*3+1<=g/\L.length<=f/\KG s L/\pl m/\0<m.gO.length/\KD f L m=Zs s/\RS w (w0.heap.size+2) (w0.heap.size+2) s (hd L).1 (hd L).2 m (zag m) vf ve vb vs
 |2=>∃(c:Int) (p:Nat),FrE s w0.heap.size (w0.heap.size+2) c a/\Zs s=.error (c,p)/\w.cell? ⟨w0.heap.size+2,1,none⟩=some (.int .i64 p)
 |_=>False
theorem zmE {s:ByteArray} {w0:World} {l g:Nat} {a:Act} {w:World} (h:JR s w0 l g a w):l<3:=by
 obtain⟨_,_,_,_,h⟩:=h;match l,h with
 |0,_=>omega
 |1,_=>omega
 |2,_=>omega
theorem zie {L L':List Tok} {m m':Met} (h:Xq L m=.ok (L',m')) (hz:pl m):pl m'/\zag m'=zag m/\L'.length<=L.length/\0<m'.gO.length:=by
 have tail:∀(n:Int) (p:Nat) (L1:List Tok),1<=n->L1.length<=L.length->XJ n p L1 m=.ok (L',m')->pl m'/\zag m'=zag m/\L'.length<=L.length/\0<m'.gO.length:=λn p L1 hn1 hl h=>by
  unfold XJ at h;split at h
  ·split at h
   ·rename_i h16;simp only[zY,kz] at h;obtain⟨rfl,rfl⟩:=h;refine⟨⟨?_,λk hk=>?_,hz.ends,hz.brk⟩,rfl,qm (XU L1) hl,by simp;omega⟩
    ·have:=hz.gO;simp only[qv,xe];omega
    ·simp only[] at hk|-;by_cases hlt:k<m.gO.length
     ·rw[qj,qQ hlt,<-qj];exact hz.gR k hlt
     ·simp only[qv,xe] at hk;rw[qj,zD (by omega),List.getElem?_replicate,qy (by omega)];simp[zcn]
   ·cases h
  ·cases h
 unfold Xq at h;split at h
 ·split at h
  ·rename_i hn;exact tail _ _ _ (zcK hn).1 (XU L) h
  ·cases h
 ·exact tail _ _ _ (by decide) (ql _) h
theorem zif:∀(f:Nat) (L:List Tok) (m:Met) (i n:Nat) (all:Bool) (L':List Tok) (m':Met),ZS f L m i n all=.ok (L',m')->L'.length<=L.length:=by
 intro f;induction f with
 |zero=>intro L m i n all L' m' h;cases h
 |succ f ih=>
  intro L m i n all L' m' h;have a1:=XU L;have a2:=XU (gW L);have a3:=XU (gW (gW L));unfold ZS at h;split at h
  ·split at h
   ·split at h
    ·split at h
     ·have:=ih _ _ _ _ _ _ _ h;omega
     ·simp only[zY,kz] at h;rw[<-h.1];omega
    ·cases h
   ·cases h
  ·cases h
theorem zkQ:∀(f:Nat) (L:List Tok) (m:Met) (L':List Tok) (m':Met),Z2 f L m=.ok (L',m')->L'.length<=L.length:=by
 intro f;induction f with
 |zero=>intro L m L' m' h;cases h
 |succ f ih=>
  intro L m L' m' h;have a1:=XU L;have a2:=XU (gW L);have a3:=XU (gW (gW L));unfold Z2 at h;split at h
  ·split at h
   ·cases h
   ·split at h
    ·cases h
    ·split at h
     ·split at h
      ·have:=ih _ _ _ _ h;omega
      ·simp only[zY,kz] at h;rw[<-h.1];omega
     ·cases h
  ·cases h
theorem zjN {L:List Tok} {m:Met} {L':List Tok} {m':Met} (h:YE L m=.ok (L',m')):L'.length<=L.length:=by
 have a1:=XU L;have a2:=XU (gW L);unfold YE at h;split at h
 ·split at h
  ·simp only[zY,kz] at h;rw[<-h.1];omega
  ·cases h
 ·cases h
theorem zgL:∀(f:Nat) (L:List Tok) (m:Met) (i n:Nat) (all:Bool) (L':List Tok) (m':Met),i+n<=m.gO.length->ZS f L m i n all=.ok (L',m')->m'.gO.length=m.gO.length:=by
 intro f;induction f with
 |zero=>intro L m i n all L' m' hin h;cases h
 |succ f ih=>
  intro L m i n all L' m' hin h;unfold ZS at h;split at h
  ·split at h
   ·split at h
    ·split at h
     ·have hl:=za5 m.gO i n (pT (hd L).2).1 (gV (hd (gW L)).2 0 1048576).1 all hin;have:=ih _ _ _ _ _ _ _ (by simp only[];omega) h;simp only[] at this;omega
     ·simp only[zY,kz] at h;rw[<-h.2];exact za5 _ _ _ _ _ _ hin
    ·cases h
   ·cases h
  ·cases h
theorem zjO:∀(f:Nat) (L:List Tok) (m:Met) (L':List Tok) (m':Met),Z2 f L m=.ok (L',m')->m'.gO.length=m.gO.length:=by
 intro f;induction f with
 |zero=>intro L m L' m' h;cases h
 |succ f ih=>
  intro L m L' m' h;unfold Z2 at h;split at h
  ·split at h
   ·cases h
   ·split at h
    ·cases h
    ·split at h
     ·split at h
      ·have:=ih _ _ _ _ h;exact this
      ·simp only[zY,kz] at h;rw[<-h.2]
     ·cases h
  ·cases h
theorem zeG {L:List Tok} {m:Met} {L':List Tok} {m':Met} (h:Q4 L m=.ok (L',m')):m'.gO.length=m.gO.length:=by
 unfold Q4 at h;split at h
 ·exact zgL _ _ _ _ _ _ _ _ (by omega) h
 ·split at h
  ·exact zjO _ _ _ _ _ h
  ·split at h
   ·unfold YE at h;split at h
    ·split at h
     ·simp only[zY,kz] at h;rw[<-h.2]
     ·cases h
    ·cases h
   ·split at h
    ·split at h
     ·rename_i hn;have:=zcK hn;exact zgL _ _ _ _ _ _ _ _ (by omega) h
     ·cases h
    ·cases h
theorem zfm {L:List Tok} {m:Met} {L':List Tok} {m':Met} (h:Q4 L m=.ok (L',m')):L'.length<=L.length:=by
 have a1:=XU L;unfold Q4 at h;split at h
 ·have:=zif _ _ _ _ _ _ _ _ h;omega
 ·split at h
  ·have:=zkQ _ _ _ _ _ h;omega
  ·split at h
   ·have:=zjN h;omega
   ·split at h
    ·split at h
     ·have:=zif _ _ _ _ _ _ _ _ h;omega
     ·cases h
    ·cases h
theorem zlS {w:World} {B e z n:Nat} {v:Value} {x:List Value} (h:w.ownsRow B e z v n x):∃A c,v=.slice A n c/\n<=c/\True:=by
 rcases h.2 with⟨rfl,h0⟩|⟨g,cap,cur,rfl,_,hg,hcap,_⟩
 ·exact⟨none,0,by rw[h0],by omega,trivial⟩
 ·exact⟨_,cap,rfl,hcap,trivial⟩
theorem zig {s:ByteArray} {w wr w3:World} {c:Int} {p:Nat} (hb:Below w.heap.size w wr) (Zg:Vars wr) (h6:9<=w.heap.size) (x2:wr.heap[w.heap.size]?=some (.cells #[yK,yK,yK] 79 (0,0))) (x3:wr.heap[w.heap.size+1]?=some (.cells #[.int .i64 0,.int .i64 0] 87 (0,0)))
  (h2:w.heap.size+2<=wr.heap.size) (hb3:Below (w.heap.size+2) wr w3) (hR:Zs s=.error (c,p)) (hat:w3.cell? ⟨w.heap.size+2,1,none⟩=some (.int .i64 p)):
  ∀g a,FrE s w.heap.size (w.heap.size+2) c a->JR s w 2 g a w3:=λg a ha=>
 ⟨hb.trans (hb3.mono (by omega)),Zg.below hb3 (by omega),(hb3.block w.heap.size (by omega)).trans x2,(hb3.block (w.heap.size+1) (by omega)).trans x3,c,p,ha,hR,hat⟩
def zjP (s:ByteArray) (w:World) (g:Nat) (e:Ending) (w4:World):Prop:=
 ∃c:Int,e=.returned (.int .i64 c)/\((c=0/\∀a,Fr s w.heap.size (w.heap.size+2) a->zet (JR s w) g 1 a w4)∨(c≠0/\∀g' a,FrE s w.heap.size (w.heap.size+2) c a->JR s w 2 g' a w4))
theorem ziL {s:ByteArray} {w wr w3 w4:World} {L:List Tok} {m:Met} {q g:Nat} {e:Ending} (hb:Below w.heap.size w wr) (Zg:Vars wr) (h6:9<=w.heap.size) (x2:wr.heap[w.heap.size]?=some (.cells #[yK,yK,yK] 79 (0,0))) (x3:wr.heap[w.heap.size+1]?=some (.cells #[.int .i64 0,.int .i64 0] 87 (0,0)))
  (h2:w.heap.size+2<=wr.heap.size) (hb3:Below (w.heap.size+2) wr w3) (h0:(hd L).2.size≠0) (zrU:ph (hd L).2 Ki=true) (hlt:(gW L).length<L.length) (hg:L.length*3+1<=g) (hf:L.length<=q+1) (hfe:0<m.gO.length) (hR:KD (q+1) L m=Zs s)
  (hcl:uG (w.heap.size+2) (w.heap.size+2) s w3 (Q4 (gW L) m) e w4):zjP s w g e w4:=by
 obtain⟨hb4,hcl⟩:=hcl;have hbb:=hb3.trans hb4;cases hc:Q4 (gW L) m with
 |error x=>
  obtain⟨c,p⟩:=x;rw[hc] at hcl;obtain⟨rfl,hne,hat⟩:=hcl;refine⟨c,rfl,.inr ⟨hne,zig hb Zg h6 x2 x3 h2 hbb ?_ hat⟩⟩;rw[<-hR];unfold KD;simp[h0,zrU,hc]
 |ok y=>
  obtain⟨L',m'⟩:=y;rw[hc] at hcl;obtain⟨rfl,hL',hz',vf,ve,vb,vs,hr⟩:=hcl;have hln:=zfm hc;have hfl:=zeG hc;refine⟨0,rfl,.inl ⟨rfl,λa ha=>⟨L'.length*3+1,by omega,hb.trans (hbb.mono (by omega)),Zg.below hbb (by omega),(hbb.block w.heap.size (by omega)).trans x2,(hbb.block (w.heap.size+1) (by omega)).trans x3,ha,L',m',q,vf,ve,vb,vs,ql _,by omega,hL',hz',by omega,?_,hr⟩⟩⟩;rw[<-hR];conv=>rhs;unfold KD
  simp[h0,zrU,hc]
theorem zjQ {s:ByteArray} {L:List Tok} (hL:KG s L) (h:ph (hd L).2 Ki=true):(gW L).length<L.length:=by
 obtain⟨p,hp,rfl⟩:=hL;refine zjk λe=>?_;rw[e] at h;exact absurd h (by decide+kernel)
theorem zbK {w wr:World} {v0 v1 v2 v3 v4:Value} {x0 x1 x2 x3 x4:Value} (hb:Below w.heap.size w wr) (hx2:wr.heap[w.heap.size]?=some (.cells #[x0,x1,x2] 79 (0,0))) (hx3:wr.heap[w.heap.size+1]?=some (.cells #[x3,x4] 87 (0,0)))
  {W6:World} (X8:(((((wr.setCell ⟨w.heap.size,0,none⟩ v0).setCell ⟨w.heap.size,1,none⟩ v1).setCell ⟨w.heap.size,2,none⟩ v2).setCell ⟨w.heap.size+1,0,none⟩ v3).setCell ⟨w.heap.size+1,1,none⟩ v4)=W6):
  Below w.heap.size w W6/\W6.heap[w.heap.size]?=some (.cells #[v0,v1,v2] 79 (0,0))/\W6.heap[w.heap.size+1]?=some (.cells #[v3,v4] 87 (0,0)):=by
 have g2:=qs _ w.heap.size 2 _ 79 v2 (qs _ w.heap.size 1 _ 79 v1 (qs wr w.heap.size 0 _ 79 v0 hx2));generalize QJ:((wr.setCell ⟨w.heap.size,0,none⟩ v0).setCell ⟨w.heap.size,1,none⟩ v1).setCell ⟨w.heap.size,2,none⟩ v2=W5 at*;have q3:W5.heap[w.heap.size+1]?=some (.cells #[x3,x4] 87 (0,0)):=by
  rw[<-QJ];refine(qT _ _ _ _ ?_).trans ((qT _ _ _ _ ?_).trans ((qT _ _ _ _ ?_).trans hx3))<;>(show w.heap.size+1≠w.heap.size;omega)
 have g5:=qs _ (w.heap.size+1) 1 _ 87 v4 (qs W5 (w.heap.size+1) 0 _ 87 v3 q3);refine⟨?_,?_,by rw[<-X8];exact g5⟩
 ·rw[<-X8,<-QJ];exact((((hb.setCell (by show w.heap.size<=w.heap.size;omega) _).setCell (by show w.heap.size<=w.heap.size;omega) _).setCell (by show w.heap.size<=w.heap.size;omega) _).setCell (by show w.heap.size<=w.heap.size+1;omega) _).setCell (by show w.heap.size<=w.heap.size+1;omega) _
 ·rw[<-X8];refine(qT _ _ _ _ ?_).trans ((qT _ _ _ _ ?_).trans g2)<;>(show w.heap.size≠w.heap.size+1;omega)
theorem zfX {w W:World} {T:Array Value} {Q:Ending->World->Prop} {v0 v1 v2 v3 v4:Value} (h2:T.getD 2 undef=.pointer (some ⟨w.heap.size,0,none⟩)) (h3:T.getD 3 undef=.pointer (some ⟨w.heap.size+1,0,none⟩))
  (r0:W.heap[w.heap.size]?=some (.cells #[v0,v1,v2] 79 (0,0))) (r1:W.heap[w.heap.size+1]?=some (.cells #[v3,v4] 87 (0,0))) (hQ:Q (.returned (.tuple #[.agg #[v0,v1,v2],.agg #[v3,v4]])) W):
  bodyPost Tryz.prog Tryz.f115 Q Exit.ret {tmps:=T,defers:=[]} W:=by
 have d0:W.cell? ⟨w.heap.size,0,none⟩=some v0:=qc _ _ _ _ 79 (0,0) r0;have d1:W.cell? ⟨w.heap.size,1,none⟩=some v1:=qc _ _ _ _ 79 (0,0) r0;have d2:W.cell? ⟨w.heap.size,2,none⟩=some v2:=qc _ _ _ _ 79 (0,0) r0;have d3:W.cell? ⟨w.heap.size+1,0,none⟩=some v3:=qc _ _ _ _ 87 (0,0) r1;have d4:W.cell? ⟨w.heap.size+1,1,none⟩=some v4:=qc _ _ _ _ 87 (0,0) r1;have h2':T[2]?.getD undef=.pointer (some ⟨w.heap.size,0,none⟩):=by simpa using h2
 have h3':T[3]?.getD undef=.pointer (some ⟨w.heap.size+1,0,none⟩):=by simpa using h3
 refine zt (v:=.tuple #[.agg #[v0,v1,v2],.agg #[v3,v4]]) ?_ rfl hQ;simp[results,Tryz.f115,go_sem,h2',h3',d0,d1,d2,d3,d4,Tryz.isAgg79,Tryz.isAgg87,Tryz.sizeOf79,yu]
theorem zjR (s:ByteArray) (w:World) (zrl:s.size<=4611686018427387904) (hs6:65536<s.size):
  Calls Tryz.prog 115 #[.string s] w (Zb s w):=by
 have HR2:Hid (Zs s=.error (3,65536)):=qh (by unfold Zs;rw[qy hs6]);go_enter Tryz.func115,Tryz.ntmps115;go_wp2_with fail;generalize hw1:(w.alloc (.cells #[.slice none 0 0,.slice none 0 0,.slice none 0 0] 79)).alloc (.cells #[.int .i64 0,.int .i64 0] 87)=w1;have x2:w1.heap[w.heap.size]?=some (.cells #[yK,yK,yK] 79 (0,0)):=by rw[<-hw1];exact(qa _ _ _ (by simp)).trans (qn w _)
 have x3:w1.heap[w.heap.size+1]?=some (.cells #[.int .i64 0,.int .i64 0] 87 (0,0)):=by
  rw[<-hw1];have:=qn (w.alloc (.cells #[.slice none 0 0,.slice none 0 0,.slice none 0 0] 79)) (.cells #[.int .i64 0,.int .i64 0] 87);rw[qO] at this;exact this
 have hb1:Below w.heap.size w w1:=by rw[<-hw1];exact((qb _ _).alloc (ql _) _).alloc (by simp) _
 have k0:w1.cell? ⟨w.heap.size,0,none⟩=some (.slice none 0 0):=qc _ _ _ _ 79 (0,0) x2;have k1:w1.cell? ⟨w.heap.size,1,none⟩=some (.slice none 0 0):=qc _ _ _ _ 79 (0,0) x2;have k2:w1.cell? ⟨w.heap.size,2,none⟩=some (.slice none 0 0):=qc _ _ _ _ 79 (0,0) x2;have l0:w1.cell? ⟨w.heap.size+1,0,none⟩=some (.int .i64 0):=qc _ _ _ _ 87 (0,0) x3;have l1:w1.cell? ⟨w.heap.size+1,1,none⟩=some (.int .i64 0):=qc _ _ _ _ 87 (0,0) x3;have z0:=qf w1 w.heap.size 0 _ 79 x2;have z1:=qf w1 w.heap.size 1 _ 79 x2;have z2:=qf w1 w.heap.size 2 _ 79 x2;have y0:=qf w1 (w.heap.size+1) 0 _ 87 x3;have y1:=qf w1 (w.heap.size+1) 1 _ 87 x3;have Hb1:=qh hb1;have X2:=qh x2;have X3:=qh x3;clear hb1 hw1 x2 x3;refine zbY (λ_ _ _ _=>False) ?_ (λ_ _ _ _ h=>h.elim);go_wp2_with fail;obtain⟨hbe,r0,r1⟩:=zbK (v0:=.slice none 0 0) (v1:=.slice none 0 0) (v2:=.slice none 0 0) (v3:=.int .i64 3) (v4:=.int .i64 65536) Hb1.out X2.out X3.out rfl;exact zfX rfl rfl r0 r1 ⟨hbe,by rw[HR2.out];rfl⟩
theorem ziM (s:ByteArray) (w:World) (hv:Vars w) (hs6:s.size<=65536):
  Calls Tryz.prog 115 #[.string s] w (Zb s w):=by
 go_enter Tryz.func115,Tryz.ntmps115;go_wp2_with fail;generalize hw1:(w.alloc (.cells #[.slice none 0 0,.slice none 0 0,.slice none 0 0] 79)).alloc (.cells #[.int .i64 0,.int .i64 0] 87)=w1;have sw1:w1.heap.size=w.heap.size+2:=by rw[<-hw1];simp
 refine ze3 rfl rfl rfl (JR s w) (λ_ _ _ _=>zmE) ?p2 ?p1 ?p0 ?first
 case p2=>
  intro g a wr hJ;obtain⟨hb,Zg,hx2,hx3,c,p,hfr,hR,hat⟩:=hJ;obtain⟨f,rfl⟩:=hfr;have k0:wr.cell? ⟨w.heap.size,0,none⟩=some (.slice none 0 0):=qc _ _ _ _ 79 (0,0) hx2;have k1:wr.cell? ⟨w.heap.size,1,none⟩=some (.slice none 0 0):=qc _ _ _ _ 79 (0,0) hx2;have k2:wr.cell? ⟨w.heap.size,2,none⟩=some (.slice none 0 0):=qc _ _ _ _ 79 (0,0) hx2;have l0:wr.cell? ⟨w.heap.size+1,0,none⟩=some (.int .i64 0):=qc _ _ _ _ 87 (0,0) hx3;have l1:wr.cell? ⟨w.heap.size+1,1,none⟩=some (.int .i64 0):=qc _ _ _ _ 87 (0,0) hx3;have z0:=qf wr w.heap.size 0 _ 79 hx2;have z1:=qf wr w.heap.size 1 _ 79 hx2;have z2:=qf wr w.heap.size 2 _ 79 hx2;have y0:=qf wr (w.heap.size+1) 0 _ 87 hx3;have y1:=qf wr (w.heap.size+1) 1 _ 87 hx3;go_wp2_with fail;go_region
  all_goals
   go_wp2_with fail;have g2:=qs _ w.heap.size 2 _ 79 (.slice none 0 0) (qs _ w.heap.size 1 _ 79 (.slice none 0 0) (qs wr w.heap.size 0 _ 79 (.slice none 0 0) hx2));have g3:=hx3;generalize QJ:((wr.setCell ⟨w.heap.size,0,none⟩ (.slice none 0 0)).setCell ⟨w.heap.size,1,none⟩ (.slice none 0 0)).setCell ⟨w.heap.size,2,none⟩ (.slice none 0 0)=W5 at*;have q3:W5.heap[w.heap.size+1]?=some (.cells #[.int .i64 0,.int .i64 0] 87 (0,0)):=by
    rw[<-QJ];refine(qT _ _ _ _ ?_).trans ((qT _ _ _ _ ?_).trans ((qT _ _ _ _ ?_).trans hx3))<;>(show w.heap.size+1≠w.heap.size;omega)
   have g5:=qs _ (w.heap.size+1) 1 _ 87 (.int .i64 p) (qs W5 (w.heap.size+1) 0 _ 87 (.int .i64 c) q3);have g4:((W5.setCell ⟨w.heap.size+1,0,none⟩ (.int .i64 c)).setCell ⟨w.heap.size+1,1,none⟩ (.int .i64 p)).heap[w.heap.size]?=some (.cells #[.slice none 0 0,.slice none 0 0,.slice none 0 0] 79 (0,0)):=by
    refine(qT _ _ _ _ ?_).trans ((qT _ _ _ _ ?_).trans g2)<;>(show w.heap.size≠w.heap.size+1;omega)
   have hb5:Below w.heap.size w ((W5.setCell ⟨w.heap.size+1,0,none⟩ (.int .i64 c)).setCell ⟨w.heap.size+1,1,none⟩ (.int .i64 p)).drew:=by
    rw[<-QJ];exact(((((hb.setCell (by show w.heap.size<=w.heap.size;omega) _).setCell (by show w.heap.size<=w.heap.size;omega) _).setCell (by show w.heap.size<=w.heap.size;omega) _).setCell (by show w.heap.size<=w.heap.size+1;omega) _).setCell (by show w.heap.size<=w.heap.size+1;omega) _).drew
   generalize X8:((W5.setCell ⟨w.heap.size+1,0,none⟩ (.int .i64 c)).setCell ⟨w.heap.size+1,1,none⟩ (.int .i64 p)).drew=W6;have r0:W6.heap[w.heap.size]?=some (.cells #[.slice none 0 0,.slice none 0 0,.slice none 0 0] 79 (0,0)):=(by rw[<-X8];exact g4);have r1:W6.heap[w.heap.size+1]?=some (.cells #[.int .i64 c,.int .i64 p] 87 (0,0)):=(by rw[<-X8];exact g5);rw[X8] at hb5;have d0:W6.cell? ⟨w.heap.size,0,none⟩=some (.slice none 0 0):=qc _ _ _ _ 79 (0,0) r0;have d1:W6.cell? ⟨w.heap.size,1,none⟩=some (.slice none 0 0):=qc _ _ _ _ 79 (0,0) r0;have d2:W6.cell? ⟨w.heap.size,2,none⟩=some (.slice none 0 0):=qc _ _ _ _ 79 (0,0) r0;have d3:W6.cell? ⟨w.heap.size+1,0,none⟩=some (.int .i64 c):=qc _ _ _ _ 87 (0,0) r1;have d4:W6.cell? ⟨w.heap.size+1,1,none⟩=some (.int .i64 p):=qc _ _ _ _ 87 (0,0) r1;have hres:Zb s w (.returned (.tuple #[zlR,.agg #[.int .i64 c,.int .i64 p]])) W6:=by
    unfold Zb;rw[hR];exact⟨hb5,rfl⟩
   refine zt (v:=.tuple #[zlR,.agg #[.int .i64 c,.int .i64 p]]) ?_ rfl hres;simp[results,Tryz.f115,go_sem,d0,d1,d2,d3,d4,Tryz.isAgg79,Tryz.isAgg87,Tryz.sizeOf79,yu];rfl
 case p1=>
  intro q2 g a wr hJ;obtain⟨hb,Zg,hx2,hx3,hfr,L,m,f,vf,ve,vb,vs,hg,hf,hL,hz,hfe,hR,hr⟩:=hJ;obtain⟨u,rfl⟩:=hfr;have hlp:0<L.length:=by
   obtain⟨p,hp,e⟩:=hL;rw[e];exact zbV s p
  obtain⟨q,rfl⟩:∃q,f=q+1:=⟨f-1,by omega⟩;have hbase:w.heap.size+2<=wr.heap.size:=hr.bs;obtain⟨gf,cf,KE⟩:=Zv hr.gO hfe;subst KE;have hcf:m.gO.length<=cf:=by
   obtain⟨A,c,e,hc,_⟩:=zlS hr.gO;cases e;exact hc
  have d1:=hr.rb.c1;have d2:=hr.rb.c2;have Hq2:=qh q2;have Hr:=qh hr;have HR:=qh hR;have Hb:=qh hb;have Hvr:=qh Zg;have Zj:=qh hx2;have JY:=qh hx3;have Hg:=qh hg;have Hf:=qh hf;have H6:Hid (9<=w.heap.size):=qh hv.six;clear q2 hR hr hb Zg hx2 hx3 hg hf;have YW:ph (hd L).2 Ki=((hd L).2.toList==[59]):=zia _;by_cases h0:(hd L).2.size=0
  ·have hl0:(hd L).2.toList=[]:=zba h0;have HR2:Hid (Zs s=.ok m):=qh (by rw[<-HR.out];unfold KD;rw[qy h0]);obtain⟨A4,Xz,hve⟩:=pJ Hr.out.ends;obtain⟨A5,Yp,hvb⟩:=pJ Hr.out.gS;subst hve hvb;have c3:=Hr.out.rb.c3;have c4:=Hr.out.rb.c4;have c5:=Hr.out.rb.c5;have k0:wr.cell? ⟨w.heap.size,0,none⟩=some (.slice none 0 0):=qc _ _ _ _ 79 (0,0) Zj.out;have k1:wr.cell? ⟨w.heap.size,1,none⟩=some (.slice none 0 0):=qc _ _ _ _ 79 (0,0) Zj.out;have k2:wr.cell? ⟨w.heap.size,2,none⟩=some (.slice none 0 0):=qc _ _ _ _ 79 (0,0) Zj.out;have l0:wr.cell? ⟨w.heap.size+1,0,none⟩=some (.int .i64 0):=qc _ _ _ _ 87 (0,0) JY.out;have l1:wr.cell? ⟨w.heap.size+1,1,none⟩=some (.int .i64 0):=qc _ _ _ _ 87 (0,0) JY.out;have z0:=qf wr w.heap.size 0 _ 79 Zj.out;have z1:=qf wr w.heap.size 1 _ 79 Zj.out;have z2:=qf wr w.heap.size 2 _ 79 Zj.out;have y0:=qf wr (w.heap.size+1) 0 _ 87 JY.out;have y1:=qf wr (w.heap.size+1) 1 _ 87 JY.out;clear h0 YW;go_wp2_with fail;obtain⟨hbe,r0,r1⟩:=zbK (v0:=.slice (some ⟨gf,0,none⟩) m.gO.length cf) (v1:=.slice A4 m.ends.length Xz) (v2:=.slice A5 m.gS.length Yp) (v3:=.int .i64 0) (v4:=.int .i64 0) Hb.out Zj.out JY.out rfl;refine zfX rfl rfl r0 r1 ?_;have JE:=((((Hr.out.om.put (k:=w.heap.size) (by omega) 0 (.slice (some ⟨gf,0,none⟩) m.gO.length cf)).put (k:=w.heap.size) (by omega) 1 (.slice A4 m.ends.length Xz)).put (k:=w.heap.size) (by omega) 2 (.slice A5 m.gS.length Yp)).put (k:=w.heap.size+1) (by omega) 0 (.int .i64 0)).put (k:=w.heap.size+1) (by omega) 1 (.int .i64 0);refine⟨hbe,?_⟩;rw[HR2.out];exact⟨hz,_,_,_,vs,rfl,JE.zpZ (by omega)⟩
  ·cases hc:ph (hd L).2 Ki with
   |false=>
    have hne:((hd L).2.toList==[59])=false:=(by rw[<-YW,hc]);have hpos:0<(hd L).2.size:=(by omega);have hl1:=zdh hpos;have hne':((hd L).2.toList !=[59])=true:=(by simp[bne,hne]);have HR2:Hid (Zs s=.error (130,(hd L).1)):=qh (by rw[<-HR.out];unfold KD;simp[h0,hc]);have HJ2:=qh (zig Hb.out Hvr.out H6.out Zj.out JY.out hbase (qb _ _) HR2.out d1);clear h0 YW hc;go_wp2_with fail;go_step3
    exact⟨0,by have:=Hg.out;omega,HJ2.out _ _ (FrE.of rfl rfl rfl rfl rfl rfl rfl)⟩
   |true=>
    have hne:((hd L).2.toList==[59])=true:=(by rw[<-YW,hc]);have hpos:0<(hd L).2.size:=(by omega);have hl1:=zdh hpos;have hne':((hd L).2.toList !=[59])=false:=(by simp[bne,hne]);have XK:=qh (zjQ hL hc);have Hce:=qh (λ(w3 w4:World) (e:Ending) hb3 hcl=>ziL (w3:=w3) (w4:=w4) (e:=e) (g:=g) Hb.out Hvr.out H6.out Zj.out JY.out hbase hb3 h0 hc XK.out Hg.out Hf.out hfe HR.out hcl);have Hcr:=qh (λ(c:Int) (p:Nat) (he:Q4 (gW L) m=.error (c,p))=>(show Zs s=.error (c,p) by rw[<-HR.out];unfold KD;simp[h0,hc,he]));have hnx:=YM Hr.out hL hs6;have QA:=qh λw1 hg=>YN (w':=w1) Hr.out hg;clear h0 YW hc;go_wp2_with fail;refine hnx.mono ?_;rintro e w3 ⟨rfl,h3,hg3⟩;have H3:=qh h3;have Hb3:=qh (QA.out w3 hg3);have d2:=h3.rb.c2;have Hv3:=qh (Hvr.out.below Hb3.out (by have:=H6.out;omega));clear hnx QA h3 hg3;have HL:=qh hL.gW;have q1:=zjJ (hd (gW L)).2;have q2:=zjK (hd (gW L)).2;have q3:=zgE (hd (gW L)).2;cases hc1:ph (hd (gW L)).2 ANY with
    |true=>
     have n1:((hd (gW L)).2.toList==[97,110,121])=true:=(by rw[<-q1,hc1]);have Qe:=qh (show Q4 (gW L) m=ZS (gW (gW L)).length (gW (gW L)) m 0 m.gO.length true by unfold Q4;simp[hc1]);have hnx:=YM H3.out HL.out hs6;have QA:=qh λw1 hg=>YN (w':=w1) H3.out hg;clear hc1 q1 q2 q3;go_wp2_with fail;refine hnx.mono ?_;rintro e w5 ⟨rfl,h5,hg5⟩;have H5:=qh h5;have Hb5:=qh (Hb3.out.trans (QA.out w5 hg5));have d3:=h5.rb.c3;have hw:=zgF H5.out HL.out.gW hs6 (Hvr.out.below Hb5.out (by have:=H6.out;omega)) (by have:=H6.out;omega) hz 0 m.gO.length cf (by omega) true;simp only[Nat.zero_mul] at hw;have Hw:=qh hw;clear hnx QA h5 hg5 hw;go_wp2_with fail;refine Hw.out.mono ?_;rintro e w6 ⟨hb6,hcl⟩;have hce:=Hce.out w5 w6 e Hb5.out (by rw[Qe.out];exact⟨hb6,hcl⟩);clear hb6 hcl;obtain⟨c,rfl,hce⟩:=hce;rcases hce with⟨rfl,hJ⟩|⟨hne,hJ⟩
     ·have HJ:=qh hJ;clear hJ;go_wp2_with fail;go_step3
      exact HJ.out _ (Fr.of rfl rfl rfl rfl rfl rfl)
     ·have HJ:=qh hJ;have hne':(c==0)=false:=(by simpa using hne);clear hJ hne;go_wp2_with fail;go_step3
      apply_assumption
      refine km (zaU (zby (qF _))) (Hq2.out _ _ _ (HJ.out 0 _ ?_));exact FrE.of rfl rfl rfl rfl rfl rfl rfl
    |false=>
     have n1:((hd (gW L)).2.toList==[97,110,121])=false:=(by rw[<-q1,hc1]);clear q1;cases hc2:ph (hd (gW L)).2 END with
     |true=>
      have n2:((hd (gW L)).2.toList==[101,110,100])=true:=(by rw[<-q2,hc2]);have Qe:=qh (show Q4 (gW L) m=Z2 (gW (gW L)).length (gW (gW L)) m by unfold Q4;simp[hc1,hc2]);have hnx:=YM H3.out HL.out hs6;have QA:=qh λw1 hg=>YN (w':=w1) H3.out hg;clear hc1 hc2 q2 q3;go_wp2_with fail;refine hnx.mono ?_;rintro e w5 ⟨rfl,h5,hg5⟩;have H5:=qh h5;have Hb5:=qh (Hb3.out.trans (QA.out w5 hg5));have Hw:=qh (zkP H5.out HL.out.gW hs6 (Hvr.out.below Hb5.out (by have:=H6.out;omega)) (by have:=H6.out;omega) hz);clear hnx QA h5 hg5;go_wp2_with fail;refine Hw.out.mono ?_;rintro e w6 ⟨hb6,hcl⟩;have hce:=Hce.out w5 w6 e Hb5.out (by rw[Qe.out];exact⟨hb6,hcl⟩);clear hb6 hcl;obtain⟨c,rfl,hce⟩:=hce;rcases hce with⟨rfl,hJ⟩|⟨hne,hJ⟩
      ·have HJ:=qh hJ;clear hJ;go_wp2_with fail;go_step3
       exact HJ.out _ (Fr.of rfl rfl rfl rfl rfl rfl)
      ·have HJ:=qh hJ;have hne':(c==0)=false:=(by simpa using hne);clear hJ hne;go_wp2_with fail;go_step3
       apply_assumption
       refine km (zaU (zby (qF _))) (Hq2.out _ _ _ (HJ.out 0 _ ?_));exact FrE.of rfl rfl rfl rfl rfl rfl rfl
     |false=>
      have n2:((hd (gW L)).2.toList==[101,110,100])=false:=(by rw[<-q2,hc2]);clear q2;cases hc3:ph (hd (gW L)).2 Zr with
      |true=>
       have n3:((hd (gW L)).2.toList==[98,114,101,97,107])=true:=(by rw[<-q3,hc3]);have Qe:=qh (show Q4 (gW L) m=YE (gW (gW L)) m by unfold Q4;simp[hc1,hc2,hc3]);have hnx:=YM H3.out HL.out hs6;have QA:=qh λw1 hg=>YN (w':=w1) H3.out hg;clear hc1 hc2 hc3 q3;go_wp2_with fail;refine hnx.mono ?_;rintro e w5 ⟨rfl,h5,hg5⟩;have H5:=qh h5;have Hb5:=qh (Hb3.out.trans (QA.out w5 hg5));have Hw:=qh (zjL H5.out HL.out.gW hs6 (Hvr.out.below Hb5.out (by have:=H6.out;omega)) (by have:=H6.out;omega) hz);clear hnx QA h5 hg5;go_wp2_with fail;refine Hw.out.mono ?_;rintro e w6 ⟨hb6,hcl⟩;have hce:=Hce.out w5 w6 e Hb5.out (by rw[Qe.out];exact⟨hb6,hcl⟩);clear hb6 hcl;obtain⟨c,rfl,hce⟩:=hce;rcases hce with⟨rfl,hJ⟩|⟨hne,hJ⟩
       ·have HJ:=qh hJ;clear hJ;go_wp2_with fail;go_step3
        exact HJ.out _ (Fr.of rfl rfl rfl rfl rfl rfl)
       ·have HJ:=qh hJ;have hne':(c==0)=false:=(by simpa using hne);clear hJ hne;go_wp2_with fail;go_step3
        apply_assumption
        refine km (zaU (zby (qF _))) (Hq2.out _ _ _ (HJ.out 0 _ ?_));exact FrE.of rfl rfl rfl rfl rfl rfl rfl
      |false=>
       have n3:((hd (gW L)).2.toList==[98,114,101,97,107])=false:=(by rw[<-q3,hc3]);clear q3;have ZP:=zbl (w.heap.size+2) (hd (gW L)).2 w3 d2;cases hc4:pm (hd (gW L)).2 with
       |false=>
        rw[hc4] at ZP;have Her:=qh (show Q4 (gW L) m=.error (130,(hd (gW L)).1) by unfold Q4;simp[hc1,hc2,hc3,hc4]);have hce:=Hce.out w3 w3 (.returned (.int .i64 130)) Hb3.out (by rw[Her.out];exact⟨qb _ _,rfl,by decide,H3.out.rb.c1⟩);have Hce3:=qh hce;clear hc1 hc2 hc3 hc4 hce;go_wp2_with fail;refine ZP.mono ?_;rintro e w' ⟨rfl,rfl⟩;obtain⟨c,hc,hce⟩:=Hce3.out;cases hc;rcases hce with⟨h,_⟩|⟨hne,hJ⟩
        ·exact absurd h (by decide)
        ·have HJ:=qh hJ;clear hJ hne;go_wp2_with fail;go_step3
         apply_assumption
         refine km (zaU (zby (qF _))) (Hq2.out _ _ _ (HJ.out 0 _ ?_));exact FrE.of rfl rfl rfl rfl rfl rfl rfl
       |true=>
        rw[hc4] at ZP;have c3:=H3.out.rb.c3;have X9:=H3.out.bl;have Hfig:=qh ZP;have pk:=zcd (w.heap.size+2) (hd (gW L)).2 1 m.gO.length w3.drew d2 X9 (Hv3.out.drewN 1) (by have:=HL.out.size;omega);have QN:=qh (λh=>zcK (t:=(hd (gW L)).2) (lo:=1) (hi:=m.gO.length) h);have Qe:=qh (show Q4 (gW L) m=(if(gV (hd (gW L)).2 1 m.gO.length).2=0 then ZS (gW (gW L)).length (gW (gW L)) m ((gV (hd (gW L)).2 1 m.gO.length).1.toNat-1) 1 false else .error ((gV (hd (gW L)).2 1 m.gO.length).2,(hd (gW L)).1)) by unfold Q4;simp[hc1,hc2,hc3,hc4]);generalize gV (hd (gW L)).2 1 m.gO.length=E at pk QN Qe;obtain⟨nn,en⟩:=E;simp only[] at pk QN Qe;have pE:=qh pk;have YV:=qh λ(w9:World) (pb:Below w3.drew.heap.size w3.drew w9)=>qY ((RS.drewN H3.out 1).below pb) (Hb3.out.trans ((Xg (qb (w.heap.size+2) w3) 1:Below (w.heap.size+2) w3 w3.drew).trans (pb.mono H3.out.bs)));clear hc1 hc2 hc3 hc4 ZP pk;go_wp2_with fail;refine Hfig.out.mono ?_;rintro e w' ⟨rfl,rfl⟩;go_wp2_with fail;go_region_with (go_at_call 148;refine(pE.out).mono ?_;rintro e w9 ⟨rfl,pb⟩;obtain⟨h9,zqC⟩:=YV.out _ pb;have H9:=qh h9;have Hb9:=qh zqC;have k3:=h9.rb.c3;clear h9 zqC pb)
        all_goals
         clear pE YV Hfig;by_cases hn0:en=0
         ·subst hn0;have hin:=QN.out rfl;obtain⟨i,hi⟩:∃i:Nat,nn=(i:Int)+1:=⟨(nn-1).toNat,by have:=hin.1;omega⟩;subst hi;have hil:i<m.gO.length:=(by have:=hin.2;omega);have zsm:=Qe.out;rw[qy rfl,show((i:Int)+1).toNat-1=i by omega] at zsm;have Hcl1:=qh zsm;have hnx:=YM H9.out HL.out hs6;have QA:=qh λw1 hg=>YN (w':=w1) H9.out hg;have hic:i<cf:=(by omega);have hine:¬i=cf:=(by omega);clear hin zsm QN Qe;go_wp2_with fail;refine hnx.mono ?_;rintro e w5 ⟨rfl,h5,hg5⟩;have H5:=qh h5;have Hb5:=qh (Hb9.out.trans (QA.out w5 hg5));have d5:=h5.rb.c3;have hw:=zgF H5.out HL.out.gW hs6 (Hvr.out.below Hb5.out (by have:=H6.out;omega)) (by have:=H6.out;omega) hz i 1 (cf-i) (by omega) false;have Hw:=qh hw;have hf16:=hz.gO;clear hnx QA h5 hg5 hw;go_wp2_with fail;refine Hw.out.mono ?_;rintro e w6 ⟨hb6,hcl⟩;have hce:=Hce.out w5 w6 e Hb5.out (by rw[Hcl1.out];exact⟨hb6,hcl⟩);clear hb6 hcl;obtain⟨c,rfl,hce⟩:=hce;rcases hce with⟨rfl,hJ⟩|⟨hne,hJ⟩
          ·have HJ:=qh hJ;clear hJ;go_wp2_with fail;go_step3
           exact HJ.out _ (Fr.of rfl rfl rfl rfl rfl rfl)
          ·have HJ:=qh hJ;have hne':(c==0)=false:=(by simpa using hne);clear hJ hne;go_wp2_with fail;go_step3
           apply_assumption
           refine km (zaU (zby (qF _))) (Hq2.out _ _ _ (HJ.out 0 _ ?_));exact FrE.of rfl rfl rfl rfl rfl rfl rfl
         ·have Her:=qh (show Q4 (gW L) m=.error (en,(hd (gW L)).1) by rw[Qe.out,qx hn0]);have hce:=Hce.out _ _ (.returned (.int .i64 en)) Hb9.out (by rw[Her.out];exact⟨qb _ _,rfl,hn0,H9.out.rb.c1⟩);have hne1:(en==0)=false:=(by simpa using hn0);clear hn0;obtain⟨c,hc,hce⟩:=hce;cases hc;rcases hce with⟨h,_⟩|⟨hne,hJ⟩
          ·subst h;simp at hne1
          ·have HJ:=qh hJ;clear hJ hne;go_wp2_with fail;go_step3
           apply_assumption
           refine km (zaU (zby (qF _))) (Hq2.out _ _ _ (HJ.out 0 _ ?_));exact FrE.of rfl rfl rfl rfl rfl rfl rfl
 case p0=>
  intro q1 g a wr hJ;obtain⟨hb,Zg,hx2,hx3,hfr,L,m,f,vf,ve,vb,vs,hg,hf,hL,hz,hR,hr⟩:=hJ;obtain⟨u,rfl⟩:=hfr;have hlp:0<L.length:=by
   obtain⟨p,hp,e⟩:=hL;rw[e];exact zbV s p
  obtain⟨q,rfl⟩:∃q,f=q+1:=⟨f-1,by omega⟩;have hgr:=zjG hr hL hs6 Zg (by have:=hv.six;omega) hz.gO;have hbase:w.heap.size+2<=wr.heap.size:=hr.bs;have Hq1:=qh q1;have HR:=qh hR;have Hb:=qh hb;have Hvr:=qh Zg;have Zj:=qh hx2;have JY:=qh hx3;have Hg:=qh hg;have Hf:=qh hf;clear q1 hR hr hb Zg hx2 hx3 hg hf;cases hgp:Xq L m with
  |error x=>
   obtain⟨c,p⟩:=x;rw[hgp] at hgr;have HR2:Hid (Zs s=.error (c,p)):=qh (by rw[<-HR.out];unfold JL;rw[hgp]);clear hgp;go_wp2_with fail;refine hgr.mono ?_;rintro e w2 ⟨hb2,rfl,hc0⟩;have x2:=(hb2.block w.heap.size (by omega)).trans Zj.out;have x3:=(hb2.block (w.heap.size+1) (by omega)).trans JY.out;have hb3:=Hb.out.trans (hb2.mono (by omega));have k0:w2.cell? ⟨w.heap.size,0,none⟩=some (.slice none 0 0):=qc _ _ _ _ 79 (0,0) x2;have k1:w2.cell? ⟨w.heap.size,1,none⟩=some (.slice none 0 0):=qc _ _ _ _ 79 (0,0) x2;have k2:w2.cell? ⟨w.heap.size,2,none⟩=some (.slice none 0 0):=qc _ _ _ _ 79 (0,0) x2;have l0:w2.cell? ⟨w.heap.size+1,0,none⟩=some (.int .i64 0):=qc _ _ _ _ 87 (0,0) x3;have l1:w2.cell? ⟨w.heap.size+1,1,none⟩=some (.int .i64 0):=qc _ _ _ _ 87 (0,0) x3;have z0:=qf w2 w.heap.size 0 _ 79 x2;have z1:=qf w2 w.heap.size 1 _ 79 x2;have z2:=qf w2 w.heap.size 2 _ 79 x2;have y0:=qf w2 (w.heap.size+1) 0 _ 87 x3;have y1:=qf w2 (w.heap.size+1) 1 _ 87 x3;have hc0':(c !=0)=true:=(by simpa using hc0);unfold zjF;clear hc0;go_wp2_with fail;obtain⟨hbe,r0,r1⟩:=zbK (v0:=.slice none 0 0) (v1:=.slice none 0 0) (v2:=.slice none 0 0) (v3:=.int .i64 c) (v4:=.int .i64 p) hb3 x2 x3 rfl;exact zfX rfl rfl r0 r1 ⟨hbe,by rw[HR2.out];rfl⟩
  |ok y=>
   obtain⟨L',m'⟩:=y;rw[hgp] at hgr;obtain⟨hz',hah,hlen,hpo⟩:=zie hgp hz;have hR2:(if ph (hd L').2 COMMA then JL q (gW L') m' else KD L'.length L' m')=Zs s:=by
    rw[<-HR.out];conv=>rhs;unfold JL
    rw[hgp]
   have HR2:=qh hR2;clear hR2;clear hgp;go_wp2_with fail;refine hgr.mono ?_;rintro e w2 ⟨hb2,rfl,hL',Zf,YS,vb',vs',h2⟩;have x2:=(hb2.block w.heap.size (by omega)).trans Zj.out;have x3:=(hb2.block (w.heap.size+1) (by omega)).trans JY.out;have hb3:=Hb.out.trans (hb2.mono (by omega));have hv3:=Hvr.out.below hb2 (by have:=hv.six;omega);have Zx:ph (hd L').2 COMMA=((hd L').2.toList==[44]):=zce _;rw[<-hah] at h2;have H2:=qh h2;have d2:=h2.rb.c2;clear h2 hgr;unfold zjE;cases hc:ph (hd L').2 COMMA with
   |true=>
    have hne:((hd L').2.toList==[44])=true:=(by rw[<-Zx,hc]);have HR3:Hid (JL q (gW L') m'=Zs s):=qh (by rw[<-HR2.out,hc];rfl);have XK:=qh (zcX hL' hc);have hnx:=YM H2.out hL' hs6;have QA:=qh λw1 hg=>YN (w':=w1) H2.out hg;clear hc Zx;go_wp2_with fail;refine hnx.mono ?_;rintro e w3 ⟨rfl,h3,hg3⟩;have hb4:=QA.out w3 hg3;have hbs2:=H2.out.bs;have J0:∀a,Fr s w.heap.size (w.heap.size+2) a->zet (JR s w) g 0 a w3:=λa ha=>⟨(gW L').length*3+2,by have:=XK.out;have:=Hg.out;omega,hb3.trans (hb4.mono (by omega)),hv3.below hb4 (by have:=hv.six;omega),
     (hb4.block w.heap.size (by omega)).trans x2,(hb4.block (w.heap.size+1) (by omega)).trans x3,ha,gW L',m',q,Zf,YS,vb',vs',ql _,by have:=XK.out;have:=Hf.out;omega,hL'.gW,hz',HR3.out,h3⟩
    have HJ0:=qh J0;clear J0 hb4 h3 hg3 QA hnx hb3 hv3 x2 x3;go_wp2_with fail;go_step3
    refine HJ0.out _ ?_;exact Fr.of rfl rfl rfl rfl rfl rfl
   |false=>
    have hne:((hd L').2.toList==[44])=false:=(by rw[<-Zx,hc]);have HR3:Hid (KD L'.length L' m'=Zs s):=qh (by rw[<-HR2.out,hc];rfl);have J1:∀a,Fr s w.heap.size (w.heap.size+2) a->JR s w 1 (L'.length*3+1) a w2:=λa ha=>⟨hb3,hv3,x2,x3,ha,L',m',L'.length,Zf,YS,vb',vs',ql _,ql _,hL',hz',hpo,HR3.out,H2.out⟩;have Xk:=qh J1;clear J1 hc Zx hb3 hv3 x2 x3;go_wp2_with fail;go_step3
    apply_assumption
    refine km (zaU (zby (by have:=Hg.out;omega))) (Hq1.out _ _ _ (Xk.out _ ?_));exact Fr.of rfl rfl rfl rfl rfl rfl
 case first=>
  intro q0;have Hq0:=qh q0;have hb1:Below w.heap.size w w1:=by rw[<-hw1];exact((qb _ _).alloc (ql _) _).alloc (by simp) _
  have Hb1:=qh hb1;have Hw1:=qh hw1;have x2:w1.heap[w.heap.size]?=some (.cells #[yK,yK,yK] 79 (0,0)):=by rw[<-hw1];exact(qa _ _ _ (by simp)).trans (qn w _)
  have x3:w1.heap[w.heap.size+1]?=some (.cells #[.int .i64 0,.int .i64 0] 87 (0,0)):=by
   rw[<-hw1];have:=qn (w.alloc (.cells #[.slice none 0 0,.slice none 0 0,.slice none 0 0] 79)) (.cells #[.int .i64 0,.int .i64 0] 87);rw[qO] at this;exact this
  have X2:=qh x2;have X3:=qh x3;generalize hw2:w1.alloc (.cells #[.string s,.int .i64 0,.string ⟨#[]⟩,.slice none 0 0,.slice none 0 0,.slice none 0 0,.int .i64 0] 210)=w2;have r2:RB w2 (w.heap.size+2) s 0 ⟨#[]⟩ yK yK yK 0:=by
   rw[<-hw2,<-sw1];exact qn w1 _
  have hb2:Below (w.heap.size+2) w1 w2:=by rw[<-hw2];exact(qb _ _).alloc (by omega) _
  have Hw2:=qh hw2;have s2:w2.heap.size=w.heap.size+3:=by rw[<-hw2];simp[sw1]
  have hnx:=zhT (w.heap.size+2) 0 s ⟨#[]⟩ yK yK yK 0 w2 r2 (by show 0+0<=s.size;omega) (by omega);have ZO:=qh hnx;have Hb2:=qh hb2;have R2:=qh r2;have HvH:=qh hv;clear q0 hb1 hw1 hw2 hnx hb2 r2 x2 x3 hv;go_wp2_with fail;rw[Hw2.out];refine ZO.out.mono ?_;rintro e w3 ⟨rfl,r3,hg3⟩;have hs0:(0:Nat)+(⟨#[]⟩:ByteArray).size=0:=rfl;rw[hs0] at r3;have hh:=zfD (s:=s) (p:=0) (by omega);have hb3:Below (w.heap.size+2) w1 w3:=Hb2.out.grown hg3 (by omega) (λk e=>by cases e;omega);have hrs:RS w3 (w.heap.size+2) (w.heap.size+2) s (hd (toks s 0)).1 (hd (toks s 0)).2 Met.zero (zag Met.zero) yK yK yK []:=by
   rw[hh];exact⟨r3,ql _,rfl,zP _ _ _ _,λk hk=>absurd hk (Nat.not_lt_zero _),zP _ _ _ _,zP _ _ _ _,λi j k hi hj hij h1 h2=>by simp at hi hj;omega⟩
  have hz0:pl Met.zero:=⟨by simp[Met.zero],λk hk=>absurd hk (Nat.not_lt_zero _),by simp[Met.zero],by simp[Met.zero,zag]⟩;have hR0:JL (toks s 0).length (toks s 0) Met.zero=Zs s:=by
   conv=>rhs;unfold Zs
   rw[qx (by omega)]
  have J0:∀a,Fr s w.heap.size (w.heap.size+2) a->JR s w 0 ((toks s 0).length*3+2) a w3:=λa ha=>⟨Hb1.out.trans (hb3.mono (by omega)),(HvH.out.below Hb1.out HvH.out.six).below hb3 (by have:=HvH.out.six;omega),
   (hb3.block w.heap.size (by omega)).trans X2.out,(hb3.block (w.heap.size+1) (by omega)).trans X3.out,ha,toks s 0,Met.zero,(toks s 0).length,yK,yK,yK,[],ql _,ql _,⟨0,by omega,rfl⟩,hz0,hR0,hrs⟩
  have HJ0:=qh J0;clear J0 hrs hz0 hR0 hb3 hh r3 hg3;go_wp2_with fail;go_step3
  apply_assumption
  exact Hq0.out _ _ _ (HJ0.out _ (Fr.of rfl rfl rfl rfl rfl rfl))
theorem zkR (s:ByteArray) (w:World) (hv:Vars w) (zrl:s.size<=4611686018427387904):
  Calls Tryz.prog 115 #[.string s] w (Zb s w):=by
 by_cases h:65536<s.size
 ·exact zjR s w zrl h
 ·exact ziM s w hv (by omega)
end Go.Proofs.YtgklikkddckgbaaGreatDoor
namespace Go.Proofs.YtgklikkddckgbaaGreatDoor.Mo
open Go.RowKit
theorem Jc {W:World} {B C e z n:Nat} {v:Value} {c:List Value} (h:W.ownsRow B e z v n c) (hC:C<=B):W.ownsRow C e z v n c:=by
 refine⟨h.1,h.2.imp id ?_⟩;rintro⟨g,cap,cur,h1,h2,h3⟩;exact⟨g,cap,cur,h1,qm hC h2,h3⟩
def pc (w:World) (L T:List Nat):Prop:=∀k∈L,∃cs e fz,w.heap[k]?=some (.cells cs e fz)/\e∈T
theorem Off.pp {L T:List Nat} {w w':World} (h:Off L w w') {B e z n:Nat} {v:Value} {xs:List Value} (ho:w.ownsRow B e z v n xs) (ht:pc w L T) (he:e∉T):w'.ownsRow B e z v n xs:=
 h.own ho λk hk hm=>by
  obtain⟨cs,e',fz,hb,hT⟩:=ht k hm;rcases pI ho hb (λee=>he (by rw[ee];exact hT)) with h0|h0
  ·rw[h0] at hk;cases hk
  ·exact h0 hk
theorem zea {w:World} {B e z n:Nat} {v:Value} {xs:List Value} (h:w.ownsRow B e z v n xs):pc w v.ownBlock.toList [e]:=λk hk=>by
 rw[zE] at hk;obtain⟨c,fz,h1⟩:=xi h k hk;exact⟨c,e,fz,h1,by simp⟩
theorem pc.cons {w:World} {L T:List Nat} {k e:Nat} {cs:Array Value} {fz:Nat×Nat} (h:pc w L T) (hk:w.heap[k]?=some (.cells cs e fz)):pc w (k::L) (e::T):=λq hq=>by
 rcases zi.1 hq with rfl|hq
 ·exact⟨cs,e,fz,hk,by simp⟩
 ·obtain⟨a,b,c,h1,h2⟩:=h q hq;exact⟨a,b,c,h1,zN _ h2⟩
theorem pc.one {w:World} {k e:Nat} {cs:Array Value} {fz:Nat×Nat} (hk:w.heap[k]?=some (.cells cs e fz)):pc w [k] [e]:=pc.cons (λ_ hq=>by cases hq) hk
theorem pc.nil {w:World} {T:List Nat}:pc w [] T:=λ_ hq=>by cases hq
def vS:List (Value×Value×Value)->List Value
 |[]=>[]
 |c::t=>c.1::c.2.1::c.2.2::vS t
theorem zeH:∀(l:List (Value×Value×Value)) (c:Value×Value×Value),vS (l++[c])=vS l++[c.1,c.2.1,c.2.2]
 |[],c=>rfl
 |x::l,c=>by simp[vS,zeH l c]
def yO:Met:=⟨[],[],[]⟩
structure Zy (w:World) (B:Nat) (v:Value) (ms:List Met) (cs:List (Value×Value×Value)):Prop where
 n:cs.length=ms.length
 o:w.ownsRow B 79 3 v ms.length (vS cs)
 m:∀k,k<ms.length->pl (ms.getD k yO)/\∃vs,OM w B (ms.getD k yO) (cs.getD k default).1 (cs.getD k default).2.1 (cs.getD k default).2.2 vs
theorem OM.J4 {w w':World} {B:Nat} {m:Met} {vf ve vb:Value} {vs:List Value} {L T:List Nat} (h:OM w B m vf ve vb vs) (ho:Off L w w') (ht:pc w L T) (h1:81∉T) (h2:83∉T) (h3:85∉T):OM w' B m vf ve vb vs:=
 ⟨h.vl,ho.pp h.gO ht h1,λk hk=>ho.pp (h.gR k hk) ht h2,ho.pp h.ends ht h2,ho.pp h.gS ht h3,h.apart⟩
theorem OM.mono {w:World} {B C:Nat} {m:Met} {vf ve vb:Value} {vs:List Value} (h:OM w B m vf ve vb vs) (hC:C<=B):OM w C m vf ve vb vs:=
 ⟨h.vl,Jc h.gO hC,λk hk=>Jc (h.gR k hk) hC,Jc h.ends hC,Jc h.gS hC,h.apart⟩
theorem Zy.off {w w':World} {B:Nat} {v:Value} {ms:List Met} {cs:List (Value×Value×Value)} {L T:List Nat} (h:Zy w B v ms cs) (ho:Off L w w') (ht:pc w L T) (h0:79∉T) (h1:81∉T) (h2:83∉T) (h3:85∉T):Zy w' B v ms cs:=
 ⟨h.n,ho.pp h.o ht h0,λk hk=>by
  obtain⟨a,vs,b⟩:=h.m k hk;exact⟨a,vs,OM.J4 b ho ht h1 h2 h3⟩⟩
def uX (gN:List UInt8):List It->List Value->List Value
 |x::xs,v::vs=>(Qs gN x.cls x.ref x.gP x.at_ v).toList++uX gN xs vs
 |_,_=>[]
theorem zih (gN:List UInt8):∀(l:List It) (vs:List Value),vs.length=l.length->(uX gN l vs).length=l.length*13
 |[],vs,h=>by simp[uX]
 |x::xs,[],h=>by simp at h
 |x::xs,v::vs,h=>by
  have:=zih gN xs vs (by simpa using h);simp only[uX,qv,this,qB];have:(Qs gN x.cls x.ref x.gP x.at_ v).toList.length=13:=rfl;omega
theorem zgM (gN:List UInt8):∀(l:List It) (vs:List Value) (x:It) (v:Value),vs.length=l.length->uX gN (l++[x]) (vs++[v])=uX gN l vs++(Qs gN x.cls x.ref x.gP x.at_ v).toList
 |[],[],x,v,_=>by simp[uX]
 |[],_::_,_,_,h=>by simp at h
 |_::_,[],_,_,h=>by simp at h
 |q::rs,u::vs,r,v,h=>by
  have ih:=zgM gN rs vs r v (by simpa using h);simp only[kh,uX,ih,qP]
def px:It:=⟨0,0,[],0⟩
theorem zii (gN:List UInt8):∀(l:List It) (vs:List Value) (k o:Nat),vs.length=l.length->k<l.length->o<13->(uX gN l vs)[k*13+o]?=(Qs gN (l.getD k px).cls (l.getD k px).ref (l.getD k px).gP (l.getD k px).at_ (vs.getD k .nilFunc))[o]?
 |[],vs,k,o,_,hk,_=>by simp at hk
 |x::xs,[],k,o,h,_,_=>by simp at h
 |x::xs,v::vs,0,o,h,_,ho=>by
  have:(Qs gN x.cls x.ref x.gP x.at_ v).toList.length=13:=rfl;simp only[uX,Nat.zero_mul,kY,List.getD_cons_zero];rw[qQ (by omega)];simp
 |x::xs,v::vs,k+1,o,h,hk,ho=>by
  have ih:=zii gN xs vs k o (by simpa using h) (by simpa using hk) ho;have e1:(k+1)*13+o=13+(k*13+o):=by omega
  have e2:(Qs gN x.cls x.ref x.gP x.at_ v).toList.length=13:=rfl;simp only[uX,List.getD_cons_succ];rw[e1,zD (by omega),e2,show 13+(k*13+o)-13=k*13+o by omega];exact ih
structure QB (w:World) (B:Nat) (gN:List UInt8) (v:Value) (l:List It) (pD:List Value):Prop where
 n:pD.length=l.length
 o:w.ownsRow B 108 13 v l.length (uX gN l pD)
 h:∀k,k<l.length->w.ownsRow B 3 1 (pD.getD k .nilFunc) (pA (l.getD k px).gP).length (vY (pA (l.getD k px).gP))
theorem QB.off {w w':World} {B:Nat} {gN:List UInt8} {v:Value} {l:List It} {pD:List Value} {L T:List Nat} (h:QB w B gN v l pD) (ho:Off L w w') (ht:pc w L T) (h1:108∉T) (h2:3∉T):QB w' B gN v l pD:=
 ⟨h.n,ho.pp h.o ht h1,λk hk=>ho.pp (h.h k hk) ht h2⟩
theorem QB.mono {w:World} {B C:Nat} {gN:List UInt8} {v:Value} {l:List It} {pD:List Value} (h:QB w B gN v l pD) (hC:C<=B):QB w C gN v l pD:=⟨h.n,Jc h.o hC,λk hk=>Jc (h.h k hk) hC⟩
theorem RwM.off {w w':World} {B:Nat} {vs:Value} {rows:List Rw} {vis:List Value} {L T:List Nat} (h:RwM w B vs rows vis) (ho:Off L w w') (ht:pc w L T) (h1:106∉T):RwM w' B vs rows vis:=⟨h.n,ho.pp h.o ht h1,h.it⟩
structure uy (x:It):Prop where
 mks:∀m∈x.gP,uw m
 cl:-1<=x.cls/\x.cls<=24
 rf:0<=x.ref/\x.ref<=9
 one:∀c:Int,c≠126->pO x.gP c<=1
 four:pO x.gP 126<=4
structure pq (f:Fm) (i:Nat):Prop where
 le:vQ f.rows+f.rows.length<=i
 l0:0<=f.least/\f.least<=512
 m0:0<=f.most/\f.most<=512
 s0:0<=f.shift/\f.shift<=512
 lm:f.least<=f.most
 ll:f.gN.length=f.gQ.length/\f.gN.length<=i
 it:∀r∈f.rows,∀x∈r.items,uy x
 nd:f.gN.Nodup
 lt:∀c∈f.gN,97<=c.toNat/\c.toNat<=122
def fmC (f:Fm) (vl vm vs:Value):Array Value:=#[.string ⟨f.name.toArray⟩,vl,vm,vs,.bool f.rounds,.int .i64 f.least,.int .i64 f.most,.int .i64 f.shift]
structure pL (w:World) (B fb:Nat) (f:Fm) (vl vm vs:Value):Prop where
 x:w.heap[fb]?=some (.cells (fmC f vl vm vs) 92 (0,0))
 hB:B<=fb
 l:w.ownsRow B 5 1 vl f.gN.length (Z6 f.gN)
 m:∃cs,Zy w B vm f.gQ cs
 r:∃vis,RwM w B vs f.rows vis/\∀k,k<f.rows.length->∃pD,QB w B f.gN (vis.getD k .nilFunc) (f.rows.getD k ⟨false,[]⟩).items pD
theorem pL.lt {w:World} {B fb:Nat} {f:Fm} {vl vm vs:Value} (h:pL w B fb f vl vm vs):fb<w.heap.size:=(qg h.x).1
theorem pL.off {w w':World} {B fb:Nat} {f:Fm} {vl vm vs:Value} {L:List Nat} (h:pL w B fb f vl vm vs) (ho:Off L w w') (ht:pc w L [137]):pL w' B fb f vl vm vs:=by
 have Qg:fb∉L:=λhm=>by
  obtain⟨cs,e,fz,hb,hT⟩:=ht fb hm;rw[h.x] at hb;simp at hb hT;have h1:=hb.2.1;rw[hT] at h1;exact absurd h1 (by decide)
 obtain⟨cs,hm⟩:=h.m;obtain⟨vis,hr,hi⟩:=h.r;exact⟨(ho.block _ h.lt Qg).trans h.x,h.hB,ho.pp h.l ht (by decide),⟨cs,hm.off ho ht (by decide) (by decide) (by decide) (by decide)⟩,⟨vis,hr.off ho ht (by decide),λk hk=>by
  obtain⟨pD,h2⟩:=hi k hk;exact⟨pD,h2.off ho ht (by decide) (by decide)⟩⟩⟩
theorem pL.below {w w':World} {B fb:Nat} {f:Fm} {vl vm vs:Value} (h:pL w B fb f vl vm vs) (hb:Below w.heap.size w w'):pL w' B fb f vl vm vs:=h.off (Off.of_below hb (ql _) []) pc.nil
theorem pL.pz {w w':World} {B fb rb:Nat} {f:Fm} {vl vm vs:Value} {s:ByteArray} {i:Nat} (h:pL w B fb f vl vm vs) (hr:Rd w rb fb s i) (ho:Off [rb] w w'):pL w' B fb f vl vm vs:=h.off ho (pc.one hr.r)
theorem pL.ne {w:World} {B fb rb:Nat} {f:Fm} {vl vm vs:Value} {s:ByteArray} {i:Nat} (h:pL w B fb f vl vm vs) (hr:Rd w rb fb s i):fb≠rb:=λe=>by
 have h1:=h.x;have h2:=hr.r;rw[e,h2] at h1;simp at h1
theorem pL.letM {w:World} {B fb:Nat} {f:Fm} {vl vm vs:Value} (h:pL w B fb f vl vm vs):YK w B fb f.gN vl:=⟨qc _ _ 1 _ _ (0,0) h.x,h.l⟩
theorem pL.vln {w:World} {B fb rb:Nat} {f:Fm} {vl vm vs:Value} {s:ByteArray} {i:Nat} (h:pL w B fb f vl vm vs) (hr:Rd w rb fb s i):∀k,vl.ownBlock=some k->k≠rb/\k<w.heap.size:=λk hk=>by
 refine⟨λe=>?_,(h.l.lt k hk).2⟩;subst e;rcases pI h.l hr.r (by decide) with h0|h0
 ·rw[h0] at hk;cases hk
 ·exact h0 hk
theorem pL.cells {w:World} {B fb:Nat} {f:Fm} {vl vm vs:Value} (h:pL w B fb f vl vm vs):
  w.cell? ⟨fb,0,none⟩=some (.string ⟨f.name.toArray⟩)/\w.cell? ⟨fb,1,none⟩=some vl/\w.cell? ⟨fb,2,none⟩=some vm/\w.cell? ⟨fb,3,none⟩=some vs/\w.cell? ⟨fb,4,none⟩=some (.bool f.rounds)/\
  w.cell? ⟨fb,5,none⟩=some (.int .i64 f.least)/\w.cell? ⟨fb,6,none⟩=some (.int .i64 f.most)/\w.cell? ⟨fb,7,none⟩=some (.int .i64 f.shift):=
 ⟨qc _ _ 0 _ _ (0,0) h.x,qc _ _ 1 _ _ (0,0) h.x,qc _ _ 2 _ _ (0,0) h.x,qc _ _ 3 _ _ (0,0) h.x,qc _ _ 4 _ _ (0,0) h.x,qc _ _ 5 _ _ (0,0) h.x,qc _ _ 6 _ _ (0,0) h.x,qc _ _ 7 _ _ (0,0) h.x⟩
theorem pL.z {w:World} {B fb:Nat} {f:Fm} {vl vm vs:Value} (h:pL w B fb f vl vm vs) (o:Nat):w.frozen? ⟨fb,o,none⟩=false:=qf _ _ o _ _ h.x
theorem pL.Ya {w:World} {B fb:Nat} {f:Fm} {vl vm vs:Value} {i:Nat} (h:pL w B fb f vl vm vs) (hk:pq f i) (hi:i<=65536) (n:Int) (h0:0<=n) (h1:n<=512):
  Calls Tryz.prog 36 #[.pointer (some ⟨fb,0,none⟩),.int .i64 n] w λe w'=>e=.returned (.int .i64 (ZF f.rows n))/\Below w.heap.size w w':=by
 obtain⟨vis,hr,_⟩:=h.r;have:=hk.le;exact zjy B fb vs f.rows vis n w (qc _ _ 3 _ _ (0,0) h.x) hr h0 h1 (by omega) (by omega) h.lt
theorem zij {f:Fm} {i:Nat} (hk:pq f i) (hi:i<=65536) {n:Int} (h0:0<=n) (h1:n<=512):0<=ZF f.rows n/\ZF f.rows n<=33554432:=by
 have:=zhp f.rows n h0 h1 f.rows.length (ql _);rw[qU] at this;have:=hk.le;omega
theorem zjS (c:UInt8):yP c<=24:=by
 unfold yP;by_cases h:0<=Lib.indexByte JM c
 ·obtain⟨o,ho⟩:∃o:Nat,Lib.indexByte JM c=o:=⟨(Lib.indexByte JM c).toNat,by omega⟩;have h1:=(xK ho).1;have h2:=(zx.1 h1).1;have h3:JM.length=25:=rfl;omega
 ·omega
theorem zgN {s:ByteArray} {i j:Nat} {cls ref:Int} (h:QH s i=.ok (cls,ref,j)):i<j/\-1<=cls/\cls<=24/\0<=ref/\ref<=9:=by
 unfold QH at h;split at h
 ·cases h;omega
 ·split at h
  ·cases h
  ·split at h
   ·cases h;have:=zjS (gZ s i);omega
   ·split at h
    ·cases h
    ·rename_i h1 h2 h3 h4;split at h
     ·cases h
     ·rename_i h5;cases h;have h6:pY s (i+1) 49 57=true:=(by simpa using h5);have h7:=zb7 h6;rw[Vp h7] at h6;simp only[qA,qC] at h6;rw[Z3 h7];have h8:¬yP (gZ s i|||32)<0:=λe=>h4 (.inr e);have h9:=zjS (gZ s i|||32);omega
theorem zgO {s:ByteArray} {gN:List UInt8}:∀(f:Nat) (ms:List Mk) (i:Nat) {ms':List Mk} {k:Nat},QV s gN f ms i=.ok (ms',k)->i<=k
 |0,ms,i,ms',k,h=>by unfold QV at h;cases h;exact ql _
 |f+1,ms,i,ms',k,h=>by
  unfold QV at h;split at h
  ·rename_i hc;cases hm:QY s gN ms i with
   |error e=>rw[hm] at h;cases h
   |ok mj=>
    obtain⟨m,j⟩:=mj;rw[hm] at h;have:=zgO f _ j h;obtain⟨h1,h2,h3⟩:=zcW hc.1 hc.2 hm;have:=(zdz h2).1;omega
  ·cases h;exact ql _
theorem zeI {s:ByteArray} {gN:List UInt8}:∀(f:Nat) (ms:List Mk) (i:Nat) {ms':List Mk} {k:Nat},QV s gN f ms i=.ok (ms',k)->(∀c:Int,c≠126->pO ms c<=1)/\pO ms 126<=4->(∀c:Int,c≠126->pO ms' c<=1)/\pO ms' 126<=4
 |0,ms,i,ms',k,h,hh=>by unfold QV at h;cases h;exact hh
 |f+1,ms,i,ms',k,h,hh=>by
  unfold QV at h;split at h
  ·rename_i hc;cases hm:QY s gN ms i with
   |error e=>rw[hm] at h;cases h
   |ok mj=>
    obtain⟨m,j⟩:=mj;rw[hm] at h;refine zeI f _ j h ⟨λc hc2=>?_,?_⟩
    ·have h1:=hh.1 c hc2;rw[zdA];by_cases e:m.sign=c
     ·obtain⟨f1,f2⟩:=zdP hm;have hb:pg s i 126=false:=by
       rw[QX hc.1,<-Z3 hc.1];have:¬((gZ s i).toNat:Int)=126:=(by rw[<-f1,e];exact hc2);simpa using this
      have:=f2 hb;rw[e] at this;rw[qy e];omega
     ·rw[qx e];omega
    ·rw[zdA];by_cases e:m.sign=126
     ·rw[qy e];obtain⟨f1,_⟩:=zdP hm;rw[e] at f1;have hb:pg s i 126=true:=by
       rw[QX hc.1,<-Z3 hc.1,<-f1];rfl
      unfold QY at hm;rw[hb,<-f1] at hm;by_cases h4:4<=pO ms 126
      ·rw[qy (by simpa using h4)] at hm;cases hm
      ·omega
     ·rw[qx e];have:=hh.2;omega
  ·cases h;exact hh
theorem zdD {s:ByteArray} {gN:List UInt8} {line:Int} {i k:Nat} {x:It} (h:Kj s gN line i=.ok (x,k)):i<k:=by
 unfold Kj at h;cases hr:QH s i with
 |error e=>rw[hr] at h;cases h
 |ok c=>
  obtain⟨cls,ref,j⟩:=c;rw[hr] at h;simp only[] at h;cases hm:QV s gN (s.size+1) [] j with
  |error e=>rw[hm] at h;cases h
  |ok mk=>
   obtain⟨ms,q⟩:=mk;rw[hm] at h;simp only[] at h;have h1:=zgO _ _ _ hm;have h2:=(zgN hr).1;split at h
   ·cases h
   ·split at h
    ·cases h
    ·cases h;omega
theorem zen {s:ByteArray} {gN:List UInt8} {line:Int} {i k:Nat} {x:It} (h:Kj s gN line i=.ok (x,k)) (hmk:∀m∈x.gP,uw m):uy x:=by
 unfold Kj at h;cases hr:QH s i with
 |error e=>rw[hr] at h;cases h
 |ok c=>
  obtain⟨cls,ref,j⟩:=c;rw[hr] at h;simp only[] at h;cases hm:QV s gN (s.size+1) [] j with
  |error e=>rw[hm] at h;cases h
  |ok mk=>
   obtain⟨ms,q⟩:=mk;rw[hm] at h;simp only[] at h;have h1:=zeI _ _ _ hm ⟨λc _=>by simp[pO],by simp[pO]⟩;have h2:=zgN hr;split at h
   ·cases h
   ·split at h
    ·cases h
    ·cases h;exact⟨hmk,⟨h2.2.1,h2.2.2.1⟩,h2.2.2.2,h1.1,h1.2⟩
theorem zeJ {α:Type} {p:α->Bool} {d:α}:∀{l:List α} {k:Nat},k<l.length->(∀x∈l.take k,p x=false)->p (l.getD k d)=true->l.find? p=some (l.getD k d)
 |[],k,hk,_,_=>by simp at hk
 |x::l,0,_,_,h=>by
  rw[zZ];have h2:p x=true:=h;rw[h2];rfl
 |x::l,k+1,hk,ha,h=>by
  rw[zZ,ha x (by simp)];exact zeJ (by simpa using hk) (λy hy=>ha y (by simp[hy])) h
theorem zeo {α:Type} {p:α->Bool} {l:List α} (h:∀x∈l,p x=false):l.find? p=none:=by
 rw[kW];intro x hx;rw[h x hx];simp
def J5 (f:Fm) (round:Bool) (x:It):Bool:=decide (0<=x.cls)&&decide (25<=x.cls+VG f round)&&!(round&&f.most==0)
def zbk (f:Fm) (round:Bool) (start:Nat) (r:Except (Int×Nat) (List It×Nat)):Except (Int×Nat) (Fm×Nat):=match r with
 |.error e=>.error e
 |.ok (l,j)=>
  if 512<ZF (f.rows++[⟨round,l⟩]) f.most then .error (3,start)
  else match l.find? (J5 f round) with
   |some x=>.error (5,x.at_)
   |none=>.ok ({f with rows:=f.rows++[⟨round,l⟩]},j)
theorem zd5 {s:ByteArray} {f:Fm} {round:Bool} {start i:Nat} (h:pg s i 32=true):Kd s f round start i=zbk f round start (Ka s f round (s.size+1) [] i):=by
 unfold Kd zbk J5;rw[qx (by rw[h];simp)];rfl
end Go.Proofs.YtgklikkddckgbaaGreatDoor.Mo

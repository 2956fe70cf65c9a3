import Derived.Test.YtgklikkddckgbaaGreatDoorJDN
/- Lemmas. -/
set_option linter.all false
set_option maxRecDepth 100000
set_option maxHeartbeats 4000000
namespace Go.Proofs.YtgklikkddckgbaaGreatDoor.Mo
open Go.RowKit
structure Dm where
  Q6:Int
  cls:Int
  ref:Int
  met:Int
  syl:Int
  same:Int
  ends:Int
  has:List Int
  beg:Int
def vL (line n:Int):Int:=if n=0 then-1 else line-n
def vC (Qo:List UInt8) (x:It) (line Q6 up:Int):Dm:=
  ⟨Q6,if 0<=x.cls then x.cls+up else x.cls,x.ref,Zo Qo x.Qq,Qy x.Qq 47,vL line (Qy x.Qq 94),vL line (Qy x.Qq 64),(QH x.Qq).map (line-·),Qy x.Qq 39⟩
def Jl (d:Dm) (vh:Value):Array Value:=#[.int .i64 d.Q6,.int .i64 d.cls,.int .i64 d.ref,.int .i64 d.met,.int .i64 d.syl,.int .i64 d.same,.int .i64 d.ends,vh,.int .i32 d.beg]
theorem zpx (line n:Int) (w:World) (h1:0<=line/\line<=1099511627776) (h2:0<=n/\n<=1099511627776):
    Calls Tryz.prog 61 #[.int .i64 line,.int .i64 n] w λe w'=>e=.returned (.int .i64 (vL line n))/\w'=w:=by
  have hw1:IntKind.i64.wrap (line-n)=line-n:=qi _ (by omega);go_enter Tryz.func61,Tryz.ntmps61;by_cases h0:n=0
  · have d0:(n==0)=true:=by simpa using h0
    have e0:vL line n= -1:=qq h0;rw[e0];go_wp2_with fail;go_ret;exact⟨rfl,rfl⟩
  · have d0:(n==0)=false:=by simpa using h0
    have e0:vL line n=line-n:=qp h0;rw[e0];go_wp2_with fail;go_ret;exact⟨rfl,rfl⟩
theorem zqh {ms:List Mk} (hk:∀m∈ms,uM m) (c:Int):0<=Qy ms c/\Qy ms c<=512:=by
  unfold Qy;cases h:ms.find? (λm=>m.sign==c) with
  |none=>exact⟨xV _,by decide⟩
  |some x=>
   have hm:=hk x (zi h);by_cases h1:x.sign=58∨x.sign=39
   · have:=hm.lt h1;exact⟨by show 0<=x.n;omega,by show x.n<=512;omega⟩
   · have:=hm.nm (λe=>h1 (.inl e)) (λe=>h1 (.inr e));exact⟨by show 0<=x.n;omega,by show x.n<=512;omega⟩
theorem zty {ms:List Mk} (hk:∀m∈ms,uM m):∀n∈QH ms,1<=n/\n<=512:=by
  intro n hn;obtain⟨m,hm,rfl⟩:=zV.1 hn;obtain⟨h1,h2⟩:=kQ.1 hm;have e:m.sign=126:=by simpa using h2
  exact(hk m h1).nm (by omega) (by omega)
theorem pv {P:Program} {o:Oper} {a:Act} {w:World} {f:FuncId} {args:Array Value} {K:Act->World->Prop} {Q:Exit->Act->World->Prop} (h:(execOp a.eval o).run P w=.ok (.enter f args) w)
    (hc:Calls P f args w λe w'=>∃v,e=.returned v/\K (a.put o.dst v) w'):o.wp P a w K Q:=by
  unfold Oper.wp;rw[h];refine Calls.mono hc ?_;rintro e w' ⟨v,rfl,hk⟩;exact hk
theorem uI {P:Program} {Q:Exit->Act->World->Prop} {o:Oper} {a:Act} {w w':World} {v:Value} {K:Act->World->Prop} (h:(execOp a.eval o).run P w=.ok (.value v) w') (hk:K (a.put o.dst v) w'):o.wp P a w K Q:=by
  unfold Oper.wp;rw[h];exact hk
theorem zmP {P:Program} {Q:Exit->Act->World->Prop} {o:Oper} {a:Act} {w w':World} {K:Act->World->Prop} (h:(execOp a.eval o).run P w=.ok .skip w') (hk:K (a.put o.dst undef) w'):o.wp P a w K Q:=by
  unfold Oper.wp;rw[h];exact hk
theorem pj {P:Program} {ops:Array Oper} {Q:Exit->Act->World->Prop} {md:Region.Mode} {S:World->Prop} {X:Nat->Bool} {i j:Nat} {fuel:Nat} {listed:Array Bool} {a:Act} {w:World} (hr:Region.ready md ops listed=[i,j])
    (h1:wpOp P ops Q i (λa' w'=>(X i=true∨S w')/\VJ P md ops Q S X fuel (listed.setIfInBounds i true) a' w') a w)
    (h2:wpOp P ops Q j (λa' w'=>(X j=true∨S w')/\VJ P md ops Q S X fuel (listed.setIfInBounds j true) a' w') a w):VJ P md ops Q S X (fuel+1) listed a w:=
  ⟨(λh0=>absurd (hr▸h0) (by simp)),λk hk=>by
    rw[hr] at hk;have hk2:k=i∨k=j:=(by simpa using hk);rcases hk2 with rfl|rfl
    · exact h1
    · exact h2⟩
def dm0 (Qo:List UInt8) (x:It) (line Q6 up:Int):Dm:=
  ⟨Q6,x.cls,x.ref,Zo Qo x.Qq,Qy x.Qq 47,vL line (Qy x.Qq 94),vL line (Qy x.Qq 64),(QH x.Qq).map (line-·),Qy x.Qq 39⟩
def zD:Array Value:=#[.int .i64 0,.int .i64 0,.int .i64 0,.int .i64 0,.int .i64 0,.int .i64 0,.int .i64 0,.slice none 0 0,.int .i32 0]
structure DL (w:World) (pb xb:Nat) (Qo:List UInt8) (x:It) (vx:Value) (dd:Dm) (k:Nat) (v:Value) (wr:World):Prop where
  bl:Below w.heap.size w wr
  hx:w.heap.size<=xb
  lt:xb+1<pb
  d:wr.heap[pb]?=some (.cells (Jl dd v) 45 (0,0))
  z:wr.heap[xb+1]?=some (.cells zD 45 (0,0))
  x:wr.heap[xb]?=some (.cells (ZE Qo x.cls x.ref x.Qq x.at_ vx) 108 (0,0))
  o:wr.ownsRow w.heap.size 3 1 v k (ua (dd.has.take k))
theorem DL.cls {w wr:World} {pb xb:Nat} {Qo:List UInt8} {x:It} {vx v:Value} {dd d':Dm} {k:Nat} (h:DL w pb xb Qo x vx dd k v wr) (c:Int) (hd:d'={dd with cls:=c}):DL w pb xb Qo x vx d' k v (wr.setCell ⟨pb,1,none⟩ (.int .i64 c)):=by
  subst hd;have ho:Off [pb] wr (wr.setCell ⟨pb,1,none⟩ (.int .i64 c)):=Off.setCell wr pb 1 _;have h1:=h.lt;refine⟨h.bl.setCell (p:=⟨pb,1,none⟩) (by have:=h.hx;show w.heap.size<=pb;omega) _,h.hx,h.lt,qs wr pb 1 _ _ _ h.d,(qT _ _ _ _ (by show xb+1≠pb;omega)).trans h.z,(qT _ _ _ _ (by show xb≠pb;omega)).trans h.x,ho.own h.o (λj hj=>?_)⟩;intro hm;have e:j=pb:=by simpa using hm
  subst e;rcases Za h.o h.d (by decide) with h0|h0
  · rw[h0] at hj;cases hj
  · exact h0 hj
theorem DL.step {w wr:World} {pb xb:Nat} {Qo:List UInt8} {x:It} {vx v:Value} {line Q6 up:Int} {k:Nat} (h:DL w pb xb Qo x vx (vC Qo x line Q6 up) k v wr) {v5:Value} {w5:World} (hk:k<(QH x.Qq).length)
    (ho:w5.ownsRow w.heap.size 3 1 v5 (k+1) (ua ((vC Qo x line Q6 up).has.take k)++[.int .i64 (line-(QH x.Qq).getD k 0)])) (hg:wr.grownBy w5 v.ownBlock) (hl:v5.ownBlock=v.ownBlock∨∃b,v5.ownBlock=some b/\wr.heap.size<=b):
    w5.cell? ⟨pb,7,none⟩=some v/\w5.frozen? ⟨pb,7,none⟩=false/\Hid (DL w pb xb Qo x vx (vC Qo x line Q6 up) (k+1) v5 (w5.setCell ⟨pb,7,none⟩ v5)):=by
  have h1:=h.lt;have h2:=h.hx
  have keep:∀{b:Nat} {cs:Array Value} {t:Nat},wr.heap[b]?=some (.cells cs t (0,0))->3≠t->w5.heap[b]?=some (.cells cs t (0,0)):=λ{b cs t} hb ht=>by
    refine(hg.block b (qg hb).1 (λe=>?_)).trans hb;rcases Za h.o hb ht with h0|h0
    · rw[h0] at e;cases e
    · exact h0 e.symm
  have hd5:=keep h.d (by decide);have hos:Off [pb] w5 (w5.setCell ⟨pb,7,none⟩ v5):=Off.setCell w5 pb 7 _;refine⟨qc _ _ 7 _ _ (0,0) hd5,qf _ _ 7 _ _ hd5,qh ⟨(h.bl.grown hg h.bl.size (λb e=>(h.o.lt b e).1)).setCell (p:=⟨pb,7,none⟩) (by show w.heap.size<=pb;omega) _,h.hx,h.lt,qs w5 pb 7 _ _ v5 hd5,(qT _ _ _ _ (by show xb+1≠pb;omega)).trans (keep h.z (by decide)),(qT _ _ _ _ (by show xb≠pb;omega)).trans (keep h.x (by decide)),?_⟩⟩
  have e:ua ((vC Qo x line Q6 up).has.take (k+1))=ua ((vC Qo x line Q6 up).has.take k)++[.int .i64 (line-(QH x.Qq).getD k 0)]:=by
    have hk2:k<(vC Qo x line Q6 up).has.length:=(by unfold vC;simpa using hk);rw[qJ hk2];unfold ua vC;simp[qe,hk];exact List.getElem_map _
  rw[e];refine hos.own ho (λj hj=>?_);intro hm;have e2:j=pb:=by simpa using hm
  subst e2;rcases hl with e5|⟨b,e5,hb⟩
  · rw[e5] at hj
    rcases Za h.o h.d (by decide) with h0|h0
    · rw[h0] at hj;cases hj
    · exact h0 hj
  · rw[e5] at hj;cases hj
    have:=(qg h.d).1;omega
theorem sq {W:World} {P t k:Nat} {cs cs':Array Value} {v:Value} (h:W.heap[P]?=some (.cells cs t (0,0))) (e:cs.setIfInBounds k v=cs'):(W.setCell ⟨P,k,none⟩ v).heap[P]?=some (.cells cs' t (0,0)):=by rw[<-e];exact qs _ _ _ _ _ _ h
theorem zuQ {W:World} {P:Nat} {x0 x1 x2 x3 x4 x5 x6 x7 x8:Value} (h:W.heap[P]?=some (.cells #[x0,x1,x2,x3,x4,x5,x6,x7,x8] 45 (0,0))) (v0 v1 v2 v3 v4 v5 v6 v7 v8:Value):
    (((((((((W.setCell ⟨P,0,none⟩ v0).setCell ⟨P,1,none⟩ v1).setCell ⟨P,2,none⟩ v2).setCell ⟨P,3,none⟩ v3).setCell ⟨P,4,none⟩ v4).setCell ⟨P,5,none⟩ v5).setCell ⟨P,6,none⟩ v6).setCell ⟨P,7,none⟩ v7).setCell ⟨P,8,none⟩ v8).heap[P]?=some (.cells #[v0,v1,v2,v3,v4,v5,v6,v7,v8] 45 (0,0))/\Off [P] W (((((((((W.setCell ⟨P,0,none⟩ v0).setCell ⟨P,1,none⟩ v1).setCell ⟨P,2,none⟩ v2).setCell ⟨P,3,none⟩ v3).setCell ⟨P,4,none⟩ v4).setCell ⟨P,5,none⟩ v5).setCell ⟨P,6,none⟩ v6).setCell ⟨P,7,none⟩ v7).setCell ⟨P,8,none⟩ v8):=by
  exact⟨(sq (k:=8) (v:=v8) (cs':=#[v0,v1,v2,v3,v4,v5,v6,v7,v8]) (sq (k:=7) (v:=v7) (cs':=#[v0,v1,v2,v3,v4,v5,v6,v7,x8]) (sq (k:=6) (v:=v6) (cs':=#[v0,v1,v2,v3,v4,v5,v6,x7,x8]) (sq (k:=5) (v:=v5) (cs':=#[v0,v1,v2,v3,v4,v5,x6,x7,x8]) (sq (k:=4) (v:=v4) (cs':=#[v0,v1,v2,v3,v4,x5,x6,x7,x8]) (sq (k:=3) (v:=v3) (cs':=#[v0,v1,v2,v3,x4,x5,x6,x7,x8]) (sq (k:=2) (v:=v2) (cs':=#[v0,v1,v2,x3,x4,x5,x6,x7,x8]) (sq (k:=1) (v:=v1) (cs':=#[v0,v1,x2,x3,x4,x5,x6,x7,x8]) (sq (k:=0) (v:=v0) (cs':=#[v0,x1,x2,x3,x4,x5,x6,x7,x8]) h rfl) rfl) rfl) rfl) rfl) rfl) rfl) rfl) rfl),(((((((((Off.setCell W P 0 v0).trans (Off.setCell _ P 1 v1)).trans (Off.setCell _ P 2 v2)).trans (Off.setCell _ P 3 v3)).trans (Off.setCell _ P 4 v4)).trans (Off.setCell _ P 5 v5)).trans (Off.setCell _ P 6 v6)).trans (Off.setCell _ P 7 v7)).trans (Off.setCell _ P 8 v8))⟩
theorem ztz {W:World} {T:Array Value} {Q:Ending->World->Prop} {P:Nat} {v0 v1 v2 v3 v4 v5 v6 v7 v8:Value} (h8:T.getD 8 undef=.pointer (some ⟨P,0,none⟩)) (r:W.heap[P]?=some (.cells #[v0,v1,v2,v3,v4,v5,v6,v7,v8] 45 (0,0))) (hQ:Q (.returned (.agg #[v0,v1,v2,v3,v4,v5,v6,v7,v8])) W):
    bodyPost Tryz.prog Tryz.f39 Q Exit.ret {tmps:=T,defers:=[]} W:=by
  have d0:W.cell? ⟨P,0,none⟩=some v0:=qc _ _ _ _ _ (0,0) r;have d1:W.cell? ⟨P,1,none⟩=some v1:=qc _ _ _ _ _ (0,0) r;have d2:W.cell? ⟨P,2,none⟩=some v2:=qc _ _ _ _ _ (0,0) r;have d3:W.cell? ⟨P,3,none⟩=some v3:=qc _ _ _ _ _ (0,0) r;have d4:W.cell? ⟨P,4,none⟩=some v4:=qc _ _ _ _ _ (0,0) r;have d5:W.cell? ⟨P,5,none⟩=some v5:=qc _ _ _ _ _ (0,0) r;have d6:W.cell? ⟨P,6,none⟩=some v6:=qc _ _ _ _ _ (0,0) r;have d7:W.cell? ⟨P,7,none⟩=some v7:=qc _ _ _ _ _ (0,0) r;have d8:W.cell? ⟨P,8,none⟩=some v8:=qc _ _ _ _ _ (0,0) r;have h8':T[8]?.getD undef=.pointer (some ⟨P,0,none⟩):=by simpa using h8
  refine zH (v:=.agg #[v0,v1,v2,v3,v4,v5,v6,v7,v8]) ?_ rfl hQ;simp[results,Tryz.f39,go_sem,h8',d0,d1,d2,d3,d4,d5,d6,d7,d8,Tryz.isAgg45,Tryz.sizeOf45]
def DmOk (d:Dm) (w:World) (e:Ending) (w':World):Prop:=Below w.heap.size w w'/\∃vh,e=.returned (.agg (Jl d vh))/\w'.ownsRow w.heap.size 3 1 vh d.has.length (ua d.has)
theorem zo2 (Qo:List UInt8) (x:It) (vx:Value) (line Q6 up:Int) (w:World) (B:Nat) (hx:gj x) (hh:w.ownsRow B 3 1 vx (QH x.Qq).length (ua (QH x.Qq)))
    (h1:0<=line/\line<=1099511627776) (h2:0<=Q6/\Q6<=1099511627776) (h3:0<=up/\up<=1099511627776):
    Calls Tryz.prog 39 #[.agg (ZE Qo x.cls x.ref x.Qq x.at_ vx),.int .i64 line,.int .i64 Q6,.int .i64 up] w (DmOk (vC Qo x line Q6 up) w):=by
  obtain⟨Ah,ch,hvx⟩:=Zn hh;subst hvx;have Hx:=qh hx;have Hh:=qh hh;have n94:=zqh hx.mks 94;have n64:=zqh hx.mks 64;have hcl:=hx.cl;have Hb1:=qh λW=>zpx line (Qy x.Qq 94) W (by omega) (by omega);have Hb2:=qh λW=>zpx line (Qy x.Qq 64) W (by omega) (by omega);unfold ZE;clear hx hh;go_enter Tryz.func39,Tryz.ntmps39;go_wp2_with fail;have hxX:((w.alloc (.cells #[.int .i64 x.cls,.int .i64 x.ref,.int .i64 (Zo Qo x.Qq),.int .u8 (Qy x.Qq 58),.int .i64 (Qy x.Qq 47),.int .i64 (Qy x.Qq 94),.int .i64 (Qy x.Qq 64),.slice Ah (QH x.Qq).length ch,.int .i32 (Qy x.Qq 39),.int .i64 x.at_,.int .i64 (Zt x.Qq),.bool (QU x.Qq 58),.bool (QU x.Qq 47)] 108)).alloc (.cells #[.int .i64 0,.int .i64 0,.int .i64 0,.int .i64 0,.int .i64 0,.int .i64 0,.int .i64 0,.slice none 0 0,.int .i32 0] 45)).heap[w.heap.size]?=some (.cells #[.int .i64 x.cls,.int .i64 x.ref,.int .i64 (Zo Qo x.Qq),.int .u8 (Qy x.Qq 58),.int .i64 (Qy x.Qq 47),.int .i64 (Qy x.Qq 94),.int .i64 (Qy x.Qq 64),.slice Ah (QH x.Qq).length ch,.int .i32 (Qy x.Qq 39),.int .i64 x.at_,.int .i64 (Zt x.Qq),.bool (QU x.Qq 58),.bool (QU x.Qq 47)] 108 (0,0)):=(qa _ _ _ (by simp)).trans (qn w _);have hbX:=((qb w.heap.size w).alloc (ql _) (.cells #[.int .i64 x.cls,.int .i64 x.ref,.int .i64 (Zo Qo x.Qq),.int .u8 (Qy x.Qq 58),.int .i64 (Qy x.Qq 47),.int .i64 (Qy x.Qq 94),.int .i64 (Qy x.Qq 64),.slice Ah (QH x.Qq).length ch,.int .i32 (Qy x.Qq 39),.int .i64 x.at_,.int .i64 (Zt x.Qq),.bool (QU x.Qq 58),.bool (QU x.Qq 47)] 108)).alloc (by simp) (.cells #[.int .i64 0,.int .i64 0,.int .i64 0,.int .i64 0,.int .i64 0,.int .i64 0,.int .i64 0,.slice none 0 0,.int .i32 0] 45);have hpX:=qn (w.alloc (.cells #[.int .i64 x.cls,.int .i64 x.ref,.int .i64 (Zo Qo x.Qq),.int .u8 (Qy x.Qq 58),.int .i64 (Qy x.Qq 47),.int .i64 (Qy x.Qq 94),.int .i64 (Qy x.Qq 64),.slice Ah (QH x.Qq).length ch,.int .i32 (Qy x.Qq 39),.int .i64 x.at_,.int .i64 (Zt x.Qq),.bool (QU x.Qq 58),.bool (QU x.Qq 47)] 108)) (.cells #[.int .i64 0,.int .i64 0,.int .i64 0,.int .i64 0,.int .i64 0,.int .i64 0,.int .i64 0,.slice none 0 0,.int .i32 0] 45);have hsz:(w.alloc (.cells #[.int .i64 x.cls,.int .i64 x.ref,.int .i64 (Zo Qo x.Qq),.int .u8 (Qy x.Qq 58),.int .i64 (Qy x.Qq 47),.int .i64 (Qy x.Qq 94),.int .i64 (Qy x.Qq 64),.slice Ah (QH x.Qq).length ch,.int .i32 (Qy x.Qq 39),.int .i64 x.at_,.int .i64 (Zt x.Qq),.bool (QU x.Qq 58),.bool (QU x.Qq 47)] 108)).heap.size=w.heap.size+1:=by simp
  rw[hsz] at hpX;generalize ((w.alloc (.cells #[.int .i64 x.cls,.int .i64 x.ref,.int .i64 (Zo Qo x.Qq),.int .u8 (Qy x.Qq 58),.int .i64 (Qy x.Qq 47),.int .i64 (Qy x.Qq 94),.int .i64 (Qy x.Qq 64),.slice Ah (QH x.Qq).length ch,.int .i32 (Qy x.Qq 39),.int .i64 x.at_,.int .i64 (Zt x.Qq),.bool (QU x.Qq 58),.bool (QU x.Qq 47)] 108)).alloc (.cells #[.int .i64 0,.int .i64 0,.int .i64 0,.int .i64 0,.int .i64 0,.int .i64 0,.int .i64 0,.slice none 0 0,.int .i32 0] 45))=W at hxX hbX hpX|-;obtain⟨xb,hxb⟩:∃b:Nat,w.heap.size=b:=⟨_,rfl⟩;rw[hxb] at hxX hpX|-
  have zrH:∀w',Below W.heap.size W w'->w'.cell? ⟨xb,0,none⟩=some (.int .i64 x.cls)/\w'.cell? ⟨xb,1,none⟩=some (.int .i64 x.ref)/\w'.cell? ⟨xb,2,none⟩=some (.int .i64 (Zo Qo x.Qq))/\w'.cell? ⟨xb,4,none⟩=some (.int .i64 (Qy x.Qq 47))/\w'.cell? ⟨xb,5,none⟩=some (.int .i64 (Qy x.Qq 94))/\w'.cell? ⟨xb,6,none⟩=some (.int .i64 (Qy x.Qq 64))/\w'.cell? ⟨xb,8,none⟩=some (.int .i32 (Qy x.Qq 39)):=by
    intro w' hb;have h1:=(hb.block xb (qg hxX).1).trans hxX;exact⟨qc _ _ 0 _ _ (0,0) h1,qc _ _ 1 _ _ (0,0) h1,qc _ _ 2 _ _ (0,0) h1,qc _ _ 4 _ _ (0,0) h1,qc _ _ 5 _ _ (0,0) h1,qc _ _ 6 _ _ (0,0) h1,qc _ _ 8 _ _ (0,0) h1⟩
  refine zhw (S:=λw'=>w'.cell? ⟨xb,0,none⟩=some (.int .i64 x.cls)/\w'.cell? ⟨xb,1,none⟩=some (.int .i64 x.ref)/\w'.cell? ⟨xb,2,none⟩=some (.int .i64 (Zo Qo x.Qq))/\w'.cell? ⟨xb,4,none⟩=some (.int .i64 (Qy x.Qq 47))/\w'.cell? ⟨xb,5,none⟩=some (.int .i64 (Qy x.Qq 94))/\w'.cell? ⟨xb,6,none⟩=some (.int .i64 (Qy x.Qq 64))/\w'.cell? ⟨xb,8,none⟩=some (.int .i32 (Qy x.Qq 39))) (X:=λx=>[19].contains x) (by kernel_rfl) ?_;have hHeld:=zrH W.drew (zc3 (qb _ _) 1)
  --R1
  rename_i K hK
  have ZI:K {tmps:=#[.agg #[.int .i64 x.cls,.int .i64 x.ref,.int .i64 (Zo Qo x.Qq),.int .u8 (Qy x.Qq 58),.int .i64 (Qy x.Qq 47),.int .i64 (Qy x.Qq 94),.int .i64 (Qy x.Qq 64),.slice Ah (QH x.Qq).length ch,.int .i32 (Qy x.Qq 39),.int .i64 x.at_,.int .i64 (Zt x.Qq),.bool (QU x.Qq 58),.bool (QU x.Qq 47)],.int .i64 line,.int .i64 Q6,.int .i64 up,.pointer (some ⟨xb,0,none⟩),undef,undef,undef,.pointer (some ⟨(xb+1),0,none⟩),.pointer (some ⟨W.heap.size,0,none⟩),undef,undef,.int .i64 Q6,.pointer (some ⟨xb,0,none⟩),.agg #[.int .i64 x.cls,.int .i64 x.ref],.pointer (some ⟨xb,2,none⟩),.int .i64 (Zo Qo x.Qq),.pointer (some ⟨xb,4,none⟩),.int .i64 (Qy x.Qq 47),.int .i64 line,.pointer (some ⟨xb,5,none⟩),.int .i64 (Qy x.Qq 94),.int .i64 (vL line (Qy x.Qq 94)),.int .i64 line,.pointer (some ⟨xb,6,none⟩),.int .i64 (Qy x.Qq 64),.int .i64 (vL line (Qy x.Qq 64)),.pointer (some ⟨xb,8,none⟩),.int .i32 (Qy x.Qq 39),.agg #[.int .i64 Q6,.int .i64 x.cls,.int .i64 x.ref,.int .i64 (Zo Qo x.Qq),.int .i64 (Qy x.Qq 47),.int .i64 (vL line (Qy x.Qq 94)),.int .i64 (vL line (Qy x.Qq 64)),.slice none 0 0,.int .i32 (Qy x.Qq 39)],undef,undef,undef,undef,undef,undef,undef,undef,undef,undef,undef,undef,undef,undef,undef,undef,undef,undef,undef,undef,undef,undef,undef,undef,undef,undef,undef,undef],defers:=[]} ((W.alloc (.cells #[.int .i64 Q6,.int .i64 x.cls,.int .i64 x.ref,.int .i64 (Zo Qo x.Qq),.int .i64 (Qy x.Qq 47),.int .i64 (vL line (Qy x.Qq 94)),.int .i64 (vL line (Qy x.Qq 64)),.slice none 0 0,.int .i32 (Qy x.Qq 39)] 45)).drew):=by
    apply hK;clear zrH hHeld;obtain⟨pb,hpb⟩:∃b:Nat,W.heap.size=b:=⟨_,rfl⟩;have hd2:((W.alloc (.cells #[.int .i64 Q6,.int .i64 x.cls,.int .i64 x.ref,.int .i64 (Zo Qo x.Qq),.int .i64 (Qy x.Qq 47),.int .i64 (vL line (Qy x.Qq 94)),.int .i64 (vL line (Qy x.Qq 64)),.slice none 0 0,.int .i32 (Qy x.Qq 39)] 45)).drew).heap[W.heap.size]?=some (.cells #[.int .i64 Q6,.int .i64 x.cls,.int .i64 x.ref,.int .i64 (Zo Qo x.Qq),.int .i64 (Qy x.Qq 47),.int .i64 (vL line (Qy x.Qq 94)),.int .i64 (vL line (Qy x.Qq 64)),.slice none 0 0,.int .i32 (Qy x.Qq 39)] 45 (0,0)):=qn W _;have hb2:Below W.heap.size W ((W.alloc (.cells #[.int .i64 Q6,.int .i64 x.cls,.int .i64 x.ref,.int .i64 (Zo Qo x.Qq),.int .i64 (Qy x.Qq 47),.int .i64 (vL line (Qy x.Qq 94)),.int .i64 (vL line (Qy x.Qq 64)),.slice none 0 0,.int .i32 (Qy x.Qq 39)] 45)).drew):=zc3 ((qb _ _).alloc (ql _) _) 1;have hx2:=(hb2.block xb (qg hxX).1).trans hxX;have hz2:=(hb2.block (xb+1) (qg hpX).1).trans hpX;have hlt:xb+1<pb:=(by rw[<-hpb];exact(qg hpX).1);have hbw:=hbX.trans (hb2.mono (by have:=hbX.size;omega));rw[hpb] at hd2;rw[hpb];generalize ((W.alloc (.cells #[.int .i64 Q6,.int .i64 x.cls,.int .i64 x.ref,.int .i64 (Zo Qo x.Qq),.int .i64 (Qy x.Qq 47),.int .i64 (vL line (Qy x.Qq 94)),.int .i64 (vL line (Qy x.Qq 64)),.slice none 0 0,.int .i32 (Qy x.Qq 39)] 45)).drew)=W2 at hd2 hb2 hx2 hz2 hbw|-;have U8:DL w pb xb Qo x (.slice Ah (QH x.Qq).length ch) (dm0 Qo x line Q6 up) 0 (.slice none 0 0) W2:=⟨hbw,by omega,hlt,hd2,hz2,hx2,⟨rfl,.inl ⟨rfl,rfl⟩⟩⟩;have HDL:=qh U8;have d1:=qc _ _ 1 _ _ (0,0) hd2;have f1:=qf _ _ 1 _ _ hd2;have x7:=qc _ _ 7 _ _ (0,0) hx2;have Hn4:=qh (show(QH x.Qq).length<=4 by rw[zfL];exact Hx.out.four);have hlt3:pb≠xb:=(by omega);clear hxX hbX hpX hsz hb2 hx2 hz2 hd2 hbw U8 hpb Hb1 Hb2;by_cases hc0:0<=x.cls
    case' pos=>
      have g1:decide (x.cls>=0)=true:=qt hc0;have hw1:IntKind.i64.wrap (x.cls+up)=x.cls+up:=qi _ (by omega);have x7b:(W2.setCell ⟨pb,1,none⟩ (.int .i64 (x.cls+up))).cell? ⟨xb,7,none⟩=some (.slice Ah (QH x.Qq).length ch):=(World.cell?_setCell_far _ _ _ _ hlt3).trans x7;have ztA:=qh (HDL.out.cls (x.cls+up) (d':=vC Qo x line Q6 up) (by unfold vC dm0;rw[qq hc0]));clear HDL;go_wp2_with fail;generalize (W2.setCell ⟨pb,1,none⟩ (.int .i64 (x.cls+up)))=W3 at ztA x7b|-;clear d1 f1 g1
    case' neg=>
      have g1:decide (x.cls>=0)=false:=qd (by omega)
      have ztA:Hid (DL w pb xb Qo x (.slice Ah (QH x.Qq).length ch) (vC Qo x line Q6 up) 0 (.slice none 0 0) W2):=qh (by
        have e:vC Qo x line Q6 up=dm0 Qo x line Q6 up:=(by unfold vC dm0;rw[qp hc0]);rw[e];exact HDL.out)
      clear HDL;go_wp2_with fail;clear d1 f1 g1
    all_goals
      go_loopw [44] (λv44 wr=>∃(k:Nat) (v:Value),k<=(QH x.Qq).length/\v44=.int .i64 k/\Hid (DL w pb xb Qo x (.slice Ah (QH x.Qq).length ch) (vC Qo x line Q6 up) k v wr)) (λv44 _=>(QH x.Qq).length-(intOf v44).toNat)
      case atStart=>exact⟨0,_,by omega,rfl,ztA⟩
      case round=>
        rename_i wr;obtain⟨k,v,hk,rfl,U8⟩:=hrel;obtain⟨A3,c3,hv3⟩:=Zn U8.out.o;subst hv3;have KL:=U8.out.d;have d7:wr.cell? ⟨pb,7,none⟩=some (.slice A3 k c3):=qc _ _ 7 _ _ (0,0) KL;by_cases hlt2:k<(QH x.Qq).length
        · obtain⟨A2,c2,e2,_,X9⟩:=zdO ((Off.of_below U8.out.bl (ql _) []).own Hh.out (by simp))
          cases e2;obtain⟨g,rfl,hg,hcell⟩:=X9 (by omega);have c11:=hcell k hlt2;have i1:(0:Int)<=(k:Int):=(by omega);have i2:(k:Int)<((QH x.Qq).length:Int):=(by omega);have hm:=zty Hx.out.mks ((QH x.Qq).getD k 0) (by rw[qe,qC hlt2];exact qM hlt2);have QW:=qh (λv5 w5=>U8.out.step (v5:=v5) (w5:=w5) hlt2);generalize (QH x.Qq).getD k 0=m at c11 hm QW;have hw2:IntKind.i64.wrap (line-m)=line-m:=qi _ (by omega);have hBw:w.heap.size<=wr.heap.size:=U8.out.bl.size;have hn4:=Hn4.out;clear KL hcell X9;go_wp2_with (at_builtin;go_loud (refine U9 wr rfl _ _ 43 rfl w.heap.size 3 _ _ 1 8 xy zlM zlN zlO zjx rfl (by decide) (.slice A3 k c3) k (ua ((vC Qo x line Q6 up).has.take k)) #[.int .i64 (line-m)] wr.heap.size rfl rfl rfl U8.out.o rfl (by intro u hu;simp at hu;subst hu;rfl) (by unfold maxLen;omega) (by omega) hBw ?_;intro v5 w5 hown5 hgr5 hl5;obtain⟨d5,f5,HF5⟩:=QW.out v5 w5 hown5 hgr5 hl5;obtain⟨g5,cap5,rfl⟩:=Jm hown5 (by omega);clear hown5 hgr5 hl5));go_roundw
          case rel=>exact⟨k+1,_,by omega,by go_num,HF5⟩
          case measure=>simp[intOf];omega
        · obtain rfl:k=(QH x.Qq).length:=by omega
          have Zr:=U8.out.z;clear d7;have y0:wr.cell? ⟨pb,0,none⟩=some (.int .i64 Q6):=qc _ _ 0 _ _ (0,0) KL;have y1:wr.cell? ⟨pb,1,none⟩=some (.int .i64 (vC Qo x line Q6 up).cls):=qc _ _ 1 _ _ (0,0) KL;have y2:wr.cell? ⟨pb,2,none⟩=some (.int .i64 x.ref):=qc _ _ 2 _ _ (0,0) KL;have y3:wr.cell? ⟨pb,3,none⟩=some (.int .i64 (Zo Qo x.Qq)):=qc _ _ 3 _ _ (0,0) KL;have y4:wr.cell? ⟨pb,4,none⟩=some (.int .i64 (Qy x.Qq 47)):=qc _ _ 4 _ _ (0,0) KL;have y5:wr.cell? ⟨pb,5,none⟩=some (.int .i64 (vL line (Qy x.Qq 94))):=qc _ _ 5 _ _ (0,0) KL;have y6:wr.cell? ⟨pb,6,none⟩=some (.int .i64 (vL line (Qy x.Qq 64))):=qc _ _ 6 _ _ (0,0) KL;have y7:wr.cell? ⟨pb,7,none⟩=some (.slice A3 (QH x.Qq).length c3):=qc _ _ 7 _ _ (0,0) KL;have y8:wr.cell? ⟨pb,8,none⟩=some (.int .i32 (Qy x.Qq 39)):=qc _ _ 8 _ _ (0,0) KL;have u0:wr.cell? ⟨xb+1,0,none⟩=some (.int .i64 0):=qc _ _ 0 _ _ (0,0) Zr;have z0:=qf _ _ 0 _ _ Zr;have u1:wr.cell? ⟨xb+1,1,none⟩=some (.int .i64 0):=qc _ _ 1 _ _ (0,0) Zr;have z1:=qf _ _ 1 _ _ Zr;have u2:wr.cell? ⟨xb+1,2,none⟩=some (.int .i64 0):=qc _ _ 2 _ _ (0,0) Zr;have z2:=qf _ _ 2 _ _ Zr;have u3:wr.cell? ⟨xb+1,3,none⟩=some (.int .i64 0):=qc _ _ 3 _ _ (0,0) Zr;have z3:=qf _ _ 3 _ _ Zr;have u4:wr.cell? ⟨xb+1,4,none⟩=some (.int .i64 0):=qc _ _ 4 _ _ (0,0) Zr;have z4:=qf _ _ 4 _ _ Zr;have u5:wr.cell? ⟨xb+1,5,none⟩=some (.int .i64 0):=qc _ _ 5 _ _ (0,0) Zr;have z5:=qf _ _ 5 _ _ Zr;have u6:wr.cell? ⟨xb+1,6,none⟩=some (.int .i64 0):=qc _ _ 6 _ _ (0,0) Zr;have z6:=qf _ _ 6 _ _ Zr;have u7:wr.cell? ⟨xb+1,7,none⟩=some (.slice none 0 0):=qc _ _ 7 _ _ (0,0) Zr;have z7:=qf _ _ 7 _ _ Zr;have u8:wr.cell? ⟨xb+1,8,none⟩=some (.int .i32 0):=qc _ _ 8 _ _ (0,0) Zr;have z8:=qf _ _ 8 _ _ Zr;have HE:=qh (zuQ Zr (.int .i64 Q6) (.int .i64 (vC Qo x line Q6 up).cls) (.int .i64 x.ref) (.int .i64 (Zo Qo x.Qq)) (.int .i64 (Qy x.Qq 47)) (.int .i64 (vL line (Qy x.Qq 94))) (.int .i64 (vL line (Qy x.Qq 64))) (.slice A3 (QH x.Qq).length c3) (.int .i32 (Qy x.Qq 39)));have hxb2:w.heap.size<=xb+1:=(by omega);clear KL Zr;go_wp2_with fail;refine ztz rfl HE.out.1 ⟨U8.out.bl.trans (HE.out.2.below U8.out.bl.size (λk hk=>by simp at hk;omega)),_,rfl,?_⟩
          have ho:=HE.out.2.own U8.out.o (λk hk=>by
            intro hm;have e:k=xb+1:=(by simpa using hm);subst e;rcases Za U8.out.o U8.out.z (by decide) with h0|h0
            · rw[h0] at hk;cases hk
            · exact h0 hk)
          have e1:(vC Qo x line Q6 up).has.length=(QH x.Qq).length:=(by unfold vC;simp);rw[<-e1,qR] at ho;rw[e1] at ho|-;exact ho
  refine KM (i:=0) (v:=?_) rfl (by kernel_rfl) (by kernel_rfl) (by kernel_rfl) (by kernel_rfl) (λ_ _ _ h=>h) (zx ⟨by rfl,?_⟩) (by assumption) ?_;rotate_left
  · intro w hSw
    obtain⟨hS0,hS1,hS2,Z8,KR,hS5,VX⟩:=hSw;go_simp;try with_reducible rfl
  simp only[Act.put,qz,qy,qx,qj,qu,qr];refine KM (i:=1) (v:=?_) rfl (by kernel_rfl) (by kernel_rfl) (by kernel_rfl) (by kernel_rfl) (λ_ _ _ h=>h) (zx ⟨by rfl,?_⟩) (by assumption) ?_;rotate_left
  · intro w hSw
    obtain⟨hS0,hS1,hS2,Z8,KR,hS5,VX⟩:=hSw;go_simp;try with_reducible rfl
  simp only[Act.put,qz,qy,qx,qj,qu,qr];refine KM (i:=2) (v:=?_) rfl (by kernel_rfl) (by kernel_rfl) (by kernel_rfl) (by kernel_rfl) (λ_ _ _ h=>h) (zx ⟨by rfl,?_⟩) (by assumption) ?_;rotate_left
  · intro w hSw
    obtain⟨hS0,hS1,hS2,Z8,KR,hS5,VX⟩:=hSw;go_simp;try with_reducible rfl
  simp only[Act.put,qz,qy,qx,qj,qu,qr];refine KM (i:=3) (v:=?_) rfl (by kernel_rfl) (by kernel_rfl) (by kernel_rfl) (by kernel_rfl) (λ_ _ _ h=>h) (zx ⟨by rfl,?_⟩) (by assumption) ?_;rotate_left
  · intro w hSw
    obtain⟨hS0,hS1,hS2,Z8,KR,hS5,VX⟩:=hSw;go_simp;try with_reducible rfl
  simp only[Act.put,qz,qy,qx,qj,qu,qr];refine KM (i:=4) (v:=?_) rfl (by kernel_rfl) (by kernel_rfl) (by kernel_rfl) (by kernel_rfl) (λ_ _ _ h=>h) (zx ⟨by rfl,?_⟩) (by assumption) ?_;rotate_left
  · intro w hSw
    obtain⟨hS0,hS1,hS2,Z8,KR,hS5,VX⟩:=hSw;go_simp;try with_reducible rfl
  simp only[Act.put,qz,qy,qx,qj,qu,qr];refine KM (i:=5) (v:=?_) rfl (by kernel_rfl) (by kernel_rfl) (by kernel_rfl) (by kernel_rfl) (λ_ _ _ h=>h) (zx ⟨by rfl,?_⟩) (by assumption) ?_;rotate_left
  · intro w hSw
    obtain⟨hS0,hS1,hS2,Z8,KR,hS5,VX⟩:=hSw;go_simp;try with_reducible rfl
  simp only[Act.put,qz,qy,qx,qj,qu,qr];refine KM (i:=6) (v:=?_) rfl (by kernel_rfl) (by kernel_rfl) (by kernel_rfl) (by kernel_rfl) (λ_ _ _ h=>h) (zx ⟨by rfl,?_⟩) (by assumption) ?_;rotate_left
  · intro w hSw
    obtain⟨hS0,hS1,hS2,Z8,KR,hS5,VX⟩:=hSw;go_simp;try with_reducible rfl
  simp only[Act.put,qz,qy,qx,qj,qu,qr];refine KM (i:=7) (v:=?_) rfl (by kernel_rfl) (by kernel_rfl) (by kernel_rfl) (by kernel_rfl) (λ_ _ _ h=>h) (zx ⟨by rfl,?_⟩) (by assumption) ?_;rotate_left
  · intro w hSw
    obtain⟨hS0,hS1,hS2,Z8,KR,hS5,VX⟩:=hSw;go_simp;try with_reducible rfl
  simp only[Act.put,qz,qy,qx,qj,qu,qr];refine KM (i:=8) (v:=?_) rfl (by kernel_rfl) (by kernel_rfl) (by kernel_rfl) (by kernel_rfl) (λ_ _ _ h=>h) (zx ⟨by rfl,?_⟩) (by assumption) ?_;rotate_left
  · intro w hSw
    obtain⟨hS0,hS1,hS2,Z8,KR,hS5,VX⟩:=hSw;go_simp;try with_reducible rfl
  simp only[Act.put,qz,qy,qx,qj,qu,qr];refine KM (i:=9) (v:=?_) rfl (by kernel_rfl) (by kernel_rfl) (by kernel_rfl) (by kernel_rfl) (λ_ _ _ h=>h) (zx ⟨by rfl,?_⟩) (by assumption) ?_;rotate_left
  · intro w hSw
    obtain⟨hS0,hS1,hS2,Z8,KR,hS5,VX⟩:=hSw;go_simp;try with_reducible rfl
  simp only[Act.put,qz,qy,qx,qj,qu,qr];refine KM (i:=11) (v:=?_) rfl (by kernel_rfl) (by kernel_rfl) (by kernel_rfl) (by kernel_rfl) (λ_ _ _ h=>h) (zx ⟨by rfl,?_⟩) (by assumption) ?_;rotate_left
  · intro w hSw
    obtain⟨hS0,hS1,hS2,Z8,KR,hS5,VX⟩:=hSw;go_simp;try with_reducible rfl
  simp only[Act.put,qz,qy,qx,qj,qu,qr];refine KM (i:=12) (v:=?_) rfl (by kernel_rfl) (by kernel_rfl) (by kernel_rfl) (by kernel_rfl) (λ_ _ _ h=>h) (zx ⟨by rfl,?_⟩) (by assumption) ?_;rotate_left
  · intro w hSw
    obtain⟨hS0,hS1,hS2,Z8,KR,hS5,VX⟩:=hSw;go_simp;try with_reducible rfl
  simp only[Act.put,qz,qy,qx,qj,qu,qr];refine KM (i:=13) (v:=?_) rfl (by kernel_rfl) (by kernel_rfl) (by kernel_rfl) (by kernel_rfl) (λ_ _ _ h=>h) (zx ⟨by rfl,?_⟩) (by assumption) ?_;rotate_left
  · intro w hSw
    obtain⟨hS0,hS1,hS2,Z8,KR,hS5,VX⟩:=hSw;go_simp;try with_reducible rfl
  simp only[Act.put,qz,qy,qx,qj,qu,qr];refine KM (i:=15) (v:=?_) rfl (by kernel_rfl) (by kernel_rfl) (by kernel_rfl) (by kernel_rfl) (λ_ _ _ h=>h) (zx ⟨by rfl,?_⟩) (by assumption) ?_;rotate_left
  · intro w hSw
    obtain⟨hS0,hS1,hS2,Z8,KR,hS5,VX⟩:=hSw;go_simp;try with_reducible rfl
  simp only[Act.put,qz,qy,qx,qj,qu,qr];refine KM (i:=16) (v:=?_) rfl (by kernel_rfl) (by kernel_rfl) (by kernel_rfl) (by kernel_rfl) (λ_ _ _ h=>h) (zx ⟨by rfl,?_⟩) (by assumption) ?_;rotate_left
  · intro w hSw
    obtain⟨hS0,hS1,hS2,Z8,KR,hS5,VX⟩:=hSw;go_simp;try with_reducible rfl
  simp only[Act.put,qz,qy,qx,qj,qu,qr];have Zz:=zrH (W.drew.alloc (.cells #[.int .i64 0,.int .i64 0,.int .i64 0,.int .i64 0,.int .i64 0,.int .i64 0,.int .i64 0,.slice none 0 0,.int .i32 0] 45)) ((zc3 (qb _ _) 1).alloc (by simp) _);refine pj (i:=10) (j:=18) (by kernel_rfl) ?_ ?_
  · refine(J6 rfl rfl (pv (f:=61) (args:=#[.int .i64 line,.int .i64 (Qy x.Qq 94)]) (by go_simp;try rfl) ((Hb1.out W.drew).mono ?_)))
    rintro e w9 ⟨rfl,rfl⟩;refine⟨_,rfl,.inr hHeld,?_⟩;simp only[Act.put,qS,qO,qN,qz,qy,qx,qj,qu,qr];refine pj (i:=14) (j:=18) (by kernel_rfl) ?_ ?_
    · refine(J6 rfl rfl (pv (f:=61) (args:=#[.int .i64 line,.int .i64 (Qy x.Qq 64)]) (by go_simp;try rfl) ((Hb2.out W.drew).mono ?_)))
      rintro e w9 ⟨rfl,rfl⟩;refine⟨_,rfl,.inr hHeld,?_⟩;simp only[Act.put,qS,qO,qN,qz,qy,qx,qj,qu,qr];refine pj (i:=17) (j:=18) (by kernel_rfl) ?_ ?_
      · refine(J6 rfl rfl (uI (v:=.agg #[.int .i64 Q6,.int .i64 x.cls,.int .i64 x.ref,.int .i64 (Zo Qo x.Qq),.int .i64 (Qy x.Qq 47),.int .i64 (vL line (Qy x.Qq 94)),.int .i64 (vL line (Qy x.Qq 64)),.slice none 0 0,.int .i32 (Qy x.Qq 39)]) (w':=W.drew) (by go_simp;try rfl) ⟨.inr hHeld,?_⟩))
        simp only[Act.put,qS,qO,qN,qz,qy,qx,qj,qu,qr];refine VY (i:=18) (by kernel_rfl) (J6 rfl rfl (uI (v:=.pointer (some ⟨W.heap.size,0,none⟩)) (w':=W.drew.alloc (.cells #[.int .i64 0,.int .i64 0,.int .i64 0,.int .i64 0,.int .i64 0,.int .i64 0,.int .i64 0,.slice none 0 0,.int .i32 0] 45)) (by go_simp;try rfl) ⟨.inr Zz,?_⟩));simp only[Act.put,qS,qO,qN,qz,qy,qx,qj,qu,qr];refine VY (i:=19) (by kernel_rfl) (J6 rfl rfl ?_);refine zmP (w':=?_) ?_ ?_;rotate_left
        · go_simp
          rfl
        refine⟨.inl (by decide),?_⟩;refine zhv (by kernel_rfl) ?_ _;simp only[Act.put,qS,qO,qN,qz,qy,qx,qj,qu,qr];exact ZI
      · refine(J6 rfl rfl (uI (v:=.pointer (some ⟨W.heap.size,0,none⟩)) (w':=W.drew.alloc (.cells #[.int .i64 0,.int .i64 0,.int .i64 0,.int .i64 0,.int .i64 0,.int .i64 0,.int .i64 0,.slice none 0 0,.int .i32 0] 45)) (by go_simp;try rfl) ⟨.inr Zz,?_⟩))
        simp only[Act.put,qS,qO,qN,qz,qy,qx,qj,qu,qr];refine VY (i:=17) (by kernel_rfl) (J6 rfl rfl (uI (v:=.agg #[.int .i64 Q6,.int .i64 x.cls,.int .i64 x.ref,.int .i64 (Zo Qo x.Qq),.int .i64 (Qy x.Qq 47),.int .i64 (vL line (Qy x.Qq 94)),.int .i64 (vL line (Qy x.Qq 64)),.slice none 0 0,.int .i32 (Qy x.Qq 39)]) (w':=(W.drew.alloc (.cells #[.int .i64 0,.int .i64 0,.int .i64 0,.int .i64 0,.int .i64 0,.int .i64 0,.int .i64 0,.slice none 0 0,.int .i32 0] 45))) (by go_simp;try rfl) ⟨.inr Zz,?_⟩));simp only[Act.put,qS,qO,qN,qz,qy,qx,qj,qu,qr];refine VY (i:=19) (by kernel_rfl) (J6 rfl rfl ?_);refine zmP (w':=?_) ?_ ?_;rotate_left
        · go_simp
          rfl
        refine⟨.inl (by decide),?_⟩;refine zhv (by kernel_rfl) ?_ _;simp only[Act.put,qS,qO,qN,qz,qy,qx,qj,qu,qr];exact ZI
    · refine(J6 rfl rfl (uI (v:=.pointer (some ⟨W.heap.size,0,none⟩)) (w':=W.drew.alloc (.cells #[.int .i64 0,.int .i64 0,.int .i64 0,.int .i64 0,.int .i64 0,.int .i64 0,.int .i64 0,.slice none 0 0,.int .i32 0] 45)) (by go_simp;try rfl) ⟨.inr Zz,?_⟩))
      simp only[Act.put,qS,qO,qN,qz,qy,qx,qj,qu,qr];refine VY (i:=14) (by kernel_rfl) (J6 rfl rfl (pv (f:=61) (args:=#[.int .i64 line,.int .i64 (Qy x.Qq 64)]) (by go_simp;try rfl) ((Hb2.out (W.drew.alloc (.cells #[.int .i64 0,.int .i64 0,.int .i64 0,.int .i64 0,.int .i64 0,.int .i64 0,.int .i64 0,.slice none 0 0,.int .i32 0] 45))).mono ?_)));rintro e w9 ⟨rfl,rfl⟩;refine⟨_,rfl,.inr Zz,?_⟩;simp only[Act.put,qS,qO,qN,qz,qy,qx,qj,qu,qr];refine VY (i:=17) (by kernel_rfl) (J6 rfl rfl (uI (v:=.agg #[.int .i64 Q6,.int .i64 x.cls,.int .i64 x.ref,.int .i64 (Zo Qo x.Qq),.int .i64 (Qy x.Qq 47),.int .i64 (vL line (Qy x.Qq 94)),.int .i64 (vL line (Qy x.Qq 64)),.slice none 0 0,.int .i32 (Qy x.Qq 39)]) (w':=(W.drew.alloc (.cells #[.int .i64 0,.int .i64 0,.int .i64 0,.int .i64 0,.int .i64 0,.int .i64 0,.int .i64 0,.slice none 0 0,.int .i32 0] 45))) (by go_simp;try rfl) ⟨.inr Zz,?_⟩));simp only[Act.put,qS,qO,qN,qz,qy,qx,qj,qu,qr];refine VY (i:=19) (by kernel_rfl) (J6 rfl rfl ?_);refine zmP (w':=?_) ?_ ?_;rotate_left
      · go_simp
        rfl
      refine⟨.inl (by decide),?_⟩;refine zhv (by kernel_rfl) ?_ _;simp only[Act.put,qS,qO,qN,qz,qy,qx,qj,qu,qr];exact ZI
  · refine(J6 rfl rfl (uI (v:=.pointer (some ⟨W.heap.size,0,none⟩)) (w':=W.drew.alloc (.cells #[.int .i64 0,.int .i64 0,.int .i64 0,.int .i64 0,.int .i64 0,.int .i64 0,.int .i64 0,.slice none 0 0,.int .i32 0] 45)) (by go_simp;try rfl) ⟨.inr Zz,?_⟩))
    simp only[Act.put,qS,qO,qN,qz,qy,qx,qj,qu,qr];refine VY (i:=10) (by kernel_rfl) (J6 rfl rfl (pv (f:=61) (args:=#[.int .i64 line,.int .i64 (Qy x.Qq 94)]) (by go_simp;try rfl) ((Hb1.out (W.drew.alloc (.cells #[.int .i64 0,.int .i64 0,.int .i64 0,.int .i64 0,.int .i64 0,.int .i64 0,.int .i64 0,.slice none 0 0,.int .i32 0] 45))).mono ?_)));rintro e w9 ⟨rfl,rfl⟩;refine⟨_,rfl,.inr Zz,?_⟩;simp only[Act.put,qS,qO,qN,qz,qy,qx,qj,qu,qr];refine VY (i:=14) (by kernel_rfl) (J6 rfl rfl (pv (f:=61) (args:=#[.int .i64 line,.int .i64 (Qy x.Qq 64)]) (by go_simp;try rfl) ((Hb2.out (W.drew.alloc (.cells #[.int .i64 0,.int .i64 0,.int .i64 0,.int .i64 0,.int .i64 0,.int .i64 0,.int .i64 0,.slice none 0 0,.int .i32 0] 45))).mono ?_)));rintro e w9 ⟨rfl,rfl⟩;refine⟨_,rfl,.inr Zz,?_⟩;simp only[Act.put,qS,qO,qN,qz,qy,qx,qj,qu,qr];refine VY (i:=17) (by kernel_rfl) (J6 rfl rfl (uI (v:=.agg #[.int .i64 Q6,.int .i64 x.cls,.int .i64 x.ref,.int .i64 (Zo Qo x.Qq),.int .i64 (Qy x.Qq 47),.int .i64 (vL line (Qy x.Qq 94)),.int .i64 (vL line (Qy x.Qq 64)),.slice none 0 0,.int .i32 (Qy x.Qq 39)]) (w':=(W.drew.alloc (.cells #[.int .i64 0,.int .i64 0,.int .i64 0,.int .i64 0,.int .i64 0,.int .i64 0,.int .i64 0,.slice none 0 0,.int .i32 0] 45))) (by go_simp;try rfl) ⟨.inr Zz,?_⟩));simp only[Act.put,qS,qO,qN,qz,qy,qx,qj,qu,qr];refine VY (i:=19) (by kernel_rfl) (J6 rfl rfl ?_);refine zmP (w':=?_) ?_ ?_;rotate_left
    · go_simp
      rfl
    refine⟨.inl (by decide),?_⟩;refine zhv (by kernel_rfl) ?_ _;simp only[Act.put,qS,qO,qN,qz,qy,qx,qj,qu,qr];exact ZI
  --R1 END
end Go.Proofs.YtgklikkddckgbaaGreatDoor.Mo
namespace Go.Proofs.YtgklikkddckgbaaGreatDoor
open Go Go.RowKit
def gt {α:Type} (B:Nat) (J:List α->World->Prop):Prop:=∀s W W',J s W->Below B W W'->QI 0 W W'->J s W'
theorem zo3 {B:Nat} (W:World) {l:Nat} (hl:B<=l) (o:Obj):Below B W (W.putObj l o):=⟨rfl,rfl,rfl,by simp,λi hi=>qV (by omega)⟩
theorem ud {W W':World} (h:Below W.heap.size W W'):QI 0 W W':=⟨h.size,λi o _ ho _=>(h.block i (qg ho).1).trans ho⟩
def SeqR {α:Type} (R:World->World->Prop) (Base:World->Prop) (F:Fence) (n:Nat) (P:Program) (g:Nat) (lb:Array Value) (encs:α->Array Value) (Fits:List α->α->World->Prop) (S Sp:List α->Prop) (N:Nat) (w:World):Prop:=
  ∀(l:Nat) (J Jx:List α->World->Prop) (W:World),Below w.heap.size w W->gt W.heap.size J->gt W.heap.size Jx->(∀pre W1,J pre W1->Base W1)->
   (∀pre x W1,J pre W1->pre.length<N->Fits pre x W1->YieldAt F (n-1) P l (encs x) W1 λe W'=>
     (e=.returned (.bool true)/\J (pre++[x]) W'/\R W1 W')∨(e=.returned (.bool false)/\Jx (pre++[x]) W'))->
   J [] W->
   CallsIn F n P g (#[.func (.yield l) #[] #[]]++lb) W λe W'=>(∃v,e=.returned v)/\((∃xs,S xs/\J xs W')∨(∃pre,Sp pre/\Jx pre W'))
def zqi {α:Type} (R:World->World->Prop) (I:List α->World->Prop) (Ix:Code->List α->World->Prop) (xs:List α) (W:World):Exit->Act->World->Prop
  |.normal,_,W'=>KeepsOthers W W'/\R W W'/\I xs W'
  |.ret,_,W'=>KeepsOthers W W'/\Ix .ret xs W'
  |.exit id,_,W'=>KeepsOthers W W'/\Ix (.exit id) xs W'
  |.goto t,_,W'=>KeepsOthers W W'/\Ix (.goto t) xs W'
  |.panic _,_,_=>False
  |.outgrown,_,_=>False
theorem zq5 {R:World->World->Prop} {Base:World->Prop} (hRt:∀A B C,R A B->R B C->R A C) (hRp:∀(W:World) (l:Nat) (o o':Obj),W.heap[l]?=some o->o.isCells=false->o.isWalk=false->R W (W.putObj l o')) {F:Fence} {n:Nat} {P:Program} {α:Type} {g:Operand} {ps:Array Tmp} {assign body:Code} {Q:Exit->Act->World->Prop} {a:Act} {w:World}
    (hro:F.round=none) (h1:1<=n) {gf:Nat} {lb:Array Value} (hg:a.eval g=.func (.func gf) #[] lb) (hFg:F.fn gf) (eg:∀args w,(callFunc gf args).run P w=.ok (.enter gf args) w)
    {encs:α->Array Value} {Fits:List α->α->World->Prop} {S Sp:List α->Prop} {N:Nat} (hseq:SeqR R Base F (n-1) P gf lb encs Fits S Sp N w) (hps:∀x,(encs x).size=ps.size)
    (I:List α->World->Prop) (Ix:Code->List α->World->Prop) (hI:gt w.heap.size I) (hIx:∀c,gt w.heap.size (Ix c)) (hbase:∀pre W,I pre W->Base W) (h0:I [] w) (Ax:List α->α->Act->World->Prop)
    (hassign:∀(l:Nat) (pre:List α) (x:α) (W:World) (K:Act->World->Prop),I pre W->Fits pre x W->w.heap.size<=W.heap.size->(∀a' W',KeepsOthers W W'->R W W'->I pre W'->Ax pre x a' W'->K a' W')->
      assign.wpIn (F.inRound l) (n-1-1) P (Exit.then K (λ_ _ _=>False)) {tmps:=(ps.zip (encs x)).foldl (λt (p,v)=>t.setIfInBounds p v) a.tmps,defers:=[]} W)
    (hbody:∀(l:Nat) (pre:List α) (x:α) (a':Act) (W:World),I pre W->pre.length<N->Ax pre x a' W->w.heap.size<=W.heap.size->body.wpIn (F.inRound l) (n-1-1) P (zqi R I Ix (pre++[x]) W) a' W)
    (hAx:∀pre x a' W l o o',Ax pre x a' W->W.heap[l]?=some o->o.isCells=false->o.isWalk=false->Ax pre x a' (W.putObj l o'))
    (hdone:∀(D:Nat) (xs:List α) (W:World),w.heap.size<=D->S xs->I xs W->W.heap[D]?=some (.deferred (some []))->Q .normal {a with defers:={target:=.collected D,args:=#[]}::a.defers} W)
    (hstop:∀(D:Nat) (c:Code) (pre:List α) (W:World),w.heap.size<=D->Sp pre->Ix c pre W->W.heap[D]?=some (.deferred (some []))->c.wpIn F n P Q {a with defers:={target:=.collected D,args:=#[]}::a.defers} W):
    (Code.rangeFunc g ps assign body).wpIn F n P Q a w:=by
  refine wpIn_rangeFunc λfn hfn=>?_;rw[hro]
  --the loop's record,in block L;the block for deferred calls,D
  let Ga:LoopState->Option Code->Loop:=λst pe=>{state:=st,pending:=pe,fn,tmps:=a.tmps,params:=ps,assign,body,defers:=w.heap.size}
  obtain⟨mk,hmk⟩:∃mk,mk=Ga:=⟨_,rfl⟩;obtain⟨W1,hW1⟩:∃W1,(w.alloc (.deferred (some []))).alloc (.loop (mk .ready none))=W1:=⟨_,rfl⟩;have sW1:W1.heap.size=w.heap.size+2:=by rw[<-hW1];simp
  have hL1:W1.heap[w.heap.size+1]?=some (.loop (mk .ready none)):=by
    have:=qn (w.alloc (.deferred (some []))) (.loop (mk .ready none));rw[qZ] at this;rw[<-hW1];exact this
  have hD1:W1.heap[w.heap.size]?=some (.deferred (some [])):=by
    rw[<-hW1];exact(qa _ _ _ (by simp)).trans (qn w _)
  have hI1:I [] W1:=by rw[<-hW1];exact(λhb=>hI [] _ _ h0 hb (ud hb)) (((qb _ w).alloc (ql _) _).alloc (by simp) _)
  have hB1:Below w.heap.size w W1:=by rw[<-hW1];exact((qb _ w).alloc (ql _) _).alloc (by simp) _
  --what holds between two rounds;what holds when a round has left the loop
  let J:List α->World->Prop:=λpre W=>I pre W/\W.heap[w.heap.size+1]?=some (.loop (mk .ready none))/\W.heap[w.heap.size]?=some (.deferred (some []))
  let Jx:List α->World->Prop:=λpre W=>∃c,Ix c pre W/\W.heap[w.heap.size+1]?=some (.loop (mk .done (some c)))/\W.heap[w.heap.size]?=some (.deferred (some []))
  have old:∀{A B:World} {k:Nat} {o:Obj},Below W1.heap.size A B->k<W1.heap.size->A.heap[k]?=some o->B.heap[k]?=some o:=λhg hk ho=>(hg.block _ hk).trans ho
  have aJ:gt W1.heap.size J:=λs A B hs hg hr=>
    ⟨hI s A B hs.1 (hg.mono (by omega)) hr,old hg (by omega) hs.2.1,old hg (by omega) hs.2.2⟩
  have aJx:gt W1.heap.size Jx:=λs A B hs hg hr=>by
    obtain⟨c,hc,hl,hd⟩:=hs;exact⟨c,hIx c s A B hc (hg.mono (by omega)) hr,old hg (by omega) hl,old hg (by omega) hd⟩
  have put:∀{K:List α->World->Prop} {s:List α} {A:World} {o:Obj} (o':Obj),gt w.heap.size K->K s A->A.heap[w.heap.size+1]?=some o->o.isCells=false->o.isWalk=false->K s (A.putObj (w.heap.size+1) o'):=λ{K s A o} o' hK hs ho h1 h2=>
    hK s A _ hs (zo3 A (by omega) o') (QI.put A _ o o' ho h1 h2)
  refine⟨w.heap.size+1,[{target:=.collected w.heap.size,args:=#[]}],W1,{target:=.fn (.func gf) lb,args:=#[.func (.yield (w.heap.size+1)) #[] #[]]},W1,gf,
    #[.func (.yield (w.heap.size+1)) #[] #[]]++lb,W1,?_,?_,?_,?_,λ_=>h1,?_⟩
  · rw[<-hW1,hmk];exact run_enterLoop_outer _ _ _ _ _
  · simp only[resolve,hg]
    simp[go_sem]
  · intro f' hf'
    simp[Target.leads] at hf';subst hf';exact hFg
  · simp[invoke,go_sem,eg]
  · refine(hseq (w.heap.size+1) J Jx W1 hB1 aJ aJx (λpre W hj=>hbase pre W hj.1) ?_ ⟨hI1,hL1,hD1⟩).mono ?_
    · rintro pre x W ⟨hi,hl,hd⟩ hlen hfit
      have hlt:w.heap.size+1<W.heap.size:=(qg hl).1;have hy:=run_yield (P:=P) (args:=encs x) hl (by rw[hmk];exact hps x);rw[hmk] at hy;refine⟨fn,_,assign,body,hy,roundIn_of_wpIn hfn (hassign _ pre x W _ hi hfit (by omega) λa' Wa hko hkf hi' hax=>?_)⟩;have hla:Wa.heap[w.heap.size+1]?=some (.loop (mk .ready none)):=hko.same _ _ hl rfl;have hda:Wa.heap[w.heap.size]?=some (.deferred (some [])):=hko.same _ _ hd rfl;have ztB:w.heap.size+1<Wa.heap.size:=(qg hla).1;refine⟨_,run_beginRound hla (by rw[hmk]),?_⟩;generalize hWb:Wa.putObj (w.heap.size+1) (.loop {mk .ready none with state:=.busy})=Wb;have hlb:Wb.heap[w.heap.size+1]?=some (.loop {mk .ready none with state:=.busy}):=(by rw[<-hWb];exact jy ztB);have hdb:Wb.heap[w.heap.size]?=some (.deferred (some [])):=(by rw[<-hWb];exact(qV (by omega)).trans hda);have hib:I pre Wb:=(by rw[<-hWb];exact put _ hI hi' hla rfl rfl);have hkb:R W Wb:=(by rw[<-hWb];exact hRt _ _ _ hkf (hRp Wa _ _ _ hla rfl rfl));have ztC:Ax pre x a' Wb:=(by rw[<-hWb];exact hAx pre x a' _ _ _ _ hax hla rfl rfl);have hsb:w.heap.size<=Wb.heap.size:=(by have:=(qg hlb).1;omega);refine wpIn_mono (hbody _ pre x a' Wb hib hlen ztC hsb) ?_
      have fin:∀(jump:Option Code) (W3:World),KeepsOthers Wb W3->
          (Instr.endRound (w.heap.size+1) jump).run P W3=.ok (.bool jump.isNone) (W3.putObj (w.heap.size+1) (.loop (mk (if jump.isNone then .ready else .done) jump)))/\
          W3.heap[w.heap.size+1]?=some (.loop {mk .ready none with state:=.busy})/\
          (W3.putObj (w.heap.size+1) (.loop (mk (if jump.isNone then .ready else .done) jump))).heap[w.heap.size+1]?=some (.loop (mk (if jump.isNone then .ready else .done) jump))/\
          (W3.putObj (w.heap.size+1) (.loop (mk (if jump.isNone then .ready else .done) jump))).heap[w.heap.size]?=some (.deferred (some [])):=λjump W3 hk3=>by
        have hl3:=hk3.same _ _ hlb rfl;have he:=run_endRound (P:=P) jump hl3;refine⟨?_,hl3,jy (qg hl3).1,(qV (by omega)).trans (hk3.same _ _ hdb rfl)⟩;rw[hmk] at he|-;exact he
      rintro e a3 W3 hp;cases e with
      |normal=>
       obtain⟨hk3,ztD,hi3⟩:=hp;obtain⟨hr,hl3,hl4,hd4⟩:=fin none W3 hk3;exact⟨_,_,hr,.inl ⟨rfl,⟨put _ hI hi3 hl3 rfl rfl,hl4,hd4⟩,hRt _ _ _ (hRt _ _ _ hkb ztD) (hRp W3 _ _ _ hl3 rfl rfl)⟩⟩
      |ret=>
       obtain⟨hk3,hi3⟩:=hp;obtain⟨hr,hl3,hl4,hd4⟩:=fin (some .ret) W3 hk3;exact⟨_,_,hr,.inr ⟨rfl,.ret,put _ (hIx _) hi3 hl3 rfl rfl,hl4,hd4⟩⟩
      |exit id=>
       obtain⟨hk3,hi3⟩:=hp;obtain⟨hr,hl3,hl4,hd4⟩:=fin (some (.exit id)) W3 hk3;exact⟨_,_,hr,.inr ⟨rfl,.exit id,put _ (hIx _) hi3 hl3 rfl rfl,hl4,hd4⟩⟩
      |goto t=>
       obtain⟨hk3,hi3⟩:=hp;obtain⟨hr,hl3,hl4,hd4⟩:=fin (some (.goto t)) W3 hk3;exact⟨_,_,hr,.inr ⟨rfl,.goto t,put _ (hIx _) hi3 hl3 rfl rfl,hl4,hd4⟩⟩
      |panic ch=>exact hp.elim
      |outgrown=>exact hp.elim
    · rintro e W2 ⟨⟨v,rfl⟩,(⟨xs,hS,hi,hl,hd⟩|⟨pre,hSp,c,hi,hl,hd⟩)⟩
      · exact⟨none,_,by have:=vo (P:=P) hl (by rw[hmk];simp[Ga]);rw[hmk] at this;exact this,hdone _ xs _ (ql _) hS (put _ hI hi hl rfl rfl) ((qV (by omega)).trans hd)⟩
      · exact⟨some c,_,by have:=vo (P:=P) hl (by rw[hmk];simp[Ga]);rw[hmk] at this;exact this,hstop _ c pre _ (ql _) hSp (put _ (hIx c) hi hl rfl rfl) ((qV (by omega)).trans hd)⟩
end Go.Proofs.YtgklikkddckgbaaGreatDoor
namespace Go.Proofs.YtgklikkddckgbaaGreatDoor.Mo
open Go.RowKit
def uY (Qo:List UInt8) (Q6 up:Int) (line:Nat) (l:List It):List Dm:=l.mapIdx λi x=>vC Qo x ((line+i:Nat):Int) Q6 up
structure DSt where
  out:List Dm
  Q6:Int
  up:Int
def uu (f:Fm) (s:DSt) (r:Rw):DSt:=⟨s.out++uY f.Qo s.Q6 s.up s.out.length r.items,s.Q6+1,if r.round then s.up+f.shift else s.up⟩
def ue (n:Int) (r:Rw):Nat:=if r.round then n.toNat else 1
def vy (rows:List Rw) (n:Int):List Rw:=rows.flatMap λr=>List.replicate (ue n r) r
def vY (f:Fm) (bs:List Rw):DSt:=bs.foldl (uu f) ⟨[],0,0⟩
def vH (f:Fm) (n:Int):List Dm:=(vY f (vy f.rows n)).out
theorem px (Qo:List UInt8) (Q6 up:Int) (line:Nat) (l:List It):(uY Qo Q6 up line l).length=l.length:=by unfold uY;simp
theorem zpN (Qo:List UInt8) (Q6 up:Int) (line:Nat) (l:List It) (k:Nat) (hk:k<l.length):uY Qo Q6 up line (l.take (k+1))=uY Qo Q6 up line (l.take k)++[vC Qo (l.getD k Q7) ((line+k:Nat):Int) Q6 up]:=by
  unfold uY;rw[qJ hk,List.mapIdx_append];simp[qe,hk,yY (zR hk)]
theorem zqj (Qo:List UInt8) (Q6 up:Int) (line:Nat) (l:List It) (k:Nat):uY Qo Q6 up line (l.take k)<+:uY Qo Q6 up line l:=by
  conv=>rhs;rw[<-jG k l]
  unfold uY;rw[List.mapIdx_append];exact List.prefix_append _ _
theorem pN (f:Fm) (bs:List Rw) (r:Rw):vY f (bs++[r])=uu f (vY f bs) r:=by unfold vY;rw[xt];rfl
theorem zoj (f:Fm) (bs:List Rw):∀cs,(vY f bs).out<+:(vY f (bs++cs)).out
  |[]=>by rw[zO];exact List.prefix_rfl
  |c::cs=>by
   have h:=zoj f (bs++[c]) cs;rw[pN,qF] at h;exact(List.prefix_append _ _).trans h
theorem zok (f:Fm):∀(bs:List Rw) (s:DSt),(bs.foldl (uu f) s).Q6=s.Q6+bs.length
  |[],s=>by simp
  |b::bs,s=>by
   rw[jA,zok f bs];simp only[uu,qv];push_cast;omega
theorem zqk (f:Fm) (bs:List Rw):(vY f bs).Q6=bs.length:=by
  unfold vY;rw[zok];simp
theorem zpy (f:Fm) (h0:0<=f.shift/\f.shift<=512):∀(bs:List Rw) (s:DSt),s.up<=(bs.foldl (uu f) s).up/\(bs.foldl (uu f) s).up<=s.up+512*(bs.length:Int)
  |[],s=>by simp
  |b::bs,s=>by
   rw[jA];have ih:=zpy f h0 bs (uu f s b)
   have e:s.up<=(uu f s b).up/\(uu f s b).up<=s.up+512:=by
     unfold uu;simp only[];split<;>omega
   simp only[qv];push_cast;omega
theorem zq6 (f:Fm) (h0:0<=f.shift/\f.shift<=512) (bs:List Rw):0<=(vY f bs).up/\(vY f bs).up<=512*(bs.length:Int):=by
  have h:=zpy f h0 bs ⟨[],0,0⟩;unfold vY;simpa using h
theorem zol (f:Fm):∀(bs:List Rw) (s:DSt),(bs.foldl (uu f) s).out.length=s.out.length+(bs.map λr=>r.items.length).sum
  |[],s=>by simp
  |b::bs,s=>by
   rw[jA,zol f bs];simp only[uu,qk,px,zl,List.sum_cons];omega
theorem zql (f:Fm) (bs:List Rw):(vY f bs).out.length=(bs.map λr=>r.items.length).sum:=by
  unfold vY;rw[zol];simp
theorem zpz (a:Nat):∀n,(List.replicate n a).sum=n*a
  |0=>by simp
  |n+1=>by rw[List.replicate_succ,List.sum_cons,zpz a n,Nat.succ_mul,Nat.add_comm]
theorem gH (rows:List Rw) (n:Int) (i:Nat) (hi:i<rows.length):vy (rows.take (i+1)) n=vy (rows.take i) n++List.replicate (ue n (rows.getD i ⟨false,[]⟩)) (rows.getD i ⟨false,[]⟩):=by
  unfold vy;rw[qJ hi,zJ];simp[qe,hi]
theorem zo4 (rows:List Rw) (n:Int) (i:Nat):∃cs,vy rows n=vy (rows.take i) n++cs:=by
  refine⟨vy (rows.drop i) n,?_⟩;unfold vy;rw[<-zJ,jG]
theorem Qa (rows:List Rw) (n:Int) (h0:0<=n):∀i,i<=rows.length->((((vy (rows.take i) n).map λr=>r.items.length).sum:Nat):Int)=ZF (rows.take i) n
  |0,_=>by simp[vy,ZF]
  |i+1,hi=>by
   have ih:=Qa rows n h0 i (by omega);rw[gH rows n i (by omega),zdx rows n i (by omega),zv,xY,yl,zpz];push_cast;rw[ih];unfold ziH ue;split
   · rw[show((n.toNat:Nat):Int)=n by omega]
   · simp
theorem gI (f:Fm) (n:Int) (h0:0<=n):((vH f n).length:Int)=ZF f.rows n:=by
  have h:=Qa f.rows n h0 f.rows.length (ql _);rw[qR] at h;unfold vH;rw[zql,h]
theorem py (rows:List Rw) (n:Int) (h0:0<=n) (h1:n<=512):∀i,i<=rows.length->(vy (rows.take i) n).length<=512*i
  |0,_=>by simp[vy]
  |i+1,hi=>by
   have ih:=py rows n h0 h1 i (by omega);rw[gH rows n i (by omega),qk,kz];have:ue n (rows.getD i ⟨false,[]⟩)<=512:=by unfold ue;split<;>omega
   omega
structure YD where
  k:Nat
  d:Dm
  v:Value
def zo5 (x:YD):Array Value:=#[.int .i64 (x.k:Int),.agg (Jl x.d x.v)]
def ztE (N0:Nat) (ds:List Dm) (pre:List YD) (x:YD) (W:World):Prop:=W.ownsRow N0 3 1 x.v x.d.has.length (ua x.d.has)/\x.d.has.length<=4/\x.k=pre.length/\ds[pre.length]?=some x.d
def Jv (xs:List YD) (ds:List Dm):Prop:=xs.map YD.d=ds/\xs.map YD.k=List.range xs.length
theorem Jv.len {xs:List YD} {ds:List Dm} (h:Jv xs ds):xs.length=ds.length:=by rw[<-h.1,kg]
theorem Jv.nil:Jv [] []:=⟨rfl,rfl⟩
theorem Jv.snoc {xs:List YD} {ds:List Dm} (h:Jv xs ds) (d:Dm) (v:Value):Jv (xs++[⟨ds.length,d,v⟩]) (ds++[d]):=by
  refine⟨by rw[zv,h.1];rfl,?_⟩;rw[zv,h.2,qk,zI,kw,h.len];rfl
def Zb (W W':World):Prop:=W.heap.size<=W'.heap.size/\∀(i:Nat) (cs:Array Value),W.heap[i]?=some (.cells cs 106 (0,0))->W'.heap[i]?=some (.cells cs 106 (0,0))
theorem Zb.trans {A B C:World} (h:Zb A B) (h2:Zb B C):Zb A C:=⟨qm h.1 h2.1,λi cs hi=>h2.2 i cs (h.2 i cs hi)⟩
theorem Zb.of_below {A B:World} (h:Below A.heap.size A B):Zb A B:=⟨h.size,λi cs hi=>(h.block i (qg hi).1).trans hi⟩
theorem Zb.put (W:World) (l:Nat) (o o':Obj) (h:W.heap[l]?=some o) (h1:o.isCells=false) (h2:o.isWalk=false):Zb W (W.putObj l o'):=by
  refine⟨by simp,λi cs hi=>?_⟩;by_cases e:i=l
  · subst e
    rw[h] at hi;cases hi;cases h1
  · exact(qV e).trans hi
structure JL (B fb fx rx:Nat) (f:Fm) (vl vm vs:Value) (n:Int) (vis:List Value) (ZR:Nat->List Value) (W:World):Prop where
  fm:Ze W B fb f vl vm vs
  x:W.heap[fx]?=some (.cells #[.pointer (some ⟨fb,0,none⟩)] 24 (0,0))
  r:W.heap[rx]?=some (.cells #[.int .i64 n] 3 (0,0))
  rw:RwM W B vs f.rows vis
  its:∀k,k<f.rows.length->ZA W B f.Qo (vis.getD k .nilFunc) (f.rows.getD k ⟨false,[]⟩).items (ZR k)
theorem Ze.parts {W:World} {B fb:Nat} {f:Fm} {vl vm vs:Value} (h:Ze W B fb f vl vm vs):∃(vis:List Value) (ZR:Nat->List Value),RwM W B vs f.rows vis/\∀k,k<f.rows.length->ZA W B f.Qo (vis.getD k .nilFunc) (f.rows.getD k ⟨false,[]⟩).items (ZR k):=by
  obtain⟨vis,h1,h2⟩:=h.r;refine⟨vis,λk=>if hk:k<f.rows.length then Classical.choose (h2 k hk) else [],h1,λk hk=>?_⟩;simp only[hk,jc];exact Classical.choose_spec (h2 k hk)
theorem zom {W:World} {B c:Nat} {A:Option Addr} {rows:List Rw} {vis:List Value} (h:RwM W B (.slice A rows.length c) rows vis) {k:Nat} (hk:k<rows.length):
    ∃g,A=some ⟨g,0,none⟩/\W.cell? ⟨g,k*2,none⟩=some (.bool (rows.getD k ⟨false,[]⟩).round)/\W.cell? ⟨g,k*2+1,none⟩=some (vis.getD k .nilFunc):=by
  rcases h.o.2 with⟨_,e0⟩|⟨g,cap,cur,e,_,hg,hcap,_⟩
  · omega
  · cases e
    have hlen:=zhn rows vis h.n;have hget:=zho rows vis k h.n hk;exact⟨g,rfl,(h.o.cellAt (k*2) (by omega)).trans hget.1,(h.o.cellAt (k*2+1) (by omega)).trans hget.2⟩
theorem znx {W:World} {B c:Nat} {Qo:List UInt8} {A:Option Addr} {l:List It} {Q1:List Value} (h:ZA W B Qo (.slice A l.length c) l Q1) {k:Nat} (hk:k<l.length):
    ∃g,A=some ⟨g,0,none⟩/\∀o,o<13->W.cell? ⟨g,k*13+o,none⟩=(ZE Qo (l.getD k Q7).cls (l.getD k Q7).ref (l.getD k Q7).Qq (l.getD k Q7).at_ (Q1.getD k .nilFunc))[o]?:=by
  rcases h.o.2 with⟨_,e0⟩|⟨g,cap,cur,e,_,hg,hcap,_⟩
  · omega
  · cases e
    have hlen:=zih Qo l Q1 h.n;refine⟨g,rfl,λo ho=>?_⟩;exact(h.o.cellAt (k*13+o) (by omega)).trans (zii Qo l Q1 k o h.n hk ho)
theorem zmW (B fb:Nat) (f:Fm) (vl vm vs:Value) (n:Int) (w:World) (h:Ze w B fb f vl vm vs):
    Calls Tryz.prog 38 #[.pointer (some ⟨fb,0,none⟩),.int .i64 n] w λe w'=>e=.returned (.int .i64 (if n<f.least∨f.most<n then 5 else 0))/\w=w':=by
  have c5:=h.cells.2.2.2.2.2.1;have c6:=h.cells.2.2.2.2.2.2.1;clear h;go_enter Tryz.func38,Tryz.ntmps38;by_cases h1:n<f.least
  · have d1:decide (n<f.least)=true:=qt h1
    rw[qq (.inl h1)];go_wp2_with fail;go_ret;exact⟨rfl,rfl⟩
  · have d1:decide (n<f.least)=false:=qd h1
    by_cases h2:f.most<n
    · have d2:decide (n>f.most)=true:=qt h2
      rw[qq (.inr h2)];go_wp2_with fail;go_ret;exact⟨rfl,rfl⟩
    · have d2:decide (n>f.most)=false:=qd (by omega)
      rw[qp (by omega)];go_wp2_with fail;go_ret;exact⟨rfl,rfl⟩
end Go.Proofs.YtgklikkddckgbaaGreatDoor.Mo

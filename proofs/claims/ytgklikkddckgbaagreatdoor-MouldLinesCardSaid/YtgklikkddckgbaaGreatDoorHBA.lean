import Derived.Test.YtgklikkddckgbaaGreatDoorHDO
/- Lemmas of the claim. -/
set_option linter.all false
namespace Go.Proofs.YtgklikkddckgbaaGreatDoor.Mo
open Go.RowKit
structure Dm where
  stz:Int
  cls:Int
  ref:Int
  met:Int
  syl:Int
  same:Int
  ends:Int
  has:List Int
  beg:Int
def backP (line n:Int):Int:=if n=0 then-1 else line-n
def demandP (letters:List UInt8) (x:It) (line stz up:Int):Dm:=
  ⟨stz,if 0≤x.cls then x.cls+up else x.cls,x.ref,zbQ letters x.marks,nOf x.marks 47,backP line (nOf x.marks 94),backP line (nOf x.marks 64),(zau x.marks).map (line-·),nOf x.marks 39⟩
def dmC (d:Dm) (vh:Value):Array Value:=#[.int .i64 d.stz,.int .i64 d.cls,.int .i64 d.ref,.int .i64 d.met,.int .i64 d.syl,.int .i64 d.same,.int .i64 d.ends,vh,.int .i32 d.beg]
theorem ago_any (line n:Int) (w:World) (h1:0≤line∧line≤1099511627776) (h2:0≤n∧n≤1099511627776):
    Calls Tryz.prog 61 #[.int .i64 line,.int .i64 n] w fun e w'=>e=.returned (.int .i64 (backP line n))∧w'=w:=by
  have hw1:IntKind.i64.wrap (line-n)=line-n:=qi _ (by omega);go_enter Tryz.func61,Tryz.ntmps61;by_cases h0:n=0
  · have d0:(n==0)=true:=by simpa using h0
    have e0:backP line n= -1:=if_pos h0;rw[e0];go_wp2_with fail;go_ret;exact⟨rfl,rfl⟩
  · have d0:(n==0)=false:=by simpa using h0
    have e0:backP line n=line-n:=if_neg h0;rw[e0];go_wp2_with fail;go_ret;exact⟨rfl,rfl⟩
theorem nOf_in {ms:List Mk} (hk:∀m∈ms,MkOk m) (c:Int):0≤nOf ms c∧nOf ms c≤512:=by
  unfold nOf;cases h:ms.find? (fun m=>m.sign==c) with
  |none=>exact⟨Int.le_refl _,by decide⟩
  |some x=>
   have hm:=hk x (List.mem_of_find?_eq_some h);by_cases h1:x.sign=58∨x.sign=39
   · have:=hm.lt h1;exact⟨by show 0≤x.n;omega,by show x.n≤512;omega⟩
   · have:=hm.nm (fun e=>h1 (.inl e)) (fun e=>h1 (.inr e));exact⟨by show 0≤x.n;omega,by show x.n≤512;omega⟩
theorem has_in {ms:List Mk} (hk:∀m∈ms,MkOk m):∀n∈zau ms,1≤n∧n≤512:=by
  intro n hn;obtain⟨m,hm,rfl⟩:=List.mem_map.1 hn;obtain⟨h1,h2⟩:=List.mem_filter.1 hm;have e:m.sign=126:=by simpa using h2
  exact(hk m h1).nm (by omega) (by omega)
theorem ba_call {P:Program} {o:Oper} {a:Act} {w:World} {f:FuncId} {args:Array Value} {K:Act→World→Prop} {Q:Exit→Act→World→Prop} (h:(execOp a.eval o).run P w=.ok (.enter f args) w)
    (hc:Calls P f args w fun e w'=>∃v,e=.returned v∧K (a.put o.dst v) w'):o.wp P a w K Q:=by
  unfold Oper.wp;rw[h];refine Calls.mono hc ?_;rintro e w' ⟨v,rfl,hk⟩;exact hk
theorem ba_value {P:Program} {Q:Exit→Act→World→Prop} {o:Oper} {a:Act} {w w':World} {v:Value} {K:Act→World→Prop} (h:(execOp a.eval o).run P w=.ok (.value v) w') (hk:K (a.put o.dst v) w'):o.wp P a w K Q:=by
  unfold Oper.wp;rw[h];exact hk
theorem ba_skip {P:Program} {Q:Exit→Act→World→Prop} {o:Oper} {a:Act} {w w':World} {K:Act→World→Prop} (h:(execOp a.eval o).run P w=.ok .skip w') (hk:K (a.put o.dst undef) w'):o.wp P a w K Q:=by
  unfold Oper.wp;rw[h];exact hk
theorem wpAnyX_two {P:Program} {ops:Array Oper} {Q:Exit→Act→World→Prop} {md:Region.Mode} {S:World→Prop} {X:Nat→Bool} {i j:Nat} {fuel:Nat} {listed:Array Bool} {a:Act} {w:World} (hr:Region.ready md ops listed=[i,j])
    (h1:wpOp P ops Q i (fun a' w'=>(X i=true∨S w')∧zbS P md ops Q S X fuel (listed.setIfInBounds i true) a' w') a w)
    (h2:wpOp P ops Q j (fun a' w'=>(X j=true∨S w')∧zbS P md ops Q S X fuel (listed.setIfInBounds j true) a' w') a w):zbS P md ops Q S X (fuel+1) listed a w:=
  ⟨(fun h0=>absurd (hr▸h0) (by simp)),fun k hk=>by
    rw[hr] at hk;have hk2:k=i∨k=j:=(by simpa using hk);rcases hk2 with rfl|rfl
    · exact h1
    · exact h2⟩
def dm0 (letters:List UInt8) (x:It) (line stz up:Int):Dm:=
  ⟨stz,x.cls,x.ref,zbQ letters x.marks,nOf x.marks 47,backP line (nOf x.marks 94),backP line (nOf x.marks 64),(zau x.marks).map (line-·),nOf x.marks 39⟩
def zD:Array Value:=#[.int .i64 0,.int .i64 0,.int .i64 0,.int .i64 0,.int .i64 0,.int .i64 0,.int .i64 0,.slice none 0 0,.int .i32 0]
structure DL (w:World) (pb xb:Nat) (letters:List UInt8) (x:It) (vx:Value) (dd:Dm) (k:Nat) (v:Value) (wr:World):Prop where
  bl:Below w.heap.size w wr
  hx:w.heap.size≤xb
  lt:xb+1<pb
  d:wr.heap[pb]?=some (.cells (dmC dd v) 45 (0,0))
  z:wr.heap[xb+1]?=some (.cells zD 45 (0,0))
  x:wr.heap[xb]?=some (.cells (itC letters x.cls x.ref x.marks x.at_ vx) 108 (0,0))
  o:wr.ownsRow w.heap.size 3 1 v k (intC (dd.has.take k))
theorem DL.cls {w wr:World} {pb xb:Nat} {letters:List UInt8} {x:It} {vx v:Value} {dd d':Dm} {k:Nat} (h:DL w pb xb letters x vx dd k v wr) (c:Int) (hd:d'={dd with cls:=c}):DL w pb xb letters x vx d' k v (wr.setCell ⟨pb,1,none⟩ (.int .i64 c)):=by
  subst hd;have ho:Off [pb] wr (wr.setCell ⟨pb,1,none⟩ (.int .i64 c)):=Off.setCell wr pb 1 _;have h1:=h.lt;refine⟨h.bl.setCell (p:=⟨pb,1,none⟩) (by have:=h.hx;show w.heap.size≤pb;omega) _,h.hx,h.lt,qs wr pb 1 _ _ _ h.d,(qT _ _ _ _ (by show xb+1≠pb;omega)).trans h.z,(qT _ _ _ _ (by show xb≠pb;omega)).trans h.x,ho.own h.o (fun j hj=>?_)⟩;intro hm;have e:j=pb:=by simpa using hm
  subst e;rcases zac h.o h.d (by decide) with h0|h0
  · rw[h0] at hj;cases hj
  · exact h0 hj
theorem DL.step {w wr:World} {pb xb:Nat} {letters:List UInt8} {x:It} {vx v:Value} {line stz up:Int} {k:Nat} (h:DL w pb xb letters x vx (demandP letters x line stz up) k v wr) {v5:Value} {w5:World} (hk:k<(zau x.marks).length)
    (ho:w5.ownsRow w.heap.size 3 1 v5 (k+1) (intC ((demandP letters x line stz up).has.take k)++[.int .i64 (line-(zau x.marks).getD k 0)])) (hg:wr.grownBy w5 v.ownBlock) (hl:v5.ownBlock=v.ownBlock∨∃b,v5.ownBlock=some b∧wr.heap.size≤b):
    w5.cell? ⟨pb,7,none⟩=some v∧w5.frozen? ⟨pb,7,none⟩=false∧Hid (DL w pb xb letters x vx (demandP letters x line stz up) (k+1) v5 (w5.setCell ⟨pb,7,none⟩ v5)):=by
  have h1:=h.lt;have h2:=h.hx
  have keep:∀{b:Nat} {cs:Array Value} {t:Nat},wr.heap[b]?=some (.cells cs t (0,0))→3≠t→w5.heap[b]?=some (.cells cs t (0,0)):=fun{b cs t} hb ht=>by
    refine(hg.block b (qg hb).1 (fun e=>?_)).trans hb;rcases zac h.o hb ht with h0|h0
    · rw[h0] at e;cases e
    · exact h0 e.symm
  have hd5:=keep h.d (by decide);have hos:Off [pb] w5 (w5.setCell ⟨pb,7,none⟩ v5):=Off.setCell w5 pb 7 _;refine⟨qc _ _ 7 _ _ (0,0) hd5,qf _ _ 7 _ _ hd5,qh ⟨(h.bl.grown hg h.bl.size (fun b e=>(h.o.lt b e).1)).setCell (p:=⟨pb,7,none⟩) (by show w.heap.size≤pb;omega) _,h.hx,h.lt,qs w5 pb 7 _ _ v5 hd5,(qT _ _ _ _ (by show xb+1≠pb;omega)).trans (keep h.z (by decide)),(qT _ _ _ _ (by show xb≠pb;omega)).trans (keep h.x (by decide)),?_⟩⟩
  have e:intC ((demandP letters x line stz up).has.take (k+1))=intC ((demandP letters x line stz up).has.take k)++[.int .i64 (line-(zau x.marks).getD k 0)]:=by
    have hk2:k<(demandP letters x line stz up).has.length:=(by unfold demandP;simpa using hk);rw[List.take_succ_eq_append_getElem hk2];unfold intC demandP;simp[List.getD_eq_getElem?_getD,hk];exact List.getElem_map _
  rw[e];refine hos.own ho (fun j hj=>?_);intro hm;have e2:j=pb:=by simpa using hm
  subst e2;rcases hl with e5|⟨b,e5,hb⟩
  · rw[e5] at hj
    rcases zac h.o h.d (by decide) with h0|h0
    · rw[h0] at hj;cases hj
    · exact h0 hj
  · rw[e5] at hj;cases hj
    have:=(qg h.d).1;omega
theorem sq {W:World} {P t k:Nat} {cs cs':Array Value} {v:Value} (h:W.heap[P]?=some (.cells cs t (0,0))) (e:cs.setIfInBounds k v=cs'):(W.setCell ⟨P,k,none⟩ v).heap[P]?=some (.cells cs' t (0,0)):=by rw[←e];exact qs _ _ _ _ _ _ h
theorem dset9 {W:World} {P:Nat} {x0 x1 x2 x3 x4 x5 x6 x7 x8:Value} (h:W.heap[P]?=some (.cells #[x0,x1,x2,x3,x4,x5,x6,x7,x8] 45 (0,0))) (v0 v1 v2 v3 v4 v5 v6 v7 v8:Value):
    (((((((((W.setCell ⟨P,0,none⟩ v0).setCell ⟨P,1,none⟩ v1).setCell ⟨P,2,none⟩ v2).setCell ⟨P,3,none⟩ v3).setCell ⟨P,4,none⟩ v4).setCell ⟨P,5,none⟩ v5).setCell ⟨P,6,none⟩ v6).setCell ⟨P,7,none⟩ v7).setCell ⟨P,8,none⟩ v8).heap[P]?=some (.cells #[v0,v1,v2,v3,v4,v5,v6,v7,v8] 45 (0,0))∧Off [P] W (((((((((W.setCell ⟨P,0,none⟩ v0).setCell ⟨P,1,none⟩ v1).setCell ⟨P,2,none⟩ v2).setCell ⟨P,3,none⟩ v3).setCell ⟨P,4,none⟩ v4).setCell ⟨P,5,none⟩ v5).setCell ⟨P,6,none⟩ v6).setCell ⟨P,7,none⟩ v7).setCell ⟨P,8,none⟩ v8):=by
  exact⟨(sq (k:=8) (v:=v8) (cs':=#[v0,v1,v2,v3,v4,v5,v6,v7,v8]) (sq (k:=7) (v:=v7) (cs':=#[v0,v1,v2,v3,v4,v5,v6,v7,x8]) (sq (k:=6) (v:=v6) (cs':=#[v0,v1,v2,v3,v4,v5,v6,x7,x8]) (sq (k:=5) (v:=v5) (cs':=#[v0,v1,v2,v3,v4,v5,x6,x7,x8]) (sq (k:=4) (v:=v4) (cs':=#[v0,v1,v2,v3,v4,x5,x6,x7,x8]) (sq (k:=3) (v:=v3) (cs':=#[v0,v1,v2,v3,x4,x5,x6,x7,x8]) (sq (k:=2) (v:=v2) (cs':=#[v0,v1,v2,x3,x4,x5,x6,x7,x8]) (sq (k:=1) (v:=v1) (cs':=#[v0,v1,x2,x3,x4,x5,x6,x7,x8]) (sq (k:=0) (v:=v0) (cs':=#[v0,x1,x2,x3,x4,x5,x6,x7,x8]) h rfl) rfl) rfl) rfl) rfl) rfl) rfl) rfl) rfl),(((((((((Off.setCell W P 0 v0).trans (Off.setCell _ P 1 v1)).trans (Off.setCell _ P 2 v2)).trans (Off.setCell _ P 3 v3)).trans (Off.setCell _ P 4 v4)).trans (Off.setCell _ P 5 v5)).trans (Off.setCell _ P 6 v6)).trans (Off.setCell _ P 7 v7)).trans (Off.setCell _ P 8 v8))⟩
theorem dm_end {W:World} {T:Array Value} {Q:Ending→World→Prop} {P:Nat} {v0 v1 v2 v3 v4 v5 v6 v7 v8:Value} (h8:T.getD 8 undef=.pointer (some ⟨P,0,none⟩)) (r:W.heap[P]?=some (.cells #[v0,v1,v2,v3,v4,v5,v6,v7,v8] 45 (0,0))) (hQ:Q (.returned (.agg #[v0,v1,v2,v3,v4,v5,v6,v7,v8])) W):
    bodyPost Tryz.prog Tryz.f39 Q Exit.ret {tmps:=T,defers:=[]} W:=by
  have d0:W.cell? ⟨P,0,none⟩=some v0:=qc _ _ _ _ _ (0,0) r;have d1:W.cell? ⟨P,1,none⟩=some v1:=qc _ _ _ _ _ (0,0) r;have d2:W.cell? ⟨P,2,none⟩=some v2:=qc _ _ _ _ _ (0,0) r;have d3:W.cell? ⟨P,3,none⟩=some v3:=qc _ _ _ _ _ (0,0) r;have d4:W.cell? ⟨P,4,none⟩=some v4:=qc _ _ _ _ _ (0,0) r;have d5:W.cell? ⟨P,5,none⟩=some v5:=qc _ _ _ _ _ (0,0) r;have d6:W.cell? ⟨P,6,none⟩=some v6:=qc _ _ _ _ _ (0,0) r;have d7:W.cell? ⟨P,7,none⟩=some v7:=qc _ _ _ _ _ (0,0) r;have d8:W.cell? ⟨P,8,none⟩=some v8:=qc _ _ _ _ _ (0,0) r;have h8':T[8]?.getD undef=.pointer (some ⟨P,0,none⟩):=by simpa using h8
  refine bodyPost_ret (v:=.agg #[v0,v1,v2,v3,v4,v5,v6,v7,v8]) ?_ rfl hQ;simp[results,Tryz.f39,go_sem,h8',d0,d1,d2,d3,d4,d5,d6,d7,d8,Tryz.isAgg45,Tryz.sizeOf45]
def DmOk (d:Dm) (w:World) (e:Ending) (w':World):Prop:=Below w.heap.size w w'∧∃vh,e=.returned (.agg (dmC d vh))∧w'.ownsRow w.heap.size 3 1 vh d.has.length (intC d.has)
set_option maxRecDepth 100000 in
set_option maxHeartbeats 4000000 in
theorem demand_any (letters:List UInt8) (x:It) (vx:Value) (line stz up:Int) (w:World) (B:Nat) (hx:ItOk x) (hh:w.ownsRow B 3 1 vx (zau x.marks).length (intC (zau x.marks)))
    (h1:0≤line∧line≤1099511627776) (h2:0≤stz∧stz≤1099511627776) (h3:0≤up∧up≤1099511627776):
    Calls Tryz.prog 39 #[.agg (itC letters x.cls x.ref x.marks x.at_ vx),.int .i64 line,.int .i64 stz,.int .i64 up] w (DmOk (demandP letters x line stz up) w):=by
  obtain⟨Ah,ch,hvx⟩:=zab hh;subst hvx;have Hx:=qh hx;have Hh:=qh hh;have n94:=nOf_in hx.mks 94;have n64:=nOf_in hx.mks 64;have hcl:=hx.cl;have Hb1:=qh fun W=>ago_any line (nOf x.marks 94) W (by omega) (by omega);have Hb2:=qh fun W=>ago_any line (nOf x.marks 64) W (by omega) (by omega);unfold itC;clear hx hh;go_enter Tryz.func39,Tryz.ntmps39;go_wp2_with fail;have hxX:((w.alloc (.cells #[.int .i64 x.cls,.int .i64 x.ref,.int .i64 (zbQ letters x.marks),.int .u8 (nOf x.marks 58),.int .i64 (nOf x.marks 47),.int .i64 (nOf x.marks 94),.int .i64 (nOf x.marks 64),.slice Ah (zau x.marks).length ch,.int .i32 (nOf x.marks 39),.int .i64 x.at_,.int .i64 (zai x.marks),.bool (zat x.marks 58),.bool (zat x.marks 47)] 108)).alloc (.cells #[.int .i64 0,.int .i64 0,.int .i64 0,.int .i64 0,.int .i64 0,.int .i64 0,.int .i64 0,.slice none 0 0,.int .i32 0] 45)).heap[w.heap.size]?=some (.cells #[.int .i64 x.cls,.int .i64 x.ref,.int .i64 (zbQ letters x.marks),.int .u8 (nOf x.marks 58),.int .i64 (nOf x.marks 47),.int .i64 (nOf x.marks 94),.int .i64 (nOf x.marks 64),.slice Ah (zau x.marks).length ch,.int .i32 (nOf x.marks 39),.int .i64 x.at_,.int .i64 (zai x.marks),.bool (zat x.marks 58),.bool (zat x.marks 47)] 108 (0,0)):=(qa _ _ _ (by simp)).trans (qn w _);have hbX:=((qb w.heap.size w).alloc (ql _) (.cells #[.int .i64 x.cls,.int .i64 x.ref,.int .i64 (zbQ letters x.marks),.int .u8 (nOf x.marks 58),.int .i64 (nOf x.marks 47),.int .i64 (nOf x.marks 94),.int .i64 (nOf x.marks 64),.slice Ah (zau x.marks).length ch,.int .i32 (nOf x.marks 39),.int .i64 x.at_,.int .i64 (zai x.marks),.bool (zat x.marks 58),.bool (zat x.marks 47)] 108)).alloc (by simp) (.cells #[.int .i64 0,.int .i64 0,.int .i64 0,.int .i64 0,.int .i64 0,.int .i64 0,.int .i64 0,.slice none 0 0,.int .i32 0] 45);have hpX:=qn (w.alloc (.cells #[.int .i64 x.cls,.int .i64 x.ref,.int .i64 (zbQ letters x.marks),.int .u8 (nOf x.marks 58),.int .i64 (nOf x.marks 47),.int .i64 (nOf x.marks 94),.int .i64 (nOf x.marks 64),.slice Ah (zau x.marks).length ch,.int .i32 (nOf x.marks 39),.int .i64 x.at_,.int .i64 (zai x.marks),.bool (zat x.marks 58),.bool (zat x.marks 47)] 108)) (.cells #[.int .i64 0,.int .i64 0,.int .i64 0,.int .i64 0,.int .i64 0,.int .i64 0,.int .i64 0,.slice none 0 0,.int .i32 0] 45);have hsz:(w.alloc (.cells #[.int .i64 x.cls,.int .i64 x.ref,.int .i64 (zbQ letters x.marks),.int .u8 (nOf x.marks 58),.int .i64 (nOf x.marks 47),.int .i64 (nOf x.marks 94),.int .i64 (nOf x.marks 64),.slice Ah (zau x.marks).length ch,.int .i32 (nOf x.marks 39),.int .i64 x.at_,.int .i64 (zai x.marks),.bool (zat x.marks 58),.bool (zat x.marks 47)] 108)).heap.size=w.heap.size+1:=by simp
  rw[hsz] at hpX;generalize ((w.alloc (.cells #[.int .i64 x.cls,.int .i64 x.ref,.int .i64 (zbQ letters x.marks),.int .u8 (nOf x.marks 58),.int .i64 (nOf x.marks 47),.int .i64 (nOf x.marks 94),.int .i64 (nOf x.marks 64),.slice Ah (zau x.marks).length ch,.int .i32 (nOf x.marks 39),.int .i64 x.at_,.int .i64 (zai x.marks),.bool (zat x.marks 58),.bool (zat x.marks 47)] 108)).alloc (.cells #[.int .i64 0,.int .i64 0,.int .i64 0,.int .i64 0,.int .i64 0,.int .i64 0,.int .i64 0,.slice none 0 0,.int .i32 0] 45))=W at hxX hbX hpX⊢;obtain⟨xb,hxb⟩:∃b:Nat,w.heap.size=b:=⟨_,rfl⟩;rw[hxb] at hxX hpX⊢
  have hKeep:∀w',Below W.heap.size W w'→w'.cell? ⟨xb,0,none⟩=some (.int .i64 x.cls)∧w'.cell? ⟨xb,1,none⟩=some (.int .i64 x.ref)∧w'.cell? ⟨xb,2,none⟩=some (.int .i64 (zbQ letters x.marks))∧w'.cell? ⟨xb,4,none⟩=some (.int .i64 (nOf x.marks 47))∧w'.cell? ⟨xb,5,none⟩=some (.int .i64 (nOf x.marks 94))∧w'.cell? ⟨xb,6,none⟩=some (.int .i64 (nOf x.marks 64))∧w'.cell? ⟨xb,8,none⟩=some (.int .i32 (nOf x.marks 39)):=by
    intro w' hb;have h1:=(hb.block xb (qg hxX).1).trans hxX;exact⟨qc _ _ 0 _ _ (0,0) h1,qc _ _ 1 _ _ (0,0) h1,qc _ _ 2 _ _ (0,0) h1,qc _ _ 4 _ _ (0,0) h1,qc _ _ 5 _ _ (0,0) h1,qc _ _ 6 _ _ (0,0) h1,qc _ _ 8 _ _ (0,0) h1⟩
  refine zhw (S:=fun w'=>w'.cell? ⟨xb,0,none⟩=some (.int .i64 x.cls)∧w'.cell? ⟨xb,1,none⟩=some (.int .i64 x.ref)∧w'.cell? ⟨xb,2,none⟩=some (.int .i64 (zbQ letters x.marks))∧w'.cell? ⟨xb,4,none⟩=some (.int .i64 (nOf x.marks 47))∧w'.cell? ⟨xb,5,none⟩=some (.int .i64 (nOf x.marks 94))∧w'.cell? ⟨xb,6,none⟩=some (.int .i64 (nOf x.marks 64))∧w'.cell? ⟨xb,8,none⟩=some (.int .i32 (nOf x.marks 39))) (X:=fun x=>[19].contains x) (by kernel_rfl) ?_;have hHeld:=hKeep W.drew (zc3 (qb _ _) 1)
  --R1
  rename_i K hK
  have Hrest:K {tmps:=#[.agg #[.int .i64 x.cls,.int .i64 x.ref,.int .i64 (zbQ letters x.marks),.int .u8 (nOf x.marks 58),.int .i64 (nOf x.marks 47),.int .i64 (nOf x.marks 94),.int .i64 (nOf x.marks 64),.slice Ah (zau x.marks).length ch,.int .i32 (nOf x.marks 39),.int .i64 x.at_,.int .i64 (zai x.marks),.bool (zat x.marks 58),.bool (zat x.marks 47)],.int .i64 line,.int .i64 stz,.int .i64 up,.pointer (some ⟨xb,0,none⟩),undef,undef,undef,.pointer (some ⟨(xb+1),0,none⟩),.pointer (some ⟨W.heap.size,0,none⟩),undef,undef,.int .i64 stz,.pointer (some ⟨xb,0,none⟩),.agg #[.int .i64 x.cls,.int .i64 x.ref],.pointer (some ⟨xb,2,none⟩),.int .i64 (zbQ letters x.marks),.pointer (some ⟨xb,4,none⟩),.int .i64 (nOf x.marks 47),.int .i64 line,.pointer (some ⟨xb,5,none⟩),.int .i64 (nOf x.marks 94),.int .i64 (backP line (nOf x.marks 94)),.int .i64 line,.pointer (some ⟨xb,6,none⟩),.int .i64 (nOf x.marks 64),.int .i64 (backP line (nOf x.marks 64)),.pointer (some ⟨xb,8,none⟩),.int .i32 (nOf x.marks 39),.agg #[.int .i64 stz,.int .i64 x.cls,.int .i64 x.ref,.int .i64 (zbQ letters x.marks),.int .i64 (nOf x.marks 47),.int .i64 (backP line (nOf x.marks 94)),.int .i64 (backP line (nOf x.marks 64)),.slice none 0 0,.int .i32 (nOf x.marks 39)],undef,undef,undef,undef,undef,undef,undef,undef,undef,undef,undef,undef,undef,undef,undef,undef,undef,undef,undef,undef,undef,undef,undef,undef,undef,undef,undef,undef],defers:=[]} ((W.alloc (.cells #[.int .i64 stz,.int .i64 x.cls,.int .i64 x.ref,.int .i64 (zbQ letters x.marks),.int .i64 (nOf x.marks 47),.int .i64 (backP line (nOf x.marks 94)),.int .i64 (backP line (nOf x.marks 64)),.slice none 0 0,.int .i32 (nOf x.marks 39)] 45)).drew):=by
    apply hK;clear hKeep hHeld;obtain⟨pb,hpb⟩:∃b:Nat,W.heap.size=b:=⟨_,rfl⟩;have hd2:((W.alloc (.cells #[.int .i64 stz,.int .i64 x.cls,.int .i64 x.ref,.int .i64 (zbQ letters x.marks),.int .i64 (nOf x.marks 47),.int .i64 (backP line (nOf x.marks 94)),.int .i64 (backP line (nOf x.marks 64)),.slice none 0 0,.int .i32 (nOf x.marks 39)] 45)).drew).heap[W.heap.size]?=some (.cells #[.int .i64 stz,.int .i64 x.cls,.int .i64 x.ref,.int .i64 (zbQ letters x.marks),.int .i64 (nOf x.marks 47),.int .i64 (backP line (nOf x.marks 94)),.int .i64 (backP line (nOf x.marks 64)),.slice none 0 0,.int .i32 (nOf x.marks 39)] 45 (0,0)):=qn W _;have hb2:Below W.heap.size W ((W.alloc (.cells #[.int .i64 stz,.int .i64 x.cls,.int .i64 x.ref,.int .i64 (zbQ letters x.marks),.int .i64 (nOf x.marks 47),.int .i64 (backP line (nOf x.marks 94)),.int .i64 (backP line (nOf x.marks 64)),.slice none 0 0,.int .i32 (nOf x.marks 39)] 45)).drew):=zc3 ((qb _ _).alloc (ql _) _) 1;have hx2:=(hb2.block xb (qg hxX).1).trans hxX;have hz2:=(hb2.block (xb+1) (qg hpX).1).trans hpX;have hlt:xb+1<pb:=(by rw[←hpb];exact(qg hpX).1);have hbw:=hbX.trans (hb2.mono (by have:=hbX.size;omega));rw[hpb] at hd2;rw[hpb];generalize ((W.alloc (.cells #[.int .i64 stz,.int .i64 x.cls,.int .i64 x.ref,.int .i64 (zbQ letters x.marks),.int .i64 (nOf x.marks 47),.int .i64 (backP line (nOf x.marks 94)),.int .i64 (backP line (nOf x.marks 64)),.slice none 0 0,.int .i32 (nOf x.marks 39)] 45)).drew)=W2 at hd2 hb2 hx2 hz2 hbw⊢;have hDL:DL w pb xb letters x (.slice Ah (zau x.marks).length ch) (dm0 letters x line stz up) 0 (.slice none 0 0) W2:=⟨hbw,by omega,hlt,hd2,hz2,hx2,⟨rfl,.inl ⟨rfl,rfl⟩⟩⟩;have HDL:=qh hDL;have d1:=qc _ _ 1 _ _ (0,0) hd2;have f1:=qf _ _ 1 _ _ hd2;have x7:=qc _ _ 7 _ _ (0,0) hx2;have Hn4:=qh (show(zau x.marks).length≤4 by rw[zfL];exact Hx.out.four);have hlt3:pb≠xb:=(by omega);clear hxX hbX hpX hsz hb2 hx2 hz2 hd2 hbw hDL hpb Hb1 Hb2;by_cases hc0:0≤x.cls
    case' pos=>
      have g1:decide (x.cls≥0)=true:=qt hc0;have hw1:IntKind.i64.wrap (x.cls+up)=x.cls+up:=qi _ (by omega);have x7b:(W2.setCell ⟨pb,1,none⟩ (.int .i64 (x.cls+up))).cell? ⟨xb,7,none⟩=some (.slice Ah (zau x.marks).length ch):=(World.cell?_setCell_far _ _ _ _ hlt3).trans x7;have HDL3:=qh (HDL.out.cls (x.cls+up) (d':=demandP letters x line stz up) (by unfold demandP dm0;rw[if_pos hc0]));clear HDL;go_wp2_with fail;generalize (W2.setCell ⟨pb,1,none⟩ (.int .i64 (x.cls+up)))=W3 at HDL3 x7b⊢;clear d1 f1 g1
    case' neg=>
      have g1:decide (x.cls≥0)=false:=qd (by omega)
      have HDL3:Hid (DL w pb xb letters x (.slice Ah (zau x.marks).length ch) (demandP letters x line stz up) 0 (.slice none 0 0) W2):=qh (by
        have e:demandP letters x line stz up=dm0 letters x line stz up:=(by unfold demandP dm0;rw[if_neg hc0]);rw[e];exact HDL.out)
      clear HDL;go_wp2_with fail;clear d1 f1 g1
    all_goals
      go_loopw [44] (fun v44 wr=>∃(k:Nat) (v:Value),k≤(zau x.marks).length∧v44=.int .i64 k∧Hid (DL w pb xb letters x (.slice Ah (zau x.marks).length ch) (demandP letters x line stz up) k v wr)) (fun v44 _=>(zau x.marks).length-(intOf v44).toNat)
      case atStart=>exact⟨0,_,by omega,rfl,HDL3⟩
      case round=>
        rename_i wr;obtain⟨k,v,hk,rfl,hDL⟩:=hrel;obtain⟨A3,c3,hv3⟩:=zab hDL.out.o;subst hv3;have hrowd:=hDL.out.d;have d7:wr.cell? ⟨pb,7,none⟩=some (.slice A3 k c3):=qc _ _ 7 _ _ (0,0) hrowd;by_cases hlt2:k<(zau x.marks).length
        · obtain⟨A2,c2,e2,_,hgk⟩:=zdO ((Off.of_below hDL.out.bl (ql _) []).own Hh.out (by simp))
          cases e2;obtain⟨g,rfl,hg,hcell⟩:=hgk (by omega);have c11:=hcell k hlt2;have i1:(0:Int)≤(k:Int):=(by omega);have i2:(k:Int)<((zau x.marks).length:Int):=(by omega);have hm:=has_in Hx.out.mks ((zau x.marks).getD k 0) (by rw[List.getD_eq_getElem?_getD,List.getElem?_eq_getElem hlt2];exact qM hlt2);have Hst:=qh (fun v5 w5=>hDL.out.step (v5:=v5) (w5:=w5) hlt2);generalize (zau x.marks).getD k 0=m at c11 hm Hst;have hw2:IntKind.i64.wrap (line-m)=line-m:=qi _ (by omega);have hBw:w.heap.size≤wr.heap.size:=hDL.out.bl.size;have hn4:=Hn4.out;clear hrowd hcell hgk;go_wp2_with (at_builtin;go_loud (refine zae wr rfl _ _ 43 rfl w.heap.size 3 _ _ 1 8 Tryz.underlying43 zlM zlN zlO zjx rfl (by decide) (.slice A3 k c3) k (intC ((demandP letters x line stz up).has.take k)) #[.int .i64 (line-m)] wr.heap.size rfl rfl rfl hDL.out.o rfl (by intro u hu;simp at hu;subst hu;rfl) (by unfold maxLen;omega) (by omega) hBw ?_;intro v5 w5 hown5 hgr5 hl5;obtain⟨d5,f5,HF5⟩:=Hst.out v5 w5 hown5 hgr5 hl5;obtain⟨g5,cap5,rfl⟩:=zak hown5 (by omega);clear hown5 hgr5 hl5));go_roundw
          case rel=>exact⟨k+1,_,by omega,by go_num,HF5⟩
          case measure=>simp[intOf];omega
        · obtain rfl:k=(zau x.marks).length:=by omega
          have hrowz:=hDL.out.z;clear d7;have y0:wr.cell? ⟨pb,0,none⟩=some (.int .i64 stz):=qc _ _ 0 _ _ (0,0) hrowd;have y1:wr.cell? ⟨pb,1,none⟩=some (.int .i64 (demandP letters x line stz up).cls):=qc _ _ 1 _ _ (0,0) hrowd;have y2:wr.cell? ⟨pb,2,none⟩=some (.int .i64 x.ref):=qc _ _ 2 _ _ (0,0) hrowd;have y3:wr.cell? ⟨pb,3,none⟩=some (.int .i64 (zbQ letters x.marks)):=qc _ _ 3 _ _ (0,0) hrowd;have y4:wr.cell? ⟨pb,4,none⟩=some (.int .i64 (nOf x.marks 47)):=qc _ _ 4 _ _ (0,0) hrowd;have y5:wr.cell? ⟨pb,5,none⟩=some (.int .i64 (backP line (nOf x.marks 94))):=qc _ _ 5 _ _ (0,0) hrowd;have y6:wr.cell? ⟨pb,6,none⟩=some (.int .i64 (backP line (nOf x.marks 64))):=qc _ _ 6 _ _ (0,0) hrowd;have y7:wr.cell? ⟨pb,7,none⟩=some (.slice A3 (zau x.marks).length c3):=qc _ _ 7 _ _ (0,0) hrowd;have y8:wr.cell? ⟨pb,8,none⟩=some (.int .i32 (nOf x.marks 39)):=qc _ _ 8 _ _ (0,0) hrowd;have u0:wr.cell? ⟨xb+1,0,none⟩=some (.int .i64 0):=qc _ _ 0 _ _ (0,0) hrowz;have z0:=qf _ _ 0 _ _ hrowz;have u1:wr.cell? ⟨xb+1,1,none⟩=some (.int .i64 0):=qc _ _ 1 _ _ (0,0) hrowz;have z1:=qf _ _ 1 _ _ hrowz;have u2:wr.cell? ⟨xb+1,2,none⟩=some (.int .i64 0):=qc _ _ 2 _ _ (0,0) hrowz;have z2:=qf _ _ 2 _ _ hrowz;have u3:wr.cell? ⟨xb+1,3,none⟩=some (.int .i64 0):=qc _ _ 3 _ _ (0,0) hrowz;have z3:=qf _ _ 3 _ _ hrowz;have u4:wr.cell? ⟨xb+1,4,none⟩=some (.int .i64 0):=qc _ _ 4 _ _ (0,0) hrowz;have z4:=qf _ _ 4 _ _ hrowz;have u5:wr.cell? ⟨xb+1,5,none⟩=some (.int .i64 0):=qc _ _ 5 _ _ (0,0) hrowz;have z5:=qf _ _ 5 _ _ hrowz;have u6:wr.cell? ⟨xb+1,6,none⟩=some (.int .i64 0):=qc _ _ 6 _ _ (0,0) hrowz;have z6:=qf _ _ 6 _ _ hrowz;have u7:wr.cell? ⟨xb+1,7,none⟩=some (.slice none 0 0):=qc _ _ 7 _ _ (0,0) hrowz;have z7:=qf _ _ 7 _ _ hrowz;have u8:wr.cell? ⟨xb+1,8,none⟩=some (.int .i32 0):=qc _ _ 8 _ _ (0,0) hrowz;have z8:=qf _ _ 8 _ _ hrowz;have HE:=qh (dset9 hrowz (.int .i64 stz) (.int .i64 (demandP letters x line stz up).cls) (.int .i64 x.ref) (.int .i64 (zbQ letters x.marks)) (.int .i64 (nOf x.marks 47)) (.int .i64 (backP line (nOf x.marks 94))) (.int .i64 (backP line (nOf x.marks 64))) (.slice A3 (zau x.marks).length c3) (.int .i32 (nOf x.marks 39)));have hxb2:w.heap.size≤xb+1:=(by omega);clear hrowd hrowz;go_wp2_with fail;refine dm_end rfl HE.out.1 ⟨hDL.out.bl.trans (HE.out.2.below hDL.out.bl.size (fun k hk=>by simp at hk;omega)),_,rfl,?_⟩
          have ho:=HE.out.2.own hDL.out.o (fun k hk=>by
            intro hm;have e:k=xb+1:=(by simpa using hm);subst e;rcases zac hDL.out.o hDL.out.z (by decide) with h0|h0
            · rw[h0] at hk;cases hk
            · exact h0 hk)
          have e1:(demandP letters x line stz up).has.length=(zau x.marks).length:=(by unfold demandP;simp);rw[←e1,List.take_length] at ho;rw[e1] at ho⊢;exact ho
  refine zaj (i:=0) (v:=?_) rfl (by kernel_rfl) (by kernel_rfl) (by kernel_rfl) (by kernel_rfl) (fun _ _ _ h=>h) (Or.inl ⟨by rfl,?_⟩) (by assumption) ?_;rotate_left
  · intro w hSw
    obtain⟨hS0,hS1,hS2,hS3,hS4,hS5,hS6⟩:=hSw;go_simp;try with_reducible rfl
  simp only[Act.put,List.getElem_toArray,List.getElem_cons_zero,List.getElem_cons_succ,List.setIfInBounds_toArray,List.set_cons_zero,List.set_cons_succ];refine zaj (i:=1) (v:=?_) rfl (by kernel_rfl) (by kernel_rfl) (by kernel_rfl) (by kernel_rfl) (fun _ _ _ h=>h) (Or.inl ⟨by rfl,?_⟩) (by assumption) ?_;rotate_left
  · intro w hSw
    obtain⟨hS0,hS1,hS2,hS3,hS4,hS5,hS6⟩:=hSw;go_simp;try with_reducible rfl
  simp only[Act.put,List.getElem_toArray,List.getElem_cons_zero,List.getElem_cons_succ,List.setIfInBounds_toArray,List.set_cons_zero,List.set_cons_succ];refine zaj (i:=2) (v:=?_) rfl (by kernel_rfl) (by kernel_rfl) (by kernel_rfl) (by kernel_rfl) (fun _ _ _ h=>h) (Or.inl ⟨by rfl,?_⟩) (by assumption) ?_;rotate_left
  · intro w hSw
    obtain⟨hS0,hS1,hS2,hS3,hS4,hS5,hS6⟩:=hSw;go_simp;try with_reducible rfl
  simp only[Act.put,List.getElem_toArray,List.getElem_cons_zero,List.getElem_cons_succ,List.setIfInBounds_toArray,List.set_cons_zero,List.set_cons_succ];refine zaj (i:=3) (v:=?_) rfl (by kernel_rfl) (by kernel_rfl) (by kernel_rfl) (by kernel_rfl) (fun _ _ _ h=>h) (Or.inl ⟨by rfl,?_⟩) (by assumption) ?_;rotate_left
  · intro w hSw
    obtain⟨hS0,hS1,hS2,hS3,hS4,hS5,hS6⟩:=hSw;go_simp;try with_reducible rfl
  simp only[Act.put,List.getElem_toArray,List.getElem_cons_zero,List.getElem_cons_succ,List.setIfInBounds_toArray,List.set_cons_zero,List.set_cons_succ];refine zaj (i:=4) (v:=?_) rfl (by kernel_rfl) (by kernel_rfl) (by kernel_rfl) (by kernel_rfl) (fun _ _ _ h=>h) (Or.inl ⟨by rfl,?_⟩) (by assumption) ?_;rotate_left
  · intro w hSw
    obtain⟨hS0,hS1,hS2,hS3,hS4,hS5,hS6⟩:=hSw;go_simp;try with_reducible rfl
  simp only[Act.put,List.getElem_toArray,List.getElem_cons_zero,List.getElem_cons_succ,List.setIfInBounds_toArray,List.set_cons_zero,List.set_cons_succ];refine zaj (i:=5) (v:=?_) rfl (by kernel_rfl) (by kernel_rfl) (by kernel_rfl) (by kernel_rfl) (fun _ _ _ h=>h) (Or.inl ⟨by rfl,?_⟩) (by assumption) ?_;rotate_left
  · intro w hSw
    obtain⟨hS0,hS1,hS2,hS3,hS4,hS5,hS6⟩:=hSw;go_simp;try with_reducible rfl
  simp only[Act.put,List.getElem_toArray,List.getElem_cons_zero,List.getElem_cons_succ,List.setIfInBounds_toArray,List.set_cons_zero,List.set_cons_succ];refine zaj (i:=6) (v:=?_) rfl (by kernel_rfl) (by kernel_rfl) (by kernel_rfl) (by kernel_rfl) (fun _ _ _ h=>h) (Or.inl ⟨by rfl,?_⟩) (by assumption) ?_;rotate_left
  · intro w hSw
    obtain⟨hS0,hS1,hS2,hS3,hS4,hS5,hS6⟩:=hSw;go_simp;try with_reducible rfl
  simp only[Act.put,List.getElem_toArray,List.getElem_cons_zero,List.getElem_cons_succ,List.setIfInBounds_toArray,List.set_cons_zero,List.set_cons_succ];refine zaj (i:=7) (v:=?_) rfl (by kernel_rfl) (by kernel_rfl) (by kernel_rfl) (by kernel_rfl) (fun _ _ _ h=>h) (Or.inl ⟨by rfl,?_⟩) (by assumption) ?_;rotate_left
  · intro w hSw
    obtain⟨hS0,hS1,hS2,hS3,hS4,hS5,hS6⟩:=hSw;go_simp;try with_reducible rfl
  simp only[Act.put,List.getElem_toArray,List.getElem_cons_zero,List.getElem_cons_succ,List.setIfInBounds_toArray,List.set_cons_zero,List.set_cons_succ];refine zaj (i:=8) (v:=?_) rfl (by kernel_rfl) (by kernel_rfl) (by kernel_rfl) (by kernel_rfl) (fun _ _ _ h=>h) (Or.inl ⟨by rfl,?_⟩) (by assumption) ?_;rotate_left
  · intro w hSw
    obtain⟨hS0,hS1,hS2,hS3,hS4,hS5,hS6⟩:=hSw;go_simp;try with_reducible rfl
  simp only[Act.put,List.getElem_toArray,List.getElem_cons_zero,List.getElem_cons_succ,List.setIfInBounds_toArray,List.set_cons_zero,List.set_cons_succ];refine zaj (i:=9) (v:=?_) rfl (by kernel_rfl) (by kernel_rfl) (by kernel_rfl) (by kernel_rfl) (fun _ _ _ h=>h) (Or.inl ⟨by rfl,?_⟩) (by assumption) ?_;rotate_left
  · intro w hSw
    obtain⟨hS0,hS1,hS2,hS3,hS4,hS5,hS6⟩:=hSw;go_simp;try with_reducible rfl
  simp only[Act.put,List.getElem_toArray,List.getElem_cons_zero,List.getElem_cons_succ,List.setIfInBounds_toArray,List.set_cons_zero,List.set_cons_succ];refine zaj (i:=11) (v:=?_) rfl (by kernel_rfl) (by kernel_rfl) (by kernel_rfl) (by kernel_rfl) (fun _ _ _ h=>h) (Or.inl ⟨by rfl,?_⟩) (by assumption) ?_;rotate_left
  · intro w hSw
    obtain⟨hS0,hS1,hS2,hS3,hS4,hS5,hS6⟩:=hSw;go_simp;try with_reducible rfl
  simp only[Act.put,List.getElem_toArray,List.getElem_cons_zero,List.getElem_cons_succ,List.setIfInBounds_toArray,List.set_cons_zero,List.set_cons_succ];refine zaj (i:=12) (v:=?_) rfl (by kernel_rfl) (by kernel_rfl) (by kernel_rfl) (by kernel_rfl) (fun _ _ _ h=>h) (Or.inl ⟨by rfl,?_⟩) (by assumption) ?_;rotate_left
  · intro w hSw
    obtain⟨hS0,hS1,hS2,hS3,hS4,hS5,hS6⟩:=hSw;go_simp;try with_reducible rfl
  simp only[Act.put,List.getElem_toArray,List.getElem_cons_zero,List.getElem_cons_succ,List.setIfInBounds_toArray,List.set_cons_zero,List.set_cons_succ];refine zaj (i:=13) (v:=?_) rfl (by kernel_rfl) (by kernel_rfl) (by kernel_rfl) (by kernel_rfl) (fun _ _ _ h=>h) (Or.inl ⟨by rfl,?_⟩) (by assumption) ?_;rotate_left
  · intro w hSw
    obtain⟨hS0,hS1,hS2,hS3,hS4,hS5,hS6⟩:=hSw;go_simp;try with_reducible rfl
  simp only[Act.put,List.getElem_toArray,List.getElem_cons_zero,List.getElem_cons_succ,List.setIfInBounds_toArray,List.set_cons_zero,List.set_cons_succ];refine zaj (i:=15) (v:=?_) rfl (by kernel_rfl) (by kernel_rfl) (by kernel_rfl) (by kernel_rfl) (fun _ _ _ h=>h) (Or.inl ⟨by rfl,?_⟩) (by assumption) ?_;rotate_left
  · intro w hSw
    obtain⟨hS0,hS1,hS2,hS3,hS4,hS5,hS6⟩:=hSw;go_simp;try with_reducible rfl
  simp only[Act.put,List.getElem_toArray,List.getElem_cons_zero,List.getElem_cons_succ,List.setIfInBounds_toArray,List.set_cons_zero,List.set_cons_succ];refine zaj (i:=16) (v:=?_) rfl (by kernel_rfl) (by kernel_rfl) (by kernel_rfl) (by kernel_rfl) (fun _ _ _ h=>h) (Or.inl ⟨by rfl,?_⟩) (by assumption) ?_;rotate_left
  · intro w hSw
    obtain⟨hS0,hS1,hS2,hS3,hS4,hS5,hS6⟩:=hSw;go_simp;try with_reducible rfl
  simp only[Act.put,List.getElem_toArray,List.getElem_cons_zero,List.getElem_cons_succ,List.setIfInBounds_toArray,List.set_cons_zero,List.set_cons_succ];have hHeld2:=hKeep (W.drew.alloc (.cells #[.int .i64 0,.int .i64 0,.int .i64 0,.int .i64 0,.int .i64 0,.int .i64 0,.int .i64 0,.slice none 0 0,.int .i32 0] 45)) ((zc3 (qb _ _) 1).alloc (by simp) _);refine wpAnyX_two (i:=10) (j:=18) (by kernel_rfl) ?_ ?_
  · refine(zbT rfl rfl (ba_call (f:=61) (args:=#[.int .i64 line,.int .i64 (nOf x.marks 94)]) (by go_simp;try rfl) ((Hb1.out W.drew).mono ?_)))
    rintro e w9 ⟨rfl,rfl⟩;refine⟨_,rfl,.inr hHeld,?_⟩;simp only[Act.put,List.getElem?_toArray,List.getElem?_cons_zero,List.getElem?_cons_succ,List.getElem_toArray,List.getElem_cons_zero,List.getElem_cons_succ,List.setIfInBounds_toArray,List.set_cons_zero,List.set_cons_succ];refine wpAnyX_two (i:=14) (j:=18) (by kernel_rfl) ?_ ?_
    · refine(zbT rfl rfl (ba_call (f:=61) (args:=#[.int .i64 line,.int .i64 (nOf x.marks 64)]) (by go_simp;try rfl) ((Hb2.out W.drew).mono ?_)))
      rintro e w9 ⟨rfl,rfl⟩;refine⟨_,rfl,.inr hHeld,?_⟩;simp only[Act.put,List.getElem?_toArray,List.getElem?_cons_zero,List.getElem?_cons_succ,List.getElem_toArray,List.getElem_cons_zero,List.getElem_cons_succ,List.setIfInBounds_toArray,List.set_cons_zero,List.set_cons_succ];refine wpAnyX_two (i:=17) (j:=18) (by kernel_rfl) ?_ ?_
      · refine(zbT rfl rfl (ba_value (v:=.agg #[.int .i64 stz,.int .i64 x.cls,.int .i64 x.ref,.int .i64 (zbQ letters x.marks),.int .i64 (nOf x.marks 47),.int .i64 (backP line (nOf x.marks 94)),.int .i64 (backP line (nOf x.marks 64)),.slice none 0 0,.int .i32 (nOf x.marks 39)]) (w':=W.drew) (by go_simp;try rfl) ⟨.inr hHeld,?_⟩))
        simp only[Act.put,List.getElem?_toArray,List.getElem?_cons_zero,List.getElem?_cons_succ,List.getElem_toArray,List.getElem_cons_zero,List.getElem_cons_succ,List.setIfInBounds_toArray,List.set_cons_zero,List.set_cons_succ];refine zbL (i:=18) (by kernel_rfl) (zbT rfl rfl (ba_value (v:=.pointer (some ⟨W.heap.size,0,none⟩)) (w':=W.drew.alloc (.cells #[.int .i64 0,.int .i64 0,.int .i64 0,.int .i64 0,.int .i64 0,.int .i64 0,.int .i64 0,.slice none 0 0,.int .i32 0] 45)) (by go_simp;try rfl) ⟨.inr hHeld2,?_⟩));simp only[Act.put,List.getElem?_toArray,List.getElem?_cons_zero,List.getElem?_cons_succ,List.getElem_toArray,List.getElem_cons_zero,List.getElem_cons_succ,List.setIfInBounds_toArray,List.set_cons_zero,List.set_cons_succ];refine zbL (i:=19) (by kernel_rfl) (zbT rfl rfl ?_);refine ba_skip (w':=?_) ?_ ?_;rotate_left
        · go_simp
          rfl
        refine⟨.inl (by decide),?_⟩;refine zhv (by kernel_rfl) ?_ _;simp only[Act.put,List.getElem?_toArray,List.getElem?_cons_zero,List.getElem?_cons_succ,List.getElem_toArray,List.getElem_cons_zero,List.getElem_cons_succ,List.setIfInBounds_toArray,List.set_cons_zero,List.set_cons_succ];exact Hrest
      · refine(zbT rfl rfl (ba_value (v:=.pointer (some ⟨W.heap.size,0,none⟩)) (w':=W.drew.alloc (.cells #[.int .i64 0,.int .i64 0,.int .i64 0,.int .i64 0,.int .i64 0,.int .i64 0,.int .i64 0,.slice none 0 0,.int .i32 0] 45)) (by go_simp;try rfl) ⟨.inr hHeld2,?_⟩))
        simp only[Act.put,List.getElem?_toArray,List.getElem?_cons_zero,List.getElem?_cons_succ,List.getElem_toArray,List.getElem_cons_zero,List.getElem_cons_succ,List.setIfInBounds_toArray,List.set_cons_zero,List.set_cons_succ];refine zbL (i:=17) (by kernel_rfl) (zbT rfl rfl (ba_value (v:=.agg #[.int .i64 stz,.int .i64 x.cls,.int .i64 x.ref,.int .i64 (zbQ letters x.marks),.int .i64 (nOf x.marks 47),.int .i64 (backP line (nOf x.marks 94)),.int .i64 (backP line (nOf x.marks 64)),.slice none 0 0,.int .i32 (nOf x.marks 39)]) (w':=(W.drew.alloc (.cells #[.int .i64 0,.int .i64 0,.int .i64 0,.int .i64 0,.int .i64 0,.int .i64 0,.int .i64 0,.slice none 0 0,.int .i32 0] 45))) (by go_simp;try rfl) ⟨.inr hHeld2,?_⟩));simp only[Act.put,List.getElem?_toArray,List.getElem?_cons_zero,List.getElem?_cons_succ,List.getElem_toArray,List.getElem_cons_zero,List.getElem_cons_succ,List.setIfInBounds_toArray,List.set_cons_zero,List.set_cons_succ];refine zbL (i:=19) (by kernel_rfl) (zbT rfl rfl ?_);refine ba_skip (w':=?_) ?_ ?_;rotate_left
        · go_simp
          rfl
        refine⟨.inl (by decide),?_⟩;refine zhv (by kernel_rfl) ?_ _;simp only[Act.put,List.getElem?_toArray,List.getElem?_cons_zero,List.getElem?_cons_succ,List.getElem_toArray,List.getElem_cons_zero,List.getElem_cons_succ,List.setIfInBounds_toArray,List.set_cons_zero,List.set_cons_succ];exact Hrest
    · refine(zbT rfl rfl (ba_value (v:=.pointer (some ⟨W.heap.size,0,none⟩)) (w':=W.drew.alloc (.cells #[.int .i64 0,.int .i64 0,.int .i64 0,.int .i64 0,.int .i64 0,.int .i64 0,.int .i64 0,.slice none 0 0,.int .i32 0] 45)) (by go_simp;try rfl) ⟨.inr hHeld2,?_⟩))
      simp only[Act.put,List.getElem?_toArray,List.getElem?_cons_zero,List.getElem?_cons_succ,List.getElem_toArray,List.getElem_cons_zero,List.getElem_cons_succ,List.setIfInBounds_toArray,List.set_cons_zero,List.set_cons_succ];refine zbL (i:=14) (by kernel_rfl) (zbT rfl rfl (ba_call (f:=61) (args:=#[.int .i64 line,.int .i64 (nOf x.marks 64)]) (by go_simp;try rfl) ((Hb2.out (W.drew.alloc (.cells #[.int .i64 0,.int .i64 0,.int .i64 0,.int .i64 0,.int .i64 0,.int .i64 0,.int .i64 0,.slice none 0 0,.int .i32 0] 45))).mono ?_)));rintro e w9 ⟨rfl,rfl⟩;refine⟨_,rfl,.inr hHeld2,?_⟩;simp only[Act.put,List.getElem?_toArray,List.getElem?_cons_zero,List.getElem?_cons_succ,List.getElem_toArray,List.getElem_cons_zero,List.getElem_cons_succ,List.setIfInBounds_toArray,List.set_cons_zero,List.set_cons_succ];refine zbL (i:=17) (by kernel_rfl) (zbT rfl rfl (ba_value (v:=.agg #[.int .i64 stz,.int .i64 x.cls,.int .i64 x.ref,.int .i64 (zbQ letters x.marks),.int .i64 (nOf x.marks 47),.int .i64 (backP line (nOf x.marks 94)),.int .i64 (backP line (nOf x.marks 64)),.slice none 0 0,.int .i32 (nOf x.marks 39)]) (w':=(W.drew.alloc (.cells #[.int .i64 0,.int .i64 0,.int .i64 0,.int .i64 0,.int .i64 0,.int .i64 0,.int .i64 0,.slice none 0 0,.int .i32 0] 45))) (by go_simp;try rfl) ⟨.inr hHeld2,?_⟩));simp only[Act.put,List.getElem?_toArray,List.getElem?_cons_zero,List.getElem?_cons_succ,List.getElem_toArray,List.getElem_cons_zero,List.getElem_cons_succ,List.setIfInBounds_toArray,List.set_cons_zero,List.set_cons_succ];refine zbL (i:=19) (by kernel_rfl) (zbT rfl rfl ?_);refine ba_skip (w':=?_) ?_ ?_;rotate_left
      · go_simp
        rfl
      refine⟨.inl (by decide),?_⟩;refine zhv (by kernel_rfl) ?_ _;simp only[Act.put,List.getElem?_toArray,List.getElem?_cons_zero,List.getElem?_cons_succ,List.getElem_toArray,List.getElem_cons_zero,List.getElem_cons_succ,List.setIfInBounds_toArray,List.set_cons_zero,List.set_cons_succ];exact Hrest
  · refine(zbT rfl rfl (ba_value (v:=.pointer (some ⟨W.heap.size,0,none⟩)) (w':=W.drew.alloc (.cells #[.int .i64 0,.int .i64 0,.int .i64 0,.int .i64 0,.int .i64 0,.int .i64 0,.int .i64 0,.slice none 0 0,.int .i32 0] 45)) (by go_simp;try rfl) ⟨.inr hHeld2,?_⟩))
    simp only[Act.put,List.getElem?_toArray,List.getElem?_cons_zero,List.getElem?_cons_succ,List.getElem_toArray,List.getElem_cons_zero,List.getElem_cons_succ,List.setIfInBounds_toArray,List.set_cons_zero,List.set_cons_succ];refine zbL (i:=10) (by kernel_rfl) (zbT rfl rfl (ba_call (f:=61) (args:=#[.int .i64 line,.int .i64 (nOf x.marks 94)]) (by go_simp;try rfl) ((Hb1.out (W.drew.alloc (.cells #[.int .i64 0,.int .i64 0,.int .i64 0,.int .i64 0,.int .i64 0,.int .i64 0,.int .i64 0,.slice none 0 0,.int .i32 0] 45))).mono ?_)));rintro e w9 ⟨rfl,rfl⟩;refine⟨_,rfl,.inr hHeld2,?_⟩;simp only[Act.put,List.getElem?_toArray,List.getElem?_cons_zero,List.getElem?_cons_succ,List.getElem_toArray,List.getElem_cons_zero,List.getElem_cons_succ,List.setIfInBounds_toArray,List.set_cons_zero,List.set_cons_succ];refine zbL (i:=14) (by kernel_rfl) (zbT rfl rfl (ba_call (f:=61) (args:=#[.int .i64 line,.int .i64 (nOf x.marks 64)]) (by go_simp;try rfl) ((Hb2.out (W.drew.alloc (.cells #[.int .i64 0,.int .i64 0,.int .i64 0,.int .i64 0,.int .i64 0,.int .i64 0,.int .i64 0,.slice none 0 0,.int .i32 0] 45))).mono ?_)));rintro e w9 ⟨rfl,rfl⟩;refine⟨_,rfl,.inr hHeld2,?_⟩;simp only[Act.put,List.getElem?_toArray,List.getElem?_cons_zero,List.getElem?_cons_succ,List.getElem_toArray,List.getElem_cons_zero,List.getElem_cons_succ,List.setIfInBounds_toArray,List.set_cons_zero,List.set_cons_succ];refine zbL (i:=17) (by kernel_rfl) (zbT rfl rfl (ba_value (v:=.agg #[.int .i64 stz,.int .i64 x.cls,.int .i64 x.ref,.int .i64 (zbQ letters x.marks),.int .i64 (nOf x.marks 47),.int .i64 (backP line (nOf x.marks 94)),.int .i64 (backP line (nOf x.marks 64)),.slice none 0 0,.int .i32 (nOf x.marks 39)]) (w':=(W.drew.alloc (.cells #[.int .i64 0,.int .i64 0,.int .i64 0,.int .i64 0,.int .i64 0,.int .i64 0,.int .i64 0,.slice none 0 0,.int .i32 0] 45))) (by go_simp;try rfl) ⟨.inr hHeld2,?_⟩));simp only[Act.put,List.getElem?_toArray,List.getElem?_cons_zero,List.getElem?_cons_succ,List.getElem_toArray,List.getElem_cons_zero,List.getElem_cons_succ,List.setIfInBounds_toArray,List.set_cons_zero,List.set_cons_succ];refine zbL (i:=19) (by kernel_rfl) (zbT rfl rfl ?_);refine ba_skip (w':=?_) ?_ ?_;rotate_left
    · go_simp
      rfl
    refine⟨.inl (by decide),?_⟩;refine zhv (by kernel_rfl) ?_ _;simp only[Act.put,List.getElem?_toArray,List.getElem?_cons_zero,List.getElem?_cons_succ,List.getElem_toArray,List.getElem_cons_zero,List.getElem_cons_succ,List.setIfInBounds_toArray,List.set_cons_zero,List.set_cons_succ];exact Hrest
  --R1 END

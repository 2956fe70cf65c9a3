import Derived.Test.YtgklikkddckgbaaGreatDoorHDW
/- Lemmas of the claim. -/
set_option linter.all false
namespace Go.Proofs.YtgklikkddckgbaaGreatDoor.Mo
open Go.RowKit
def RF.agg (F:RF):Value:=.agg #[F.nm,F.vl,F.vm,F.vr,.bool F.rd,.int .i64 F.a,.int .i64 F.b,.int .i64 F.c]
def RF0:RF:=⟨.string ⟨#[]⟩,.slice none 0 0,.slice none 0 0,.slice none 0 0,false,0,0,0⟩
def zmN (s:ByteArray) (w:World) (e:Ending) (w':World):Prop:=Below w.heap.size w w'∧match zbO s with
 |.error (c,p)=>e=.returned (.tuple #[RF0.agg,.int .i64 c,.int .i64 p])
 |.ok f=>∃F:RF,e=.returned (.tuple #[F.agg,.int .i64 0,.int .i64 0])∧RFM w' w.heap.size f F
theorem zko (B rb:Nat) (s:ByteArray) (f:Fm) (F:RF) (t:Bool) (i i0:Nat) (w:World) (h:RR w rb s i 0 0 F) (hv:Vars w) (h9:9≤B) (hf:RFM w B f F) (hk:FmOk f i0) (hi0:i0≤i) (hi:i<s.size) (hB:B≤w.heap.size) (hBr:B≤rb):
  Calls Tryz.prog 46 #[.pointer (some ⟨rb,0,none⟩),.bool t] w (RRow B rb s w (za3 s f t i)):=by
 cases t with
 |false=>exact zhE B rb s f F i w h hf hi hB hBr
 |true=>
  by_cases h1:isB s i 109=true∧f.rows.isEmpty=true
  ·exact zhO B rb s f F i i0 w h hv h9 hf hk hi0 hi hB hBr h1.1 (List.isEmpty_iff.1 h1.2)
  ·by_cases h2:isB s i 114=true∧f.rounds=false
   ·exact zhF B rb s f F i i0 w h hf hk hi0 hi hB hBr h2.1 h2.2
   ·exact zg0 B rb s f F i i0 w h hf hk hi0 hi hB hBr h1 h2
def RtJ (w W:World) (s:ByteArray) (t:Bool) (RP:Except (Int×Nat) Fm):Prop:=Below (w.heap.size+1) (w.alloc (.cells #[.string ⟨#[]⟩,.slice none 0 0,.slice none 0 0,.slice none 0 0,.bool false,.int .i64 0,.int .i64 0,.int .i64 0] 29)) W∧
 ((∃f F j q,RR W (w.heap.size+1) s j 0 0 F∧RFM W (w.heap.size+1) f F∧FmOk f (min j s.size)∧zaK s q f t (min j s.size)=RP∧s.size-j<q)∨
 (∃(c:Int) (p:Nat),c≠0∧(∃(i:Int) (F:RF),W.heap[w.heap.size+1]?=some (.cells #[.string s,.int .i64 i,.int .i64 c,.int .i64 p,RF.nm F,F.vl,F.vm,F.vr,.bool F.rd,.int .i64 F.a,.int .i64 F.b,.int .i64 F.c] 115 (0,0)))∧RP=.error (c,p)))
theorem ziz {W:World} {T:Array Value} {Q:Ending→World→Prop} {P:Nat} {v0 v1 v2 v3 v4 v5 v6 v7 x y:Value} (h2:T.getD 2 undef=.pointer (some ⟨P,0,none⟩)) (h3:T.getD 3 undef=x) (h4:T.getD 4 undef=y) (r:W.heap[P]?=some (.cells #[v0,v1,v2,v3,v4,v5,v6,v7] 29 (0,0))) (hQ:Q (.returned (.tuple #[.agg #[v0,v1,v2,v3,v4,v5,v6,v7],x,y])) W):
  bodyPost Tryz.prog Tryz.f28 Q Exit.ret {tmps:=T,defers:=[]} W:=by
 have d0:W.cell? ⟨P,0,none⟩=some v0:=qc _ _ _ _ _ (0,0) r;have d1:W.cell? ⟨P,1,none⟩=some v1:=qc _ _ _ _ _ (0,0) r;have d2:W.cell? ⟨P,2,none⟩=some v2:=qc _ _ _ _ _ (0,0) r;have d3:W.cell? ⟨P,3,none⟩=some v3:=qc _ _ _ _ _ (0,0) r;have d4:W.cell? ⟨P,4,none⟩=some v4:=qc _ _ _ _ _ (0,0) r;have d5:W.cell? ⟨P,5,none⟩=some v5:=qc _ _ _ _ _ (0,0) r;have d6:W.cell? ⟨P,6,none⟩=some v6:=qc _ _ _ _ _ (0,0) r;have d7:W.cell? ⟨P,7,none⟩=some v7:=qc _ _ _ _ _ (0,0) r;have h2':T[2]?.getD undef=.pointer (some ⟨P,0,none⟩):=by simpa using h2
 have h3':T[3]?.getD undef=x:=by simpa using h3
 have h4':T[4]?.getD undef=y:=by simpa using h4
 refine bodyPost_ret (v:=.tuple #[.agg #[v0,v1,v2,v3,v4,v5,v6,v7],x,y]) ?_ rfl hQ;simp[results,Tryz.f28,go_sem,h2',h3',h4',d0,d1,d2,d3,d4,d5,d6,d7,Tryz.isAgg29,Tryz.sizeOf29]
theorem zkp (W:World) (k:Nat):W.drew.heap[k]?=W.heap[k]?:=rfl
theorem zle {W:World} {P:Nat} {x0 x1 x2 x3 x4 x5 x6 x7:Value} (h:W.heap[P]?=some (.cells #[x0,x1,x2,x3,x4,x5,x6,x7] 29 (0,0))) (v0 v1 v2 v3 v4 v5 v6 v7:Value):
  ((((((((W.setCell ⟨P,0,none⟩ v0).setCell ⟨P,1,none⟩ v1).setCell ⟨P,2,none⟩ v2).setCell ⟨P,3,none⟩ v3).setCell ⟨P,4,none⟩ v4).setCell ⟨P,5,none⟩ v5).setCell ⟨P,6,none⟩ v6).setCell ⟨P,7,none⟩ v7).drew.heap[P]?=some (.cells #[v0,v1,v2,v3,v4,v5,v6,v7] 29 (0,0))∧Off [P] W ((((((((W.setCell ⟨P,0,none⟩ v0).setCell ⟨P,1,none⟩ v1).setCell ⟨P,2,none⟩ v2).setCell ⟨P,3,none⟩ v3).setCell ⟨P,4,none⟩ v4).setCell ⟨P,5,none⟩ v5).setCell ⟨P,6,none⟩ v6).setCell ⟨P,7,none⟩ v7).drew:=by
 have h0:(W.setCell ⟨P,0,none⟩ v0).heap[P]?=some (.cells #[v0,x1,x2,x3,x4,x5,x6,x7] 29 (0,0)):=qs W P 0 _ _ v0 h;have h1:((W.setCell ⟨P,0,none⟩ v0).setCell ⟨P,1,none⟩ v1).heap[P]?=some (.cells #[v0,v1,x2,x3,x4,x5,x6,x7] 29 (0,0)):=qs (W.setCell ⟨P,0,none⟩ v0) P 1 _ _ v1 h0;have h2:(((W.setCell ⟨P,0,none⟩ v0).setCell ⟨P,1,none⟩ v1).setCell ⟨P,2,none⟩ v2).heap[P]?=some (.cells #[v0,v1,v2,x3,x4,x5,x6,x7] 29 (0,0)):=qs ((W.setCell ⟨P,0,none⟩ v0).setCell ⟨P,1,none⟩ v1) P 2 _ _ v2 h1;have h3:((((W.setCell ⟨P,0,none⟩ v0).setCell ⟨P,1,none⟩ v1).setCell ⟨P,2,none⟩ v2).setCell ⟨P,3,none⟩ v3).heap[P]?=some (.cells #[v0,v1,v2,v3,x4,x5,x6,x7] 29 (0,0)):=qs (((W.setCell ⟨P,0,none⟩ v0).setCell ⟨P,1,none⟩ v1).setCell ⟨P,2,none⟩ v2) P 3 _ _ v3 h2;have h4:(((((W.setCell ⟨P,0,none⟩ v0).setCell ⟨P,1,none⟩ v1).setCell ⟨P,2,none⟩ v2).setCell ⟨P,3,none⟩ v3).setCell ⟨P,4,none⟩ v4).heap[P]?=some (.cells #[v0,v1,v2,v3,v4,x5,x6,x7] 29 (0,0)):=qs ((((W.setCell ⟨P,0,none⟩ v0).setCell ⟨P,1,none⟩ v1).setCell ⟨P,2,none⟩ v2).setCell ⟨P,3,none⟩ v3) P 4 _ _ v4 h3;have h5:((((((W.setCell ⟨P,0,none⟩ v0).setCell ⟨P,1,none⟩ v1).setCell ⟨P,2,none⟩ v2).setCell ⟨P,3,none⟩ v3).setCell ⟨P,4,none⟩ v4).setCell ⟨P,5,none⟩ v5).heap[P]?=some (.cells #[v0,v1,v2,v3,v4,v5,x6,x7] 29 (0,0)):=qs (((((W.setCell ⟨P,0,none⟩ v0).setCell ⟨P,1,none⟩ v1).setCell ⟨P,2,none⟩ v2).setCell ⟨P,3,none⟩ v3).setCell ⟨P,4,none⟩ v4) P 5 _ _ v5 h4;have h6:(((((((W.setCell ⟨P,0,none⟩ v0).setCell ⟨P,1,none⟩ v1).setCell ⟨P,2,none⟩ v2).setCell ⟨P,3,none⟩ v3).setCell ⟨P,4,none⟩ v4).setCell ⟨P,5,none⟩ v5).setCell ⟨P,6,none⟩ v6).heap[P]?=some (.cells #[v0,v1,v2,v3,v4,v5,v6,x7] 29 (0,0)):=qs ((((((W.setCell ⟨P,0,none⟩ v0).setCell ⟨P,1,none⟩ v1).setCell ⟨P,2,none⟩ v2).setCell ⟨P,3,none⟩ v3).setCell ⟨P,4,none⟩ v4).setCell ⟨P,5,none⟩ v5) P 6 _ _ v6 h5;have h7:((((((((W.setCell ⟨P,0,none⟩ v0).setCell ⟨P,1,none⟩ v1).setCell ⟨P,2,none⟩ v2).setCell ⟨P,3,none⟩ v3).setCell ⟨P,4,none⟩ v4).setCell ⟨P,5,none⟩ v5).setCell ⟨P,6,none⟩ v6).setCell ⟨P,7,none⟩ v7).heap[P]?=some (.cells #[v0,v1,v2,v3,v4,v5,v6,v7] 29 (0,0)):=qs (((((((W.setCell ⟨P,0,none⟩ v0).setCell ⟨P,1,none⟩ v1).setCell ⟨P,2,none⟩ v2).setCell ⟨P,3,none⟩ v3).setCell ⟨P,4,none⟩ v4).setCell ⟨P,5,none⟩ v5).setCell ⟨P,6,none⟩ v6) P 7 _ _ v7 h6;have o0:Off [P] W (W.setCell ⟨P,0,none⟩ v0):=(Off.refl [P] W).trans (Off.setCell W P 0 v0);have o1:Off [P] W ((W.setCell ⟨P,0,none⟩ v0).setCell ⟨P,1,none⟩ v1):=(o0).trans (Off.setCell (W.setCell ⟨P,0,none⟩ v0) P 1 v1);have o2:Off [P] W (((W.setCell ⟨P,0,none⟩ v0).setCell ⟨P,1,none⟩ v1).setCell ⟨P,2,none⟩ v2):=(o1).trans (Off.setCell ((W.setCell ⟨P,0,none⟩ v0).setCell ⟨P,1,none⟩ v1) P 2 v2);have o3:Off [P] W ((((W.setCell ⟨P,0,none⟩ v0).setCell ⟨P,1,none⟩ v1).setCell ⟨P,2,none⟩ v2).setCell ⟨P,3,none⟩ v3):=(o2).trans (Off.setCell (((W.setCell ⟨P,0,none⟩ v0).setCell ⟨P,1,none⟩ v1).setCell ⟨P,2,none⟩ v2) P 3 v3);have o4:Off [P] W (((((W.setCell ⟨P,0,none⟩ v0).setCell ⟨P,1,none⟩ v1).setCell ⟨P,2,none⟩ v2).setCell ⟨P,3,none⟩ v3).setCell ⟨P,4,none⟩ v4):=(o3).trans (Off.setCell ((((W.setCell ⟨P,0,none⟩ v0).setCell ⟨P,1,none⟩ v1).setCell ⟨P,2,none⟩ v2).setCell ⟨P,3,none⟩ v3) P 4 v4);have o5:Off [P] W ((((((W.setCell ⟨P,0,none⟩ v0).setCell ⟨P,1,none⟩ v1).setCell ⟨P,2,none⟩ v2).setCell ⟨P,3,none⟩ v3).setCell ⟨P,4,none⟩ v4).setCell ⟨P,5,none⟩ v5):=(o4).trans (Off.setCell (((((W.setCell ⟨P,0,none⟩ v0).setCell ⟨P,1,none⟩ v1).setCell ⟨P,2,none⟩ v2).setCell ⟨P,3,none⟩ v3).setCell ⟨P,4,none⟩ v4) P 5 v5);have o6:Off [P] W (((((((W.setCell ⟨P,0,none⟩ v0).setCell ⟨P,1,none⟩ v1).setCell ⟨P,2,none⟩ v2).setCell ⟨P,3,none⟩ v3).setCell ⟨P,4,none⟩ v4).setCell ⟨P,5,none⟩ v5).setCell ⟨P,6,none⟩ v6):=(o5).trans (Off.setCell ((((((W.setCell ⟨P,0,none⟩ v0).setCell ⟨P,1,none⟩ v1).setCell ⟨P,2,none⟩ v2).setCell ⟨P,3,none⟩ v3).setCell ⟨P,4,none⟩ v4).setCell ⟨P,5,none⟩ v5) P 6 v6);have o7:Off [P] W ((((((((W.setCell ⟨P,0,none⟩ v0).setCell ⟨P,1,none⟩ v1).setCell ⟨P,2,none⟩ v2).setCell ⟨P,3,none⟩ v3).setCell ⟨P,4,none⟩ v4).setCell ⟨P,5,none⟩ v5).setCell ⟨P,6,none⟩ v6).setCell ⟨P,7,none⟩ v7):=(o6).trans (Off.setCell (((((((W.setCell ⟨P,0,none⟩ v0).setCell ⟨P,1,none⟩ v1).setCell ⟨P,2,none⟩ v2).setCell ⟨P,3,none⟩ v3).setCell ⟨P,4,none⟩ v4).setCell ⟨P,5,none⟩ v5).setCell ⟨P,6,none⟩ v6) P 7 v7);exact⟨(zkp _ _).trans h7,o7.trans (Off.drew _ _)⟩
theorem zkq {W:World} {P:Nat} {x0 x1 x2 x3 x4 x5 x6 x7:Value} (h:W.heap[P]?=some (.cells #[x0,x1,x2,x3,x4,x5,x6,x7] 29 (0,0))) (v0 v1 v2 v3 v4 v5 v6 v7:Value):
  ((((((((W.setCell ⟨P,0,none⟩ v0).setCell ⟨P,1,none⟩ v1).setCell ⟨P,2,none⟩ v2).setCell ⟨P,3,none⟩ v3).setCell ⟨P,4,none⟩ v4).setCell ⟨P,5,none⟩ v5).setCell ⟨P,6,none⟩ v6).setCell ⟨P,7,none⟩ v7).heap[P]?=some (.cells #[v0,v1,v2,v3,v4,v5,v6,v7] 29 (0,0))∧Off [P] W ((((((((W.setCell ⟨P,0,none⟩ v0).setCell ⟨P,1,none⟩ v1).setCell ⟨P,2,none⟩ v2).setCell ⟨P,3,none⟩ v3).setCell ⟨P,4,none⟩ v4).setCell ⟨P,5,none⟩ v5).setCell ⟨P,6,none⟩ v6).setCell ⟨P,7,none⟩ v7):=by
 have h0:(W.setCell ⟨P,0,none⟩ v0).heap[P]?=some (.cells #[v0,x1,x2,x3,x4,x5,x6,x7] 29 (0,0)):=qs W P 0 _ _ v0 h;have h1:((W.setCell ⟨P,0,none⟩ v0).setCell ⟨P,1,none⟩ v1).heap[P]?=some (.cells #[v0,v1,x2,x3,x4,x5,x6,x7] 29 (0,0)):=qs (W.setCell ⟨P,0,none⟩ v0) P 1 _ _ v1 h0;have h2:(((W.setCell ⟨P,0,none⟩ v0).setCell ⟨P,1,none⟩ v1).setCell ⟨P,2,none⟩ v2).heap[P]?=some (.cells #[v0,v1,v2,x3,x4,x5,x6,x7] 29 (0,0)):=qs ((W.setCell ⟨P,0,none⟩ v0).setCell ⟨P,1,none⟩ v1) P 2 _ _ v2 h1;have h3:((((W.setCell ⟨P,0,none⟩ v0).setCell ⟨P,1,none⟩ v1).setCell ⟨P,2,none⟩ v2).setCell ⟨P,3,none⟩ v3).heap[P]?=some (.cells #[v0,v1,v2,v3,x4,x5,x6,x7] 29 (0,0)):=qs (((W.setCell ⟨P,0,none⟩ v0).setCell ⟨P,1,none⟩ v1).setCell ⟨P,2,none⟩ v2) P 3 _ _ v3 h2;have h4:(((((W.setCell ⟨P,0,none⟩ v0).setCell ⟨P,1,none⟩ v1).setCell ⟨P,2,none⟩ v2).setCell ⟨P,3,none⟩ v3).setCell ⟨P,4,none⟩ v4).heap[P]?=some (.cells #[v0,v1,v2,v3,v4,x5,x6,x7] 29 (0,0)):=qs ((((W.setCell ⟨P,0,none⟩ v0).setCell ⟨P,1,none⟩ v1).setCell ⟨P,2,none⟩ v2).setCell ⟨P,3,none⟩ v3) P 4 _ _ v4 h3;have h5:((((((W.setCell ⟨P,0,none⟩ v0).setCell ⟨P,1,none⟩ v1).setCell ⟨P,2,none⟩ v2).setCell ⟨P,3,none⟩ v3).setCell ⟨P,4,none⟩ v4).setCell ⟨P,5,none⟩ v5).heap[P]?=some (.cells #[v0,v1,v2,v3,v4,v5,x6,x7] 29 (0,0)):=qs (((((W.setCell ⟨P,0,none⟩ v0).setCell ⟨P,1,none⟩ v1).setCell ⟨P,2,none⟩ v2).setCell ⟨P,3,none⟩ v3).setCell ⟨P,4,none⟩ v4) P 5 _ _ v5 h4;have h6:(((((((W.setCell ⟨P,0,none⟩ v0).setCell ⟨P,1,none⟩ v1).setCell ⟨P,2,none⟩ v2).setCell ⟨P,3,none⟩ v3).setCell ⟨P,4,none⟩ v4).setCell ⟨P,5,none⟩ v5).setCell ⟨P,6,none⟩ v6).heap[P]?=some (.cells #[v0,v1,v2,v3,v4,v5,v6,x7] 29 (0,0)):=qs ((((((W.setCell ⟨P,0,none⟩ v0).setCell ⟨P,1,none⟩ v1).setCell ⟨P,2,none⟩ v2).setCell ⟨P,3,none⟩ v3).setCell ⟨P,4,none⟩ v4).setCell ⟨P,5,none⟩ v5) P 6 _ _ v6 h5;have h7:((((((((W.setCell ⟨P,0,none⟩ v0).setCell ⟨P,1,none⟩ v1).setCell ⟨P,2,none⟩ v2).setCell ⟨P,3,none⟩ v3).setCell ⟨P,4,none⟩ v4).setCell ⟨P,5,none⟩ v5).setCell ⟨P,6,none⟩ v6).setCell ⟨P,7,none⟩ v7).heap[P]?=some (.cells #[v0,v1,v2,v3,v4,v5,v6,v7] 29 (0,0)):=qs (((((((W.setCell ⟨P,0,none⟩ v0).setCell ⟨P,1,none⟩ v1).setCell ⟨P,2,none⟩ v2).setCell ⟨P,3,none⟩ v3).setCell ⟨P,4,none⟩ v4).setCell ⟨P,5,none⟩ v5).setCell ⟨P,6,none⟩ v6) P 7 _ _ v7 h6;have o0:Off [P] W (W.setCell ⟨P,0,none⟩ v0):=(Off.refl [P] W).trans (Off.setCell W P 0 v0);have o1:Off [P] W ((W.setCell ⟨P,0,none⟩ v0).setCell ⟨P,1,none⟩ v1):=(o0).trans (Off.setCell (W.setCell ⟨P,0,none⟩ v0) P 1 v1);have o2:Off [P] W (((W.setCell ⟨P,0,none⟩ v0).setCell ⟨P,1,none⟩ v1).setCell ⟨P,2,none⟩ v2):=(o1).trans (Off.setCell ((W.setCell ⟨P,0,none⟩ v0).setCell ⟨P,1,none⟩ v1) P 2 v2);have o3:Off [P] W ((((W.setCell ⟨P,0,none⟩ v0).setCell ⟨P,1,none⟩ v1).setCell ⟨P,2,none⟩ v2).setCell ⟨P,3,none⟩ v3):=(o2).trans (Off.setCell (((W.setCell ⟨P,0,none⟩ v0).setCell ⟨P,1,none⟩ v1).setCell ⟨P,2,none⟩ v2) P 3 v3);have o4:Off [P] W (((((W.setCell ⟨P,0,none⟩ v0).setCell ⟨P,1,none⟩ v1).setCell ⟨P,2,none⟩ v2).setCell ⟨P,3,none⟩ v3).setCell ⟨P,4,none⟩ v4):=(o3).trans (Off.setCell ((((W.setCell ⟨P,0,none⟩ v0).setCell ⟨P,1,none⟩ v1).setCell ⟨P,2,none⟩ v2).setCell ⟨P,3,none⟩ v3) P 4 v4);have o5:Off [P] W ((((((W.setCell ⟨P,0,none⟩ v0).setCell ⟨P,1,none⟩ v1).setCell ⟨P,2,none⟩ v2).setCell ⟨P,3,none⟩ v3).setCell ⟨P,4,none⟩ v4).setCell ⟨P,5,none⟩ v5):=(o4).trans (Off.setCell (((((W.setCell ⟨P,0,none⟩ v0).setCell ⟨P,1,none⟩ v1).setCell ⟨P,2,none⟩ v2).setCell ⟨P,3,none⟩ v3).setCell ⟨P,4,none⟩ v4) P 5 v5);have o6:Off [P] W (((((((W.setCell ⟨P,0,none⟩ v0).setCell ⟨P,1,none⟩ v1).setCell ⟨P,2,none⟩ v2).setCell ⟨P,3,none⟩ v3).setCell ⟨P,4,none⟩ v4).setCell ⟨P,5,none⟩ v5).setCell ⟨P,6,none⟩ v6):=(o5).trans (Off.setCell ((((((W.setCell ⟨P,0,none⟩ v0).setCell ⟨P,1,none⟩ v1).setCell ⟨P,2,none⟩ v2).setCell ⟨P,3,none⟩ v3).setCell ⟨P,4,none⟩ v4).setCell ⟨P,5,none⟩ v5) P 6 v6);have o7:Off [P] W ((((((((W.setCell ⟨P,0,none⟩ v0).setCell ⟨P,1,none⟩ v1).setCell ⟨P,2,none⟩ v2).setCell ⟨P,3,none⟩ v3).setCell ⟨P,4,none⟩ v4).setCell ⟨P,5,none⟩ v5).setCell ⟨P,6,none⟩ v6).setCell ⟨P,7,none⟩ v7):=(o6).trans (Off.setCell (((((((W.setCell ⟨P,0,none⟩ v0).setCell ⟨P,1,none⟩ v1).setCell ⟨P,2,none⟩ v2).setCell ⟨P,3,none⟩ v3).setCell ⟨P,4,none⟩ v4).setCell ⟨P,5,none⟩ v5).setCell ⟨P,6,none⟩ v6) P 7 v7);exact⟨h7,o7⟩
theorem okz:FmOk Fm.zero 0:=⟨by simp[Fm.zero,totN],by simp[Fm.zero],by simp[Fm.zero],by simp[Fm.zero],by simp[Fm.zero],by simp[Fm.zero],by simp[Fm.zero],by simp[Fm.zero],by simp[Fm.zero]⟩
set_option maxRecDepth 100000 in
set_option maxHeartbeats 2000000 in
theorem zlf (s:ByteArray) (w:World) (hv:Vars w) (hs64:s.size≤4611686018427387904):
  Calls Tryz.prog 28 #[.string s] w (zmN s w):=by
 by_cases hs6:65536<s.size
 ·have d1:decide ((65536:Int)<(s.size:Int))=true:=qt (by omega);have HR:Hid (zbO s=.error (3,65536)):=qh (by unfold zbO;rw[if_pos hs6]);have hx:=qn w (.cells #[.string ⟨#[]⟩,.slice none 0 0,.slice none 0 0,.slice none 0 0,.bool false,.int .i64 0,.int .i64 0,.int .i64 0] 29);have Hb:Hid (Below w.heap.size w (w.alloc (.cells #[.string ⟨#[]⟩,.slice none 0 0,.slice none 0 0,.slice none 0 0,.bool false,.int .i64 0,.int .i64 0,.int .i64 0] 29))):=qh ((qb _ _).alloc (ql _) _);have Hx:=qh hx;clear hx;go_enter Tryz.func28,Tryz.ntmps28;go_wp2_with fail;refine ziz rfl rfl rfl Hx.out ⟨Hb.out,?_⟩;rw[HR.out];rfl
 ·have d1:decide ((65536:Int)<(s.size:Int))=false:=qd (by omega);obtain⟨RP,hRP⟩:∃RP,zaK s (s.size+1) Fm.zero false 0=RP:=⟨_,rfl⟩;have HR:Hid (zbO s=RP):=qh (by unfold zbO;rw[if_neg hs6];exact hRP);have h9:=hv.six;have hx:=qn w (.cells #[.string ⟨#[]⟩,.slice none 0 0,.slice none 0 0,.slice none 0 0,.bool false,.int .i64 0,.int .i64 0,.int .i64 0] 29);have hrd:=qn (w.alloc (.cells #[.string ⟨#[]⟩,.slice none 0 0,.slice none 0 0,.slice none 0 0,.bool false,.int .i64 0,.int .i64 0,.int .i64 0] 29)) (.cells #[.string s,.int .i64 0,.int .i64 0,.int .i64 0,.string ⟨#[]⟩,.slice none 0 0,.slice none 0 0,.slice none 0 0,.bool false,.int .i64 0,.int .i64 0,.int .i64 0] 115);rw[World.size_alloc] at hrd;have hbA:Below (w.heap.size+1) (w.alloc (.cells #[.string ⟨#[]⟩,.slice none 0 0,.slice none 0 0,.slice none 0 0,.bool false,.int .i64 0,.int .i64 0,.int .i64 0] 29)) ((w.alloc (.cells #[.string ⟨#[]⟩,.slice none 0 0,.slice none 0 0,.slice none 0 0,.bool false,.int .i64 0,.int .i64 0,.int .i64 0] 29)).alloc (.cells #[.string s,.int .i64 0,.int .i64 0,.int .i64 0,.string ⟨#[]⟩,.slice none 0 0,.slice none 0 0,.slice none 0 0,.bool false,.int .i64 0,.int .i64 0,.int .i64 0] 115)):=(qb _ _).alloc (by simp) _;have hrr:RR ((w.alloc (.cells #[.string ⟨#[]⟩,.slice none 0 0,.slice none 0 0,.slice none 0 0,.bool false,.int .i64 0,.int .i64 0,.int .i64 0] 29)).alloc (.cells #[.string s,.int .i64 0,.int .i64 0,.int .i64 0,.string ⟨#[]⟩,.slice none 0 0,.slice none 0 0,.slice none 0 0,.bool false,.int .i64 0,.int .i64 0,.int .i64 0] 115)) (w.heap.size+1) s 0 0 0 RF0:=⟨hrd,by omega,by omega,fun _=>⟨by omega,rfl⟩⟩;have hfm:RFM ((w.alloc (.cells #[.string ⟨#[]⟩,.slice none 0 0,.slice none 0 0,.slice none 0 0,.bool false,.int .i64 0,.int .i64 0,.int .i64 0] 29)).alloc (.cells #[.string s,.int .i64 0,.int .i64 0,.int .i64 0,.string ⟨#[]⟩,.slice none 0 0,.slice none 0 0,.slice none 0 0,.bool false,.int .i64 0,.int .i64 0,.int .i64 0] 115)) (w.heap.size+1) Fm.zero RF0:=⟨rfl,⟨rfl,.inl ⟨rfl,rfl⟩⟩,⟨[],rfl,⟨rfl,.inl ⟨rfl,rfl⟩⟩,fun k hk=>by simp[Fm.zero] at hk⟩,⟨[],rfl,⟨rfl,.inl ⟨rfl,rfl⟩⟩,fun k hk=>by simp[Fm.zero] at hk⟩,rfl,rfl,rfl,rfl⟩;have HJ0:Hid (RtJ w ((w.alloc (.cells #[.string ⟨#[]⟩,.slice none 0 0,.slice none 0 0,.slice none 0 0,.bool false,.int .i64 0,.int .i64 0,.int .i64 0] 29)).alloc (.cells #[.string s,.int .i64 0,.int .i64 0,.int .i64 0,.string ⟨#[]⟩,.slice none 0 0,.slice none 0 0,.slice none 0 0,.bool false,.int .i64 0,.int .i64 0,.int .i64 0] 115)) s false RP):=qh ⟨hbA,.inl ⟨Fm.zero,RF0,0,s.size+1,hrr,hfm,by rw[Nat.zero_min];exact okz,by rw[Nat.zero_min];exact hRP,by omega⟩⟩;have Hv:=qh hv;have Hx:=qh hx;clear hx hrd hbA hrr hfm hRP hv;go_enter Tryz.func28,Tryz.ntmps28;go_wp2_with fail;go_loopw [6] (fun v6 wr=>∃t:Bool,v6=.bool t∧Hid (RtJ w wr s t RP)) (fun _ wr=>match wr.cell? ⟨w.heap.size+1,2,none⟩ with|some v=>if intOf v=0 then s.size+2-(match wr.cell? ⟨w.heap.size+1,1,none⟩ with|some u=>(intOf u).toNat|none=>0) else 0|none=>0)
  case atStart=>exact⟨false,rfl,HJ0⟩
  case round=>
   clear HJ0;obtain⟨t,rfl,hJ⟩:=hrel;obtain⟨hbl,hJ2⟩:=hJ.out;have Hbl:=qh hbl;have hxr:=(hbl.block w.heap.size (by omega)).trans Hx.out;have Hxr:=qh hxr;have y0:=qc _ _ 0 _ _ (0,0) hxr;have y1:=qc _ _ 1 _ _ (0,0) hxr;have y2:=qc _ _ 2 _ _ (0,0) hxr;have y3:=qc _ _ 3 _ _ (0,0) hxr;have y4:=qc _ _ 4 _ _ (0,0) hxr;have y5:=qc _ _ 5 _ _ (0,0) hxr;have y6:=qc _ _ 6 _ _ (0,0) hxr;have y7:=qc _ _ 7 _ _ (0,0) hxr;have z0:=qf _ _ 0 _ _ hxr;have z1:=qf _ _ 1 _ _ hxr;have z2:=qf _ _ 2 _ _ hxr;have z3:=qf _ _ 3 _ _ hxr;have z4:=qf _ _ 4 _ _ hxr;have z5:=qf _ _ 5 _ _ hxr;have z6:=qf _ _ 6 _ _ hxr;have z7:=qf _ _ 7 _ _ hxr;clear hJ hbl hxr;rcases hJ2 with⟨f,F,j,q,hr,hf,hk,hT,hq⟩|⟨c,p,hc,⟨i,F,hrow⟩,hRP⟩
   ·have hwh:=(hr.ok rfl).2;have hjs:=(hr.ok rfl).1;have hsz:=hr.sz;have r1:=hr.c1;have r2:=hr.c2;have r3:=hr.c3;have hrl:w.heap.size+1≤wr.heap.size:=Nat.le_of_lt hr.lt;have Hms:Hid (wr.cell? ⟨w.heap.size+1,2,none⟩=some (.int .i64 0)∧wr.cell? ⟨w.heap.size+1,1,none⟩=some (.int .i64 j)):=qh ⟨r2,r1⟩;have Hbw:Hid (Below w.heap.size w wr):=qh (((qb w.heap.size w).alloc (ql _) _).trans (Hbl.out.mono (by omega)));have Hr:=qh hr;have Hf:=qh hf;have Hk:=qh hk;have HT:=qh hT;clear hr hf hk hT;by_cases hlt:j<s.size
    ·have dj:decide ((j:Int)<(s.size:Int))=true:=qt (by omega);have djn:decide (j<s.size)=true:=qt hlt;have i1:(0:Int)≤(j:Int):=(by omega);have i2:(j:Int)<(s.size:Int):=(by omega);have hmin:min j s.size=j:=Nat.min_eq_left (by omega);have hib:∀c:Int,isB s j c=((s[j].toNat:Int)==c):=fun c=>zaA hlt;have HT2:Hid (zaK s q f t j=RP):=qh (by rw[←hmin];exact HT.out);have Hk2:Hid (FmOk f j):=qh (by rw[←hmin];exact Hk.out);have h9:=Hv.out.six
     --what stands behind the round
     have HN:Hid (∀(W8:World) (f':Fm) (F':RF) (t':Bool) (j':Nat),RR W8 (w.heap.size+1) s j' 0 0 F'→RFM W8 (w.heap.size+1) f' F'→Below (w.heap.size+1) wr W8→FmOk f' j'→j≤j'→j'≤s.size→(∀q',q=q'+1→zaK s q' f' t' (za4 s j')=RP)→
       RtJ w (W8.setCell ⟨w.heap.size+1,1,none⟩ (.int .i64 ((j':Int)+1))) s t' RP∧(W8.setCell ⟨w.heap.size+1,1,none⟩ (.int .i64 ((j':Int)+1))).cell? ⟨w.heap.size+1,2,none⟩=some (.int .i64 0)∧(W8.setCell ⟨w.heap.size+1,1,none⟩ (.int .i64 ((j':Int)+1))).cell? ⟨w.heap.size+1,1,none⟩=some (.int .i64 ((j'+1:Nat):Int))):=qh (fun W8 f' F' t' j' hr' hf' hb' hk' hjj hj' hw'=>by
      have hc1:(j':Int)+1=((j'+1:Nat):Int):=(by omega);rw[hc1];have hr9:=hr'.to (j:=j'+1) (by omega);have ho9:=Off.setCell W8 (w.heap.size+1) 1 (.int .i64 ((j'+1:Nat):Int));have hnx:za4 s j'=min (j'+1) s.size:=by unfold za4;split<;>omega
      refine⟨⟨Hbl.out.trans (hb'.trans (ho9.below (qm hrl (qm (ql _) hb'.size)) (fun k hk=>by simp at hk;omega))),.inl ⟨f',F',j'+1,q-1,hr9,hf'.offR hr' ho9,hk'.mono (by omega),?_,by omega⟩⟩,hr9.c2,hr9.c1⟩;rw[←hnx];exact hw' (q-1) (by omega))
     by_cases h35:isB s j 35=true
     ·have g35:((s[j].toNat:Int)==35)=true:=(by rw[←hib];exact h35);have h10:isB s j 10=false:=(by rw[hib] at h35⊢;simp at h35⊢;omega);have hre:=zbs j (by omega:j≤s.size);have hrest:=zcL (w.heap.size+1) s j 0 0 F wr Hr.out (by omega);rw[if_pos rfl] at hrest;have Hrest:=qh hrest;have HW:Hid (∀q',q=q'+1→zaK s q' f t (za4 s (zap s j))=RP):=qh (fun q' e=>by subst e;rw[←zfu h10 h35];exact HT2.out);clear hib h35 h10 hrest hmin;go_wp2_with fail;refine Hrest.out.mono ?_;rintro e w5 ⟨ho5,rfl,hr5⟩;have hb5:Below (w.heap.size+1) wr w5:=ho5.below hrl (fun k hk=>by simp at hk;omega);have hN:=HN.out w5 f F t (zap s j) hr5 (Hf.out.offR Hr.out ho5) hb5 (Hk2.out.mono hre.1) hre.1 hre.2 HW.out;have HNN:=qh hN;have hw1:IntKind.i64.wrap ((zap s j:Int)+1)=(zap s j:Int)+1:=qi _ (by omega);have t1:=hr5.c1;have tz1:=hr5.z 1;generalize zap s j=E at*;clear ho5 hr5 hb5 hN r1 r2 r3;go_wp2_with fail;go_roundw
      case rel=>exact⟨t,rfl,qh HNN.out.1⟩
      case measure=>
       rw[HNN.out.2.1,HNN.out.2.2,Hms.out.1,Hms.out.2];simp[intOf];omega
     ·have g35:((s[j].toNat:Int)==35)=false:=(by rw[←hib];simpa using h35);by_cases h10:isB s j 10=true
      ·have g10:((s[j].toNat:Int) !=10)=false:=(by rw[hib] at h10;simpa [bne] using h10);have HW:Hid (∀q',q=q'+1→zaK s q' f t (za4 s j)=RP):=qh (fun q' e=>by subst e;rw[←zix h10];exact HT2.out);have hN:=HN.out wr f F t j Hr.out Hf.out (qb _ _) Hk2.out (ql _) (by omega) HW.out;have HNN:=qh hN;have hw1:IntKind.i64.wrap ((j:Int)+1)=(j:Int)+1:=qi _ (by omega);have tz1:=Hr.out.z 1;clear hib h35 h10 hN hmin;go_wp2_with fail;go_roundw
       case rel=>exact⟨t,rfl,qh HNN.out.1⟩
       case measure=>
        rw[HNN.out.2.1,HNN.out.2.2,Hms.out.1,Hms.out.2];simp[intOf];omega
      ·have g10:((s[j].toNat:Int) !=10)=true:=(by rw[hib] at h10;simpa [bne] using h10);have h10':isB s j 10=false:=(by simpa using h10);have h35':isB s j 35=false:=(by simpa using h35);have hvr:Vars wr:=Vars.below (Vars.below Hv.out ((qb w.heap.size w).alloc (ql _) _) h9) Hbl.out (by omega);have Hline:=qh (zko (w.heap.size+1) (w.heap.size+1) s f F t j j wr Hr.out hvr (by omega) Hf.out Hk2.out (ql _) hlt hrl (ql _));have HW:Hid (∀q',q=q'+1→(match za3 s f t j with|.error e=>.error e|.ok (f',j)=>zaK s q' f' true (za4 s j))=RP):=qh (fun q' e=>by subst e;exact(zfv hlt h10' h35').symm.trans HT2.out);have Hq:=qh hq;clear hib h35 h10 h10' h35' hvr hmin hq;go_wp2_with fail;refine Hline.out.mono ?_;rintro e w5 ⟨rfl,hb5,hres⟩;cases hL:za3 s f t j with
       |error ep=>
        obtain⟨c,p⟩:=ep;rw[hL] at hres;obtain⟨hc,j5,F5,hr5⟩:=hres;have hRP:RP=.error (c,p):=by
         have hq0:=Hq.out;cases q with
         |zero=>omega
         |succ q'=>have:=HW.out q' rfl;rw[hL] at this;exact this.symm
        have t1:=hr5.c1;have tz1:=hr5.z 1;have hle5:=hr5.le;have hw1:IntKind.i64.wrap ((j5:Int)+1)=(j5:Int)+1:=qi _ (by omega);have ho9:=Off.setCell w5 (w.heap.size+1) 1 (.int .i64 ((j5:Int)+1));have hrow9:=qs w5 (w.heap.size+1) 1 _ _ (.int .i64 ((j5:Int)+1)) hr5.r;have HNN:Hid (RtJ w (w5.setCell ⟨w.heap.size+1,1,none⟩ (.int .i64 ((j5:Int)+1))) s true RP∧(w5.setCell ⟨w.heap.size+1,1,none⟩ (.int .i64 ((j5:Int)+1))).cell? ⟨w.heap.size+1,2,none⟩=some (.int .i64 c)∧c≠0):=qh
         ⟨⟨Hbl.out.trans (hb5.trans (ho9.below (qm hrl hb5.size) (fun k hk=>by simp at hk;omega))),.inr ⟨c,p,hc,⟨(j5:Int)+1,F5,hrow9⟩,hRP⟩⟩,qc _ _ 2 _ _ (0,0) hrow9,hc⟩
        clear hL hb5 hr5 hc hRP ho9 hrow9 r1 r2 r3;go_wp2_with fail;go_roundw
        case rel=>exact⟨true,rfl,qh HNN.out.1⟩
        case measure=>
         rw[HNN.out.2.1,Hms.out.1,Hms.out.2];have:=HNN.out.2.2;simp[intOf,this];omega
       |ok fj=>
        obtain⟨f5,j5⟩:=fj;rw[hL] at hres;obtain⟨hj5,F5,hr5,hf5⟩:=hres;have hge:=zld (by omega) hL;have hk5:=zkn Hk2.out (by omega) hL;have hN:=HN.out w5 f5 F5 true j5 hr5 hf5 hb5 hk5 hge hj5 (fun q' e=>by have:=HW.out q' e;rw[hL] at this;exact this);have HNN:=qh hN;have hw1:IntKind.i64.wrap ((j5:Int)+1)=(j5:Int)+1:=qi _ (by omega);have t1:=hr5.c1;have tz1:=hr5.z 1;clear hL hb5 hr5 hf5 hk5 hN r1 r2 r3;go_wp2_with fail;go_roundw
        case rel=>exact⟨true,rfl,qh HNN.out.1⟩
        case measure=>
         rw[HNN.out.2.1,HNN.out.2.2,Hms.out.1,Hms.out.2];simp[intOf];omega
    ·have dj:decide ((j:Int)<(s.size:Int))=false:=qd (by omega);have djn:decide (j<s.size)=false:=qd hlt;have hmin:min j s.size=s.size:=Nat.min_eq_right (by omega);have HRP:Hid (RP=if f.rows.isEmpty then .error (180,s.size) else .ok f):=qh (by
      have:=HT.out;rw[hmin] at this;cases q with
      |zero=>omega
      |succ q'=>rw[zg1 (by omega)] at this;exact this.symm)
     obtain⟨Ar,cr,hvr⟩:=Hf.out.len;have f7:wr.cell? ⟨w.heap.size+1,7,none⟩=some (.slice Ar f.rows.length cr):=(by rw[Hr.out.form.2.2.2.1,hvr]);clear hmin hq hvr;by_cases hrw:f.rows=[]
     ·have HE:Hid (zbO s=.error (180,s.size)):=qh (by rw[HR.out,HRP.out,hrw];rfl);rw[hrw] at f7;have f7':wr.cell? ⟨w.heap.size+1,7,none⟩=some (.slice Ar 0 cr):=f7;have Hw:=qh (zaO (w.heap.size+1) s j 0 0 F 180 (s.size:Int) wr Hr.out (by decide));clear f7 hrw r3;go_wp2_with fail;refine Hw.out.mono ?_;rintro e w5 ⟨rfl,hr5,ho5⟩;have hr5':RR w5 (w.heap.size+1) s j 180 s.size F:=hr5;have q2:=hr5'.c2;have q3:=hr5'.c3;have hxr:=(ho5.block w.heap.size (qg Hxr.out).1 (by simp)).trans Hxr.out;have y0:=qc _ _ 0 _ _ (0,0) hxr;have y1:=qc _ _ 1 _ _ (0,0) hxr;have y2:=qc _ _ 2 _ _ (0,0) hxr;have y3:=qc _ _ 3 _ _ (0,0) hxr;have y4:=qc _ _ 4 _ _ (0,0) hxr;have y5:=qc _ _ 5 _ _ (0,0) hxr;have y6:=qc _ _ 6 _ _ (0,0) hxr;have y7:=qc _ _ 7 _ _ (0,0) hxr;have z0:=qf _ _ 0 _ _ hxr;have z1:=qf _ _ 1 _ _ hxr;have z2:=qf _ _ 2 _ _ hxr;have z3:=qf _ _ 3 _ _ hxr;have z4:=qf _ _ 4 _ _ hxr;have z5:=qf _ _ 5 _ _ hxr;have z6:=qf _ _ 6 _ _ hxr;have z7:=qf _ _ 7 _ _ hxr;have Hz:=qh (zle hxr (.string ⟨#[]⟩) (.slice none 0 0) (.slice none 0 0) (.slice none 0 0) (.bool false) (.int .i64 0) (.int .i64 0) (.int .i64 0));have hbw5:Below w.heap.size w w5:=Hbw.out.trans (ho5.below Hbw.out.size (fun k hk=>by simp at hk;omega));have Hbw5:=qh hbw5;clear hr5 hr5' ho5 hxr hbw5;go_wp2_with fail;go_region
      all_goals
       go_wp2_with fail;refine ziz rfl rfl rfl Hz.out.1 ⟨Hbw5.out.trans (Hz.out.2.below Hbw5.out.size (fun k hk=>by simp at hk;omega)),?_⟩;rw[HE.out];rfl
     ·have HE:Hid (zbO s=.ok f):=qh (by
       rw[HR.out,HRP.out];have:f.rows.isEmpty=false:=by
        cases hh:f.rows.isEmpty with
        |false=>rfl
        |true=>exact absurd (List.isEmpty_iff.1 hh) hrw
       rw[this];rfl)
      have hne:f.rows.length≠0:=fun e=>hrw (List.length_eq_zero_iff.1 e);have q0:((f.rows.length:Int)==0)=false:=(by simpa using hrw);obtain⟨g4,g5,g6,g7,g8,g9,g10,g11⟩:=Hr.out.form;rw[f7] at g7;have hv7:F.vr=.slice Ar f.rows.length cr:=(by simpa using g7.symm);have hnm:=Hf.out.nm;obtain⟨Al,cl,hvl⟩:=zab Hf.out.l;obtain⟨cs,hcs⟩:=Hf.out.m;obtain⟨Am,cm,hvm⟩:=zab hcs.o;rw[hnm] at g4;rw[hvl] at g5;rw[hvm] at g6;have hz8:=zkq Hxr.out (.string ⟨f.name.toArray⟩) (.slice Al f.letters.length cl) (.slice Am f.metres.length cm) (.slice Ar f.rows.length cr) (.bool F.rd) (.int .i64 F.a) (.int .i64 F.b) (.int .i64 F.c);have Hz:=qh hz8;have hty:TyAt wr [w.heap.size] [29]:=TyAt.one Hxr.out;have Hfm:=qh ((Hf.out.off hz8.2 hty (by simp)).mono (C:=w.heap.size) (by omega));have Hv7:=qh (show F.nm=.string ⟨f.name.toArray⟩∧F.vl=.slice Al f.letters.length cl∧F.vm=.slice Am f.metres.length cm∧F.vr=.slice Ar f.rows.length cr from⟨hnm,hvl,hvm,hv7⟩);clear hrw hne hv7 g7 hz8 hty r3 hnm hvl hvm hcs;go_wp2_with fail;refine ziz rfl rfl rfl Hz.out.1 ⟨Hbw.out.trans (Hz.out.2.below Hbw.out.size (fun k hk=>by simp at hk;omega)),?_⟩;rw[HE.out];refine⟨F,?_,Hfm.out⟩;unfold RF.agg;rw[Hv7.out.1,Hv7.out.2.1,Hv7.out.2.2.1,Hv7.out.2.2.2];rfl
   ·have q0:(c==0)=false:=(by simpa using hc);have q1:(c !=0)=true:=(by simpa using hc);have r2:wr.cell? ⟨w.heap.size+1,2,none⟩=some (.int .i64 c):=qc _ _ 2 _ _ (0,0) hrow;have r3:wr.cell? ⟨w.heap.size+1,3,none⟩=some (.int .i64 p):=qc _ _ 3 _ _ (0,0) hrow;have HRP:=qh (HR.out.trans hRP);have Hz:=qh (zle Hxr.out (.string ⟨#[]⟩) (.slice none 0 0) (.slice none 0 0) (.slice none 0 0) (.bool false) (.int .i64 0) (.int .i64 0) (.int .i64 0));have Hbw:Hid (Below w.heap.size w wr):=qh (((qb w.heap.size w).alloc (ql _) _).trans (Hbl.out.mono (by omega)));clear hrow hRP hc;go_wp2_with fail;go_region
    all_goals
     go_wp2_with fail;refine ziz rfl rfl rfl Hz.out.1 ⟨Hbw.out.trans (Hz.out.2.below Hbw.out.size (fun k hk=>by simp at hk;omega)),?_⟩;rw[HRP.out];rfl
theorem zhQ {s:ByteArray} {f:Fm} {i:Nat}:za3 s f false i=match zao (zal s FORM i) with|.error e=>.error e|.ok a=>if endB s a then .error (180,a) else .ok ({f with name:=cutB s a (zap s a)},zap s a):=by
 unfold za3;rw[if_pos (by simp)];rfl
theorem zhR {s:ByteArray} {f:Fm} {i:Nat} (h:isB s i 109=true) (h0:f.rows.isEmpty=true):za3 s f true i=zb9 s f i:=by
 unfold za3;rw[if_neg (by simp),if_pos (by rw[h,h0];rfl)]
theorem zeX {s:ByteArray} {f:Fm} {i:Nat} (h:(isB s i 109&&f.rows.isEmpty)=false) (h0:isB s i 114=true):za3 s f true i=zbF s f i:=by
 unfold za3;rw[if_neg (by simp),if_neg (by rw[h];simp),if_pos h0]
theorem zd8 {s:ByteArray} {f:Fm} {i:Nat} (h:(isB s i 109&&f.rows.isEmpty)=false) (h0:isB s i 114=false):za3 s f true i=match zao (zal s STANZA i) with|.error e=>.error e|.ok a=>zaF s f false i a:=by
 unfold za3;rw[if_neg (by simp),if_neg (by rw[h];simp),if_neg (by rw[h0];simp)];rfl
theorem zeY {w W W':World} {B rb:Nat} (h:Below B w W) (ho:Off [rb] W W') (hB:B≤rb) (hBw:B≤w.heap.size):Below B w W':=h.trans (ho.keep (qm hBw h.size) hB)
theorem zeZ {w W W':World} {B:Nat} (h:Below B w W) (hb:Below W.heap.size W W') (hBw:B≤w.heap.size):Below B w W':=h.trans ((Off.of_below hb (ql _) []).below (qm hBw h.size) (fun _ hk=>by cases hk))
theorem zbf {B rb fb:Nat} {s:ByteArray} {w w':World} {R:Except (Int×Nat) Fm} {c:Int} {p:Nat} (hb:Below B w w') (hR:R=.error (c,p)):zkd B rb fb s w R (PanE c p) w':=by
 rw[hR];exact⟨hb,rfl⟩
set_option maxRecDepth 100000 in
set_option maxHeartbeats 4000000 in
theorem zkr (B rb fb:Nat) (s:ByteArray) (vl vm vs:Value) (w:World) (h:WhJ w w B rb fb s Fm.zero 0 vl vm vs) (h9:9≤B) (hB:B≤rb):
  Calls Tryz.prog 60 #[.pointer (some ⟨rb,0,none⟩)] w (zkd B rb fb s w (zaK s (s.size+1) Fm.zero false 0)):=by
 have hsz:=h.rd.sz;have hrb:=h.rd.lt;have hBw:B≤w.heap.size:=by omega
 generalize hR:zaK s (s.size+1) Fm.zero false 0=R;have HR0:=qh hR;have H0:=qh h;clear h hR;go_enter Tryz.func60,Tryz.ntmps60;go_wp2_with fail;go_step3
 go_wp2_with fail;go_step3
 go_wp2_with fail;go_loopw [2] (fun t wr=>∃(f:Fm) (i:Nat) (ti:Bool) (q:Nat) (vl vm vs:Value),t=.bool ti∧s.size<q+i∧Hid (zaK s q f ti i=R)∧Hid (WhJ w wr B rb fb s f i vl vm vs)) (fun _ wr=>s.size-(match wr.cell? ⟨rb,1,none⟩ with|some v=>(intOf v).toNat|none=>0))
 case atStart=>exact⟨Fm.zero,0,false,s.size+1,vl,vm,vs,rfl,by omega,HR0,H0⟩
 case round=>
  obtain⟨f,i,ti,q,vl,vm,vs,rfl,hq,hT,hJ⟩:=hrel;clear H0 HR0;have hle:=hJ.out.rd.le;obtain⟨r0,r1,r2,r3⟩:=hJ.out.rd.cells;have Hms:Hid (wr.cell? ⟨rb,1,none⟩=some (.int .i64 i)):=qh r1;obtain⟨q',rfl⟩:∃q',q=q'+1:=⟨q-1,by omega⟩;by_cases hi:i<s.size
  ·have hne:((i:Int)==(s.size:Int))=false:=by
    have:¬((i:Int)=(s.size:Int)):=(by omega);simpa using this
   go_wp2_with fail;go_quiet (fail)
   have HJ1:=qh (hJ.out.below (W':=wr.drewN nq) (zad (qb _ _) nq) h9 hB hBw);have Hen:=qh (zdn rb fb s i _ HJ1.out.rd);go_wp2_with fail;refine Hen.out.mono ?_;rintro e w2 ⟨rfl,hb2⟩;have HJ2:=qh (HJ1.out.below hb2 h9 hB hBw);clear hb2 Hen HJ1 hJ r0 r1 r2 r3;rw[zmt hi];cases hnl:isB s i 10 with
   |true=>
    have HT2:Hid (zaK s q' f ti (za4 s i)=R):=qh (by rw[←hT.out,zix hnl]);go_wp2_with fail;refine(zd0 rb fb s i w2 HJ2.out.rd).mono ?_;rintro e wn hst;obtain⟨rfl,hrd,ho⟩:e=.returned (.tuple #[])∧Rd wn rb fb s (za4 s i)∧Off [rb] w2 wn:=hst;have HJn:=qh (HJ2.out.off hrd ho (zcP s i) h9 hB hBw);have hgt:=zcQ (s:=s) (i:=i) (j:=i) hi (ql _);clear hrd ho;go_wp2_with fail;go_roundw
    case rel=>exact⟨f,za4 s i,ti,q',_,_,_,rfl,by omega,HT2,HJn⟩
    case measure=>
     have e1:=HJn.out.rd.cells.2.1;have e2:=HJn.out.rd.le;rw[e1,Hms.out];simp only[intOf];omega
   |false=>
    go_wp2_with fail;refine(zdZ rb fb s i 35 w2 HJ2.out.rd).mono ?_;rintro e w3 ⟨rfl,hb3⟩;have HJ3:=qh (HJ2.out.below hb3 h9 hB hBw);clear hb3 HJ2;have e35:((35:UInt8).toNat:Int)=35:=rfl;rw[e35];cases hha:isB s i 35 with
    |true=>
     have HT2:Hid (zaK s q' f ti (za4 s (zap s i))=R):=qh (by rw[←hT.out,zfu hnl hha]);have hij:=(zbs (s:=s) i hle).1;go_wp2_with fail;refine(zfG rb fb s i w3 HJ3.out.rd).mono ?_;rintro e w4 ⟨rfl,hrd4,ho4⟩;have HJ4:=qh (HJ3.out.off hrd4 ho4 hij h9 hB hBw);clear hrd4 ho4;go_wp2_with fail;refine(zd0 rb fb s (zap s i) w4 HJ4.out.rd).mono ?_;rintro e wn hst;obtain⟨rfl,hrd,ho⟩:e=.returned (.tuple #[])∧Rd wn rb fb s (za4 s (zap s i))∧Off [rb] w4 wn:=hst;have HJn:=qh (HJ4.out.off hrd ho (zcP s (zap s i)) h9 hB hBw);have hgt:=zcQ (s:=s) (i:=i) (j:=(zap s i)) hi (hij);clear hrd ho;go_wp2_with fail;go_roundw
     case rel=>exact⟨f,za4 s (zap s i),ti,q',_,_,_,rfl,by omega,HT2,HJn⟩
     case measure=>
      have e1:=HJn.out.rd.cells.2.1;have e2:=HJn.out.rd.le;rw[e1,Hms.out];simp only[intOf];omega
    |false=>
     have HT2:Hid ((match za3 s f ti i with|.error e=>.error e|.ok (f',j)=>zaK s q' f' true (za4 s j))=R):=qh (by rw[←hT.out,zfv hi hnl hha];rfl);clear hT hnl hha;cases ti with
     |false=>
      have hT3:=HT2.out;rw[zhQ] at hT3;have HT3:=qh hT3;clear hT3 HT2;have Hms1:=qh (zbW rb fb s ⟨#[102,111,114,109,32]⟩ i w3 HJ3.out.rd (by decide));go_wp2_with fail;refine Hms1.out.mono ?_;rintro e w4 hst0;have hst:zbx rb fb s w3 (.tuple #[]) (zao (zal s FORM i)) e w4:=hst0;clear hst0 Hms1;cases hX:zao (zal s FORM i) with
      |error ep=>
       obtain⟨c,p⟩:=ep;have hR2:=HT3.out;rw[hX] at hst hR2;obtain⟨rfl,ho⟩:=hst;exact⟨rfl,zbf (zeY HJ3.out.bl ho hB hBw) hR2.symm⟩
      |ok a=>
       have hR2:=HT3.out;rw[hX] at hst hR2;simp only[] at hR2;obtain⟨rfl,hrd4,ho4⟩:=hst;have hia:i≤a:=(by have:=zaw hX;omega);have HJ4:=qh (HJ3.out.off hrd4 ho4 hia h9 hB hBw);have HT4:=qh hR2;clear hR2 HT3 hX hrd4 ho4;go_wp2_with fail;refine(zdn rb fb s a w4 HJ4.out.rd).mono ?_;rintro e w5 ⟨rfl,hb5⟩;have HJ5:=qh (HJ4.out.below hb5 h9 hB hBw);clear hb5 HJ4;cases hen:endB s a with
       |true=>
        have hR2:=HT4.out;rw[hen,if_pos rfl] at hR2;go_wp2_with fail;refine(zay rb fb s a w5 HJ5.out.rd).mono ?_;rintro e w6 ⟨rfl,hb6⟩;exact⟨rfl,zbf (zeZ HJ5.out.bl hb6 hBw) hR2.symm⟩
       |false=>
        have hR2:=HT4.out;rw[hen,if_neg (by simp)] at hR2;simp only[] at hR2;have HT5:=qh hR2;have hla:=HJ5.out.rd.le;have hae:=zbs (s:=s) a hla;obtain⟨s0,s1,s2,s3⟩:=HJ5.out.rd.cells;have hD5:=HJ5.out.below (W':=w5.drew) (zad (qb _ _) 1) h9 hB hBw;have HD5:=qh hD5;have hT:s.extract a (zap s a)=⟨(cutB s a (zap s a)).toArray⟩:=by
         apply ByteArray.ext;rw[←zcp]
        have HN:=qh (fun(w6:World) (hr:Rd w6 rb fb s (zap s a)) (ho:Off [rb] w5.drew w6)=>(HD5.out.off hr ho hae.1 h9 hB hBw).name (cutB s a (zap s a)) hB h9 hBw);have Hrs:Hid (Calls Tryz.prog 90 #[.pointer (some ⟨rb,0,none⟩)] w5.drew (fun e w'=>e=.returned (.string ⟨(cutB s a (zap s a)).toArray⟩)∧Rd w' rb fb s (zap s a)∧Off [rb] w5.drew w')):=qh ((zfG rb fb s a w5.drew HD5.out.rd).mono (by rintro e w' ⟨h1,h2,h3⟩;exact⟨by rw[h1,hT],h2,h3⟩));clear hR2 HT4 hen hD5 hT;go_wp2_with fail;go_region_law (go_simp;go_at_call 90;refine Hrs.out.mono ?_;rintro e w6 ⟨rfl,hr6,ho6⟩;obtain⟨hJ6,⟨v6,c6⟩,z6⟩:=HN.out w6 hr6 ho6;have HJ6:=qh hJ6;have t2:=hr6.cells.2.2.1;clear hJ6 hr6 ho6)
        all_goals
         go_wp2_with fail;refine(zd0 rb fb s (zap s a) (w6.setCell ⟨fb,0,none⟩ (.string ⟨(cutB s a (zap s a)).toArray⟩)) HJ6.out.rd).mono ?_;rintro e wn hst;obtain⟨rfl,hrd,ho⟩:e=.returned (.tuple #[])∧Rd wn rb fb s (za4 s (zap s a))∧Off [rb] (w6.setCell ⟨fb,0,none⟩ (.string ⟨(cutB s a (zap s a)).toArray⟩)) wn:=hst;have HJn:=qh (HJ6.out.off hrd ho (zcP s (zap s a)) h9 hB hBw);have hgt:=zcQ (s:=s) (i:=i) (j:=(zap s a)) hi (by omega);clear hrd ho;go_wp2_with fail;go_roundw
         case rel=>exact⟨{f with name:=cutB s a (zap s a)},za4 s (zap s a),true,q',_,_,_,rfl,by omega,HT5,HJn⟩
         case measure=>
          have e1:=HJn.out.rd.cells.2.1;have e2:=HJn.out.rd.le;rw[e1,Hms.out];simp only[intOf];omega
     |true=>
      have hJ3:=HJ3;go_wp2_with fail;refine(zdZ rb fb s i 109 w3 HJ3.out.rd).mono ?_;rintro e w4 ⟨rfl,hb4⟩;have HJ4:=qh (HJ3.out.below hb4 h9 hB hBw);clear hb4 HJ3 hJ3;have e109:((109:UInt8).toNat:Int)=109:=rfl;rw[e109];obtain⟨s0,s1,s2,s3⟩:=HJ4.out.rd.cells;obtain⟨g0,g1,g2,g3,g4,g5,g6,g7⟩:=HJ4.out.fm.cells;obtain⟨vis,hrw,_⟩:=HJ4.out.fm.r;obtain⟨As,cs,hvs⟩:=zab hrw.o;subst hvs;clear hrw g0 g1 g2 g4 g5 g6 g7;by_cases hmm:isB s i 109=true∧f.rows=[]
      ·obtain⟨hm1,hm2⟩:=hmm;have hlz:((f.rows.length:Int)==0)=true:=(by rw[hm2];rfl);have hT3:=HT2.out;rw[zhR hm1 (by rw[hm2];rfl)] at hT3;have HT3:=qh hT3;rw[hm1];have Hline:=qh (zkb B rb fb s f i i vl vm (.slice As f.rows.length cs) w4 HJ4.out.rd HJ4.out.vars h9 hB HJ4.out.fm HJ4.out.ok (ql _) hm2);clear hT3 HT2 hm1;go_wp2_with fail;refine Hline.out.mono ?_;rintro e w5 ⟨hb5,hst⟩;clear Hline;cases hX:zb9 s f i with
       |error ep=>
        obtain⟨c,p⟩:=ep;have hR2:=HT3.out;rw[hX] at hst hR2;subst hst;exact⟨rfl,zbf (HJ4.out.bl.trans hb5) hR2.symm⟩
       |ok fj=>
        obtain⟨f',j⟩:=fj;have hR2:=HT3.out;rw[hX] at hst hR2;simp only[] at hR2;obtain⟨rfl,hrd,hk5,vl',vm',vs',hm5⟩:=hst;have hij:=zg3 hX;have HJ5:=qh (HJ4.out.line hb5 hrd hk5 hm5 h9);have HT4:=qh hR2;clear hR2 HT3 hX hrd hk5 hm5 hb5;go_wp2_with fail;refine(zd0 rb fb s j w5 HJ5.out.rd).mono ?_;rintro e wn hst;obtain⟨rfl,hrd,ho⟩:e=.returned (.tuple #[])∧Rd wn rb fb s (za4 s j)∧Off [rb] w5 wn:=hst;have HJn:=qh (HJ5.out.off hrd ho (zcP s j) h9 hB hBw);have hgt:=zcQ (s:=s) (i:=i) (j:=j) hi (hij);clear hrd ho;go_wp2_with fail;go_roundw
        case rel=>exact⟨f',za4 s j,true,q',_,_,_,rfl,by omega,HT4,HJn⟩
        case measure=>
         have e1:=HJn.out.rd.cells.2.1;have e2:=HJn.out.rd.le;rw[e1,Hms.out];simp only[intOf];omega
      ·have hmb:(isB s i 109&&f.rows.isEmpty)=false:=by
        cases hb:isB s i 109 with
        |false=>rfl
        |true=>
         cases hr:f.rows with
         |nil=>exact absurd ⟨hb,hr⟩ hmm
         |cons x l=>rfl
       have hlz:isB s i 109=true→((f.rows.length:Int)==0)=false:=fun hb=>by
        cases hr:f.rows with
        |nil=>exact absurd ⟨hb,hr⟩ hmm
        |cons x l=>
         have:¬(((x::l).length:Int)=0):=(by simp;omega);simpa using this
       clear hmm;have Hrd4:=qh (zdZ rb fb s i 114 w4 HJ4.out.rd);cases hb1:isB s i 109 with
       |false=>
        clear hlz;go_wp2_with fail;refine Hrd4.out.mono ?_;rintro e w5 ⟨rfl,hb5⟩;have HJ5:=qh (HJ4.out.below hb5 h9 hB hBw);clear hb5;have e114:((114:UInt8).toNat:Int)=114:=rfl;rw[e114];obtain⟨t0,t1,t2,t3⟩:=HJ5.out.rd.cells;cases hb2:isB s i 114 with
        |true=>
         have hT3:=HT2.out;rw[zeX hmb hb2] at hT3;have HT3:=qh hT3;have Hline:=qh (zgV B rb fb s f i i vl vm (.slice As f.rows.length cs) w5 HJ5.out.rd HJ5.out.vars h9 hB HJ5.out.fm HJ5.out.ok (ql _));clear hT3 HT2;go_wp2_with fail;refine Hline.out.mono ?_;rintro e w6 ⟨hb6,hst⟩;clear Hline;cases hX:zbF s f i with
         |error ep=>
          obtain⟨c,p⟩:=ep;have hR2:=HT3.out;rw[hX] at hst hR2;subst hst;exact⟨rfl,zbf (HJ5.out.bl.trans hb6) hR2.symm⟩
         |ok fj=>
          obtain⟨f',j⟩:=fj;have hR2:=HT3.out;rw[hX] at hst hR2;simp only[] at hR2;obtain⟨rfl,hrd,hk6,vs',hm6⟩:=hst;have hij:=zeQ hX;have HJ6:=qh (HJ5.out.line hb6 hrd hk6 hm6 h9);have HT4:=qh hR2;clear hR2 HT3 hX hrd hk6 hm6 hb6;go_wp2_with fail;refine(zd0 rb fb s j w6 HJ6.out.rd).mono ?_;rintro e wn hst;obtain⟨rfl,hrd,ho⟩:e=.returned (.tuple #[])∧Rd wn rb fb s (za4 s j)∧Off [rb] w6 wn:=hst;have HJn:=qh (HJ6.out.off hrd ho (zcP s j) h9 hB hBw);have hgt:=zcQ (s:=s) (i:=i) (j:=j) hi (hij);clear hrd ho;go_wp2_with fail;go_roundw
          case rel=>exact⟨f',za4 s j,true,q',_,_,_,rfl,by omega,HT4,HJn⟩
          case measure=>
           have e1:=HJn.out.rd.cells.2.1;have e2:=HJn.out.rd.le;rw[e1,Hms.out];simp only[intOf];omega
        |false=>
         have hT3:=HT2.out;rw[zd8 hmb hb2] at hT3;have HT3:=qh hT3;have Hms1:=qh (zbW rb fb s ⟨#[115,116,97,110,122,97]⟩ i w5 HJ5.out.rd (by decide));clear hT3 HT2;go_wp2_with fail;refine Hms1.out.mono ?_;rintro e w6 hst0;have hst:zbx rb fb s w5 (.tuple #[]) (zao (zal s STANZA i)) e w6:=hst0;clear hst0 Hms1;cases hX:zao (zal s STANZA i) with
         |error ep=>
          obtain⟨c,p⟩:=ep;have hR2:=HT3.out;rw[hX] at hst hR2;obtain⟨rfl,ho⟩:=hst;exact⟨rfl,zbf (zeY HJ5.out.bl ho hB hBw) hR2.symm⟩
         |ok a=>
          have hR2:=HT3.out;rw[hX] at hst hR2;simp only[] at hR2;obtain⟨rfl,hrd6,ho6⟩:=hst;have hia:i+6=a:=(by have:=zaw hX;have e:STANZA.length=6:=rfl;omega);have HJ6:=qh (HJ5.out.off hrd6 ho6 (show i≤a by omega) h9 hB hBw);have HT4:=qh hR2;have Hline:=qh (zdR B rb fb s f false i a i vl vm (.slice As f.rows.length cs) w6 HJ6.out.rd HJ6.out.vars h9 hB HJ6.out.fm HJ5.out.ok (by omega));clear hR2 HT3 hX hrd6 ho6;go_wp2_with fail;refine Hline.out.mono ?_;rintro e w7 ⟨hb7,hst⟩;clear Hline;cases hX:zaF s f false i a with
          |error ep=>
           obtain⟨c,p⟩:=ep;have hR2:=HT4.out;rw[hX] at hst hR2;subst hst;exact⟨rfl,zbf (HJ6.out.bl.trans hb7) hR2.symm⟩
          |ok fj=>
           obtain⟨f',j⟩:=fj;have hR2:=HT4.out;rw[hX] at hst hR2;simp only[] at hR2;obtain⟨rfl,hrd,hk7,vs',hm7⟩:=hst;have hij:i≤j:=(by have:=zcZ hX;omega);have HJ7:=qh (HJ6.out.line hb7 hrd hk7 hm7 h9);have HT5:=qh hR2;clear hR2 HT4 hX hrd hk7 hm7 hb7;go_wp2_with fail;refine(zd0 rb fb s j w7 HJ7.out.rd).mono ?_;rintro e wn hst;obtain⟨rfl,hrd,ho⟩:e=.returned (.tuple #[])∧Rd wn rb fb s (za4 s j)∧Off [rb] w7 wn:=hst;have HJn:=qh (HJ7.out.off hrd ho (zcP s j) h9 hB hBw);have hgt:=zcQ (s:=s) (i:=i) (j:=j) hi (hij);clear hrd ho;go_wp2_with fail;go_roundw
           case rel=>exact⟨f',za4 s j,true,q',_,_,_,rfl,by omega,HT5,HJn⟩
           case measure=>
            have e1:=HJn.out.rd.cells.2.1;have e2:=HJn.out.rd.le;rw[e1,Hms.out];simp only[intOf];omega
       |true=>
        have hlz1:=hlz hb1;clear hlz;go_wp2_with fail;refine Hrd4.out.mono ?_;rintro e w5 ⟨rfl,hb5⟩;have HJ5:=qh (HJ4.out.below hb5 h9 hB hBw);clear hb5;have e114:((114:UInt8).toNat:Int)=114:=rfl;rw[e114];obtain⟨t0,t1,t2,t3⟩:=HJ5.out.rd.cells;cases hb2:isB s i 114 with
        |true=>
         have hT3:=HT2.out;rw[zeX hmb hb2] at hT3;have HT3:=qh hT3;have Hline:=qh (zgV B rb fb s f i i vl vm (.slice As f.rows.length cs) w5 HJ5.out.rd HJ5.out.vars h9 hB HJ5.out.fm HJ5.out.ok (ql _));clear hT3 HT2;go_wp2_with fail;refine Hline.out.mono ?_;rintro e w6 ⟨hb6,hst⟩;clear Hline;cases hX:zbF s f i with
         |error ep=>
          obtain⟨c,p⟩:=ep;have hR2:=HT3.out;rw[hX] at hst hR2;subst hst;exact⟨rfl,zbf (HJ5.out.bl.trans hb6) hR2.symm⟩
         |ok fj=>
          obtain⟨f',j⟩:=fj;have hR2:=HT3.out;rw[hX] at hst hR2;simp only[] at hR2;obtain⟨rfl,hrd,hk6,vs',hm6⟩:=hst;have hij:=zeQ hX;have HJ6:=qh (HJ5.out.line hb6 hrd hk6 hm6 h9);have HT4:=qh hR2;clear hR2 HT3 hX hrd hk6 hm6 hb6;go_wp2_with fail;refine(zd0 rb fb s j w6 HJ6.out.rd).mono ?_;rintro e wn hst;obtain⟨rfl,hrd,ho⟩:e=.returned (.tuple #[])∧Rd wn rb fb s (za4 s j)∧Off [rb] w6 wn:=hst;have HJn:=qh (HJ6.out.off hrd ho (zcP s j) h9 hB hBw);have hgt:=zcQ (s:=s) (i:=i) (j:=j) hi (hij);clear hrd ho;go_wp2_with fail;go_roundw
          case rel=>exact⟨f',za4 s j,true,q',_,_,_,rfl,by omega,HT4,HJn⟩
          case measure=>
           have e1:=HJn.out.rd.cells.2.1;have e2:=HJn.out.rd.le;rw[e1,Hms.out];simp only[intOf];omega
        |false=>
         have hT3:=HT2.out;rw[zd8 hmb hb2] at hT3;have HT3:=qh hT3;have Hms1:=qh (zbW rb fb s ⟨#[115,116,97,110,122,97]⟩ i w5 HJ5.out.rd (by decide));clear hT3 HT2;go_wp2_with fail;refine Hms1.out.mono ?_;rintro e w6 hst0;have hst:zbx rb fb s w5 (.tuple #[]) (zao (zal s STANZA i)) e w6:=hst0;clear hst0 Hms1;cases hX:zao (zal s STANZA i) with
         |error ep=>
          obtain⟨c,p⟩:=ep;have hR2:=HT3.out;rw[hX] at hst hR2;obtain⟨rfl,ho⟩:=hst;exact⟨rfl,zbf (zeY HJ5.out.bl ho hB hBw) hR2.symm⟩
         |ok a=>
          have hR2:=HT3.out;rw[hX] at hst hR2;simp only[] at hR2;obtain⟨rfl,hrd6,ho6⟩:=hst;have hia:i+6=a:=(by have:=zaw hX;have e:STANZA.length=6:=rfl;omega);have HJ6:=qh (HJ5.out.off hrd6 ho6 (show i≤a by omega) h9 hB hBw);have HT4:=qh hR2;have Hline:=qh (zdR B rb fb s f false i a i vl vm (.slice As f.rows.length cs) w6 HJ6.out.rd HJ6.out.vars h9 hB HJ6.out.fm HJ5.out.ok (by omega));clear hR2 HT3 hX hrd6 ho6;go_wp2_with fail;refine Hline.out.mono ?_;rintro e w7 ⟨hb7,hst⟩;clear Hline;cases hX:zaF s f false i a with
          |error ep=>
           obtain⟨c,p⟩:=ep;have hR2:=HT4.out;rw[hX] at hst hR2;subst hst;exact⟨rfl,zbf (HJ6.out.bl.trans hb7) hR2.symm⟩
          |ok fj=>
           obtain⟨f',j⟩:=fj;have hR2:=HT4.out;rw[hX] at hst hR2;simp only[] at hR2;obtain⟨rfl,hrd,hk7,vs',hm7⟩:=hst;have hij:i≤j:=(by have:=zcZ hX;omega);have HJ7:=qh (HJ6.out.line hb7 hrd hk7 hm7 h9);have HT5:=qh hR2;clear hR2 HT4 hX hrd hk7 hm7 hb7;go_wp2_with fail;refine(zd0 rb fb s j w7 HJ7.out.rd).mono ?_;rintro e wn hst;obtain⟨rfl,hrd,ho⟩:e=.returned (.tuple #[])∧Rd wn rb fb s (za4 s j)∧Off [rb] w7 wn:=hst;have HJn:=qh (HJ7.out.off hrd ho (zcP s j) h9 hB hBw);have hgt:=zcQ (s:=s) (i:=i) (j:=j) hi (hij);clear hrd ho;go_wp2_with fail;go_roundw
           case rel=>exact⟨f',za4 s j,true,q',_,_,_,rfl,by omega,HT5,HJn⟩
           case measure=>
            have e1:=HJn.out.rd.cells.2.1;have e2:=HJn.out.rd.le;rw[e1,Hms.out];simp only[intOf];omega
  ·have hne:((i:Int)==(s.size:Int))=true:=by
    have:(i:Int)=(s.size:Int):=(by omega);simpa using this
   have HJ1:=qh (fun nq=>hJ.out.below (W':=wr.drewN nq) (zad (qb _ _) nq) h9 hB hBw);obtain⟨g0,g1,g2,g3,g4,g5,g6,g7⟩:=hJ.out.fm.cells;obtain⟨vis,hrw,_⟩:=hJ.out.fm.r;obtain⟨As,cs,hvs⟩:=zab hrw.o;subst hvs;clear hrw g0 g1 g2 g4 g5 g6 g7;have hT3:=hT.out;rw[zg1 hi] at hT3;have hi2:i=s.size:=(by omega);cases hrr:f.rows with
   |nil=>
    have hlz:((f.rows.length:Int)==0)=true:=(by rw[hrr];rfl);have hR2:R=.error (180,i):=(by rw[←hT3,hrr,hi2];rfl);have HR2:=qh hR2;clear hR2 hT3 hrr;go_wp2_with fail;go_quiet (fail)
    have Hwr:=qh (zay rb fb s i _ (HJ1.out nq).rd);go_wp2_with fail;refine Hwr.out.mono ?_;rintro e w5 ⟨rfl,hb5⟩;exact⟨rfl,zbf (zeZ (HJ1.out nq).bl hb5 hBw) HR2.out⟩
   |cons x l=>
    have hlz:((f.rows.length:Int)==0)=false:=by
     have:¬((f.rows.length:Int)=0):=(by rw[hrr];simp;omega);simpa using this
    have hR2:R=.ok f:=(by rw[←hT3,hrr];rfl);have HR2:=qh hR2;clear hR2 hT3 hrr;go_wp2_with fail;go_quiet (fail)
    go_wp2_with fail;refine bodyPost_end (results_none rfl _ _ _) rfl ?_;rw[HR2.out];exact⟨(HJ1.out nq).bl,rfl,_,_,_,_,(HJ1.out nq).rd,(HJ1.out nq).ok,(HJ1.out nq).fm⟩
theorem neI (c:Int) (p:Nat) (w:World):(binOp .neq 20 (.iface 133 (.agg #[.int .i64 c,.int .i64 p])) .nilIface).run Tryz.prog w=.ok (.bool true) w:=by kernel_rfl
set_option maxRecDepth 100000 in
set_option maxHeartbeats 1000000 in
theorem zi2 (pf ps:Nat) (c:Int) (p:Nat) (x y0 y1:Value) (tf ts:TypeId) (older:List PanicEntry) (w:World) (hf:w.heap[pf]?=some (.cells #[x] tf (0,0))) (hs:w.heap[ps]?=some (.cells #[y0,y1] ts (0,0))) (hne:pf≠ps):
  CallsD Tryz.prog 59 #[.pointer (some ⟨pf,0,none⟩),.pointer (some ⟨ps,0,none⟩)] (.panicking ({v:=zkD c p,recovered:=false}::older)) w fun e u' w'=>
   e=.returned (.tuple #[])∧u'=.panicking ({v:=zkD c p,recovered:=true}::older)∧Off [pf,ps] w w'∧w'.heap[pf]?=some (.cells #[.pointer none] tf (0,0))∧w'.heap[ps]?=some (.cells #[.int .i64 c,.int .i64 p] ts (0,0)):=by
 have f0:w.cell? ⟨pf,0,none⟩=some x:=qc _ _ 0 _ _ (0,0) hf;have s0:w.cell? ⟨ps,0,none⟩=some y0:=qc _ _ 0 _ _ (0,0) hs;have s1:w.cell? ⟨ps,1,none⟩=some y1:=qc _ _ 1 _ _ (0,0) hs;have hN:=neI c p;have hA:∀w:World,(Instr.typeAssert (.iface 133 (.agg #[.int .i64 c,.int .i64 p])) 20 133 true).run Tryz.prog w=.ok (.tuple #[.agg #[.int .i64 c,.int .i64 p],.bool true]) w:=fun w=>by kernel_rfl
 refine callsD_of_wpS Tryz.func59 rfl fun c₀ cs hu=>?_;apply wpS_seq;apply wpS_region;simp[wpOpsS,go_sem,recoverD,hu,Tryz.ntmps59,Exit.thenS,zkD];refine wpS_of_wp ?_;change Code.wp _ _ _ {tmps:=#[.pointer (some ⟨pf,0,none⟩),.pointer (some ⟨ps,0,none⟩),.iface 133 (.agg #[.int .i64 c,.int .i64 p]),undef,undef,.iface 133 (.agg #[.int .i64 c,.int .i64 p]),undef,undef,undef,undef,undef,undef,undef,undef,undef,undef,undef,undef],defers:=[]} _
 go_wp2_with fail;have hpl:pf<w.heap.size:=(qg hf).1;have hsl:ps<w.heap.size:=(qg hs).1;have hbW:Below w.heap.size w (w.alloc (.cells #[.int .i64 c,.int .i64 p] 133)):=(qb _ _).alloc (ql _) _;have hnb:(w.alloc (.cells #[.int .i64 c,.int .i64 p] 133)).heap[w.heap.size]?=some (.cells #[.int .i64 c,.int .i64 p] 133 (0,0)):=qn w _;have hpf1:=(hbW.block pf hpl).trans hf;have hps1:=(hbW.block ps hsl).trans hs;generalize w.alloc (.cells #[.int .i64 c,.int .i64 p] 133)=W1 at*;generalize hn:w.heap.size=nb at*;have n1:pf≠nb:=by omega
 have n2:ps≠nb:=by omega
 have n3:nb≠pf:=by omega
 have n4:nb≠ps:=by omega
 have n5:ps≠pf:=by omega
 have g0:W1.cell? ⟨pf,0,none⟩=some x:=qc _ _ 0 _ _ (0,0) hpf1;have g1:W1.cell? ⟨ps,0,none⟩=some y0:=qc _ _ 0 _ _ (0,0) hps1;have g2:W1.cell? ⟨ps,1,none⟩=some y1:=qc _ _ 1 _ _ (0,0) hps1;have g3:W1.cell? ⟨nb,0,none⟩=some (.int .i64 c):=qc _ _ 0 _ _ (0,0) hnb;have g4:W1.cell? ⟨nb,1,none⟩=some (.int .i64 p):=qc _ _ 1 _ _ (0,0) hnb;have z0:W1.frozen? ⟨pf,0,none⟩=false:=qf _ _ 0 _ _ hpf1;have z1:W1.frozen? ⟨ps,0,none⟩=false:=qf _ _ 0 _ _ hps1;have z2:W1.frozen? ⟨ps,1,none⟩=false:=qf _ _ 1 _ _ hps1;have hfin:Off [pf,ps] w (((W1.setCell ⟨pf,0,none⟩ (.pointer none)).setCell ⟨ps,0,none⟩ (.int .i64 c)).setCell ⟨ps,1,none⟩ (.int .i64 p))∧(((W1.setCell ⟨pf,0,none⟩ (.pointer none)).setCell ⟨ps,0,none⟩ (.int .i64 c)).setCell ⟨ps,1,none⟩ (.int .i64 p)).heap[pf]?=some (.cells #[.pointer none] tf (0,0))∧(((W1.setCell ⟨pf,0,none⟩ (.pointer none)).setCell ⟨ps,0,none⟩ (.int .i64 c)).setCell ⟨ps,1,none⟩ (.int .i64 p)).heap[ps]?=some (.cells #[.int .i64 c,.int .i64 p] ts (0,0)):=by
  have o1:=Off.setCell W1 pf 0 (.pointer none);have o2:=Off.setCell (W1.setCell ⟨pf,0,none⟩ (.pointer none)) ps 0 (.int .i64 c);have o3:=Off.setCell ((W1.setCell ⟨pf,0,none⟩ (.pointer none)).setCell ⟨ps,0,none⟩ (.int .i64 c)) ps 1 (.int .i64 p);have h1:=qs W1 pf 0 _ _ (.pointer none) hpf1;have hl1:pf<W1.heap.size:=(qg hpf1).1;have hl2:ps<W1.heap.size:=(qg hps1).1;have s1:=(o1.block ps hl2 (by simp;omega)).trans hps1;have s2:=qs _ ps 0 _ _ (.int .i64 c) s1;have s3:=qs _ ps 1 _ _ (.int .i64 p) s2;have p2:=(o2.block pf (Nat.lt_of_lt_of_le hl1 o1.size) (by simp;omega)).trans h1;have p3:=(o3.block pf (Nat.lt_of_lt_of_le (Nat.lt_of_lt_of_le hl1 o1.size) o2.size) (by simp;omega)).trans p2;refine⟨?_,p3,s3⟩;have ob:=Off.of_below hbW (by omega) [pf,ps];exact((ob.trans (o1.mono (fun k hk=>.inl (by simp at hk⊢;exact .inl hk)))).trans (o2.mono (fun k hk=>.inl (by simp at hk⊢;exact .inr hk)))).trans (o3.mono (fun k hk=>.inl (by simp at hk⊢;exact .inr hk)))
 have Hfin:=qh hfin;clear hfin hbW hnb hpf1 hps1 hf hs hN hA;go_region;exact⟨rfl,_,rfl,_,results_none rfl _ _ _,rfl,rfl,Hfin.out.1.trans (Off.drew _ _),Hfin.out.2.1,Hfin.out.2.2⟩
theorem zlg (pf ps:Nat) (w:World):
  CallsD Tryz.prog 59 #[.pointer (some ⟨pf,0,none⟩),.pointer (some ⟨ps,0,none⟩)] .returning w fun e u' w'=>e=.returned (.tuple #[])∧u'=.returning∧w'=w:=by
 have hN:∀w:World,(binOp .neq 20 .nilIface .nilIface).run Tryz.prog w=.ok (.bool false) w:=fun w=>by kernel_rfl
 refine callsD_of_wpS Tryz.func59 rfl fun c₀ cs hu=>?_;apply wpS_seq;apply wpS_region;simp[wpOpsS,go_sem,recoverD,hu,Tryz.ntmps59,Exit.thenS];refine wpS_of_wp ?_;change Code.wp _ _ _ {tmps:=#[.pointer (some ⟨pf,0,none⟩),.pointer (some ⟨ps,0,none⟩),.nilIface,undef,undef,.nilIface,undef,undef,undef,undef,undef,undef,undef,undef,undef,undef,undef,undef],defers:=[]} _
 go_wp2_with fail;refine⟨rfl,.returning,?_,_,results_none rfl _ _ _,rfl,rfl,rfl⟩;cases c₀;simp_all
theorem FmM.offLow {w w':World} {B fb:Nat} {f:Fm} {vl vm vs:Value} {L:List Nat} (h:FmM w B fb f vl vm vs) (ho:Off L w w') (hl:∀k∈L,k<B):FmM w' B fb f vl vm vs:=by
 have own:∀{e z n:Nat} {v:Value} {xs:List Value},w.ownsRow B e z v n xs→w'.ownsRow B e z v n xs:=fun{e z n v xs} hq=>ho.own hq (fun k hk hm=>by have:=(hq.lt k hk).1;have:=hl k hm;omega);obtain⟨cs,hm⟩:=h.m;obtain⟨vis,hr,hi⟩:=h.r;have hfB:=h.hB;refine⟨(ho.block fb h.lt (fun hm=>by have:=hl _ hm;omega)).trans h.x,h.hB,own h.l,⟨cs,hm.n,own hm.o,fun k hk=>?_⟩,⟨vis,⟨hr.n,own hr.o,hr.it⟩,fun k hk=>?_⟩⟩
 ·obtain⟨a,vs,b⟩:=hm.m k hk;exact⟨a,vs,b.vl,own b.feet,fun j hj=>own (b.ways j hj),own b.ends,own b.brks,b.apart⟩
 ·obtain⟨vhs,h2⟩:=hi k hk;exact⟨vhs,h2.n,own h2.o,fun j hj=>own (h2.h j hj)⟩
theorem FmM.mono {w:World} {B C fb:Nat} {f:Fm} {vl vm vs:Value} (h:FmM w B fb f vl vm vs) (hC:C≤B):FmM w C fb f vl vm vs:=by
 obtain⟨cs,hm⟩:=h.m;obtain⟨vis,hr,hi⟩:=h.r;refine⟨h.x,qm hC h.hB,zaT h.l hC,⟨cs,hm.n,zaT hm.o hC,fun k hk=>?_⟩,⟨vis,⟨hr.n,zaT hr.o hC,hr.it⟩,fun k hk=>?_⟩⟩
 ·obtain⟨a,vs,b⟩:=hm.m k hk;exact⟨a,vs,OM.mono b hC⟩
 ·obtain⟨vhs,h2⟩:=hi k hk;exact⟨vhs,h2.mono hC⟩
def zmz (s:ByteArray) (w:World) (e:Ending) (w':World):Prop:=Below w.heap.size w w'∧
 match zbO s with
 |.error (c,p)=>e=.returned (.tuple #[.pointer none,.agg #[.int .i64 c,.int .i64 p]])
 |.ok f=>∃fb vl vm vs,e=.returned (.tuple #[.pointer (some ⟨fb,0,none⟩),.agg #[.int .i64 0,.int .i64 0]])∧FmM w' w.heap.size fb f vl vm vs∧FmOk f s.size
end Go.Proofs.YtgklikkddckgbaaGreatDoor.Mo

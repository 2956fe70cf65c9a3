import Derived.Test.YtgklikkddckgbaaGreatDoorHBA
import Derived.Test.YtgklikkddckgbaaGreatDoorHBR
/- Lemmas of the claim. -/
set_option linter.all false
namespace Go.Proofs.YtgklikkddckgbaaGreatDoor.Mo
open Go.RowKit
def dRow (letters:List UInt8) (stz up:Int) (line:Nat) (l:List It):List Dm:=l.mapIdx fun i x=>demandP letters x ((line+i:Nat):Int) stz up
structure DSt where
  out:List Dm
  stz:Int
  up:Int
def dStep (f:Fm) (s:DSt) (r:Rw):DSt:=⟨s.out++dRow f.letters s.stz s.up s.out.length r.items,s.stz+1,if r.round then s.up+f.shift else s.up⟩
def timesR (n:Int) (r:Rw):Nat:=if r.round then n.toNat else 1
def blocksP (rows:List Rw) (n:Int):List Rw:=rows.flatMap fun r=>List.replicate (timesR n r) r
def dAll (f:Fm) (bs:List Rw):DSt:=bs.foldl (dStep f) ⟨[],0,0⟩
def demandsP (f:Fm) (n:Int):List Dm:=(dAll f (blocksP f.rows n)).out
theorem dRow_len (letters:List UInt8) (stz up:Int) (line:Nat) (l:List It):(dRow letters stz up line l).length=l.length:=by unfold dRow;simp
theorem dRow_take (letters:List UInt8) (stz up:Int) (line:Nat) (l:List It) (k:Nat) (hk:k<l.length):dRow letters stz up line (l.take (k+1))=dRow letters stz up line (l.take k)++[demandP letters (l.getD k It0) ((line+k:Nat):Int) stz up]:=by
  unfold dRow;rw[List.take_succ_eq_append_getElem hk,List.mapIdx_append];simp[List.getD_eq_getElem?_getD,hk,Nat.min_eq_left (Nat.le_of_lt hk)]
theorem dRow_pre (letters:List UInt8) (stz up:Int) (line:Nat) (l:List It) (k:Nat):dRow letters stz up line (l.take k)<+:dRow letters stz up line l:=by
  conv=>rhs;rw[←List.take_append_drop k l]
  unfold dRow;rw[List.mapIdx_append];exact List.prefix_append _ _
theorem dAll_snoc (f:Fm) (bs:List Rw) (r:Rw):dAll f (bs++[r])=dStep f (dAll f bs) r:=by unfold dAll;rw[List.foldl_append];rfl
theorem dAll_pre (f:Fm) (bs:List Rw):∀cs,(dAll f bs).out<+:(dAll f (bs++cs)).out
  |[]=>by rw[List.append_nil];exact List.prefix_rfl
  |c::cs=>by
   have h:=dAll_pre f (bs++[c]) cs;rw[dAll_snoc,List.append_assoc] at h;exact(List.prefix_append _ _).trans h
theorem fold_stz (f:Fm):∀(bs:List Rw) (s:DSt),(bs.foldl (dStep f) s).stz=s.stz+bs.length
  |[],s=>by simp
  |b::bs,s=>by
   rw[List.foldl_cons,fold_stz f bs];simp only[dStep,List.length_cons];push_cast;omega
theorem dAll_stz (f:Fm) (bs:List Rw):(dAll f bs).stz=bs.length:=by
  unfold dAll;rw[fold_stz];simp
theorem fold_up (f:Fm) (h0:0≤f.shift∧f.shift≤512):∀(bs:List Rw) (s:DSt),s.up≤(bs.foldl (dStep f) s).up∧(bs.foldl (dStep f) s).up≤s.up+512*(bs.length:Int)
  |[],s=>by simp
  |b::bs,s=>by
   rw[List.foldl_cons];have ih:=fold_up f h0 bs (dStep f s b)
   have e:s.up≤(dStep f s b).up∧(dStep f s b).up≤s.up+512:=by
     unfold dStep;simp only[];split<;>omega
   simp only[List.length_cons];push_cast;omega
theorem dAll_up (f:Fm) (h0:0≤f.shift∧f.shift≤512) (bs:List Rw):0≤(dAll f bs).up∧(dAll f bs).up≤512*(bs.length:Int):=by
  have h:=fold_up f h0 bs ⟨[],0,0⟩;unfold dAll;simpa using h
theorem fold_len (f:Fm):∀(bs:List Rw) (s:DSt),(bs.foldl (dStep f) s).out.length=s.out.length+(bs.map fun r=>r.items.length).sum
  |[],s=>by simp
  |b::bs,s=>by
   rw[List.foldl_cons,fold_len f bs];simp only[dStep,List.length_append,dRow_len,List.map_cons,List.sum_cons];omega
theorem dAll_len (f:Fm) (bs:List Rw):(dAll f bs).out.length=(bs.map fun r=>r.items.length).sum:=by
  unfold dAll;rw[fold_len];simp
theorem sum_rep (a:Nat):∀n,(List.replicate n a).sum=n*a
  |0=>by simp
  |n+1=>by rw[List.replicate_succ,List.sum_cons,sum_rep a n,Nat.succ_mul,Nat.add_comm]
theorem blocks_take (rows:List Rw) (n:Int) (i:Nat) (hi:i<rows.length):blocksP (rows.take (i+1)) n=blocksP (rows.take i) n++List.replicate (timesR n (rows.getD i ⟨false,[]⟩)) (rows.getD i ⟨false,[]⟩):=by
  unfold blocksP;rw[List.take_succ_eq_append_getElem hi,List.flatMap_append];simp[List.getD_eq_getElem?_getD,hi]
theorem blocks_pre (rows:List Rw) (n:Int) (i:Nat):∃cs,blocksP rows n=blocksP (rows.take i) n++cs:=by
  refine⟨blocksP (rows.drop i) n,?_⟩;unfold blocksP;rw[←List.flatMap_append,List.take_append_drop]
theorem blocks_size (rows:List Rw) (n:Int) (h0:0≤n):∀i,i≤rows.length→((((blocksP (rows.take i) n).map fun r=>r.items.length).sum:Nat):Int)=za6 (rows.take i) n
  |0,_=>by simp[blocksP,za6]
  |i+1,hi=>by
   have ih:=blocks_size rows n h0 i (by omega);rw[blocks_take rows n i (by omega),zdx rows n i (by omega),List.map_append,List.sum_append,List.map_replicate,sum_rep];push_cast;rw[ih];unfold ziH timesR;split
   · rw[show((n.toNat:Nat):Int)=n by omega]
   · simp
theorem demands_len (f:Fm) (n:Int) (h0:0≤n):((demandsP f n).length:Int)=za6 f.rows n:=by
  have h:=blocks_size f.rows n h0 f.rows.length (ql _);rw[List.take_length] at h;unfold demandsP;rw[dAll_len,h]
theorem blocks_count (rows:List Rw) (n:Int) (h0:0≤n) (h1:n≤512):∀i,i≤rows.length→(blocksP (rows.take i) n).length≤512*i
  |0,_=>by simp[blocksP]
  |i+1,hi=>by
   have ih:=blocks_count rows n h0 h1 i (by omega);rw[blocks_take rows n i (by omega),List.length_append,List.length_replicate];have:timesR n (rows.getD i ⟨false,[]⟩)≤512:=by unfold timesR;split<;>omega
   omega
structure YD where
  k:Nat
  d:Dm
  v:Value
def ydEncs (x:YD):Array Value:=#[.int .i64 (x.k:Int),.agg (dmC x.d x.v)]
def ydFits (N0:Nat) (ds:List Dm) (pre:List YD) (x:YD) (W:World):Prop:=W.ownsRow N0 3 1 x.v x.d.has.length (intC x.d.has)∧x.d.has.length≤4∧x.k=pre.length∧ds[pre.length]?=some x.d
def Enum (xs:List YD) (ds:List Dm):Prop:=xs.map YD.d=ds∧xs.map YD.k=List.range xs.length
theorem Enum.len {xs:List YD} {ds:List Dm} (h:Enum xs ds):xs.length=ds.length:=by rw[←h.1,List.length_map]
theorem Enum.nil:Enum [] []:=⟨rfl,rfl⟩
theorem Enum.snoc {xs:List YD} {ds:List Dm} (h:Enum xs ds) (d:Dm) (v:Value):Enum (xs++[⟨ds.length,d,v⟩]) (ds++[d]):=by
  refine⟨by rw[List.map_append,h.1];rfl,?_⟩;rw[List.map_append,h.2,List.length_append,List.length_singleton,List.range_succ,h.len];rfl
def KeepsSt (W W':World):Prop:=W.heap.size≤W'.heap.size∧∀(i:Nat) (cs:Array Value),W.heap[i]?=some (.cells cs 106 (0,0))→W'.heap[i]?=some (.cells cs 106 (0,0))
theorem KeepsSt.trans {A B C:World} (h:KeepsSt A B) (h2:KeepsSt B C):KeepsSt A C:=⟨qm h.1 h2.1,fun i cs hi=>h2.2 i cs (h.2 i cs hi)⟩
theorem KeepsSt.of_below {A B:World} (h:Below A.heap.size A B):KeepsSt A B:=⟨h.size,fun i cs hi=>(h.block i (qg hi).1).trans hi⟩
theorem KeepsSt.put (W:World) (l:Nat) (o o':Obj) (h:W.heap[l]?=some o) (h1:o.isCells=false) (h2:o.isWalk=false):KeepsSt W (W.putObj l o'):=by
  refine⟨by simp,fun i cs hi=>?_⟩;by_cases e:i=l
  · subst e
    rw[h] at hi;cases hi;cases h1
  · exact(World.putObj_heap_other e).trans hi
structure EachM (B fb fx rx:Nat) (f:Fm) (vl vm vs:Value) (n:Int) (vis:List Value) (vhss:Nat→List Value) (W:World):Prop where
  fm:FmM W B fb f vl vm vs
  x:W.heap[fx]?=some (.cells #[.pointer (some ⟨fb,0,none⟩)] 24 (0,0))
  r:W.heap[rx]?=some (.cells #[.int .i64 n] 3 (0,0))
  rw:RwM W B vs f.rows vis
  its:∀k,k<f.rows.length→ItsM W B f.letters (vis.getD k .nilFunc) (f.rows.getD k ⟨false,[]⟩).items (vhss k)
theorem EachM.below {B fb fx rx:Nat} {f:Fm} {vl vm vs:Value} {n:Int} {vis:List Value} {vhss:Nat→List Value} {W W':World} (h:EachM B fb fx rx f vl vm vs n vis vhss W) (hb:Below W.heap.size W W'):EachM B fb fx rx f vl vm vs n vis vhss W':=
  ⟨h.fm.below hb,(hb.block _ (qg h.x).1).trans h.x,(hb.block _ (qg h.r).1).trans h.r,h.rw.off (T:=[]) (Off.of_below hb (ql _) []) TyAt.nil (by simp),fun k hk=>(h.its k hk).off (T:=[]) (Off.of_below hb (ql _) []) TyAt.nil (by simp) (by simp)⟩
theorem FmM.parts {W:World} {B fb:Nat} {f:Fm} {vl vm vs:Value} (h:FmM W B fb f vl vm vs):∃(vis:List Value) (vhss:Nat→List Value),RwM W B vs f.rows vis∧∀k,k<f.rows.length→ItsM W B f.letters (vis.getD k .nilFunc) (f.rows.getD k ⟨false,[]⟩).items (vhss k):=by
  obtain⟨vis,h1,h2⟩:=h.r;refine⟨vis,fun k=>if hk:k<f.rows.length then Classical.choose (h2 k hk) else [],h1,fun k hk=>?_⟩;simp only[hk,dif_pos];exact Classical.choose_spec (h2 k hk)
theorem rw_cells {W:World} {B c:Nat} {A:Option Addr} {rows:List Rw} {vis:List Value} (h:RwM W B (.slice A rows.length c) rows vis) {k:Nat} (hk:k<rows.length):
    ∃g,A=some ⟨g,0,none⟩∧W.cell? ⟨g,k*2,none⟩=some (.bool (rows.getD k ⟨false,[]⟩).round)∧W.cell? ⟨g,k*2+1,none⟩=some (vis.getD k .nilFunc):=by
  rcases h.o.2 with⟨_,e0⟩|⟨g,cap,cur,e,_,hg,hcap,_⟩
  · omega
  · cases e
    have hlen:=zhn rows vis h.n;have hget:=zho rows vis k h.n hk;exact⟨g,rfl,(h.o.cellAt (k*2) (by omega)).trans hget.1,(h.o.cellAt (k*2+1) (by omega)).trans hget.2⟩
theorem its_cells {W:World} {B c:Nat} {letters:List UInt8} {A:Option Addr} {l:List It} {vhs:List Value} (h:ItsM W B letters (.slice A l.length c) l vhs) {k:Nat} (hk:k<l.length):
    ∃g,A=some ⟨g,0,none⟩∧∀o,o<13→W.cell? ⟨g,k*13+o,none⟩=(itC letters (l.getD k It0).cls (l.getD k It0).ref (l.getD k It0).marks (l.getD k It0).at_ (vhs.getD k .nilFunc))[o]?:=by
  rcases h.o.2 with⟨_,e0⟩|⟨g,cap,cur,e,_,hg,hcap,_⟩
  · omega
  · cases e
    have hlen:=zih letters l vhs h.n;refine⟨g,rfl,fun o ho=>?_⟩;exact(h.o.cellAt (k*13+o) (by omega)).trans (zii letters l vhs k o h.n hk ho)
theorem check_form (B fb:Nat) (f:Fm) (vl vm vs:Value) (n:Int) (w:World) (h:FmM w B fb f vl vm vs):
    Calls Tryz.prog 38 #[.pointer (some ⟨fb,0,none⟩),.int .i64 n] w fun e w'=>e=.returned (.int .i64 (if n<f.least∨f.most<n then 5 else 0))∧w=w':=by
  have c5:=h.cells.2.2.2.2.2.1;have c6:=h.cells.2.2.2.2.2.2.1;clear h;go_enter Tryz.func38,Tryz.ntmps38;by_cases h1:n<f.least
  · have d1:decide (n<f.least)=true:=qt h1
    rw[if_pos (.inl h1)];go_wp2_with fail;go_ret;exact⟨rfl,rfl⟩
  · have d1:decide (n<f.least)=false:=qd h1
    by_cases h2:f.most<n
    · have d2:decide (n>f.most)=true:=qt h2
      rw[if_pos (.inr h2)];go_wp2_with fail;go_ret;exact⟨rfl,rfl⟩
    · have d2:decide (n>f.most)=false:=qd (by omega)
      rw[if_neg (by omega)];go_wp2_with fail;go_ret;exact⟨rfl,rfl⟩

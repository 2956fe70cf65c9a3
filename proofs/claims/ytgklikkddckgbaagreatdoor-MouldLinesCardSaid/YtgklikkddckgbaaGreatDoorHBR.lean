import Derived.Test.YtgklikkddckgbaaGreatDoorHDB
/- Lemmas of the claim. -/
set_option linter.all false
namespace Go.Proofs.YtgklikkddckgbaaGreatDoor
open Go Go.RowKit
def AbidesK {α:Type} (B:Nat) (J:List α→World→Prop):Prop:=∀s W W',J s W→Below B W W'→KeepsFor 0 W W'→J s W'
theorem below_putK {B:Nat} (W:World) {l:Nat} (hl:B≤l) (o:Obj):Below B W (W.putObj l o):=⟨rfl,rfl,rfl,by simp,fun i hi=>World.putObj_heap_other (by omega)⟩
theorem keeps_of_below {W W':World} (h:Below W.heap.size W W'):KeepsFor 0 W W':=⟨h.size,fun i o _ ho _=>(h.block i (qg ho).1).trans ho⟩
def SeqR {α:Type} (R:World→World→Prop) (Base:World→Prop) (F:Fence) (n:Nat) (P:Program) (g:Nat) (lb:Array Value) (encs:α→Array Value) (Fits:List α→α→World→Prop) (S Sp:List α→Prop) (N:Nat) (w:World):Prop:=
  ∀(l:Nat) (J Jx:List α→World→Prop) (W:World),Below w.heap.size w W→AbidesK W.heap.size J→AbidesK W.heap.size Jx→(∀pre W1,J pre W1→Base W1)→
   (∀pre x W1,J pre W1→pre.length<N→Fits pre x W1→YieldAt F (n-1) P l (encs x) W1 fun e W'=>
     (e=.returned (.bool true)∧J (pre++[x]) W'∧R W1 W')∨(e=.returned (.bool false)∧Jx (pre++[x]) W'))→
   J [] W→
   CallsIn F n P g (#[.func (.yield l) #[] #[]]++lb) W fun e W'=>(∃v,e=.returned v)∧((∃xs,S xs∧J xs W')∨(∃pre,Sp pre∧Jx pre W'))
def ownPostR {α:Type} (R:World→World→Prop) (I:List α→World→Prop) (Ix:Code→List α→World→Prop) (xs:List α) (W:World):Exit→Act→World→Prop
  |.normal,_,W'=>KeepsOthers W W'∧R W W'∧I xs W'
  |.ret,_,W'=>KeepsOthers W W'∧Ix .ret xs W'
  |.exit id,_,W'=>KeepsOthers W W'∧Ix (.exit id) xs W'
  |.goto t,_,W'=>KeepsOthers W W'∧Ix (.goto t) xs W'
  |.panic _,_,_=>False
  |.outgrown,_,_=>False
theorem range_r {R:World→World→Prop} {Base:World→Prop} (hRt:∀A B C,R A B→R B C→R A C) (hRp:∀(W:World) (l:Nat) (o o':Obj),W.heap[l]?=some o→o.isCells=false→o.isWalk=false→R W (W.putObj l o')) {F:Fence} {n:Nat} {P:Program} {α:Type} {g:Operand} {ps:Array Tmp} {assign body:Code} {Q:Exit→Act→World→Prop} {a:Act} {w:World}
    (hro:F.round=none) (h1:1≤n) {gf:Nat} {lb:Array Value} (hg:a.eval g=.func (.func gf) #[] lb) (hFg:F.fn gf) (eg:∀args w,(callFunc gf args).run P w=.ok (.enter gf args) w)
    {encs:α→Array Value} {Fits:List α→α→World→Prop} {S Sp:List α→Prop} {N:Nat} (hseq:SeqR R Base F (n-1) P gf lb encs Fits S Sp N w) (hps:∀x,(encs x).size=ps.size)
    (I:List α→World→Prop) (Ix:Code→List α→World→Prop) (hI:AbidesK w.heap.size I) (hIx:∀c,AbidesK w.heap.size (Ix c)) (hbase:∀pre W,I pre W→Base W) (h0:I [] w) (Ax:List α→α→Act→World→Prop)
    (hassign:∀(l:Nat) (pre:List α) (x:α) (W:World) (K:Act→World→Prop),I pre W→Fits pre x W→w.heap.size≤W.heap.size→(∀a' W',KeepsOthers W W'→R W W'→I pre W'→Ax pre x a' W'→K a' W')→
      assign.wpIn (F.inRound l) (n-1-1) P (Exit.then K (fun _ _ _=>False)) {tmps:=(ps.zip (encs x)).foldl (fun t (p,v)=>t.setIfInBounds p v) a.tmps,defers:=[]} W)
    (hbody:∀(l:Nat) (pre:List α) (x:α) (a':Act) (W:World),I pre W→pre.length<N→Ax pre x a' W→w.heap.size≤W.heap.size→body.wpIn (F.inRound l) (n-1-1) P (ownPostR R I Ix (pre++[x]) W) a' W)
    (hAx:∀pre x a' W l o o',Ax pre x a' W→W.heap[l]?=some o→o.isCells=false→o.isWalk=false→Ax pre x a' (W.putObj l o'))
    (hdone:∀(D:Nat) (xs:List α) (W:World),w.heap.size≤D→S xs→I xs W→W.heap[D]?=some (.deferred (some []))→Q .normal {a with defers:={target:=.collected D,args:=#[]}::a.defers} W)
    (hstop:∀(D:Nat) (c:Code) (pre:List α) (W:World),w.heap.size≤D→Sp pre→Ix c pre W→W.heap[D]?=some (.deferred (some []))→c.wpIn F n P Q {a with defers:={target:=.collected D,args:=#[]}::a.defers} W):
    (Code.rangeFunc g ps assign body).wpIn F n P Q a w:=by
  refine wpIn_rangeFunc fun fn hfn=>?_;rw[hro]
  --the loop's record,in block L;the block for deferred calls,D
  let rec0:LoopState→Option Code→Loop:=fun st pe=>{state:=st,pending:=pe,fn,tmps:=a.tmps,params:=ps,assign,body,defers:=w.heap.size}
  obtain⟨mk,hmk⟩:∃mk,mk=rec0:=⟨_,rfl⟩;obtain⟨W1,hW1⟩:∃W1,(w.alloc (.deferred (some []))).alloc (.loop (mk .ready none))=W1:=⟨_,rfl⟩;have sW1:W1.heap.size=w.heap.size+2:=by rw[←hW1];simp
  have hL1:W1.heap[w.heap.size+1]?=some (.loop (mk .ready none)):=by
    have:=qn (w.alloc (.deferred (some []))) (.loop (mk .ready none));rw[World.size_alloc] at this;rw[←hW1];exact this
  have hD1:W1.heap[w.heap.size]?=some (.deferred (some [])):=by
    rw[←hW1];exact(qa _ _ _ (by simp)).trans (qn w _)
  have hI1:I [] W1:=by rw[←hW1];exact(fun hb=>hI [] _ _ h0 hb (keeps_of_below hb)) (((qb _ w).alloc (ql _) _).alloc (by simp) _)
  have hB1:Below w.heap.size w W1:=by rw[←hW1];exact((qb _ w).alloc (ql _) _).alloc (by simp) _
  --what holds between two rounds;what holds when a round has left the loop
  let J:List α→World→Prop:=fun pre W=>I pre W∧W.heap[w.heap.size+1]?=some (.loop (mk .ready none))∧W.heap[w.heap.size]?=some (.deferred (some []))
  let Jx:List α→World→Prop:=fun pre W=>∃c,Ix c pre W∧W.heap[w.heap.size+1]?=some (.loop (mk .done (some c)))∧W.heap[w.heap.size]?=some (.deferred (some []))
  have old:∀{A B:World} {k:Nat} {o:Obj},Below W1.heap.size A B→k<W1.heap.size→A.heap[k]?=some o→B.heap[k]?=some o:=fun hg hk ho=>(hg.block _ hk).trans ho
  have aJ:AbidesK W1.heap.size J:=fun s A B hs hg hr=>
    ⟨hI s A B hs.1 (hg.mono (by omega)) hr,old hg (by omega) hs.2.1,old hg (by omega) hs.2.2⟩
  have aJx:AbidesK W1.heap.size Jx:=fun s A B hs hg hr=>by
    obtain⟨c,hc,hl,hd⟩:=hs;exact⟨c,hIx c s A B hc (hg.mono (by omega)) hr,old hg (by omega) hl,old hg (by omega) hd⟩
  have put:∀{K:List α→World→Prop} {s:List α} {A:World} {o:Obj} (o':Obj),AbidesK w.heap.size K→K s A→A.heap[w.heap.size+1]?=some o→o.isCells=false→o.isWalk=false→K s (A.putObj (w.heap.size+1) o'):=fun{K s A o} o' hK hs ho h1 h2=>
    hK s A _ hs (below_putK A (by omega) o') (KeepsFor.put A _ o o' ho h1 h2)
  refine⟨w.heap.size+1,[{target:=.collected w.heap.size,args:=#[]}],W1,{target:=.fn (.func gf) lb,args:=#[.func (.yield (w.heap.size+1)) #[] #[]]},W1,gf,
    #[.func (.yield (w.heap.size+1)) #[] #[]]++lb,W1,?_,?_,?_,?_,fun _=>h1,?_⟩
  · rw[←hW1,hmk];exact run_enterLoop_outer _ _ _ _ _
  · simp only[resolve,hg]
    simp[go_sem]
  · intro f' hf'
    simp[Target.leads] at hf';subst hf';exact hFg
  · simp[invoke,go_sem,eg]
  · refine(hseq (w.heap.size+1) J Jx W1 hB1 aJ aJx (fun pre W hj=>hbase pre W hj.1) ?_ ⟨hI1,hL1,hD1⟩).mono ?_
    · rintro pre x W ⟨hi,hl,hd⟩ hlen hfit
      have hlt:w.heap.size+1<W.heap.size:=(qg hl).1;have hy:=run_yield (P:=P) (args:=encs x) hl (by rw[hmk];exact hps x);rw[hmk] at hy;refine⟨fn,_,assign,body,hy,roundIn_of_wpIn hfn (hassign _ pre x W _ hi hfit (by omega) fun a' Wa hko hkf hi' hax=>?_)⟩;have hla:Wa.heap[w.heap.size+1]?=some (.loop (mk .ready none)):=hko.same _ _ hl rfl;have hda:Wa.heap[w.heap.size]?=some (.deferred (some [])):=hko.same _ _ hd rfl;have hlta:w.heap.size+1<Wa.heap.size:=(qg hla).1;refine⟨_,run_beginRound hla (by rw[hmk]),?_⟩;generalize hWb:Wa.putObj (w.heap.size+1) (.loop {mk .ready none with state:=.busy})=Wb;have hlb:Wb.heap[w.heap.size+1]?=some (.loop {mk .ready none with state:=.busy}):=(by rw[←hWb];exact World.putObj_heap_same hlta);have hdb:Wb.heap[w.heap.size]?=some (.deferred (some [])):=(by rw[←hWb];exact(World.putObj_heap_other (by omega)).trans hda);have hib:I pre Wb:=(by rw[←hWb];exact put _ hI hi' hla rfl rfl);have hkb:R W Wb:=(by rw[←hWb];exact hRt _ _ _ hkf (hRp Wa _ _ _ hla rfl rfl));have haxb:Ax pre x a' Wb:=(by rw[←hWb];exact hAx pre x a' _ _ _ _ hax hla rfl rfl);have hsb:w.heap.size≤Wb.heap.size:=(by have:=(qg hlb).1;omega);refine wpIn_mono (hbody _ pre x a' Wb hib hlen haxb hsb) ?_
      have fin:∀(jump:Option Code) (W3:World),KeepsOthers Wb W3→
          (Instr.endRound (w.heap.size+1) jump).run P W3=.ok (.bool jump.isNone) (W3.putObj (w.heap.size+1) (.loop (mk (if jump.isNone then .ready else .done) jump)))∧
          W3.heap[w.heap.size+1]?=some (.loop {mk .ready none with state:=.busy})∧
          (W3.putObj (w.heap.size+1) (.loop (mk (if jump.isNone then .ready else .done) jump))).heap[w.heap.size+1]?=some (.loop (mk (if jump.isNone then .ready else .done) jump))∧
          (W3.putObj (w.heap.size+1) (.loop (mk (if jump.isNone then .ready else .done) jump))).heap[w.heap.size]?=some (.deferred (some [])):=fun jump W3 hk3=>by
        have hl3:=hk3.same _ _ hlb rfl;have he:=run_endRound (P:=P) jump hl3;refine⟨?_,hl3,World.putObj_heap_same (qg hl3).1,(World.putObj_heap_other (by omega)).trans (hk3.same _ _ hdb rfl)⟩;rw[hmk] at he⊢;exact he
      rintro e a3 W3 hp;cases e with
      |normal=>
       obtain⟨hk3,hkf3,hi3⟩:=hp;obtain⟨hr,hl3,hl4,hd4⟩:=fin none W3 hk3;exact⟨_,_,hr,.inl ⟨rfl,⟨put _ hI hi3 hl3 rfl rfl,hl4,hd4⟩,hRt _ _ _ (hRt _ _ _ hkb hkf3) (hRp W3 _ _ _ hl3 rfl rfl)⟩⟩
      |ret=>
       obtain⟨hk3,hi3⟩:=hp;obtain⟨hr,hl3,hl4,hd4⟩:=fin (some .ret) W3 hk3;exact⟨_,_,hr,.inr ⟨rfl,.ret,put _ (hIx _) hi3 hl3 rfl rfl,hl4,hd4⟩⟩
      |exit id=>
       obtain⟨hk3,hi3⟩:=hp;obtain⟨hr,hl3,hl4,hd4⟩:=fin (some (.exit id)) W3 hk3;exact⟨_,_,hr,.inr ⟨rfl,.exit id,put _ (hIx _) hi3 hl3 rfl rfl,hl4,hd4⟩⟩
      |goto t=>
       obtain⟨hk3,hi3⟩:=hp;obtain⟨hr,hl3,hl4,hd4⟩:=fin (some (.goto t)) W3 hk3;exact⟨_,_,hr,.inr ⟨rfl,.goto t,put _ (hIx _) hi3 hl3 rfl rfl,hl4,hd4⟩⟩
      |panic ch=>exact hp.elim
      |outgrown=>exact hp.elim
    · rintro e W2 ⟨⟨v,rfl⟩,(⟨xs,hS,hi,hl,hd⟩|⟨pre,hSp,c,hi,hl,hd⟩)⟩
      · exact⟨none,_,by have:=run_endLoop (P:=P) hl (by rw[hmk];simp[rec0]);rw[hmk] at this;exact this,hdone _ xs _ (ql _) hS (put _ hI hi hl rfl rfl) ((World.putObj_heap_other (by omega)).trans hd)⟩
      · exact⟨some c,_,by have:=run_endLoop (P:=P) hl (by rw[hmk];simp[rec0]);rw[hmk] at this;exact this,hstop _ c pre _ (ql _) hSp (put _ (hIx c) hi hl rfl rfl) ((World.putObj_heap_other (by omega)).trans hd)⟩

import Derived.Test.YtgklikkddckgbaaGreatDoorHEA
/- Lemmas of the claim. -/
set_option linter.all false
namespace Go.Proofs.YtgklikkddckgbaaGreatDoor
open Go Go.RowKit Go.WideShapes Go.ChangeShapes Go.ChangeAt
section
variable {H:Type} {enc:TypeId×Value→H}
theorem handed_and_shaped {a:Assume} {C:Checked} {os:Os} {f:FuncId} {fn:Func} {s:ChangeSpec} {conds:List PathCond} {apart fresh handsOn again:Bool} {X:World→Array Value→Prop}
  (hX:∀(w w':World) (args:Array Value),w.heap=w'.heap→X w args→X w' args)
  (own:ownKnob C.prog.godebug=none) (started:os.Started) (noInit:C.prog.inits.idxOf? f=none) (hfn:C.prog.funcs[f]?=some fn)
  (witness:∃(w:World) (tape:Tape) (i:Input),w.os=os∧(w.forCall tape i).Shaped C.prog∧i.vars=[]∧Input.okWide C.prog (w.forCall tape i) .any w.heap.size f i∧
   ((s.pre enc C.prog fn conds apart (w.forCall tape i).memory i.args∧X (w.forCall tape i).memory i.args)∧sizedMet enc C.prog fn (OpenSpec.ofChange s) apart (w.forCall tape i).memory i.args)∧a.holds C.prog (lone (Frame.enter C.prog f i.args .normal) [] (w.forCall tape i)))
  (contract:∀(W:World) (base:Nat) (args:Array Value) (ds gs:List (DataW H)) (before:List MemPlace),
   (∀(j:Nat) t v,fn.params[j]?=some t→args[j]?=some v→Value.okWide C.prog W .any base t v)→
   DataW.Whole enc C.prog fn.params.toList s.vars apart W args.toList ds gs before→
   (DataW.weightsEach C.prog (fn.params.toList++s.plain.varTypes C.prog) (ds++gs)).all (·≤reachBytes)=true→X W args→W.ShapedOpen C.prog→
   Calls C.prog f args W fun e W'=>∃v,e=.returned v∧s.post enc C.prog fn apart fresh handsOn again W args v W'):
  ReturnsInHanded a C os f .any (fun w args=>(s.pre enc C.prog fn conds apart w args∧X w args)∧sizedMet enc C.prog fn (OpenSpec.ofChange s) apart w args) (s.post enc C.prog fn apart fresh handsOn again):=by
 refine returnsInHanded_of_calls own started noInit witness ?_;intro w tape i _ hsh _ hok hpre _;obtain⟨_,_,_,fn',hfn',_,_,_,_,hval⟩:=hok;obtain rfl:fn'=fn:=Option.some.inj (hfn'.symm.trans hfn);obtain⟨⟨⟨ds,gs,before,hw,_⟩,hx⟩,hz⟩:=hpre;refine(contract (w.forCall tape i) w.heap.size i.args ds gs before hval (DataW.Whole.of_heap (w':=w.forCall tape i) (by rfl) hw) (hz.weights hw) (hX _ _ _ (by rfl) hx) hsh).mono fun e W' ⟨v,he,hp⟩=>?_;subst he;exact ChangeSpec.post_blind hp
def Within (P:Program) (t:TypeId) (d:DataW H):Prop:=∀n∈d.weights P t,n≤reachBytes
end
theorem own:ownKnob Tryz.prog.godebug=none:=by kernel_rfl
def laid7:List (String×DataW Unit):=Rows.mouldFitsRow.laid
theorem gSyntax:Tryz.prog.globalNamed "strconv.ErrSyntax"=some 7:=by kernel_rfl
theorem gRange:Tryz.prog.globalNamed "strconv.ErrRange"=some 8:=by kernel_rfl
theorem tSyntax:(Tryz.prog.globals[7]?).map (·.type)=some 122:=by kernel_rfl
theorem tRange:(Tryz.prog.globals[8]?).map (·.type)=some 122:=by kernel_rfl
theorem tPow:(Tryz.prog.globals[3]?).map (·.type)=some 237:=by kernel_rfl
theorem star:"*"++"errors.errorString"="*errors.errorString":=by decide
theorem row215 (u:TypeId) (h:Tryz.prog.typeName? 3 u=some "*errors.errorString"):u=277:=
 typeName_ptr_named (nm:="errors.errorString") (by rw[star];kernel_rfl) (by kernel_rfl) (by decide) u (by rw[star];exact h)
theorem cells217:Tryz.prog.cellsOf 279=1:=by kernel_rfl
theorem cells190:Tryz.prog.cellsOf 197=1:=by kernel_rfl
theorem cells210:Tryz.prog.cellsOf 237=20:=by kernel_rfl
theorem cells9:Tryz.prog.cellsOf 9=1:=by kernel_rfl
theorem pow_data:(Rows.laid_internal_strconv_uint64pow10:DataW Unit)=Lib.tabData .u64 Lib.pow10Tab:=by rfl
theorem vars_of_laid {W:World} (h:laidMetH Tryz.prog laid7 W):Vars W:=by
 rw[MakeChecks.laidMetH_plain _ _ _ (by kernel_rfl)] at h;have h1:=h.tail;have h2:=h1.tail;have h3:=h2.tail;have h4:=h3.tail;have h5:=h4.tail;obtain⟨a2,s2,hv2,_,_,_⟩:=laid_sentinel h4 gRange tRange Tryz.underlying122 row215 Tryz.underlying277 Tryz.underlying279 rfl rfl Tryz.underlying9 cells217 cells9;obtain⟨a1,s1,hv1,_,_,_⟩:=laid_sentinel h5 gSyntax tSyntax Tryz.underlying122 row215 Tryz.underlying277 Tryz.underlying279 rfl rfl Tryz.underlying9 cells217 cells9;rw[show(Rows.laid_internal_strconv_uint64pow10:DataW Unit)=Lib.tabData .u64 Lib.pow10Tab from pow_data] at h2;have h6:=Lib.tabIs_of_head zjc tPow Tryz.underlying237 Tryz.underlying197 cells190 cells210 h2;have c2:W.cell? ⟨8,0,none⟩=some (.iface 277 (.pointer (some a2))):=by simpa using World.var?_cell gRange hv2 0
 have h7:9≤W.heap.size:=by
  unfold World.cell? at c2;split at c2
  ·rename_i hb;have:=(qg hb).1;simp at this;omega
  ·cases c2
 exact⟨⟨_,_,by simpa using World.var?_cell gSyntax hv1 0⟩,⟨_,_,c2⟩,h6,h7⟩
theorem max_of_shape {W:World} (h:W.ShapedOpen Tryz.prog):Mo.MaxV W:=
 cell_of_shapedOpen_int (g:=0) (t:=3) (zero:=#[.int .i64 0]) (k:=.i64) h (of_decide_eq_true (by kernel_rfl)) (by kernel_rfl) rfl (by kernel_rfl) (by kernel_rfl) Tryz.underlying3
section
variable {H:Type} {enc:TypeId×Value→H} {P:Program}
theorem trodAll_stays (hl:laidOutB P=true) {W W':World} (hb:Below W.heap.size W W'):∀{ts:List TypeId} {vs:List Value} {ds:List (DataW H)} {ps:List MemPlace},
  (∀t∈ts,P.readableRec t=true∧t<P.types.size)→(∀x∈ps,x.block<W.heap.size)→DataW.TrodAll enc P W 0 (fun _=>true) true ts vs ds ps→
  DataW.TrodAll enc P W' 0 (fun b=>decide (b<W.heap.size)) true ts vs ds ps
 |[],[],[],_,_,_,h=>h
 |[],[],_::_,_,_,_,h=>h.elim
 |[],_::_,_,_,_,_,h=>h.elim
 |_::_,[],_,_,_,_,h=>h.elim
 |_::_,_::_,[],_,_,_,h=>h.elim
 |t::ts,v::vs,d::ds,ps,hr,hlt,⟨p,q,h1,h2,e⟩=>by
  subst e;have ht:=hr t List.mem_cons_self;exact⟨p,q,Below.trod hl ht.1 ht.2 h1 hb fun x hx=>hlt x (List.mem_append_left _ hx),
   trodAll_stays hl hb (fun t' h'=>hr t' (List.mem_cons_of_mem _ h')) (fun x hx=>hlt x (List.mem_append_right _ hx)) h2,rfl⟩
theorem law_post {f:Func} {s:ChangeSpec} {apart:Bool} {W W':World} {args:Array Value} {ds gs:List (DataW H)} {before:List MemPlace} {tb:TypeId}
  (hl:laidOutB P=true) (hr:∀t∈f.params.toList,P.readableRec t=true∧t<P.types.size) (hres:f.resultTypes=#[tb]) (hbool:P.underlying tb=some .bool) (hvars:s.vars=[])
  (hspec:s.fn H (ds++gs)={results:=[.lit (.bool true)],args:=ds})
  (hW:DataW.Whole enc P f.params.toList s.vars apart W args.toList ds gs before) (hb:Below W.heap.size W W'):
  s.post enc P f apart true false false W args (.bool true) W':=by
 have hlt:∀p∈before,p.block<W.heap.size:=fun p hp=>hW.lt p hp;have hW':=hW;obtain⟨p,q,hA,hV,rfl,hfz,hnd⟩:=hW;rw[hvars] at hV;obtain⟨rfl,rfl⟩:=trodVars_none hV;refine⟨ds,[],p++[],[],p,[],hW',?_,?_,?_,hb.frame _,fun h=>by cases h⟩
 ·rw[hspec,hres];exact trodAll_mk1 (shut_bool hbool true)
 ·rw[hspec];exact trodAll_stays hl hb hr (fun x hx=>hlt x (List.mem_append_left _ hx)) hA
 ·rw[hspec,hvars];rfl
end
theorem within_of {t:TypeId} {H:Type} {ts:List TypeId} {ds:List (DataW H)} {d:DataW H} (h:(DataW.weightsEach Tryz.prog ts ds).all (·≤reachBytes)=true) (j:Nat) (ht:ts[j]?=some t) (hd:ds[j]?=some d):Within Tryz.prog t d:=
 fun n hn=>by simpa using List.all_eq_true.1 h n (DataW.weights_mem_each ht hd n hn)
theorem read9:Tryz.prog.readableRec 9=true∧9<Tryz.prog.types.size:=⟨by kernel_rfl,of_decide_eq_true (by kernel_rfl)⟩
theorem read3:Tryz.prog.readableRec 3=true∧3<Tryz.prog.types.size:=⟨by kernel_rfl,of_decide_eq_true (by kernel_rfl)⟩

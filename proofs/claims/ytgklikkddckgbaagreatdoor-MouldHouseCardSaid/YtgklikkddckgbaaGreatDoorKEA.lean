import Derived.Test.YtgklikkddckgbaaGreatDoorKDW
import Derived.HandedShaped
import Derived.LaidMore
import Derived.LaidOnce
import Derived.Lay
import Derived.SevenTiedAt
import Derived.Stop.LaidErr
/- Lemmas. -/
set_option linter.all false
set_option maxRecDepth 100000
set_option maxHeartbeats 2000000
namespace Go.Proofs.YtgklikkddckgbaaGreatDoor.Mo
open Go.RowKit
theorem zdV {W:World} {T:Array Value} {pf ps:Nat} {x y0 y1:Value} (h2:T.getD 2 undef=.pointer (some ⟨pf,0,none⟩)) (h3:T.getD 3 undef=.pointer (some ⟨ps,0,none⟩)) (hf:W.heap[pf]?=some (.cells #[x] 24 (0,0))) (hs:W.heap[ps]?=some (.cells #[y0,y1] 87 (0,0))):
  (results Tryz.f35 T).run Tryz.prog W=.ok (.tuple #[x,.agg #[y0,y1]]) W:=by
 have d0:W.cell? ⟨pf,0,none⟩=some x:=qc _ _ 0 _ _ (0,0) hf;have d1:W.cell? ⟨ps,0,none⟩=some y0:=qc _ _ 0 _ _ (0,0) hs;have d2:W.cell? ⟨ps,1,none⟩=some y1:=qc _ _ 1 _ _ (0,0) hs;have h2':T[2]?.getD undef=.pointer (some ⟨pf,0,none⟩):=by simpa using h2
 have h3':T[3]?.getD undef=.pointer (some ⟨ps,0,none⟩):=by simpa using h3
 simp[results,Tryz.f35,go_sem,h2',h3',d0,d1,d2,Tryz.isAgg87,yt]
theorem zl5 {W:World} {B fb:Nat} (h:W.heap[fb]?=some (.cells #[.string ⟨#[]⟩,.slice none 0 0,.slice none 0 0,.slice none 0 0,.bool false,.int .i64 0,.int .i64 0,.int .i64 0] 92 (0,0))) (hB:B<=fb):px W B fb Fm.zero (.slice none 0 0) (.slice none 0 0) (.slice none 0 0):=
 ⟨h,hB,⟨rfl,.inl ⟨rfl,rfl⟩⟩,⟨[],rfl,⟨rfl,.inl ⟨rfl,rfl⟩⟩,λk hk=>(by simp[Fm.zero] at hk)⟩,⟨[],⟨rfl,⟨rfl,.inl ⟨rfl,rfl⟩⟩,λk hk=>(by simp[Fm.zero] at hk)⟩,λk hk=>(by simp[Fm.zero] at hk)⟩⟩
theorem zl6:pb Fm.zero 0:=⟨by simp[Fm.zero,vV],by simp[Fm.zero],by simp[Fm.zero],by simp[Fm.zero],by simp[Fm.zero],by simp[Fm.zero],by simp[Fm.zero],by simp[Fm.zero],by simp[Fm.zero]⟩
theorem zhc {w W W':World} {L:List Nat} (h:Below w.heap.size w W) (ho:Off L W W') (hl:∀k∈L,w.heap.size<=k):Below w.heap.size w W':=h.trans (ho.below h.size hl)
theorem zf7 (s:ByteArray) (w:World) (hv:Vars w) (zqV:s.size<=4611686018427387904):
  Calls Tryz.prog 35 #[.string s] w (zmz s w):=by
 have hmf:∀(fn:Fn) (first cap:Array Value) (w:World),(Instr.makeFunc fn first cap).run Tryz.prog w=.ok (.func fn first cap) w:=λ_ _ _ _=>rfl;by_cases hl:65536<s.size
 ·have hd:decide ((65536:Int)<(s.size:Int))=true:=qt (by omega);have hR:Q2 s=.error (3,65536):=by unfold Q2;rw[qx hl]
  go_enter_defers Tryz.func35,Tryz.ntmps35
  go_wp2_with fail;have hb:Below w.heap.size w ((w.alloc (.cells #[.pointer none] 24)).alloc (.cells #[.int .i64 3,.int .i64 65536] 87)):=((qb _ _).alloc (ql _) _).alloc (by simp) _;have hf:((w.alloc (.cells #[.pointer none] 24)).alloc (.cells #[.int .i64 3,.int .i64 65536] 87)).heap[w.heap.size]?=some (.cells #[.pointer none] 24 (0,0)):=(qa _ _ _ (by simp)).trans (qn w _);have hs:((w.alloc (.cells #[.pointer none] 24)).alloc (.cells #[.int .i64 3,.int .i64 65536] 87)).heap[w.heap.size+1]?=some (.cells #[.int .i64 3,.int .i64 65536] 87 (0,0)):=by
   have:=qn (w.alloc (.cells #[.pointer none] 24)) (.cells #[.int .i64 3,.int .i64 65536] 87);rw[qO] at this;exact this
  refine⟨_,zdV rfl rfl hf hs,hb,?_⟩;rw[hR];rfl
 ·have hd:decide ((65536:Int)<(s.size:Int))=false:=qd (by omega);have hR:Q2 s=Q1 s (s.size+1) Fm.zero false 0:=by unfold Q2;rw[qv hl]
  obtain⟨W4,XH⟩:∃W4:World,W4=(((w.alloc (.cells #[.pointer none] 24)).alloc (.cells #[.int .i64 0,.int .i64 0] 87)).alloc (.cells #[.string ⟨#[]⟩,.slice none 0 0,.slice none 0 0,.slice none 0 0,.bool false,.int .i64 0,.int .i64 0,.int .i64 0] 92)).alloc (.cells #[.string s,.int .i64 0,.pointer (some ⟨w.heap.size+1+1,0,none⟩)] 137):=⟨_,rfl⟩;have HW4:=qh XH;have hsz4:W4.heap.size=w.heap.size+4:=by rw[XH];simp
  have hb4:Below w.heap.size w W4:=by rw[XH];exact((((qb _ _).alloc (ql _) _).alloc (by simp) _).alloc (by simp;omega) _).alloc (by simp;omega) _
  have hpf:W4.heap[w.heap.size]?=some (.cells #[.pointer none] 24 (0,0)):=by
   rw[XH];exact(qa _ _ _ (by simp;omega)).trans ((qa _ _ _ (by simp;omega)).trans ((qa _ _ _ (by simp)).trans (qn w _)))
  have hps:W4.heap[w.heap.size+1]?=some (.cells #[.int .i64 0,.int .i64 0] 87 (0,0)):=by
   have:=qn (w.alloc (.cells #[.pointer none] 24)) (.cells #[.int .i64 0,.int .i64 0] 87);rw[qO] at this;rw[XH];exact(qa _ _ _ (by simp)).trans ((qa _ _ _ (by simp)).trans this)
  have hfm:W4.heap[w.heap.size+2]?=some (.cells #[.string ⟨#[]⟩,.slice none 0 0,.slice none 0 0,.slice none 0 0,.bool false,.int .i64 0,.int .i64 0,.int .i64 0] 92 (0,0)):=by
   have:=qn ((w.alloc (.cells #[.pointer none] 24)).alloc (.cells #[.int .i64 0,.int .i64 0] 87)) (.cells #[.string ⟨#[]⟩,.slice none 0 0,.slice none 0 0,.slice none 0 0,.bool false,.int .i64 0,.int .i64 0,.int .i64 0] 92);rw[qO,qO] at this;rw[XH];exact(qa _ _ _ (by simp)).trans this
  have hrd:W4.heap[w.heap.size+3]?=some (.cells (rdC s 0 (w.heap.size+2)) 137 (0,0)):=by
   have:=qn (((w.alloc (.cells #[.pointer none] 24)).alloc (.cells #[.int .i64 0,.int .i64 0] 87)).alloc (.cells #[.string ⟨#[]⟩,.slice none 0 0,.slice none 0 0,.slice none 0 0,.bool false,.int .i64 0,.int .i64 0,.int .i64 0] 92)) (.cells #[.string s,.int .i64 0,.pointer (some ⟨w.heap.size+1+1,0,none⟩)] 137);rw[qO,qO,qO] at this;rw[XH];exact this
  have h9:=hv.six;have hJ:VB W4 W4 (w.heap.size+2) (w.heap.size+3) (w.heap.size+2) s Fm.zero 0 (.slice none 0 0) (.slice none 0 0) (.slice none 0 0):=
   ⟨⟨hrd,qH _,by omega⟩,zl5 hfm (ql _),zl6,qb _ _,Vars.below hv hb4 h9⟩
  have Hwh:=qh (zkr (w.heap.size+2) (w.heap.size+3) (w.heap.size+2) s _ _ _ W4 hJ (by omega) (by omega));have Hb4:=qh hb4;have Hpf:=qh hpf;have Kf:=qh hps;have HR:=qh hR;clear XH hb4 hpf hps hfm hrd hJ hR hv;go_enter_defers Tryz.func35,Tryz.ntmps35
  go_wp2_with fail;rw[<-HW4.out];refine Hwh.out.mono ?_;rintro e w5 ⟨hb5,hst⟩;have zqE:=(hb5.block w.heap.size (by omega)).trans Hpf.out;have VM:=(hb5.block (w.heap.size+1) (by omega)).trans Kf.out;have hB5:Below w.heap.size w w5:=Hb4.out.trans ⟨hb5.os,hb5.tape,hb5.output,hb5.size,λk hk=>hb5.block k (by omega)⟩;have hs5:=hb5.size;cases hX:Q1 s (s.size+1) Fm.zero false 0 with
  |error ep=>
   obtain⟨c,p⟩:=ep;rw[hX] at hst;have zqZ:e=vY c p:=hst;subst zqZ;have HR2:Hid (Q2 s=.error (c,p)):=qh (HR.out.trans hX);clear hst hX;refine leaves_cons (f:=59) (args:=#[.pointer (some ⟨w.heap.size,0,none⟩),.pointer (some ⟨w.heap.size+1,0,none⟩)]) (by simp) (by simp[go_sem]) ?_;refine(zi2 w.heap.size (w.heap.size+1) c p _ _ _ _ _ [] w5 zqE VM (by omega)).mono ?_;rintro e u' w6 ⟨rfl,rfl,ho,hf6,hs6⟩;refine⟨_,zdV rfl rfl hf6 hs6,zhc hB5 ho (λk hk=>by simp at hk;omega),?_⟩;rw[HR2.out]
  |ok f=>
   rw[hX] at hst;obtain⟨rfl,j,vl,vm,vs,pP,hk5,hm5⟩:=hst;have HR2:Hid (Q2 s=.ok f):=qh (HR.out.trans hX);have r2:=pP.cells.2.2.1;have f0:w5.cell? ⟨w.heap.size,0,none⟩=some (.pointer none):=qc _ _ 0 _ _ (0,0) zqE;have s0:w5.cell? ⟨w.heap.size+1,0,none⟩=some (.int .i64 0):=qc _ _ 0 _ _ (0,0) VM;have s1:w5.cell? ⟨w.heap.size+1,1,none⟩=some (.int .i64 0):=qc _ _ 1 _ _ (0,0) VM;have z0:w5.frozen? ⟨w.heap.size,0,none⟩=false:=qf _ _ 0 _ _ zqE;have z1:w5.frozen? ⟨w.heap.size+1,0,none⟩=false:=qf _ _ 0 _ _ VM;have z2:w5.frozen? ⟨w.heap.size+1,1,none⟩=false:=qf _ _ 1 _ _ VM;have Xz:=qh pP;have Hk5:=qh hk5;have Hm5:=qh hm5;have VE:=qh hB5;have Hpf5:=qh zqE;have Hps5:=qh VM;clear hX hb5 pP hk5 hm5 hB5 zqE VM;have h1:=qs w5 w.heap.size 0 _ _ (.pointer (some ⟨w.heap.size+2,0,none⟩)) Hpf5.out;have o1:=Off.setCell w5 w.heap.size 0 (.pointer (some ⟨w.heap.size+2,0,none⟩));have q1:=(o1.block (w.heap.size+1) (by omega) (by simp)).trans Hps5.out;have q2:=qs _ (w.heap.size+1) 0 _ _ (.int .i64 0) q1;have o2:=Off.setCell (w5.setCell ⟨w.heap.size,0,none⟩ (.pointer (some ⟨w.heap.size+2,0,none⟩))) (w.heap.size+1) 0 (.int .i64 0);have q3:=qs _ (w.heap.size+1) 1 _ _ (.int .i64 0) q2;have o3:=Off.setCell ((w5.setCell ⟨w.heap.size,0,none⟩ (.pointer (some ⟨w.heap.size+2,0,none⟩))).setCell ⟨w.heap.size+1,0,none⟩ (.int .i64 0)) (w.heap.size+1) 1 (.int .i64 0);have p3:=(o3.block w.heap.size (qF (qF (show w.heap.size<w5.heap.size by omega) o1.size) o2.size) (by simp)).trans ((o2.block w.heap.size (qF (show w.heap.size<w5.heap.size by omega) o1.size) (by simp)).trans h1);have ho:Off [w.heap.size,w.heap.size+1] w5 (((w5.setCell ⟨w.heap.size,0,none⟩ (.pointer (some ⟨w.heap.size+2,0,none⟩))).setCell ⟨w.heap.size+1,0,none⟩ (.int .i64 0)).setCell ⟨w.heap.size+1,1,none⟩ (.int .i64 0)):=
    ((o1.mono (λk hk=>.inl (by simp at hk|-;exact .inl hk))).trans (o2.mono (λk hk=>.inl (by simp at hk|-;exact .inr hk)))).trans (o3.mono (λk hk=>.inl (by simp at hk|-;exact .inr hk)))
   have Hq3:=qh q3;have Hp3:=qh p3;have Ho:=qh ho;clear h1 o1 q1 q2 o2 q3 o3 p3 ho;go_wp2_with fail;refine leaves_cons (f:=59) (args:=#[.pointer (some ⟨w.heap.size,0,none⟩),.pointer (some ⟨w.heap.size+1,0,none⟩)]) (by simp) (by simp[go_sem]) ?_;refine(zlg w.heap.size (w.heap.size+1) _).mono ?_;rintro e u' w6 ⟨rfl,rfl,rfl⟩;refine⟨_,zdV rfl rfl Hp3.out Hq3.out,zhc VE.out Ho.out (λk hk=>by simp at hk;omega),?_⟩;rw[HR2.out];exact⟨_,_,_,_,rfl,(Hm5.out.zsz Ho.out (λk hk=>by simp at hk;omega)).mono (by omega),Hk5.out.mono Xz.out.le⟩
def Xf (w:World):Prop:=∃m:Int,w.cell? ⟨0,0,none⟩=some (.int .i64 m)
def Kz:ByteArray:=⟨#[115,116,97,110,122,97,32,120,32,120,32,120,32,120,32,120,32,120,124,114,111,117,110,100,32,53,32,53,32,48,32,120,64,49,32,120,64,55,32,120,64,52,32,120,64,56,32,120,64,55,32,120,64,57,124,115,116,97,110,122,97,32,120,64,51,126,54,32,120,64,51,126,54,32,120,64,51,126,54]⟩
def Z8:ByteArray:=⟨#[102,111,114,109,32,115,101,115,116,105,110,97,10,115,116,97,110,122,97,32,120,32,120,32,120,32,120,32,120,32,120,10,114,111,117,110,100,32,53,32,53,32,48,32,120,64,49,32,120,64,55,32,120,64,52,32,120,64,56,32,120,64,55,32,120,64,57,10,115,116,97,110,122,97,32,120,64,51,126,54,32,120,64,51,126,54,32,120,64,51,126,54]⟩
theorem zf8 (w:World):
  Calls Tryz.prog 40 #[.string ⟨#[115,101,115,116,105,110,97]⟩] w λe w'=>e=.returned (.string Kz)/\w=w':=by
 go_enter zQ,zK;go_wp2_with fail;go_ret;exact⟨rfl,rfl⟩
theorem zl7:∃f,Q2 Z8=.ok f:=by
 have h:(match Q2 Z8 with|.ok _=>true|.error _=>false)=true:=by decide+kernel
 cases hf:Q2 Z8 with
 |error e=>rw[hf] at h;cases h
 |ok f=>exact⟨f,rfl⟩
theorem zks:Lib.contains Kz.data.toList (⟨#[58,112]⟩:ByteArray).data.toList=false:=by decide+kernel
theorem zkt:(⟨(Lib.replaceAll Kz.data.toList (⟨#[124]⟩:ByteArray).data.toList (⟨#[10]⟩:ByteArray).data.toList).toArray⟩:ByteArray)=⟨#[115,116,97,110,122,97,32,120,32,120,32,120,32,120,32,120,32,120,10,114,111,117,110,100,32,53,32,53,32,48,32,120,64,49,32,120,64,55,32,120,64,52,32,120,64,56,32,120,64,55,32,120,64,57,10,115,116,97,110,122,97,32,120,64,51,126,54,32,120,64,51,126,54,32,120,64,51,126,54]⟩:=by decide+kernel
theorem zi3 (w:World) (hv:Vars w) (hm:Xf w):
  Calls Tryz.prog 20 #[.string ⟨#[115,101,115,116,105,110,97]⟩] w λe w'=>Below w.heap.size w w'/\∃f fb vl vm vs,Q2 Z8=.ok f/\e=.returned (.tuple #[.pointer (some ⟨fb,0,none⟩),.int .i64 0])/\px w' w.heap.size fb f vl vm vs/\pb f Z8.size:=by
 obtain⟨m,hm⟩:=hm;have Hh:=qh (zf8 w);have hc:=Tryz.strings_Contains Kz ⟨#[58,112]⟩ m w (by decide+kernel) hm;rw[zks] at hc;have Hc:=qh (zfS hc);have hr:=Tryz.strings_ReplaceAll Kz ⟨#[124]⟩ ⟨#[10]⟩ m w (by decide+kernel) hm (by decide) (by decide+kernel);rw[zkt] at hr;have Hr:=qh hr;have Hv:=qh hv;have hne:Kz.toList.isEmpty=false:=by decide+kernel
 have hne2:(!Kz.toList.isEmpty)=true:=by decide+kernel
 have Z7:Kz.toList≠[]:=by decide+kernel
 clear hm hc hr hv;go_enter Tryz.func20,Tryz.ntmps20;go_wp2_with fail;refine Hh.out.mono ?_;rintro e w2 ⟨rfl,rfl⟩;go_wp2_with fail;refine Hc.out.mono ?_;rintro e w2 ⟨rfl,rfl⟩;go_wp2_with fail;refine Hr.out.mono ?_;rintro e w2 ⟨rfl,hb2⟩;have Hb2:=qh hb2;have hv2:=Vars.below Hv.out hb2 Hv.out.six;have Hf:=qh (zf7 Z8 w2 hv2 (by decide+kernel));clear hb2 hv2;go_wp2_with fail;have VN:((⟨#[102,111,114,109,32]⟩:ByteArray)++⟨#[115,101,115,116,105,110,97]⟩++⟨#[10]⟩++⟨#[115,116,97,110,122,97,32,120,32,120,32,120,32,120,32,120,32,120,10,114,111,117,110,100,32,53,32,53,32,48,32,120,64,49,32,120,64,55,32,120,64,52,32,120,64,56,32,120,64,55,32,120,64,57,10,115,116,97,110,122,97,32,120,64,51,126,54,32,120,64,51,126,54,32,120,64,51,126,54]⟩)=Z8:=by decide+kernel
 rw[VN];clear VN;refine Hf.out.mono ?_;rintro e w3 ⟨hb3,hr3⟩;obtain⟨f,hf⟩:=zl7;rw[hf] at hr3;obtain⟨fb,vl,vm,vs,rfl,hm3,hk3⟩:=hr3;have gI:Hid (Below w.heap.size w (w3.alloc (.cells #[.int .i64 0,.int .i64 0] 87))/\∃f vl vm vs,Q2 Z8=.ok f/\px (w3.alloc (.cells #[.int .i64 0,.int .i64 0] 87)) w.heap.size fb f vl vm vs/\pb f Z8.size):=qh
  ⟨(Hb2.out.trans (hb3.mono Hb2.out.size)).alloc (by have:=Hb2.out.size;have:=hb3.size;omega) _,f,vl,vm,vs,hf,(hm3.below ((qb _ _).alloc (ql _) _)).mono Hb2.out.size,hk3⟩
 clear hf hb3 hm3 hk3;go_wp2_with fail;go_ret2;obtain⟨hb,f,vl,vm,vs,hf,hm,hk⟩:=gI.out;exact⟨hb,f,fb,vl,vm,vs,hf,rfl,hm,hk⟩
theorem zmA (w:World) (hv:Vars w) (hm:Xf w):
  Calls Tryz.prog 12 #[] w λe w'=>e=.returned (.bool true)/\Below w.heap.size w w':=by
 have Ho:=qh (zi3 w hv hm);clear hv hm;go_enter Tryz.func12,Tryz.ntmps12;go_wp2_with fail;refine Ho.out.mono ?_;rintro e w2 ⟨hb,f,fb,vl,vm,vs,hf,rfl,_,_⟩;have Hb:=qh hb;clear hb hf;go_wp2_with fail;go_ret;exact⟨rfl,Hb.out⟩
end Go.Proofs.YtgklikkddckgbaaGreatDoor.Mo
namespace Go.Proofs.YtgklikkddckgbaaGreatDoor
open Go Go.RowKit Go.WideShapes Go.ChangeShapes Go.ChangeAt
section
variable {H:Type} {enc:TypeId×Value->H}
theorem uV {a:Assume} {C:Checked} {os:Os} {f:FuncId} {fn:Func} {s:ChangeSpec} {conds:List PathCond} {apart fresh handsOn again:Bool} {X:World->Array Value->Prop}
  (hX:∀(w w':World) (args:Array Value),w.heap=w'.heap->X w args->X w' args)
  (own:ownKnob C.prog.godebug=none) (started:os.Started) (noInit:C.prog.inits.idxOf? f=none) (hfn:C.prog.funcs[f]?=some fn)
  (witness:∃(w:World) (tape:Tape) (i:Input),w.os=os/\(w.forCall tape i).Shaped C.prog/\i.vars=[]/\Input.okWide C.prog (w.forCall tape i) .any w.heap.size f i/\
   ((s.pre enc C.prog fn conds apart (w.forCall tape i).memory i.args/\X (w.forCall tape i).memory i.args)/\sizedMet enc C.prog fn (OpenSpec.ofChange s) apart (w.forCall tape i).memory i.args)/\a.holds C.prog (lone (Frame.enter C.prog f i.args .normal) [] (w.forCall tape i)))
  (contract:∀(W:World) (base:Nat) (args:Array Value) (ds gs:List (DataW H)) (before:List MemPlace),
   (∀(j:Nat) t v,fn.params[j]?=some t->args[j]?=some v->Value.okWide C.prog W .any base t v)->
   DataW.Whole enc C.prog fn.params.toList s.vars apart W args.toList ds gs before->
   (DataW.weightsEach C.prog (fn.params.toList++s.plain.varTypes C.prog) (ds++gs)).all (·<=reachBytes)=true->X W args->W.ShapedOpen C.prog->
   Calls C.prog f args W λe W'=>∃v,e=.returned v/\s.post enc C.prog fn apart fresh handsOn again W args v W'):
  ReturnsInHanded a C os f .any (λw args=>(s.pre enc C.prog fn conds apart w args/\X w args)/\sizedMet enc C.prog fn (OpenSpec.ofChange s) apart w args) (s.post enc C.prog fn apart fresh handsOn again):=by
 refine returnsInHanded_of_calls own started noInit witness ?_;intro w tape i _ hsh _ hok hpre _;obtain⟨_,_,_,fn',hfn',_,_,_,_,hval⟩:=hok;obtain rfl:fn'=fn:=kO (hfn'.symm.trans hfn);obtain⟨⟨⟨ds,gs,before,hw,_⟩,hx⟩,hz⟩:=hpre;refine(contract (w.forCall tape i) w.heap.size i.args ds gs before hval (DataW.Whole.of_heap (w':=w.forCall tape i) (by rfl) hw) (hz.weights hw) (hX _ _ _ (by rfl) hx) hsh).mono λe W' ⟨v,he,hp⟩=>?_;subst he;exact ChangeSpec.post_blind hp
def zoN (P:Program) (t:TypeId) (d:DataW H):Prop:=∀n∈d.weights P t,n<=reachBytes
end
theorem own:ownKnob Tryz.prog.godebug=none:=by kernel_rfl
theorem zok:Tryz.prog.globalNamed "strconv.ErrSyntax"=some 7:=by kernel_rfl
theorem zoO:Tryz.prog.globalNamed "strconv.ErrRange"=some 8:=by kernel_rfl
theorem zpn:(Tryz.prog.globals[7]?).map (·.type)=some 122:=by kernel_rfl
theorem zsA:(Tryz.prog.globals[8]?).map (·.type)=some 122:=by kernel_rfl
theorem tPow:(Tryz.prog.globals[3]?).map (·.type)=some 237:=by kernel_rfl
theorem star:"*"++"errors.errorString"="*errors.errorString":=by decide
theorem zoP (u:TypeId) (h:Tryz.prog.typeName? 3 u=some "*errors.errorString"):u=277:=
 typeName_ptr_named (nm:="errors.errorString") (by rw[star];kernel_rfl) (by kernel_rfl) (by decide) u (by rw[star];exact h)
theorem znw:Tryz.prog.cellsOf 279=1:=by kernel_rfl
theorem zoQ:Tryz.prog.cellsOf 197=1:=by kernel_rfl
theorem zoR:Tryz.prog.cellsOf 237=20:=by kernel_rfl
theorem zoS:Tryz.prog.cellsOf 9=1:=by kernel_rfl
theorem zoT:(Rows.laid_internal_strconv_uint64pow10:DataW Unit)=Lib.tabData .u64 Lib.pow10Tab:=by rfl
theorem znl {W:World} (h:W.ShapedOpen Tryz.prog):Mo.Xf W:=
 cell_of_shapedOpen_int (g:=0) (t:=3) (zero:=#[.int .i64 0]) (k:=.i64) h (zf (by kernel_rfl)) (by kernel_rfl) rfl (by kernel_rfl) (by kernel_rfl) zu
section
variable {H:Type} {enc:TypeId×Value->H} {P:Program}
theorem uJ (hl:laidOutB P=true) {W W':World} (hb:Below W.heap.size W W'):∀{ts:List TypeId} {vs:List Value} {ds:List (DataW H)} {ps:List MemPlace},
  (∀t∈ts,P.readableRec t=true/\t<P.types.size)->(∀x∈ps,x.block<W.heap.size)->DataW.TrodAll enc P W 0 (λ_=>true) true ts vs ds ps->
  DataW.TrodAll enc P W' 0 (λb=>decide (b<W.heap.size)) true ts vs ds ps
 |[],[],[],_,_,_,h=>h
 |[],[],_::_,_,_,_,h=>h.elim
 |[],_::_,_,_,_,_,h=>h.elim
 |_::_,[],_,_,_,_,h=>h.elim
 |_::_,_::_,[],_,_,_,h=>h.elim
 |t::ts,v::vs,d::ds,ps,hr,hlt,⟨p,q,h1,h2,e⟩=>by
  subst e;have ht:=hr t jH;exact⟨p,q,Below.trod hl ht.1 ht.2 h1 hb λx hx=>hlt x (js _ hx),
   uJ hl hb (λt' h'=>hr t' (zM _ h')) (λx hx=>hlt x (List.mem_append_right _ hx)) h2,rfl⟩
theorem zoU {f:Func} {s:ChangeSpec} {apart:Bool} {W W':World} {args:Array Value} {ds gs:List (DataW H)} {before:List MemPlace} {tb:TypeId}
  (hl:laidOutB P=true) (hr:∀t∈f.params.toList,P.readableRec t=true/\t<P.types.size) (hres:f.resultTypes=#[tb]) (zs6:P.underlying tb=some .bool) (hvars:s.vars=[])
  (hspec:s.fn H (ds++gs)={results:=[.lit (.bool true)],args:=ds})
  (hW:DataW.Whole enc P f.params.toList s.vars apart W args.toList ds gs before) (hb:Below W.heap.size W W'):
  s.post enc P f apart true false false W args (.bool true) W':=by
 have hlt:∀p∈before,p.block<W.heap.size:=λp hp=>hW.lt p hp;have hW':=hW;obtain⟨p,q,hA,hV,rfl,hfz,hnd⟩:=hW;rw[hvars] at hV;obtain⟨rfl,rfl⟩:=trodVars_none hV;refine⟨ds,[],p++[],[],p,[],hW',?_,?_,?_,hb.frame _,λh=>by cases h⟩
 ·rw[hspec,hres];exact trodAll_mk1 (shut_bool zs6 true)
 ·rw[hspec];exact uJ hl hb hr (λx hx=>hlt x (js _ hx)) hA
 ·rw[hspec,hvars];rfl
end
theorem zos {t:TypeId} {H:Type} {ts:List TypeId} {ds:List (DataW H)} {d:DataW H} (h:(DataW.weightsEach Tryz.prog ts ds).all (·<=reachBytes)=true) (j:Nat) (ht:ts[j]?=some t) (hd:ds[j]?=some d):zoN Tryz.prog t d:=
 λn hn=>by simpa using zN.1 h n (DataW.weights_mem_each ht hd n hn)
theorem zs7:Tryz.prog.readableRec 9=true/\9<Tryz.prog.types.size:=⟨by kernel_rfl,zf (by kernel_rfl)⟩
theorem zs8:Tryz.prog.readableRec 3=true/\3<Tryz.prog.types.size:=⟨by kernel_rfl,zf (by kernel_rfl)⟩
end Go.Proofs.YtgklikkddckgbaaGreatDoor
namespace Go.Proofs.YtgklikkddckgbaaGreatDoor
open Go Go.RowKit Go.WideShapes Go.ChangeShapes Go.ChangeAt
def znx:List (String×DataW Unit):=Rows.mouldNamesRow.laid
theorem zmU {W:World} (h:laidMetH Tryz.prog znx W):Vars W:=by
  rw[MakeChecks.laidMetH_plain _ _ _ (by kernel_rfl)] at h;have h1:=h.tail;have h2:=h1.tail;have h3:=h2.tail;have h4:=h3.tail;have h5:=h4.tail;obtain⟨a2,s2,hv2,_,_,_⟩:=laid_sentinel h4 zoO zsA km zoP jR jS rfl rfl qN znw zoS;obtain⟨a1,s1,hv1,_,_,_⟩:=laid_sentinel h5 zok zpn km zoP jR jS rfl rfl qN znw zoS;rw[show(Rows.laid_internal_strconv_uint64pow10:DataW Unit)=Lib.tabData .u64 Lib.pow10Tab from zoT] at h2;have h6:=Lib.tabIs_of_head zjc tPow jh jg zoQ zoR h2;have c2:W.cell? ⟨8,0,none⟩=some (.iface 277 (.pointer (some a2))):=by simpa using World.var?_cell zoO hv2 0
  have h7:9<=W.heap.size:=by
    unfold World.cell? at c2;split at c2
    · rename_i hb
      have:=(qg hb).1;simp at this;omega
    · cases c2
  exact⟨⟨_,_,by simpa using World.var?_cell zok hv1 0⟩,⟨_,_,c2⟩,h6,h7⟩
end Go.Proofs.YtgklikkddckgbaaGreatDoor

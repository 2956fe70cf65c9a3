import Derived.HandedShaped
import Derived.LaidMore
import Derived.LaidOnce
import Derived.Lay
import Derived.SevenTiedAt
import Derived.Stop.LaidErr
import Derived.Test.YtgklikkddckgbaaGreatDoorHDX
/- Lemmas of the claim. -/
set_option linter.all false
namespace Go.Proofs.YtgklikkddckgbaaGreatDoor.Mo
open Go.RowKit
theorem zdV {W:World} {T:Array Value} {pf ps:Nat} {x y0 y1:Value} (h2:T.getD 2 undef=.pointer (some ⟨pf,0,none⟩)) (h3:T.getD 3 undef=.pointer (some ⟨ps,0,none⟩)) (hf:W.heap[pf]?=some (.cells #[x] 24 (0,0))) (hs:W.heap[ps]?=some (.cells #[y0,y1] 87 (0,0))):
  (results Tryz.f35 T).run Tryz.prog W=.ok (.tuple #[x,.agg #[y0,y1]]) W:=by
 have d0:W.cell? ⟨pf,0,none⟩=some x:=qc _ _ 0 _ _ (0,0) hf;have d1:W.cell? ⟨ps,0,none⟩=some y0:=qc _ _ 0 _ _ (0,0) hs;have d2:W.cell? ⟨ps,1,none⟩=some y1:=qc _ _ 1 _ _ (0,0) hs;have h2':T[2]?.getD undef=.pointer (some ⟨pf,0,none⟩):=by simpa using h2
 have h3':T[3]?.getD undef=.pointer (some ⟨ps,0,none⟩):=by simpa using h3
 simp[results,Tryz.f35,go_sem,h2',h3',d0,d1,d2,Tryz.isAgg87,Tryz.sizeOf87]
theorem zl5 {W:World} {B fb:Nat} (h:W.heap[fb]?=some (.cells #[.string ⟨#[]⟩,.slice none 0 0,.slice none 0 0,.slice none 0 0,.bool false,.int .i64 0,.int .i64 0,.int .i64 0] 92 (0,0))) (hB:B≤fb):FmM W B fb Fm.zero (.slice none 0 0) (.slice none 0 0) (.slice none 0 0):=
 ⟨h,hB,⟨rfl,.inl ⟨rfl,rfl⟩⟩,⟨[],rfl,⟨rfl,.inl ⟨rfl,rfl⟩⟩,fun k hk=>(by simp[Fm.zero] at hk)⟩,⟨[],⟨rfl,⟨rfl,.inl ⟨rfl,rfl⟩⟩,fun k hk=>(by simp[Fm.zero] at hk)⟩,fun k hk=>(by simp[Fm.zero] at hk)⟩⟩
theorem zl6:FmOk Fm.zero 0:=⟨by simp[Fm.zero,totN],by simp[Fm.zero],by simp[Fm.zero],by simp[Fm.zero],by simp[Fm.zero],by simp[Fm.zero],by simp[Fm.zero],by simp[Fm.zero],by simp[Fm.zero]⟩
theorem zhc {w W W':World} {L:List Nat} (h:Below w.heap.size w W) (ho:Off L W W') (hl:∀k∈L,w.heap.size≤k):Below w.heap.size w W':=h.trans (ho.below h.size hl)
set_option maxRecDepth 100000 in
set_option maxHeartbeats 2000000 in
theorem zf7 (s:ByteArray) (w:World) (hv:Vars w) (hs64:s.size≤4611686018427387904):
  Calls Tryz.prog 35 #[.string s] w (zmz s w):=by
 have hmf:∀(fn:Fn) (first cap:Array Value) (w:World),(Instr.makeFunc fn first cap).run Tryz.prog w=.ok (.func fn first cap) w:=fun _ _ _ _=>rfl;by_cases hl:65536<s.size
 ·have hd:decide ((65536:Int)<(s.size:Int))=true:=qt (by omega);have hR:zbO s=.error (3,65536):=by unfold zbO;rw[if_pos hl]
  go_enter_defers Tryz.func35,Tryz.ntmps35
  go_wp2_with fail;have hb:Below w.heap.size w ((w.alloc (.cells #[.pointer none] 24)).alloc (.cells #[.int .i64 3,.int .i64 65536] 87)):=((qb _ _).alloc (ql _) _).alloc (by simp) _;have hf:((w.alloc (.cells #[.pointer none] 24)).alloc (.cells #[.int .i64 3,.int .i64 65536] 87)).heap[w.heap.size]?=some (.cells #[.pointer none] 24 (0,0)):=(qa _ _ _ (by simp)).trans (qn w _);have hs:((w.alloc (.cells #[.pointer none] 24)).alloc (.cells #[.int .i64 3,.int .i64 65536] 87)).heap[w.heap.size+1]?=some (.cells #[.int .i64 3,.int .i64 65536] 87 (0,0)):=by
   have:=qn (w.alloc (.cells #[.pointer none] 24)) (.cells #[.int .i64 3,.int .i64 65536] 87);rw[World.size_alloc] at this;exact this
  refine⟨_,zdV rfl rfl hf hs,hb,?_⟩;rw[hR];rfl
 ·have hd:decide ((65536:Int)<(s.size:Int))=false:=qd (by omega);have hR:zbO s=zaK s (s.size+1) Fm.zero false 0:=by unfold zbO;rw[if_neg hl]
  obtain⟨W4,hW4⟩:∃W4:World,W4=(((w.alloc (.cells #[.pointer none] 24)).alloc (.cells #[.int .i64 0,.int .i64 0] 87)).alloc (.cells #[.string ⟨#[]⟩,.slice none 0 0,.slice none 0 0,.slice none 0 0,.bool false,.int .i64 0,.int .i64 0,.int .i64 0] 92)).alloc (.cells #[.string s,.int .i64 0,.pointer (some ⟨w.heap.size+1+1,0,none⟩)] 137):=⟨_,rfl⟩;have HW4:=qh hW4;have hsz4:W4.heap.size=w.heap.size+4:=by rw[hW4];simp
  have hb4:Below w.heap.size w W4:=by rw[hW4];exact((((qb _ _).alloc (ql _) _).alloc (by simp) _).alloc (by simp;omega) _).alloc (by simp;omega) _
  have hpf:W4.heap[w.heap.size]?=some (.cells #[.pointer none] 24 (0,0)):=by
   rw[hW4];exact(qa _ _ _ (by simp;omega)).trans ((qa _ _ _ (by simp;omega)).trans ((qa _ _ _ (by simp)).trans (qn w _)))
  have hps:W4.heap[w.heap.size+1]?=some (.cells #[.int .i64 0,.int .i64 0] 87 (0,0)):=by
   have:=qn (w.alloc (.cells #[.pointer none] 24)) (.cells #[.int .i64 0,.int .i64 0] 87);rw[World.size_alloc] at this;rw[hW4];exact(qa _ _ _ (by simp)).trans ((qa _ _ _ (by simp)).trans this)
  have hfm:W4.heap[w.heap.size+2]?=some (.cells #[.string ⟨#[]⟩,.slice none 0 0,.slice none 0 0,.slice none 0 0,.bool false,.int .i64 0,.int .i64 0,.int .i64 0] 92 (0,0)):=by
   have:=qn ((w.alloc (.cells #[.pointer none] 24)).alloc (.cells #[.int .i64 0,.int .i64 0] 87)) (.cells #[.string ⟨#[]⟩,.slice none 0 0,.slice none 0 0,.slice none 0 0,.bool false,.int .i64 0,.int .i64 0,.int .i64 0] 92);rw[World.size_alloc,World.size_alloc] at this;rw[hW4];exact(qa _ _ _ (by simp)).trans this
  have hrd:W4.heap[w.heap.size+3]?=some (.cells (rdC s 0 (w.heap.size+2)) 137 (0,0)):=by
   have:=qn (((w.alloc (.cells #[.pointer none] 24)).alloc (.cells #[.int .i64 0,.int .i64 0] 87)).alloc (.cells #[.string ⟨#[]⟩,.slice none 0 0,.slice none 0 0,.slice none 0 0,.bool false,.int .i64 0,.int .i64 0,.int .i64 0] 92)) (.cells #[.string s,.int .i64 0,.pointer (some ⟨w.heap.size+1+1,0,none⟩)] 137);rw[World.size_alloc,World.size_alloc,World.size_alloc] at this;rw[hW4];exact this
  have h9:=hv.six;have hJ:WhJ W4 W4 (w.heap.size+2) (w.heap.size+3) (w.heap.size+2) s Fm.zero 0 (.slice none 0 0) (.slice none 0 0) (.slice none 0 0):=
   ⟨⟨hrd,Nat.zero_le _,by omega⟩,zl5 hfm (ql _),zl6,qb _ _,Vars.below hv hb4 h9⟩
  have Hwh:=qh (zkr (w.heap.size+2) (w.heap.size+3) (w.heap.size+2) s _ _ _ W4 hJ (by omega) (by omega));have Hb4:=qh hb4;have Hpf:=qh hpf;have Hps:=qh hps;have HR:=qh hR;clear hW4 hb4 hpf hps hfm hrd hJ hR hv;go_enter_defers Tryz.func35,Tryz.ntmps35
  go_wp2_with fail;rw[←HW4.out];refine Hwh.out.mono ?_;rintro e w5 ⟨hb5,hst⟩;have hpf5:=(hb5.block w.heap.size (by omega)).trans Hpf.out;have hps5:=(hb5.block (w.heap.size+1) (by omega)).trans Hps.out;have hB5:Below w.heap.size w w5:=Hb4.out.trans ⟨hb5.os,hb5.tape,hb5.output,hb5.size,fun k hk=>hb5.block k (by omega)⟩;have hs5:=hb5.size;cases hX:zaK s (s.size+1) Fm.zero false 0 with
  |error ep=>
   obtain⟨c,p⟩:=ep;rw[hX] at hst;have hst2:e=PanE c p:=hst;subst hst2;have HR2:Hid (zbO s=.error (c,p)):=qh (HR.out.trans hX);clear hst hX;refine leaves_cons (f:=59) (args:=#[.pointer (some ⟨w.heap.size,0,none⟩),.pointer (some ⟨w.heap.size+1,0,none⟩)]) (by simp) (by simp[go_sem]) ?_;refine(zi2 w.heap.size (w.heap.size+1) c p _ _ _ _ _ [] w5 hpf5 hps5 (by omega)).mono ?_;rintro e u' w6 ⟨rfl,rfl,ho,hf6,hs6⟩;refine⟨_,zdV rfl rfl hf6 hs6,zhc hB5 ho (fun k hk=>by simp at hk;omega),?_⟩;rw[HR2.out]
  |ok f=>
   rw[hX] at hst;obtain⟨rfl,j,vl,vm,vs,hrd5,hk5,hm5⟩:=hst;have HR2:Hid (zbO s=.ok f):=qh (HR.out.trans hX);have r2:=hrd5.cells.2.2.1;have f0:w5.cell? ⟨w.heap.size,0,none⟩=some (.pointer none):=qc _ _ 0 _ _ (0,0) hpf5;have s0:w5.cell? ⟨w.heap.size+1,0,none⟩=some (.int .i64 0):=qc _ _ 0 _ _ (0,0) hps5;have s1:w5.cell? ⟨w.heap.size+1,1,none⟩=some (.int .i64 0):=qc _ _ 1 _ _ (0,0) hps5;have z0:w5.frozen? ⟨w.heap.size,0,none⟩=false:=qf _ _ 0 _ _ hpf5;have z1:w5.frozen? ⟨w.heap.size+1,0,none⟩=false:=qf _ _ 0 _ _ hps5;have z2:w5.frozen? ⟨w.heap.size+1,1,none⟩=false:=qf _ _ 1 _ _ hps5;have Hrd5:=qh hrd5;have Hk5:=qh hk5;have Hm5:=qh hm5;have HB5:=qh hB5;have Hpf5:=qh hpf5;have Hps5:=qh hps5;clear hX hb5 hrd5 hk5 hm5 hB5 hpf5 hps5;have h1:=qs w5 w.heap.size 0 _ _ (.pointer (some ⟨w.heap.size+2,0,none⟩)) Hpf5.out;have o1:=Off.setCell w5 w.heap.size 0 (.pointer (some ⟨w.heap.size+2,0,none⟩));have q1:=(o1.block (w.heap.size+1) (by omega) (by simp)).trans Hps5.out;have q2:=qs _ (w.heap.size+1) 0 _ _ (.int .i64 0) q1;have o2:=Off.setCell (w5.setCell ⟨w.heap.size,0,none⟩ (.pointer (some ⟨w.heap.size+2,0,none⟩))) (w.heap.size+1) 0 (.int .i64 0);have q3:=qs _ (w.heap.size+1) 1 _ _ (.int .i64 0) q2;have o3:=Off.setCell ((w5.setCell ⟨w.heap.size,0,none⟩ (.pointer (some ⟨w.heap.size+2,0,none⟩))).setCell ⟨w.heap.size+1,0,none⟩ (.int .i64 0)) (w.heap.size+1) 1 (.int .i64 0);have p3:=(o3.block w.heap.size (Nat.lt_of_lt_of_le (Nat.lt_of_lt_of_le (show w.heap.size<w5.heap.size by omega) o1.size) o2.size) (by simp)).trans ((o2.block w.heap.size (Nat.lt_of_lt_of_le (show w.heap.size<w5.heap.size by omega) o1.size) (by simp)).trans h1);have ho:Off [w.heap.size,w.heap.size+1] w5 (((w5.setCell ⟨w.heap.size,0,none⟩ (.pointer (some ⟨w.heap.size+2,0,none⟩))).setCell ⟨w.heap.size+1,0,none⟩ (.int .i64 0)).setCell ⟨w.heap.size+1,1,none⟩ (.int .i64 0)):=
    ((o1.mono (fun k hk=>.inl (by simp at hk⊢;exact .inl hk))).trans (o2.mono (fun k hk=>.inl (by simp at hk⊢;exact .inr hk)))).trans (o3.mono (fun k hk=>.inl (by simp at hk⊢;exact .inr hk)))
   have Hq3:=qh q3;have Hp3:=qh p3;have Ho:=qh ho;clear h1 o1 q1 q2 o2 q3 o3 p3 ho;go_wp2_with fail;refine leaves_cons (f:=59) (args:=#[.pointer (some ⟨w.heap.size,0,none⟩),.pointer (some ⟨w.heap.size+1,0,none⟩)]) (by simp) (by simp[go_sem]) ?_;refine(zlg w.heap.size (w.heap.size+1) _).mono ?_;rintro e u' w6 ⟨rfl,rfl,rfl⟩;refine⟨_,zdV rfl rfl Hp3.out Hq3.out,zhc HB5.out Ho.out (fun k hk=>by simp at hk;omega),?_⟩;rw[HR2.out];exact⟨_,_,_,_,rfl,(Hm5.out.offLow Ho.out (fun k hk=>by simp at hk;omega)).mono (by omega),Hk5.out.mono Hrd5.out.le⟩
def MaxV (w:World):Prop:=∃m:Int,w.cell? ⟨0,0,none⟩=some (.int .i64 m)
def HSEST:ByteArray:=⟨#[115,116,97,110,122,97,32,120,32,120,32,120,32,120,32,120,32,120,124,114,111,117,110,100,32,53,32,53,32,48,32,120,64,49,32,120,64,55,32,120,64,52,32,120,64,56,32,120,64,55,32,120,64,57,124,115,116,97,110,122,97,32,120,64,51,126,54,32,120,64,51,126,54,32,120,64,51,126,54]⟩
def TSEST:ByteArray:=⟨#[102,111,114,109,32,115,101,115,116,105,110,97,10,115,116,97,110,122,97,32,120,32,120,32,120,32,120,32,120,32,120,10,114,111,117,110,100,32,53,32,53,32,48,32,120,64,49,32,120,64,55,32,120,64,52,32,120,64,56,32,120,64,55,32,120,64,57,10,115,116,97,110,122,97,32,120,64,51,126,54,32,120,64,51,126,54,32,120,64,51,126,54]⟩
set_option maxRecDepth 100000 in
theorem zf8 (w:World):
  Calls Tryz.prog 40 #[.string ⟨#[115,101,115,116,105,110,97]⟩] w fun e w'=>e=.returned (.string HSEST)∧w=w':=by
 go_enter Tryz.func40,Tryz.ntmps40;go_wp2_with fail;go_ret;exact⟨rfl,rfl⟩
theorem zl7:∃f,zbO TSEST=.ok f:=by
 have h:(match zbO TSEST with|.ok _=>true|.error _=>false)=true:=by decide+kernel
 cases hf:zbO TSEST with
 |error e=>rw[hf] at h;cases h
 |ok f=>exact⟨f,rfl⟩
theorem zks:Lib.contains HSEST.data.toList (⟨#[58,112]⟩:ByteArray).data.toList=false:=by decide+kernel
theorem zkt:(⟨(Lib.replaceAll HSEST.data.toList (⟨#[124]⟩:ByteArray).data.toList (⟨#[10]⟩:ByteArray).data.toList).toArray⟩:ByteArray)=⟨#[115,116,97,110,122,97,32,120,32,120,32,120,32,120,32,120,32,120,10,114,111,117,110,100,32,53,32,53,32,48,32,120,64,49,32,120,64,55,32,120,64,52,32,120,64,56,32,120,64,55,32,120,64,57,10,115,116,97,110,122,97,32,120,64,51,126,54,32,120,64,51,126,54,32,120,64,51,126,54]⟩:=by decide+kernel
set_option maxRecDepth 100000 in
theorem zi3 (w:World) (hv:Vars w) (hm:MaxV w):
  Calls Tryz.prog 20 #[.string ⟨#[115,101,115,116,105,110,97]⟩] w fun e w'=>Below w.heap.size w w'∧∃f fb vl vm vs,zbO TSEST=.ok f∧e=.returned (.tuple #[.pointer (some ⟨fb,0,none⟩),.int .i64 0])∧FmM w' w.heap.size fb f vl vm vs∧FmOk f TSEST.size:=by
 obtain⟨m,hm⟩:=hm;have Hh:=qh (zf8 w);have hc:=Tryz.strings_Contains HSEST ⟨#[58,112]⟩ m w (by decide+kernel) hm;rw[zks] at hc;have Hc:=qh (zfS hc);have hr:=Tryz.strings_ReplaceAll HSEST ⟨#[124]⟩ ⟨#[10]⟩ m w (by decide+kernel) hm (by decide) (by decide+kernel);rw[zkt] at hr;have Hr:=qh hr;have Hv:=qh hv;have hne:HSEST.toList.isEmpty=false:=by decide+kernel
 have hne2:(!HSEST.toList.isEmpty)=true:=by decide+kernel
 have hne3:HSEST.toList≠[]:=by decide+kernel
 clear hm hc hr hv;go_enter Tryz.func20,Tryz.ntmps20;go_wp2_with fail;refine Hh.out.mono ?_;rintro e w2 ⟨rfl,rfl⟩;go_wp2_with fail;refine Hc.out.mono ?_;rintro e w2 ⟨rfl,rfl⟩;go_wp2_with fail;refine Hr.out.mono ?_;rintro e w2 ⟨rfl,hb2⟩;have Hb2:=qh hb2;have hv2:=Vars.below Hv.out hb2 Hv.out.six;have Hf:=qh (zf7 TSEST w2 hv2 (by decide+kernel));clear hb2 hv2;go_wp2_with fail;have hcat:((⟨#[102,111,114,109,32]⟩:ByteArray)++⟨#[115,101,115,116,105,110,97]⟩++⟨#[10]⟩++⟨#[115,116,97,110,122,97,32,120,32,120,32,120,32,120,32,120,32,120,10,114,111,117,110,100,32,53,32,53,32,48,32,120,64,49,32,120,64,55,32,120,64,52,32,120,64,56,32,120,64,55,32,120,64,57,10,115,116,97,110,122,97,32,120,64,51,126,54,32,120,64,51,126,54,32,120,64,51,126,54]⟩)=TSEST:=by decide+kernel
 rw[hcat];clear hcat;refine Hf.out.mono ?_;rintro e w3 ⟨hb3,hr3⟩;obtain⟨f,hf⟩:=zl7;rw[hf] at hr3;obtain⟨fb,vl,vm,vs,rfl,hm3,hk3⟩:=hr3;have Hfin:Hid (Below w.heap.size w (w3.alloc (.cells #[.int .i64 0,.int .i64 0] 87))∧∃f vl vm vs,zbO TSEST=.ok f∧FmM (w3.alloc (.cells #[.int .i64 0,.int .i64 0] 87)) w.heap.size fb f vl vm vs∧FmOk f TSEST.size):=qh
  ⟨(Hb2.out.trans (hb3.mono Hb2.out.size)).alloc (by have:=Hb2.out.size;have:=hb3.size;omega) _,f,vl,vm,vs,hf,(hm3.below ((qb _ _).alloc (ql _) _)).mono Hb2.out.size,hk3⟩
 clear hf hb3 hm3 hk3;go_wp2_with fail;go_ret2;obtain⟨hb,f,vl,vm,vs,hf,hm,hk⟩:=Hfin.out;exact⟨hb,f,fb,vl,vm,vs,hf,rfl,hm,hk⟩
theorem zmA (w:World) (hv:Vars w) (hm:MaxV w):
  Calls Tryz.prog 12 #[] w fun e w'=>e=.returned (.bool true)∧Below w.heap.size w w':=by
 have Ho:=qh (zi3 w hv hm);clear hv hm;go_enter Tryz.func12,Tryz.ntmps12;go_wp2_with fail;refine Ho.out.mono ?_;rintro e w2 ⟨hb,f,fb,vl,vm,vs,hf,rfl,_,_⟩;have Hb:=qh hb;clear hb hf;go_wp2_with fail;go_ret;exact⟨rfl,Hb.out⟩
theorem zmC (s:ByteArray) (w:World) (hs:s.size≤4611686018427387904):
  Calls Tryz.prog 13 #[.string s] w fun e w'=>e=.returned (.bool (decide (8000<s.size)))∧w=w':=by
 have hd:decide ((8000:Int)<(s.size:Int))=decide (8000<s.size):=by
  by_cases h:8000<s.size
  ·rw[decide_eq_true h,decide_eq_true (by omega)]
  ·rw[decide_eq_false h,decide_eq_false (by omega)]
 have Hd:=qh hd;clear hd;go_enter Tryz.func13,Tryz.ntmps13;go_wp2_with fail;go_ret;exact⟨by rw[←Hd.out];rfl,rfl⟩

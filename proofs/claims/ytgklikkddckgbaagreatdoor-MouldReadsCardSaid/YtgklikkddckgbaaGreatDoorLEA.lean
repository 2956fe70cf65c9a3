import Derived.Test.YtgklikkddckgbaaGreatDoorLDW
import Derived.HandedShaped
import Derived.LaidMore
import Derived.LaidOnce
import Derived.Lay
import Derived.SevenTiedAt
import Derived.Stop.LaidErr
/- Lemmas. -/
set_option linter.all false
set_option maxRecDepth 100000
set_option maxHeartbeats 2000000
namespace Go.Proofs.YtgklikkddckgbaaGreatDoor.Mo
open Go.RowKit
theorem zdV {W:World} {T:Array Value} {pf ps:Nat} {x y0 y1:Value} (h2:T.getD 2 undef=.pointer (some ⟨pf,0,none⟩)) (h3:T.getD 3 undef=.pointer (some ⟨ps,0,none⟩)) (hf:W.heap[pf]?=some (.cells #[x] 24 (0,0))) (hs:W.heap[ps]?=some (.cells #[y0,y1] 87 (0,0))):
  (results Tryz.f35 T).run Tryz.prog W=.ok (.tuple #[x,.agg #[y0,y1]]) W:=by
 have d0:W.cell? ⟨pf,0,none⟩=some x:=qc _ _ 0 _ _ (0,0) hf;have d1:W.cell? ⟨ps,0,none⟩=some y0:=qc _ _ 0 _ _ (0,0) hs;have d2:W.cell? ⟨ps,1,none⟩=some y1:=qc _ _ 1 _ _ (0,0) hs;have h2':T[2]?.getD undef=.pointer (some ⟨pf,0,none⟩):=by simpa using h2
 have h3':T[3]?.getD undef=.pointer (some ⟨ps,0,none⟩):=by simpa using h3
 simp[results,Tryz.f35,go_sem,h2',h3',d0,d1,d2,Tryz.isAgg87,yu]
theorem zl5 {W:World} {B fb:Nat} (h:W.heap[fb]?=some (.cells #[.string ⟨#[]⟩,.slice none 0 0,.slice none 0 0,.slice none 0 0,.bool false,.int .i64 0,.int .i64 0,.int .i64 0] 92 (0,0))) (hB:B<=fb):pL W B fb Fm.zero (.slice none 0 0) (.slice none 0 0) (.slice none 0 0):=
 ⟨h,hB,⟨rfl,.inl ⟨rfl,rfl⟩⟩,⟨[],rfl,⟨rfl,.inl ⟨rfl,rfl⟩⟩,λk hk=>(by simp[Fm.zero] at hk)⟩,⟨[],⟨rfl,⟨rfl,.inl ⟨rfl,rfl⟩⟩,λk hk=>(by simp[Fm.zero] at hk)⟩,λk hk=>(by simp[Fm.zero] at hk)⟩⟩
theorem zl6:pq Fm.zero 0:=⟨by simp[Fm.zero,vQ],by simp[Fm.zero],by simp[Fm.zero],by simp[Fm.zero],by simp[Fm.zero],by simp[Fm.zero],by simp[Fm.zero],by simp[Fm.zero],by simp[Fm.zero]⟩
theorem zhc {w W W':World} {L:List Nat} (h:Below w.heap.size w W) (ho:Off L W W') (hl:∀k∈L,w.heap.size<=k):Below w.heap.size w W':=h.trans (ho.below h.size hl)
theorem zf7 (s:ByteArray) (w:World) (hv:Vars w) (zrl:s.size<=4611686018427387904):
  Calls Tryz.prog 35 #[.string s] w (zmz s w):=by
 have hmf:∀(fn:Fn) (first cap:Array Value) (w:World),(Instr.makeFunc fn first cap).run Tryz.prog w=.ok (.func fn first cap) w:=λ_ _ _ _=>rfl;by_cases hl:65536<s.size
 ·have hd:decide ((65536:Int)<(s.size:Int))=true:=qt (by omega);have hR:Kz s=.error (3,65536):=by unfold Kz;rw[qy hl]
  go_enter_defers Tryz.func35,Tryz.ntmps35
  go_wp2_with fail;have hb:Below w.heap.size w ((w.alloc (.cells #[.pointer none] 24)).alloc (.cells #[.int .i64 3,.int .i64 65536] 87)):=((qb _ _).alloc (ql _) _).alloc (by simp) _;have hf:((w.alloc (.cells #[.pointer none] 24)).alloc (.cells #[.int .i64 3,.int .i64 65536] 87)).heap[w.heap.size]?=some (.cells #[.pointer none] 24 (0,0)):=(qa _ _ _ (by simp)).trans (qn w _);have hs:((w.alloc (.cells #[.pointer none] 24)).alloc (.cells #[.int .i64 3,.int .i64 65536] 87)).heap[w.heap.size+1]?=some (.cells #[.int .i64 3,.int .i64 65536] 87 (0,0)):=by
   have:=qn (w.alloc (.cells #[.pointer none] 24)) (.cells #[.int .i64 3,.int .i64 65536] 87);rw[qO] at this;exact this
  refine⟨_,zdV rfl rfl hf hs,hb,?_⟩;rw[hR];rfl
 ·have hd:decide ((65536:Int)<(s.size:Int))=false:=qd (by omega);have hR:Kz s=Q8 s (s.size+1) Fm.zero false 0:=by unfold Kz;rw[qx hl]
  obtain⟨W4,J8⟩:∃W4:World,W4=(((w.alloc (.cells #[.pointer none] 24)).alloc (.cells #[.int .i64 0,.int .i64 0] 87)).alloc (.cells #[.string ⟨#[]⟩,.slice none 0 0,.slice none 0 0,.slice none 0 0,.bool false,.int .i64 0,.int .i64 0,.int .i64 0] 92)).alloc (.cells #[.string s,.int .i64 0,.pointer (some ⟨w.heap.size+1+1,0,none⟩)] 137):=⟨_,rfl⟩;have HW4:=qh J8;have hsz4:W4.heap.size=w.heap.size+4:=by rw[J8];simp
  have hb4:Below w.heap.size w W4:=by rw[J8];exact((((qb _ _).alloc (ql _) _).alloc (by simp) _).alloc (by simp;omega) _).alloc (by simp;omega) _
  have hpf:W4.heap[w.heap.size]?=some (.cells #[.pointer none] 24 (0,0)):=by
   rw[J8];exact(qa _ _ _ (by simp;omega)).trans ((qa _ _ _ (by simp;omega)).trans ((qa _ _ _ (by simp)).trans (qn w _)))
  have hps:W4.heap[w.heap.size+1]?=some (.cells #[.int .i64 0,.int .i64 0] 87 (0,0)):=by
   have:=qn (w.alloc (.cells #[.pointer none] 24)) (.cells #[.int .i64 0,.int .i64 0] 87);rw[qO] at this;rw[J8];exact(qa _ _ _ (by simp)).trans ((qa _ _ _ (by simp)).trans this)
  have hfm:W4.heap[w.heap.size+2]?=some (.cells #[.string ⟨#[]⟩,.slice none 0 0,.slice none 0 0,.slice none 0 0,.bool false,.int .i64 0,.int .i64 0,.int .i64 0] 92 (0,0)):=by
   have:=qn ((w.alloc (.cells #[.pointer none] 24)).alloc (.cells #[.int .i64 0,.int .i64 0] 87)) (.cells #[.string ⟨#[]⟩,.slice none 0 0,.slice none 0 0,.slice none 0 0,.bool false,.int .i64 0,.int .i64 0,.int .i64 0] 92);rw[qO,qO] at this;rw[J8];exact(qa _ _ _ (by simp)).trans this
  have hrd:W4.heap[w.heap.size+3]?=some (.cells (rdC s 0 (w.heap.size+2)) 137 (0,0)):=by
   have:=qn (((w.alloc (.cells #[.pointer none] 24)).alloc (.cells #[.int .i64 0,.int .i64 0] 87)).alloc (.cells #[.string ⟨#[]⟩,.slice none 0 0,.slice none 0 0,.slice none 0 0,.bool false,.int .i64 0,.int .i64 0,.int .i64 0] 92)) (.cells #[.string s,.int .i64 0,.pointer (some ⟨w.heap.size+1+1,0,none⟩)] 137);rw[qO,qO,qO] at this;rw[J8];exact this
  have h9:=hv.six;have hJ:V2 W4 W4 (w.heap.size+2) (w.heap.size+3) (w.heap.size+2) s Fm.zero 0 (.slice none 0 0) (.slice none 0 0) (.slice none 0 0):=
   ⟨⟨hrd,qF _,by omega⟩,zl5 hfm (ql _),zl6,qb _ _,Vars.below hv hb4 h9⟩
  have Hwh:=qh (zkr (w.heap.size+2) (w.heap.size+3) (w.heap.size+2) s _ _ _ W4 hJ (by omega) (by omega));have Hb4:=qh hb4;have Hpf:=qh hpf;have KA:=qh hps;have HR:=qh hR;clear J8 hb4 hpf hps hfm hrd hJ hR hv;go_enter_defers Tryz.func35,Tryz.ntmps35
  go_wp2_with fail;rw[<-HW4.out];refine Hwh.out.mono ?_;rintro e w5 ⟨hb5,hst⟩;have zq2:=(hb5.block w.heap.size (by omega)).trans Hpf.out;have Uc:=(hb5.block (w.heap.size+1) (by omega)).trans KA.out;have hB5:Below w.heap.size w w5:=Hb4.out.trans ⟨hb5.os,hb5.tape,hb5.output,hb5.size,λk hk=>hb5.block k (by omega)⟩;have hs5:=hb5.size;cases hX:Q8 s (s.size+1) Fm.zero false 0 with
  |error ep=>
   obtain⟨c,p⟩:=ep;rw[hX] at hst;have zrp:e=vU c p:=hst;subst zrp;have HR2:Hid (Kz s=.error (c,p)):=qh (HR.out.trans hX);clear hst hX;refine leaves_cons (f:=59) (args:=#[.pointer (some ⟨w.heap.size,0,none⟩),.pointer (some ⟨w.heap.size+1,0,none⟩)]) (by simp) (by simp[go_sem]) ?_;refine(zi2 w.heap.size (w.heap.size+1) c p _ _ _ _ _ [] w5 zq2 Uc (by omega)).mono ?_;rintro e u' w6 ⟨rfl,rfl,ho,hf6,hs6⟩;refine⟨_,zdV rfl rfl hf6 hs6,zhc hB5 ho (λk hk=>by simp at hk;omega),?_⟩;rw[HR2.out]
  |ok f=>
   rw[hX] at hst;obtain⟨rfl,j,vl,vm,vs,Qa,hk5,YY⟩:=hst;have HR2:Hid (Kz s=.ok f):=qh (HR.out.trans hX);have r2:=Qa.cells.2.2.1;have f0:w5.cell? ⟨w.heap.size,0,none⟩=some (.pointer none):=qc _ _ 0 _ _ (0,0) zq2;have s0:w5.cell? ⟨w.heap.size+1,0,none⟩=some (.int .i64 0):=qc _ _ 0 _ _ (0,0) Uc;have s1:w5.cell? ⟨w.heap.size+1,1,none⟩=some (.int .i64 0):=qc _ _ 1 _ _ (0,0) Uc;have z0:w5.frozen? ⟨w.heap.size,0,none⟩=false:=qf _ _ 0 _ _ zq2;have z1:w5.frozen? ⟨w.heap.size+1,0,none⟩=false:=qf _ _ 0 _ _ Uc;have z2:w5.frozen? ⟨w.heap.size+1,1,none⟩=false:=qf _ _ 1 _ _ Uc;have X4:=qh Qa;have Hk5:=qh hk5;have Hm5:=qh YY;have Y8:=qh hB5;have Hpf5:=qh zq2;have Hps5:=qh Uc;clear hX hb5 Qa hk5 YY hB5 zq2 Uc;have h1:=qs w5 w.heap.size 0 _ _ (.pointer (some ⟨w.heap.size+2,0,none⟩)) Hpf5.out;have o1:=Off.setCell w5 w.heap.size 0 (.pointer (some ⟨w.heap.size+2,0,none⟩));have q1:=(o1.block (w.heap.size+1) (by omega) (by simp)).trans Hps5.out;have q2:=qs _ (w.heap.size+1) 0 _ _ (.int .i64 0) q1;have o2:=Off.setCell (w5.setCell ⟨w.heap.size,0,none⟩ (.pointer (some ⟨w.heap.size+2,0,none⟩))) (w.heap.size+1) 0 (.int .i64 0);have q3:=qs _ (w.heap.size+1) 1 _ _ (.int .i64 0) q2;have o3:=Off.setCell ((w5.setCell ⟨w.heap.size,0,none⟩ (.pointer (some ⟨w.heap.size+2,0,none⟩))).setCell ⟨w.heap.size+1,0,none⟩ (.int .i64 0)) (w.heap.size+1) 1 (.int .i64 0);have p3:=(o3.block w.heap.size (qD (qD (show w.heap.size<w5.heap.size by omega) o1.size) o2.size) (by simp)).trans ((o2.block w.heap.size (qD (show w.heap.size<w5.heap.size by omega) o1.size) (by simp)).trans h1);have ho:Off [w.heap.size,w.heap.size+1] w5 (((w5.setCell ⟨w.heap.size,0,none⟩ (.pointer (some ⟨w.heap.size+2,0,none⟩))).setCell ⟨w.heap.size+1,0,none⟩ (.int .i64 0)).setCell ⟨w.heap.size+1,1,none⟩ (.int .i64 0)):=
    ((o1.mono (λk hk=>.inl (by simp at hk|-;exact .inl hk))).trans (o2.mono (λk hk=>.inl (by simp at hk|-;exact .inr hk)))).trans (o3.mono (λk hk=>.inl (by simp at hk|-;exact .inr hk)))
   have Hq3:=qh q3;have Hp3:=qh p3;have Ho:=qh ho;clear h1 o1 q1 q2 o2 q3 o3 p3 ho;go_wp2_with fail;refine leaves_cons (f:=59) (args:=#[.pointer (some ⟨w.heap.size,0,none⟩),.pointer (some ⟨w.heap.size+1,0,none⟩)]) (by simp) (by simp[go_sem]) ?_;refine(zlg w.heap.size (w.heap.size+1) _).mono ?_;rintro e u' w6 ⟨rfl,rfl,rfl⟩;refine⟨_,zdV rfl rfl Hp3.out Hq3.out,zhc Y8.out Ho.out (λk hk=>by simp at hk;omega),?_⟩;rw[HR2.out];exact⟨_,_,_,_,rfl,(Hm5.out.zq1 Ho.out (λk hk=>by simp at hk;omega)).mono (by omega),Hk5.out.mono X4.out.le⟩
def zrI (w:World):Prop:=∃m:Int,w.cell? ⟨0,0,none⟩=some (.int .i64 m)
def KT:ByteArray:=⟨#[115,116,97,110,122,97,32,120,32,120,32,120,32,120,32,120,32,120,124,114,111,117,110,100,32,53,32,53,32,48,32,120,64,49,32,120,64,55,32,120,64,52,32,120,64,56,32,120,64,55,32,120,64,57,124,115,116,97,110,122,97,32,120,64,51,126,54,32,120,64,51,126,54,32,120,64,51,126,54]⟩
def Ku:ByteArray:=⟨#[102,111,114,109,32,115,101,115,116,105,110,97,10,115,116,97,110,122,97,32,120,32,120,32,120,32,120,32,120,32,120,10,114,111,117,110,100,32,53,32,53,32,48,32,120,64,49,32,120,64,55,32,120,64,52,32,120,64,56,32,120,64,55,32,120,64,57,10,115,116,97,110,122,97,32,120,64,51,126,54,32,120,64,51,126,54,32,120,64,51,126,54]⟩
theorem zf8 (w:World):
  Calls Tryz.prog 40 #[.string ⟨#[115,101,115,116,105,110,97]⟩] w λe w'=>e=.returned (.string KT)/\w=w':=by
 go_enter Tryz.func40,Tryz.ntmps40;go_wp2_with fail;go_ret;exact⟨rfl,rfl⟩
theorem zl7:∃f,Kz Ku=.ok f:=by
 have h:(match Kz Ku with|.ok _=>true|.error _=>false)=true:=by decide+kernel
 cases hf:Kz Ku with
 |error e=>rw[hf] at h;cases h
 |ok f=>exact⟨f,rfl⟩
theorem zks:Lib.contains KT.data.toList (⟨#[58,112]⟩:ByteArray).data.toList=false:=by decide+kernel
theorem zkt:(⟨(Lib.replaceAll KT.data.toList (⟨#[124]⟩:ByteArray).data.toList (⟨#[10]⟩:ByteArray).data.toList).toArray⟩:ByteArray)=⟨#[115,116,97,110,122,97,32,120,32,120,32,120,32,120,32,120,32,120,10,114,111,117,110,100,32,53,32,53,32,48,32,120,64,49,32,120,64,55,32,120,64,52,32,120,64,56,32,120,64,55,32,120,64,57,10,115,116,97,110,122,97,32,120,64,51,126,54,32,120,64,51,126,54,32,120,64,51,126,54]⟩:=by decide+kernel
theorem zi3 (w:World) (hv:Vars w) (hm:zrI w):
  Calls Tryz.prog 20 #[.string ⟨#[115,101,115,116,105,110,97]⟩] w λe w'=>Below w.heap.size w w'/\∃f fb vl vm vs,Kz Ku=.ok f/\e=.returned (.tuple #[.pointer (some ⟨fb,0,none⟩),.int .i64 0])/\pL w' w.heap.size fb f vl vm vs/\pq f Ku.size:=by
 obtain⟨m,hm⟩:=hm;have Hh:=qh (zf8 w);have hc:=Tryz.strings_Contains KT ⟨#[58,112]⟩ m w (by decide+kernel) hm;rw[zks] at hc;have Hc:=qh (zfS hc);have hr:=Tryz.strings_ReplaceAll KT ⟨#[124]⟩ ⟨#[10]⟩ m w (by decide+kernel) hm (by decide) (by decide+kernel);rw[zkt] at hr;have Hr:=qh hr;have Hv:=qh hv;have hne:KT.toList.isEmpty=false:=by decide+kernel
 have hne2:(!KT.toList.isEmpty)=true:=by decide+kernel
 have Xb:KT.toList≠[]:=by decide+kernel
 clear hm hc hr hv;go_enter Tryz.func20,Tryz.ntmps20;go_wp2_with fail;refine Hh.out.mono ?_;rintro e w2 ⟨rfl,rfl⟩;go_wp2_with fail;refine Hc.out.mono ?_;rintro e w2 ⟨rfl,rfl⟩;go_wp2_with fail;refine Hr.out.mono ?_;rintro e w2 ⟨rfl,hb2⟩;have Hb2:=qh hb2;have hv2:=Vars.below Hv.out hb2 Hv.out.six;have Hf:=qh (zf7 Ku w2 hv2 (by decide+kernel));clear hb2 hv2;go_wp2_with fail;have hcat:((⟨#[102,111,114,109,32]⟩:ByteArray)++⟨#[115,101,115,116,105,110,97]⟩++⟨#[10]⟩++⟨#[115,116,97,110,122,97,32,120,32,120,32,120,32,120,32,120,32,120,10,114,111,117,110,100,32,53,32,53,32,48,32,120,64,49,32,120,64,55,32,120,64,52,32,120,64,56,32,120,64,55,32,120,64,57,10,115,116,97,110,122,97,32,120,64,51,126,54,32,120,64,51,126,54,32,120,64,51,126,54]⟩)=Ku:=by decide+kernel
 rw[hcat];clear hcat;refine Hf.out.mono ?_;rintro e w3 ⟨hb3,hr3⟩;obtain⟨f,hf⟩:=zl7;rw[hf] at hr3;obtain⟨fb,vl,vm,vs,rfl,hm3,hk3⟩:=hr3;have gT:Hid (Below w.heap.size w (w3.alloc (.cells #[.int .i64 0,.int .i64 0] 87))/\∃f vl vm vs,Kz Ku=.ok f/\pL (w3.alloc (.cells #[.int .i64 0,.int .i64 0] 87)) w.heap.size fb f vl vm vs/\pq f Ku.size):=qh
  ⟨(Hb2.out.trans (hb3.mono Hb2.out.size)).alloc (by have:=Hb2.out.size;have:=hb3.size;omega) _,f,vl,vm,vs,hf,(hm3.below ((qb _ _).alloc (ql _) _)).mono Hb2.out.size,hk3⟩
 clear hf hb3 hm3 hk3;go_wp2_with fail;go_ret2;obtain⟨hb,f,vl,vm,vs,hf,hm,hk⟩:=gT.out;exact⟨hb,f,fb,vl,vm,vs,hf,rfl,hm,hk⟩
theorem zmA (w:World) (hv:Vars w) (hm:zrI w):
  Calls Tryz.prog 12 #[] w λe w'=>e=.returned (.bool true)/\Below w.heap.size w w':=by
 have Ho:=qh (zi3 w hv hm);clear hv hm;go_enter Tryz.func12,Tryz.ntmps12;go_wp2_with fail;refine Ho.out.mono ?_;rintro e w2 ⟨hb,f,fb,vl,vm,vs,hf,rfl,_,_⟩;have Hb:=qh hb;clear hb hf;go_wp2_with fail;go_ret;exact⟨rfl,Hb.out⟩
theorem zmC (s:ByteArray) (w:World) (hs:s.size<=4611686018427387904):
  Calls Tryz.prog 13 #[.string s] w λe w'=>e=.returned (.bool (decide (8000<s.size)))/\w=w':=by
 have hd:decide ((8000:Int)<(s.size:Int))=decide (8000<s.size):=by
  by_cases h:8000<s.size
  ·rw[qK h,qK (by omega)]
  ·rw[zh h,zh (by omega)]
 have Hd:=qh hd;clear hd;go_enter Tryz.func13,Tryz.ntmps13;go_wp2_with fail;go_ret;exact⟨by rw[<-Hd.out];rfl,rfl⟩
theorem zi4 {s:ByteArray} {i p:Nat} {c:Int} (h:QH s i=.error (c,p)):c≠0:=by
 unfold QH at h;split at h
 ·cases h
 ·split at h
  ·cases h;decide
  ·split at h
   ·cases h
   ·split at h
    ·cases h;decide
    ·split at h
     ·cases h;decide
     ·cases h
theorem zfy {s:ByteArray} {gN:List UInt8}:∀(f:Nat) (ms:List Mk) (i:Nat) {c:Int} {p:Nat},QV s gN f ms i=.error (c,p)->c≠0
 |0,ms,i,c,p,h=>by unfold QV at h;cases h
 |f+1,ms,i,c,p,h=>by
  unfold QV at h;split at h
  ·cases hm:QY s gN ms i with
   |error e=>
    obtain⟨c',p'⟩:=e;rw[hm] at h;cases h;exact zgR hm
   |ok mj=>
    obtain⟨m,j⟩:=mj;rw[hm] at h;exact zfy f _ j h
  ·cases h
theorem zku {s:ByteArray} {gN:List UInt8} {line c:Int} {i p:Nat} (h:Kj s gN line i=.error (c,p)):c≠0:=by
 rw[zdQ] at h;cases hr:Yd s gN i with
 |error e=>
  obtain⟨c',p'⟩:=e;rw[hr] at h;cases h;unfold Yd at hr;cases h1:QH s i with
  |error e=>obtain⟨c',p'⟩:=e;rw[h1] at hr;cases hr;exact zi4 h1
  |ok r=>
   obtain⟨cls,ref,j⟩:=r;rw[h1] at hr;simp only at hr;cases h2:QV s gN (s.size+1) [] j with
   |error e=>obtain⟨c',p'⟩:=e;rw[h2] at hr;cases hr;exact zfy _ _ _ h2
   |ok mk=>
    obtain⟨ms,k⟩:=mk;rw[h2] at hr;simp only at hr;split at hr
    ·cases hr;decide
    ·cases hr
 |ok xk=>
  obtain⟨x,k⟩:=xk;rw[hr] at h;simp only at h;split at h
  ·cases h;decide
  ·cases h
theorem zfz {s:ByteArray} {f:Fm} {round:Bool}:∀(q:Nat) (l:List It) (i:Nat) {c:Int} {p:Nat},Ka s f round q l i=.error (c,p)->c≠0
 |0,l,i,c,p,h=>by unfold Ka at h;cases h
 |q+1,l,i,c,p,h=>by
  unfold Ka at h;split at h
  ·cases hm:Kj s f.gN (ZT f round l.length) (i+1) with
   |error e=>
    obtain⟨c',p'⟩:=e;rw[hm] at h;cases h;exact zku hm
   |ok mj=>
    obtain⟨m,j⟩:=mj;rw[hm] at h;exact zfz q _ j h
  ·cases h
theorem ze0 {s:ByteArray} {f:Fm} {round:Bool} {start i p:Nat} {c:Int} (h:Kd s f round start i=.error (c,p)):c≠0:=by
 rw[zdF] at h;unfold zhz at h;by_cases h1:¬pg s i 32=true
 ·rw[qy h1] at h;cases h;decide
 ·rw[qx h1] at h;cases hit:Ka s f round (s.size+1) [] i with
  |error e=>obtain⟨c',p'⟩:=e;rw[hit] at h;cases h;exact zfz _ _ _ hit
  |ok lj=>
   obtain⟨l,j'⟩:=lj;rw[hit] at h;simp only at h;split at h
   ·cases h;decide
   ·split at h
    ·cases h;decide
    ·cases h
theorem zbU {r:Except Nat Nat} {c:Int} {p:Nat} (h:pF r=.error (c,p)):c≠0:=by rw[zcw h];decide
theorem zi5 {s:ByteArray} {f:Fm} {i p:Nat} {c:Int} (h:XW s f i=.error (c,p)):c≠0:=by
 by_cases hr:f.rounds=true
 ·unfold XW at h;rw[qy hr] at h;cases h;decide
 ·have hr2:f.rounds=false:=by simpa using hr
  rw[zf3 hr2] at h;cases h1:pF (py s ROUND i) with
  |error e=>obtain⟨c',p'⟩:=e;rw[h1] at h;cases h;exact zbU h1
  |ok a=>
   rw[h1] at h;simp only at h;unfold rK1 at h;cases h2:yL s 0 a with
   |error e=>obtain⟨c',p'⟩:=e;rw[h2] at h;cases h;exact zbI h2
   |ok lb=>
    obtain⟨least,b⟩:=lb;rw[h2] at h;simp only at h;unfold rK2 at h;cases h3:pF (py s [32] b) with
    |error e=>obtain⟨c',p'⟩:=e;rw[h3] at h;cases h;exact zbU h3
    |ok c2=>
     rw[h3] at h;simp only at h;unfold rK3 at h;cases h4:yL s 0 c2 with
     |error e=>obtain⟨c',p'⟩:=e;rw[h4] at h;cases h;exact zbI h4
     |ok md=>
      obtain⟨most,d⟩:=md;rw[h4] at h;simp only at h;unfold rK4 at h;split at h
      ·cases h;decide
      ·cases h5:pF (py s [32] d) with
       |error e=>obtain⟨c',p'⟩:=e;rw[h5] at h;cases h;exact zbU h5
       |ok g=>
        rw[h5] at h;simp only at h;unfold rK5 at h;cases h6:yL s 0 g with
        |error e=>obtain⟨c',p'⟩:=e;rw[h6] at h;cases h;exact zbI h6
        |ok sh=>
         obtain⟨shift,hh⟩:=sh;rw[h6] at h;simp only at h;unfold rK6 at h;cases h7:Kd s {f with least:=least,most:=most,shift:=shift} true i hh with
         |error e=>obtain⟨c',p'⟩:=e;rw[h7] at h;cases h;exact ze0 h7
         |ok fj=>obtain⟨f2,j2⟩:=fj;rw[h7] at h;cases h
theorem zi6 {s:ByteArray} {f:Fm} {i p:Nat} {c:Int} (hs:s.size<=65536) (h:YF s f i=.error (c,p)):c≠0:=by
 rw[zf6] at h;cases h1:pF (py s Zt i) with
 |error e=>obtain⟨c',p'⟩:=e;rw[h1] at h;cases h;exact zbU h1
 |ok a=>
  rw[h1] at h;simp only at h;unfold mK1 at h;split at h
  ·cases h;decide
  ·unfold mK2 at h;split at h
   ·cases h;decide
   ·unfold mK3 at h;cases h2:pF (py s [32] (a+1)) with
    |error e=>obtain⟨c',p'⟩:=e;rw[h2] at h;cases h;exact zbU h2
    |ok b=>
     rw[h2] at h;simp only at h;unfold mK4 at h;cases h3:Zs ⟨(yM s b (zap s b)).toArray⟩ with
     |error e=>
      obtain⟨c',p'⟩:=e;rw[h3] at h;cases h;refine(zf2 ?_ h3).1;rw[<-zhA,kV];omega
     |ok m=>rw[h3] at h;cases h
theorem zkv {s:ByteArray} {f:Fm} {t:Bool} {i p:Nat} {c:Int} (hs:s.size<=65536) (h:QZ s f t i=.error (c,p)):c≠0:=by
 unfold QZ at h;split at h
 ·cases h1:pF (py s znf i) with
  |error e=>obtain⟨c',p'⟩:=e;rw[h1] at h;cases h;exact zbU h1
  |ok a=>
   rw[h1] at h;simp only at h;split at h
   ·cases h;decide
   ·cases h
 ·split at h
  ·exact zi6 hs h
  ·split at h
   ·exact zi5 h
   ·cases h1:pF (py s pM i) with
    |error e=>obtain⟨c',p'⟩:=e;rw[h1] at h;cases h;exact zbU h1
    |ok a=>rw[h1] at h;exact ze0 h
theorem zc2 {s:ByteArray} (hs:s.size<=65536):∀(q:Nat) (f:Fm) (t:Bool) (i:Nat) {c:Int} {p:Nat},Q8 s q f t i=.error (c,p)->c≠0
 |0,f,t,i,c,p,h=>by unfold Q8 at h;cases h
 |q+1,f,t,i,c,p,h=>by
  unfold Q8 at h;split at h
  ·split at h
   ·cases h;decide
   ·cases h
  ·split at h
   ·exact zc2 hs q f t _ h
   ·split at h
    ·exact zc2 hs q f t _ h
    ·cases hl:QZ s f t i with
     |error e=>obtain⟨c',p'⟩:=e;rw[hl] at h;cases h;exact zkv hs hl
     |ok fj=>obtain⟨f',j⟩:=fj;rw[hl] at h;exact zc2 hs q f' true _ h
theorem zkw {s:ByteArray} {c:Int} {p:Nat} (h:Kz s=.error (c,p)):c≠0:=by
 unfold Kz at h;split at h
 ·cases h;decide
 ·exact zc2 (by omega) _ _ _ _ h
def zmO (s:ByteArray) (w:World) (e:Ending) (w':World):Prop:=Below w.heap.size w w'/\match Kz s with
 |.ok f=>∃fb vl vm vs F,e=.returned (.tuple #[.pointer (some ⟨fb,0,none⟩),RF.agg F,.bool true,.bool true])/\pL w' w.heap.size fb f vl vm vs/\pq f s.size/\Qc w' w.heap.size f F
 |.error _=>e=.returned (.tuple #[.pointer none,RF0.agg,.bool false,.bool true])
theorem zhd {W:World} {T:Array Value} {Q:Ending->World->Prop} {P:Nat} {v0 v1 v2 v3 v4 v5 v6 v7 x y z:Value} (h2:T.getD 2 undef=x) (h3:T.getD 3 undef=.pointer (some ⟨P,0,none⟩)) (h4:T.getD 4 undef=y) (h5:T.getD 5 undef=z) (r:W.heap[P]?=some (.cells #[v0,v1,v2,v3,v4,v5,v6,v7] 29 (0,0))) (hQ:Q (.returned (.tuple #[x,.agg #[v0,v1,v2,v3,v4,v5,v6,v7],y,z])) W):
  bodyPost Tryz.prog Tryz.f14 Q Exit.ret {tmps:=T,defers:=[]} W:=by
 have d0:W.cell? ⟨P,0,none⟩=some v0:=qc _ _ _ _ _ (0,0) r;have d1:W.cell? ⟨P,1,none⟩=some v1:=qc _ _ _ _ _ (0,0) r;have d2:W.cell? ⟨P,2,none⟩=some v2:=qc _ _ _ _ _ (0,0) r;have d3:W.cell? ⟨P,3,none⟩=some v3:=qc _ _ _ _ _ (0,0) r;have d4:W.cell? ⟨P,4,none⟩=some v4:=qc _ _ _ _ _ (0,0) r;have d5:W.cell? ⟨P,5,none⟩=some v5:=qc _ _ _ _ _ (0,0) r;have d6:W.cell? ⟨P,6,none⟩=some v6:=qc _ _ _ _ _ (0,0) r;have d7:W.cell? ⟨P,7,none⟩=some v7:=qc _ _ _ _ _ (0,0) r;have h2':T[2]?.getD undef=x:=by simpa using h2
 have h3':T[3]?.getD undef=.pointer (some ⟨P,0,none⟩):=by simpa using h3
 have h4':T[4]?.getD undef=y:=by simpa using h4
 have h5':T[5]?.getD undef=z:=by simpa using h5
 refine zt (v:=.tuple #[x,.agg #[v0,v1,v2,v3,v4,v5,v6,v7],y,z]) ?_ rfl hQ;simp[results,Tryz.f14,go_sem,h2',h3',h4',h5',d0,d1,d2,d3,d4,d5,d6,d7,Tryz.isAgg29,Tryz.sizeOf29]
theorem zmB (s:ByteArray) (w:World) (hv:Vars w) (hs:s.size<=4611686018427387904):
  Calls Tryz.prog 14 #[.string s] w (zmO s w):=by
 have Za:Below w.heap.size w (w.alloc (.cells #[.string ⟨#[]⟩,.slice none 0 0,.slice none 0 0,.slice none 0 0,.bool false,.int .i64 0,.int .i64 0,.int .i64 0] 29)):=(qb _ _).alloc (ql _) _;have hx:=qn w (.cells #[.string ⟨#[]⟩,.slice none 0 0,.slice none 0 0,.slice none 0 0,.bool false,.int .i64 0,.int .i64 0,.int .i64 0] 29);have Hr:=qh (zlf s _ (Vars.below hv Za hv.six) hs);have Hv:=qh hv;have HbA:=qh Za;have Hx:=qh hx;have h9:=hv.six;clear hv Za hx;go_enter Tryz.func14,Tryz.ntmps14;go_wp2_with fail;generalize w.alloc (.cells #[.string ⟨#[]⟩,.slice none 0 0,.slice none 0 0,.slice none 0 0,.bool false,.int .i64 0,.int .i64 0,.int .i64 0] 29)=W1 at*;refine Hr.out.mono ?_;rintro e w2 ⟨hb2,hr2⟩;have hx2:=(hb2.block w.heap.size (qg Hx.out).1).trans Hx.out;have hbw2:Below w.heap.size w w2:=HbA.out.trans (hb2.mono HbA.out.size);cases hf:Kz s with
 |error cp=>
  obtain⟨c,p⟩:=cp;rw[hf] at hr2;subst hr2;have hagg:RF0.agg=.agg #[.string ⟨#[]⟩,.slice none 0 0,.slice none 0 0,.slice none 0 0,.bool false,.int .i64 0,.int .i64 0,.int .i64 0]:=rfl;rw[hagg];have y0:=qc _ _ 0 _ _ (0,0) hx2;have z0:=qf _ _ 0 _ _ hx2;have y1:=qc _ _ 1 _ _ (0,0) hx2;have z1:=qf _ _ 1 _ _ hx2;have y2:=qc _ _ 2 _ _ (0,0) hx2;have z2:=qf _ _ 2 _ _ hx2;have y3:=qc _ _ 3 _ _ (0,0) hx2;have z3:=qf _ _ 3 _ _ hx2;have y4:=qc _ _ 4 _ _ (0,0) hx2;have z4:=qf _ _ 4 _ _ hx2;have y5:=qc _ _ 5 _ _ (0,0) hx2;have z5:=qf _ _ 5 _ _ hx2;have y6:=qc _ _ 6 _ _ (0,0) hx2;have z6:=qf _ _ 6 _ _ hx2;have y7:=qc _ _ 7 _ _ (0,0) hx2;have z7:=qf _ _ 7 _ _ hx2;have hc:=zkw hf;have q0:(c !=0)=true:=by simpa using hc
  have hz:=zkq hx2 (.string ⟨#[]⟩) (.slice none 0 0) (.slice none 0 0) (.slice none 0 0) (.bool false) (.int .i64 0) (.int .i64 0) (.int .i64 0);have Ud:=hbw2.trans (hz.2.below hbw2.size (λk hk=>by simp at hk;omega));have Hfo:=qh (zf7 s _ (Vars.below Hv.out Ud h9) hs);have Hz:=qh hz;have Vf:=qh Ud;have Hf:=qh hf;clear hagg hx2 hb2 hbw2 hf hc hz Ud;go_wp2_with fail;generalize ((((((((w2.setCell ⟨w.heap.size,0,none⟩ (.string ⟨#[]⟩)).setCell ⟨w.heap.size,1,none⟩ (.slice none 0 0)).setCell ⟨w.heap.size,2,none⟩ (.slice none 0 0)).setCell ⟨w.heap.size,3,none⟩ (.slice none 0 0)).setCell ⟨w.heap.size,4,none⟩ (.bool false)).setCell ⟨w.heap.size,5,none⟩ (.int .i64 0)).setCell ⟨w.heap.size,6,none⟩ (.int .i64 0)).setCell ⟨w.heap.size,7,none⟩ (.int .i64 0))=W3 at*;refine Hfo.out.mono ?_;rintro e w4 ⟨hb4,hr4⟩;rw[Hf.out] at hr4;subst hr4;go_wp2_with fail;have hx5:(w4.alloc (.cells #[.int .i64 c,.int .i64 p] 87)).heap[w.heap.size]?=some (.cells #[.string ⟨#[]⟩,.slice none 0 0,.slice none 0 0,.slice none 0 0,.bool false,.int .i64 0,.int .i64 0,.int .i64 0] 29 (0,0)):=(qa _ _ _ (qD (qg Hz.out.1).1 hb4.size)).trans ((hb4.block w.heap.size (qg Hz.out.1).1).trans Hz.out.1);have hs5:=qn w4 (.cells #[.int .i64 c,.int .i64 p] 87);have Vd:Below w.heap.size w (w4.alloc (.cells #[.int .i64 c,.int .i64 p] 87)):=(Vf.out.trans (hb4.mono Vf.out.size)).alloc (by have:=Vf.out.size;have:=hb4.size;omega) _;have hne:w4.heap.size≠w.heap.size:=by have:=(qg Hz.out.1).1;have:=hb4.size;omega
  obtain⟨sb,hsb⟩:∃sb:Nat,w4.heap.size=sb:=⟨_,rfl⟩;rw[hsb] at hs5 hne|-;generalize w4.alloc (.cells #[.int .i64 c,.int .i64 p] 87)=W5 at*;have s0:W5.cell? ⟨sb,0,none⟩=some (.int .i64 c):=qc _ _ 0 _ _ (0,0) hs5;have s1:W5.cell? ⟨sb,1,none⟩=some (.int .i64 p):=qc _ _ 1 _ _ (0,0) hs5;have u0:W5.cell? ⟨w.heap.size,0,none⟩=some (.string ⟨#[]⟩):=qc _ _ 0 _ _ (0,0) hx5;have v0:=qf _ _ 0 _ _ hx5;have u1:W5.cell? ⟨w.heap.size,1,none⟩=some (.slice none 0 0):=qc _ _ 1 _ _ (0,0) hx5;have v1:=qf _ _ 1 _ _ hx5;have u2:W5.cell? ⟨w.heap.size,2,none⟩=some (.slice none 0 0):=qc _ _ 2 _ _ (0,0) hx5;have v2:=qf _ _ 2 _ _ hx5;have u3:W5.cell? ⟨w.heap.size,3,none⟩=some (.slice none 0 0):=qc _ _ 3 _ _ (0,0) hx5;have v3:=qf _ _ 3 _ _ hx5;have u4:W5.cell? ⟨w.heap.size,4,none⟩=some (.bool false):=qc _ _ 4 _ _ (0,0) hx5;have v4:=qf _ _ 4 _ _ hx5;have u5:W5.cell? ⟨w.heap.size,5,none⟩=some (.int .i64 0):=qc _ _ 5 _ _ (0,0) hx5;have v5:=qf _ _ 5 _ _ hx5;have u6:W5.cell? ⟨w.heap.size,6,none⟩=some (.int .i64 0):=qc _ _ 6 _ _ (0,0) hx5;have v6:=qf _ _ 6 _ _ hx5;have u7:W5.cell? ⟨w.heap.size,7,none⟩=some (.int .i64 0):=qc _ _ 7 _ _ (0,0) hx5;have v7:=qf _ _ 7 _ _ hx5;have Hz5:=qh (zle hx5 (.string ⟨#[]⟩) (.slice none 0 0) (.slice none 0 0) (.slice none 0 0) (.bool false) (.int .i64 0) (.int .i64 0) (.int .i64 0));have Ve:=qh Vd;clear hx5 hs5 Vd hb4 hsb y0 y1 y2 y3 y4 y5 y6 y7 z0 z1 z2 z3 z4 z5 z6 z7;go_region
  all_goals
   go_wp2_with fail;refine zhd rfl rfl rfl rfl Hz5.out.1 ⟨Ve.out.trans (Hz5.out.2.below Ve.out.size (λk hk=>by simp at hk;omega)),?_⟩;rw[Hf.out];rfl
 |ok f=>
  rw[hf] at hr2;obtain⟨F,rfl,hfm⟩:=hr2;obtain⟨Al,cl,hvl⟩:=pJ hfm.l;obtain⟨cs,hcs⟩:=hfm.m;obtain⟨Am,cm,XN⟩:=pJ hcs.o;obtain⟨Ar,cr,Zg⟩:=hfm.len;have hagg:RF.agg F=.agg #[.string ⟨f.name.toArray⟩,.slice Al f.gN.length cl,.slice Am f.gQ.length cm,.slice Ar f.rows.length cr,.bool F.rd,.int .i64 F.a,.int .i64 F.b,.int .i64 F.c]:=by unfold RF.agg;rw[hfm.nm,hvl,XN,Zg]
  have Hagg:=qh hagg;rw[hagg];have y0:=qc _ _ 0 _ _ (0,0) hx2;have z0:=qf _ _ 0 _ _ hx2;have y1:=qc _ _ 1 _ _ (0,0) hx2;have z1:=qf _ _ 1 _ _ hx2;have y2:=qc _ _ 2 _ _ (0,0) hx2;have z2:=qf _ _ 2 _ _ hx2;have y3:=qc _ _ 3 _ _ (0,0) hx2;have z3:=qf _ _ 3 _ _ hx2;have y4:=qc _ _ 4 _ _ (0,0) hx2;have z4:=qf _ _ 4 _ _ hx2;have y5:=qc _ _ 5 _ _ (0,0) hx2;have z5:=qf _ _ 5 _ _ hx2;have y6:=qc _ _ 6 _ _ (0,0) hx2;have z6:=qf _ _ 6 _ _ hx2;have y7:=qc _ _ 7 _ _ (0,0) hx2;have z7:=qf _ _ 7 _ _ hx2;have hz:=zkq hx2 (.string ⟨f.name.toArray⟩) (.slice Al f.gN.length cl) (.slice Am f.gQ.length cm) (.slice Ar f.rows.length cr) (.bool F.rd) (.int .i64 F.a) (.int .i64 F.b) (.int .i64 F.c);have Ud:=hbw2.trans (hz.2.below hbw2.size (λk hk=>by simp at hk;omega));have hlw:=HbA.out.size;have hf3:Qc ((((((((w2.setCell ⟨w.heap.size,0,none⟩ (.string ⟨f.name.toArray⟩)).setCell ⟨w.heap.size,1,none⟩ (.slice Al f.gN.length cl)).setCell ⟨w.heap.size,2,none⟩ (.slice Am f.gQ.length cm)).setCell ⟨w.heap.size,3,none⟩ (.slice Ar f.rows.length cr)).setCell ⟨w.heap.size,4,none⟩ (.bool F.rd)).setCell ⟨w.heap.size,5,none⟩ (.int .i64 F.a)).setCell ⟨w.heap.size,6,none⟩ (.int .i64 F.b)).setCell ⟨w.heap.size,7,none⟩ (.int .i64 F.c)) w.heap.size f F:=(hfm.off hz.2 (pc.one hx2) (by simp)).mono hlw;have Hfo:=qh (zf7 s _ (Vars.below Hv.out Ud h9) hs);have Hz:=qh hz;have Vf:=qh Ud;have Hf3:=qh hf3;have Hf:=qh hf;clear hagg hx2 hb2 hbw2 hf hz Ud hfm hf3 hcs hvl XN Zg hlw;go_wp2_with fail;generalize ((((((((w2.setCell ⟨w.heap.size,0,none⟩ (.string ⟨f.name.toArray⟩)).setCell ⟨w.heap.size,1,none⟩ (.slice Al f.gN.length cl)).setCell ⟨w.heap.size,2,none⟩ (.slice Am f.gQ.length cm)).setCell ⟨w.heap.size,3,none⟩ (.slice Ar f.rows.length cr)).setCell ⟨w.heap.size,4,none⟩ (.bool F.rd)).setCell ⟨w.heap.size,5,none⟩ (.int .i64 F.a)).setCell ⟨w.heap.size,6,none⟩ (.int .i64 F.b)).setCell ⟨w.heap.size,7,none⟩ (.int .i64 F.c))=W3 at*;refine Hfo.out.mono ?_;rintro e w4 ⟨hb4,hr4⟩;rw[Hf.out] at hr4;obtain⟨fb,vl,vm,vs,rfl,hfm4,hk4⟩:=hr4;have Hfm4:=qh hfm4;have Hk4:=qh hk4;clear hfm4 hk4;go_wp2_with fail;have hx5:(w4.alloc (.cells #[.int .i64 0,.int .i64 0] 87)).heap[w.heap.size]?=some (.cells #[.string ⟨f.name.toArray⟩,.slice Al f.gN.length cl,.slice Am f.gQ.length cm,.slice Ar f.rows.length cr,.bool F.rd,.int .i64 F.a,.int .i64 F.b,.int .i64 F.c] 29 (0,0)):=(qa _ _ _ (qD (qg Hz.out.1).1 hb4.size)).trans ((hb4.block w.heap.size (qg Hz.out.1).1).trans Hz.out.1);have hs5:=qn w4 (.cells #[.int .i64 0,.int .i64 0] 87);have Vd:Below w.heap.size w (w4.alloc (.cells #[.int .i64 0,.int .i64 0] 87)):=(Vf.out.trans (hb4.mono Vf.out.size)).alloc (by have:=Vf.out.size;have:=hb4.size;omega) _;have hne:w4.heap.size≠w.heap.size:=by have:=(qg Hz.out.1).1;have:=hb4.size;omega
  have YY:=Hfm4.out.below ((qb w4.heap.size w4).alloc (ql _) (.cells #[.int .i64 0,.int .i64 0] 87));have Xy:=(Hf3.out.below hb4).below ((qb w4.heap.size w4).alloc (ql _) (.cells #[.int .i64 0,.int .i64 0] 87));obtain⟨sb,hsb⟩:∃sb:Nat,w4.heap.size=sb:=⟨_,rfl⟩;rw[hsb] at hs5 hne|-;generalize w4.alloc (.cells #[.int .i64 0,.int .i64 0] 87)=W5 at*;have s0:W5.cell? ⟨sb,0,none⟩=some (.int .i64 0):=qc _ _ 0 _ _ (0,0) hs5;have s1:W5.cell? ⟨sb,1,none⟩=some (.int .i64 0):=qc _ _ 1 _ _ (0,0) hs5;have u0:W5.cell? ⟨w.heap.size,0,none⟩=some (.string ⟨f.name.toArray⟩):=qc _ _ 0 _ _ (0,0) hx5;have v0:=qf _ _ 0 _ _ hx5;have u1:W5.cell? ⟨w.heap.size,1,none⟩=some (.slice Al f.gN.length cl):=qc _ _ 1 _ _ (0,0) hx5;have v1:=qf _ _ 1 _ _ hx5;have u2:W5.cell? ⟨w.heap.size,2,none⟩=some (.slice Am f.gQ.length cm):=qc _ _ 2 _ _ (0,0) hx5;have v2:=qf _ _ 2 _ _ hx5;have u3:W5.cell? ⟨w.heap.size,3,none⟩=some (.slice Ar f.rows.length cr):=qc _ _ 3 _ _ (0,0) hx5;have v3:=qf _ _ 3 _ _ hx5;have u4:W5.cell? ⟨w.heap.size,4,none⟩=some (.bool F.rd):=qc _ _ 4 _ _ (0,0) hx5;have v4:=qf _ _ 4 _ _ hx5;have u5:W5.cell? ⟨w.heap.size,5,none⟩=some (.int .i64 F.a):=qc _ _ 5 _ _ (0,0) hx5;have v5:=qf _ _ 5 _ _ hx5;have u6:W5.cell? ⟨w.heap.size,6,none⟩=some (.int .i64 F.b):=qc _ _ 6 _ _ (0,0) hx5;have v6:=qf _ _ 6 _ _ hx5;have u7:W5.cell? ⟨w.heap.size,7,none⟩=some (.int .i64 F.c):=qc _ _ 7 _ _ (0,0) hx5;have v7:=qf _ _ 7 _ _ hx5;have hz5:=zle hx5 (.string ⟨f.name.toArray⟩) (.slice Al f.gN.length cl) (.slice Am f.gQ.length cm) (.slice Ar f.rows.length cr) (.bool F.rd) (.int .i64 F.a) (.int .i64 F.b) (.int .i64 F.c);have Hz5:=qh hz5;have Ve:=qh Vd;have Hm6:=qh ((YY.zq1 hz5.2 (λk hk=>by simp at hk;have:=(qg Hz.out.1).1;omega)).mono (C:=w.heap.size) Vf.out.size);have Hf6:=qh (Xy.off hz5.2 (pc.one hx5) (by simp));clear hx5 hs5 Vd hb4 hsb y0 y1 y2 y3 y4 y5 y6 y7 z0 z1 z2 z3 z4 z5 z6 z7 YY Xy hz5;go_region
  all_goals
   go_wp2_with fail;refine zhd rfl rfl rfl rfl Hz5.out.1 ⟨Ve.out.trans (Hz5.out.2.below Ve.out.size (λk hk=>by simp at hk;omega)),?_⟩;rw[Hf.out];exact⟨fb,vl,vm,vs,F,by rw[Hagg.out];rfl,Hm6.out,Hk4.out,Hf6.out⟩
end Go.Proofs.YtgklikkddckgbaaGreatDoor.Mo
namespace Go.Proofs.YtgklikkddckgbaaGreatDoor
open Go Go.RowKit Go.WideShapes Go.ChangeShapes Go.ChangeAt
section
variable {H:Type} {enc:TypeId×Value->H}
theorem uY {a:Assume} {C:Checked} {os:Os} {f:FuncId} {fn:Func} {s:ChangeSpec} {conds:List PathCond} {apart fresh handsOn again:Bool} {X:World->Array Value->Prop}
  (hX:∀(w w':World) (args:Array Value),w.heap=w'.heap->X w args->X w' args)
  (own:ownKnob C.prog.godebug=none) (started:os.Started) (noInit:C.prog.inits.idxOf? f=none) (hfn:C.prog.funcs[f]?=some fn)
  (witness:∃(w:World) (tape:Tape) (i:Input),w.os=os/\(w.forCall tape i).Shaped C.prog/\i.vars=[]/\Input.okWide C.prog (w.forCall tape i) .any w.heap.size f i/\
   ((s.pre enc C.prog fn conds apart (w.forCall tape i).memory i.args/\X (w.forCall tape i).memory i.args)/\sizedMet enc C.prog fn (OpenSpec.ofChange s) apart (w.forCall tape i).memory i.args)/\a.holds C.prog (lone (Frame.enter C.prog f i.args .normal) [] (w.forCall tape i)))
  (contract:∀(W:World) (base:Nat) (args:Array Value) (ds gs:List (DataW H)) (before:List MemPlace),
   (∀(j:Nat) t v,fn.params[j]?=some t->args[j]?=some v->Value.okWide C.prog W .any base t v)->
   DataW.Whole enc C.prog fn.params.toList s.vars apart W args.toList ds gs before->
   (DataW.weightsEach C.prog (fn.params.toList++s.plain.varTypes C.prog) (ds++gs)).all (·<=reachBytes)=true->X W args->W.ShapedOpen C.prog->
   Calls C.prog f args W λe W'=>∃v,e=.returned v/\s.post enc C.prog fn apart fresh handsOn again W args v W'):
  ReturnsInHanded a C os f .any (λw args=>(s.pre enc C.prog fn conds apart w args/\X w args)/\sizedMet enc C.prog fn (OpenSpec.ofChange s) apart w args) (s.post enc C.prog fn apart fresh handsOn again):=by
 refine returnsInHanded_of_calls own started noInit witness ?_;intro w tape i _ hsh _ hok hpre _;obtain⟨_,_,_,fn',hfn',_,_,_,_,hval⟩:=hok;obtain rfl:fn'=fn:=kJ (hfn'.symm.trans hfn);obtain⟨⟨⟨ds,gs,before,hw,_⟩,hx⟩,hz⟩:=hpre;refine(contract (w.forCall tape i) w.heap.size i.args ds gs before hval (DataW.Whole.of_heap (w':=w.forCall tape i) (by rfl) hw) (hz.weights hw) (hX _ _ _ (by rfl) hx) hsh).mono λe W' ⟨v,he,hp⟩=>?_;subst he;exact ChangeSpec.post_blind hp
def zpb (P:Program) (t:TypeId) (d:DataW H):Prop:=∀n∈d.weights P t,n<=reachBytes
end
theorem own:ownKnob Tryz.prog.godebug=none:=by kernel_rfl
theorem zoG:Tryz.prog.globalNamed "strconv.ErrSyntax"=some 7:=by kernel_rfl
theorem zpc:Tryz.prog.globalNamed "strconv.ErrRange"=some 8:=by kernel_rfl
theorem zpH:(Tryz.prog.globals[7]?).map (·.type)=some 122:=by kernel_rfl
theorem zsV:(Tryz.prog.globals[8]?).map (·.type)=some 122:=by kernel_rfl
theorem tPow:(Tryz.prog.globals[3]?).map (·.type)=some 237:=by kernel_rfl
theorem star:"*"++"errors.errorString"="*errors.errorString":=by decide
theorem zpd (u:TypeId) (h:Tryz.prog.typeName? 3 u=some "*errors.errorString"):u=277:=
 typeName_ptr_named (nm:="errors.errorString") (by rw[star];kernel_rfl) (by kernel_rfl) (by decide) u (by rw[star];exact h)
theorem znR:Tryz.prog.cellsOf 279=1:=by kernel_rfl
theorem zpe:Tryz.prog.cellsOf 197=1:=by kernel_rfl
theorem zpf:Tryz.prog.cellsOf 237=20:=by kernel_rfl
theorem zpg:Tryz.prog.cellsOf 9=1:=by kernel_rfl
theorem zph:(Rows.laid_internal_strconv_uint64pow10:DataW Unit)=Lib.tabData .u64 Lib.pow10Tab:=by rfl
theorem znD {W:World} (h:W.ShapedOpen Tryz.prog):Mo.zrI W:=
 cell_of_shapedOpen_int (g:=0) (t:=3) (zero:=#[.int .i64 0]) (k:=.i64) h (zk (by kernel_rfl)) (by kernel_rfl) rfl (by kernel_rfl) (by kernel_rfl) zy
section
variable {H:Type} {enc:TypeId×Value->H} {P:Program}
theorem uK (hl:laidOutB P=true) {W W':World} (hb:Below W.heap.size W W'):∀{ts:List TypeId} {vs:List Value} {ds:List (DataW H)} {ps:List MemPlace},
  (∀t∈ts,P.readableRec t=true/\t<P.types.size)->(∀x∈ps,x.block<W.heap.size)->DataW.TrodAll enc P W 0 (λ_=>true) true ts vs ds ps->
  DataW.TrodAll enc P W' 0 (λb=>decide (b<W.heap.size)) true ts vs ds ps
 |[],[],[],_,_,_,h=>h
 |[],[],_::_,_,_,_,h=>h.elim
 |[],_::_,_,_,_,_,h=>h.elim
 |_::_,[],_,_,_,_,h=>h.elim
 |_::_,_::_,[],_,_,_,h=>h.elim
 |t::ts,v::vs,d::ds,ps,hr,hlt,⟨p,q,h1,h2,e⟩=>by
  subst e;have ht:=hr t jz;exact⟨p,q,Below.trod hl ht.1 ht.2 h1 hb λx hx=>hlt x (jn _ hx),
   uK hl hb (λt' h'=>hr t' (zN _ h')) (λx hx=>hlt x (List.mem_append_right _ hx)) h2,rfl⟩
theorem zpi {f:Func} {s:ChangeSpec} {apart:Bool} {W W':World} {args:Array Value} {ds gs:List (DataW H)} {before:List MemPlace} {tb:TypeId}
  (hl:laidOutB P=true) (hr:∀t∈f.params.toList,P.readableRec t=true/\t<P.types.size) (hres:f.resultTypes=#[tb]) (ztA:P.underlying tb=some .bool) (hvars:s.vars=[])
  (hspec:s.fn H (ds++gs)={results:=[.lit (.bool true)],args:=ds})
  (hW:DataW.Whole enc P f.params.toList s.vars apart W args.toList ds gs before) (hb:Below W.heap.size W W'):
  s.post enc P f apart true false false W args (.bool true) W':=by
 have hlt:∀p∈before,p.block<W.heap.size:=λp hp=>hW.lt p hp;have hW':=hW;obtain⟨p,q,hA,hV,rfl,hfz,hnd⟩:=hW;rw[hvars] at hV;obtain⟨rfl,rfl⟩:=trodVars_none hV;refine⟨ds,[],p++[],[],p,[],hW',?_,?_,?_,hb.frame _,λh=>by cases h⟩
 ·rw[hspec,hres];exact trodAll_mk1 (shut_bool ztA true)
 ·rw[hspec];exact uK hl hb hr (λx hx=>hlt x (jn _ hx)) hA
 ·rw[hspec,hvars];rfl
end
theorem zoO {t:TypeId} {H:Type} {ts:List TypeId} {ds:List (DataW H)} {d:DataW H} (h:(DataW.weightsEach Tryz.prog ts ds).all (·<=reachBytes)=true) (j:Nat) (ht:ts[j]?=some t) (hd:ds[j]?=some d):zpb Tryz.prog t d:=
 λn hn=>by simpa using zO.1 h n (DataW.weights_mem_each ht hd n hn)
theorem ztB:Tryz.prog.readableRec 9=true/\9<Tryz.prog.types.size:=⟨by kernel_rfl,zk (by kernel_rfl)⟩
end Go.Proofs.YtgklikkddckgbaaGreatDoor
namespace Go.Proofs.YtgklikkddckgbaaGreatDoor
open Go Go.RowKit Go.WideShapes Go.ChangeShapes Go.ChangeAt
def znS:List (String×DataW Unit):=Rows.mouldNamesRow.laid
theorem zng {W:World} (h:laidMetH Tryz.prog znS W):Vars W:=by
  rw[MakeChecks.laidMetH_plain _ _ _ (by kernel_rfl)] at h;have h1:=h.tail;have h2:=h1.tail;have h3:=h2.tail;have h4:=h3.tail;have h5:=h4.tail;obtain⟨a2,s2,hv2,_,_,_⟩:=laid_sentinel h4 zpc zsV ki zpd jJ jK rfl rfl qN znR zpg;obtain⟨a1,s1,hv1,_,_,_⟩:=laid_sentinel h5 zoG zpH ki zpd jJ jK rfl rfl qN znR zpg;rw[show(Rows.laid_internal_strconv_uint64pow10:DataW Unit)=Lib.tabData .u64 Lib.pow10Tab from zph] at h2;have h6:=Lib.tabIs_of_head zjc tPow jb ja zpe zpf h2;have c2:W.cell? ⟨8,0,none⟩=some (.iface 277 (.pointer (some a2))):=by simpa using World.var?_cell zpc hv2 0
  have h7:9<=W.heap.size:=by
    unfold World.cell? at c2;split at c2
    · rename_i hb
      have:=(qg hb).1;simp at this;omega
    · cases c2
  exact⟨⟨_,_,by simpa using World.var?_cell zoG hv1 0⟩,⟨_,_,c2⟩,h6,h7⟩
end Go.Proofs.YtgklikkddckgbaaGreatDoor

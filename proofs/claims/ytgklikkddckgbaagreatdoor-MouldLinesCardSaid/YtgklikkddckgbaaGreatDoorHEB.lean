import Derived.Test.YtgklikkddckgbaaGreatDoorHEA
/- Lemmas of the claim. -/
set_option linter.all false
namespace Go.Proofs.YtgklikkddckgbaaGreatDoor.Mo
open Go.RowKit
theorem zi4 {s:ByteArray} {i p:Nat} {c:Int} (h:zav s i=.error (c,p)):c≠0:=by
 unfold zav at h;split at h
 ·cases h
 ·split at h
  ·cases h;decide
  ·split at h
   ·cases h
   ·split at h
    ·cases h;decide
    ·split at h
     ·cases h;decide
     ·cases h
theorem zfy {s:ByteArray} {letters:List UInt8}:∀(f:Nat) (ms:List Mk) (i:Nat) {c:Int} {p:Nat},zaB s letters f ms i=.error (c,p)→c≠0
 |0,ms,i,c,p,h=>by unfold zaB at h;cases h
 |f+1,ms,i,c,p,h=>by
  unfold zaB at h;split at h
  ·cases hm:za0 s letters ms i with
   |error e=>
    obtain⟨c',p'⟩:=e;rw[hm] at h;cases h;exact zgR hm
   |ok mj=>
    obtain⟨m,j⟩:=mj;rw[hm] at h;exact zfy f _ j h
  ·cases h
theorem zku {s:ByteArray} {letters:List UInt8} {line c:Int} {i p:Nat} (h:zbC s letters line i=.error (c,p)):c≠0:=by
 rw[zdQ] at h;cases hr:zcv s letters i with
 |error e=>
  obtain⟨c',p'⟩:=e;rw[hr] at h;cases h;unfold zcv at hr;cases h1:zav s i with
  |error e=>obtain⟨c',p'⟩:=e;rw[h1] at hr;cases hr;exact zi4 h1
  |ok r=>
   obtain⟨cls,ref,j⟩:=r;rw[h1] at hr;simp only at hr;cases h2:zaB s letters (s.size+1) [] j with
   |error e=>obtain⟨c',p'⟩:=e;rw[h2] at hr;cases hr;exact zfy _ _ _ h2
   |ok mk=>
    obtain⟨ms,k⟩:=mk;rw[h2] at hr;simp only at hr;split at hr
    ·cases hr;decide
    ·cases hr
 |ok xk=>
  obtain⟨x,k⟩:=xk;rw[hr] at h;simp only at h;split at h
  ·cases h;decide
  ·cases h
theorem zfz {s:ByteArray} {f:Fm} {round:Bool}:∀(q:Nat) (l:List It) (i:Nat) {c:Int} {p:Nat},za1 s f round q l i=.error (c,p)→c≠0
 |0,l,i,c,p,h=>by unfold za1 at h;cases h
 |q+1,l,i,c,p,h=>by
  unfold za1 at h;split at h
  ·cases hm:zbC s f.letters (zbi f round l.length) (i+1) with
   |error e=>
    obtain⟨c',p'⟩:=e;rw[hm] at h;cases h;exact zku hm
   |ok mj=>
    obtain⟨m,j⟩:=mj;rw[hm] at h;exact zfz q _ j h
  ·cases h
theorem ze0 {s:ByteArray} {f:Fm} {round:Bool} {start i p:Nat} {c:Int} (h:zaF s f round start i=.error (c,p)):c≠0:=by
 rw[zdF] at h;unfold zhz at h;by_cases h1:¬isB s i 32=true
 ·rw[if_pos h1] at h;cases h;decide
 ·rw[if_neg h1] at h;cases hit:za1 s f round (s.size+1) [] i with
  |error e=>obtain⟨c',p'⟩:=e;rw[hit] at h;cases h;exact zfz _ _ _ hit
  |ok lj=>
   obtain⟨l,j'⟩:=lj;rw[hit] at h;simp only at h;split at h
   ·cases h;decide
   ·split at h
    ·cases h;decide
    ·cases h
theorem zbU {r:Except Nat Nat} {c:Int} {p:Nat} (h:zao r=.error (c,p)):c≠0:=by rw[zcw h];decide
theorem zi5 {s:ByteArray} {f:Fm} {i p:Nat} {c:Int} (h:zbF s f i=.error (c,p)):c≠0:=by
 by_cases hr:f.rounds=true
 ·unfold zbF at h;rw[if_pos hr] at h;cases h;decide
 ·have hr2:f.rounds=false:=by simpa using hr
  rw[zf3 hr2] at h;cases h1:zao (zal s ROUND i) with
  |error e=>obtain⟨c',p'⟩:=e;rw[h1] at h;cases h;exact zbU h1
  |ok a=>
   rw[h1] at h;simp only at h;unfold rK1 at h;cases h2:numP s 0 a with
   |error e=>obtain⟨c',p'⟩:=e;rw[h2] at h;cases h;exact zbI h2
   |ok lb=>
    obtain⟨least,b⟩:=lb;rw[h2] at h;simp only at h;unfold rK2 at h;cases h3:zao (zal s [32] b) with
    |error e=>obtain⟨c',p'⟩:=e;rw[h3] at h;cases h;exact zbU h3
    |ok c2=>
     rw[h3] at h;simp only at h;unfold rK3 at h;cases h4:numP s 0 c2 with
     |error e=>obtain⟨c',p'⟩:=e;rw[h4] at h;cases h;exact zbI h4
     |ok md=>
      obtain⟨most,d⟩:=md;rw[h4] at h;simp only at h;unfold rK4 at h;split at h
      ·cases h;decide
      ·cases h5:zao (zal s [32] d) with
       |error e=>obtain⟨c',p'⟩:=e;rw[h5] at h;cases h;exact zbU h5
       |ok g=>
        rw[h5] at h;simp only at h;unfold rK5 at h;cases h6:numP s 0 g with
        |error e=>obtain⟨c',p'⟩:=e;rw[h6] at h;cases h;exact zbI h6
        |ok sh=>
         obtain⟨shift,hh⟩:=sh;rw[h6] at h;simp only at h;unfold rK6 at h;cases h7:zaF s {f with least:=least,most:=most,shift:=shift} true i hh with
         |error e=>obtain⟨c',p'⟩:=e;rw[h7] at h;cases h;exact ze0 h7
         |ok fj=>obtain⟨f2,j2⟩:=fj;rw[h7] at h;cases h
theorem zi6 {s:ByteArray} {f:Fm} {i p:Nat} {c:Int} (hs:s.size≤65536) (h:zb9 s f i=.error (c,p)):c≠0:=by
 rw[zf6] at h;cases h1:zao (zal s METRE i) with
 |error e=>obtain⟨c',p'⟩:=e;rw[h1] at h;cases h;exact zbU h1
 |ok a=>
  rw[h1] at h;simp only at h;unfold mK1 at h;split at h
  ·cases h;decide
  ·unfold mK2 at h;split at h
   ·cases h;decide
   ·unfold mK3 at h;cases h2:zao (zal s [32] (a+1)) with
    |error e=>obtain⟨c',p'⟩:=e;rw[h2] at h;cases h;exact zbU h2
    |ok b=>
     rw[h2] at h;simp only at h;unfold mK4 at h;cases h3:zbd ⟨(cutB s b (zap s b)).toArray⟩ with
     |error e=>
      obtain⟨c',p'⟩:=e;rw[h3] at h;cases h;refine(zf2 ?_ h3).1;rw[←zhA,ByteArray.size_extract];omega
     |ok m=>rw[h3] at h;cases h
theorem zkv {s:ByteArray} {f:Fm} {t:Bool} {i p:Nat} {c:Int} (hs:s.size≤65536) (h:za3 s f t i=.error (c,p)):c≠0:=by
 unfold za3 at h;split at h
 ·cases h1:zao (zal s FORM i) with
  |error e=>obtain⟨c',p'⟩:=e;rw[h1] at h;cases h;exact zbU h1
  |ok a=>
   rw[h1] at h;simp only at h;split at h
   ·cases h;decide
   ·cases h
 ·split at h
  ·exact zi6 hs h
  ·split at h
   ·exact zi5 h
   ·cases h1:zao (zal s STANZA i) with
    |error e=>obtain⟨c',p'⟩:=e;rw[h1] at h;cases h;exact zbU h1
    |ok a=>rw[h1] at h;exact ze0 h
theorem zc2 {s:ByteArray} (hs:s.size≤65536):∀(q:Nat) (f:Fm) (t:Bool) (i:Nat) {c:Int} {p:Nat},zaK s q f t i=.error (c,p)→c≠0
 |0,f,t,i,c,p,h=>by unfold zaK at h;cases h
 |q+1,f,t,i,c,p,h=>by
  unfold zaK at h;split at h
  ·split at h
   ·cases h;decide
   ·cases h
  ·split at h
   ·exact zc2 hs q f t _ h
   ·split at h
    ·exact zc2 hs q f t _ h
    ·cases hl:za3 s f t i with
     |error e=>obtain⟨c',p'⟩:=e;rw[hl] at h;cases h;exact zkv hs hl
     |ok fj=>obtain⟨f',j⟩:=fj;rw[hl] at h;exact zc2 hs q f' true _ h
theorem zkw {s:ByteArray} {c:Int} {p:Nat} (h:zbO s=.error (c,p)):c≠0:=by
 unfold zbO at h;split at h
 ·cases h;decide
 ·exact zc2 (by omega) _ _ _ _ h
def zmO (s:ByteArray) (w:World) (e:Ending) (w':World):Prop:=Below w.heap.size w w'∧match zbO s with
 |.ok f=>∃fb vl vm vs F,e=.returned (.tuple #[.pointer (some ⟨fb,0,none⟩),RF.agg F,.bool true,.bool true])∧FmM w' w.heap.size fb f vl vm vs∧FmOk f s.size∧RFM w' w.heap.size f F
 |.error _=>e=.returned (.tuple #[.pointer none,RF0.agg,.bool false,.bool true])
theorem zhd {W:World} {T:Array Value} {Q:Ending→World→Prop} {P:Nat} {v0 v1 v2 v3 v4 v5 v6 v7 x y z:Value} (h2:T.getD 2 undef=x) (h3:T.getD 3 undef=.pointer (some ⟨P,0,none⟩)) (h4:T.getD 4 undef=y) (h5:T.getD 5 undef=z) (r:W.heap[P]?=some (.cells #[v0,v1,v2,v3,v4,v5,v6,v7] 29 (0,0))) (hQ:Q (.returned (.tuple #[x,.agg #[v0,v1,v2,v3,v4,v5,v6,v7],y,z])) W):
  bodyPost Tryz.prog Tryz.f14 Q Exit.ret {tmps:=T,defers:=[]} W:=by
 have d0:W.cell? ⟨P,0,none⟩=some v0:=qc _ _ _ _ _ (0,0) r;have d1:W.cell? ⟨P,1,none⟩=some v1:=qc _ _ _ _ _ (0,0) r;have d2:W.cell? ⟨P,2,none⟩=some v2:=qc _ _ _ _ _ (0,0) r;have d3:W.cell? ⟨P,3,none⟩=some v3:=qc _ _ _ _ _ (0,0) r;have d4:W.cell? ⟨P,4,none⟩=some v4:=qc _ _ _ _ _ (0,0) r;have d5:W.cell? ⟨P,5,none⟩=some v5:=qc _ _ _ _ _ (0,0) r;have d6:W.cell? ⟨P,6,none⟩=some v6:=qc _ _ _ _ _ (0,0) r;have d7:W.cell? ⟨P,7,none⟩=some v7:=qc _ _ _ _ _ (0,0) r;have h2':T[2]?.getD undef=x:=by simpa using h2
 have h3':T[3]?.getD undef=.pointer (some ⟨P,0,none⟩):=by simpa using h3
 have h4':T[4]?.getD undef=y:=by simpa using h4
 have h5':T[5]?.getD undef=z:=by simpa using h5
 refine bodyPost_ret (v:=.tuple #[x,.agg #[v0,v1,v2,v3,v4,v5,v6,v7],y,z]) ?_ rfl hQ;simp[results,Tryz.f14,go_sem,h2',h3',h4',h5',d0,d1,d2,d3,d4,d5,d6,d7,Tryz.isAgg29,Tryz.sizeOf29]
set_option maxRecDepth 100000 in
set_option maxHeartbeats 2000000 in
theorem zmB (s:ByteArray) (w:World) (hv:Vars w) (hs:s.size≤4611686018427387904):
  Calls Tryz.prog 14 #[.string s] w (zmO s w):=by
 have hbA:Below w.heap.size w (w.alloc (.cells #[.string ⟨#[]⟩,.slice none 0 0,.slice none 0 0,.slice none 0 0,.bool false,.int .i64 0,.int .i64 0,.int .i64 0] 29)):=(qb _ _).alloc (ql _) _;have hx:=qn w (.cells #[.string ⟨#[]⟩,.slice none 0 0,.slice none 0 0,.slice none 0 0,.bool false,.int .i64 0,.int .i64 0,.int .i64 0] 29);have Hr:=qh (zlf s _ (Vars.below hv hbA hv.six) hs);have Hv:=qh hv;have HbA:=qh hbA;have Hx:=qh hx;have h9:=hv.six;clear hv hbA hx;go_enter Tryz.func14,Tryz.ntmps14;go_wp2_with fail;generalize w.alloc (.cells #[.string ⟨#[]⟩,.slice none 0 0,.slice none 0 0,.slice none 0 0,.bool false,.int .i64 0,.int .i64 0,.int .i64 0] 29)=W1 at*;refine Hr.out.mono ?_;rintro e w2 ⟨hb2,hr2⟩;have hx2:=(hb2.block w.heap.size (qg Hx.out).1).trans Hx.out;have hbw2:Below w.heap.size w w2:=HbA.out.trans (hb2.mono HbA.out.size);cases hf:zbO s with
 |error cp=>
  obtain⟨c,p⟩:=cp;rw[hf] at hr2;subst hr2;have hagg:RF0.agg=.agg #[.string ⟨#[]⟩,.slice none 0 0,.slice none 0 0,.slice none 0 0,.bool false,.int .i64 0,.int .i64 0,.int .i64 0]:=rfl;rw[hagg];have y0:=qc _ _ 0 _ _ (0,0) hx2;have z0:=qf _ _ 0 _ _ hx2;have y1:=qc _ _ 1 _ _ (0,0) hx2;have z1:=qf _ _ 1 _ _ hx2;have y2:=qc _ _ 2 _ _ (0,0) hx2;have z2:=qf _ _ 2 _ _ hx2;have y3:=qc _ _ 3 _ _ (0,0) hx2;have z3:=qf _ _ 3 _ _ hx2;have y4:=qc _ _ 4 _ _ (0,0) hx2;have z4:=qf _ _ 4 _ _ hx2;have y5:=qc _ _ 5 _ _ (0,0) hx2;have z5:=qf _ _ 5 _ _ hx2;have y6:=qc _ _ 6 _ _ (0,0) hx2;have z6:=qf _ _ 6 _ _ hx2;have y7:=qc _ _ 7 _ _ (0,0) hx2;have z7:=qf _ _ 7 _ _ hx2;have hc:=zkw hf;have q0:(c !=0)=true:=by simpa using hc
  have hz:=zkq hx2 (.string ⟨#[]⟩) (.slice none 0 0) (.slice none 0 0) (.slice none 0 0) (.bool false) (.int .i64 0) (.int .i64 0) (.int .i64 0);have hbw3:=hbw2.trans (hz.2.below hbw2.size (fun k hk=>by simp at hk;omega));have Hfo:=qh (zf7 s _ (Vars.below Hv.out hbw3 h9) hs);have Hz:=qh hz;have Hbw3:=qh hbw3;have Hf:=qh hf;clear hagg hx2 hb2 hbw2 hf hc hz hbw3;go_wp2_with fail;generalize ((((((((w2.setCell ⟨w.heap.size,0,none⟩ (.string ⟨#[]⟩)).setCell ⟨w.heap.size,1,none⟩ (.slice none 0 0)).setCell ⟨w.heap.size,2,none⟩ (.slice none 0 0)).setCell ⟨w.heap.size,3,none⟩ (.slice none 0 0)).setCell ⟨w.heap.size,4,none⟩ (.bool false)).setCell ⟨w.heap.size,5,none⟩ (.int .i64 0)).setCell ⟨w.heap.size,6,none⟩ (.int .i64 0)).setCell ⟨w.heap.size,7,none⟩ (.int .i64 0))=W3 at*;refine Hfo.out.mono ?_;rintro e w4 ⟨hb4,hr4⟩;rw[Hf.out] at hr4;subst hr4;go_wp2_with fail;have hx5:(w4.alloc (.cells #[.int .i64 c,.int .i64 p] 87)).heap[w.heap.size]?=some (.cells #[.string ⟨#[]⟩,.slice none 0 0,.slice none 0 0,.slice none 0 0,.bool false,.int .i64 0,.int .i64 0,.int .i64 0] 29 (0,0)):=(qa _ _ _ (Nat.lt_of_lt_of_le (qg Hz.out.1).1 hb4.size)).trans ((hb4.block w.heap.size (qg Hz.out.1).1).trans Hz.out.1);have hs5:=qn w4 (.cells #[.int .i64 c,.int .i64 p] 87);have hbw5:Below w.heap.size w (w4.alloc (.cells #[.int .i64 c,.int .i64 p] 87)):=(Hbw3.out.trans (hb4.mono Hbw3.out.size)).alloc (by have:=Hbw3.out.size;have:=hb4.size;omega) _;have hne:w4.heap.size≠w.heap.size:=by have:=(qg Hz.out.1).1;have:=hb4.size;omega
  obtain⟨sb,hsb⟩:∃sb:Nat,w4.heap.size=sb:=⟨_,rfl⟩;rw[hsb] at hs5 hne⊢;generalize w4.alloc (.cells #[.int .i64 c,.int .i64 p] 87)=W5 at*;have s0:W5.cell? ⟨sb,0,none⟩=some (.int .i64 c):=qc _ _ 0 _ _ (0,0) hs5;have s1:W5.cell? ⟨sb,1,none⟩=some (.int .i64 p):=qc _ _ 1 _ _ (0,0) hs5;have u0:W5.cell? ⟨w.heap.size,0,none⟩=some (.string ⟨#[]⟩):=qc _ _ 0 _ _ (0,0) hx5;have v0:=qf _ _ 0 _ _ hx5;have u1:W5.cell? ⟨w.heap.size,1,none⟩=some (.slice none 0 0):=qc _ _ 1 _ _ (0,0) hx5;have v1:=qf _ _ 1 _ _ hx5;have u2:W5.cell? ⟨w.heap.size,2,none⟩=some (.slice none 0 0):=qc _ _ 2 _ _ (0,0) hx5;have v2:=qf _ _ 2 _ _ hx5;have u3:W5.cell? ⟨w.heap.size,3,none⟩=some (.slice none 0 0):=qc _ _ 3 _ _ (0,0) hx5;have v3:=qf _ _ 3 _ _ hx5;have u4:W5.cell? ⟨w.heap.size,4,none⟩=some (.bool false):=qc _ _ 4 _ _ (0,0) hx5;have v4:=qf _ _ 4 _ _ hx5;have u5:W5.cell? ⟨w.heap.size,5,none⟩=some (.int .i64 0):=qc _ _ 5 _ _ (0,0) hx5;have v5:=qf _ _ 5 _ _ hx5;have u6:W5.cell? ⟨w.heap.size,6,none⟩=some (.int .i64 0):=qc _ _ 6 _ _ (0,0) hx5;have v6:=qf _ _ 6 _ _ hx5;have u7:W5.cell? ⟨w.heap.size,7,none⟩=some (.int .i64 0):=qc _ _ 7 _ _ (0,0) hx5;have v7:=qf _ _ 7 _ _ hx5;have Hz5:=qh (zle hx5 (.string ⟨#[]⟩) (.slice none 0 0) (.slice none 0 0) (.slice none 0 0) (.bool false) (.int .i64 0) (.int .i64 0) (.int .i64 0));have Hbw5:=qh hbw5;clear hx5 hs5 hbw5 hb4 hsb y0 y1 y2 y3 y4 y5 y6 y7 z0 z1 z2 z3 z4 z5 z6 z7;go_region
  all_goals
   go_wp2_with fail;refine zhd rfl rfl rfl rfl Hz5.out.1 ⟨Hbw5.out.trans (Hz5.out.2.below Hbw5.out.size (fun k hk=>by simp at hk;omega)),?_⟩;rw[Hf.out];rfl
 |ok f=>
  rw[hf] at hr2;obtain⟨F,rfl,hfm⟩:=hr2;obtain⟨Al,cl,hvl⟩:=zab hfm.l;obtain⟨cs,hcs⟩:=hfm.m;obtain⟨Am,cm,hvm⟩:=zab hcs.o;obtain⟨Ar,cr,hvr⟩:=hfm.len;have hagg:RF.agg F=.agg #[.string ⟨f.name.toArray⟩,.slice Al f.letters.length cl,.slice Am f.metres.length cm,.slice Ar f.rows.length cr,.bool F.rd,.int .i64 F.a,.int .i64 F.b,.int .i64 F.c]:=by unfold RF.agg;rw[hfm.nm,hvl,hvm,hvr]
  have Hagg:=qh hagg;rw[hagg];have y0:=qc _ _ 0 _ _ (0,0) hx2;have z0:=qf _ _ 0 _ _ hx2;have y1:=qc _ _ 1 _ _ (0,0) hx2;have z1:=qf _ _ 1 _ _ hx2;have y2:=qc _ _ 2 _ _ (0,0) hx2;have z2:=qf _ _ 2 _ _ hx2;have y3:=qc _ _ 3 _ _ (0,0) hx2;have z3:=qf _ _ 3 _ _ hx2;have y4:=qc _ _ 4 _ _ (0,0) hx2;have z4:=qf _ _ 4 _ _ hx2;have y5:=qc _ _ 5 _ _ (0,0) hx2;have z5:=qf _ _ 5 _ _ hx2;have y6:=qc _ _ 6 _ _ (0,0) hx2;have z6:=qf _ _ 6 _ _ hx2;have y7:=qc _ _ 7 _ _ (0,0) hx2;have z7:=qf _ _ 7 _ _ hx2;have hz:=zkq hx2 (.string ⟨f.name.toArray⟩) (.slice Al f.letters.length cl) (.slice Am f.metres.length cm) (.slice Ar f.rows.length cr) (.bool F.rd) (.int .i64 F.a) (.int .i64 F.b) (.int .i64 F.c);have hbw3:=hbw2.trans (hz.2.below hbw2.size (fun k hk=>by simp at hk;omega));have hlw:=HbA.out.size;have hf3:RFM ((((((((w2.setCell ⟨w.heap.size,0,none⟩ (.string ⟨f.name.toArray⟩)).setCell ⟨w.heap.size,1,none⟩ (.slice Al f.letters.length cl)).setCell ⟨w.heap.size,2,none⟩ (.slice Am f.metres.length cm)).setCell ⟨w.heap.size,3,none⟩ (.slice Ar f.rows.length cr)).setCell ⟨w.heap.size,4,none⟩ (.bool F.rd)).setCell ⟨w.heap.size,5,none⟩ (.int .i64 F.a)).setCell ⟨w.heap.size,6,none⟩ (.int .i64 F.b)).setCell ⟨w.heap.size,7,none⟩ (.int .i64 F.c)) w.heap.size f F:=(hfm.off hz.2 (TyAt.one hx2) (by simp)).mono hlw;have Hfo:=qh (zf7 s _ (Vars.below Hv.out hbw3 h9) hs);have Hz:=qh hz;have Hbw3:=qh hbw3;have Hf3:=qh hf3;have Hf:=qh hf;clear hagg hx2 hb2 hbw2 hf hz hbw3 hfm hf3 hcs hvl hvm hvr hlw;go_wp2_with fail;generalize ((((((((w2.setCell ⟨w.heap.size,0,none⟩ (.string ⟨f.name.toArray⟩)).setCell ⟨w.heap.size,1,none⟩ (.slice Al f.letters.length cl)).setCell ⟨w.heap.size,2,none⟩ (.slice Am f.metres.length cm)).setCell ⟨w.heap.size,3,none⟩ (.slice Ar f.rows.length cr)).setCell ⟨w.heap.size,4,none⟩ (.bool F.rd)).setCell ⟨w.heap.size,5,none⟩ (.int .i64 F.a)).setCell ⟨w.heap.size,6,none⟩ (.int .i64 F.b)).setCell ⟨w.heap.size,7,none⟩ (.int .i64 F.c))=W3 at*;refine Hfo.out.mono ?_;rintro e w4 ⟨hb4,hr4⟩;rw[Hf.out] at hr4;obtain⟨fb,vl,vm,vs,rfl,hfm4,hk4⟩:=hr4;have Hfm4:=qh hfm4;have Hk4:=qh hk4;clear hfm4 hk4;go_wp2_with fail;have hx5:(w4.alloc (.cells #[.int .i64 0,.int .i64 0] 87)).heap[w.heap.size]?=some (.cells #[.string ⟨f.name.toArray⟩,.slice Al f.letters.length cl,.slice Am f.metres.length cm,.slice Ar f.rows.length cr,.bool F.rd,.int .i64 F.a,.int .i64 F.b,.int .i64 F.c] 29 (0,0)):=(qa _ _ _ (Nat.lt_of_lt_of_le (qg Hz.out.1).1 hb4.size)).trans ((hb4.block w.heap.size (qg Hz.out.1).1).trans Hz.out.1);have hs5:=qn w4 (.cells #[.int .i64 0,.int .i64 0] 87);have hbw5:Below w.heap.size w (w4.alloc (.cells #[.int .i64 0,.int .i64 0] 87)):=(Hbw3.out.trans (hb4.mono Hbw3.out.size)).alloc (by have:=Hbw3.out.size;have:=hb4.size;omega) _;have hne:w4.heap.size≠w.heap.size:=by have:=(qg Hz.out.1).1;have:=hb4.size;omega
  have hm5:=Hfm4.out.below ((qb w4.heap.size w4).alloc (ql _) (.cells #[.int .i64 0,.int .i64 0] 87));have hf5:=(Hf3.out.below hb4).below ((qb w4.heap.size w4).alloc (ql _) (.cells #[.int .i64 0,.int .i64 0] 87));obtain⟨sb,hsb⟩:∃sb:Nat,w4.heap.size=sb:=⟨_,rfl⟩;rw[hsb] at hs5 hne⊢;generalize w4.alloc (.cells #[.int .i64 0,.int .i64 0] 87)=W5 at*;have s0:W5.cell? ⟨sb,0,none⟩=some (.int .i64 0):=qc _ _ 0 _ _ (0,0) hs5;have s1:W5.cell? ⟨sb,1,none⟩=some (.int .i64 0):=qc _ _ 1 _ _ (0,0) hs5;have u0:W5.cell? ⟨w.heap.size,0,none⟩=some (.string ⟨f.name.toArray⟩):=qc _ _ 0 _ _ (0,0) hx5;have v0:=qf _ _ 0 _ _ hx5;have u1:W5.cell? ⟨w.heap.size,1,none⟩=some (.slice Al f.letters.length cl):=qc _ _ 1 _ _ (0,0) hx5;have v1:=qf _ _ 1 _ _ hx5;have u2:W5.cell? ⟨w.heap.size,2,none⟩=some (.slice Am f.metres.length cm):=qc _ _ 2 _ _ (0,0) hx5;have v2:=qf _ _ 2 _ _ hx5;have u3:W5.cell? ⟨w.heap.size,3,none⟩=some (.slice Ar f.rows.length cr):=qc _ _ 3 _ _ (0,0) hx5;have v3:=qf _ _ 3 _ _ hx5;have u4:W5.cell? ⟨w.heap.size,4,none⟩=some (.bool F.rd):=qc _ _ 4 _ _ (0,0) hx5;have v4:=qf _ _ 4 _ _ hx5;have u5:W5.cell? ⟨w.heap.size,5,none⟩=some (.int .i64 F.a):=qc _ _ 5 _ _ (0,0) hx5;have v5:=qf _ _ 5 _ _ hx5;have u6:W5.cell? ⟨w.heap.size,6,none⟩=some (.int .i64 F.b):=qc _ _ 6 _ _ (0,0) hx5;have v6:=qf _ _ 6 _ _ hx5;have u7:W5.cell? ⟨w.heap.size,7,none⟩=some (.int .i64 F.c):=qc _ _ 7 _ _ (0,0) hx5;have v7:=qf _ _ 7 _ _ hx5;have hz5:=zle hx5 (.string ⟨f.name.toArray⟩) (.slice Al f.letters.length cl) (.slice Am f.metres.length cm) (.slice Ar f.rows.length cr) (.bool F.rd) (.int .i64 F.a) (.int .i64 F.b) (.int .i64 F.c);have Hz5:=qh hz5;have Hbw5:=qh hbw5;have Hm6:=qh ((hm5.offLow hz5.2 (fun k hk=>by simp at hk;have:=(qg Hz.out.1).1;omega)).mono (C:=w.heap.size) Hbw3.out.size);have Hf6:=qh (hf5.off hz5.2 (TyAt.one hx5) (by simp));clear hx5 hs5 hbw5 hb4 hsb y0 y1 y2 y3 y4 y5 y6 y7 z0 z1 z2 z3 z4 z5 z6 z7 hm5 hf5 hz5;go_region
  all_goals
   go_wp2_with fail;refine zhd rfl rfl rfl rfl Hz5.out.1 ⟨Hbw5.out.trans (Hz5.out.2.below Hbw5.out.size (fun k hk=>by simp at hk;omega)),?_⟩;rw[Hf.out];exact⟨fb,vl,vm,vs,F,by rw[Hagg.out];rfl,Hm6.out,Hk4.out,Hf6.out⟩

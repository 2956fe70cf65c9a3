import Derived.Test.YtgklikkddckgbaaGreatDoorKYE
import Derived.Test.YtgklikkddckgbaaGreatDoorKZM
import Derived.Deep.CutRange
import Derived.Deep.RegionHeld3
import Derived.Laws.Cover1
/- Lemmas. -/
set_option linter.all false
set_option maxRecDepth 100000
set_option maxHeartbeats 8000000
namespace Go.Proofs.YtgklikkddckgbaaGreatDoor.Mo
open Go.RowKit
theorem zpx (fb:Nat) (x:ByteArray) (w:World) (hc:w.cell? ⟨fb,0,none⟩=some (.string x)):
    Calls Tryz.prog 31 #[.pointer (some ⟨fb,0,none⟩)] w λe w'=>e=.returned (.string x)/\w=w':=by
  go_enter Tryz.func31,Tryz.ntmps31;go_wp2_with fail;go_ret;exact⟨rfl,rfl⟩
theorem zo4 (w:World):Calls Tryz.prog 32 #[] w λe w'=>e=.returned (.func (.func 56) #[] #[])/\w=w':=by
  go_enter Tryz.func32,Tryz.ntmps32;go_wp2_with fail;go_ret;exact⟨rfl,rfl⟩
theorem gb:QS.length=13:=rfl
theorem zo5:∀i:Nat,i<13->(Kb.getD i ([],[])).1=Qr i:=by decide+kernel
theorem znK:∀i:Nat,i<13->yX (Qr i)=(Kb.getD i ([],[])).2:=by decide+kernel
theorem zo6:∀i:Nat,i<13->((yX (Qr i)).length==0)=false:=by decide+kernel
theorem zo7 (l:List UInt8):(∃i,i<13/\l=Qr i)∨(vu l=[]/\yX l=[]):=by
  by_cases h:∃i,i<13/\l=Qr i
  · exact .inl h
  · refine .inr ⟨znb λp hp=>?_,znG λp hp=>?_⟩
    · obtain⟨i,hi,e⟩:=jA hp
      rw[gb] at hi
      have e2:p.1=Qr i:=by
        unfold Qr;rw[qj,qA (by rw[gb];exact hi),e];rfl
      have:¬p.1=l:=λe3=>h ⟨i,hi,by rw[<-e3,e2]⟩;simpa using this
    · obtain⟨i,hi,e⟩:=jA hp
      have hl:Kb.length=13:=rfl;rw[hl] at hi
      have e2:p.1=Qr i:=by
        rw[<-zo5 i hi,qj,qA (by rw[hl];exact hi),e];rfl
      have:¬p.1=l:=λe3=>h ⟨i,hi,by rw[<-e3,e2]⟩;simpa using this
theorem uP {i:Nat} (hi:i<13):(yX (Qr i)).length<=4000/\(∃f,Q2 ⟨(yX (Qr i)).toArray⟩=.ok f)/\∀f,Q2 ⟨(yX (Qr i)).toArray⟩=.ok f->f.name=Qr i:=by
  have h:=zom i hi;unfold ofB at h;simp only[qz,qC,jw] at h;obtain⟨⟨⟨⟨⟨⟨⟨⟨h1,h2⟩,h3⟩,h4⟩,h5⟩,h6⟩,h9⟩,h7⟩,h8⟩:=h;rw[znK i hi];refine⟨h6,?_,λf hf=>?_⟩
  · cases hf:Q2 ⟨(Kb.getD i ([],[])).2.toArray⟩ with
    |error e=>rw[hf] at h8;cases h8
    |ok f=>exact⟨f,rfl⟩
  · rw[hf] at h8
    exact jw.1 h8
theorem ztb {i:Nat} (hi:i<13) (w:World) (hv:Vars w) (hm:Xf w):Calls Tryz.prog 20 #[.string ⟨(Qr i).toArray⟩] w (zsI ⟨(yX (Qr i)).toArray⟩ w):=by
  have h:=zpt (zom i hi) w hv hm;rw[znK i hi];exact h
def zsK (w:World) (e:Exit) (a:Act) (W:World):Prop:=
  match e with
  |.ret=>a.tmps.getD 4 undef=.pointer (some ⟨w.heap.size+1,0,none⟩)/\W.cell? ⟨w.heap.size+1,0,none⟩=some (.bool true)/\Below w.heap.size w W/\
      ∃D,a.defers=[{target:=.collected D,args:=#[]}]/\w.heap.size+2<=D/\W.heap[D]?=some (.deferred (some []))
  |_=>False
attribute [local go_sem] kN
theorem zpy (f:Nat->Value):#[f 0,f 1,f 2,f 3,f 4,f 5,f 6,f 7,f 8,f 9,f 10,f 11,f 12,f 13,f 14,f 15,f 16,f 17,f 18,f 19,f 20,f 21,f 22,f 23,f 24,f 25,f 26,f 27,f 28,f 29,f 30,f 31,f 32,f 33,f 34,f 35,f 36,f 37,f 38,f 39,f 40,f 41,f 42,f 43,f 44,f 45,f 46,f 47,f 48,f 49,f 50,f 51,f 52,f 53,f 54,f 55,f 56,f 57,f 58,f 59,f 60,f 61,f 62,f 63,f 64,f 65,f 66,f 67,f 68,f 69,f 70,f 71,f 72,f 73,f 74,f 75,f 76,f 77,f 78,f 79,f 80,f 81,f 82]=((List.range 83).map f).toArray:=rfl
theorem zoy (t:Array Value) (h:t.size=83):t=((List.range 83).map λn=>t.getD n undef).toArray:=by
  apply Array.ext
  · simp[h]
  · intro i h1 h2
    simp[Array.getD,h1]
def FrH (B cb x:Nat) (a:Act):Prop:=∃f:Nat->Value,a={tmps:=#[f 0,f 1,f 2,.pointer (some ⟨B,0,none⟩),.pointer (some ⟨B+1,0,none⟩),f 5,f 6,f 7,f 8,f 9,f 10,.pointer (some ⟨cb,0,none⟩),.pointer (some ⟨cb+1,0,none⟩),.string ⟨(Qr x).toArray⟩,f 14,f 15,f 16,f 17,f 18,f 19,f 20,f 21,f 22,f 23,f 24,f 25,f 26,f 27,f 28,f 29,f 30,f 31,f 32,f 33,f 34,f 35,f 36,f 37,f 38,f 39,f 40,f 41,f 42,f 43,f 44,f 45,f 46,f 47,f 48,f 49,f 50,f 51,f 52,f 53,f 54,f 55,f 56,f 57,f 58,f 59,f 60,f 61,f 62,f 63,f 64,f 65,f 66,f 67,f 68,f 69,f 70,f 71,f 72,f 73,f 74,f 75,f 76,f 77,f 78,f 79,f 80,f 81,f 82],defers:=[]}
theorem FrH.of {B cb x:Nat} {a:Act} (hd:a.defers=[]) (hs:a.tmps.size=83) (h3:a.tmps.getD 3 undef=.pointer (some ⟨B,0,none⟩)) (h4:a.tmps.getD 4 undef=.pointer (some ⟨B+1,0,none⟩)) (h11:a.tmps.getD 11 undef=.pointer (some ⟨cb,0,none⟩)) (h12:a.tmps.getD 12 undef=.pointer (some ⟨cb+1,0,none⟩)) (h13:a.tmps.getD 13 undef=.string ⟨(Qr x).toArray⟩):FrH B cb x a:=by
  refine⟨λn=>a.tmps.getD n undef,?_⟩;have e:=(zoy a.tmps hs).trans (zpy λn=>a.tmps.getD n undef).symm;obtain⟨t,d⟩:=a;simp only[] at*;rw[h3,h4,h11,h12,h13] at e;rw[hd,<-e]
theorem mxOn {w w':World} {B:Nat} (h:Xf w) (hb:Below B w w') (hB:9<=B):Xf w':=by
  obtain⟨m,hm⟩:=h;exact⟨m,(qw (hb.block 0 (by omega))).trans hm⟩
theorem zmY {A W2 W3:World} (h:Below A.heap.size A W2) (h2:Below W2.heap.size W2 W3):Below A.heap.size A W3:=h.trans (h2.mono h.size)
theorem zmZ {w w':World} {b:Nat} {o:Obj} (h:w.heap[b]?=some o) (hb:Below w.heap.size w w'):w'.heap[b]?=some o:=(hb.block b (qg h).1).trans h
theorem zpz (x:Nat):(Qr x).length<=100:=by
  by_cases h:x<13
  · have:∀i:Nat,i<13->(Qr i).length<=100:=by decide+kernel
    exact this x h
  · unfold Qr
    rw[qj,List.getElem?_eq_none (by rw[gb];omega)];exact qH _
def gu (pre:List Nat):ByteArray:=match pre.getLast? with
  |none=>⟨#[]⟩
  |some x=>⟨(Qr x).toArray⟩
theorem zn6 (pre:List Nat) (x:Nat):gu (pre++[x])=⟨(Qr x).toArray⟩:=by simp[gu]
def znL (p:List Nat) (x:Nat):Bool:=(Op.bytesLess (⟨(Qr x).toArray⟩:ByteArray).toList (gu p).toList||(⟨(Qr x).toArray⟩:ByteArray).toList==(gu p).toList)||(⟨(yX (Qr x)).toArray⟩:ByteArray).toList.isEmpty
def zsL (p:List Nat) (x:Nat):Bool:=(Op.bytesLess (Qr x) (match p.getLast? with|none=>[]|some y=>Qr y)||Qr x==(match p.getLast? with|none=>[]|some y=>Qr y))||(yX (Qr x)).isEmpty
theorem bad_eq (p:List Nat) (x:Nat):znL p x=zsL p x:=by
  unfold znL zsL gu;have e:∀l:List UInt8,(⟨l.toArray⟩:ByteArray).toList=l:=λl=>by rw[qL]
  cases p.getLast?<;>simp[e]<;>rfl
theorem zsM:∀m:Nat,m<13->zsL (List.range m) m=false:=by decide+kernel
structure HI (W4:World) (pre:List Nat) (V:World):Prop where
  b:Below W4.heap.size W4 V
  i:V.heap[W4.heap.size]?=some (.cells #[.int .i64 (pre.length:Int)] 3 (0,0))
  l:V.heap[W4.heap.size+1]?=some (.cells #[.string (gu pre)] 9 (0,0))
theorem OfU (t:ByteArray) (w:World) (hv:Vars w) (hm:Xf w):
    Calls Tryz.prog 20 #[.string t] w λe w'=>Below w.heap.size w w'/\∃v n,e=.returned (.tuple #[v,.int .i64 n])/\
      ((∃i,i<13/\t=⟨(Qr i).toArray⟩/\∃f fb vl vm vs,Q2 ⟨(yX t.data.toList).toArray⟩=.ok f/\v=.pointer (some ⟨fb,0,none⟩)/\n=0/\px w' w.heap.size fb f vl vm vs/\pb f (⟨(yX t.data.toList).toArray⟩:ByteArray).size)∨(yX t.data.toList=[]/\v=.pointer none/\n=4)):=by
  rcases zo7 t.data.toList with⟨i,hi,e⟩|⟨h1,h2⟩
  · have ht:t=⟨(Qr i).toArray⟩:=vp e
    rw[e];subst ht;refine(ztb hi w hv hm).mono ?_;rintro e w' ⟨hb,f,fb,vl,vm,vs,hf,rfl,hF,hk⟩;exact⟨hb,_,_,rfl,.inl ⟨i,hi,rfl,f,fb,vl,vm,vs,hf,rfl,rfl,hF,hk⟩⟩
  · refine(zpu t w h1).mono ?_
    rintro e w' ⟨rfl,rfl⟩;exact⟨qb _ _,_,_,rfl,.inr ⟨h2,rfl,rfl⟩⟩
structure Twin (w:World) (t:ByteArray) (fb:Nat) (F:RF) (T:ByteArray):Prop where
  p:∀W,Below w.heap.size w W->Calls Tryz.prog 29 #[.pointer (some ⟨fb,0,none⟩)] W λe w'=>e=.returned (.string T)/\Below W.heap.size W w'
  r:∀W,Below w.heap.size w W->Calls Tryz.prog 30 #[RF.agg F] W λe w'=>e=.returned (.string T)/\Below W.heap.size W w'
  n:∀W,Below w.heap.size w W->Calls Tryz.prog 31 #[.pointer (some ⟨fb,0,none⟩)] W λe w'=>e=.returned (.string t)/\Below W.heap.size W w'
theorem twin {i:Nat} (hi:i<13) {S:ByteArray} (hS:S=⟨(yX (Qr i)).toArray⟩) {f:Fm} (hf:Q2 S=.ok f) {B fb:Nat} {vl vm vs:Value} {C:Nat} {F:RF} (w:World) (hv:Vars w) (h9:9<=w.heap.size) (hF:px w B fb f vl vm vs) (hR:pU w C f F) (hk:pb f S.size):
    ∃T,Twin w ⟨(Qr i).toArray⟩ fb F T:=by
  have hsz:S.size<=65536:=by
    rw[hS];have:=(uP hi).1;show Array.size _<=_;simp;omega
  have hnm:=(zpd hf).1;have hl:=zoL hf;have hname:f.name=Qr i:=(uP hi).2.2 f (by rw[<-hS];exact hf);refine⟨⟨(znR f).toArray⟩,λW hW=>?_,λW hW=>?_,λW hW=>?_⟩
  · refine(zog B fb f vl vm vs S.size S W (Vars.below hv hW h9) (hF.below hW) hk hsz hnm hsz).mono ?_
    rintro e w' ⟨T,rfl,hT,hb⟩;rw[vp hT];exact⟨rfl,hb⟩
  · refine(zoj C f F S.size S W (Vars.below hv hW h9) (hR.below hW) hk hsz hl hnm hsz).mono ?_
    rintro e w' ⟨T,rfl,hT,hb⟩;rw[vp hT];exact⟨rfl,hb⟩
  · refine(zpx fb ⟨(Qr i).toArray⟩ W ?_).mono ?_
    · have:=qc _ _ 0 _ _ (0,0) (hF.below hW).x
      rw[<-hname];exact this
    · rintro e w' ⟨rfl,rfl⟩
      exact⟨rfl,qb _ _⟩
theorem VO (t:ByteArray) (stop:Int) (w:World) (hv:Vars w) (hm:Xf w) (hs:t.size<=4611686018427387904):
    Calls Tryz.prog 8 #[.string t,.int .i64 stop] w λe w'=>e=.returned (.bool true)/\Below w.heap.size w w':=by
  have h9:=hv.six;obtain⟨W1,hW1⟩:∃W1,(w.alloc (.cells #[.int .i64 stop] 3)).alloc (.cells #[.bool false] 4)=W1:=⟨_,rfl⟩;have hb1:Below w.heap.size w W1:=by rw[<-hW1];exact((qb _ _).alloc (ql _) _).alloc (by simp) _
  have hS1:W1.heap[w.heap.size]?=some (.cells #[.int .i64 stop] 3 (0,0)):=by rw[<-hW1];exact(qa _ _ _ (by simp)).trans (qn w _)
  have hR1:W1.heap[w.heap.size+1]?=some (.cells #[.bool false] 4 (0,0)):=by
   rw[<-hW1];have:=qn (w.alloc (.cells #[.int .i64 stop] 3)) (.cells #[.bool false] 4);rw[qO] at this;exact this
  have Hwk:=qh (zmA W1 (Vars.below hv hb1 h9) (mxOn hm hb1 h9));have HW1:=qh hW1;have Hb1:=qh hb1;have HS1:=qh hS1;have HR1:=qh hR1;have Hv:=qh hv;have Hm:=qh hm;clear hW1 hb1 hS1 hR1 hv hm;refine(xr (n:=6)).1 ?_;refine xJ Tryz.func8 rfl trivial ?_ rfl;simp only[Tryz.ntmps8,jo,qB,qE,Nat.reduceAdd,Nat.reduceSub,kP,kQ,jn,kY,kx,zO];refine wpIn_wide.2 (zY (Q:=zsK w) ?_ ?_)
  · rintro e a W hq
    cases e<;>try exact hq.elim
    obtain⟨h4,hc,hb,D,hd,hD,hK⟩:=hq;obtain⟨T,df⟩:=a;simp only[] at hd h4;subst hd;have h4':T[4]?.getD undef=.pointer (some ⟨w.heap.size+1,0,none⟩):=by simpa using h4
    have hc':(W.putObj D (.deferred none)).cell? ⟨w.heap.size+1,0,none⟩=some (.bool true):=
      (qw (by exact qU (by show w.heap.size+1≠D;omega))).trans hc
    refine⟨by simp,.inl ⟨_,_,rfl,jy hK,?_⟩⟩;refine⟨_,?_,rfl,?_⟩
    · simp[results,Tryz.f8,go_sem,h4',hc']
    · exact⟨hb.os,hb.tape,hb.output,by rw[World.putObj_size];exact hb.size,λk hk=>(qU (by omega)).trans (hb.block k hk)⟩
  go_wp2_with fail;rw[HW1.out];refine Hwk.out.mono ?_;rintro e w2 ⟨rfl,hb2⟩;have Hb2:=qh (Hb1.out.trans (hb2.mono Hb1.out.size));have HS2:=qh (zmZ HS1.out hb2);have HR2:=qh (zmZ HR1.out hb2);have Jg:=qh (OfU t w2 (Vars.below Hv.out Hb2.out h9) (mxOn Hm.out Hb2.out h9));clear hb2;go_wp2_with fail;refine Jg.out.mono ?_;rintro e w3 ⟨hb3,v,n,rfl,hcs⟩;have Hb3:=qh (zmY Hb2.out hb3);have HS3:=qh (zmZ HS2.out hb3);have HR3:=qh (zmZ HR2.out hb3);have YS:=qh (znH t w3 hs);have Hcs:=qh hcs;clear hb3 hcs;generalize hTT:(⟨(yX t.data.toList).toArray⟩:ByteArray)=TT at*;have HTT:=qh hTT;clear hTT;go_wp2_with fail;refine YS.out.mono ?_;rintro e w4 ⟨rfl,rfl⟩;go_upto_if 24 with(fail)
  go_cut [] from 24 to 59 (λwx=>Hid (Below w.heap.size w wx/\wx.heap[w.heap.size]?=some (.cells #[.int .i64 stop] 3 (0,0))/\wx.heap[w.heap.size+1]?=some (.cells #[.bool false] 4 (0,0))))
  case first=>
   rcases Hcs.out with⟨i,hi,ht,f,fb,vl,vm,vs,hf,rfl,rfl,hF,hk⟩|⟨h0,rfl,rfl⟩
   · have hT0:TT.toList.isEmpty=false:=by
       have h:=zo6 i hi;have e:t.data.toList=Qr i:=(by rw[ht]);rw[<-HTT.out,e,qL];cases hh:yX (Qr i) with
       |nil=>rw[hh] at h;cases h
       |cons a l=>rfl
     rw[hT0];clear hT0
     have hrr:=zlf TT w3 (Vars.below Hv.out Hb3.out h9) (by
       have:=(uP hi).1;have e:t.data.toList=Qr i:=(by rw[ht]);rw[<-HTT.out,e];show Array.size _<=_;simp;omega)
     unfold zmN at hrr;rw[hf] at hrr;have Hrr:=qh hrr;have HF:=qh hF;have Hk:=qh hk;have Hf:=qh hf;have Ht:=qh ht;clear hrr hF hk hf ht;go_wp2_with fail;refine Hrr.out.mono ?_;rintro e w5 ⟨hb5,F,rfl,hR⟩;have hHF5:=HF.out.below hb5;obtain⟨T,hTw⟩:=twin hi (S:=TT) (by rw[<-HTT.out,Ht.out]) Hf.out w5 (Vars.below Hv.out (zmY Hb3.out hb5) h9) (by have:=Hb3.out.size;have:=hb5.size;omega) hHF5 hR Hk.out;obtain⟨Al,cl,hvl⟩:=pR hR.l;obtain⟨cs,hcs⟩:=hR.m;obtain⟨Am,cm,YC⟩:=pR hcs.o;obtain⟨Ar,cr,Za⟩:=hR.len;have hagg:RF.agg F=.agg #[.string ⟨f.name.toArray⟩,.slice Al f.gC.length cl,.slice Am f.gF.length cm,.slice Ar f.rows.length cr,.bool F.rd,.int .i64 f.least,.int .i64 f.most,.int .i64 f.shift]:=(by unfold RF.agg;rw[hR.nm,hvl,YC,Za,hR.a,hR.b,hR.c]);rw[hagg];have hr2:=hTw.r;rw[hagg] at hr2;have Hr2:=qh hr2;have Hb5:=qh (zmY Hb3.out hb5);have HS5:=qh (zmZ HS3.out hb5);have HR5:=qh (zmZ HR3.out hb5);have Hp2:=qh hTw.p;have ZO:=qh hTw.n;rw[<-Ht.out] at ZO;clear hr2 hTw hagg hvl hcs YC Za hR hHF5 hb5 HTT;obtain⟨W6,Jd⟩:∃W6,w5.alloc (.cells #[.string ⟨f.name.toArray⟩,.slice Al f.gC.length cl,.slice Am f.gF.length cm,.slice Ar f.rows.length cr,.bool F.rd,.int .i64 f.least,.int .i64 f.most,.int .i64 f.shift] 29)=W6:=⟨_,rfl⟩;have hb6:Below w5.heap.size w5 W6:=(by rw[<-Jd];exact(qb _ _).alloc (ql _) _);have hx6:W6.heap[w5.heap.size]?=some (.cells #[.string ⟨f.name.toArray⟩,.slice Al f.gC.length cl,.slice Am f.gF.length cm,.slice Ar f.rows.length cr,.bool F.rd,.int .i64 f.least,.int .i64 f.most,.int .i64 f.shift] 29 (0,0)):=(by rw[<-Jd];exact qn w5 _);have hl6:w5.heap.size<W6.heap.size:=(qg hx6).1;have q0:=qc _ _ 0 _ _ (0,0) hx6;have q1:=qc _ _ 1 _ _ (0,0) hx6;have q2:=qc _ _ 2 _ _ (0,0) hx6;have q3:=qc _ _ 3 _ _ (0,0) hx6;have q4:=qc _ _ 4 _ _ (0,0) hx6;have q5:=qc _ _ 5 _ _ (0,0) hx6;have q6:=qc _ _ 6 _ _ (0,0) hx6;have q7:=qc _ _ 7 _ _ (0,0) hx6;have Hp6:=qh (λW (h:Below W6.heap.size W6 W)=>Hp2.out W (zmY hb6 h));have Hr6:=qh (λW (h:Below W6.heap.size W6 W)=>Hr2.out W (zmY hb6 h));have Hn6:=qh (λW (h:Below W6.heap.size W6 W)=>ZO.out W (zmY hb6 h));have Hb6:=qh (zmY Hb5.out hb6);have HS6:=qh (zmZ HS5.out hb6);have HR6:=qh (zmZ HR5.out hb6);have HW6:=qh Jd;have hq1:(T.toList !=T.toList)=false:=(by simp);have hq2:(t.toList !=t.toList)=false:=(by simp);have hq3:(T.toList==T.toList)=true:=(by simp);have hq4:(t.toList==t.toList)=true:=(by simp);clear hb6 hx6 Jd Hp2 Hr2 ZO;go_wp2_with fail;rw[HW6.out];go_region_held3 (λw'=>Below W6.heap.size W6 w'/\∀b o,b<W6.heap.size->w'.cell? ⟨b,o,none⟩=W6.cell? ⟨b,o,none⟩) (((repeat (apply Xr;assumption));exact gS)) (first|(go_at_call 29;refine(Hp6.out _ (by first|exact gS.1|exact zg (by assumption))).mono ?_;rintro e w9 ⟨rfl,gQ⟩)|(go_at_call 30;refine(Hr6.out _ (by first|exact gS.1|exact zg (by assumption))).mono ?_;rintro e w9 ⟨rfl,gQ⟩)|(go_at_call 31;refine(Hn6.out _ (by first|exact gS.1|exact zg (by assumption))).mono ?_;rintro e w9 ⟨rfl,gQ⟩))
     all_goals
       rename_i hHeld;have hS:=hHeld.1;have HX:=qh (qV (zmY Hb6.out hS) (qV (zmZ HS6.out hS) (zmZ HR6.out hS)));clear hHeld hS q0 q1 q2 q3 q4 q5 q6 q7;go_wp2_with fail;go_meet
       exact HX
   · have hT0:TT.toList.isEmpty=true:=by rw[<-HTT.out,h0,qL];rfl
     rw[hT0];have HX:=qh (qV Hb3.out (qV HS3.out HR3.out));go_wp2_with fail;go_meet
     exact HX
  case rest=>
  obtain⟨hbc,hsc,hrc⟩:=hcut.out;have Hbc:=qh hbc;have Xs:=qh hsc;have Hrc:=qh hrc;clear hbc hsc hrc;obtain⟨W5,Ql⟩:∃W5,(wc.alloc (.cells #[.int .i64 0] 3)).alloc (.cells #[.string ⟨#[]⟩] 9)=W5:=⟨_,rfl⟩;have s5:W5.heap.size=wc.heap.size+2:=by rw[<-Ql];simp
  have hi0:HI wc [] W5:=by
   refine⟨?_,?_,?_⟩
   · rw[<-Ql];exact((qb _ _).alloc (ql _) _).alloc (by simp) _
   · rw[<-Ql];exact(qa _ _ _ (by simp)).trans (qn wc _)
   · rw[<-Ql]
     have:=qn (wc.alloc (.cells #[.int .i64 0] 3)) (.cells #[.string ⟨#[]⟩] 9);rw[qO] at this;exact this
  have HW5:=qh Ql;have Hi0:=qh hi0;clear Ql hi0;have hzc:=(qg Hrc.out).1;go_wp2_with fail;refine(zo4 _).mono ?_;rintro e w7 ⟨rfl,rfl⟩;rw[HW5.out];go_wp2_with fail
  refine wpIn_wide.1 (zje (F:=Fence.wide) (n:=6) (gf:=56) (lb:=#[]) rfl (by decide) rfl trivial (enters_of Tryz.func56 (by kernel_rfl) rfl) (zox Fence.wide (6-1) trivial rfl (by omega) W5) (λ_=>rfl)
    (λpre V=>HI wc pre V) (λc pre V=>(c=.ret/\∃p x,pre=p++[x]/\znL p x=true)∨(c=.exit 0/\HI wc pre V/\(pre.length:Int)=stop)) ?hI ?hIx Hi0.out (λx a' _=>FrH w.heap.size wc.heap.size x a') ?assign ?body ?hAx ?done ?stop)
  case hI=>
   rintro s A A' row ⟨h1,h2,h3⟩ hg hr;exact⟨h1.grown hg h1.size (λr e=>by have:=hr r e;omega),(hg.block _ (qg h2).1 (λe=>by have:=hr _ e.symm;omega)).trans h2,(hg.block _ (qg h3).1 (λe=>by have:=hr _ e.symm;omega)).trans h3⟩
  case hIx=>
   rintro c s A A' row (h|⟨h0,⟨h1,h2,h3⟩,h4⟩) hg hr
   · exact .inl h
   · exact .inr ⟨h0,⟨h1.grown hg h1.size (λr e=>by have:=hr r e;omega),(hg.block _ (qg h2).1 (λe=>by have:=hr _ e.symm;omega)).trans h2,(hg.block _ (qg h3).1 (λe=>by have:=hr _ e.symm;omega)).trans h3⟩,h4⟩
  case hAx=>exact λ_ _ _ _ _ _ hs _ _=>hs
  case assign=>
   intro l2 pre x V K hi hsz hK;gi_wp2;exact hK _ _ (yu _) (pa.refl _ _) hi (FrH.of rfl rfl rfl rfl rfl rfl rfl)
  case body=>
   rintro l2 pre x a' V hi hlen ⟨f,rfl⟩ hsz;have HB:Hid (znL pre x=_):=qh (by unfold znL;rfl);have zrp:=qh (znH ⟨(Qr x).toArray⟩ V (by have:=zpz x;show Array.size _<=_;simp;omega));have c11:=qc _ _ 0 _ _ (0,0) hi.i;have z11:=qf _ _ 0 _ _ hi.i;have c12:=qc _ _ 0 _ _ (0,0) hi.l;have z12:=qf _ _ 0 _ _ hi.l;have hsV:=(hi.b.block _ (by omega)).trans Xs.out;have hrV:=(hi.b.block _ hzc).trans Hrc.out;have c3:=qc _ _ 0 _ _ (0,0) hsV;have c4:=qc _ _ 0 _ _ (0,0) hrV;have z4:=qf _ _ 0 _ _ hrV;have hls:gu (pre++[x])=⟨(Qr x).toArray⟩:=zn6 pre x;have Hi:=qh hi;have ed:(⟨(Qr x).toArray⟩:ByteArray).data.toList=Qr x:=(by simp);rw[ed] at zrp;have HL:=qh hls;clear hsV hrV hi ed hls;generalize hA:(⟨(Qr x).toArray⟩:ByteArray)=A at*;generalize hT2:(⟨(yX (Qr x)).toArray⟩:ByteArray)=TX at*;generalize gu pre=L at*;clear hA hT2;have hwi:IntKind.i64.wrap ((pre.length:Int)+1)=(pre.length:Int)+1:=qi _ (by omega);have nlt:wc.heap.size+1<V.heap.size:=by omega
   have HN:Hid (HI wc (pre++[x]) ((V.setCell ⟨wc.heap.size+1,0,none⟩ (.string A)).setCell ⟨wc.heap.size,0,none⟩ (.int .i64 ((pre.length:Int)+1)))):=qh (by
     refine⟨(Hi.out.b.setCell (by show wc.heap.size<=wc.heap.size+1;omega) _).setCell (ql _) _,?_,?_⟩
     · rw[qq,zm]
       exact qs _ wc.heap.size 0 _ _ _ ((qT _ _ _ _ (by show wc.heap.size≠wc.heap.size+1;omega)).trans Hi.out.i)
     · rw[HL.out]
       exact(qT _ _ _ _ (by show wc.heap.size+1≠wc.heap.size;omega)).trans (qs V (wc.heap.size+1) 0 _ _ _ Hi.out.l))
   have c11':(V.setCell ⟨wc.heap.size+1,0,none⟩ (.string A)).cell? ⟨wc.heap.size,0,none⟩=some (.int .i64 (pre.length:Int)):=(qo _ _ _ _ (λe=>by simp at e)).trans c11;have HKo:Hid (KeepsOthers V ((V.setCell ⟨wc.heap.size+1,0,none⟩ (.string A)).setCell ⟨wc.heap.size,0,none⟩ (.int .i64 ((pre.length:Int)+1)))):=qh ((zw _ _ _).trans (zw _ _ _))
   have HKf:Hid (pa W5.heap.size V ((V.setCell ⟨wc.heap.size+1,0,none⟩ (.string A)).setCell ⟨wc.heap.size,0,none⟩ (.int .i64 ((pre.length:Int)+1)))):=qh (by
     refine⟨by simp,λi o h1 h2 _=>?_⟩;rw[Below.heap_setCell _ _ _ _ (by show i≠wc.heap.size;omega),Below.heap_setCell _ _ _ _ (by show i≠wc.heap.size+1;omega)];exact h2)
   have zsN:((V.setCell ⟨wc.heap.size+1,0,none⟩ (.string A)).setCell ⟨wc.heap.size,0,none⟩ (.int .i64 ((pre.length:Int)+1))).cell? ⟨wc.heap.size,0,none⟩=some (.int .i64 ((pre.length:Int)+1)):=by
    have h:=qc _ _ 0 _ _ (0,0) HN.out.i;rw[qq,zm] at h;exact h
   have c3n:((V.setCell ⟨wc.heap.size+1,0,none⟩ (.string A)).setCell ⟨wc.heap.size,0,none⟩ (.int .i64 ((pre.length:Int)+1))).cell? ⟨w.heap.size,0,none⟩=some (.int .i64 stop):=by
    rw[jz _ _ _ _ (λe=>by simp at e<;>omega),jz _ _ _ _ (λe=>by simp at e<;>omega)];exact c3
   cases h1:Op.bytesLess A.toList L.toList with
   |true=>
    have HB2:Hid (znL pre x=true):=qh (by rw[HB.out,h1];simp);have g1:(Op.bytesLess A.toList L.toList||A.toList==L.toList)=true:=(by rw[h1];simp);clear HN HKo HKf zsN c3n c11' HB;gi_wp2;refine⟨trivial,?_⟩;gi_wp2
    all_goals exact⟨zw _ _ _,.inl ⟨rfl,pre,x,rfl,HB2.out⟩⟩
   |false=>
    cases h2:(A.toList==L.toList) with
    |true=>
     have HB2:Hid (znL pre x=true):=qh (by rw[HB.out,h1,h2];simp);have g1:(Op.bytesLess A.toList L.toList||A.toList==L.toList)=true:=(by rw[h1,h2];rfl);clear HN HKo HKf zsN c3n c11' HB;gi_wp2;refine⟨trivial,?_⟩;gi_wp2
     all_goals exact⟨zw _ _ _,.inl ⟨rfl,pre,x,rfl,HB2.out⟩⟩
    |false=>
     have g1:(Op.bytesLess A.toList L.toList||A.toList==L.toList)=false:=(by rw[h1,h2];rfl);cases h3:TX.toList.isEmpty with
     |true=>
      have HB2:Hid (znL pre x=true):=qh (by rw[HB.out,h3];simp);clear HN HKo HKf zsN c3n c11' HB;gi_wp2;refine⟨trivial,yF _ (xr.2 (zrp.out.mono ?_))⟩;rintro e W6 ⟨rfl,rfl⟩;gi_wp2
      all_goals exact⟨zw _ _ _,.inl ⟨rfl,pre,x,rfl,HB2.out⟩⟩
     |false=>
      clear HB;by_cases hst:(pre.length:Int)+1=stop
      · have gs:(((pre.length:Int)+1)==stop)=true:=by simpa using hst
        have pg:=qh hst;clear hst;gi_wp2;refine⟨trivial,yF _ (xr.2 (zrp.out.mono ?_))⟩;rintro e W6 ⟨rfl,rfl⟩;gi_wp2;exact⟨HKo.out,.inr ⟨rfl,HN.out,by rw[qq,zm];push_cast;exact pg.out⟩⟩
      · have gs:(((pre.length:Int)+1)==stop)=false:=by simpa using hst
        clear hst;gi_wp2;refine⟨trivial,yF _ (xr.2 (zrp.out.mono ?_))⟩;rintro e W6 ⟨rfl,rfl⟩;gi_wp2;exact⟨HKo.out,HKf.out,HN.out⟩
  case done=>
   rintro D xs V hD rfl hi hK;have c11:=qc _ _ 0 _ _ (0,0) hi.i;have hsV:=(hi.b.block _ (by omega)).trans Xs.out;have hrV:=(hi.b.block _ hzc).trans Hrc.out;have c3:=qc _ _ 0 _ _ (0,0) hsV;have c4:=qc _ _ 0 _ _ (0,0) hrV;have z4:=qf _ _ 0 _ _ hrV;rw[List.length_range] at c11;have HF:=qh (qV (zmY Hbc.out (hi.b)) hrV);have HD:=qh (qV hD hK);clear hi hsV hrV hD hK;go_wp2_with fail;refine⟨rfl,qc _ _ 0 _ _ (0,0) (qs _ _ 0 _ _ _ HF.out.2),HF.out.1.setCell (by show w.heap.size<=w.heap.size+1;omega) _,D,rfl,by have:=HD.out.1;omega,(qT _ _ _ _ (by have:=HD.out.1;show D≠w.heap.size+1;omega)).trans HD.out.2⟩
  case stop=>
   rintro D c pre V hD ⟨m,hm,rfl⟩ (⟨rfl,p,x,hpx,hbad⟩|⟨rfl,hi,hst⟩) hK
   · rw[zR] at hpx
     obtain⟨rfl,h2⟩:=yw hpx rfl;obtain rfl:m=x:=by simpa using h2
     rw[bad_eq,zsM m hm] at hbad;cases hbad
   · have c11:=qc _ _ 0 _ _ (0,0) hi.i
     have hsV:=(hi.b.block _ (by omega)).trans Xs.out;have hrV:=(hi.b.block _ hzc).trans Hrc.out;have c3:=qc _ _ 0 _ _ (0,0) hsV;have c4:=qc _ _ 0 _ _ (0,0) hrV;have z4:=qf _ _ 0 _ _ hrV;rw[hst] at c11;have HF:=qh (qV (zmY Hbc.out (hi.b)) hrV);have HD:=qh (qV hD hK);have gs:(stop==stop)=true:=(by simp);clear hi hsV hrV hD hK hst;refine wpIn_wide.2 ?_;by_cases h13:stop=13
     · have g13:(stop==13)=true:=by simpa using h13
       go_wp2_with fail;refine⟨rfl,qc _ _ 0 _ _ (0,0) (qs _ _ 0 _ _ _ HF.out.2),HF.out.1.setCell (by show w.heap.size<=w.heap.size+1;omega) _,D,rfl,by have:=HD.out.1;omega,(qT _ _ _ _ (by have:=HD.out.1;show D≠w.heap.size+1;omega)).trans HD.out.2⟩
     · have g13:(stop==13)=false:=by simpa using h13
       go_wp2_with fail;refine⟨rfl,qc _ _ 0 _ _ (0,0) (qs _ _ 0 _ _ _ HF.out.2),HF.out.1.setCell (by show w.heap.size<=w.heap.size+1;omega) _,D,rfl,by have:=HD.out.1;omega,(qT _ _ _ _ (by have:=HD.out.1;show D≠w.heap.size+1;omega)).trans HD.out.2⟩
end Go.Proofs.YtgklikkddckgbaaGreatDoor.Mo


import Derived.Test.YtgklikkddckgbaaGreatDoorLPXB
import Derived.Laws.StructEq
/- Lemmas. -/
set_option linter.all false
set_option maxRecDepth 100000
set_option maxHeartbeats 16000000
namespace Go.Proofs.YtgklikkddckgbaaGreatDoor
open Go.RowKit
end Go.Proofs.YtgklikkddckgbaaGreatDoor
namespace Go.Proofs.YtgklikkddckgbaaGreatDoor
end Go.Proofs.YtgklikkddckgbaaGreatDoor
namespace Go.Proofs.YtgklikkddckgbaaGreatDoor
open Go.RowKit
def Yw {α:Type} [DecidableEq α] (a b:List α):Bool:=decide (a=b)
theorem znI {α:Type} [DecidableEq α] {a b:List α} (h:¬a.length=b.length):Yw a b=false:=qd λe=>h (by rw[e])
theorem zm3 {α:Type} [DecidableEq α] [Inhabited α] {a b:List α} (k:Nat) (h:¬a.getD k default=b.getD k default):Yw a b=false:=qd λe=>h (by rw[e])
theorem znJ {α:Type} [DecidableEq α] [Inhabited α] {a b:List α} (hl:a.length=b.length) (h:a.take a.length=b.take a.length):Yw a b=true:=qt (by
  rw[qU] at h;rw[h,hl,qU])
theorem uq {α:Type} [Inhabited α] {a b:List α} {k:Nat} (h:a.take k=b.take k) (ha:k<a.length) (hb:k<b.length) (e:a.getD k default=b.getD k default):a.take (k+1)=b.take (k+1):=by
  rw[uQ a k ha,uQ b k hb,h,e]
theorem zpp {a b:ByteArray} (h:¬a=b):(a.toList==b.toList)=false:=by
  cases hq:(a.toList==b.toList) with
  |false=>rfl
  |true=>exact absurd (znY hq) h
theorem gb (A B:Option Addr) (c d:Nat) (l r:List (ByteArray×Int)) (w:World) (hl:pn w w.heap.size A l) (hr:pn w w.heap.size B r) (hb1:l.length<=4611686018427387904) (hb2:r.length<=4611686018427387904) (hc:l.length<=c) (hd:r.length<=d):
    Calls Tryz.prog 58 #[.slice A l.length c,.slice B r.length d] w λe w'=>e=.returned (.bool (Yw l r))/\Below w.heap.size w w':=by
  by_cases hq:l.length=r.length
  · have Hq:=qh hq
    have hi1:((l.length:Int)==(r.length:Int))=true:=(by simp[hq]);have HR:=qh hr;have HL:=qh hl;clear hr hl hi1;rw[<-hq] at hd|-;clear hq;go_enter Tryz.func58,Tryz.ntmps58;go_wp2_with fail;go_loopw [13] (λi wr=>∃k:Nat,k<=l.length/\i=.int .i64 k/\Hid (l.take k=r.take k)/\Hid (Below w.heap.size w wr)) (λi _=>l.length-(intOf i).toNat)
    case atStart=>exact⟨0,by omega,rfl,qh rfl,qh (qb _ _)⟩
    case round=>
      rename_i wr;obtain⟨k,hk,rfl,ht,hbl⟩:=hrel;by_cases hlt:k<l.length
      · obtain⟨b,off,rfl,hbb,hrow⟩:=(HL.out.below hbl.out) (by omega)
        obtain⟨b2,off2,rfl,Uf,hrow2⟩:=(HR.out.below hbl.out) (by rw[<-Hq.out];omega);obtain⟨c1,c2⟩:=hrow k hlt;obtain⟨d1,d2⟩:=hrow2 k (by rw[<-Hq.out];omega);have Qk:=qh (zm3 (a:=l) (b:=r) k);have pU:=qh (uq ht.out hlt (by rw[<-Hq.out];omega));have hki:(k:Int)<(l.length:Int):=(by omega);have hk0:(0:Int)<=(k:Int):=(by omega);clear hrow hrow2;generalize l.getD k default=v at*;generalize r.getD k default=u at*;obtain⟨v1,v2⟩:=v;obtain⟨u1,u2⟩:=u;simp only[] at c1 c2 d1 d2;by_cases he:v1=u1
        · by_cases he2:v2=u2
          · have Hs:=qh (pU.out (by rw[he,he2]))
            subst he;subst he2;clear pU Qk;go_wp2_with fail;go_quiet (fail)
            go_wp2_with fail;go_roundw
            case rel=>exact⟨k+1,by omega,by go_num,Hs,qh (Xg hbl.out _)⟩
            case measure=>simp[intOf];omega
          · have Hm:=qh (Qk.out (by intro e;exact he2 (yc e).2))
            have hx2:(v2==u2)=false:=(by simpa using he2);subst he;clear pU Qk he2;go_wp2_with fail;go_quiet (fail)
            go_wp2_with fail;go_ret;exact⟨by rw[Hm.out];rfl,Xg hbl.out _⟩
        · have Hm:=qh (Qk.out (by intro e;exact he (yc e).1))
          have hx1:(v1.toList==u1.toList)=false:=zpp he;clear pU Qk he;go_wp2_with fail;go_quiet (fail)
          go_wp2_with fail;go_ret;exact⟨by rw[Hm.out];rfl,Xg hbl.out _⟩
      · obtain rfl:k=l.length:=by omega
        have Ha:=qh (znJ Hq.out ht.out);go_wp2_with fail;go_ret;exact⟨by rw[Ha.out];rfl,hbl.out⟩
  · have Hm:=qh (znI hq)
    have hi1:((l.length:Int)==(r.length:Int))=false:=(by simp;omega);clear hl hr;go_enter Tryz.func58,Tryz.ntmps58;go_wp2_with fail;go_ret;exact⟨by rw[Hm.out];rfl,qb _ _⟩
def znK (f g:Ft):Bool:=decide (f.own=g.own)&&Yw f.gR g.gR
def VC (f:Ft):ByteArray×List Way:=(f.own,f.gR)
def uR (l r:List Ft):Bool:=Yw (l.map VC) (r.map VC)
def vC (m n:Met):Bool:=uR m.gO n.gO&&Yw m.ends n.ends&&Yw m.gS n.gS
theorem gc (l:List Ft) (k:Nat) (h:k<l.length):(l.map VC).getD k default=VC (l.getD k default):=by
  simp[qj,h]
theorem zom {l r:List Ft} (h:¬l.length=r.length):uR l r=false:=znI (by simpa using h)
theorem zn2 {l r:List Ft} (k:Nat) (h1:k<l.length) (h2:k<r.length) (h:znK (l.getD k default) (r.getD k default)=false):uR l r=false:=by
  refine zm3 k ?_;rw[gc _ _ h1,gc _ _ h2];intro e;unfold VC at e;obtain⟨e1,e2⟩:=yc e;unfold znK Yw at h;rw[e1,e2] at h;simp at h
theorem zoT {f g:Ft} (h:znK f g=true):VC f=VC g:=by
  unfold znK Yw at h;simp only[qA,qC] at h;unfold VC;rw[h.1,h.2]
theorem zn3 {l r:List Ft} {k:Nat} (h:(l.map VC).take k=(r.map VC).take k) (h1:k<l.length) (h2:k<r.length) (he:znK (l.getD k default) (r.getD k default)=true):(l.map VC).take (k+1)=(r.map VC).take (k+1):=
  uq h (by simpa using h1) (by simpa using h2) (by rw[gc _ _ h1,gc _ _ h2];exact zoT he)
theorem zon {l r:List Ft} (hl:l.length=r.length) (h:(l.map VC).take l.length=(r.map VC).take l.length):uR l r=true:=znJ (by simpa using hl) (by simpa using h)
theorem zpq {f g:Ft} (h:¬f.own=g.own):znK f g=false:=by unfold znK;rw[zh h];rfl
theorem zpr {f g:Ft} (h:f.own=g.own):znK f g=Yw f.gR g.gR:=by unfold znK;rw[qK h];rfl
theorem zoo {m n:Met} (h:¬m.gO.length=n.gO.length):vC m n=false:=by unfold vC;rw[zom h];rfl
theorem zop {m n:Met} (h:¬m.gS.length=n.gS.length):vC m n=false:=by unfold vC;rw[znI h];simp
theorem zoq {m n:Met} (h:Yw m.ends n.ends=false):vC m n=false:=by unfold vC;rw[h];simp
theorem zm4 {m n:Met} (h:uR m.gO n.gO=false):vC m n=false:=by unfold vC;rw[h];simp
theorem zm5 {m n:Met} (h:Yw m.gS n.gS=false):vC m n=false:=by unfold vC;rw[h];simp
theorem zoU {m n:Met} (h1:uR m.gO n.gO=true) (h2:Yw m.ends n.ends=true) (h3:Yw m.gS n.gS=true):vC m n=true:=by unfold vC;rw[h1,h2,h3];rfl
theorem gd (Af Ae Ab:Option Addr) (cf ce cb:Nat) (m:Met) (Bf Be Bb:Option Addr) (df de db:Nat) (n:Met) (w:World) (h:pW w w.heap.size Af Ae Ab cf ce cb m) (h2:pW w w.heap.size Bf Be Bb df de db n):
    Calls Tryz.prog 34 #[.agg #[.slice Af m.gO.length cf,.slice Ae m.ends.length ce,.slice Ab m.gS.length cb],.agg #[.slice Bf n.gO.length df,.slice Be n.ends.length de,.slice Bb n.gS.length db]] w λe w'=>e=.returned (.bool (vC m n))/\Below w.heap.size w w':=by
  generalize hW1:(w.alloc (.cells #[.slice Af m.gO.length cf,.slice Ae m.ends.length ce,.slice Ab m.gS.length cb] 79)).alloc (.cells #[.slice Bf n.gO.length df,.slice Be n.ends.length de,.slice Bb n.gS.length db] 79)=W1;have sW1:W1.heap.size=w.heap.size+2:=by rw[<-hW1];simp
  have hB1:Below w.heap.size w W1:=by rw[<-hW1];exact((qb _ _).alloc (ql _) _).alloc (by simp) _
  have hx1:W1.heap[w.heap.size]?=some (.cells #[.slice Af m.gO.length cf,.slice Ae m.ends.length ce,.slice Ab m.gS.length cb] 79 (0,0)):=by
    rw[<-hW1];exact(qa _ _ _ (by simp)).trans (qn w _)
  have hx2:W1.heap[w.heap.size+1]?=some (.cells #[.slice Bf n.gO.length df,.slice Be n.ends.length de,.slice Bb n.gS.length db] 79 (0,0)):=by
    rw[<-hW1];have:=qn (w.alloc (.cells #[.slice Af m.gO.length cf,.slice Ae m.ends.length ce,.slice Ab m.gS.length cb] 79)) (.cells #[.slice Bf n.gO.length df,.slice Be n.ends.length de,.slice Bb n.gS.length db] 79);rw[qO] at this;exact this
  have HM:=qh (h.on hB1);have HN:=qh (h2.on hB1);have HW1:=qh hW1;have HB1:=qh hB1
  have KY:=qh λ(W2:World) (hb2:Below W1.heap.size W1 W2)=>
    qY (qY (qc _ _ 0 _ 79 (0,0) ((hb2.block w.heap.size (by omega)).trans hx1)) (qY (qc _ _ 1 _ 79 (0,0) ((hb2.block w.heap.size (by omega)).trans hx1)) (qc _ _ 2 _ 79 (0,0) ((hb2.block w.heap.size (by omega)).trans hx1))))
      (qY (qc _ _ 0 _ 79 (0,0) ((hb2.block (w.heap.size+1) (by omega)).trans hx2)) (qY (qc _ _ 1 _ 79 (0,0) ((hb2.block (w.heap.size+1) (by omega)).trans hx2)) (qc _ _ 2 _ 79 (0,0) ((hb2.block (w.heap.size+1) (by omega)).trans hx2))))
  have zq3:=qh λ(W2 W3:World) (hb2:Below W1.heap.size W1 W2) (hb3:Below W2.heap.size W2 W3)=>hb2.trans (hb3.mono hb2.size);obtain⟨⟨m0,m1,m2⟩,n0,n1,n2⟩:=KY.out W1 (qb _ _);have q1:=h.bd.gO;have q2:=h2.bd.gO;have q3:=h.bd.gS;have q4:=h2.bd.gS;clear h h2 hW1 hB1 hx1 hx2;by_cases hf:m.gO.length=n.gO.length
  case neg=>
    have Hm:=qh (zoo hf);have hi1:((m.gO.length:Int)==(n.gO.length:Int))=false:=(by simp;omega);have zs3:((m.gO.length:Int) !=(n.gO.length:Int))=true:=(by simp[bne,hi1]);clear hf;go_enter Tryz.func34,Tryz.ntmps34;go_wp2_with fail;rw[HW1.out];go_wp2_with fail;go_ret;exact⟨by rw[Hm.out];rfl,HB1.out⟩
  by_cases hbk:m.gS.length=n.gS.length
  case neg=>
    have Hm:=qh (zop hbk);have hi1:((m.gO.length:Int)==(n.gO.length:Int))=true:=(by simp[hf]);have hi2:((m.gS.length:Int)==(n.gS.length:Int))=false:=(by simp;omega);have zs3:((m.gO.length:Int) !=(n.gO.length:Int))=false:=(by simp[bne,hi1]);have hi2':((m.gS.length:Int) !=(n.gS.length:Int))=true:=(by simp[bne,hi2]);have Hf:=qh hf;clear hbk hf;go_enter Tryz.func34,Tryz.ntmps34;go_wp2_with fail;rw[HW1.out];go_wp2_with fail;go_ret;exact⟨by rw[Hm.out];rfl,HB1.out⟩
  have Hf:=qh hf;have Hbk:=qh hbk;have hi1:((m.gO.length:Int)==(n.gO.length:Int))=true:=by simp[hf]
  have hi2:((m.gS.length:Int)==(n.gS.length:Int))=true:=by simp[hbk]
  have zs3:((m.gO.length:Int) !=(n.gO.length:Int))=false:=by simp[bne,hi1]
  have hi2':((m.gS.length:Int) !=(n.gS.length:Int))=false:=by simp[bne,hi2]
  clear hf hbk;have Hve:=qh (gb Ae Be ce de m.ends n.ends W1 HM.out.ends HN.out.ends HM.out.bd.ends.1 HN.out.bd.ends.1 HM.out.ce HN.out.ce);go_enter Tryz.func34,Tryz.ntmps34;go_wp2_with fail;rw[HW1.out];go_wp2_with fail;refine Hve.out.mono ?_;rintro e w2 ⟨rfl,hb2⟩;obtain⟨⟨p0,p1,p2⟩,r0,r1,r2⟩:=KY.out w2 hb2;have Hb2:=qh hb2;clear m0 m1 m2 n0 n1 n2 hb2 hi1 hi2 zs3 hi2';cases h1:Yw m.ends n.ends with
  |false=>
   have Hm:=qh (zoq h1);clear h1;go_wp2_with fail;go_ret;exact⟨by rw[Hm.out];rfl,HB1.out.trans (Hb2.out.mono (by omega))⟩
  |true=>
   have H1:=qh h1;clear h1;go_wp2_with fail;go_loopw [34] (λi wr=>∃k:Nat,k<=m.gO.length/\i=.int .i64 k/\Hid ((m.gO.map VC).take k=(n.gO.map VC).take k)/\Hid (Below W1.heap.size W1 wr)) (λi _=>m.gO.length-(intOf i).toNat)
   case atStart=>exact⟨0,by omega,rfl,qh rfl,Hb2⟩
   case round=>
     rename_i wr;obtain⟨k,hk,rfl,ht,hbl⟩:=hrel;obtain⟨⟨m0,m1,m2⟩,n0,n1,n2⟩:=KY.out wr hbl.out;clear p0 p1 p2 r0 r1 r2;have hwr:w.heap.size+1<wr.heap.size:=(by have:=hbl.out.size;omega);by_cases hlt:k<m.gO.length
     · obtain⟨b,off,rfl,hbb,hrow⟩:=(HM.out.below hbl.out).gO (by omega)
       obtain⟨b2,off2,rfl,Uf,hrow2⟩:=(HN.out.below hbl.out).gO (by rw[<-Hf.out];omega);obtain⟨x1,A1,k1,x2,x3,x4⟩:=hrow k hlt;obtain⟨y1,A2,k2,y2,y3,y4⟩:=hrow2 k (by rw[<-Hf.out];omega);have Qk:=qh (zn2 (l:=m.gO) (r:=n.gO) k hlt (by rw[<-Hf.out];omega));have pU:=qh (zn3 (l:=m.gO) (r:=n.gO) ht.out hlt (by rw[<-Hf.out];omega));have w1:=(HM.out.bd.gR (m.gO.getD k default) (by rw[qj,qz hlt];exact qM hlt)).1;have w2':=(HN.out.bd.gR (n.gO.getD k default) (by rw[qj,qz (by rw[<-Hf.out];omega)];exact qM _)).1;have hki:(k:Int)<(m.gO.length:Int):=(by omega);have hki2:(k:Int)<(n.gO.length:Int):=(by rw[<-Hf.out];omega);have hk0:(0:Int)<=(k:Int):=(by omega);have hbr:b<wr.heap.size:=(by have:=hbl.out.size;omega);have zsq:b2<wr.heap.size:=(by have:=hbl.out.size;omega);clear hrow hrow2;generalize m.gO.getD k default=f at*;generalize n.gO.getD k default=g at*;obtain⟨o1,l1⟩:=f;obtain⟨o2,l2⟩:=g;simp only[] at x1 x2 x3 x4 y1 y2 y3 y4 w1 w2';have hw0:w.heap.size<wr.heap.size:=(by omega);by_cases ho:o1=o2
       · have He:=qh (zpr (f:=⟨o1,l1⟩) (g:=⟨o2,l2⟩) ho)
         have hs:(o1.toList==o2.toList)=true:=(by rw[ho];simp);have Hva:=qh λ(W:World) (hW:Below wr.heap.size wr W)=>gb A1 A2 k1 k2 l1 l2 W ((x4.below (hW.mono hbl.out.size)).more (qm hbl.out.size hW.size)) ((y4.below (hW.mono hbl.out.size)).more (qm hbl.out.size hW.size)) w1 w2' x3 y3;subst ho;cases hv:Yw l1 l2 with
         |true=>
          have Ht:=qh (pU.out (by rw[He.out];exact hv));rw[hv] at Hva;clear hv pU Qk x4 y4 He;go_wp2_with fail;go_region_held3 (λw'=>Below wr.heap.size wr w'/\∀b o,b<wr.heap.size->w'.cell? ⟨b,o,none⟩=wr.cell? ⟨b,o,none⟩) (((repeat (apply JK;assumption));exact pa)) (first|(go_at_call 58;refine(Hva.out _ (by first|exact pa.1|exact qZ (by assumption))).mono ?_;rintro e w9 ⟨rfl,pb⟩))
          have Zl:Below wr.heap.size wr w9:=qZ (by assumption);have Hb9:=qh (hbl.out.trans (Zl.mono hbl.out.size));clear Hva Zl pb;go_wp2_with fail;go_roundw
          case rel=>exact⟨k+1,by omega,by go_num,Ht,Hb9⟩
          case measure=>simp[intOf];omega
         |false=>
          have Hm:=qh (zm4 (Qk.out (by rw[He.out];exact hv)));rw[hv] at Hva;clear hv pU Qk x4 y4 He;go_wp2_with fail;go_region_held3 (λw'=>Below wr.heap.size wr w'/\∀b o,b<wr.heap.size->w'.cell? ⟨b,o,none⟩=wr.cell? ⟨b,o,none⟩) (((repeat (apply JK;assumption));exact pa)) (first|(go_at_call 58;refine(Hva.out _ (by first|exact pa.1|exact qZ (by assumption))).mono ?_;rintro e w9 ⟨rfl,pb⟩))
          have Zl:Below wr.heap.size wr w9:=qZ (by assumption);have Hb9:=qh (hbl.out.trans (Zl.mono hbl.out.size));clear Hva Zl pb;go_wp2_with fail;go_ret;exact⟨by rw[Hm.out];rfl,HB1.out.trans (Hb9.out.mono (by omega))⟩
       · have Hm:=qh (zm4 (Qk.out (zpq ho)))
         have hs:(o1.toList==o2.toList)=false:=zpp ho;clear ho pU Qk x4 y4;go_wp2_with fail;go_quiet (fail)
         go_wp2_with fail;go_ret;exact⟨by rw[Hm.out];rfl,HB1.out.trans ((Xg hbl.out _).mono (by omega))⟩
     · obtain rfl:k=m.gO.length:=by omega
       have Ha:=qh (zon Hf.out ht.out);go_wp2_with fail;go_loopw [70] (λi wi=>∃j:Nat,j<=m.gS.length/\i=.int .i64 j/\Hid (m.gS.take j=n.gS.take j)/\Hid (Below W1.heap.size W1 wi)) (λi _=>m.gS.length-(intOf i).toNat)
       case atStart=>exact⟨0,by omega,rfl,qh rfl,hbl⟩
       case round=>
         obtain⟨j,hj,rfl,hbt,X9⟩:=hrel;clear m0 m1 m2 n0 n1 n2;rename_i wz;obtain⟨⟨m0,m1,m2⟩,n0,n1,n2⟩:=KY.out _ X9.out;by_cases hjt:j<m.gS.length
         · obtain⟨b,off,rfl,hbb,hrow⟩:=(HM.out.below X9.out).gS (by omega)
           obtain⟨b2,off2,rfl,Uf,hrow2⟩:=(HN.out.below X9.out).gS (by rw[<-Hbk.out];omega);obtain⟨c1,c2⟩:=hrow j hjt;obtain⟨d1,d2⟩:=hrow2 j (by rw[<-Hbk.out];omega);have Qk:=qh (zm3 (a:=m.gS) (b:=n.gS) j);have pU:=qh (uq hbt.out hjt (by rw[<-Hbk.out];omega));have hki:(j:Int)<(m.gS.length:Int):=(by omega);have hki2:(j:Int)<(n.gS.length:Int):=(by rw[<-Hbk.out];omega);have hk0:(0:Int)<=(j:Int):=(by omega);clear hrow hrow2;generalize m.gS.getD j default=v at*;generalize n.gS.getD j default=u at*;obtain⟨v1,v2⟩:=v;obtain⟨u1,u2⟩:=u;simp only[] at c1 c2 d1 d2;by_cases he:v1=u1
           · by_cases he2:v2=u2
             · have Hs:=qh (pU.out (by rw[he,he2]))
               subst he;subst he2;clear pU Qk;go_wp2_with fail;go_quiet (fail)
               go_wp2_with fail;go_roundw
               case rel=>exact⟨j+1,by omega,by go_num,Hs,qh (Xg X9.out _)⟩
               case measure=>simp[intOf];omega
             · have Hm:=qh (zm5 (Qk.out (by intro e;exact he2 (yc e).2)))
               have hx2:(v2==u2)=false:=(by simpa using he2);subst he;clear pU Qk he2;go_wp2_with fail;go_quiet (fail)
               go_wp2_with fail;go_ret;exact⟨by rw[Hm.out];rfl,HB1.out.trans ((Xg X9.out _).mono (by omega))⟩
           · have Hm:=qh (zm5 (Qk.out (by intro e;exact he (yc e).1)))
             have hx1:(v1==u1)=false:=(by simpa using he);clear pU Qk he;go_wp2_with fail;go_quiet (fail)
             go_wp2_with fail;go_ret;exact⟨by rw[Hm.out];rfl,HB1.out.trans ((Xg X9.out _).mono (by omega))⟩
         · obtain rfl:j=m.gS.length:=by omega
           have Hy:=qh (zoU Ha.out H1.out (znJ Hbk.out hbt.out));go_wp2_with fail;go_ret;exact⟨by rw[Hy.out];rfl,HB1.out.trans (X9.out.mono (by omega))⟩
end Go.Proofs.YtgklikkddckgbaaGreatDoor

import Derived.Test.YtgklikkddckgbaaGreatDoorLDC
/- Lemmas. -/
set_option linter.all false
set_option maxRecDepth 100000
set_option maxHeartbeats 4000000
namespace Go.Proofs.YtgklikkddckgbaaGreatDoor.Mo
open Go.Lib
def zcG (l:List UInt8):Bool:=l.all λc=>decide (48<=c.toNat)&&decide (c.toNat<=57)
def uL (a:Nat) (l:List UInt8):Nat:=l.foldl (λn c=>10*n+(c.toNat-48)) a
theorem zgn:∀(l:List UInt8) (a:Nat),a<=uL a l
 |[],a=>ql _
 |c::l,a=>by
  show a<=uL (10*a+(c.toNat-48)) l;have:=zgn l (10*a+(c.toNat-48));omega
theorem zfd:∀(l:List UInt8) (a:Nat),zcG l=true->parseUint10 a l=.ok (uL a l)∨(parseUint10 a l=.range/\18446744073709551616<=uL a l)
 |[],a,_=>.inl rfl
 |c::l,a,h=>by
  unfold zcG at h;rw[List.all_cons,qA] at h;obtain⟨h1,h2⟩:=h;simp only[qA,qC] at h1;have hv:uL a (c::l)=uL (10*a+(c.toNat-48)) l:=rfl;have hm:=zgn l (10*a+(c.toNat-48));unfold parseUint10;rw[qy h1];by_cases g1:1844674407370955162<=a
  ·rw[qy g1];exact .inr ⟨rfl,by omega⟩
  ·rw[qx g1];by_cases g2:18446744073709551616<=a*10+(c.toNat-48)
   ·rw[qy g2];exact .inr ⟨rfl,by omega⟩
   ·rw[qx g2,hv,show a*10+(c.toNat-48)=10*a+(c.toNat-48) by omega];exact zfd l _ h2
theorem zjl (l:List UInt8) (h:zcG l=true) (h0:l≠[]):(atoiAll l=.ok (uL 0 l)/\uL 0 l<9223372036854775808)∨(atoiAll l=.range/\9223372036854775808<=uL 0 l):=by
 cases l with
 |nil=>exact absurd rfl h0
 |cons c r=>
  have hd:48<=c.toNat/\c.toNat<=57:=by
   unfold zcG at h;rw[List.all_cons,qA] at h;simpa using h.1
  rw[atoiAll_plain c r (by omega) (by omega)];have hp:parseMag (c::r)=parseUint10 0 (c::r):=by unfold parseMag;rw[qx (by simp)]
  rw[hp];rcases zfd (c::r) 0 h with e|⟨e,h2⟩
  ·rw[e];unfold signless;by_cases hb:9223372036854775808<=uL 0 (c::r)
   ·exact .inr ⟨by simp[hb],hb⟩
   ·exact .inl ⟨by simp[hb],by omega⟩
  ·rw[e];exact .inr ⟨rfl,by omega⟩
theorem zhX {s:ByteArray} {a:Nat}:∀(n i:Nat),s.size-i=n->∀k,i<=k->k<gV s a i->vc s a k=true:=by
 intro n;induction n with
 |zero=>
  intro i hi k h1 h2;have:vc s a i=false:=by unfold vc;rw[zcF (by omega)];rfl
  rw[zaZ this] at h2;omega
 |succ n ih=>
  intro i hi k h1 h2;cases he:vc s a i with
  |false=>rw[zaZ he] at h2;omega
  |true=>
   rw[zbZ he] at h2;by_cases hk:k=i
   ·rw[hk];exact he
   ·exact ih (i+1) (by omega) k (by omega) h2
theorem zjm {s:ByteArray} {a k:Nat} (h:vc s a k=true) (hk:k<s.size):48<=s[k].toNat/\s[k].toNat<=57:=by
 unfold vc at h;rw[qA,Vp hk] at h;have:=h.1;simp only[qA,qC] at this;omega
theorem zfF (s:ByteArray) (a b:Nat) (h:b<=s.size) (ha:a<=b):(yM s a b).length=b-a:=by
 unfold yM;rw[kQ,zK,qS];have:s.data.size=s.size:=rfl;omega
theorem zhY (s:ByteArray) (a:Nat) (ha:a<=s.size):zcG (yM s a (gV s a a))=true:=by
 have hle:=Vq (s:=s) a a ha;unfold zcG;rw[zO];intro c hc;obtain⟨j,hj,rfl⟩:=xF hc;rw[zfF s a _ hle.2 hle.1] at hj;have hk:a+j<s.size:=by omega
 have hd:=zjm (zhX (s:=s) (a:=a) _ a rfl (a+j) (by omega) (by omega)) hk;have e:(yM s a (gV s a a))[j]'(by rw[zfF s a _ hle.2 hle.1];exact hj)=s[a+j]:=by
  unfold yM;rw[List.getElem_take,List.getElem_drop];rfl
 rw[e];simp[hd.1,hd.2]
theorem zmc (l:List UInt8):vF l=uL 0 l:=rfl
theorem zcp (s:ByteArray) (a b:Nat):(s.extract a b).data.toList=yM s a b:=by
 unfold yM;rw[kU,Array.toList_extract,List.extract_eq_take_drop]
theorem zkE (s:ByteArray) (a:Nat) (ha:a<=s.size) (h0:gV s a a≠a):
  (atoiAll (s.extract a (gV s a a)).data.toList=.ok (vF (yM s a (gV s a a)):Int)/\vF (yM s a (gV s a a))<9223372036854775808)∨(atoiAll (s.extract a (gV s a a)).data.toList=.range/\9223372036854775808<=vF (yM s a (gV s a a))):=by
 have hle:=Vq (s:=s) a a ha;rw[zcp,zmc];exact zjl _ (zhY s a ha) (λe=>by
  have:=zfF s a _ hle.2 hle.1;rw[e] at this;have:(0:Nat)=gV s a a-a:=this;omega)
end Go.Proofs.YtgklikkddckgbaaGreatDoor.Mo
namespace Go.Proofs.YtgklikkddckgbaaGreatDoor.Mo
open Go.RowKit
def JN (t:ByteArray):List Int:=t.data.toList.map λc=>(c.toNat:Int)
theorem zfe (t:ByteArray) (k:Nat) (h:k<t.size):(JN t).drop k=(t[k].toNat:Int)::(JN t).drop (k+1):=by
 have hl:k<(JN t).length:=by unfold JN;rw[xy,qS];exact h
 have e:(JN t)[k]'hl=(t[k].toNat:Int):=by simp[JN];rfl
 rw[zm hl,e]
theorem zgo (t:ByteArray) (k:Nat) (h:¬k<t.size):(JN t).drop k=[]:=by
 refine kx ?_;unfold JN;rw[xy,qS];have:t.data.size=t.size:=rfl;omega
theorem zbW (rb fb:Nat) (s t:ByteArray) (i:Nat) (w:World) (h:Rd w rb fb s i) (ht:t.size<=100):
  Calls Tryz.prog 91 #[.pointer (some ⟨rb,0,none⟩),.string t] w (YG rb fb s w (.tuple #[]) (pF (py s (JN t) i))):=by
 have hsz:=h.sz;have H:=qh h;generalize hR:pF (py s (JN t) i)=R;have Kk:Hid (pF (py s ((JN t).drop 0) (i+0))=R):=qh (by rw[xL,xG];exact hR);clear h hR;go_enter Tryz.func91,Tryz.ntmps91;go_wp2_with fail;go_loopw [7] (λj wr=>∃k:Nat,k<=t.size/\j=.int .i64 k/\Hid (pF (py s ((JN t).drop k) (i+k))=R)/\Hid (Rd wr rb fb s (i+k))/\Hid (Off [rb] w wr)) (λj _=>t.size-(intOf j).toNat)
 case atStart=>exact⟨0,qF _,rfl,Kk,H,qh (Off.refl _ _)⟩
 case round=>
  obtain⟨k,hk,rfl,hRk,hrd,hof⟩:=hrel;clear Kk;by_cases hlt:k<t.size
  ·have hq:=zdZ rb fb s (i+k) t[k] wr hrd.out;have hst:=hRk.out;rw[zfe t k hlt] at hst;unfold py at hst;have Hq:=qh hq;clear hq;cases hb:pg s (i+k) (t[k].toNat:Int) with
   |true=>
    have po:=qh hst;have XK:=qh (XV hb);rw[hb] at Hq;have Hb:=qh hb;clear hst hb;go_wp2_with fail;refine Hq.out.mono ?_;rintro e w2 ⟨rfl,hb2⟩;have Qv:=hrd.out.below hb2;obtain⟨r0,r1,r2,r3⟩:=Qv.cells;have hlt2:=XK.out;have hw:IntKind.i64.wrap (((i+k:Nat):Int)+1)=((i+k:Nat):Int)+1:=qi _ (by omega);have Xs:=qh (Qv.to (j:=i+(k+1)) (by omega));have VH:=qh ((hof.out.trans (Off.of_below hb2 (ql _) [rb])).trans (Off.setCell w2 rb 1 (.int .i64 ((i+(k+1):Nat):Int))));have HR2:Hid (pF (py s ((JN t).drop (k+1)) (i+(k+1)))=R):=qh (by
     have h0:=po.out;rw[Hb.out,qy rfl] at h0;exact h0)
    have hc:((i+k:Nat):Int)+1=((i+(k+1):Nat):Int):=(by omega);rw[<-hc] at Xs VH;clear hb2 Qv hc;go_wp2_with fail;go_roundw
    case rel=>exact⟨k+1,by omega,by go_num,HR2,Xs,VH⟩
    case measure=>simp[intOf];omega
   |false=>
    rw[hb] at Hq;have HR2:Hid (R=.error (180,i+k)):=qh (by rw[<-hst,hb];rfl);clear hst hb;go_wp2_with fail;refine Hq.out.mono ?_;rintro e w2 ⟨rfl,hb2⟩;have Hwr:=qh (YH rb fb s (i+k) w2 (hrd.out.below hb2));have Hb2:=qh hb2;clear hb2;go_wp2_with fail;refine Hwr.out.mono ?_;rintro e w3 ⟨rfl,hb3⟩;refine⟨rfl,?_⟩;rw[HR2.out];exact⟨rfl,(hof.out.trans (Off.of_below Hb2.out (ql _) [rb])).trans (Off.of_below hb3 (ql _) [rb])⟩
  ·obtain rfl:k=t.size:=by omega
   have HR2:Hid (R=.ok (i+t.size)):=qh (by rw[<-hRk.out,zgo t _ hlt];rfl);clear hRk;go_wp2_with fail;refine q9 (qI rfl _ _ _) rfl ?_;rw[HR2.out];exact⟨rfl,hrd.out,hof.out⟩
def zlj (rb fb:Nat) (s:ByteArray) (w:World) (i:Nat) (e:Ending) (w':World):Prop:=e=.returned (.string (s.extract i (zap s i)))/\Rd w' rb fb s (zap s i)/\Off [rb] w w'
theorem zfG (rb fb:Nat) (s:ByteArray) (i:Nat) (w:World) (h:Rd w rb fb s i):
  Calls Tryz.prog 90 #[.pointer (some ⟨rb,0,none⟩)] w (zlj rb fb s w i):=by
 have hsz:=h.sz;have hle:=h.le;obtain⟨q0,q1,q2,q3⟩:=h.cells;have H:=qh h;generalize hR:zap s i=R;have hRb:=zbs i hle;rw[hR] at hRb;unfold zlj;rw[hR];have Kk:=qh hR;clear h hR;go_enter Tryz.func90,Tryz.ntmps90;go_wp2_with fail;clear q0 q1 q2 q3;go_loopw [] (λwr=>∃j:Nat,i<=j/\j<=s.size/\Hid (zap s j=R)/\Hid (Rd wr rb fb s j)/\Hid (Off [rb] w wr)) (λwr=>s.size-(match wr.cell? ⟨rb,1,none⟩ with|some v=>(intOf v).toNat|none=>0))
 case atStart=>exact⟨i,ql _,hle,Kk,H,qh (Off.refl _ _)⟩
 case round=>
  obtain⟨j,hij,hj,hRj,hrd,hof⟩:=hrel;clear Kk;have Hq:=qh (zdn rb fb s j wr hrd.out);have Hm:Hid (wr.cell? ⟨rb,1,none⟩=some (.int .i64 j)):=qh hrd.out.cells.2.1;cases hb:vG s j with
  |false=>
   rw[hb] at Hq;have po:=qh (zfE hb);have hlt:j<s.size:=by
    by_cases hh:j<s.size
    ·exact hh
    ·rw[zco hh] at hb;cases hb
   clear hb;go_wp2_with fail;refine Hq.out.mono ?_;rintro e w2 ⟨rfl,hb2⟩;have Qv:=hrd.out.below hb2;obtain⟨r0,r1,r2,r3⟩:=Qv.cells;have hw:IntKind.i64.wrap ((j:Int)+1)=(j:Int)+1:=qi _ (by omega);have Xs:=qh (Qv.to (j:=j+1) (by omega));have VH:=qh ((hof.out.trans (Off.of_below hb2 (ql _) [rb])).trans (Off.setCell w2 rb 1 (.int .i64 ((j+1:Nat):Int))));have hc:((j+1:Nat):Int)=(j:Int)+1:=(by omega);rw[hc] at Xs VH;clear hb2 Qv hc;go_wp2_with fail;go_roundw
   case rel=>exact⟨j+1,by omega,by omega,qh (by rw[<-po.out];exact hRj.out),Xs,VH⟩
   case measure=>
    have e1:=Xs.out.cells.2.1;rw[e1,Hm.out];simp only[intOf];omega
  |true=>
   rw[hb] at Hq;have hjR:j=R:=(by rw[<-hRj.out,zb8 hb]);subst hjR;clear hb;go_wp2_with fail;refine Hq.out.mono ?_;rintro e w2 ⟨rfl,hb2⟩;have Qv:=hrd.out.below hb2;obtain⟨r0,r1,r2,r3⟩:=Qv.cells;have Q9:=qh Qv;have JO:=qh (hof.out.trans (Off.of_below hb2 (ql _) [rb]));clear hb2 Qv;go_wp2_with fail;go_quiet (fail)
   go_wp2_with fail;go_ret;exact⟨by simp,Q9.out.drewN _,JO.out.trans (Off.drewN _ _ _)⟩
theorem Z3 {s:ByteArray} {i:Nat} (h:i<s.size):gZ s i=s[i]:=by unfold gZ;rw[jm h]
def zhZ (rb fb:Nat) (s:ByteArray) (i:Nat) (w:World) (e:Ending) (w':World):Prop:=
 Off [rb] w w'/\if pY s i 97 122 then e=.returned (.tuple #[.int .u8 (gZ s i).toNat,.int .i64 i])/\Rd w' rb fb s (i+1) else e=vU 180 i
theorem zdM (rb fb:Nat) (s:ByteArray) (i:Nat) (w w2:World) (e:Ending) (h:Rd w rb fb s i) (n:Nat) (hin:pY s i 97 122=false) (he:e=vU 180 i) (hb:Below (w.drewN n).heap.size (w.drewN n) w2):zhZ rb fb s i w e w2:=
 ⟨(Off.drewN _ w n).trans (Off.of_below hb (ql _) _),by rw[hin];exact he⟩
theorem zdN (rb fb:Nat) (s:ByteArray) (i:Nat) (w:World) (h:Rd w rb fb s i):
  Calls Tryz.prog 113 #[.pointer (some ⟨rb,0,none⟩)] w (zhZ rb fb s i w):=by
 have hsz:=h.sz;have hle:=h.le;obtain⟨q0,q1,q2,q3⟩:=h.cells;have H:=qh h;clear h;by_cases hi:i<s.size
 ·have hne:((i:Int)==(s.size:Int))=false:=by
   have:¬((i:Int)=(s.size:Int)):=(by omega);simpa using this
  have hin:=Vp (a:=97) (b:=122) hi;have Kl:=qh (Z3 hi);by_cases h1:(s[i].toNat:Int)<97
  ·have hin2:pY s i 97 122=false:=(by rw[hin];simp;omega);have QN:=qh hin2;have hd1:decide ((s[i].toNat:Int)<97)=true:=qt h1;clear hin hin2 h1;go_enter Tryz.func113,yq;go_wp2_with fail;go_quiet (fail)
   go_wp2_with fail;refine(YH rb fb s i _ (H.out.drewN nq)).mono ?_;rintro e w2 ⟨rfl,hb⟩;exact⟨rfl,zdM rb fb s i w w2 _ H.out nq QN.out rfl hb⟩
  ·have hd1:decide ((s[i].toNat:Int)<97)=false:=qd h1;by_cases h2:122<(s[i].toNat:Int)
   ·have hin2:pY s i 97 122=false:=(by rw[hin];simp;omega);have QN:=qh hin2;have hd2:decide (122<(s[i].toNat:Int))=true:=qt h2;clear hin hin2 h1 h2;go_enter Tryz.func113,yq;go_wp2_with fail;go_quiet (fail)
    go_wp2_with fail;refine(YH rb fb s i _ (H.out.drewN nq)).mono ?_;rintro e w2 ⟨rfl,hb⟩;exact⟨rfl,zdM rb fb s i w w2 _ H.out nq QN.out rfl hb⟩
   ·have hd2:decide (122<(s[i].toNat:Int))=false:=qd h2;have hin2:pY s i 97 122=true:=(by rw[hin];simp;omega);have QN:=qh hin2;clear hin hin2 h1 h2;have hw:IntKind.i64.wrap ((i:Int)+1)=(i:Int)+1:=qi _ (by omega);have hw2:IntKind.i64.wrap ((i:Int)+1-1)=(i:Int):=(by rw[Int.add_sub_cancel];exact qi _ (by omega));go_enter Tryz.func113,yq;go_wp2_with fail;go_quiet (fail)
    have Hrd:=qh ((H.out.drewN nq).to (j:=i+1) (by omega));obtain⟨r0,r1,r2,r3⟩:=(H.out.drewN nq).cells;obtain⟨t0,t1,t2,t3⟩:=Hrd.out.cells;have hc:((i+1:Nat):Int)=(i:Int)+1:=(by omega);rw[hc] at t0 t1 t2 t3;go_wp2_with fail;go_quiet (fail)
    go_wp2_with fail;go_ret2;rw[hc] at Hrd;exact⟨((Off.drewN _ w _).trans (Off.setCell _ rb 1 _)).trans (Off.drewN _ _ _),by rw[QN.out,qy rfl,Kl.out];exact⟨rfl,Hrd.out.drewN _⟩⟩
 ·have hne:((i:Int)==(s.size:Int))=true:=by
   have:(i:Int)=(s.size:Int):=(by omega);simpa using this
  have QN:=qh (zcF (a:=97) (b:=122) hi);go_enter Tryz.func113,yq;go_wp2_with fail;go_quiet (fail)
  go_wp2_with fail;refine(YH rb fb s i _ (H.out.drewN nq)).mono ?_;rintro e w2 ⟨rfl,hb⟩;exact⟨rfl,zdM rb fb s i w w2 _ H.out nq QN.out rfl hb⟩
def zgp (there:Bool) (i:Nat):Except (Int×Nat) Nat:=if there then .error (180,i) else .ok (i+1)
theorem zeg (rb fb:Nat) (s:ByteArray) (i:Nat) (b:Bool) (w:World) (h:Rd w rb fb s i) (hi:i<s.size):
  Calls Tryz.prog 203 #[.pointer (some ⟨rb,0,none⟩),.bool b] w (YG rb fb s w (.tuple #[]) (zgp b i)):=by
 have hsz:=h.sz;obtain⟨q0,q1,q2,q3⟩:=h.cells;have H:=qh h;clear h;have hw:IntKind.i64.wrap ((i:Int)+1)=(i:Int)+1:=qi _ (by omega);cases b with
 |true=>
  go_enter Tryz.func203,Tryz.ntmps203;go_wp2_with fail;refine(YH rb fb s i _ H.out).mono ?_;rintro e w2 ⟨rfl,hb⟩;exact⟨rfl,rfl,Off.of_below hb (ql _) _⟩
 |false=>
  go_enter Tryz.func203,Tryz.ntmps203;go_wp2_with fail;refine q9 (qI rfl _ _ _) rfl ?_;exact⟨rfl,H.out.to (j:=i+1) (by omega),Off.setCell w rb 1 _⟩
theorem zgq (c:UInt8) (w:World):Calls Tryz.prog 180 #[.int .u8 c.toNat] w λe w'=>e=.returned (.int .i64 (yP c))/\Below w.heap.size w w':=by
 have hix:=qh (Tryz.strings_IndexByte ⟨JM.toArray⟩ c.toNat w);have e1:((c.toNat:Int)).toNat.toUInt8=c:=by simp
 go_enter Tryz.func180,Tryz.ntmps180;go_wp2_with fail;refine hix.out.mono ?_;rintro e w' ⟨rfl,rfl⟩;go_wp2_with fail;go_ret;exact⟨rfl,qb _ _⟩
theorem Vars.off {L:List Nat} {w w':World} (h:Vars w) (ho:Off L w w') (hl:∀k∈L,9<=k):Vars w':=
 h.keep (λi hi=>ho.block i (by have:=h.six;omega) (λhm=>by have:=hl i hm;omega)) ho.size
def zcH (t:ByteArray) (v:Nat) (w:World) (e:Ending) (w':World):Prop:=Below w.heap.size w w'/\
 ((e=.returned (.tuple #[.int .i64 v,.nilIface])/\v<9223372036854775808)∨(9223372036854775808<=v/\∃(n:Int) (N:Nat),e=.returned (.tuple #[.int .i64 n,.iface 261 (.pointer (some ⟨N,0,none⟩))])))
theorem zb1 (s:ByteArray) (a:Nat) (ha:a<=s.size) (hs:s.size<=65536) (h0:gV s a a≠a) (w:World) (hv:Vars w):
  Calls Tryz.prog 149 #[.string (s.extract a (gV s a a))] w (zcH (s.extract a (gV s a a)) (vF (yM s a (gV s a a))) w):=by
 have hle:=Vq (s:=s) a a ha;have hsz:(s.extract a (gV s a a)).size<=65536:=by rw[kV];omega
 rcases zkE s a ha h0 with⟨e,hb⟩|⟨e,hb⟩
 ·refine(Tryz.strconv_Atoi_ok _ (by omega) _ e w).mono ?_;rintro e w' ⟨rfl,h⟩;refine⟨?_,.inl ⟨rfl,hb⟩⟩;rcases h with rfl|⟨t,rfl⟩
  ·exact qb _ _
  ·exact Joins.below_bytesWorld _ _ _ _ (ql _)
 ·obtain⟨_,⟨t2,p2,h2⟩,_⟩:=hv;refine(Tryz.strconv_Atoi_range _ (by omega) e _ w h2 (.inr ⟨_,_,rfl⟩)).mono ?_;rintro e w' ⟨N,rfl,_,_,hb'⟩;exact⟨hb',.inr ⟨hb,_,N,rfl⟩⟩
theorem zdo {t:ByteArray} {v:Nat} {e:Ending} (h:(e=.returned (.tuple #[.int .i64 v,.nilIface])/\v<9223372036854775808)∨(9223372036854775808<=v/\∃(n:Int) (N:Nat),e=.returned (.tuple #[.int .i64 n,.iface 261 (.pointer (some ⟨N,0,none⟩))]))):
  ∃(v1:Int) (x:Value),e=.returned (.tuple #[.int .i64 v1,x]):=by
 rcases h with⟨rfl,_⟩|⟨_,n,N,rfl⟩
 ·exact⟨_,_,rfl⟩
 ·exact⟨_,_,rfl⟩
def zlE (rb fb:Nat) (s:ByteArray) (w:World) (r:Except (Int×Nat) (Int×Nat)) (e:Ending) (w':World):Prop:=Off [rb] w w'/\
 match r with
 |.ok (v,j)=>e=.returned (.int .i64 v)/\Rd w' rb fb s j
 |.error (c,p)=>e=vU c p
theorem zfH (w:World):(binOp .neq 122 .nilIface .nilIface).run Tryz.prog w=.ok (.bool false) w:=by kernel_rfl
theorem zeh (n:Nat) (w:World):(binOp .neq 122 (.iface 261 (.pointer (some ⟨n,0,none⟩))) .nilIface).run Tryz.prog w=.ok (.bool true) w:=by kernel_rfl
theorem zcq (rb fb:Nat) (s:ByteArray) (a:Nat) (least:Int) (w:World) (h:Rd w rb fb s a) (hv:Vars w) (h9:9<=rb) (hl0:0<=least) (hl1:least<=512):
  Calls Tryz.prog 116 #[.pointer (some ⟨rb,0,none⟩),.int .i64 least] w (zlE rb fb s w (yL s least a)):=by
 have hsz:=h.sz;have hle:=h.le;obtain⟨q0,q1,q2,q3⟩:=h.cells;have H:=qh h;have hEb:=Vq (s:=s) a a hle;generalize hE:gV s a a=E at*;have HE0:=qh hE;clear h hE;go_enter Tryz.func116,Tryz.ntmps116;go_wp2_with fail;clear q0 q1 q2 q3;go_loopw [] (λwr=>∃i:Nat,a<=i/\i<=s.size/\Hid (gV s a i=E)/\Hid (Rd wr rb fb s i)/\Hid (Off [rb] w wr)) (λwr=>s.size-(match wr.cell? ⟨rb,1,none⟩ with|some v=>(intOf v).toNat|none=>0))
 case atStart=>exact⟨a,ql _,hle,HE0,H,qh (Off.refl _ _)⟩
 case round=>
  obtain⟨i,hai,his,hEi,hrd,hof⟩:=hrel;have Hm:Hid (wr.cell? ⟨rb,1,none⟩=some (.int .i64 i)):=qh hrd.out.cells.2.1;obtain⟨r0,r1,r2,r3⟩:=hrd.out.cells;cases hb:vc s a i with
  |true=>
   have hlt:i<s.size:=by
    unfold vc at hb;rw[qA] at hb;exact zb7 hb.1
   have po:=qh (zbZ hb);have hdg:=zjm hb hlt;have hd0:decide ((i:Int)<(s.size:Int))=true:=qt (by omega);have hd1:decide (48<=(s[i].toNat:Int))=true:=qt (by omega);have hd2:decide ((s[i].toNat:Int)<=57)=true:=qt (by omega);have hw:IntKind.i64.wrap ((i:Int)+1)=(i:Int)+1:=qi _ (by omega);have hfin:∀nq,Hid (Rd ((wr.drewN nq).setCell ⟨rb,1,none⟩ (.int .i64 ((i:Int)+1))) rb fb s (i+1))/\Hid (Off [rb] w ((wr.drewN nq).setCell ⟨rb,1,none⟩ (.int .i64 ((i:Int)+1)))):=λnq=>
    ⟨qh (by have:=(hrd.out.drewN nq).to (j:=i+1) (by omega);exact this),qh ((hof.out.trans (Off.drewN _ _ nq)).trans (Off.setCell _ rb 1 _))⟩
   have gT:=qh hfin;clear hdg hfin;by_cases hia:i=a
   rotate_right;have he:((i:Int)==(a:Int))=false:=by
    have:¬((i:Int)=(a:Int)):=(by omega);simpa using this
   have hla:a<s.size:=(by omega);have hz:((s[a].toNat:Int) !=48)=true:=by
    unfold vc at hb;rw[qA,QX hla] at hb;have h2:=hb.2;rw[kG] at h2;rcases h2 with h2|h2
    ·exact absurd (by simpa using h2) hia
    ·simpa [bne] using h2
   rotate_right;subst hia;have he:((i:Int)==(i:Int))=true:=(by simp)
   all_goals
    clear hb;go_wp2_with fail;go_quiet (fail)
    go_wp2_with fail;go_roundw
    case rel=>exact⟨i+1,by omega,by omega,qh (by rw[<-po.out];exact hEi.out),(gT.out _).1,(gT.out _).2⟩
    case measure=>
     have e1:=(gT.out nq).1.out.cells.2.1;rw[show((i+1:Nat):Int)=(i:Int)+1 from rfl] at e1;rw[e1,Hm.out];simp only[intOf];omega
  |false=>
   have hEi2:i=E:=(by rw[<-hEi.out,zaZ hb]);subst hEi2;have HS0:Hid (i=a->yL s least a=.error (180,a)):=qh (λe=>by unfold yL;rw[HE0.out,qy e]);have HS1:Hid (i≠a->yL s least a=if(vF (yM s a i):Int)<least∨512<(vF (yM s a i):Int) then .error (2,a) else .ok ((vF (yM s a i):Int),i)):=qh (λe=>by unfold yL;rw[HE0.out,qx e]);have HAt:Hid (i≠a->∀W,Vars W->Calls Tryz.prog 149 #[.string (s.extract a i)] W (zcH (s.extract a i) (vF (yM s a i)) W)):=qh (λe W hW=>by
    have:=zb1 s a hle hsz (by rw[HE0.out];exact e) W hW;rw[HE0.out] at this;exact this)
   clear hEi HE0;by_cases hlt:i<s.size
   rotate_right;have hd0:decide ((i:Int)<(s.size:Int))=false:=qd (by omega);clear hb
   rotate_right
   focus
    have hd0:decide ((i:Int)<(s.size:Int))=true:=qt (by omega);by_cases h1:48<=(s[i].toNat:Int)
    rotate_right;have hd1:decide (48<=(s[i].toNat:Int))=false:=qd h1;clear hb h1
    rotate_right
    focus
     have hd1:decide (48<=(s[i].toNat:Int))=true:=qt h1;by_cases h2:(s[i].toNat:Int)<=57
     rotate_right;have hd2:decide ((s[i].toNat:Int)<=57)=false:=qd h2;clear hb h1 h2
     rotate_right;have hd2:decide ((s[i].toNat:Int)<=57)=true:=qt h2;have hia:i≠a/\pg s a 48=true:=by
      have hin:pY s i 48 57=true:=(by rw[Vp hlt,hd1,hd2];rfl);unfold vc at hb;rw[hin,zU,zM] at hb;exact⟨by simpa using hb.1,by simpa using hb.2⟩
     obtain⟨hia,hz0⟩:=hia;have he:((i:Int)==(a:Int))=false:=by
      have:¬((i:Int)=(a:Int)):=(by omega);simpa using this
     have hla:a<s.size:=(by omega);rw[QX hla] at hz0;have hz:((s[a].toNat:Int) !=48)=false:=(by simp only[bne,hz0];rfl);clear hb h1 h2 hz0 hia
   all_goals
    go_wp2_with fail;go_quiet (fail)
    have zrg:=qh (hrd.out.drewN nq);have zr9:=qh (hof.out.trans (Off.drewN [rb] wr nq));obtain⟨u0,u1,u2,u3⟩:=zrg.out.cells;clear r0 r1 r2 r3 hrd hof Hm;try clear he
    generalize wr.drewN nq=W1 at*;by_cases hea:i=a
    ·have heq:((i:Int)==(a:Int))=true:=(by simp[hea]);have Hsp:=qh (HS0.out hea);have Hea:=qh hea;clear hea;go_wp2_with fail;refine(YH rb fb s i _ zrg.out).mono ?_;rintro e w2 ⟨rfl,hb2⟩;refine⟨rfl,zr9.out.trans (Off.of_below hb2 (ql _) _),?_⟩;rw[Hsp.out,Hea.out];rfl
    ·have heq:((i:Int)==(a:Int))=false:=by
      have:¬((i:Int)=(a:Int)):=(by omega);simpa using this
     have Hsp:=qh (HS1.out hea);have XX:=qh (λ(W:World) (hW:Below W1.heap.size W1 W)=>HAt.out hea W (Vars.off hv (zr9.out.trans (Off.of_below hW (ql _) [rb])) (by intro k hk;simp at hk;omega)));have i1:(0:Int)<=(a:Int):=(by omega);have i2:(a:Int)<=(i:Int):=(by omega);have i3:(i:Int)<=(s.size:Int):=(by omega);have hrbw:=zrg.out.lt;have hnil:=zfH;have hsome:=zeh;clear hea;go_wp2_with fail;go_region_held3 (λw'=>Below W1.heap.size W1 w'/\∀b o,b<W1.heap.size->w'.cell? ⟨b,o,none⟩=W1.cell? ⟨b,o,none⟩) (((repeat (apply JK;assumption));exact pa)) (first|(go_at_call 149;refine(XX.out _ (by first|exact pa.1|exact qZ (by assumption))).mono ?_;rintro e w9 ⟨pb,hres⟩;obtain⟨v1,x1,rfl⟩:=zdo (t:=s) hres;have JP:=qh hres;clear hres))
     have hS:Below W1.heap.size W1 w9:=qZ (by assumption);have Hrd9:=qh (zrg.out.below hS);have zrh:=qh (zr9.out.trans (Off.of_below hS (ql _) [rb]));rename_i hHeld;clear hHeld hS pb XX HAt HS0 HS1;rcases JP.out with⟨hv1,hlt63⟩|⟨hge,n,N,hv1⟩
     ·cases hv1;generalize vF (yM s a i)=V at*;clear JP;by_cases hA:(V:Int)<least
      ·have hd5:decide ((V:Int)<least)=true:=qt hA;have VI:=qh (Hsp.out.trans (qy (.inl hA)));clear hA Hsp;go_wp2_with fail;refine(gX 2 a _).mono ?_;rintro e w2 ⟨rfl,hb2⟩;exact⟨rfl,zrh.out.trans (Off.of_below hb2 (ql _) _),by rw[VI.out];rfl⟩
      ·have hd5:decide ((V:Int)<least)=false:=qd hA;by_cases hB:512<(V:Int)
       ·have hd6:decide (512<(V:Int))=true:=qt hB;have VI:=qh (Hsp.out.trans (qy (.inr hB)));clear hA hB Hsp;go_wp2_with fail;refine(gX 2 a _).mono ?_;rintro e w2 ⟨rfl,hb2⟩;exact⟨rfl,zrh.out.trans (Off.of_below hb2 (ql _) _),by rw[VI.out];rfl⟩
       ·have hd6:decide (512<(V:Int))=false:=qd hB;have VI:=qh (Hsp.out.trans (qx (λh=>h.elim hA hB)));clear hA hB Hsp;go_wp2_with fail;go_ret;exact⟨zrh.out,by rw[VI.out];exact⟨rfl,Hrd9.out⟩⟩
     ·cases hv1;have VI:=qh (Hsp.out.trans (qy (.inr (by omega))));clear Hsp JP hge;go_wp2_with fail;refine(gX 2 a _).mono ?_;rintro e w2 ⟨rfl,hb2⟩;exact⟨rfl,zrh.out.trans (Off.of_below hb2 (ql _) _),by rw[VI.out];rfl⟩
theorem zev {W:World} {T:Array Value} {Q:Ending->World->Prop} {P:Nat} {v0 v1:Value} (h2:T.getD 2 undef=.pointer (some ⟨P,0,none⟩)) (r:W.heap[P]?=some (.cells #[v0,v1] 42 (0,0))) (hQ:Q (.returned (.agg #[v0,v1])) W):
  bodyPost Tryz.prog Tryz.f150 Q Exit.ret {tmps:=T,defers:=[]} W:=by
 have d0:W.cell? ⟨P,0,none⟩=some v0:=qc _ _ _ _ _ (0,0) r;have d1:W.cell? ⟨P,1,none⟩=some v1:=qc _ _ _ _ _ (0,0) r;have h2':T[2]?.getD undef=.pointer (some ⟨P,0,none⟩):=by simpa using h2
 refine zt (v:=.agg #[v0,v1]) ?_ rfl hQ;simp[results,Tryz.f150,go_sem,h2',d0,d1,Tryz.isAgg42,Tryz.sizeOf42]
theorem zhk {w W:World} {rb fb j P:Nat} {s:ByteArray} {x y:Value} (hrd:Rd W rb fb s j) (ho:Off [rb] w W) (hP:P=w.heap.size) (hrb:rb<w.heap.size) (h:W.heap[P]?=some (.cells #[x,y] 42 (0,0))) (v0 v1:Value):
  Rd ((W.setCell ⟨P,0,none⟩ v0).setCell ⟨P,1,none⟩ v1) rb fb s j/\Off [rb] w ((W.setCell ⟨P,0,none⟩ v0).setCell ⟨P,1,none⟩ v1)/\((W.setCell ⟨P,0,none⟩ v0).setCell ⟨P,1,none⟩ v1).heap[P]?=some (.cells #[v0,v1] 42 (0,0)):=by
 have o1:Off [P] W ((W.setCell ⟨P,0,none⟩ v0).setCell ⟨P,1,none⟩ v1):=(Off.setCell W P 0 v0).trans (Off.setCell _ P 1 v1);have hPW:P<W.heap.size:=(qg h).1;refine⟨hrd.off o1 (by simp;omega),⟨o1.os.trans ho.os,o1.tape.trans ho.tape,o1.output.trans ho.output,qm ho.size o1.size,λk hk hn=>(o1.block k (by have:=ho.size;omega) (by simp;omega)).trans (ho.block k hk hn)⟩,?_⟩;exact qs _ P 1 #[v0,y] _ v1 (qs W P 0 #[x,y] _ v0 h)
theorem zmD (b:UInt8):bits BinOp.or IntKind.u8 (b.toNat:Int) 32=((b|||32).toNat:Int):=by
 have h:∀n,n<256->bits BinOp.or IntKind.u8 (((UInt8.ofNat n).toNat:Nat):Int) 32=(((UInt8.ofNat n|||32).toNat:Nat):Int):=by decide+kernel
 have:=h b.toNat b.toNat_lt;rw[xd] at this;exact this
theorem zfI {x:Int} (h0:0<=x) (h1:x<256):IntKind.u8.wrap x=x:=by
 have h:∀n,n<256->IntKind.u8.wrap ((n:Nat):Int)=((n:Nat):Int):=by decide+kernel
 have:=h x.toNat (by omega);rw[Int.toNat_of_nonneg h0] at this;exact this
def zlF (rb fb:Nat) (s:ByteArray) (w:World) (r:Except (Int×Nat) (Int×Int×Nat)) (e:Ending) (w':World):Prop:=Off [rb] w w'/\
 match r with
 |.ok (cls,ref,j)=>e=.returned (.agg #[.int .i64 cls,.int .i64 ref])/\Rd w' rb fb s j
 |.error (c,p)=>e=vU c p
theorem zjn (rb fb:Nat) (s:ByteArray) (i:Nat) (w:World) (h:Rd w rb fb s i):
  Calls Tryz.prog 150 #[.pointer (some ⟨rb,0,none⟩)] w (zlF rb fb s w (QH s i)):=by
 have hsz:=h.sz;have hle:=h.le;have hrb:=h.lt;have hne0:rb≠w.heap.size:=by omega
 have Za:Below w.heap.size w (w.alloc (.cells #[.int .i64 0,.int .i64 0] 42)):=(qb _ _).alloc (ql _) _;have hRA:(w.alloc (.cells #[.int .i64 0,.int .i64 0] 42)).heap[w.heap.size]?=some (.cells #[.int .i64 0,.int .i64 0] 42 (0,0)):=qn w _;have HX:Hid (Calls Tryz.prog 89 #[.pointer (some ⟨rb,0,none⟩),.int .u8 120] (w.alloc (.cells #[.int .i64 0,.int .i64 0] 42)) λe w'=>e=.returned (.bool (pg s i 120))/\Below (w.alloc (.cells #[.int .i64 0,.int .i64 0] 42)).heap.size (w.alloc (.cells #[.int .i64 0,.int .i64 0] 42)) w'):=qh (zdZ rb fb s i 120 _ (h.below Za));have H1:=qh (λ(W:World) (hW:Below (w.alloc (.cells #[.int .i64 0,.int .i64 0] 42)).heap.size (w.alloc (.cells #[.int .i64 0,.int .i64 0] 42)) W)=>
  qY ((h.below Za).below hW) (qY (Off.of_below (Za.trans (hW.mono Za.size)) (ql _) [rb]) ((hW.block _ (by simp)).trans hRA)))
 clear h Za hRA;cases hx:pg s i 120 with
 |true=>
  have HS:Hid (QH s i=.ok (-1,0,i+1)):=qh (by unfold QH;rw[qy hx]);have hlt:=XV hx;rw[hx] at HX;clear hx;have hw:IntKind.i64.wrap ((i:Int)+1)=(i:Int)+1:=qi _ (by omega);go_enter Tryz.func150,yr;go_wp2_with fail;refine HX.out.mono ?_;rintro e w2 ⟨rfl,hb2⟩;obtain⟨hrd,hof,hres⟩:=H1.out _ hb2;obtain⟨r0,r1,r2,r3⟩:=hrd.cells;have Zd:(w2.setCell ⟨rb,1,none⟩ (.int .i64 ((i:Int)+1))).heap[w.heap.size]?=some (.cells #[.int .i64 0,.int .i64 0] 42 (0,0)):=(qT _ _ _ _ (by show w.heap.size≠rb;omega)).trans hres;have y0:=qc _ _ 0 _ _ (0,0) Zd;have y1:=qc _ _ 1 _ _ (0,0) Zd;have z0:=qf _ _ 0 _ _ Zd;have z1:=qf _ _ 1 _ _ Zd;have hfin:=zhk (w:=w) (rb:=rb) (fb:=fb) (s:=s) (j:=i+1) (hrd.to (j:=i+1) (by omega)) (hof.trans (Off.setCell w2 rb 1 _)) rfl hrb Zd (.int .i64 (-1)) (.int .i64 0);have gT:=qh hfin;clear hrd hof hres Zd hb2 hfin;go_wp2_with fail;refine zev rfl gT.out.2.2 ⟨gT.out.2.1,?_⟩;rw[HS.out];exact⟨rfl,gT.out.1⟩
 |false=>
  rw[hx] at HX;by_cases hi:i<s.size
  ·have hne:((i:Int)==(s.size:Int))=false:=by
    have:¬((i:Int)=(s.size:Int)):=(by omega);simpa using this
   have Qe:=qh (λW=>zgq s[i] W);have Xt:=qh (λW=>zgq (s[i]|||32) W);have Kl:=qh (Z3 hi);generalize hb:s[i]=b at*;by_cases hc:0<=yP b
   ·have HS:Hid (QH s i=.ok (yP b,0,i+1)):=qh (by
     unfold QH;rw[qx (by rw[hx];simp),qx (by simpa using hi),Kl.out,qy hc])
    have hd:=qt hc;have hw:IntKind.i64.wrap ((i:Int)+1)=(i:Int)+1:=qi _ (by omega);clear hx hc;generalize yP b=n at*;go_enter Tryz.func150,yr;go_wp2_with fail;refine HX.out.mono ?_;rintro e w2 ⟨rfl,hb2⟩;obtain⟨hrd,hof,hres⟩:=H1.out _ hb2;obtain⟨r0,r1,r2,r3⟩:=hrd.cells;go_wp2_with fail;go_quiet (fail)
    have Qf:=hrd.drewN nq;have zqp:=hof.trans (Off.drewN [rb] w2 nq);have Zd:(w2.drewN nq).heap[w.heap.size]?=some (.cells #[.int .i64 0,.int .i64 0] 42 (0,0)):=hres;clear hrd hof hres hb2 r0 r1 r2 r3;generalize w2.drewN nq=W3 at*;clear nq w2;obtain⟨r0,r1,r2,r3⟩:=Qf.cells;go_wp2_with fail;go_quiet (fail)
    have JQ:=Qf.drewN nq;have XY:=zqp.trans (Off.drewN [rb] W3 nq);have JS:(W3.drewN nq).heap[w.heap.size]?=some (.cells #[.int .i64 0,.int .i64 0] 42 (0,0)):=Zd;clear Qf zqp Zd r0 r1 r2 r3;generalize W3.drewN nq=W4 at*;clear nq W3;go_wp2_with fail;refine(Qe.out W4).mono ?_;rintro e w5 ⟨rfl,hb5⟩;have Qa:=JQ.below hb5;have QO:=XY.trans (Off.of_below hb5 (ql _) [rb]);have pQ:=(hb5.block _ (qg JS).1).trans JS;clear JQ XY JS hb5;obtain⟨r0,r1,r2,r3⟩:=Qa.cells;have QD:(w5.setCell ⟨rb,1,none⟩ (.int .i64 ((i:Int)+1))).heap[w.heap.size]?=some (.cells #[.int .i64 0,.int .i64 0] 42 (0,0)):=(qT _ _ _ _ (by show w.heap.size≠rb;omega)).trans pQ;have y0:=qc _ _ 0 _ _ (0,0) QD;have y1:=qc _ _ 1 _ _ (0,0) QD;have z0:=qf _ _ 0 _ _ QD;have z1:=qf _ _ 1 _ _ QD;have hfin:=zhk (w:=w) (rb:=rb) (fb:=fb) (s:=s) (j:=i+1) (Qa.to (j:=i+1) (by omega)) (QO.trans (Off.setCell w5 rb 1 _)) rfl hrb QD (.int .i64 n) (.int .i64 0);have gT:=qh hfin;clear Qa QO pQ QD hfin;go_wp2_with fail;refine zev rfl gT.out.2.2 ⟨gT.out.2.1,?_⟩;rw[HS.out];exact⟨rfl,gT.out.1⟩
   ·have hd:decide (0<=yP b)=false:=qd hc;have HS:Hid (QH s i=if¬pY s i 65 90∨yP (b|||32)<0 then .error (180,i) else if¬pY s (i+1) 49 57 then .error (180,i+1) else .ok (yP (b|||32),(gZ s (i+1)).toNat-48,i+2)):=qh (by
     unfold QH;rw[qx (by rw[hx];simp),qx (by simpa using hi),Kl.out,qx hc])
    clear hx hc;generalize yP b=n at*;go_enter Tryz.func150,yr;go_wp2_with fail;refine HX.out.mono ?_;rintro e w2 ⟨rfl,hb2⟩;obtain⟨hrd,hof,hres⟩:=H1.out _ hb2;obtain⟨r0,r1,r2,r3⟩:=hrd.cells;go_wp2_with fail;go_quiet (fail)
    have Qf:=hrd.drewN nq;have zqp:=hof.trans (Off.drewN [rb] w2 nq);have Zd:(w2.drewN nq).heap[w.heap.size]?=some (.cells #[.int .i64 0,.int .i64 0] 42 (0,0)):=hres;clear hrd hof hres hb2 r0 r1 r2 r3;generalize w2.drewN nq=W3 at*;clear nq w2;obtain⟨r0,r1,r2,r3⟩:=Qf.cells;go_wp2_with fail;go_quiet (fail)
    have JQ:=Qf.drewN nq;have XY:=zqp.trans (Off.drewN [rb] W3 nq);have JS:(W3.drewN nq).heap[w.heap.size]?=some (.cells #[.int .i64 0,.int .i64 0] 42 (0,0)):=Zd;clear Qf zqp Zd r0 r1 r2 r3;generalize W3.drewN nq=W4 at*;clear nq W3;go_wp2_with fail;refine(Qe.out W4).mono ?_;rintro e w5 ⟨rfl,hb5⟩;have Qa:=JQ.below hb5;have QO:=XY.trans (Off.of_below hb5 (ql _) [rb]);have pQ:=(hb5.block _ (qg JS).1).trans JS;clear JQ XY JS hb5;obtain⟨r0,r1,r2,r3⟩:=Qa.cells;have hor:=zmD b;go_wp2_with fail;have hc5:=Xt.out w5;rw[show(b|||32).toNat=b.toNat|||32 from by simp] at hc5;refine hc5.mono ?_;rintro e w6 ⟨rfl,hb6⟩;have Z4:=Qa.below hb6;have JT:=QO.trans (Off.of_below hb6 (ql _) [rb]);have QD:=(hb6.block _ (qg pQ).1).trans pQ;clear Qa QO pQ hb6 r0 r1 r2 r3 Xt Qe;generalize yP (b|||32)=n2 at*;have VJ:pY s i 65 90=(decide (65<=(b.toNat:Int))&&decide ((b.toNat:Int)<=90)):=(by rw[Vp hi,hb]);by_cases h1:(b.toNat:Int)<65
    ·have hd1:decide ((b.toNat:Int)<65)=true:=qt h1;have HE:Hid (QH s i=.error (180,i)):=qh (by rw[HS.out,qy (.inl (by rw[VJ];simp;omega))]);clear h1 HS VJ;go_wp2_with fail;refine(YH rb fb s i _ Z4).mono ?_;rintro e w7 ⟨rfl,QW⟩;refine⟨rfl,JT.trans (Off.of_below QW (ql _) _),?_⟩;rw[HE.out];rfl
    ·have hd1:decide ((b.toNat:Int)<65)=false:=qd h1;by_cases h2:90<(b.toNat:Int)
     ·have hd2:decide (90<(b.toNat:Int))=true:=qt h2;have HE:Hid (QH s i=.error (180,i)):=qh (by rw[HS.out,qy (.inl (by rw[VJ];simp;omega))]);clear h1 h2 HS VJ;go_wp2_with fail;refine(YH rb fb s i _ Z4).mono ?_;rintro e w7 ⟨rfl,QW⟩;refine⟨rfl,JT.trans (Off.of_below QW (ql _) _),?_⟩;rw[HE.out];rfl
     ·have hd2:decide (90<(b.toNat:Int))=false:=qd h2;by_cases h3:n2<0
      ·have hd3:decide (n2<0)=true:=qt h3;have HE:Hid (QH s i=.error (180,i)):=qh (by rw[HS.out,qy (.inr h3)]);clear h1 h2 h3 HS VJ;go_wp2_with fail;refine(YH rb fb s i _ Z4).mono ?_;rintro e w7 ⟨rfl,QW⟩;refine⟨rfl,JT.trans (Off.of_below QW (ql _) _),?_⟩;rw[HE.out];rfl
      ·have hd3:decide (n2<0)=false:=qd h3;have HS2:Hid (QH s i=if¬pY s (i+1) 49 57 then .error (180,i+1) else .ok (n2,(gZ s (i+1)).toNat-48,i+2)):=qh (by rw[HS.out,qx (by rw[VJ];simp;omega)]);clear h1 h2 h3 HS VJ;have hw:IntKind.i64.wrap ((i:Int)+1)=(i:Int)+1:=qi _ (by omega);obtain⟨r0,r1,r2,r3⟩:=Z4.cells;have Km:Rd (w6.setCell ⟨rb,1,none⟩ (.int .i64 ((i:Int)+1))) rb fb s (i+1):=Z4.to (j:=i+1) (by omega);have YI:=JT.trans (Off.setCell w6 rb 1 (.int .i64 ((i:Int)+1)));have JU:(w6.setCell ⟨rb,1,none⟩ (.int .i64 ((i:Int)+1))).heap[w.heap.size]?=some (.cells #[.int .i64 0,.int .i64 0] 42 (0,0)):=(qT _ _ _ _ (by show w.heap.size≠rb;omega)).trans QD;clear Z4 JT QD;go_wp2_with fail;clear r0 r1 r2 r3;generalize hW7:w6.setCell ⟨rb,1,none⟩ (.int .i64 ((i:Int)+1))=W7 at*;clear hW7 w6;obtain⟨r0,r1,r2,r3⟩:=Km.cells;have hci:((i+1:Nat):Int)=(i:Int)+1:=(by omega);rw[hci] at r1;by_cases hi2:i+1<s.size
       ·have hne2:((i:Int)+1==(s.size:Int))=false:=by
         have:¬((i:Int)+1=(s.size:Int)):=(by omega);simpa using this
        have hin2:pY s (i+1) 49 57=(decide (49<=(s[i+1].toNat:Int))&&decide ((s[i+1].toNat:Int)<=57)):=Vp hi2;have hby2:=Z3 hi2;generalize hb2:s[i+1]=b2 at*;have i1:(0:Int)<=(i:Int)+1:=(by omega);have i2:(i:Int)+1<(s.size:Int):=(by omega);have i3:((i:Int)+1).toNat=i+1:=(by omega);by_cases g1:(b2.toNat:Int)<49
        ·have hd4:decide ((b2.toNat:Int)<49)=true:=qt g1;have HE2:Hid (QH s i=.error (180,i+1)):=qh (by rw[HS2.out,qy (by rw[hin2];simp;omega)]);clear g1 HS2 hin2;go_wp2_with fail;go_quiet (fail)
         have XZ:=Km.drewN nq;have K4:=YI.trans (Off.drewN [rb] W7 nq);have zpX:(W7.drewN nq).heap[w.heap.size]?=some (.cells #[.int .i64 0,.int .i64 0] 42 (0,0)):=JU;clear Km YI JU r0 r1 r2 r3;generalize W7.drewN nq=W8 at*;clear nq W7;go_wp2_with fail;refine(YH rb fb s (i+1) _ XZ).mono ?_;rintro e w9 ⟨rfl,pb⟩;refine⟨rfl,K4.trans (Off.of_below pb (ql _) _),?_⟩;rw[HE2.out];rfl
        ·have hd4:decide ((b2.toNat:Int)<49)=false:=qd g1;by_cases g2:57<(b2.toNat:Int)
         ·have hd5:decide (57<(b2.toNat:Int))=true:=qt g2;have HE2:Hid (QH s i=.error (180,i+1)):=qh (by rw[HS2.out,qy (by rw[hin2];simp;omega)]);clear g1 g2 HS2 hin2;go_wp2_with fail;go_quiet (fail)
          have XZ:=Km.drewN nq;have K4:=YI.trans (Off.drewN [rb] W7 nq);have zpX:(W7.drewN nq).heap[w.heap.size]?=some (.cells #[.int .i64 0,.int .i64 0] 42 (0,0)):=JU;clear Km YI JU r0 r1 r2 r3;generalize W7.drewN nq=W8 at*;clear nq W7;go_wp2_with fail;refine(YH rb fb s (i+1) _ XZ).mono ?_;rintro e w9 ⟨rfl,pb⟩;refine⟨rfl,K4.trans (Off.of_below pb (ql _) _),?_⟩;rw[HE2.out];rfl
         ·have hd5:decide (57<(b2.toNat:Int))=false:=qd g2;have HE2:Hid (QH s i=.ok (n2,(b2.toNat:Int)-48,i+2)):=qh (by rw[HS2.out,qx (by rw[hin2];simp;omega),hby2]);have g3:49<=(b2.toNat:Int)/\(b2.toNat:Int)<=57:=(by omega);clear g1 g2 HS2 hin2;go_wp2_with fail;go_quiet (fail)
          have XZ:=Km.drewN nq;have K4:=YI.trans (Off.drewN [rb] W7 nq);have zpX:(W7.drewN nq).heap[w.heap.size]?=some (.cells #[.int .i64 0,.int .i64 0] 42 (0,0)):=JU;clear Km YI JU r0 r1 r2 r3;generalize W7.drewN nq=W8 at*;clear nq W7;obtain⟨r0,r1,r2,r3⟩:=XZ.cells;rw[hci] at r1;have hw2:IntKind.i64.wrap ((i:Int)+1+1)=(i:Int)+1+1:=qi _ (by omega);have hrd9:Rd (W8.setCell ⟨rb,1,none⟩ (.int .i64 ((i:Int)+1+1))) rb fb s (i+2):=by
           have:=XZ.to (j:=i+2) (by omega);rw[show((i+2:Nat):Int)=(i:Int)+1+1 by omega] at this;exact this
          have hof9:=K4.trans (Off.setCell W8 rb 1 (.int .i64 ((i:Int)+1+1)));have YJ:(W8.setCell ⟨rb,1,none⟩ (.int .i64 ((i:Int)+1+1))).heap[w.heap.size]?=some (.cells #[.int .i64 0,.int .i64 0] 42 (0,0)):=(qT _ _ _ _ (by show w.heap.size≠rb;omega)).trans zpX;clear XZ K4 zpX;go_wp2_with fail;clear r0 r1 r2 r3;generalize hW9:W8.setCell ⟨rb,1,none⟩ (.int .i64 ((i:Int)+1+1))=W9 at*;clear hW9 W8;obtain⟨r0,r1,r2,r3⟩:=hrd9.cells;rw[show((i+2:Nat):Int)=(i:Int)+1+1 by omega] at r1;have hw3:IntKind.i64.wrap ((i:Int)+1+1-1)=(i:Int)+1:=(by rw[Int.add_sub_cancel];exact qi _ (by omega));have hw4:IntKind.u8.wrap ((b2.toNat:Int)-48)=(b2.toNat:Int)-48:=zfI (by omega) (by omega);have hw5:IntKind.i64.wrap ((b2.toNat:Int)-48)=(b2.toNat:Int)-48:=qi _ (by omega);have y0:=qc _ _ 0 _ _ (0,0) YJ;have y1:=qc _ _ 1 _ _ (0,0) YJ;have z0:=qf _ _ 0 _ _ YJ;have z1:=qf _ _ 1 _ _ YJ;have hfin:=zhk (w:=w) (rb:=rb) (fb:=fb) (s:=s) (j:=i+2) (W:=W9) hrd9 hof9 rfl hrb YJ (.int .i64 n2) (.int .i64 ((b2.toNat:Int)-48));have hfd:Rd ((W9.setCell ⟨w.heap.size,0,none⟩ (.int .i64 n2)).setCell ⟨w.heap.size,1,none⟩ (.int .i64 ((b2.toNat:Int)-48))).drew rb fb s (i+2):=⟨hfin.1.r,hfin.1.le,hfin.1.sz⟩;have hkc:=hfd.cells;rw[show((i+2:Nat):Int)=(i:Int)+1+1 by omega] at hkc;have HK:=qh (qY hkc.1 hkc.2.1);have Hfd:=qh hfd;have gT:=qh hfin;clear hfin hfd hkc;go_region_held3 (λW'=>W'.cell? ⟨rb,0,none⟩=some (.string s)/\W'.cell? ⟨rb,1,none⟩=some (.int .i64 ((i:Int)+1+1))) (first|exact HK.out|go_keep) (fail)
          go_wp2_with fail;refine zev rfl gT.out.2.2 ⟨gT.out.2.1.trans (Off.drew _ _),?_⟩;rw[HE2.out];exact⟨rfl,Hfd.out⟩
       ·have hne2:((i:Int)+1==(s.size:Int))=true:=by
         have:(i:Int)+1=(s.size:Int):=(by omega);simpa using this
        have HE2:Hid (QH s i=.error (180,i+1)):=qh (by rw[HS2.out,qy (by rw[zcF hi2];simp)]);clear HS2;go_wp2_with fail;go_quiet (fail)
        have XZ:=Km.drewN nq;have K4:=YI.trans (Off.drewN [rb] W7 nq);clear Km YI JU r0 r1 r2 r3;generalize W7.drewN nq=W8 at*;clear nq W7;go_wp2_with fail;refine(YH rb fb s (i+1) _ XZ).mono ?_;rintro e w9 ⟨rfl,pb⟩;refine⟨rfl,K4.trans (Off.of_below pb (ql _) _),?_⟩;rw[HE2.out];rfl
  ·have hne:((i:Int)==(s.size:Int))=true:=by
    have:(i:Int)=(s.size:Int):=(by omega);simpa using this
   have HS:Hid (QH s i=.error (180,i)):=qh (by
    unfold QH;rw[qx (by rw[hx];simp),qy hi])
   go_enter Tryz.func150,yr;go_wp2_with fail;refine HX.out.mono ?_;rintro e w2 ⟨rfl,hb2⟩;obtain⟨hrd,hof,hres⟩:=H1.out _ hb2;obtain⟨r0,r1,r2,r3⟩:=hrd.cells;go_wp2_with fail;go_quiet (fail)
   go_wp2_with fail;refine(YH rb fb s i _ (hrd.drewN nq)).mono ?_;rintro e w3 ⟨rfl,hb3⟩;refine⟨rfl,(hof.trans (Off.drewN _ w2 nq)).trans (Off.of_below hb3 (ql _) _),?_⟩;rw[HS.out];rfl
def gY (ms:List Mk) (c:Int):Int:=match ms.find? (λm=>m.sign==c) with|some m=>m.n|none=>0
def pA (ms:List Mk):List Int:=(ms.filter (λm=>m.sign==126)).map (·.n)
def Qt (ms:List Mk):Int:=match ms.find? Xr with|some m=>m.at_|none=>-1
def ZL (gN:List UInt8) (ms:List Mk):Int:=match ms.find? (λm=>m.sign==58) with|some m=>Lib.indexByte gN m.n.toNat.toUInt8|none=>-1
def pG (ms:List Mk) (c:Int):Bool:=ms.any (λm=>m.sign==c)
theorem zbR {α:Type} (p:α->Bool) (l:List α) (x:α):(l++[x]).find? p=(l.find? p).or (if p x then some x else none):=by
 rw[List.find?_append];congr 1
 rw[zZ];cases p x<;>simp
theorem zh0 {ms:List Mk} {c:Int} (h:pG ms c=false):ms.find? (λm=>m.sign==c)=none:=by
 unfold pG at h;rw[jh] at h;rw[kW];exact λx hx=>h x hx
theorem zbh (ms:List Mk) (m:Mk) (c:Int):pG (ms++[m]) c=(pG ms c||m.sign==c):=by
 unfold pG;rw[xx];simp
theorem zjo {ms:List Mk} {m:Mk} {c:Int} (h:pG ms c=false) (hm:m.sign=c):gY (ms++[m]) c=m.n:=by
 unfold gY;rw[zbR,zh0 h,qy (by simp[hm])];rfl
theorem K5 {ms:List Mk} {m:Mk} {c:Int} (hm:m.sign≠c):gY (ms++[m]) c=gY ms c:=by
 unfold gY;rw[zbR,qx (by simpa using hm)];simp
theorem zlG {gN:List UInt8} {ms:List Mk} {m:Mk} (h:pG ms 58=false) (hm:m.sign=58):ZL gN (ms++[m])=Lib.indexByte gN m.n.toNat.toUInt8:=by
 unfold ZL;rw[zbR,zh0 h,qy (by simp[hm])];rfl
theorem zew {gN:List UInt8} {ms:List Mk} {m:Mk} (hm:m.sign≠58):ZL gN (ms++[m])=ZL gN ms:=by
 unfold ZL;rw[zbR,qx (by simpa using hm)];simp
theorem zlH (ms:List Mk) {m:Mk} (hm:m.sign=126):pA (ms++[m])=pA ms++[m.n]:=by
 unfold pA;rw[xM,jv];simp[hm]
theorem zjp (ms:List Mk) {m:Mk} (hm:m.sign≠126):pA (ms++[m])=pA ms:=by
 unfold pA;rw[xM,jv];simp[hm]
theorem zex (ms:List Mk) {m:Mk} (hm:Xr m=false):Qt (ms++[m])=Qt ms:=by
 unfold Qt;rw[zbR,qx (by rw[hm];simp)];simp
theorem zfJ (ms:List Mk) {m:Mk} (hm:Xr m=true):Qt (ms++[m])=if Qt ms<0 then(m.at_:Int) else Qt ms:=by
 unfold Qt;rw[zbR,qy hm];cases h:ms.find? Xr with
 |none=>simp
 |some x=>
  show(x.at_:Int)=if(x.at_:Int)<0 then(m.at_:Int) else(x.at_:Int)
  rw[qx (by omega)]
structure uw (m:Mk):Prop where
 sg:m.sign=58∨m.sign=47∨m.sign=94∨m.sign=64∨m.sign=126∨m.sign=39
 lt:m.sign=58∨m.sign=39->97<=m.n/\m.n<=122
 nm:m.sign≠58->m.sign≠39->1<=m.n/\m.n<=512
theorem zlI {ms:List Mk} (hk:∀m∈ms,uw m) {c:Int}:(0<gY ms c)=(pG ms c=true)/\(gY ms c !=0)=pG ms c:=by
 unfold gY pG;cases h:ms.find? (λm=>m.sign==c) with
 |none=>
  have:ms.any (λm=>m.sign==c)=false:=by
   rw[jh];exact λx hx=>by have:=kW.1 h x hx;simpa using this
  rw[this];exact⟨by simp,by simp⟩
 |some x=>
  have hx:=zn h;have hs:=kH h;have:ms.any (λm=>m.sign==c)=true:=kA.2 ⟨x,hx,hs⟩;rw[this];have hn:1<=x.n:=by
   have k:=hk x hx;by_cases JV:x.sign=58∨x.sign=39
   ·have:=k.lt JV;omega
   ·have:=k.nm (λe=>JV (.inl e)) (λe=>JV (.inr e));omega
  refine⟨by simp;omega,?_⟩;have:x.n≠0:=by omega
  simpa using this
theorem zfK (ms:List Mk) (c:Int):decide (1<=pO ms c)=pG ms c:=by
 unfold pO pG;rw[kF,qC,kA];constructor
 ·intro h;obtain⟨x,hx,h2⟩:=xE.1 h;exact⟨x,hx,h2⟩
 ·rintro⟨x,hx,h2⟩;exact xE.2 ⟨x,hx,h2⟩
theorem zfL (ms:List Mk):(pA ms).length=pO ms 126:=by
 unfold pA pO;rw[xy,List.countP_eq_length_filter]
def vY (l:List Int):List Value:=l.map λn=>.int .i64 n
def Qs (gN:List UInt8) (cls ref:Int) (ms:List Mk) (a:Nat) (vh:Value):Array Value:=
 #[.int .i64 cls,.int .i64 ref,.int .i64 (ZL gN ms),.int .u8 (gY ms 58),.int .i64 (gY ms 47),.int .i64 (gY ms 94),.int .i64 (gY ms 64),vh,.int .i32 (gY ms 39),.int .i64 a,.int .i64 (Qt ms),.bool (pG ms 58),.bool (pG ms 47)]
structure Xh (w:World) (B xb:Nat) (gN:List UInt8) (cls ref:Int) (ms:List Mk) (a:Nat) (vh:Value):Prop where
 x:w.heap[xb]?=some (.cells (Qs gN cls ref ms a vh) 108 (0,0))
 h:w.ownsRow B 3 1 vh (pA ms).length (vY (pA ms))
 ok:∀m∈ms,uw m
 four:pO ms 126<=4
 hB:B<=xb
theorem zkF {cs:Array Value} {i:Nat} {v:Value} (h:cs[i]?=some v):cs.setIfInBounds i v=cs:=by
 apply Array.ext_getElem?;intro j;rw[Array.getElem?_setIfInBounds];by_cases e:i=j
 ·subst e;have:i<cs.size:=(qg h).1;rw[qy rfl,qy this,h]
 ·rw[qx e]
theorem zkG (B xb:Nat) (gN:List UInt8) (cls ref:Int) (ms:List Mk) (a p:Nat) (vh:Value) (w:World) (x10:Value)
  (h:w.cell? ⟨xb,10,none⟩=some (.int .i64 (Qt ms))) (hf:w.frozen? ⟨xb,10,none⟩=false):
  Calls Tryz.prog 209 #[.pointer (some ⟨xb,0,none⟩),.int .i64 p] w λe w'=>e=.returned (.tuple #[])/\w'=if Qt ms<0 then w.setCell ⟨xb,10,none⟩ (.int .i64 p) else w:=by
 by_cases h0:Qt ms<0
 ·rw[qy h0];go_enter Tryz.func209,Tryz.ntmps209;go_wp2_with fail;refine q9 (qI rfl _ _ _) rfl ?_;exact⟨rfl,rfl⟩
 ·rw[qx h0];go_enter Tryz.func209,Tryz.ntmps209;go_wp2_with fail;refine q9 (qI rfl _ _ _) rfl ?_;exact⟨rfl,rfl⟩
def zjq (rb fb xb:Nat) (s:ByteArray) (i:Nat) (there:Bool) (cs:Array Value) (f0:Int) (w:World) (e:Ending) (w':World):Prop:=Off [rb,xb] w w'/\
 if there then e=vU 180 i
 else e=.returned (.tuple #[])/\Rd w' rb fb s (i+1)/\w'.heap[xb]?=some (.cells (cs.setIfInBounds 10 (.int .i64 (if f0<0 then(i:Int) else f0))) 108 (0,0))
theorem zcI (rb fb xb:Nat) (s:ByteArray) (i:Nat) (there:Bool) (ms:List Mk) (cs:Array Value) (w:World) (h:Rd w rb fb s i) (hi:i<s.size) (hx:w.heap[xb]?=some (.cells cs 108 (0,0))) (hc:cs[10]?=some (.int .i64 (Qt ms))) (hne:rb≠xb):
  Calls Tryz.prog 204 #[.pointer (some ⟨xb,0,none⟩),.pointer (some ⟨rb,0,none⟩),.bool there] w (zjq rb fb xb s i there cs (Qt ms) w):=by
 obtain⟨q0,q1,q2,q3⟩:=h.cells;have Z5:=qh (zeg rb fb s i there w h hi);have hxl:xb<w.heap.size:=(qg hx).1;go_enter Tryz.func204,Tryz.ntmps204;go_wp2_with fail;refine Z5.out.mono ?_;rintro e w2 hst;unfold YG zgp at hst;cases there with
 |true=>
  simp only[kt] at hst;obtain⟨rfl,ho⟩:=hst;exact⟨rfl,ho.mono (λk hk=>.inl (by simp at hk|-;exact .inl hk)),by rw[qy rfl];rfl⟩
 |false=>
  simp only[kC,yG] at hst;obtain⟨rfl,hrd,ho⟩:=hst;have hx2:=(ho.block xb hxl (by simp;omega)).trans hx;have x10:w2.cell? ⟨xb,10,none⟩=some (.int .i64 (Qt ms)):=(qc _ _ 10 _ _ (0,0) hx2).trans hc;have hbk:=qh (zkG 0 xb [] 0 0 ms 0 i .nilFunc w2 .nilFunc x10 (qf _ _ 10 _ _ hx2));have Hrd:=qh hrd;have Zj:=qh hx2;have Ho:=qh ho;have Hc:=qh hc;clear hrd hx2 x10 ho h hx hc q0 q1 q2 q3;go_wp2_with fail;refine hbk.out.mono ?_;rintro e w3 ⟨rfl,hw3⟩;have Kn:Off [rb,xb] w w2:=Ho.out.mono (λk hk=>.inl (by simp at hk|-;exact .inl hk));by_cases h0:Qt ms<0
  ·rw[qy h0] at hw3;subst hw3;have gT:Hid (zjq rb fb xb s i false cs (Qt ms) w (.returned (.tuple #[])) (w2.setCell ⟨xb,10,none⟩ (.int .i64 i))):=qh (by
    refine⟨Kn.trans ((Off.setCell w2 xb 10 _).mono (λk hk=>.inl (by simp at hk|-;exact .inr hk))),?_⟩;rw[qx (by simp)];refine⟨rfl,Hrd.out.off (Off.setCell w2 xb 10 _) (by simp;exact hne),?_⟩;rw[qy h0];exact qs w2 xb 10 _ _ _ Zj.out)
   clear h0 Kn;go_wp2_with fail;refine q9 (qI rfl _ _ _) rfl ?_;exact gT.out
  ·rw[qx h0] at hw3;subst hw3;have gT:Hid (zjq rb fb xb s i false cs (Qt ms) w (.returned (.tuple #[])) w3):=qh (by
    refine⟨Kn,?_⟩;rw[qx (by simp)];refine⟨rfl,Hrd.out,?_⟩;rw[qx h0,Zj.out,zkF Hc.out])
   clear h0 Kn;go_wp2_with fail;refine q9 (qI rfl _ _ _) rfl ?_;exact gT.out
end Go.Proofs.YtgklikkddckgbaaGreatDoor.Mo


import Derived.Test.YtgklikkddckgbaaGreatDoorLDA
import Derived.Test.YtgklikkddckgbaaGreatDoorRows
import Derived.Deep.RegionHeld3
import Derived.Handy
import Derived.Lib.SmallJoins
import Derived.OrdersIn
import Derived.RangeFuncBound
import Derived.RangeFuncCalls
import Derived.RangeFuncFrom
import Derived.WalkLawsBesides
import Derived.WalkSpells
/- Lemmas. -/
set_option linter.all false
set_option maxRecDepth 100000
set_option maxHeartbeats 4000000
namespace Go.Proofs.YtgklikkddckgbaaGreatDoor
open Go.RowKit
theorem YC {a b:Bool} (h:a=b):Ending.returned (.bool a)=.returned (.bool b):=by rw[h]
theorem zgh (s:ByteArray) (m:Int) (w:World) (hs:s.size<=9223372036854775807):
  Calls Tryz.prog 105 #[.string s,.int .i64 m] w λe w'=>e=.returned (.bool (QC s 1 m))/\w=w':=by
 go_enter Tryz.func105,Tryz.ntmps105;go_wp2_with fail;go_loop [8] (λi=>∃k:Nat,k<=s.size/\i=.int .i64 k/\zbo s k=true) (λi=>s.size-(intOf i).toNat)
 case atStart=>exact⟨0,qF _,rfl,zdW s⟩
 case round=>
  obtain⟨k,hk,rfl,hall⟩:=hrel;have JJ:=qh hall;clear hall;by_cases hlt:k<s.size
  ·have hsu:=zdX s k hlt;have Hsf:=qh (zdg s k hlt);cases h1:((s[k].toNat:Int) !=120) with
   |false=>
    have Hx:=qh (show zbo s (k+1)=true by rw[hsu,JJ.out];unfold zdf;rw[h1];rfl);clear hsu;go_wp2_with fail;go_round
    case rel=>exact⟨k+1,by omega,by go_num,Hx.out⟩
    case measure=>simp[intOf];omega
   |true=>
    cases h2:((s[k].toNat:Int) !=47) with
    |false=>
     have Hx:=qh (show zbo s (k+1)=true by rw[hsu,JJ.out];unfold zdf;rw[h1,h2];rfl);clear hsu;go_wp2_with fail;go_round
     case rel=>exact⟨k+1,by omega,by go_num,Hx.out⟩
     case measure=>simp[intOf];omega
    |true=>
     have Hx:=qh (Hsf.out (by unfold zdf;rw[h1,h2];rfl));clear hsu;go_wp2_with fail;go_ret;exact⟨YC (by unfold QC;rw[Hx.out];rfl),rfl⟩
  ·obtain rfl:k=s.size:=by omega
   have hsb:QC s 1 m=(decide ((1:Int)<=(s.size:Int))&&decide ((s.size:Int)<=m)):=(by unfold QC;rw[JJ.out];rfl);have Hsb:=qh hsb;clear hsb;go_wp2_with fail
   all_goals (go_ret;refine⟨YC ?_,rfl⟩;rw[Hsb.out];rw[kF];simp;omega)
theorem zdY (s:ByteArray) (lo m:Int) (w:World) (hs:s.size<=9223372036854775807):
  Calls Tryz.prog 187 #[.string s,.int .i64 lo,.int .i64 m] w λe w'=>e=.returned (.bool (QC s lo m))/\w=w':=by
 go_enter Tryz.func187,Tryz.ntmps187;go_wp2_with fail;go_loop [7] (λi=>∃k:Nat,k<=s.size/\i=.int .i64 k/\zbo s k=true) (λi=>s.size-(intOf i).toNat)
 case atStart=>exact⟨0,qF _,rfl,zdW s⟩
 case round=>
  obtain⟨k,hk,rfl,hall⟩:=hrel;have JJ:=qh hall;clear hall;by_cases hlt:k<s.size
  ·have hsu:=zdX s k hlt;have Hsf:=qh (zdg s k hlt);cases h1:((s[k].toNat:Int) !=120) with
   |false=>
    have Hx:=qh (show zbo s (k+1)=true by rw[hsu,JJ.out];unfold zdf;rw[h1];rfl);clear hsu;go_wp2_with fail;go_round
    case rel=>exact⟨k+1,by omega,by go_num,Hx.out⟩
    case measure=>simp[intOf];omega
   |true=>
    cases h2:((s[k].toNat:Int) !=47) with
    |false=>
     have Hx:=qh (show zbo s (k+1)=true by rw[hsu,JJ.out];unfold zdf;rw[h1,h2];rfl);clear hsu;go_wp2_with fail;go_round
     case rel=>exact⟨k+1,by omega,by go_num,Hx.out⟩
     case measure=>simp[intOf];omega
    |true=>
     have Hx:=qh (Hsf.out (by unfold zdf;rw[h1,h2];rfl));clear hsu;go_wp2_with fail;go_ret;exact⟨YC (by unfold QC;rw[Hx.out];rfl),rfl⟩
  ·obtain rfl:k=s.size:=by omega
   have hsb:QC s lo m=(decide (lo<=(s.size:Int))&&decide ((s.size:Int)<=m)):=(by unfold QC;rw[JJ.out];rfl);have Hsb:=qh hsb;clear hsb;go_wp2_with fail
   all_goals (go_ret;refine⟨YC ?_,rfl⟩;rw[Hsb.out];rw[kF];simp;omega)
theorem zbG (t:ByteArray) (w:World):Calls Tryz.prog 156 #[.string t] w λe w'=>e=.returned (.bool (pm t))/\w=w':=by
 by_cases h0:t.size=0
 ·have h1:=zcS h0;have h2:=zba h0;have Hf:=qh (zdI t h1);clear h0 h1;go_enter Tryz.func156,Tryz.ntmps156;go_wp2_with fail;go_ret;exact⟨YC Hf.out.symm,rfl⟩
 ·have h1:0<t.size:=by omega
  have Hf:=qh (zf9 t h1);have h2:=zdh h1;clear h0;go_enter Tryz.func156,Tryz.ntmps156;go_wp2_with fail
  all_goals (go_ret;refine⟨YC ?_,rfl⟩;rw[Hf.out];rw[kF];simp;omega)
theorem zbl (b:Nat) (t:ByteArray) (w:World) (hc:w.cell? ⟨b,2,none⟩=some (.string t)):
  Calls Tryz.prog 147 #[.pointer (some ⟨b,0,none⟩)] w λe w'=>e=.returned (.bool (pm t))/\w=w':=by
 by_cases h0:t.size=0
 ·have h1:=zcS h0;have h2:=zba h0;have Hf:=qh (zdI t h1);clear h0 h1;go_enter Tryz.func147,Tryz.ntmps147;go_wp2_with fail;go_ret;exact⟨YC Hf.out.symm,rfl⟩
 ·have h1:0<t.size:=by omega
  have Hf:=qh (zf9 t h1);have h2:=zdh h1;clear h0;go_enter Tryz.func147,Tryz.ntmps147;go_wp2_with fail
  all_goals (go_ret;refine⟨YC ?_,rfl⟩;rw[Hf.out];rw[kF];simp;omega)
def zgi (t:ByteArray):Bool:=t.toList.isEmpty||(t.toList==[44])||(t.toList==[59])
theorem zhf (t:ByteArray) (w:World):Calls Tryz.prog 188 #[.string t] w λe w'=>e=.returned (.bool (zgi t))/\w=w':=by
 go_enter Tryz.func188,Tryz.ntmps188;go_wp2_with fail
 all_goals (go_ret;refine⟨YC ?_,rfl⟩;unfold zgi;simp[*])
def RB (w:World) (b:Nat) (s:ByteArray) (a:Int) (t:ByteArray) (vf ve vb:Value) (ah:Int):Prop:=w.heap[b]?=some (.cells #[.string s,.int .i64 a,.string t,vf,ve,vb,.int .i64 ah] 210 (0,0))
theorem RB.c0 {w:World} {b:Nat} {s t:ByteArray} {a ah:Int} {vf ve vb:Value} (h:RB w b s a t vf ve vb ah):w.cell? ⟨b,0,none⟩=some (.string s):=qc w b 0 _ 210 (0,0) h
theorem RB.c1 {w:World} {b:Nat} {s t:ByteArray} {a ah:Int} {vf ve vb:Value} (h:RB w b s a t vf ve vb ah):w.cell? ⟨b,1,none⟩=some (.int .i64 a):=qc w b 1 _ 210 (0,0) h
theorem RB.c2 {w:World} {b:Nat} {s t:ByteArray} {a ah:Int} {vf ve vb:Value} (h:RB w b s a t vf ve vb ah):w.cell? ⟨b,2,none⟩=some (.string t):=qc w b 2 _ 210 (0,0) h
theorem RB.c3 {w:World} {b:Nat} {s t:ByteArray} {a ah:Int} {vf ve vb:Value} (h:RB w b s a t vf ve vb ah):w.cell? ⟨b,3,none⟩=some vf:=qc w b 3 _ 210 (0,0) h
theorem RB.c4 {w:World} {b:Nat} {s t:ByteArray} {a ah:Int} {vf ve vb:Value} (h:RB w b s a t vf ve vb ah):w.cell? ⟨b,4,none⟩=some ve:=qc w b 4 _ 210 (0,0) h
theorem RB.c5 {w:World} {b:Nat} {s t:ByteArray} {a ah:Int} {vf ve vb:Value} (h:RB w b s a t vf ve vb ah):w.cell? ⟨b,5,none⟩=some vb:=qc w b 5 _ 210 (0,0) h
theorem RB.c6 {w:World} {b:Nat} {s t:ByteArray} {a ah:Int} {vf ve vb:Value} (h:RB w b s a t vf ve vb ah):w.cell? ⟨b,6,none⟩=some (.int .i64 ah):=qc w b 6 _ 210 (0,0) h
theorem RB.z {w:World} {b:Nat} {s t:ByteArray} {a ah:Int} {vf ve vb:Value} (h:RB w b s a t vf ve vb ah) (j:Nat):w.frozen? ⟨b,j,none⟩=false:=qf w b j _ 210 h
theorem zky (c:UInt8) (w:World) (h:zdi c=false):Calls Tryz.prog 114 #[.string ⟨#[32,44,59]⟩,.int .u8 c.toNat] w λe w'=>e=.returned (.int .i64 (-1))/\w=w':=by
 refine(Tryz.strings_IndexByte ⟨#[32,44,59]⟩ c.toNat w).mono ?_;rintro e w' ⟨rfl,rfl⟩;refine⟨?_,rfl⟩;have e:((c.toNat:Int).toNat.toUInt8)=c:=by simp
 rw[e];have hs:=ze6 c;rw[h] at hs;have h1:¬(0:Int)<=Lib.indexByte [32,44,59] c:=zA hs;show Ending.returned (.int .i64 (Lib.indexByte [32,44,59] c))=_;rw[zi8 _ c (by omega)]
theorem zja (c:UInt8) (w:World) (h:zdi c=true):Calls Tryz.prog 114 #[.string ⟨#[32,44,59]⟩,.int .u8 c.toNat] w λe w'=>∃n:Int,(e=.returned (.int .i64 n)/\w=w')/\0<=n:=by
 refine(Tryz.strings_IndexByte ⟨#[32,44,59]⟩ c.toNat w).mono ?_;rintro e w' ⟨rfl,rfl⟩;have e:((c.toNat:Int).toNat.toUInt8)=c:=by simp
 rw[e];have hs:=ze6 c;rw[h] at hs;exact⟨_,⟨rfl,rfl⟩,zk hs⟩
def zjb (b:Nat) (s:ByteArray) (p:Nat) (vf ve vb:Value) (ah:Int) (w:World) (e:Ending) (w':World):Prop:=
 e=.returned (.tuple #[])/\RB w' b s (pX s p) (s.extract (pX s p) (ZE s (pX s p))) vf ve vb ah/\w.grownBy w' (some b)
theorem ziC {a w:World} {row:Option Nat} (h:a.grownBy w row) (n:Nat):a.grownBy (w.drewN n) row:=⟨h.os,h.tape,h.output,h.size,h.block⟩
theorem zb3 {a w:World} {row:Option Nat} (h:a.grownBy w row) (o:Obj):a.grownBy (w.alloc o) row:=
 ⟨h.os,h.tape,h.output,qm h.size (by simp),λi hi hne=>(qa w o i (qD hi h.size)).trans (h.block i hi hne)⟩
theorem zaV {a w:World} {g:Nat} (h:a.grownBy w (some g)) {p:Addr} (hp:p.block=g∨a.heap.size<=p.block) (u:Value):a.grownBy (w.setCell p u) (some g):=
 ⟨h.os,h.tape,h.output,by simpa [World.setCell] using h.size,λi hi hne=>(qT w p u i (by
  rintro rfl;rcases hp with hp|hp
  ·exact hne (by rw[hp])
  ·omega)).trans (h.block i hi hne)⟩
theorem Zq {a w:World} (h:Below a.heap.size a w) (row:Option Nat):a.grownBy w row:=⟨h.os,h.tape,h.output,h.size,λi hi _=>h.block i hi⟩
theorem zb4 (a:World) (row:Option Nat):a.grownBy a row:=Zq (qb _ _) row
theorem zci {w:World} {b p k e:Nat} {s t x:ByteArray} {a ah:Int} {vf ve vb:Value} (h:RB w b s a t vf ve vb ah) (n:Nat) (hk:pX s p=k) (he:ZE s k=e) (hx:x=s.extract k e):
  zjb b s p vf ve vb ah w (.returned (.tuple #[])) (((w.drewN n).setCell ⟨b,1,none⟩ (.int .i64 k)).setCell ⟨b,2,none⟩ (.string x)):=by
 have h0:(w.drewN n).heap[b]?=some (.cells #[.string s,.int .i64 a,.string t,vf,ve,vb,.int .i64 ah] 210 (0,0)):=h;have h1:=qs (w.drewN n) b 1 #[.string s,.int .i64 a,.string t,vf,ve,vb,.int .i64 ah] 210 (.int .i64 k) h0;have h2:=qs ((w.drewN n).setCell ⟨b,1,none⟩ (.int .i64 k)) b 2 _ 210 (.string x) h1;have hg:w.grownBy (((w.drewN n).setCell ⟨b,1,none⟩ (.int .i64 k)).setCell ⟨b,2,none⟩ (.string x)) (some b):=
  zaV (a:=w) (p:=⟨b,2,none⟩) (zaV (a:=w) (p:=⟨b,1,none⟩) (ziC (zb4 w _) n) (.inl rfl) _) (.inl rfl) _
 have hr:RB (((w.drewN n).setCell ⟨b,1,none⟩ (.int .i64 k)).setCell ⟨b,2,none⟩ (.string x)) b s k x vf ve vb ah:=h2;unfold zjb;rw[hk,he,<-hx];exact⟨rfl,hr,hg⟩
theorem zhT (b a:Nat) (s t:ByteArray) (vf ve vb:Value) (ah:Int) (w:World) (h:RB w b s a t vf ve vb ah) (hp:a+t.size<=s.size) (hs:s.size<=4611686018427387904):
  Calls Tryz.prog 142 #[.pointer (some ⟨b,0,none⟩)] w (zjb b s (a+t.size) vf ve vb ah w):=by
 have H:=qh h;have c0:=h.c0;have c1:=h.c1;have c2:=h.c2;have z1:=h.z 1;have z2:=h.z 2;clear h;go_enter Tryz.func142,Tryz.ntmps142;go_wp2_with fail;go_quiet (fail)
 go_wp2_with fail;go_loop [2] (λi=>∃k:Nat,a+t.size<=k/\k<=s.size/\i=.int .i64 k/\pX s (a+t.size)=pX s k) (λi=>s.size-(intOf i).toNat)
 case atStart=>exact⟨a+t.size,ql _,hp,by go_num,rfl⟩
 case round=>
  obtain⟨k,hk1,hk2,rfl,hsk⟩:=hrel;have Hsk:=qh hsk;clear hsk;by_cases hlt:k<s.size
  ·cases h1:((s[k].toNat:Int)==32) with
   |true=>
    have po:=qh (zc5 hlt h1);go_wp2_with fail;go_round
    case rel=>exact⟨k+1,by omega,by omega,by go_num,Hsk.out.trans po.out⟩
    case measure=>simp[intOf];omega
   |false=>
    have po:=qh (Hsk.out.trans (zdJ hlt h1));cases hm:zdj s[k] with
    |true=>
     have Hen:=qh (zb2 hlt hm);have hm2:((s[k].toNat:Int)==44)=true∨((s[k].toNat:Int)==44)=false/\((s[k].toNat:Int)==59)=true:=by
      unfold zdj at hm;cases h4:((s[k].toNat:Int)==44) with
      |true=>exact .inl rfl
      |false=>rw[h4] at hm;exact .inr ⟨rfl,hm⟩
     clear hm;rcases hm2 with h4|⟨h4,h5⟩
     rotate_right;have h6:((s[k].toNat:Int) !=44)=true:=(by rw[bne,h4];rfl);have h7:((s[k].toNat:Int) !=59)=false:=(by rw[bne,h5];rfl)
     rotate_right;have h6:((s[k].toNat:Int) !=44)=false:=(by rw[bne,h4];rfl)
     all_goals
      go_wp2_with fail;go_loop [3] (λe=>e=.int .i64 (k+1:Nat)) (λ_=>0)
      case atStart=>go_num
      case round=>
       obtain rfl:=hrel;have h8:(((k+1:Nat):Int)==(k:Int))=false:=(by simp;omega);have h9:((k:Int)+1==(k:Int))=false:=(by simp;omega);by_cases hkl:k+1<s.size
       ·have b1:(0:Int)<=(k:Int):=(by omega);have b2:(k:Int)<=(k:Int)+1:=(by omega);have b3:(k:Int)+1<=(s.size:Int):=(by omega);go_wp2_with fail;have k1:∀(W:World) (v:Value),(W.setCell ⟨b,1,none⟩ v).cell? ⟨b,0,none⟩=W.cell? ⟨b,0,none⟩:=λW v=>W.cell?_setCell_other _ _ v (by simp);have k3:∀(W:World) (v:Value),(W.setCell ⟨b,1,none⟩ v).cell? ⟨b,2,none⟩=W.cell? ⟨b,2,none⟩:=λW v=>W.cell?_setCell_other _ _ v (by simp);have k2:∀(W:World) (v:Value),(W.setCell ⟨b,2,none⟩ v).cell? ⟨b,0,none⟩=W.cell? ⟨b,0,none⟩:=λW v=>W.cell?_setCell_other _ _ v (by simp);go_region_held3 (λw'=>w'.cell? ⟨b,0,none⟩=some (.string s)) (go_keep) (fail)
        go_wp2_with fail;go_end0;exact zci H.out _ po.out Hen.out rfl
       ·have Hen2:=qh (Hen.out.trans (show k+1=s.size by omega));have e:k+1=s.size:=(by omega);have b1:(0:Int)<=(k:Int):=(by omega);have b2:(k:Int)<=(s.size:Int):=(by omega);go_wp2_with fail;have k1:∀(W:World) (v:Value),(W.setCell ⟨b,1,none⟩ v).cell? ⟨b,0,none⟩=W.cell? ⟨b,0,none⟩:=λW v=>W.cell?_setCell_other _ _ v (by simp);have k3:∀(W:World) (v:Value),(W.setCell ⟨b,1,none⟩ v).cell? ⟨b,2,none⟩=W.cell? ⟨b,2,none⟩:=λW v=>W.cell?_setCell_other _ _ v (by simp);have k2:∀(W:World) (v:Value),(W.setCell ⟨b,2,none⟩ v).cell? ⟨b,0,none⟩=W.cell? ⟨b,0,none⟩:=λW v=>W.cell?_setCell_other _ _ v (by simp);go_region_held3 (λw'=>w'.cell? ⟨b,0,none⟩=some (.string s)) (go_keep) (fail)
        go_wp2_with fail;go_end0;exact zci H.out _ po.out Hen2.out rfl
    |false=>
     have Hen:=qh (zcT hlt hm);have h4:((s[k].toNat:Int)==44)=false:=by
      unfold zdj at hm;cases h4:((s[k].toNat:Int)==44) with
      |true=>rw[h4] at hm;cases hm
      |false=>rfl
     have h5:((s[k].toNat:Int)==59)=false:=by
      unfold zdj at hm;rw[h4] at hm;exact hm
     have Hw0:=qh (zec hlt (show zdi s[k]=false by unfold zdi;rw[h1,h4,h5];rfl));have h6:((s[k].toNat:Int) !=44)=true:=(by rw[bne,h4];rfl);have h7:((s[k].toNat:Int) !=59)=true:=(by rw[bne,h5];rfl);clear hm;go_wp2_with fail;go_loop [3] (λe=>∃m:Nat,k<=m/\m<=s.size/\e=.int .i64 m/\VE s k=VE s m) (λe=>s.size-(intOf e).toNat)
     case atStart=>exact⟨k,ql _,hk2,rfl,rfl⟩
     case round=>
      obtain⟨m,hm1,hm2,rfl,hw⟩:=hrel;have Hw:=qh hw;clear hw;by_cases hml:m<s.size
      ·have hsz:((m:Int)==(s.size:Int))=false:=(by simp;omega);cases hc:zdi s[m] with
       |false=>
        have Hix:=qh λW=>zky s[m] W hc;have Hwg:=qh (Hw.out.trans (zec hml hc));by_cases hkm:m=k
        rotate_right;have hkm2:((m:Int)==(k:Int))=false:=(by simp;omega)
        rotate_right;subst hkm
        all_goals
         go_wp2_with (go_at_call 114;refine(Hix.out _).mono ?_;rintro e w' ⟨rfl,rfl⟩);go_round
         case rel=>exact⟨m+1,by omega,by omega,by go_num,Hwg.out⟩
         case measure=>simp[intOf];omega
       |true=>
        have Hix:=qh λW=>zja s[m] W hc;have Hwe:=qh (Hen.out.trans (Hw0.out.symm.trans (Hw.out.trans (zdK hml hc))));by_cases hkm:m=k
        ·exfalso
         subst hkm;unfold zdi at hc;rw[h1,h4,h5] at hc;cases hc
        ·have hkm2:((m:Int)==(k:Int))=false:=(by simp;omega);have b1:(0:Int)<=(k:Int):=(by omega);have b2:(k:Int)<=(m:Int):=(by omega);have b3:(m:Int)<=(s.size:Int):=(by omega);go_wp2_with (go_at_call 114;refine(Hix.out _).mono ?_;rintro e w' ⟨nx,⟨rfl,rfl⟩,hnx⟩);have k1:∀(W:World) (v:Value),(W.setCell ⟨b,1,none⟩ v).cell? ⟨b,0,none⟩=W.cell? ⟨b,0,none⟩:=λW v=>W.cell?_setCell_other _ _ v (by simp);have k3:∀(W:World) (v:Value),(W.setCell ⟨b,1,none⟩ v).cell? ⟨b,2,none⟩=W.cell? ⟨b,2,none⟩:=λW v=>W.cell?_setCell_other _ _ v (by simp);have k2:∀(W:World) (v:Value),(W.setCell ⟨b,2,none⟩ v).cell? ⟨b,0,none⟩=W.cell? ⟨b,0,none⟩:=λW v=>W.cell?_setCell_other _ _ v (by simp);go_region_held3 (λw'=>w'.cell? ⟨b,0,none⟩=some (.string s)) (go_keep) (fail)
         go_wp2_with fail;go_end0;exact zci H.out _ po.out Hwe.out rfl
      ·obtain rfl:m=s.size:=by omega
       have hkm2:((s.size:Int)==(k:Int))=false:=(by simp;omega);have Hwe:=qh (Hen.out.trans (Hw0.out.symm.trans (Hw.out.trans (zeq (by omega)))));have b1:(0:Int)<=(k:Int):=(by omega);have b2:(k:Int)<=(s.size:Int):=(by omega);go_wp2_with fail;have k1:∀(W:World) (v:Value),(W.setCell ⟨b,1,none⟩ v).cell? ⟨b,0,none⟩=W.cell? ⟨b,0,none⟩:=λW v=>W.cell?_setCell_other _ _ v (by simp);have k3:∀(W:World) (v:Value),(W.setCell ⟨b,1,none⟩ v).cell? ⟨b,2,none⟩=W.cell? ⟨b,2,none⟩:=λW v=>W.cell?_setCell_other _ _ v (by simp);have k2:∀(W:World) (v:Value),(W.setCell ⟨b,2,none⟩ v).cell? ⟨b,0,none⟩=W.cell? ⟨b,0,none⟩:=λW v=>W.cell?_setCell_other _ _ v (by simp);go_region_held3 (λw'=>w'.cell? ⟨b,0,none⟩=some (.string s)) (go_keep) (fail)
       go_wp2_with fail;go_end0;exact zci H.out _ po.out Hwe.out rfl
  ·obtain rfl:k=s.size:=by omega
   have po:=qh (Hsk.out.trans (zga (by omega)));have Hen:=qh (zcC (s:=s) (a:=s.size) (by omega));go_wp2_with fail;go_loop [3] (λe=>e=.int .i64 s.size) (λ_=>0)
   case atStart=>rfl
   case round=>
    obtain rfl:=hrel;go_wp2_with fail;have k1:∀(W:World) (v:Value),(W.setCell ⟨b,1,none⟩ v).cell? ⟨b,0,none⟩=W.cell? ⟨b,0,none⟩:=λW v=>W.cell?_setCell_other _ _ v (by simp);have k3:∀(W:World) (v:Value),(W.setCell ⟨b,1,none⟩ v).cell? ⟨b,2,none⟩=W.cell? ⟨b,2,none⟩:=λW v=>W.cell?_setCell_other _ _ v (by simp);have k2:∀(W:World) (v:Value),(W.setCell ⟨b,2,none⟩ v).cell? ⟨b,0,none⟩=W.cell? ⟨b,0,none⟩:=λW v=>W.cell?_setCell_other _ _ v (by simp);go_region_held3 (λw'=>w'.cell? ⟨b,0,none⟩=some (.string s)) (go_keep) (fail)
    go_wp2_with fail;go_end0;exact zci H.out _ po.out Hen.out (by simp)
def Vars (w:World):Prop:=(∃t p,w.cell? ⟨7,0,none⟩=some (.iface t p))∧(∃t p,w.cell? ⟨8,0,none⟩=some (.iface t p))∧Lib.TabIs Tryz.prog w "internal/strconv.uint64pow10" .u64 Lib.pow10Tab∧9≤w.heap.size
theorem zjc:Tryz.prog.globalNamed "internal/strconv.uint64pow10"=some 3:=by kernel_rfl
theorem Vars.keep {w w':World} (h:Vars w) (hb:∀i,i<9->w'.heap[i]?=w.heap[i]?) (hs:w.heap.size<=w'.heap.size):Vars w':=by
 obtain⟨⟨t1,p1,h1⟩,⟨t2,p2,h2⟩,h3,h4⟩:=h;refine⟨⟨t1,p1,(qw (hb 7 (by omega))).trans h1⟩,⟨t2,p2,(qw (hb 8 (by omega))).trans h2⟩,?_,by omega⟩;unfold Lib.TabIs World.var? at*;rw[zjc] at h3|-;simp only[Option.bind_some] at h3|-;rw[hb 3 (by omega)];exact h3
theorem Vars.below {w w':World} {B:Nat} (h:Vars w) (hb:Below B w w') (hB:9<=B):Vars w':=h.keep (λi hi=>hb.block i (by omega)) hb.size
theorem Vars.six {w:World} (h:Vars w):9<=w.heap.size:=h.2.2.2
theorem Vars.drewN {w:World} (h:Vars w) (n:Nat):Vars (w.drewN n):=h.keep (λ_ _=>rfl) (ql _)
def ze1 (r:Option Int) (lo hi:Int) (w:World) (e:Ending) (w':World):Prop:=
 e=.returned (.tuple #[.int .i64 (match r with|none=>0|some n=>if n<lo∨n>hi then 0 else n),.int .i64 (match r with|none=>130|some n=>if n<lo∨n>hi then 2 else 0)])/\Below w.heap.size w w'
theorem zjd (w:World):(binOp .neq 122 .nilIface .nilIface).run Tryz.prog w=.ok (.bool false) w:=by kernel_rfl
theorem zlz (n:Nat) (w:World):(binOp .neq 122 (.iface 261 (.pointer (some ⟨n,0,none⟩))) .nilIface).run Tryz.prog w=.ok (.bool true) w:=by kernel_rfl
theorem zes (w:World) (q:Nat) (os:Array Obj):Below w.heap.size w (Sort.grow (w.drewN q) os):=
 ⟨rfl,rfl,rfl,by first|(simp[Sort.grow];done)|(simp[Sort.grow];omega),λi hi=>by
  show((w.drewN q).heap++os)[i]?=_;rw[Array.getElem?_append_left (by show i<w.heap.size;omega)];rfl⟩
theorem zee (t:ByteArray) (v:Int) (w:World) (ht:t.size<=65536) (hp:Lib.parseIntB 64 t.data.toList=.ok v):
  Calls Tryz.prog 175 #[.string t,.int .i64 10,.int .i64 64] w λe w'=>e=.returned (.tuple #[.int .i64 v,.nilIface])/\Below w.heap.size w w':=by
 refine(Tryz.strconv_ParseInt_10_at64_ok t (by omega) v hp w).mono ?_;rintro e w' ⟨rfl,h⟩;refine⟨rfl,?_⟩;rcases h with rfl|⟨t,rfl⟩
 ·exact qb _ _
 ·exact Joins.below_bytesWorld _ _ _ _ (ql _)
def zhU (w:World) (e:Ending) (w':World):Prop:=∃(n:Int) (N:Nat),e=.returned (.tuple #[.int .i64 n,.iface 261 (.pointer (some ⟨N,0,none⟩))])/\Below w.heap.size w w'
def zkz (w:World) (e:Ending) (w':World):Prop:=∃(n:Int) (x:Value),e=.returned (.tuple #[.int .i64 n,x])/\Below w.heap.size w w'
theorem zdl (t:ByteArray) (w:World) (ht:t.size<=65536) (hv:Vars w) (hp:∀v,Lib.parseIntB 64 t.data.toList≠.ok v):
  Calls Tryz.prog 175 #[.string t,.int .i64 10,.int .i64 64] w (zhU w):=by
 obtain⟨⟨t1,p1,h1⟩,⟨t2,p2,h2⟩,_⟩:=hv;rcases hq:Lib.parseIntB 64 t.data.toList with v|_|_
 ·exact absurd hq (hp v)
 ·refine(Tryz.strconv_ParseInt_10_at64_syntax t (by omega) hq _ w h1 (.inr ⟨_,_,rfl⟩)).mono ?_;rintro e w' ⟨N,rfl,_,_,hb⟩;exact⟨_,N,rfl,hb⟩
 ·refine(Tryz.strconv_ParseInt_10_at64_range t (by omega) hq _ w h2 (.inr ⟨_,_,rfl⟩)).mono ?_;rintro e w' ⟨N,rfl,_,_,hb⟩;exact⟨_,N,rfl,hb⟩
theorem zdL (v:Int) (w:World) (hv:Vars w) (h0:-9223372036854775808<=v) (h1:v<=9223372036854775807):
  Calls Tryz.prog 176 #[.int .i64 v,.int .i64 10] w λe w'=>e=.returned (.string ⟨(Lib.itoa v).toArray⟩)/\Below w.heap.size w w':=by
 refine(Tryz.strconv_FormatInt_10 v h0 h1 w hv.2.2.1).mono ?_;rintro e w' ⟨rfl,k,os,rfl⟩;exact⟨rfl,zes w k os⟩
theorem zhV (t:ByteArray) (w:World):
  Calls Tryz.prog 177 #[.string t,.string ⟨#[45]⟩] w λe w'=>e=.returned (.string ⟨(yX t.data.toList).toArray⟩)/\w=w':=by
 refine(Tryz.strings_TrimPrefix t ⟨#[45]⟩ w).mono ?_;rintro e w' ⟨rfl,rfl⟩;rw[<-zkx];exact⟨rfl,rfl⟩
theorem JK {w w1 w2:World} (hb:Below w1.heap.size w1 w2) (h:Below w.heap.size w w1/\∀b o,b<w.heap.size->w1.cell? ⟨b,o,none⟩=w.cell? ⟨b,o,none⟩):
  Below w.heap.size w w2/\∀b o,b<w.heap.size->w2.cell? ⟨b,o,none⟩=w.cell? ⟨b,o,none⟩:=
 ⟨h.1.trans (hb.mono h.1.size),λb o ho=>(hb.cell (p:=⟨b,o,none⟩) (qD ho h.1.size)).trans (h.2 b o ho)⟩
theorem pa {w:World}:Below w.heap.size w w.drew/\∀b o,b<w.heap.size->w.drew.cell? ⟨b,o,none⟩=w.cell? ⟨b,o,none⟩:=⟨(qb _ _).drew,λ_ _ _=>rfl⟩
theorem Xg {B:Nat} {a w:World} (h:Below B a w) (n:Nat):Below B a (w.drewN n):=⟨h.os,h.tape,h.output,h.size,h.block⟩
theorem zfb {P:Program} {f:FuncId} {args:Array Value} {w:World} {n:Nat} {v:Value}
  (h:Calls P f args (w.drewN n) λe w'=>e=.returned v/\w.drewN n=w'):Calls P f args (w.drewN n) λe w''=>e=.returned v/\∃m,w''=w.drewN m:=
 h.mono λ_ _ ⟨he,hm⟩=>⟨he,n,hm.symm⟩
theorem zgj (b:Nat) (t:ByteArray) (lo hi:Int) (w:World) (hc:w.cell? ⟨b,2,none⟩=some (.string t)) (hb:b<w.heap.size) (hf:pm t=false)
  (hp:Calls Tryz.prog 175 #[.string t,.int .i64 10,.int .i64 64] w (zkz w)):
  Calls Tryz.prog 148 #[.pointer (some ⟨b,0,none⟩),.int .i64 lo,.int .i64 hi] w (ze1 none lo hi w):=by
 have Hp:=qh hp;have Hf:=qh hf;clear hf hp;go_enter xI,xr;go_wp2_with fail;refine Hp.out.mono ?_;rintro e w1 ⟨n,x,rfl,hb1⟩;have hc1:=(hb1.cell (p:=⟨b,2,none⟩) hb).trans hc;have XI:=qh λW hc=>zbl b t W hc;rw[Hf.out] at XI;go_wp2_with fail;go_quiet ((go_at_call 147;exact zfb (XI.out _ hc1)))
 go_wp2_with fail;go_ret2;exact⟨rfl,Xg hb1 _⟩
theorem zfc (b:Nat) (t:ByteArray) (lo hi:Int) (w:World) (hc:w.cell? ⟨b,2,none⟩=some (.string t)) (hb:b<w.heap.size) (hf:pm t=true)
  (hp:Calls Tryz.prog 175 #[.string t,.int .i64 10,.int .i64 64] w (zhU w)):
  Calls Tryz.prog 148 #[.pointer (some ⟨b,0,none⟩),.int .i64 lo,.int .i64 hi] w (ze1 none lo hi w):=by
 have Hp:=qh hp;have Hf:=qh hf;clear hf hp;go_enter xI,xr;go_wp2_with fail;refine Hp.out.mono ?_;rintro e w1 ⟨n,N,rfl,hb1⟩;have hc1:=(hb1.cell (p:=⟨b,2,none⟩) hb).trans hc;have XI:=qh λW hc=>zbl b t W hc;rw[Hf.out] at XI;have hne:=zlz N;go_wp2_with fail;go_quiet ((go_at_call 147;exact zfb (XI.out _ hc1)))
 go_wp2_with fail;go_ret2;exact⟨rfl,Xg hb1 _⟩
theorem zma {v lo hi:Int} {w w':World} (h1:lo<=v) (h2:v<=hi) (hB:Below w.heap.size w w'):ze1 (some v) lo hi w (.returned (.tuple #[.int .i64 v,.int .i64 0])) w':=by
 unfold ze1;simp only[];rw[qx (by omega),qx (by omega)];exact⟨rfl,hB⟩
theorem zlA {v lo hi:Int} {w w':World} (h1:v<lo∨hi<v) (hB:Below w.heap.size w w'):ze1 (some v) lo hi w (.returned (.tuple #[.int .i64 0,.int .i64 2])) w':=by
 unfold ze1;simp only[];rw[qy (by omega),qy (by omega)];exact⟨rfl,hB⟩
theorem zhg (b:Nat) (t:ByteArray) (lo hi v:Int) (w:World) (hc:w.cell? ⟨b,2,none⟩=some (.string t)) (hb:b<w.heap.size) (hv:Vars w) (ht:t.size<=65536) (hf:pm t=true)
  (hp:Lib.parseIntB 64 t.data.toList=.ok v) (hi1:Lib.itoa v=t.data.toList) (h0:-9223372036854775808<=v) (h1:v<=9223372036854775807)
  (hlen:(yX t.data.toList).length<=18):
  Calls Tryz.prog 148 #[.pointer (some ⟨b,0,none⟩),.int .i64 lo,.int .i64 hi] w (ze1 (some v) lo hi w):=by
 have Hp:=qh (zee t v w ht hp);have Hf:=qh hf;have Hi:=qh (show(⟨(Lib.itoa v).toArray⟩:ByteArray)=t by rw[hi1]);have Hv:=qh hv;clear hf hp hi1 hv;go_enter xI,xr;go_wp2_with fail;refine Hp.out.mono ?_;rintro e w1 ⟨rfl,hb1⟩;have hc1:=(hb1.cell (p:=⟨b,2,none⟩) hb).trans hc;have XI:=qh λW hc=>zbl b t W hc;rw[Hf.out] at XI;have hne:=zjd;have Hfm:=qh λ(W:World) (hW:Below w1.heap.size w1 W)=>zdL v W (Hv.out.below (hb1.trans (hW.mono hb1.size)) Hv.out.six) h0 h1;rw[Hi.out] at Hfm;have Htr:=qh λW=>zhV t W;have hb1s:=hb1.size;have hbw:b<w1.heap.size:=by omega
 have hstr:(t.toList !=t.toList)=false:=by simp
 go_wp2_with fail;go_region_held3 (λw'=>Below w1.heap.size w1 w'/\∀b o,b<w1.heap.size->w'.cell? ⟨b,o,none⟩=w1.cell? ⟨b,o,none⟩) (((repeat (apply JK;assumption));exact pa)) (first|(go_at_call 147;refine(XI.out _ (by first|exact hc1|simp[*])).mono ?_;rintro e w9 ⟨rfl,rfl⟩)|(go_at_call 176;refine(Hfm.out _ (by first|exact pa.1|exact qZ (by assumption))).mono ?_;rintro e w9 ⟨rfl,pb⟩)|(go_at_call 177;refine(Htr.out _).mono ?_;rintro e w9 ⟨rfl,rfl⟩))
 all_goals
  have hS:Below w1.heap.size w1 w9:=qZ (by assumption);have hB:=hb1.trans (hS.mono hb1.size);go_wp2_with fail
 all_goals
  go_ret2;first
  |exact zma (by omega) (by omega) hB
  |exact zlA (by omega) hB
theorem zhh (b:Nat) (t:ByteArray) (lo hi v:Int) (w:World) (hc:w.cell? ⟨b,2,none⟩=some (.string t)) (hb:b<w.heap.size) (hv:Vars w) (ht:t.size<=65536) (hf:pm t=true)
  (hp:Lib.parseIntB 64 t.data.toList=.ok v) (hi1:Lib.itoa v=t.data.toList) (h0:-9223372036854775808<=v) (h1:v<=9223372036854775807)
  (hlen:18<(yX t.data.toList).length) (hlen2:(yX t.data.toList).length<=65536):
  Calls Tryz.prog 148 #[.pointer (some ⟨b,0,none⟩),.int .i64 lo,.int .i64 hi] w (ze1 none lo hi w):=by
 have Hp:=qh (zee t v w ht hp);have Hf:=qh hf;have Hi:=qh (show(⟨(Lib.itoa v).toArray⟩:ByteArray)=t by rw[hi1]);have Hv:=qh hv;clear hf hp hi1 hv;go_enter xI,xr;go_wp2_with fail;refine Hp.out.mono ?_;rintro e w1 ⟨rfl,hb1⟩;have hc1:=(hb1.cell (p:=⟨b,2,none⟩) hb).trans hc;have XI:=qh λW hc=>zbl b t W hc;rw[Hf.out] at XI;have hne:=zjd;have Hfm:=qh λ(W:World) (hW:Below w1.heap.size w1 W)=>zdL v W (Hv.out.below (hb1.trans (hW.mono hb1.size)) Hv.out.six) h0 h1;rw[Hi.out] at Hfm;have Htr:=qh λW=>zhV t W;have hb1s:=hb1.size;have hbw:b<w1.heap.size:=by omega
 have hstr:(t.toList !=t.toList)=false:=by simp
 go_wp2_with fail;go_region_held3 (λw'=>Below w1.heap.size w1 w'/\∀b o,b<w1.heap.size->w'.cell? ⟨b,o,none⟩=w1.cell? ⟨b,o,none⟩) (((repeat (apply JK;assumption));exact pa)) (first|(go_at_call 147;refine(XI.out _ (by first|exact hc1|simp[*])).mono ?_;rintro e w9 ⟨rfl,rfl⟩)|(go_at_call 176;refine(Hfm.out _ (by first|exact pa.1|exact qZ (by assumption))).mono ?_;rintro e w9 ⟨rfl,pb⟩)|(go_at_call 177;refine(Htr.out _).mono ?_;rintro e w9 ⟨rfl,rfl⟩))
 have hS:Below w1.heap.size w1 w9:=qZ (by assumption);have hB:=hb1.trans (hS.mono hb1.size);go_wp2_with fail;go_ret2;exact⟨rfl,hB⟩
theorem zfA (b:Nat) (t:ByteArray) (lo hi v:Int) (w:World) (hc:w.cell? ⟨b,2,none⟩=some (.string t)) (hb:b<w.heap.size) (hv:Vars w) (ht:t.size<=65536) (hf:pm t=true)
  (hp:Lib.parseIntB 64 t.data.toList=.ok v) (hi1:Lib.itoa v≠t.data.toList) (h0:-9223372036854775808<=v) (h1:v<=9223372036854775807):
  Calls Tryz.prog 148 #[.pointer (some ⟨b,0,none⟩),.int .i64 lo,.int .i64 hi] w (ze1 none lo hi w):=by
 have Hp:=qh (zee t v w ht hp);have Hf:=qh hf;have hstr:((⟨(Lib.itoa v).toArray⟩:ByteArray).toList !=t.toList)=true:=by
  rw[qW,qW];simpa using hi1
 have hstr2:((⟨(Lib.itoa v).toArray⟩:ByteArray).toList==t.toList)=false:=by
  rw[bne] at hstr;simpa using hstr
 have Hv:=qh hv;clear hf hp hi1 hv;go_enter xI,xr;go_wp2_with fail;refine Hp.out.mono ?_;rintro e w1 ⟨rfl,hb1⟩;have hc1:=(hb1.cell (p:=⟨b,2,none⟩) hb).trans hc;have XI:=qh λW hc=>zbl b t W hc;rw[Hf.out] at XI;have hne:=zjd;have Hfm:=qh λ(W:World) (hW:Below w1.heap.size w1 W)=>zdL v W (Hv.out.below (hb1.trans (hW.mono hb1.size)) Hv.out.six) h0 h1;generalize (⟨(Lib.itoa v).toArray⟩:ByteArray)=x at*;have hb1s:=hb1.size;have hbw:b<w1.heap.size:=by omega
 go_wp2_with fail;refine js (S:=fun w'=>Below w1.heap.size w1 w'∧∀b o,b<w1.heap.size→w'.cell? ⟨b,o,none⟩=w1.cell? ⟨b,o,none⟩) (by kernel_rfl) pa (fun hHeld=>?_);refine zo (i:=0) (oi:={dst:=some 19,op:=Op.move (Operand.tmp 0),type:=245,pos:="metre.go:149",after:=#[],guard:=none}) (v:=?_) rfl (by kernel_rfl) (by kernel_rfl) (by kernel_rfl) (fun _ _ _ h=>h) (zl ⟨by rfl,?_⟩) (by assumption) ?_;rotate_left
 ·intro w hSw;obtain⟨hS1,hS2⟩:=hSw;go_simp;try with_reducible rfl
 simp only[Act.put,qe,qp,qk];refine wpAnyH_ready (rs:=[1]) (by kernel_rfl) (by simp) (AllReadyH.cons (o:={dst:=some 20,op:=Op.call {callee:=Callee.value (Operand.func 147),args:=#[Operand.tmp 19],argTypes:=#[245]},type:=4,pos:="metre.go:149",after:=#[{on:=0,ground:=Ground.data}],guard:=none}) rfl (fun K hK=>?_) AllReadyH.nil);go_simp;go_at_call 147
 refine(XI.out _ (by simp[*])).mono ?_;rintro e w8 ⟨rfl,rfl⟩;refine hK.out _ _ hHeld (λzqm=>?_);clear hK K;try simp only[Act.put,qe,qp,qk]
 refine zo (i:=2) (oi:={dst:=some 21,op:=Op.unOp UnOp.not 4 (Operand.tmp 20),type:=4,pos:="metre.go:149",after:=#[{on:=1,ground:=Ground.data}],guard:=none}) (v:=?_) rfl (by kernel_rfl) (by kernel_rfl) (by kernel_rfl) (fun _ _ _ h=>h) (zl ⟨by rfl,?_⟩) (by assumption) ?_;rotate_left
 ·intro w hSw;obtain⟨hS1,hS2⟩:=hSw;go_simp;try with_reducible rfl
 simp only[Act.put,qe,qp,qk];refine zo (i:=3) (oi:={dst:=some 22,op:=Op.move (Operand.tmp 21),type:=4,pos:="metre.go:149",after:=#[{on:=2,ground:=Ground.data},{on:=1,ground:=Ground.chain}],guard:=none}) (v:=?_) rfl (by kernel_rfl) (by kernel_rfl) (by kernel_rfl) (fun _ _ _ h=>h) (zl ⟨by rfl,?_⟩) (by assumption) ?_;rotate_left
 ·intro w hSw;obtain⟨hS1,hS2⟩:=hSw;go_simp;try with_reducible rfl
 simp only[Act.put,qe,qp,qk];refine zo (i:=4) (oi:={dst:=some 23,op:=Op.move (Operand.tmp 9),type:=122,pos:="metre.go:149",after:=#[{on:=3,ground:=Ground.guard}],guard:=some (3,false)}) (v:=?_) rfl (by kernel_rfl) (by kernel_rfl) (by kernel_rfl) (fun _ _ _ h=>h) (zl ⟨by rfl,?_⟩) (by assumption) ?_;rotate_left
 ·intro w hSw;obtain⟨hS1,hS2⟩:=hSw;go_simp;try with_reducible rfl
 simp only[Act.put,qe,qp,qk];refine zo (i:=5) (oi:={dst:=some 24,op:=Op.binOp BinOp.neq 122 (Operand.tmp 23) (Operand.const Value.nilIface) 122,type:=4,pos:="metre.go:149",after:=#[{on:=4,ground:=Ground.data},{on:=3,ground:=Ground.guard}],guard:=some (3,false)}) (v:=?_) rfl (by kernel_rfl) (by kernel_rfl) (by kernel_rfl) (fun _ _ _ h=>h) (zl ⟨by rfl,?_⟩) (by assumption) ?_;rotate_left
 ·intro w hSw;obtain⟨hS1,hS2⟩:=hSw;go_simp;try with_reducible rfl
 simp only[Act.put,qe,qp,qk];refine zo (i:=6) (oi:={dst:=some 25,op:=Op.pick (Operand.tmp 22) (Operand.const (Value.bool true)) (Operand.tmp 24),type:=4,pos:="metre.go:149",after:=#[{on:=3,ground:=Ground.data},{on:=5,ground:=Ground.data}],guard:=none}) (v:=?_) rfl (by kernel_rfl) (by kernel_rfl) (by kernel_rfl) (fun _ _ _ h=>h) (zl ⟨by rfl,?_⟩) (by assumption) ?_;rotate_left
 ·intro w hSw;obtain⟨hS1,hS2⟩:=hSw;go_simp;try with_reducible rfl
 simp only[Act.put,qe,qp,qk];refine zo (i:=7) (oi:={dst:=some 26,op:=Op.move (Operand.tmp 25),type:=4,pos:="metre.go:149",after:=#[{on:=6,ground:=Ground.data},{on:=3,ground:=Ground.chain}],guard:=none}) (v:=?_) rfl (by kernel_rfl) (by kernel_rfl) (by kernel_rfl) (fun _ _ _ h=>h) (zl ⟨by rfl,?_⟩) (by assumption) ?_;rotate_left
 ·intro w hSw;obtain⟨hS1,hS2⟩:=hSw;go_simp;try with_reducible rfl
 simp only[Act.put,qe,qp,qk];refine zo (i:=8) (oi:={dst:=some 27,op:=Op.move (Operand.tmp 8),type:=2,pos:="metre.go:149",after:=#[{on:=7,ground:=Ground.guard}],guard:=some (7,false)}) (v:=?_) rfl (by kernel_rfl) (by kernel_rfl) (by kernel_rfl) (fun _ _ _ h=>h) (zl ⟨by rfl,?_⟩) (by assumption) ?_;rotate_left
 ·intro w hSw;obtain⟨hS1,hS2⟩:=hSw;go_simp;try with_reducible rfl
 simp only[Act.put,qe,qp,qk];refine zo (i:=10) (oi:={dst:=some 29,op:=Op.move (Operand.tmp 0),type:=245,pos:="metre.go:149",after:=#[{on:=7,ground:=Ground.guard}],guard:=some (7,false)}) (v:=?_) rfl (by kernel_rfl) (by kernel_rfl) (by kernel_rfl) (fun _ _ _ h=>h) (zl ⟨by rfl,?_⟩) (by assumption) ?_;rotate_left
 ·intro w hSw;obtain⟨hS1,hS2⟩:=hSw;go_simp;try with_reducible rfl
 simp only[Act.put,qe,qp,qk];refine zo (i:=11) (oi:={dst:=some 30,op:=Op.nilCheck (Operand.tmp 29),type:=0,pos:="metre.go:149",after:=#[{on:=10,ground:=Ground.data},{on:=7,ground:=Ground.guard}],guard:=some (7,false)}) (v:=?_) rfl (by kernel_rfl) (by kernel_rfl) (by kernel_rfl) (fun _ _ _ h=>h) (zl ⟨by rfl,?_⟩) (by assumption) ?_;rotate_left
 ·intro w hSw;obtain⟨hS1,hS2⟩:=hSw;go_simp;try with_reducible rfl
 simp only[Act.put,qe,qp,qk];refine zo (i:=12) (oi:={dst:=some 31,op:=Op.fieldAddr 208 (Operand.tmp 30) 2,type:=0,pos:="metre.go:149",after:=#[{on:=11,ground:=Ground.data},{on:=7,ground:=Ground.guard}],guard:=some (7,false)}) (v:=?_) rfl (by kernel_rfl) (by kernel_rfl) (by kernel_rfl) (fun _ _ _ h=>h) (zl ⟨by rfl,?_⟩) (by assumption) ?_;rotate_left
 ·intro w hSw;obtain⟨hS1,hS2⟩:=hSw;go_simp;try with_reducible rfl
 simp only[Act.put,qe,qp,qk];refine zo (i:=13) (oi:={dst:=some 32,op:=Op.load 9 (Operand.tmp 31),type:=9,pos:="metre.go:149",after:=#[{on:=12,ground:=Ground.data},{on:=7,ground:=Ground.guard}],guard:=some (7,false)}) (v:=?_) rfl (by kernel_rfl) (by kernel_rfl) (by kernel_rfl) (fun _ _ _ h=>h) (zl ⟨by rfl,?_⟩) (by assumption) ?_;rotate_left
 ·intro w hSw;obtain⟨hS1,hS2⟩:=hSw;go_simp;try with_reducible rfl
 simp only[Act.put,qe,qp,qk];refine wpAnyH_ready (rs:=[9]) (by kernel_rfl) (by simp) (AllReadyH.cons (o:={dst:=some 28,op:=Op.call {callee:=Callee.value (Operand.func 176),args:=#[Operand.tmp 27,Operand.const (Value.int IntKind.i64 10)],argTypes:=#[2,3]},type:=9,pos:="metre.go:149",after:=#[{on:=8,ground:=Ground.data},{on:=7,ground:=Ground.chain},{on:=7,ground:=Ground.guard}],guard:=some (7,false)}) rfl (fun K hK=>?_) AllReadyH.nil);go_simp;go_at_call 176
 refine(Hfm.out _ (by exact zqm.1)).mono ?_;rintro e w9 ⟨rfl,pb⟩;refine hK.out _ _ (JK pb zqm) (λzr5=>?_);clear hK K;try simp only[Act.put,qe,qp,qk]
 refine zo (i:=14) (oi:={dst:=some 33,op:=Op.binOp BinOp.neq 9 (Operand.tmp 28) (Operand.tmp 32) 9,type:=4,pos:="metre.go:149",after:=#[{on:=9,ground:=Ground.data},{on:=13,ground:=Ground.data},{on:=7,ground:=Ground.guard}],guard:=some (7,false)}) (v:=?_) rfl (by kernel_rfl) (by kernel_rfl) (by kernel_rfl) (fun _ _ _ h=>h) (zl ⟨by rfl,?_⟩) (by assumption) ?_;rotate_left
 ·intro w hSw;obtain⟨hS1,hS2⟩:=hSw;go_simp;try with_reducible rfl
 simp only[Act.put,qe,qp,qk];refine zo (i:=15) (oi:={dst:=some 34,op:=Op.pick (Operand.tmp 26) (Operand.const (Value.bool true)) (Operand.tmp 33),type:=4,pos:="metre.go:149",after:=#[{on:=7,ground:=Ground.data},{on:=14,ground:=Ground.data}],guard:=none}) (v:=?_) rfl (by kernel_rfl) (by kernel_rfl) (by kernel_rfl) (fun _ _ _ h=>h) (zl ⟨by rfl,?_⟩) (by assumption) ?_;rotate_left
 ·intro w hSw;obtain⟨hS1,hS2⟩:=hSw;go_simp;try with_reducible rfl
 simp only[Act.put,qe,qp,qk];refine zo (i:=16) (oi:={dst:=some 35,op:=Op.move (Operand.tmp 34),type:=4,pos:="metre.go:149",after:=#[{on:=15,ground:=Ground.data},{on:=9,ground:=Ground.chain}],guard:=none}) (v:=?_) rfl (by kernel_rfl) (by kernel_rfl) (by kernel_rfl) (fun _ _ _ h=>h) (zl ⟨by rfl,?_⟩) (by assumption) ?_;rotate_left
 ·intro w hSw;obtain⟨hS1,hS2⟩:=hSw;go_simp;try with_reducible rfl
 simp only[Act.put,qe,qp,qk];refine zo (i:=17) (oi:={dst:=some 36,op:=Op.move (Operand.tmp 0),type:=245,pos:="metre.go:149",after:=#[{on:=16,ground:=Ground.guard}],guard:=some (16,false)}) (v:=undef) rfl (by kernel_rfl) (by kernel_rfl) (by kernel_rfl) (fun _ _ _ h=>h) (yJ ⟨by rfl,rfl⟩) (by assumption) ?_;simp only[Act.put,qe,qp,qk];refine zo (i:=18) (oi:={dst:=some 37,op:=Op.nilCheck (Operand.tmp 36),type:=0,pos:="metre.go:149",after:=#[{on:=17,ground:=Ground.data},{on:=16,ground:=Ground.guard}],guard:=some (16,false)}) (v:=undef) rfl (by kernel_rfl) (by kernel_rfl) (by kernel_rfl) (fun _ _ _ h=>h) (yJ ⟨by rfl,rfl⟩) (by assumption) ?_;simp only[Act.put,qe,qp,qk];refine zo (i:=19) (oi:={dst:=some 38,op:=Op.fieldAddr 208 (Operand.tmp 37) 2,type:=0,pos:="metre.go:149",after:=#[{on:=18,ground:=Ground.data},{on:=16,ground:=Ground.guard}],guard:=some (16,false)}) (v:=undef) rfl (by kernel_rfl) (by kernel_rfl) (by kernel_rfl) (fun _ _ _ h=>h) (yJ ⟨by rfl,rfl⟩) (by assumption) ?_;simp only[Act.put,qe,qp,qk];refine zo (i:=20) (oi:={dst:=some 39,op:=Op.load 9 (Operand.tmp 38),type:=9,pos:="metre.go:149",after:=#[{on:=19,ground:=Ground.data},{on:=16,ground:=Ground.guard}],guard:=some (16,false)}) (v:=undef) rfl (by kernel_rfl) (by kernel_rfl) (by kernel_rfl) (fun _ _ _ h=>h) (yJ ⟨by rfl,rfl⟩) (by assumption) ?_;simp only[Act.put,qe,qp,qk];refine zo (i:=21) (oi:={dst:=some 40,op:=Op.call {callee:=Callee.value (Operand.func 177),args:=#[Operand.tmp 39,Operand.const (Value.string {data:=#[45]})],argTypes:=#[9,9]},type:=9,pos:="metre.go:149",after:=#[{on:=20,ground:=Ground.data},{on:=16,ground:=Ground.chain},{on:=16,ground:=Ground.guard}],guard:=some (16,false)}) (v:=undef) rfl (by kernel_rfl) (by kernel_rfl) (by kernel_rfl) (fun _ _ _ h=>h) (yJ ⟨by rfl,rfl⟩) (by assumption) ?_;simp only[Act.put,qe,qp,qk];refine zo (i:=22) (oi:={dst:=some 41,op:=Op.call {callee:=Callee.builtin Builtin.len,args:=#[Operand.tmp 40],argTypes:=#[9]},type:=3,pos:="metre.go:149",after:=#[{on:=21,ground:=Ground.data},{on:=16,ground:=Ground.guard}],guard:=some (16,false)}) (v:=undef) rfl (by kernel_rfl) (by kernel_rfl) (by kernel_rfl) (fun _ _ _ h=>h) (yJ ⟨by rfl,rfl⟩) (by assumption) ?_;simp only[Act.put,qe,qp,qk];refine zo (i:=23) (oi:={dst:=some 42,op:=Op.binOp BinOp.gtr 3 (Operand.tmp 41) (Operand.const (Value.int IntKind.i64 18)) 3,type:=4,pos:="metre.go:149",after:=#[{on:=22,ground:=Ground.data},{on:=16,ground:=Ground.guard}],guard:=some (16,false)}) (v:=undef) rfl (by kernel_rfl) (by kernel_rfl) (by kernel_rfl) (fun _ _ _ h=>h) (yJ ⟨by rfl,rfl⟩) (by assumption) ?_;simp only[Act.put,qe,qp,qk];refine zo (i:=24) (oi:={dst:=some 43,op:=Op.pick (Operand.tmp 35) (Operand.const (Value.bool true)) (Operand.tmp 42),type:=4,pos:="metre.go:149",after:=#[{on:=16,ground:=Ground.data},{on:=23,ground:=Ground.data}],guard:=none}) (v:=?_) rfl (by kernel_rfl) (by kernel_rfl) (by kernel_rfl) (fun _ _ _ h=>h) (zl ⟨by rfl,?_⟩) (by assumption) ?_;rotate_left
 ·intro w hSw;obtain⟨hS1,hS2⟩:=hSw;go_simp;try with_reducible rfl
 simp only[Act.put,qe,qp,qk];refine zo (i:=25) (oi:={dst:=some 18,op:=Op.assign (Operand.tmp 43),type:=4,pos:="metre.go:149",after:=#[{on:=24,ground:=Ground.data},{on:=21,ground:=Ground.chain}],guard:=none}) (v:=?_) rfl (by kernel_rfl) (by kernel_rfl) (by kernel_rfl) (fun _ _ _ h=>h) (zl ⟨by rfl,?_⟩) (by assumption) ?_;rotate_left
 ·intro w hSw;obtain⟨hS1,hS2⟩:=hSw;go_simp;try with_reducible rfl
 simp only[Act.put,qe,qp,qk];have hB:=hb1.trans (zr5.1.mono hb1.size);refine yH (by kernel_rfl) ?_ _;go_wp2_with fail;go_ret2;exact⟨rfl,hB⟩
theorem ziD (b:Nat) (t:ByteArray) (lo hi:Int) (w:World) (hc:w.cell? ⟨b,2,none⟩=some (.string t)) (hb:b<w.heap.size) (hv:Vars w) (ht:t.size<=65536):
  Calls Tryz.prog 148 #[.pointer (some ⟨b,0,none⟩),.int .i64 lo,.int .i64 hi] w (ze1 (vE t) lo hi w):=by
 cases hf:pm t with
 |false=>
  rw[ze7 hf];refine zgj b t lo hi w hc hb hf ?_;rcases hp:Lib.parseIntB 64 t.data.toList with v|_|_
  ·exact(zee t v w ht hp).mono λe w' ⟨he,hb⟩=>⟨_,_,he,hb⟩
  ·exact(zdl t w ht hv (by intro v;rw[hp];simp)).mono λe w' ⟨n,N,he,hb⟩=>⟨_,_,he,hb⟩
  ·exact(zdl t w ht hv (by intro v;rw[hp];simp)).mono λe w' ⟨n,N,he,hb⟩=>⟨_,_,he,hb⟩
 |true=>
  rcases hp:Lib.parseIntB 64 t.data.toList with v|_|_
  ·have hbd:=Lib.parseIntB_bounds hp;have e63:((2^(64-1):Nat):Int)=9223372036854775808:=(by decide);rw[e63] at hbd;by_cases hi1:Lib.itoa v=t.data.toList
   ·by_cases hl:(yX t.data.toList).length<=18
    ·rw[zly hf hp hi1 hl];exact zhg b t lo hi v w hc hb hv ht hf hp hi1 hbd.1 (by omega) hl
    ·rw[ze9 hl];have h2:(yX t.data.toList).length<=t.data.toList.length:=by
      unfold yX;split
      ·simp
      ·exact ql _
     have h3:t.data.toList.length=t.size:=(by simp);exact zhh b t lo hi v w hc hb hv ht hf hp hi1 hbd.1 (by omega) (by omega) (by omega)
   ·rw[ziA hp hi1];exact zfA b t lo hi v w hc hb hv ht hf hp hi1 hbd.1 (by omega)
  ·rw[ze8 (by intro v;rw[hp];simp)];exact zfc b t lo hi w hc hb hf (zdl t w ht hv (by intro v;rw[hp];simp))
  ·rw[ze8 (by intro v;rw[hp];simp)];exact zfc b t lo hi w hc hb hf (zdl t w ht hv (by intro v;rw[hp];simp))
end Go.Proofs.YtgklikkddckgbaaGreatDoor
namespace Go.Proofs.YtgklikkddckgbaaGreatDoor
open Go Go.RowKit
def pK {β:Type} (B:Nat) (J:β->World->Prop):Prop:=∀s W W' row,J s W->W.grownBy W' row->(∀r,row=some r->B<=r)->J s W'
def pr (B:Nat) (W W':World):Prop:=W.heap.size<=W'.heap.size/\∀i o,B<=i->W.heap[i]?=some o->(o.isCells=true∨o.isWalk=true)->W'.heap[i]?=some o
theorem pr.refl (B:Nat) (W:World):pr B W W:=⟨ql _,λ_ _ _ h _=>h⟩
theorem pr.trans {B:Nat} {W W' W2:World} (h:pr B W W') (h':pr B W' W2):pr B W W2:=⟨qm h.1 h'.1,λi o hi ho hk=>h'.2 i o hi (h.2 i o hi ho hk) hk⟩
theorem pr.put {B:Nat} (W:World) (l:Nat) (o o':Obj) (h:W.heap[l]?=some o) (h1:o.isCells=false) (h2:o.isWalk=false):pr B W (W.putObj l o'):=by
 refine⟨by simp,λi x hi hx hk=>?_⟩;by_cases e:i=l
 ·subst e;rw[h] at hx;cases hx;rcases hk with hk|hk
  ·rw[h1] at hk;cases hk
  ·rw[h2] at hk;cases hk
 ·exact(zf e).trans hx
def zlh {α:Type} (F:Fence) (n:Nat) (P:Program) (g:Nat) (lb:Array Value) (encs:α->Array Value) (S Sp:List α->Prop) (N:Nat) (w:World):Prop:=
 ∀(l:Nat) (J Jx:List α->World->Prop) (W:World),Below w.heap.size w W->pK W.heap.size J->pK W.heap.size Jx->
  (∀pre x W1,J pre W1->pre.length<N->YieldAt F (n-1) P l (encs x) W1 λe W'=>
   (e=.returned (.bool true)/\J (pre++[x]) W'/\pr w.heap.size W1 W')∨(e=.returned (.bool false)/\Jx (pre++[x]) W'))->
  J [] W->
  CallsIn F n P g (#[.func (.yield l) #[] #[]]++lb) W λe W'=>(∃v,e=.returned v)/\((∃xs,S xs/\J xs W')∨(∃pre,Sp pre/\Jx pre W'))
def ziE {α:Type} (B:Nat) (I:List α->World->Prop) (Ix:Code->List α->World->Prop) (xs:List α) (W:World):Exit->Act->World->Prop
 |.normal,_,W'=>KeepsOthers W W'/\pr B W W'/\I xs W'
 |.ret,_,W'=>KeepsOthers W W'/\Ix .ret xs W'
 |.exit id,_,W'=>KeepsOthers W W'/\Ix (.exit id) xs W'
 |.goto t,_,W'=>KeepsOthers W W'/\Ix (.goto t) xs W'
 |.panic _,_,_=>False
 |.outgrown,_,_=>False
theorem pK.put {β:Type} {B:Nat} {J:β->World->Prop} (h:pK B J) {s:β} {W:World} {l:Nat} (o:Obj) (hs:J s W) (hl:B<=l):J s (W.putObj l o):=
 h s W _ (some l) hs (jx W l o) λr e=>by cases e;exact hl
theorem pK.alloc {β:Type} {B:Nat} {J:β->World->Prop} (h:pK B J) {s:β} {W:World} (o:Obj) (hs:J s W):J s (W.alloc o):=
 h s W _ none hs (World.grownBy_alloc W o none) λr e=>by cases e
theorem zje {F:Fence} {n:Nat} {P:Program} {α:Type} {g:Operand} {ps:Array Tmp} {assign body:Code} {Q:Exit->Act->World->Prop} {a:Act} {w:World}
  (hro:F.round=none) (h1:1<=n) {gf:Nat} {lb:Array Value} (hg:a.eval g=.func (.func gf) #[] lb) (hFg:F.fn gf) (eg:∀args w,(callFunc gf args).run P w=.ok (.enter gf args) w)
  {encs:α->Array Value} {S Sp:List α->Prop} {N:Nat} (hseq:zlh F (n-1) P gf lb encs S Sp N w) (hps:∀x,(encs x).size=ps.size)
  (I:List α->World->Prop) (Ix:Code->List α->World->Prop) (hI:pK w.heap.size I) (hIx:∀c,pK w.heap.size (Ix c)) (h0:I [] w) (Ax:α->Act->World->Prop)
  (hassign:∀(l:Nat) (pre:List α) (x:α) (W:World) (K:Act->World->Prop),I pre W->w.heap.size<=W.heap.size->(∀a' W',KeepsOthers W W'->pr w.heap.size W W'->I pre W'->Ax x a' W'->K a' W')->
   assign.wpIn (F.inRound l) (n-1-1) P (Exit.then K (λ_ _ _=>False)) {tmps:=(ps.zip (encs x)).foldl (λt (p,v)=>t.setIfInBounds p v) a.tmps,defers:=[]} W)
  (hbody:∀(l:Nat) (pre:List α) (x:α) (a':Act) (W:World),I pre W->pre.length<N->Ax x a' W->w.heap.size<=W.heap.size->body.wpIn (F.inRound l) (n-1-1) P (ziE w.heap.size I Ix (pre++[x]) W) a' W)
  (hAx:∀x a',OwnFrom w.heap.size (λ(_:Unit) W=>Ax x a' W))
  (hdone:∀(D:Nat) (xs:List α) (W:World),w.heap.size<=D->S xs->I xs W->W.heap[D]?=some (.deferred (some []))->Q .normal {a with defers:={target:=.collected D,args:=#[]}::a.defers} W)
  (hstop:∀(D:Nat) (c:Code) (pre:List α) (W:World),w.heap.size<=D->Sp pre->Ix c pre W->W.heap[D]?=some (.deferred (some []))->c.wpIn F n P Q {a with defers:={target:=.collected D,args:=#[]}::a.defers} W):
  (Code.rangeFunc g ps assign body).wpIn F n P Q a w:=by
 refine wpIn_rangeFunc λfn hfn=>?_;rw[hro]
 --the loop's record,in block L;the block for deferred calls,D
 let zr6:LoopState->Option Code->Loop:=λst pe=>{state:=st,pending:=pe,fn,tmps:=a.tmps,params:=ps,assign,body,defers:=w.heap.size}
 obtain⟨mk,hmk⟩:∃mk,mk=zr6:=⟨_,rfl⟩;obtain⟨W1,hW1⟩:∃W1,(w.alloc (.deferred (some []))).alloc (.loop (mk .ready none))=W1:=⟨_,rfl⟩;have sW1:W1.heap.size=w.heap.size+2:=by rw[<-hW1];simp
 have hL1:W1.heap[w.heap.size+1]?=some (.loop (mk .ready none)):=by
  have:=qn (w.alloc (.deferred (some []))) (.loop (mk .ready none));rw[qO] at this;rw[<-hW1];exact this
 have hD1:W1.heap[w.heap.size]?=some (.deferred (some [])):=by
  rw[<-hW1];exact(qa _ _ _ (by simp)).trans (qn w _)
 have hI1:I [] W1:=by rw[<-hW1];exact hI.alloc _ (hI.alloc _ h0)
 have hB1:Below w.heap.size w W1:=by rw[<-hW1];exact((qb _ w).alloc (ql _) _).alloc (by simp) _
 --what holds between two rounds;what holds when a round has left the loop
 let J:List α->World->Prop:=λpre W=>I pre W/\W.heap[w.heap.size+1]?=some (.loop (mk .ready none))/\W.heap[w.heap.size]?=some (.deferred (some []))
 let Jx:List α->World->Prop:=λpre W=>∃c,Ix c pre W/\W.heap[w.heap.size+1]?=some (.loop (mk .done (some c)))/\W.heap[w.heap.size]?=some (.deferred (some []))
 have old:∀{A B:World} {row:Option Nat} {k:Nat} {o:Obj},A.grownBy B row->(∀r,row=some r->W1.heap.size<=r)->k<W1.heap.size->A.heap[k]?=some o->B.heap[k]?=some o:=λhg hr hk ho=>
  (hg.block _ (qg ho).1 (λe=>by have:=hr _ e.symm;omega)).trans ho
 have aJ:pK W1.heap.size J:=λs A B row hs hg hr=>
  ⟨hI s A B row hs.1 hg (λr e=>by have:=hr r e;omega),old hg hr (by omega) hs.2.1,old hg hr (by omega) hs.2.2⟩
 have aJx:pK W1.heap.size Jx:=λs A B row hs hg hr=>by
  obtain⟨c,hc,hl,hd⟩:=hs;exact⟨c,hIx c s A B row hc hg (λr e=>by have:=hr r e;omega),old hg hr (by omega) hl,old hg hr (by omega) hd⟩
 refine⟨w.heap.size+1,[{target:=.collected w.heap.size,args:=#[]}],W1,{target:=.fn (.func gf) lb,args:=#[.func (.yield (w.heap.size+1)) #[] #[]]},W1,gf,
  #[.func (.yield (w.heap.size+1)) #[] #[]]++lb,W1,?_,?_,?_,?_,λ_=>h1,?_⟩
 ·rw[<-hW1,hmk];exact run_enterLoop_outer _ _ _ _ _
 ·simp only[resolve,hg];simp[go_sem]
 ·intro f' hf';simp[Target.leads] at hf';subst hf';exact hFg
 ·simp[invoke,go_sem,eg]
 ·refine(hseq (w.heap.size+1) J Jx W1 hB1 aJ aJx ?_ ⟨hI1,hL1,hD1⟩).mono ?_
  ·rintro pre x W ⟨hi,hl,hd⟩ hlen;have hlt:w.heap.size+1<W.heap.size:=(qg hl).1;have hy:=run_yield (P:=P) (args:=encs x) hl (by rw[hmk];exact hps x);rw[hmk] at hy;refine⟨fn,_,assign,body,hy,roundIn_of_wpIn hfn (hassign _ pre x W _ hi (by omega) λa' Wa hko hkf hi' hax=>?_)⟩;have hla:Wa.heap[w.heap.size+1]?=some (.loop (mk .ready none)):=hko.same _ _ hl rfl;have hda:Wa.heap[w.heap.size]?=some (.deferred (some [])):=hko.same _ _ hd rfl;have hlta:w.heap.size+1<Wa.heap.size:=(qg hla).1;refine⟨_,run_beginRound hla (by rw[hmk]),?_⟩;generalize hWb:Wa.putObj (w.heap.size+1) (.loop {mk .ready none with state:=.busy})=Wb;have hlb:Wb.heap[w.heap.size+1]?=some (.loop {mk .ready none with state:=.busy}):=(by rw[<-hWb];exact World.putObj_heap_same hlta);have hdb:Wb.heap[w.heap.size]?=some (.deferred (some [])):=(by rw[<-hWb];exact(zf (by omega)).trans hda);have hib:I pre Wb:=(by rw[<-hWb];exact hI.put _ hi' (by omega));have hkb:pr w.heap.size W Wb:=(by rw[<-hWb];exact hkf.trans (pr.put Wa _ _ _ hla rfl rfl));have haxb:Ax x a' Wb:=(by rw[<-hWb];exact(hAx x a').putObj (s:=()) _ hax (by omega) hla rfl);have hsb:w.heap.size<=Wb.heap.size:=(by have:=(qg hlb).1;omega);refine wpIn_mono (hbody _ pre x a' Wb hib hlen haxb hsb) ?_
   have fin:∀(jump:Option Code) (W3:World),KeepsOthers Wb W3->
     (Instr.endRound (w.heap.size+1) jump).run P W3=.ok (.bool jump.isNone) (W3.putObj (w.heap.size+1) (.loop (mk (if jump.isNone then .ready else .done) jump)))/\
     W3.heap[w.heap.size+1]?=some (.loop {mk .ready none with state:=.busy})/\
     (W3.putObj (w.heap.size+1) (.loop (mk (if jump.isNone then .ready else .done) jump))).heap[w.heap.size+1]?=some (.loop (mk (if jump.isNone then .ready else .done) jump))/\
     (W3.putObj (w.heap.size+1) (.loop (mk (if jump.isNone then .ready else .done) jump))).heap[w.heap.size]?=some (.deferred (some [])):=λjump W3 hk3=>by
    have hl3:=hk3.same _ _ hlb rfl;have he:=run_endRound (P:=P) jump hl3;refine⟨?_,hl3,World.putObj_heap_same (qg hl3).1,(zf (by omega)).trans (hk3.same _ _ hdb rfl)⟩;rw[hmk] at he|-;exact he
   rintro e a3 W3 hp;cases e with
   |normal=>
    obtain⟨hk3,hkf3,hi3⟩:=hp;obtain⟨hr,hl3,hl4,hd4⟩:=fin none W3 hk3;exact⟨_,_,hr,.inl ⟨rfl,⟨hI.put _ hi3 (by omega),hl4,hd4⟩,(hkb.trans hkf3).trans (pr.put W3 _ _ _ hl3 rfl rfl)⟩⟩
   |ret=>
    obtain⟨hk3,hi3⟩:=hp;obtain⟨hr,hl3,hl4,hd4⟩:=fin (some .ret) W3 hk3;exact⟨_,_,hr,.inr ⟨rfl,.ret,(hIx _).put _ hi3 (by omega),hl4,hd4⟩⟩
   |exit id=>
    obtain⟨hk3,hi3⟩:=hp;obtain⟨hr,hl3,hl4,hd4⟩:=fin (some (.exit id)) W3 hk3;exact⟨_,_,hr,.inr ⟨rfl,.exit id,(hIx _).put _ hi3 (by omega),hl4,hd4⟩⟩
   |goto t=>
    obtain⟨hk3,hi3⟩:=hp;obtain⟨hr,hl3,hl4,hd4⟩:=fin (some (.goto t)) W3 hk3;exact⟨_,_,hr,.inr ⟨rfl,.goto t,(hIx _).put _ hi3 (by omega),hl4,hd4⟩⟩
   |panic ch=>exact hp.elim
   |outgrown=>exact hp.elim
  ·rintro e W2 ⟨⟨v,rfl⟩,(⟨xs,hS,hi,hl,hd⟩|⟨pre,hSp,c,hi,hl,hd⟩)⟩
   ·exact⟨none,_,by have:=run_endLoop (P:=P) hl (by rw[hmk];simp[zr6]);rw[hmk] at this;exact this,hdone _ xs _ (ql _) hS (hI.put _ hi (by omega)) ((zf (by omega)).trans hd)⟩
   ·exact⟨some c,_,by have:=run_endLoop (P:=P) hl (by rw[hmk];simp[zr6]);rw[hmk] at this;exact this,hstop _ c pre _ (ql _) hSp ((hIx c).put _ hi (by omega)) ((zf (by omega)).trans hd)⟩
end Go.Proofs.YtgklikkddckgbaaGreatDoor
namespace Go.Proofs.YtgklikkddckgbaaGreatDoor
open Go
section
variable {P:Program} {ops:Array Oper} {C:World->Prop} {l n:Nat} {md:Region.Mode}
end
end Go.Proofs.YtgklikkddckgbaaGreatDoor
namespace Go.Proofs.YtgklikkddckgbaaGreatDoor
open Go
def zc7 (J:Nat->Act->World->Prop) (Q:Exit->Act->World->Prop):Exit->Act->World->Prop
 |.goto l,a,w=>J l a w
 |e,a,w=>Q e a w
theorem zaU {J J':Nat->Act->World->Prop} {Q:Exit->Act->World->Prop} (h:∀l a w,J l a w->J' l a w):∀e a w,zc7 J Q e a w->zc7 J' Q e a w:=λe a w hq=>by
 cases e<;>first|exact h _ _ _ hq|exact hq
section
variable {P:Program} {a:Act} {w:World} {Q:Exit->Act->World->Prop}
def zet (J:Nat->Nat->Act->World->Prop) (g:Nat) (l:Nat) (a:Act) (w:World):Prop:=∃g',g'<g/\J l g' a w
theorem zby {J:Nat->Nat->Act->World->Prop} {g g':Nat} (h:g<=g'):∀l a w,zet J g l a w->zet J g' l a w:=λl a w ⟨k,hk,hj⟩=>⟨k,by omega,hj⟩
theorem zbY {c:Code} (J:Nat->Nat->Act->World->Prop) (first:c.wp P (zc7 (λl a w=>∃g,J l g a w) Q) a w)
  (pass:∀l g a w,J l g a w->∃rest,findLabel c l=some rest/\rest.wp P (zc7 (zet J g) Q) a w):(Code.scope c).wp P Q a w:=by
 intro b k cs;have key:∀n l a w,J l n a w->∃rest,findLabel c l=some rest/\∃e a' w',Q e a' w'/\Arrives P (lone (b.at a (.code rest::.inScope c::k)) cs w) b k cs e a' w':=by
  intro n;induction n using Nat.strongRecOn with
  |_ n ih=>
   intro l a w hJ;obtain⟨rest,hf,hp⟩:=pass l n a w hJ;refine⟨rest,hf,?_⟩;obtain⟨e,a₁,w₁,hq,harr⟩:=hp b (.inScope c::k) cs;cases e with
   |normal=>exact⟨.normal,a₁,w₁,hq,Steps.trans harr (.one step_inScope)⟩
   |exit id=>exact⟨.exit id,a₁,w₁,hq,λk' hk=>harr k' (by simp[exitTo,hk])⟩
   |goto l'=>
    obtain⟨g',hlt,hJ'⟩:=hq;obtain⟨rest',hf',e₂,a₂,w₂,hq₂,harr₂⟩:=ih g' hlt l' a₁ w₁ hJ';have hg:gotoIn l' (.inScope c::k)=some (.code rest'::.inScope c::k):=(by simp[gotoIn,hf']);exact⟨e₂,a₂,w₂,hq₂,.of_steps (harr _ hg) harr₂⟩
   |ret=>exact⟨_,a₁,w₁,hq,harr⟩
   |panic ch=>exact⟨_,a₁,w₁,hq,harr⟩
   |outgrown=>exact⟨_,a₁,w₁,hq,harr⟩
 obtain⟨e,a₁,w₁,hq,harr⟩:=first b (.inScope c::k) cs
 cases e with
 |normal=>exact⟨.normal,a₁,w₁,hq,.head xX (Steps.trans harr (.one step_inScope))⟩
 |exit id=>exact⟨.exit id,a₁,w₁,hq,λk' hk=>.head xX (harr k' (by simp[exitTo,hk]))⟩
 |goto l'=>
  obtain⟨g',hJ'⟩:=hq;obtain⟨rest',hf',e₂,a₂,w₂,hq₂,harr₂⟩:=key g' l' a₁ w₁ hJ';have hg:gotoIn l' (.inScope c::k)=some (.code rest'::.inScope c::k):=by simp[gotoIn,hf']
  exact⟨e₂,a₂,w₂,hq₂,.of_steps (.head xX (harr _ hg)) harr₂⟩
 |ret=>exact⟨_,a₁,w₁,hq,.of_steps (.one xX) harr⟩
 |panic ch=>exact⟨_,a₁,w₁,hq,.of_steps (.one xX) harr⟩
 |outgrown=>exact⟨_,a₁,w₁,hq,.of_steps (.one xX) harr⟩
theorem zcj {c:Code} (h:c.wp P Q a w):(Code.skip.seq c).wp P Q a w:=wp_seq (wp_skip h)
theorem ze3 {c r0 r1 r2:Code} (h0:findLabel c 0=some (Code.skip.seq r0)) (h1:findLabel c 1=some (Code.skip.seq r1)) (h2:findLabel c 2=some (Code.skip.seq r2)) (J:Nat->Nat->Act->World->Prop) (hJ:∀l g a w,J l g a w->l<3)
  (p2:∀g a w,J 2 g a w->r2.wp P (zc7 (zet J g) Q) a w)
  (p1:(∀g a w,J 2 g a w->r2.wp P (zc7 (zet J g) Q) a w)->∀g a w,J 1 g a w->r1.wp P (zc7 (zet J g) Q) a w)
  (p0:(∀g a w,J 1 g a w->r1.wp P (zc7 (zet J g) Q) a w)->∀g a w,J 0 g a w->r0.wp P (zc7 (zet J g) Q) a w)
  (first:(∀g a w,J 0 g a w->r0.wp P (zc7 (λl a w=>∃g,J l g a w) Q) a w)->c.wp P (zc7 (λl a w=>∃g,J l g a w) Q) a w):(Code.scope c).wp P Q a w:=by
 have q1:=p1 p2;have q0:=p0 q1;refine zbY J (first λg a w hj=>km (zaU λl a w h=>?_) (q0 g a w hj)) ?_
 ·obtain⟨g',_,hj'⟩:=h;exact⟨g',hj'⟩
 ·intro l g a w hj;have hl:=hJ l g a w hj;match l,hl,hj with
  |0,_,hj=>exact⟨_,h0,zcj (q0 g a w hj)⟩
  |1,_,hj=>exact⟨_,h1,zcj (q1 g a w hj)⟩
  |2,_,hj=>exact⟨_,h2,zcj (p2 g a w hj)⟩
end
end Go.Proofs.YtgklikkddckgbaaGreatDoor


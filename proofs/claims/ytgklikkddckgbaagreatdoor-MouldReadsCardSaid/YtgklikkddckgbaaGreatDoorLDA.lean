import Derived.Test.YtgklikkddckgbaaGreatDoorProg
import Derived.Deep.RegionHeld3
import Derived.Handy
import Derived.LaidMore
import Derived.LaidOnce
import Derived.Lay
import Derived.Lib.OwnKind
import Derived.Lib.SmallJoins
import Derived.LoopIn
import Derived.LoopNIn
import Derived.OwnWalkIn
import Derived.RangeFuncBound
import Derived.RangeFuncNested
import Derived.SevenTiedAt
import Derived.Shelf.RegionOpen
import Derived.Shelf.Slices.Turned
import Derived.Shelf.Small.Strs
import Derived.Shelf.Small.Utf8
import Derived.Shelf.Strconv.ErrVarAll
import Derived.Shelf.Strconv.ErrVarParseInt
import Derived.Shelf.Strconv.Itoa4
import Derived.Shelf.Strings.BuilderK
import Derived.Shelf.Strings.OnBuilder
import Derived.Shelf.Strings.Prefix
import Derived.Shelf.Strings.RuneCount
import Derived.Shelf.Strings.Shaped
import Derived.Shelf.Strings.SplitShaped
import Derived.Shelf.Unicode.CaseLaid
import Derived.Shelf.Unicode.Decode
import Derived.Shelf.Unicode.DecodeAny
import Derived.Shelf.Unicode.Latin
import Derived.Shelf.Utf8.RuneCount
import Derived.StillTailTactics
import Derived.Stop.LaidErr
import Derived.WalkLawsBesides
import Derived.WalkSpells
/- Short names. -/
set_option linter.all false
namespace Go.Proofs.YtgklikkddckgbaaGreatDoor
open Go Go.RowKit
def qe:=@List.setIfInBounds_toArray
def qj:=@List.getD_eq_getElem?_getD
def qk:=@List.set_cons_succ
def qp:=@List.set_cons_zero
def qq:=@List.getElem_cons_succ
def qr:=@List.getElem_cons_zero
def qu:=@List.getElem_toArray
def qv:=@List.length_append
def qx:=@if_neg
def qy:=@if_pos
def qz:=@List.getElem?_eq_getElem
def qA:=@Bool.and_eq_true
def qB:=@List.length_cons
def qC:=@decide_eq_true_eq
def qD:=@Nat.lt_of_lt_of_le
def qE:=@List.take_succ_eq_append_getElem
def qF:=@Nat.zero_le
def qG:=@List.length_nil
def qH:=@ByteArray.data_append
def qI:=@Go.results_none
def qJ:=@List.mem_append
def qK:=@decide_eq_true
def qL:=@Array.toList_append
def qN:=@Go.Proofs.Tryz.underlying9
def qO:=@Go.World.size_alloc
def qP:=@List.append_assoc
def qQ:=@List.getElem?_append_left
def qR:=@ByteArray.size_append
def qS:=@Array.length_toList
def qU:=@List.take_length
def qV:=@Go.Proofs.Tryz.underlying5
def qW:=@Go.ByteArray.toList_eq
def qX:=@Go.Proofs.Tryz.underlying25
def qY:=@And.intro
def qZ:=@And.left
def q9:=@Go.bodyPost_end
def zf:=@Go.World.putObj_heap_other
def zg:=@Bool.false_or
def zh:=@decide_eq_false
def zi:=@List.mem_cons
def zj:=@List.mem_singleton
def zk:=@of_decide_eq_true
def zl:=@Or.inl
def zm:=@List.drop_eq_getElem_cons
def zn:=@List.mem_of_find?_eq_some
def zo:=@Go.wpAnyH_take
def zp:=@Go.World.frozen?_of_block
def zr:=@Bool.true_or
def zt:=@Go.bodyPost_ret
def zu:=@Go.Proofs.Tryz.underlying4
def zv:=@List.length_singleton
def zw:=@beq_eq_false_iff_ne
def zx:=@List.getElem?_eq_some_iff
def zy:=@Go.Proofs.Tryz.underlying3
def zz:=@Go.run_convert_bytes_back
def zA:=@of_decide_eq_false
def zB:=@Go.Proofs.Tryz.zeroValue4
def zD:=@List.getElem?_append_right
def zE:=@Option.mem_toList
def zF:=@List.eq_nil_of_length_eq_zero
def zG:=@Go.Proofs.Tryz.zeroValue3
def zH:=@Go.Proofs.Tryz.zeroValue5
def zI:=@Go.Proofs.Tryz.zeroValue9
def zJ:=@Array.setIfInBounds_comm
def zK:=@List.length_drop
def zL:=@Nat.le_of_lt
def zM:=@Bool.or_eq_false_iff
def zN:=@List.mem_cons_of_mem
def zO:=@List.all_eq_true
def zP:=@Go.World.ownsRow_nil
def zQ:=@Go.Proofs.Tryz.sizeOf4
def zR:=@List.getElem?_cons_succ
def zS:=@List.getElem?_cons_zero
def zT:=@Go.Proofs.Tryz.underlying0
def zU:=@Bool.true_and
def zV:=@Go.Proofs.Tryz.sizeOf3
def zW:=@Go.Proofs.Tryz.sizeOf5
def zX:=@Go.Proofs.Tryz.sizeOf9
def zY:=@Except.ok.injEq
def zZ:=@List.find?_cons
def ka:=@Go.Proofs.Tryz.isAgg4
def kc:=@Go.Proofs.Tryz.zeroValue0
def kd:=@List.getElem?_toArray
def kg:=@Int.mul_le_mul_of_nonneg_right
def kh:=@List.cons_append
def ki:=@Go.Proofs.Tryz.underlying122
def kj:=@Go.Proofs.Tryz.underlying184
def kk:=@Go.Proofs.Tryz.underlying221
def kl:=@Go.Proofs.Tryz.zeroValue25
def km:=@Go.Code.wp_mono
def kn:=@Go.Proofs.Tryz.isAgg3
def ko:=@Go.Proofs.Tryz.isAgg5
def kp:=@Go.Proofs.Tryz.isAgg9
def kq:=@Go.Proofs.Tryz.underlying20
def kr:=@Go.Proofs.Tryz.zeroValue184
def ks:=@Go.Proofs.Tryz.zeroValue221
def kt:=@if_true
def ku:=@List.append_nil
def kv:=@Go.KeepsOthers.setCell
def kw:=@List.flatMap_append
def kx:=@List.drop_eq_nil_of_le
def ky:=@List.mem_map
def kz:=@Prod.mk.injEq
def kA:=@List.any_eq_true
def kB:=@Go.Proofs.Tryz.zeroValue20
def kC:=@Bool.false_eq_true
def kD:=@List.getElem?_drop
def kE:=@Go.Proofs.Tryz.underlying156
def kF:=@Bool.eq_iff_iff
def kG:=@Bool.or_eq_true
def kH:=@List.find?_some
def kI:=@List.range_succ
def kJ:=@Option.some.inj
def kK:=@List.flatMap_cons
def kL:=@Go.Proofs.Tryz.sizeOf0
def kM:=@Go.Proofs.Tryz.zeroValue156
def kN:=@ByteArray.ext
def kO:=@Go.Proofs.Tryz.sizeOf25
def kP:=@Go.Calls.quiet_of_same
def kQ:=@List.length_take
def kR:=@Go.Proofs.Tryz.sizeOf184
def kS:=@Go.Proofs.Tryz.sizeOf221
def kT:=@Go.Proofs.Tryz.isAgg0
def kU:=@ByteArray.data_extract
def kV:=@ByteArray.size_extract
def kW:=@List.find?_eq_none
def kX:=@List.getElem?_take
def kY:=@Nat.zero_add
def kZ:=@Go.Proofs.Tryz.isAgg25
def ja:=@Go.Proofs.Tryz.underlying197
def jb:=@Go.Proofs.Tryz.underlying237
def jc:=@List.nil_append
def jd:=@Go.Oper.semAt_some
def je:=@Go.Proofs.Tryz.isAgg184
def jf:=@Go.Proofs.Tryz.isAgg221
def jg:=@Go.Proofs.Tryz.sizeOf20
def jh:=@List.any_eq_false
def ji:=@Go.Proofs.Tryz.underlying75
def jj:=@Go.Proofs.Tryz.underlying76
def jk:=@Go.Proofs.Tryz.zeroValue122
def jl:=@Go.Value.slice.injEq
def jm:=@dif_pos
def jn:=@List.mem_append_left
def jo:=@List.mem_iff_getElem
def jp:=@List.mem_of_mem_take
def jq:=@Go.Proofs.Tryz.sizeOf156
def jr:=@Go.Proofs.Tryz.isAgg20
def js:=@Go.wp_region_held_drew
def jt:=@Go.Proofs.Tryz.isAgg156
def ju:=@List.length_set
def jv:=@List.map_append
def jw:=@UInt8.toNat_inj
def jx:=@Go.grownBy_putObj'
def jy:=@List.countP_append
def jz:=@List.mem_cons_self
def jA:=@Go.Proofs.Tryz.underlying118
def jB:=@Go.Proofs.Tryz.underlying120
def jC:=@Go.Proofs.Tryz.underlying123
def jD:=@Go.Proofs.Tryz.underlying164
def jE:=@Go.Proofs.Tryz.underlying196
def jF:=@Go.Proofs.Tryz.underlying200
def jG:=@Go.Proofs.Tryz.underlying238
def jH:=@Go.Proofs.Tryz.underlying265
def jI:=@Go.Proofs.Tryz.underlying266
def jJ:=@Go.Proofs.Tryz.underlying277
def jK:=@Go.Proofs.Tryz.underlying279
def jL:=@Go.World.block_lt_of_cell?
def jM:=@Go.cell_of_row
def jN:=@Bool.not_false
def jO:=@List.take_of_length_le
def jP:=@Go.Proofs.Tryz.sizeOf122
def jQ:=@Go.Proofs.Tryz.underlying21
def jR:=@Go.Proofs.Tryz.underlying77
def jS:=@Go.Proofs.Tryz.zeroValue118
def jT:=@Go.Proofs.Tryz.zeroValue120
def jU:=@Go.Proofs.Tryz.zeroValue123
def jV:=@Go.Proofs.Tryz.zeroValue196
def jW:=@Go.Proofs.Tryz.zeroValue197
def jX:=@Go.Proofs.Tryz.zeroValue200
def jY:=@Go.Proofs.Tryz.zeroValue237
def jZ:=@Go.Proofs.Tryz.zeroValue265
def j7:=@Go.Proofs.Tryz.zeroValue266
def xd:=@UInt8.ofNat_toNat
def xe:=@List.length_replicate
def xg:=@Go.ownsRow_setCell_other
def xh:=@Array.toList_inj
def xi:=@Go.Lib.ownsRow_kind
def xj:=@List.not_mem_nil
def xl:=@Go.Proofs.Tryz.underlying2
def xm:=@Go.Proofs.Tryz.zeroValue21
def xn:=@Go.run_takeDeferred
def xo:=@List.map_cons
def xp:=@Go.Proofs.Tryz.isAgg122
def xr:=@Go.Proofs.Tryz.ntmps148
def xt:=@dif_neg
def xu:=@Array.replicate_succ
def xv:=@Array.replicate_zero
def xw:=@List.mem_of_mem_drop
def xx:=@List.any_append
def xy:=@List.length_map
def xB:=@List.mem_filter
def xC:=@Go.Proofs.Tryz.zeroValue2
def xD:=@List.append_toArray
def xE:=@List.countP_pos_iff
def xF:=@List.getElem_of_mem
def xG:=@Nat.add_zero
def xH:=@Nat.sub_self
def xI:=@Go.Proofs.Tryz.func148
def xJ:=@Bool.and_false
def xK:=@Go.Lib.indexByte_some
def xL:=@List.drop_zero
def xM:=@List.filter_append
def xN:=@Go.Proofs.Tryz.sizeOf118
def xO:=@Go.Proofs.Tryz.sizeOf120
def xP:=@Go.Proofs.Tryz.sizeOf123
def xQ:=@Go.Proofs.Tryz.sizeOf196
def xR:=@Go.Proofs.Tryz.sizeOf197
def xS:=@Go.Proofs.Tryz.sizeOf200
def xT:=@Go.Proofs.Tryz.sizeOf237
def xU:=@Go.Proofs.Tryz.sizeOf238
def xV:=@Go.Proofs.Tryz.sizeOf265
def xW:=@Go.Proofs.Tryz.sizeOf266
def xX:=@Go.step_scope
def xY:=@Int.le_refl
def xZ:=@List.push_toArray
def ya:=@List.size_toArray
def yb:=@Option.some.injEq
def yc:=@Prod.mk.inj
def yd:=@Go.Result.andThen_ok
def ye:=@eq_self
def yf:=@Bool.or_false
def yg:=@Go.Proofs.Tryz.isAgg118
def yh:=@Go.Proofs.Tryz.isAgg120
def yi:=@Go.Proofs.Tryz.isAgg123
def yj:=@Go.Proofs.Tryz.isAgg196
def yk:=@Go.Proofs.Tryz.isAgg197
def yl:=@Go.Proofs.Tryz.isAgg200
def ym:=@Go.Proofs.Tryz.isAgg237
def yn:=@Go.Proofs.Tryz.isAgg238
def yo:=@Go.Proofs.Tryz.isAgg265
def yp:=@Go.Proofs.Tryz.isAgg266
def yq:=@Go.Proofs.Tryz.ntmps113
def yr:=@Go.Proofs.Tryz.ntmps150
def yt:=@Go.Proofs.Tryz.sizeOf21
def yu:=@Go.Proofs.Tryz.sizeOf87
def yv:=@Go.Lib.indexByte_ge
def yw:=@List.countP_cons
def yx:=@List.drop_length
def yy:=@List.flatMap_nil
def yz:=@List.isEmpty_iff
def yA:=@List.map_toArray
def yB:=@List.map_nil
def yC:=@beq_iff_eq
def yD:=@List.sum_append
def yE:=@Go.Obj.cells.injEq
def yF:=@Bool.false_and
def yG:=@if_false
def yH:=@Go.wpAnyH_done
def yI:=@Go.mem_ready
def yJ:=@Or.inr
def qh:=@Lib.hid
def qc:=@jM
def qf:=@frozen_of_row
def qd:=@zh
def qt:=@qK
def qs:=@heap_setCell_same
def qn:=@World.alloc_heap_new
def ql:=@Nat.le_refl
def qm:=@Nat.le_trans
def qb:=@Below.refl
def qa:=@Below.heap_alloc
def qi:=@IntWalk.i64_in
def qw:=@World.cell?_of_block
def qo:=@World.cell?_setCell_other
def qT:=@Below.heap_setCell
def qM:=@List.getElem_mem
theorem qg{α:Type}{xs:Array α}{i:Nat}{a:α}(h:xs[i]?=some a):∃h:i<xs.size,xs[i]=a:=Array.getElem?_eq_some_iff.1 h
end Go.Proofs.YtgklikkddckgbaaGreatDoor
namespace Go.Proofs.YtgklikkddckgbaaGreatDoor
def zdf (c:UInt8):Bool:=!(((c.toNat:Int) !=120)&&((c.toNat:Int) !=47))
def zbo (s:ByteArray) (k:Nat):Bool:=(s.data.toList.take k).all zdf
def QC (s:ByteArray) (lo hi:Int):Bool:=zbo s s.size&&(decide (lo<=(s.size:Int))&&decide ((s.size:Int)<=hi))
theorem zi7 (s:ByteArray) (k:Nat) (h:k<s.size):s.data.toList.take (k+1)=s.data.toList.take k++[s[k]]:=by
 rw[qE (by simpa using h)];rfl
theorem zdW (s:ByteArray):zbo s 0=true:=by simp[zbo]
theorem zdX (s:ByteArray) (k:Nat) (h:k<s.size):zbo s (k+1)=(zbo s k&&zdf s[k]):=by
 unfold zbo;rw[zi7 s k h,List.all_append];simp
theorem zdg (s:ByteArray) (k:Nat) (h:k<s.size) (hf:zdf s[k]=false):zbo s s.size=false:=by
 unfold zbo;rw[List.all_eq_false];refine⟨s[k],?_,by rw[hf];simp⟩;rw[jO (by simp)];exact qM (by simpa using h)
def pm (s:ByteArray):Bool:=match s.data.toList with
 |[]=>false
 |c::_=>((c.toNat:Int)==45)||(decide ((48:Int)<=(c.toNat:Int))&&decide ((c.toNat:Int)<=(57:Int)))
theorem zdI (s:ByteArray) (h:s.data.toList=[]):pm s=false:=by unfold pm;rw[h]
theorem zf9 (s:ByteArray) (h:0<s.size):pm s=(((s[0].toNat:Int)==45)||(decide ((48:Int)<=(s[0].toNat:Int))&&decide ((s[0].toNat:Int)<=(57:Int)))):=by
 have hl:0<s.data.toList.length:=by simpa using h
 unfold pm;have e:s.data.toList=s[0]::s.data.toList.tail:=by
  cases hd:s.data.toList with
  |nil=>rw[hd] at hl;simp at hl
  |cons c t=>
   have:s[0]=c:=by
    show s.data[0]=c;have h1:s.data.toList[0]'hl=c:=(by simp[hd]);rw[<-h1];simp
   rw[this];rfl
 rw[e]
theorem zcS {t:ByteArray} (h:t.size=0):t.data.toList=[]:=zF (by simpa using h)
theorem zba {t:ByteArray} (h:t.size=0):t.toList=[]:=by rw[qW];exact zcS h
theorem zdh {t:ByteArray} (h:0<t.size):t.toList.isEmpty=false:=by
 rw[qW];cases hd:t.data.toList with
 |nil=>have:t.data.toList.length=0:=by rw[hd];rfl
       rw[qS] at this;have h2:t.size=t.data.size:=rfl;omega
 |cons c l=>rfl
end Go.Proofs.YtgklikkddckgbaaGreatDoor
namespace Go.Proofs.YtgklikkddckgbaaGreatDoor
def pX (s:ByteArray) (a:Nat):Nat:=if h:a<s.size then if((s[a].toNat:Int)==32) then pX s (a+1) else a else a
termination_by s.size-a
theorem zc5 {s:ByteArray} {a:Nat} (h:a<s.size) (h2:((s[a].toNat:Int)==32)=true):pX s a=pX s (a+1):=by
 conv=>lhs;unfold pX
 rw[jm h,qy h2]
theorem zdJ {s:ByteArray} {a:Nat} (h:a<s.size) (h2:((s[a].toNat:Int)==32)=false):pX s a=a:=by
 unfold pX;rw[jm h,qx (by rw[h2];simp)]
theorem zga {s:ByteArray} {a:Nat} (h:¬a<s.size):pX s a=a:=by
 unfold pX;rw[xt h]
theorem zch {s:ByteArray} (a:Nat) (ha:a<=s.size):a<=pX s a/\pX s a<=s.size:=by
 induction h:s.size-a generalizing a with
 |zero=>rw[zga (by omega)];omega
 |succ n ih=>
  have hlt:a<s.size:=by omega
  cases h2:((s[a].toNat:Int)==32) with
  |true=>rw[zc5 hlt h2];have:=ih (a+1) (by omega) (by omega);omega
  |false=>rw[zdJ hlt h2];omega
def zdi (c:UInt8):Bool:=(((c.toNat:Int)==32)||((c.toNat:Int)==44))||((c.toNat:Int)==59)
def zdj (c:UInt8):Bool:=((c.toNat:Int)==44)||((c.toNat:Int)==59)
theorem zbg {a b:UInt8} (h:a.toNat=b.toNat):a=b:=jw.1 h
theorem ze6 (c:UInt8):decide ((0:Int)<=Lib.indexByte [32,44,59] c)=zdi c:=by
 unfold zdi;by_cases h1:c=32
 ·subst h1;rfl
 by_cases h2:c=44
 ·subst h2;rfl
 by_cases h3:c=59
 ·subst h3;rfl
 have n1:((c.toNat:Int)==32)=false:=by
  simp only[zw];intro e;exact h1 (zbg (b:=32) (by have:(32:UInt8).toNat=32:=rfl;omega))
 have n2:((c.toNat:Int)==44)=false:=by
  simp only[zw];intro e;exact h2 (zbg (b:=44) (by have:(44:UInt8).toNat=44:=rfl;omega))
 have n3:((c.toNat:Int)==59)=false:=by
  simp only[zw];intro e;exact h3 (zbg (b:=59) (by have:(59:UInt8).toNat=59:=rfl;omega))
 rw[n1,n2,n3];have e:Lib.indexByte [32,44,59] c= -1:=by
  have m1:((32:UInt8)==c)=false:=by simp;exact λh=>h1 h.symm
  have m2:((44:UInt8)==c)=false:=by simp;exact λh=>h2 h.symm
  have m3:((59:UInt8)==c)=false:=by simp;exact λh=>h3 h.symm
  simp[Lib.indexByte,m1,m2,m3]
 rw[e];rfl
theorem zi8 (l:List UInt8) (c:UInt8) (h:Lib.indexByte l c<0):Lib.indexByte l c= -1:=by
 induction l with
 |nil=>rfl
 |cons b l ih=>
  unfold Lib.indexByte at h|-;by_cases h1:(b==c)=true
  ·rw[qy h1] at h;omega
  ·rw[qx h1] at h|-;by_cases h2:(Lib.indexByte l c== -1)=true
   ·rw[qy h2]
   ·rw[qx h2] at h;have:=ih (by omega);rw[this] at h2;simp at h2
def VE (s:ByteArray) (e:Nat):Nat:=if h:e<s.size then if zdi s[e] then e else VE s (e+1) else e
termination_by s.size-e
theorem zec {s:ByteArray} {a:Nat} (h:a<s.size) (h2:zdi s[a]=false):VE s a=VE s (a+1):=by
 conv=>lhs;unfold VE
 rw[jm h,qx (by rw[h2];simp)]
theorem zdK {s:ByteArray} {a:Nat} (h:a<s.size) (h2:zdi s[a]=true):VE s a=a:=by
 unfold VE;rw[jm h,qy h2]
theorem zeq {s:ByteArray} {a:Nat} (h:¬a<s.size):VE s a=a:=by
 unfold VE;rw[xt h]
theorem zhS {s:ByteArray} (a:Nat) (ha:a<=s.size):a<=VE s a/\VE s a<=s.size:=by
 induction h:s.size-a generalizing a with
 |zero=>rw[zeq (by omega)];omega
 |succ n ih=>
  have hlt:a<s.size:=by omega
  cases h2:zdi s[a] with
  |false=>rw[zec hlt h2];have:=ih (a+1) (by omega) (by omega);omega
  |true=>rw[zdK hlt h2];omega
def ZE (s:ByteArray) (a:Nat):Nat:=if h:a<s.size then if zdj s[a] then a+1 else VE s (a+1) else a
theorem zb2 {s:ByteArray} {a:Nat} (h:a<s.size) (h2:zdj s[a]=true):ZE s a=a+1:=by
 unfold ZE;rw[jm h,qy h2]
theorem zcT {s:ByteArray} {a:Nat} (h:a<s.size) (h2:zdj s[a]=false):ZE s a=VE s (a+1):=by
 unfold ZE;rw[jm h,qx (by rw[h2];simp)]
theorem zcC {s:ByteArray} {a:Nat} (h:¬a<s.size):ZE s a=a:=by
 unfold ZE;rw[xt h]
theorem zcU {s:ByteArray} (a:Nat) (ha:a<=s.size):a<=ZE s a/\ZE s a<=s.size:=by
 by_cases h:a<s.size
 ·cases h2:zdj s[a] with
  |true=>rw[zb2 h h2];omega
  |false=>rw[zcT h h2];have:=zhS (s:=s) (a+1) (by omega);omega
 ·rw[zcC h];omega
theorem zed {s:ByteArray} (a:Nat) (ha:a<s.size):a<ZE s a:=by
 cases h2:zdj s[a] with
 |true=>rw[zb2 ha h2];omega
 |false=>rw[zcT ha h2];have:=zhS (s:=s) (a+1) (by omega);omega
end Go.Proofs.YtgklikkddckgbaaGreatDoor
namespace Go.Proofs.YtgklikkddckgbaaGreatDoor
open Go.Lib
def Xf (l:List UInt8):Bool:=match l with|[]=>false|c::_=>((c.toNat:Int)==45)
def yX (l:List UInt8):List UInt8:=if Xf l then l.tail else l
def Xm (l:List UInt8) (m:Nat):Int:=if Xf l then-(m:Int) else(m:Int)
def vE (t:ByteArray):Option Int:=
 if pm t then if(yX t.data.toList).length<=18 then match decNat (yX t.data.toList) with
  |some m=>if itoa (Xm t.data.toList m)=t.data.toList then some (Xm t.data.toList m) else none
  |none=>none
 else none else none
theorem zgb {l:List UInt8} {t:ByteArray} (hl:t.data.toList=l) (h:pm t=true):(∃r,l=45::r/\Xf l=true)∨∃c r,l=c::r/\Xf l=false/\c.toNat≠43/\c.toNat≠45:=by
 unfold pm at h;rw[hl] at h;cases l with
 |nil=>cases h
 |cons c r=>
  simp only[kG,qA,qC] at h;by_cases hc:((c.toNat:Int)==45)=true
  ·left;have h1:(c.toNat:Int)=45:=(by simpa using hc);have:c=45:=zbg (b:=45) (by have:(45:UInt8).toNat=45:=rfl;omega);subst this;exact⟨r,rfl,rfl⟩
  ·right;have h1:¬(c.toNat:Int)=45:=(by simpa using hc);refine⟨c,r,rfl,by simpa [Xf] using hc,?_,by omega⟩;rcases h with h|h
   ·exact absurd h hc
   ·omega
theorem zkx {l:List UInt8}:trimPrefix l [45]=yX l:=by
 unfold trimPrefix hasPrefix yX Xf;cases l with
 |nil=>rfl
 |cons c r=>
  by_cases hc:c=45
  ·subst hc;rfl
  ·have h1:((45:UInt8)==c)=false:=(by simp;exact λh=>hc h.symm);have h2:((c.toNat:Int)==45)=false:=by
    simp only[zw];intro h;exact hc (zbg (b:=45) (by have:(45:UInt8).toNat=45:=rfl;omega))
   simp[List.isPrefixOf,h1,h2]
theorem zgc {t:ByteArray} (h:pm t=true) (hl:(yX t.data.toList).length<=18):parseIntB 64 t.data.toList=NumEnd.ofOption ((decNat (yX t.data.toList)).map (Xm t.data.toList)):=by
 rw[parseIntB_64];rcases zgb rfl h with⟨r,e,hm⟩|⟨c,r,e,hm,h43,h45⟩
 ·have e2:yX t.data.toList=r:=by unfold yX;rw[hm,e];rfl
  have e3:Xm t.data.toList=λm:Nat=>-(m:Int):=by funext m;unfold Xm;rw[hm];rfl
  rw[e2] at hl|-;rw[e3];rw[e,atoiAll_minus,signed_short hl]
 ·have e2:yX t.data.toList=c::r:=by unfold yX;rw[hm,e];rfl
  have e3:Xm t.data.toList=λm:Nat=>(m:Int):=by funext m;unfold Xm;rw[hm];rfl
  rw[e2] at hl|-;rw[e3];rw[e,atoiAll_plain c r h43 h45,signless_short hl]
theorem zdk {t:ByteArray} {v:Int} (h:vE t=some v):pm t=true/\parseIntB 64 t.data.toList=.ok v/\itoa v=t.data.toList/\(yX t.data.toList).length<=18:=by
 unfold vE at h;by_cases hf:pm t=true
 ·rw[qy hf] at h;by_cases hl:(yX t.data.toList).length<=18
  ·rw[qy hl] at h;cases hd:decNat (yX t.data.toList) with
   |none=>rw[hd] at h;cases h
   |some m=>
    rw[hd] at h;simp only at h;by_cases hi:itoa (Xm t.data.toList m)=t.data.toList
    ·rw[qy hi] at h;injection h with h
     subst h;refine⟨hf,?_,hi,hl⟩;rw[zgc hf hl,hd];rfl
    ·rw[qx hi] at h;cases h
  ·rw[qx hl] at h;cases h
 ·rw[qx hf] at h;cases h
theorem zly {t:ByteArray} {v:Int} (hf:pm t=true) (hp:parseIntB 64 t.data.toList=.ok v) (hi:itoa v=t.data.toList) (hl:(yX t.data.toList).length<=18):vE t=some v:=by
 unfold vE;rw[qy hf,qy hl];rw[zgc hf hl] at hp;cases hd:decNat (yX t.data.toList) with
 |none=>rw[hd] at hp;cases hp
 |some m=>
  rw[hd] at hp;have hv:Xm t.data.toList m=v:=by injection hp
  simp only;rw[hv,qy hi]
theorem ze7 {t:ByteArray} (hf:pm t=false):vE t=none:=by unfold vE;rw[qx (by rw[hf];simp)]
theorem ze8 {t:ByteArray} (hp:∀v,parseIntB 64 t.data.toList≠.ok v):vE t=none:=by
 cases h:vE t with
 |none=>rfl
 |some v=>exact absurd (zdk h).2.1 (hp v)
theorem ziA {t:ByteArray} {v:Int} (hp:parseIntB 64 t.data.toList=.ok v) (hi:itoa v≠t.data.toList):vE t=none:=by
 cases h:vE t with
 |none=>rfl
 |some v'=>
  obtain⟨_,h1,h2,_⟩:=zdk h;rw[hp] at h1;injection h1 with h1
  subst h1;exact absurd h2 hi
theorem ze9 {t:ByteArray} (hl:¬(yX t.data.toList).length<=18):vE t=none:=by
 cases h:vE t with
 |none=>rfl
 |some v'=>exact absurd (zdk h).2.2.2 hl
end Go.Proofs.YtgklikkddckgbaaGreatDoor
namespace Go.Proofs.YtgklikkddckgbaaGreatDoor
abbrev F3:=List UInt8×List UInt8×List UInt8
def Zp:List F3:=[
 ([97,109,112,104,105,98,114,97,99,104],[120,47,120],[97,109,112,104,105,98,114,97,99,104,105,99]),
 ([97,110,97,112,101,115,116],[120,120,47],[97,110,97,112,101,115,116,105,99]),
 ([97,110,116,105,98,97,99,99,104,105,117,115],[47,47,120],[97,110,116,105,98,97,99,99,104,105,99]),
 ([98,97,99,99,104,105,117,115],[120,47,47],[98,97,99,99,104,105,99]),
 ([99,104,111,114,105,97,109,98],[47,120,120,47],[99,104,111,114,105,97,109,98,105,99]),
 ([99,114,101,116,105,99],[47,120,47],[99,114,101,116,105,99]),
 ([100,97,99,116,121,108],[47,120,120],[100,97,99,116,121,108,105,99]),
 ([105,97,109,98],[120,47],[105,97,109,98,105,99]),
 ([105,111,110,105,99],[120,120,47,47],[105,111,110,105,99]),
 ([109,111,108,111,115,115,117,115],[47,47,47],[109,111,108,111,115,115,105,99]),
 ([112,121,114,114,104,105,99],[120,120],[112,121,114,114,104,105,99]),
 ([115,112,111,110,100,101,101],[47,47],[115,112,111,110,100,97,105,99]),
 ([116,114,105,98,114,97,99,104],[120,120,120],[116,114,105,98,114,97,99,104,105,99]),
 ([116,114,111,99,104,101,101],[47,120],[116,114,111,99,104,97,105,99])]
def Xn:List UInt8:=Zp.flatMap λf=>f.1++[32]++f.2.1++[32]++f.2.2++[32]
def TB:ByteArray:=⟨Xn.toArray⟩
def pu (j:Nat):F3:=Zp.getD j ([],[],[])
def znO (a b:Nat):List UInt8:=(Xn.drop a).take (b-a)
def zgd:List UInt8->Nat->Nat->Nat->Nat->List UInt8->List UInt8->Bool
 |[],i,k,a,n,f0,f1=>n==14
 |c::r,i,k,a,n,f0,f1=>
  decide (c.toNat<128)&&(if c=32 then decide (a<=i)&&(
   if k=0 then zgd r (i+1) 1 (i+1) n (znO a i) f1
   else if k=1 then zgd r (i+1) 2 (i+1) n f0 (znO a i)
   else if k=2 then decide (n<14)&&((f0,f1,znO a i)==pu n)&&zgd r (i+1) 0 (i+1) (n+1) f0 f1
   else false)
  else zgd r (i+1) k a n f0 f1)
theorem zhe:Xn.length=300:=by decide+kernel
theorem ziB:zgd Xn 0 0 0 0 [] []=true:=by decide+kernel
theorem zi9:TB.size=300:=by
 have:TB.size=Xn.length:=by simp[TB,ByteArray.size]
 rw[this,zhe]
theorem zl8 (i:Nat) (h:i<TB.size):Xn.drop i=TB[i]::Xn.drop (i+1):=by
 have hl:i<Xn.length:=by rw[zhe];rw[zi9] at h;exact h
 rw[zm hl];congr 1
theorem zl9 (a i:Nat):TB.extract a i=⟨(znO a i).toArray⟩:=by
 unfold znO TB;apply kN;simp[kU]
def zer (t:List UInt8):Option F3:=Zp.find? λf=>f.1==t
theorem zfa {α:Type} (p:α->Bool) (d:α):∀(l:List α) (m:Nat),m<l.length->p (l.getD m d)=true->(∀j,j<m->p (l.getD j d)=false)->l.find? p=some (l.getD m d)
 |[],m,hm,_,_=>by simp at hm
 |x::l,0,_,hp,_=>by simp at hp;simp[hp]
 |x::l,m+1,hm,hp,hn=>by
  have h0:=hn 0 (by omega);simp at h0;have ih:=zfa p d l m (by simpa using hm) (by simpa using hp) (λj hj=>by have:=hn (j+1) (by omega);simpa using this);simp[zZ,h0];simpa using ih
theorem zge {α:Type} (p:α->Bool) (d:α):∀(l:List α),(∀j,j<l.length->p (l.getD j d)=false)->l.find? p=none
 |[],_=>rfl
 |x::l,hn=>by
  have h0:=hn 0 (by simp);simp at h0;have ih:=zge p d l (λj hj=>by have:=hn (j+1) (by simpa using hj);simpa using this);simp[zZ,h0];simpa using ih
theorem zgf {t:List UInt8} {m:Nat} (hm:m<14) (h:((pu m).1==t)=true) (hn:∀j,j<m->((pu j).1==t)=false):zer t=some (pu m):=
 zfa (λf:F3=>f.1==t) ([],[],[]) Zp m hm h hn
theorem zgg {t:List UInt8} (hn:∀j,j<14->((pu j).1==t)=false):zer t=none:=
 zge (λf:F3=>f.1==t) ([],[],[]) Zp hn
end Go.Proofs.YtgklikkddckgbaaGreatDoor
namespace Go.Proofs
open Go.Shelf
def Tryz.Yy:Go.Shelf.Ren:=⟨fun|137=>114|217=>118|266=>153|n=>n,fun|9=>9|5=>5|3=>3|n=>n,fun|n=>n⟩
theorem Tryz.zra:Go.Proofs.Lays.n137 Tryz.prog Tryz.Yy:={
 mixed:=by kernel_rfl
 f137:=Tryz.func114.trans (congrArg some (by kernel_rfl))
 f217:=Tryz.func118.trans (congrArg some (by kernel_rfl))
 f266:=Tryz.func153.trans (congrArg some (by kernel_rfl))
 t3:=Tryz.underlying3
 a3:=Tryz.isAgg3
 z3:=Tryz.sizeOf3
 v3:=Tryz.zeroValue3
 t5:=Tryz.underlying5
 a5:=Tryz.isAgg5
 z5:=Tryz.sizeOf5
 v5:=Tryz.zeroValue5
 t9:=Tryz.underlying9
 a9:=Tryz.isAgg9
 z9:=Tryz.sizeOf9
 v9:=Tryz.zeroValue9}
open Go.RowKit in
theorem Tryz.strings_IndexByte (s:ByteArray) (c:Int) (w:World):
  Calls Tryz.prog 114 #[.string s,.int .u8 c] w λe w'=>e=.returned (.int .i64 (Lib.indexByte s.data.toList c.toNat.toUInt8))/\w'=w:=Any.strings_IndexByte Tryz.zra s c w
def Tryz.zrO:Go.Shelf.Ren:=⟨fun|172=>149|244=>178|245=>179|247=>197|279=>199|280=>200|281=>201|282=>202|287=>205|316=>207|171=>50|205=>208|321=>210|322=>211|243=>80|246=>107|283=>134|284=>135|285=>136|286=>137|129=>165|317=>164|318=>166|319=>167|320=>168|337=>190|338=>191|n=>n,fun|9=>9|3=>3|75=>122|76=>123|4=>4|5=>5|167=>260|37=>25|0=>0|85=>250|2=>2|168=>261|53=>197|175=>271|46=>184|210=>274|127=>156|145=>279|143=>277|21=>21|171=>196|173=>200|212=>237|51=>221|20=>20|213=>238|232=>265|233=>266|80=>68|n=>n,fun|15=>7|16=>8|17=>3|18=>5|19=>6|n=>n⟩
def Tryz.zrb:Go.Shelf.Ren:=⟨fun|246=>107|283=>134|284=>135|285=>136|286=>137|129=>165|317=>164|318=>166|319=>167|320=>168|337=>190|338=>191|n=>n,fun|2=>2|3=>3|9=>9|4=>4|171=>196|0=>0|53=>197|37=>25|5=>5|173=>200|212=>237|51=>221|20=>20|213=>238|46=>184|232=>265|233=>266|n=>n,fun|17=>3|18=>5|19=>6|n=>n⟩
def Tryz.zrc:Go.Shelf.Ren:=⟨fun|243=>80|246=>107|283=>134|284=>135|285=>136|286=>137|129=>165|317=>164|318=>166|319=>167|320=>168|337=>190|338=>191|n=>n,fun|3=>3|9=>9|2=>2|4=>4|171=>196|0=>0|53=>197|37=>25|5=>5|173=>200|212=>237|51=>221|20=>20|213=>238|46=>184|232=>265|233=>266|n=>n,fun|17=>3|18=>5|19=>6|n=>n⟩
def Tryz.XQ:Go.Shelf.Ren:=⟨fun|171=>50|243=>80|246=>107|283=>134|284=>135|285=>136|286=>137|129=>165|317=>164|318=>166|319=>167|320=>168|337=>190|338=>191|n=>n,fun|3=>3|9=>9|2=>2|4=>4|171=>196|0=>0|53=>197|37=>25|5=>5|173=>200|212=>237|51=>221|20=>20|213=>238|46=>184|232=>265|233=>266|n=>n,fun|17=>3|18=>5|19=>6|n=>n⟩
theorem Tryz.zqk:Go.Proofs.LaysM.n171 Tryz.prog Tryz.XQ:={
 mixed:=by kernel_rfl
 f129:=Tryz.func165.trans (congrArg some (by kernel_rfl))
 f171:=Tryz.func50.trans (congrArg some (by kernel_rfl))
 f243:=Tryz.func80.trans (congrArg some (by kernel_rfl))
 f246:=Tryz.func107.trans (congrArg some (by kernel_rfl))
 f283:=Tryz.func134.trans (congrArg some (by kernel_rfl))
 f284:=Tryz.func135.trans (congrArg some (by kernel_rfl))
 f285:=Tryz.func136.trans (congrArg some (by kernel_rfl))
 f286:=Tryz.func137.trans (congrArg some (by kernel_rfl))
 f317:=Tryz.func164.trans (congrArg some (by kernel_rfl))
 f318:=Tryz.func166.trans (congrArg some (by kernel_rfl))
 f319:=Tryz.func167.trans (congrArg some (by kernel_rfl))
 f320:=Tryz.func168.trans (congrArg some (by kernel_rfl))
 f337:=Tryz.func190.trans (congrArg some (by kernel_rfl))
 f338:=Tryz.func191.trans (congrArg some (by kernel_rfl))
 t0:=Tryz.underlying0
 a0:=Tryz.isAgg0
 z0:=Tryz.sizeOf0
 v0:=Tryz.zeroValue0
 t2:=Tryz.underlying2
 a2:=Tryz.isAgg2
 z2:=Tryz.sizeOf2
 v2:=Tryz.zeroValue2
 t3:=Tryz.underlying3
 a3:=Tryz.isAgg3
 z3:=Tryz.sizeOf3
 v3:=Tryz.zeroValue3
 t4:=Tryz.underlying4
 a4:=Tryz.isAgg4
 z4:=Tryz.sizeOf4
 v4:=Tryz.zeroValue4
 t5:=Tryz.underlying5
 a5:=Tryz.isAgg5
 z5:=Tryz.sizeOf5
 v5:=Tryz.zeroValue5
 t9:=Tryz.underlying9
 a9:=Tryz.isAgg9
 z9:=Tryz.sizeOf9
 v9:=Tryz.zeroValue9
 t20:=Tryz.underlying20
 a20:=Tryz.isAgg20
 z20:=Tryz.sizeOf20
 v20:=Tryz.zeroValue20
 t37:=Tryz.underlying25
 a37:=Tryz.isAgg25
 z37:=Tryz.sizeOf25
 v37:=Tryz.zeroValue25
 t46:=Tryz.underlying184
 a46:=Tryz.isAgg184
 z46:=Tryz.sizeOf184
 v46:=Tryz.zeroValue184
 t51:=Tryz.underlying221
 a51:=Tryz.isAgg221
 z51:=Tryz.sizeOf221
 v51:=Tryz.zeroValue221
 t53:=Tryz.underlying197
 a53:=Tryz.isAgg197
 z53:=Tryz.sizeOf197
 v53:=Tryz.zeroValue197
 t171:=Tryz.underlying196
 a171:=Tryz.isAgg196
 z171:=Tryz.sizeOf196
 v171:=Tryz.zeroValue196
 t173:=Tryz.underlying200
 a173:=Tryz.isAgg200
 z173:=Tryz.sizeOf200
 v173:=Tryz.zeroValue200
 t212:=Tryz.underlying237
 a212:=Tryz.isAgg237
 z212:=Tryz.sizeOf237
 v212:=Tryz.zeroValue237
 t213:=Tryz.underlying238
 a213:=Tryz.isAgg238
 z213:=Tryz.sizeOf238
 t232:=Tryz.underlying265
 a232:=Tryz.isAgg265
 z232:=Tryz.sizeOf265
 v232:=Tryz.zeroValue265
 t233:=Tryz.underlying266
 a233:=Tryz.isAgg266
 z233:=Tryz.sizeOf266
 v233:=Tryz.zeroValue266
 g17:=by kernel_rfl
 g18:=by kernel_rfl
 g19:=by kernel_rfl
 i0:=by kernel_rfl
 i2:=by kernel_rfl
 i3:=by kernel_rfl
 i4:=by kernel_rfl
 i5:=by kernel_rfl
 i9:=by kernel_rfl
 i20:=by kernel_rfl
 i37:=by kernel_rfl
 i46:=by kernel_rfl
 i51:=by kernel_rfl
 i53:=by kernel_rfl
 i171:=by kernel_rfl
 i173:=by kernel_rfl
 i212:=by kernel_rfl
 i232:=by kernel_rfl
 i233:=by kernel_rfl
 m17:=by kernel_rfl
 m18:=by kernel_rfl
 m19:=by kernel_rfl}
open Go.RowKit Go.Sort Go.Lib in
theorem Tryz.strconv_Itoa (n:Int) (h0:-9223372036854775808≤n) (h1:n≤9223372036854775807) (w:World) (htab:Lib.TabIs Tryz.prog w "internal/strconv.uint64pow10" .u64 Lib.pow10Tab):
  Calls Tryz.prog 50 #[.int .i64 n] w λe w'=>e=.returned (.string ⟨(Lib.itoa n).toArray⟩)/\∃k os,w'=grow (w.drewN k) os:=Any.strconv_Itoa Tryz.zqk n h0 h1 w htab
def Tryz.XR:Go.Shelf.Ren:=⟨fun|173=>176|246=>107|283=>134|284=>135|285=>136|286=>137|129=>165|317=>164|318=>166|319=>167|320=>168|337=>190|338=>191|n=>n,fun|2=>2|3=>3|9=>9|4=>4|171=>196|0=>0|53=>197|37=>25|5=>5|173=>200|212=>237|51=>221|20=>20|213=>238|46=>184|232=>265|233=>266|n=>n,fun|17=>3|18=>5|19=>6|n=>n⟩
theorem Tryz.zql:Go.Proofs.LaysM.n173 Tryz.prog Tryz.XR:={
 mixed:=by kernel_rfl
 f129:=Tryz.func165.trans (congrArg some (by kernel_rfl))
 f173:=Tryz.func176.trans (congrArg some (by kernel_rfl))
 f246:=Tryz.func107.trans (congrArg some (by kernel_rfl))
 f283:=Tryz.func134.trans (congrArg some (by kernel_rfl))
 f284:=Tryz.func135.trans (congrArg some (by kernel_rfl))
 f285:=Tryz.func136.trans (congrArg some (by kernel_rfl))
 f286:=Tryz.func137.trans (congrArg some (by kernel_rfl))
 f317:=Tryz.func164.trans (congrArg some (by kernel_rfl))
 f318:=Tryz.func166.trans (congrArg some (by kernel_rfl))
 f319:=Tryz.func167.trans (congrArg some (by kernel_rfl))
 f320:=Tryz.func168.trans (congrArg some (by kernel_rfl))
 f337:=Tryz.func190.trans (congrArg some (by kernel_rfl))
 f338:=Tryz.func191.trans (congrArg some (by kernel_rfl))
 t0:=Tryz.underlying0
 a0:=Tryz.isAgg0
 z0:=Tryz.sizeOf0
 v0:=Tryz.zeroValue0
 t2:=Tryz.underlying2
 a2:=Tryz.isAgg2
 z2:=Tryz.sizeOf2
 v2:=Tryz.zeroValue2
 t3:=Tryz.underlying3
 a3:=Tryz.isAgg3
 z3:=Tryz.sizeOf3
 v3:=Tryz.zeroValue3
 t4:=Tryz.underlying4
 a4:=Tryz.isAgg4
 z4:=Tryz.sizeOf4
 v4:=Tryz.zeroValue4
 t5:=Tryz.underlying5
 a5:=Tryz.isAgg5
 z5:=Tryz.sizeOf5
 v5:=Tryz.zeroValue5
 t9:=Tryz.underlying9
 a9:=Tryz.isAgg9
 z9:=Tryz.sizeOf9
 v9:=Tryz.zeroValue9
 t20:=Tryz.underlying20
 a20:=Tryz.isAgg20
 z20:=Tryz.sizeOf20
 v20:=Tryz.zeroValue20
 t37:=Tryz.underlying25
 a37:=Tryz.isAgg25
 z37:=Tryz.sizeOf25
 v37:=Tryz.zeroValue25
 t46:=Tryz.underlying184
 a46:=Tryz.isAgg184
 z46:=Tryz.sizeOf184
 v46:=Tryz.zeroValue184
 t51:=Tryz.underlying221
 a51:=Tryz.isAgg221
 z51:=Tryz.sizeOf221
 v51:=Tryz.zeroValue221
 t53:=Tryz.underlying197
 a53:=Tryz.isAgg197
 z53:=Tryz.sizeOf197
 v53:=Tryz.zeroValue197
 t171:=Tryz.underlying196
 a171:=Tryz.isAgg196
 z171:=Tryz.sizeOf196
 v171:=Tryz.zeroValue196
 t173:=Tryz.underlying200
 a173:=Tryz.isAgg200
 z173:=Tryz.sizeOf200
 v173:=Tryz.zeroValue200
 t212:=Tryz.underlying237
 a212:=Tryz.isAgg237
 z212:=Tryz.sizeOf237
 v212:=Tryz.zeroValue237
 t213:=Tryz.underlying238
 a213:=Tryz.isAgg238
 z213:=Tryz.sizeOf238
 t232:=Tryz.underlying265
 a232:=Tryz.isAgg265
 z232:=Tryz.sizeOf265
 v232:=Tryz.zeroValue265
 t233:=Tryz.underlying266
 a233:=Tryz.isAgg266
 z233:=Tryz.sizeOf266
 v233:=Tryz.zeroValue266
 g17:=by kernel_rfl
 g18:=by kernel_rfl
 g19:=by kernel_rfl
 i0:=by kernel_rfl
 i2:=by kernel_rfl
 i3:=by kernel_rfl
 i4:=by kernel_rfl
 i5:=by kernel_rfl
 i9:=by kernel_rfl
 i20:=by kernel_rfl
 i37:=by kernel_rfl
 i46:=by kernel_rfl
 i51:=by kernel_rfl
 i53:=by kernel_rfl
 i171:=by kernel_rfl
 i173:=by kernel_rfl
 i212:=by kernel_rfl
 i232:=by kernel_rfl
 i233:=by kernel_rfl
 m17:=by kernel_rfl
 m18:=by kernel_rfl
 m19:=by kernel_rfl}
open Go.RowKit Go.Sort Go.Lib in
theorem Tryz.strconv_FormatInt_10 (n:Int) (h0:-9223372036854775808≤n) (h1:n≤9223372036854775807) (w:World) (htab:Lib.TabIs Tryz.prog w "internal/strconv.uint64pow10" .u64 Lib.pow10Tab):
  Calls Tryz.prog 176 #[.int .i64 n,.int .i64 10] w λe w'=>e=.returned (.string ⟨(Lib.itoa n).toArray⟩)/\∃k os,w'=grow (w.drewN k) os:=Any.strconv_FormatInt_10 Tryz.zql n h0 h1 w htab
def Tryz.XS:Go.Shelf.Ren:=⟨fun|172=>149|244=>178|245=>179|247=>197|279=>199|280=>200|281=>201|282=>202|287=>205|316=>207|171=>50|205=>208|321=>210|322=>211|243=>80|246=>107|283=>134|284=>135|285=>136|286=>137|129=>165|317=>164|318=>166|319=>167|320=>168|337=>190|338=>191|n=>n,fun|9=>9|3=>3|75=>122|76=>123|4=>4|5=>5|167=>260|37=>25|0=>0|85=>250|2=>2|168=>261|53=>197|175=>271|46=>184|210=>274|127=>156|145=>279|143=>277|21=>21|171=>196|173=>200|212=>237|51=>221|20=>20|213=>238|232=>265|233=>266|80=>68|n=>n,fun|15=>7|16=>8|17=>3|18=>5|19=>6|n=>n⟩
theorem Tryz.Yz:Go.Proofs.LaysC.n172 Tryz.prog Tryz.XS:={
 mixed:=by kernel_rfl
 f129:=Tryz.func165.trans (congrArg some (by kernel_rfl))
 f171:=Tryz.func50.trans (congrArg some (by kernel_rfl))
 f172:=Tryz.func149.trans (congrArg some (by kernel_rfl))
 f205:=Tryz.func208.trans (congrArg some (by kernel_rfl))
 f243:=Tryz.func80.trans (congrArg some (by kernel_rfl))
 f244:=Tryz.func178.trans (congrArg some (by kernel_rfl))
 f245:=Tryz.func179.trans (congrArg some (by kernel_rfl))
 f246:=Tryz.func107.trans (congrArg some (by kernel_rfl))
 f247:=Tryz.func197.trans (congrArg some (by kernel_rfl))
 f279:=Tryz.func199.trans (congrArg some (by kernel_rfl))
 f280:=Tryz.func200.trans (congrArg some (by kernel_rfl))
 f281:=Tryz.func201.trans (congrArg some (by kernel_rfl))
 f282:=Tryz.func202.trans (congrArg some (by kernel_rfl))
 f283:=Tryz.func134.trans (congrArg some (by kernel_rfl))
 f284:=Tryz.func135.trans (congrArg some (by kernel_rfl))
 f285:=Tryz.func136.trans (congrArg some (by kernel_rfl))
 f286:=Tryz.func137.trans (congrArg some (by kernel_rfl))
 f287:=Tryz.func205.trans (congrArg some (by kernel_rfl))
 f316:=Tryz.func207.trans (congrArg some (by kernel_rfl))
 f317:=Tryz.func164.trans (congrArg some (by kernel_rfl))
 f318:=Tryz.func166.trans (congrArg some (by kernel_rfl))
 f319:=Tryz.func167.trans (congrArg some (by kernel_rfl))
 f320:=Tryz.func168.trans (congrArg some (by kernel_rfl))
 f321:=Tryz.func210.trans (congrArg some (by kernel_rfl))
 f322:=Tryz.func211.trans (congrArg some (by kernel_rfl))
 f337:=Tryz.func190.trans (congrArg some (by kernel_rfl))
 f338:=Tryz.func191.trans (congrArg some (by kernel_rfl))
 t0:=Tryz.underlying0
 a0:=Tryz.isAgg0
 z0:=Tryz.sizeOf0
 v0:=Tryz.zeroValue0
 t2:=Tryz.underlying2
 a2:=Tryz.isAgg2
 z2:=Tryz.sizeOf2
 v2:=Tryz.zeroValue2
 t3:=Tryz.underlying3
 a3:=Tryz.isAgg3
 z3:=Tryz.sizeOf3
 v3:=Tryz.zeroValue3
 t4:=Tryz.underlying4
 a4:=Tryz.isAgg4
 z4:=Tryz.sizeOf4
 v4:=Tryz.zeroValue4
 t5:=Tryz.underlying5
 a5:=Tryz.isAgg5
 z5:=Tryz.sizeOf5
 v5:=Tryz.zeroValue5
 t9:=Tryz.underlying9
 a9:=Tryz.isAgg9
 z9:=Tryz.sizeOf9
 v9:=Tryz.zeroValue9
 t20:=Tryz.underlying20
 a20:=Tryz.isAgg20
 z20:=Tryz.sizeOf20
 v20:=Tryz.zeroValue20
 t21:=Tryz.underlying21
 a21:=Tryz.isAgg21
 z21:=Tryz.sizeOf21
 v21:=Tryz.zeroValue21
 t37:=Tryz.underlying25
 a37:=Tryz.isAgg25
 z37:=Tryz.sizeOf25
 v37:=Tryz.zeroValue25
 t46:=Tryz.underlying184
 a46:=Tryz.isAgg184
 z46:=Tryz.sizeOf184
 v46:=Tryz.zeroValue184
 t51:=Tryz.underlying221
 a51:=Tryz.isAgg221
 z51:=Tryz.sizeOf221
 v51:=Tryz.zeroValue221
 t53:=Tryz.underlying197
 a53:=Tryz.isAgg197
 z53:=Tryz.sizeOf197
 v53:=Tryz.zeroValue197
 t75:=Tryz.underlying122
 a75:=Tryz.isAgg122
 z75:=Tryz.sizeOf122
 v75:=Tryz.zeroValue122
 t76:=Tryz.underlying123
 a76:=Tryz.isAgg123
 z76:=Tryz.sizeOf123
 v76:=Tryz.zeroValue123
 t85:=Tryz.underlying250
 a85:=Tryz.isAgg250
 z85:=Tryz.sizeOf250
 v85:=Tryz.zeroValue250
 t127:=Tryz.underlying156
 a127:=Tryz.isAgg156
 z127:=Tryz.sizeOf156
 v127:=Tryz.zeroValue156
 t143:=Tryz.underlying277
 a143:=Tryz.isAgg277
 z143:=Tryz.sizeOf277
 v143:=Tryz.zeroValue277
 t145:=Tryz.underlying279
 a145:=Tryz.isAgg279
 z145:=Tryz.sizeOf279
 v145:=Tryz.zeroValue279
 t167:=Tryz.underlying260
 a167:=Tryz.isAgg260
 z167:=Tryz.sizeOf260
 v167:=Tryz.zeroValue260
 t168:=Tryz.underlying261
 a168:=Tryz.isAgg261
 z168:=Tryz.sizeOf261
 v168:=Tryz.zeroValue261
 t171:=Tryz.underlying196
 a171:=Tryz.isAgg196
 z171:=Tryz.sizeOf196
 v171:=Tryz.zeroValue196
 t173:=Tryz.underlying200
 a173:=Tryz.isAgg200
 z173:=Tryz.sizeOf200
 v173:=Tryz.zeroValue200
 t175:=Tryz.underlying271
 a175:=Tryz.isAgg271
 z175:=Tryz.sizeOf271
 v175:=Tryz.zeroValue271
 t210:=Tryz.underlying274
 a210:=Tryz.isAgg274
 z210:=Tryz.sizeOf274
 v210:=Tryz.zeroValue274
 t212:=Tryz.underlying237
 a212:=Tryz.isAgg237
 z212:=Tryz.sizeOf237
 v212:=Tryz.zeroValue237
 t213:=Tryz.underlying238
 a213:=Tryz.isAgg238
 z213:=Tryz.sizeOf238
 t232:=Tryz.underlying265
 a232:=Tryz.isAgg265
 z232:=Tryz.sizeOf265
 v232:=Tryz.zeroValue265
 t233:=Tryz.underlying266
 a233:=Tryz.isAgg266
 z233:=Tryz.sizeOf266
 v233:=Tryz.zeroValue266
 g15:=by kernel_rfl
 g16:=by kernel_rfl
 g17:=by kernel_rfl
 g18:=by kernel_rfl
 g19:=by kernel_rfl
 t80:=Tryz.underlying68
 a80:=Tryz.isAgg68
 z80:=Tryz.sizeOf68
 v80:=Tryz.zeroValue68
 i0:=by kernel_rfl
 i2:=by kernel_rfl
 i3:=by kernel_rfl
 i4:=by kernel_rfl
 i5:=by kernel_rfl
 i9:=by kernel_rfl
 i20:=by kernel_rfl
 i21:=by kernel_rfl
 i37:=by kernel_rfl
 i46:=by kernel_rfl
 i51:=by kernel_rfl
 i53:=by kernel_rfl
 i75:=by kernel_rfl
 i76:=by kernel_rfl
 i80:=by kernel_rfl
 i85:=by kernel_rfl
 i127:=by kernel_rfl
 i143:=by kernel_rfl
 i145:=by kernel_rfl
 i167:=by kernel_rfl
 i168:=by kernel_rfl
 i171:=by kernel_rfl
 i173:=by kernel_rfl
 i175:=by kernel_rfl
 i210:=by kernel_rfl
 i212:=by kernel_rfl
 i232:=by kernel_rfl
 i233:=by kernel_rfl
 m15:=by kernel_rfl
 m16:=by kernel_rfl
 m17:=by kernel_rfl
 m18:=by kernel_rfl
 m19:=by kernel_rfl
 c0:=by kernel_rfl
 c2:=by kernel_rfl
 c3:=by kernel_rfl
 c4:=by kernel_rfl
 c5:=by kernel_rfl
 c9:=by kernel_rfl
 c20:=by kernel_rfl
 c21:=by kernel_rfl
 c37:=by kernel_rfl
 c46:=by kernel_rfl
 c51:=by kernel_rfl
 c53:=by kernel_rfl
 c75:=by kernel_rfl
 c76:=by kernel_rfl
 c80:=by kernel_rfl
 c85:=by kernel_rfl
 c127:=by kernel_rfl
 c143:=by kernel_rfl
 c145:=by kernel_rfl
 c167:=by kernel_rfl
 c168:=by kernel_rfl
 c171:=by kernel_rfl
 c173:=by kernel_rfl
 c175:=by kernel_rfl
 c210:=by kernel_rfl
 c212:=by kernel_rfl
 c213:=by kernel_rfl
 c232:=by kernel_rfl
 c233:=by kernel_rfl}
open Go.RowKit in
theorem Tryz.strconv_Atoi_ok (s:ByteArray) (hmax:s.size<=9223372036854775806) (v:Int) (h:Lib.atoiAll s.data.toList=.ok v) (w:World):
  Calls Tryz.prog 149 #[.string s] w λe w'=>e=.returned (.tuple #[.int .i64 v,.nilIface])/\(w'=w∨∃t,w'=Lib.bytesWorld w 5 t):=Any.strconv_Atoi_ok Tryz.Yz s hmax v h w
open Go.RowKit in
theorem Tryz.strconv_Atoi_range (s:ByteArray) (hlim:s.size<=281474976710656) (h:Lib.atoiAll s.data.toList=.range) (ev:Value) (w:World) (hv:w.cell? ⟨8,0,none⟩=some ev) (hev:ev=.nilIface∨∃te pe,ev=.iface te pe):
  Calls Tryz.prog 149 #[.string s] w λe w'=>∃N,e=.returned (.tuple #[.int .i64 (Lib.atoiSat s.data.toList),.iface 261 (.pointer (some ⟨N,0,none⟩))])/\w.heap.size<=N/\w'.heap[N]?=some (.cells #[.string ⟨#[65,116,111,105]⟩,.string s,ev] 274 (0,0))/\Below w.heap.size w w':=Any.strconv_Atoi_range Tryz.Yz s hlim h ev w hv hev
def Tryz.XT:Go.Shelf.Ren:=⟨fun|174=>175|247=>197|245=>179|287=>205|279=>199|280=>200|281=>201|282=>202|321=>210|322=>211|316=>207|171=>50|205=>208|243=>80|246=>107|283=>134|284=>135|285=>136|286=>137|129=>165|317=>164|318=>166|319=>167|320=>168|337=>190|338=>191|n=>n,fun|9=>9|3=>3|2=>2|75=>122|85=>250|4=>4|167=>260|5=>5|53=>197|175=>271|46=>184|168=>261|37=>25|0=>0|210=>274|21=>21|127=>156|145=>279|143=>277|171=>196|173=>200|212=>237|51=>221|20=>20|213=>238|232=>265|233=>266|80=>68|n=>n,fun|15=>7|16=>8|17=>3|18=>5|19=>6|n=>n⟩
theorem Tryz.JH:Go.Proofs.LaysC.n174 Tryz.prog Tryz.XT:={
 mixed:=by kernel_rfl
 f129:=Tryz.func165.trans (congrArg some (by kernel_rfl))
 f171:=Tryz.func50.trans (congrArg some (by kernel_rfl))
 f174:=Tryz.func175.trans (congrArg some (by kernel_rfl))
 f205:=Tryz.func208.trans (congrArg some (by kernel_rfl))
 f243:=Tryz.func80.trans (congrArg some (by kernel_rfl))
 f245:=Tryz.func179.trans (congrArg some (by kernel_rfl))
 f246:=Tryz.func107.trans (congrArg some (by kernel_rfl))
 f247:=Tryz.func197.trans (congrArg some (by kernel_rfl))
 f279:=Tryz.func199.trans (congrArg some (by kernel_rfl))
 f280:=Tryz.func200.trans (congrArg some (by kernel_rfl))
 f281:=Tryz.func201.trans (congrArg some (by kernel_rfl))
 f282:=Tryz.func202.trans (congrArg some (by kernel_rfl))
 f283:=Tryz.func134.trans (congrArg some (by kernel_rfl))
 f284:=Tryz.func135.trans (congrArg some (by kernel_rfl))
 f285:=Tryz.func136.trans (congrArg some (by kernel_rfl))
 f286:=Tryz.func137.trans (congrArg some (by kernel_rfl))
 f287:=Tryz.func205.trans (congrArg some (by kernel_rfl))
 f316:=Tryz.func207.trans (congrArg some (by kernel_rfl))
 f317:=Tryz.func164.trans (congrArg some (by kernel_rfl))
 f318:=Tryz.func166.trans (congrArg some (by kernel_rfl))
 f319:=Tryz.func167.trans (congrArg some (by kernel_rfl))
 f320:=Tryz.func168.trans (congrArg some (by kernel_rfl))
 f321:=Tryz.func210.trans (congrArg some (by kernel_rfl))
 f322:=Tryz.func211.trans (congrArg some (by kernel_rfl))
 f337:=Tryz.func190.trans (congrArg some (by kernel_rfl))
 f338:=Tryz.func191.trans (congrArg some (by kernel_rfl))
 t0:=Tryz.underlying0
 a0:=Tryz.isAgg0
 z0:=Tryz.sizeOf0
 v0:=Tryz.zeroValue0
 t2:=Tryz.underlying2
 a2:=Tryz.isAgg2
 z2:=Tryz.sizeOf2
 v2:=Tryz.zeroValue2
 t3:=Tryz.underlying3
 a3:=Tryz.isAgg3
 z3:=Tryz.sizeOf3
 v3:=Tryz.zeroValue3
 t4:=Tryz.underlying4
 a4:=Tryz.isAgg4
 z4:=Tryz.sizeOf4
 v4:=Tryz.zeroValue4
 t5:=Tryz.underlying5
 a5:=Tryz.isAgg5
 z5:=Tryz.sizeOf5
 v5:=Tryz.zeroValue5
 t9:=Tryz.underlying9
 a9:=Tryz.isAgg9
 z9:=Tryz.sizeOf9
 v9:=Tryz.zeroValue9
 t20:=Tryz.underlying20
 a20:=Tryz.isAgg20
 z20:=Tryz.sizeOf20
 v20:=Tryz.zeroValue20
 t21:=Tryz.underlying21
 a21:=Tryz.isAgg21
 z21:=Tryz.sizeOf21
 v21:=Tryz.zeroValue21
 t37:=Tryz.underlying25
 a37:=Tryz.isAgg25
 z37:=Tryz.sizeOf25
 v37:=Tryz.zeroValue25
 t46:=Tryz.underlying184
 a46:=Tryz.isAgg184
 z46:=Tryz.sizeOf184
 v46:=Tryz.zeroValue184
 t51:=Tryz.underlying221
 a51:=Tryz.isAgg221
 z51:=Tryz.sizeOf221
 v51:=Tryz.zeroValue221
 t53:=Tryz.underlying197
 a53:=Tryz.isAgg197
 z53:=Tryz.sizeOf197
 v53:=Tryz.zeroValue197
 t75:=Tryz.underlying122
 a75:=Tryz.isAgg122
 z75:=Tryz.sizeOf122
 v75:=Tryz.zeroValue122
 t85:=Tryz.underlying250
 a85:=Tryz.isAgg250
 z85:=Tryz.sizeOf250
 v85:=Tryz.zeroValue250
 t127:=Tryz.underlying156
 a127:=Tryz.isAgg156
 z127:=Tryz.sizeOf156
 v127:=Tryz.zeroValue156
 t143:=Tryz.underlying277
 a143:=Tryz.isAgg277
 z143:=Tryz.sizeOf277
 v143:=Tryz.zeroValue277
 t145:=Tryz.underlying279
 a145:=Tryz.isAgg279
 z145:=Tryz.sizeOf279
 v145:=Tryz.zeroValue279
 t167:=Tryz.underlying260
 a167:=Tryz.isAgg260
 z167:=Tryz.sizeOf260
 v167:=Tryz.zeroValue260
 t168:=Tryz.underlying261
 a168:=Tryz.isAgg261
 z168:=Tryz.sizeOf261
 v168:=Tryz.zeroValue261
 t171:=Tryz.underlying196
 a171:=Tryz.isAgg196
 z171:=Tryz.sizeOf196
 v171:=Tryz.zeroValue196
 t173:=Tryz.underlying200
 a173:=Tryz.isAgg200
 z173:=Tryz.sizeOf200
 v173:=Tryz.zeroValue200
 t175:=Tryz.underlying271
 a175:=Tryz.isAgg271
 z175:=Tryz.sizeOf271
 v175:=Tryz.zeroValue271
 t210:=Tryz.underlying274
 a210:=Tryz.isAgg274
 z210:=Tryz.sizeOf274
 v210:=Tryz.zeroValue274
 t212:=Tryz.underlying237
 a212:=Tryz.isAgg237
 z212:=Tryz.sizeOf237
 v212:=Tryz.zeroValue237
 t213:=Tryz.underlying238
 a213:=Tryz.isAgg238
 z213:=Tryz.sizeOf238
 t232:=Tryz.underlying265
 a232:=Tryz.isAgg265
 z232:=Tryz.sizeOf265
 v232:=Tryz.zeroValue265
 t233:=Tryz.underlying266
 a233:=Tryz.isAgg266
 z233:=Tryz.sizeOf266
 v233:=Tryz.zeroValue266
 g15:=by kernel_rfl
 g16:=by kernel_rfl
 g17:=by kernel_rfl
 g18:=by kernel_rfl
 g19:=by kernel_rfl
 t80:=Tryz.underlying68
 a80:=Tryz.isAgg68
 z80:=Tryz.sizeOf68
 v80:=Tryz.zeroValue68
 i0:=by kernel_rfl
 i2:=by kernel_rfl
 i3:=by kernel_rfl
 i4:=by kernel_rfl
 i5:=by kernel_rfl
 i9:=by kernel_rfl
 i20:=by kernel_rfl
 i21:=by kernel_rfl
 i37:=by kernel_rfl
 i46:=by kernel_rfl
 i51:=by kernel_rfl
 i53:=by kernel_rfl
 i75:=by kernel_rfl
 i80:=by kernel_rfl
 i85:=by kernel_rfl
 i127:=by kernel_rfl
 i143:=by kernel_rfl
 i145:=by kernel_rfl
 i167:=by kernel_rfl
 i168:=by kernel_rfl
 i171:=by kernel_rfl
 i173:=by kernel_rfl
 i175:=by kernel_rfl
 i210:=by kernel_rfl
 i212:=by kernel_rfl
 i232:=by kernel_rfl
 i233:=by kernel_rfl
 m15:=by kernel_rfl
 m16:=by kernel_rfl
 m17:=by kernel_rfl
 m18:=by kernel_rfl
 m19:=by kernel_rfl
 c0:=by kernel_rfl
 c2:=by kernel_rfl
 c3:=by kernel_rfl
 c4:=by kernel_rfl
 c5:=by kernel_rfl
 c9:=by kernel_rfl
 c20:=by kernel_rfl
 c21:=by kernel_rfl
 c37:=by kernel_rfl
 c46:=by kernel_rfl
 c51:=by kernel_rfl
 c53:=by kernel_rfl
 c75:=by kernel_rfl
 c80:=by kernel_rfl
 c85:=by kernel_rfl
 c127:=by kernel_rfl
 c143:=by kernel_rfl
 c145:=by kernel_rfl
 c167:=by kernel_rfl
 c168:=by kernel_rfl
 c171:=by kernel_rfl
 c173:=by kernel_rfl
 c175:=by kernel_rfl
 c210:=by kernel_rfl
 c212:=by kernel_rfl
 c213:=by kernel_rfl
 c232:=by kernel_rfl
 c233:=by kernel_rfl}
open Go.RowKit in
theorem Tryz.strconv_ParseInt_10_at64_ok (s:ByteArray) (hmax:s.size<=9223372036854775806) (v:Int) (h:Lib.parseIntB 64 s.data.toList=.ok v) (w:World):
  Calls Tryz.prog 175 #[.string s,.int .i64 10,.int .i64 64] w λe w'=>e=.returned (.tuple #[.int .i64 v,.nilIface])/\(w'=w∨∃t,w'=Lib.bytesWorld w 5 t):=Any.strconv_ParseInt_10_at64_ok Tryz.JH s hmax v h w
open Go.RowKit in
theorem Tryz.strconv_ParseInt_10_at64_syntax (s:ByteArray) (hlim:s.size<=281474976710656) (h:Lib.parseIntB 64 s.data.toList=Lib.parseIntB 64 []) (ev:Value) (w:World) (hv:w.cell? ⟨7,0,none⟩=some ev) (hev:ev=.nilIface∨∃te pe,ev=.iface te pe):
  Calls Tryz.prog 175 #[.string s,.int .i64 10,.int .i64 64] w λe w'=>∃N,e=.returned (.tuple #[.int .i64 (0),.iface 261 (.pointer (some ⟨N,0,none⟩))])/\w.heap.size<=N/\w'.heap[N]?=some (.cells #[.string ⟨#[80,97,114,115,101,73,110,116]⟩,.string s,ev] 274 (0,0))/\Below w.heap.size w w':=Any.strconv_ParseInt_10_at64_syntax Tryz.JH s hlim h ev w hv hev
open Go.RowKit in
theorem Tryz.strconv_ParseInt_10_at64_range (s:ByteArray) (hlim:s.size<=281474976710656) (h:Lib.parseIntB 64 s.data.toList=.range) (ev:Value) (w:World) (hv:w.cell? ⟨8,0,none⟩=some ev) (hev:ev=.nilIface∨∃te pe,ev=.iface te pe):
  Calls Tryz.prog 175 #[.string s,.int .i64 10,.int .i64 64] w λe w'=>∃N,e=.returned (.tuple #[.int .i64 (Lib.intSat 64 s.data.toList),.iface 261 (.pointer (some ⟨N,0,none⟩))])/\w.heap.size<=N/\w'.heap[N]?=some (.cells #[.string ⟨#[80,97,114,115,101,73,110,116]⟩,.string s,ev] 274 (0,0))/\Below w.heap.size w w':=Any.strconv_ParseInt_10_at64_range Tryz.JH s hlim h ev w hv hev
def Tryz.zrP:Go.Shelf.Ren:=⟨fun|219=>96|217=>118|225=>119|224=>120|267=>121|266=>153|314=>154|n=>n,fun|9=>9|3=>3|4=>4|5=>5|46=>184|146=>222|51=>221|n=>n,fun|1=>0|n=>n⟩
def Tryz.YA:Go.Shelf.Ren:=⟨fun|144=>41|143=>62|219=>96|217=>118|225=>119|224=>120|267=>121|266=>153|314=>154|n=>n,fun|9=>9|4=>4|3=>3|5=>5|46=>184|146=>222|51=>221|n=>n,fun|1=>0|n=>n⟩
theorem Tryz.zrd:Go.Proofs.Lays.n144 Tryz.prog Tryz.YA:={
 mixed:=by kernel_rfl
 f143:=Tryz.func62.trans (congrArg some (by kernel_rfl))
 f144:=Tryz.func41.trans (congrArg some (by kernel_rfl))
 f217:=Tryz.func118.trans (congrArg some (by kernel_rfl))
 f219:=Tryz.func96.trans (congrArg some (by kernel_rfl))
 f224:=Tryz.func120.trans (congrArg some (by kernel_rfl))
 f225:=Tryz.func119.trans (congrArg some (by kernel_rfl))
 f266:=Tryz.func153.trans (congrArg some (by kernel_rfl))
 f267:=Tryz.func121.trans (congrArg some (by kernel_rfl))
 f314:=Tryz.func154.trans (congrArg some (by kernel_rfl))
 t3:=Tryz.underlying3
 a3:=Tryz.isAgg3
 z3:=Tryz.sizeOf3
 v3:=Tryz.zeroValue3
 t4:=Tryz.underlying4
 a4:=Tryz.isAgg4
 z4:=Tryz.sizeOf4
 v4:=Tryz.zeroValue4
 t5:=Tryz.underlying5
 a5:=Tryz.isAgg5
 z5:=Tryz.sizeOf5
 v5:=Tryz.zeroValue5
 t9:=Tryz.underlying9
 a9:=Tryz.isAgg9
 z9:=Tryz.sizeOf9
 v9:=Tryz.zeroValue9
 t46:=Tryz.underlying184
 a46:=Tryz.isAgg184
 z46:=Tryz.sizeOf184
 v46:=Tryz.zeroValue184
 t51:=Tryz.underlying221
 a51:=Tryz.isAgg221
 z51:=Tryz.sizeOf221
 v51:=Tryz.zeroValue221
 t146:=Tryz.underlying222
 a146:=Tryz.isAgg222
 z146:=Tryz.sizeOf222
 v146:=Tryz.zeroValue222
 g1:=by kernel_rfl}
open Go.RowKit Go.Lib in
theorem Tryz.strings_Contains (s sub:ByteArray) (m:Int) (w:World) (hs:s.size<4294967281) (hm:w.cell? ⟨0,0,none⟩=some (.int .i64 m)):
  Calls Tryz.prog 41 #[.string s,.string sub] w λe w'=>e=.returned (.bool (Lib.contains s.data.toList sub.data.toList))/\w'=w:=Any.strings_Contains Tryz.zrd s sub m w hs hm
def Tryz.zrQ:Go.Shelf.Ren:=⟨fun|206=>206|n=>n,fun|9=>9|4=>4|3=>3|n=>n,fun|n=>n⟩
def Tryz.YB:Go.Shelf.Ren:=⟨fun|101=>177|208=>198|206=>206|n=>n,fun|9=>9|4=>4|3=>3|n=>n,fun|n=>n⟩
theorem Tryz.zre:Go.Proofs.Lays.n101 Tryz.prog Tryz.YB:={
 mixed:=by kernel_rfl
 f101:=Tryz.func177.trans (congrArg some (by kernel_rfl))
 f206:=Tryz.func206.trans (congrArg some (by kernel_rfl))
 f208:=Tryz.func198.trans (congrArg some (by kernel_rfl))
 t3:=Tryz.underlying3
 a3:=Tryz.isAgg3
 z3:=Tryz.sizeOf3
 v3:=Tryz.zeroValue3
 t4:=Tryz.underlying4
 a4:=Tryz.isAgg4
 z4:=Tryz.sizeOf4
 v4:=Tryz.zeroValue4
 t9:=Tryz.underlying9
 a9:=Tryz.isAgg9
 z9:=Tryz.sizeOf9
 v9:=Tryz.zeroValue9}
open Go.RowKit Go.Lib in
theorem Tryz.strings_TrimPrefix (s p:ByteArray) (w:World):
  Calls Tryz.prog 177 #[.string s,.string p] w λe w'=>e=.returned (.string ⟨(Lib.trimPrefix s.data.toList p.data.toList).toArray⟩)/\w'=w:=Any.strings_TrimPrefix Tryz.zre s p w
def Tryz.zrR:Go.Shelf.Ren:=⟨fun|154=>63|138=>97|165=>98|143=>62|166=>48|197=>99|169=>52|195=>122|218=>123|240=>72|241=>124|219=>96|260=>125|276=>103|277=>155|217=>118|225=>119|224=>120|267=>121|266=>153|314=>154|n=>n,fun|9=>9|3=>3|4=>4|72=>120|0=>0|76=>123|105=>162|21=>21|5=>5|70=>118|20=>20|37=>25|75=>122|127=>156|164=>169|46=>184|119=>225|139=>228|138=>227|146=>222|51=>221|80=>68|n=>n,fun|1=>0|3=>1|4=>2|n=>n⟩
def Tryz.KQ:Go.Shelf.Ren:=⟨fun|155=>42|154=>63|138=>97|165=>98|143=>62|166=>48|197=>99|169=>52|195=>122|218=>123|240=>72|241=>124|219=>96|260=>125|276=>103|277=>155|217=>118|225=>119|224=>120|267=>121|266=>153|314=>154|n=>n,fun|9=>9|3=>3|4=>4|72=>120|0=>0|76=>123|105=>162|21=>21|5=>5|70=>118|20=>20|37=>25|75=>122|127=>156|164=>169|46=>184|119=>225|139=>228|138=>227|146=>222|51=>221|80=>68|n=>n,fun|1=>0|3=>1|4=>2|n=>n⟩
theorem Tryz.zrf:Go.Proofs.Lays.n155 Tryz.prog Tryz.KQ:={
 mixed:=by kernel_rfl
 f138:=Tryz.func97.trans (congrArg some (by kernel_rfl))
 f143:=Tryz.func62.trans (congrArg some (by kernel_rfl))
 f154:=Tryz.func63.trans (congrArg some (by kernel_rfl))
 f155:=Tryz.func42.trans (congrArg some (by kernel_rfl))
 f165:=Tryz.func98.trans (congrArg some (by kernel_rfl))
 f166:=Tryz.func48.trans (congrArg some (by kernel_rfl))
 f169:=Tryz.func52.trans (congrArg some (by kernel_rfl))
 f195:=Tryz.func122.trans (congrArg some (by kernel_rfl))
 f197:=Tryz.func99.trans (congrArg some (by kernel_rfl))
 f217:=Tryz.func118.trans (congrArg some (by kernel_rfl))
 f218:=Tryz.func123.trans (congrArg some (by kernel_rfl))
 f219:=Tryz.func96.trans (congrArg some (by kernel_rfl))
 f224:=Tryz.func120.trans (congrArg some (by kernel_rfl))
 f225:=Tryz.func119.trans (congrArg some (by kernel_rfl))
 f240:=Tryz.func72.trans (congrArg some (by kernel_rfl))
 f241:=Tryz.func124.trans (congrArg some (by kernel_rfl))
 f260:=Tryz.func125.trans (congrArg some (by kernel_rfl))
 f266:=Tryz.func153.trans (congrArg some (by kernel_rfl))
 f267:=Tryz.func121.trans (congrArg some (by kernel_rfl))
 f276:=Tryz.func103.trans (congrArg some (by kernel_rfl))
 f277:=Tryz.func155.trans (congrArg some (by kernel_rfl))
 f314:=Tryz.func154.trans (congrArg some (by kernel_rfl))
 t0:=Tryz.underlying0
 a0:=Tryz.isAgg0
 z0:=Tryz.sizeOf0
 v0:=Tryz.zeroValue0
 t3:=Tryz.underlying3
 a3:=Tryz.isAgg3
 z3:=Tryz.sizeOf3
 v3:=Tryz.zeroValue3
 t4:=Tryz.underlying4
 a4:=Tryz.isAgg4
 z4:=Tryz.sizeOf4
 v4:=Tryz.zeroValue4
 t5:=Tryz.underlying5
 a5:=Tryz.isAgg5
 z5:=Tryz.sizeOf5
 v5:=Tryz.zeroValue5
 t9:=Tryz.underlying9
 a9:=Tryz.isAgg9
 z9:=Tryz.sizeOf9
 v9:=Tryz.zeroValue9
 t20:=Tryz.underlying20
 a20:=Tryz.isAgg20
 z20:=Tryz.sizeOf20
 v20:=Tryz.zeroValue20
 t21:=Tryz.underlying21
 a21:=Tryz.isAgg21
 z21:=Tryz.sizeOf21
 v21:=Tryz.zeroValue21
 t37:=Tryz.underlying25
 a37:=Tryz.isAgg25
 z37:=Tryz.sizeOf25
 v37:=Tryz.zeroValue25
 t46:=Tryz.underlying184
 a46:=Tryz.isAgg184
 z46:=Tryz.sizeOf184
 v46:=Tryz.zeroValue184
 t51:=Tryz.underlying221
 a51:=Tryz.isAgg221
 z51:=Tryz.sizeOf221
 v51:=Tryz.zeroValue221
 t70:=Tryz.underlying118
 a70:=Tryz.isAgg118
 z70:=Tryz.sizeOf118
 v70:=Tryz.zeroValue118
 t72:=Tryz.underlying120
 a72:=Tryz.isAgg120
 z72:=Tryz.sizeOf120
 v72:=Tryz.zeroValue120
 t75:=Tryz.underlying122
 a75:=Tryz.isAgg122
 z75:=Tryz.sizeOf122
 v75:=Tryz.zeroValue122
 t76:=Tryz.underlying123
 a76:=Tryz.isAgg123
 z76:=Tryz.sizeOf123
 v76:=Tryz.zeroValue123
 t105:=Tryz.underlying162
 a105:=Tryz.isAgg162
 z105:=Tryz.sizeOf162
 v105:=Tryz.zeroValue162
 t119:=Tryz.underlying225
 a119:=Tryz.isAgg225
 z119:=Tryz.sizeOf225
 t127:=Tryz.underlying156
 a127:=Tryz.isAgg156
 z127:=Tryz.sizeOf156
 v127:=Tryz.zeroValue156
 t138:=Tryz.underlying227
 a138:=Tryz.isAgg227
 z138:=Tryz.sizeOf227
 v138:=Tryz.zeroValue227
 t139:=Tryz.underlying228
 a139:=Tryz.isAgg228
 z139:=Tryz.sizeOf228
 v139:=Tryz.zeroValue228
 t146:=Tryz.underlying222
 a146:=Tryz.isAgg222
 z146:=Tryz.sizeOf222
 v146:=Tryz.zeroValue222
 t164:=Tryz.underlying169
 a164:=Tryz.isAgg169
 z164:=Tryz.sizeOf169
 v164:=Tryz.zeroValue169
 g1:=by kernel_rfl
 g3:=by kernel_rfl
 g4:=by kernel_rfl}
theorem Tryz.Kh:Builder.Extra Tryz.prog Tryz.KQ:={
 sizeBuilder:=by kernel_rfl
 liesBuilder:=by kernel_rfl
 t5:=Tryz.underlying5
 a5:=Tryz.isAgg5
 z5:=Tryz.sizeOf5
 v5:=Tryz.zeroValue5
 infoByte:=by kernel_rfl
 cellsByte:=by kernel_rfl
 sizeByte:=by kernel_rfl
 neB5:=by decide}
open Go.RowKit Go.Lib in
theorem Tryz.strings_ReplaceAll (s old new:ByteArray) (m:Int) (w:World) (hs:s.size<4294967281) (hm:w.cell? ⟨0,0,none⟩=some (.int .i64 m)) (h1:1<=old.size) (hlen:s.size+Lib.countB s old*new.size<=140737488355328):
  Calls Tryz.prog 42 #[.string s,.string old,.string new] w λe w'=>
   e=.returned (.string ⟨(Lib.replaceAll s.data.toList old.data.toList new.data.toList).toArray⟩)/\Below w.heap.size w w':=Any.strings_ReplaceAll Tryz.zrf Tryz.Kh s old new m w hs hm h1 hlen
end Go.Proofs

import Derived.Carry
import Derived.DataReads
import Derived.HandedShaped
import Derived.LaidMore
import Derived.LaidOnce
import Derived.Lay
import Derived.Lib.LaidTab
import Derived.ProofKit
import Derived.SevenTiedAt
import Derived.Shelf.Vars
import Derived.SizedLaws
import Derived.Stop.Joined
import Derived.Stop.LaidErr
import Derived.Test.YtgklikkddckgbaaGreatDoorFAX
import Derived.Test.YtgklikkddckgbaaGreatDoorRows
import Derived.WalkKit
/- Lemmas of the claim. -/
namespace Go.Proofs.YtgklikkddckgbaaGreatDoor.Mo
set_option linter.unusedVariables false
set_option linter.unusedSimpArgs false
open Go.RowKit
theorem read_res35 {W : World} {T : Array Value} {pf ps : Nat} {x y0 y1 : Value} (h2 : T.getD 2 undef = .pointer (some ⟨pf,0,none⟩)) (h3 : T.getD 3 undef = .pointer (some ⟨ps,0,none⟩)) (hf : W.heap[pf]? = some (.cells #[x] 24 (0,0))) (hs : W.heap[ps]? = some (.cells #[y0,y1] 87 (0,0))) :
  (results Tryz.f35 T).run Tryz.prog W = .ok (.tuple #[x, .agg #[y0,y1]]) W:=by
 have d0 : W.cell? ⟨pf,0,none⟩ = some x:=cell_of_row _ _ 0 _ _ (0,0) hf
 have d1 : W.cell? ⟨ps,0,none⟩ = some y0:=cell_of_row _ _ 0 _ _ (0,0) hs
 have d2 : W.cell? ⟨ps,1,none⟩ = some y1:=cell_of_row _ _ 1 _ _ (0,0) hs
 have h2' : T[2]?.getD undef = .pointer (some ⟨pf,0,none⟩):=by simpa using h2
 have h3' : T[3]?.getD undef = .pointer (some ⟨ps,0,none⟩):=by simpa using h3
 simp [results,Tryz.f35,go_sem,h2',h3',d0,d1,d2,Tryz.isAgg87,Tryz.sizeOf87]
theorem fm_zero {W : World} {B fb : Nat} (h : W.heap[fb]? = some (.cells #[.string ⟨#[]⟩, .slice none 0 0, .slice none 0 0, .slice none 0 0, .bool false, .int .i64 0, .int .i64 0, .int .i64 0] 92 (0,0))) (hB : B ≤ fb) : FmM W B fb Fm.zero (.slice none 0 0) (.slice none 0 0) (.slice none 0 0):=
 ⟨h,hB,⟨rfl, .inl ⟨rfl,rfl⟩⟩,⟨[],rfl,⟨rfl, .inl ⟨rfl,rfl⟩⟩,fun k hk => (by simp [Fm.zero] at hk)⟩,⟨[],⟨rfl,⟨rfl, .inl ⟨rfl,rfl⟩⟩,fun k hk => (by simp [Fm.zero] at hk)⟩,fun k hk => (by simp [Fm.zero] at hk)⟩⟩
theorem ok_zero : FmOk Fm.zero 0:=⟨by simp [Fm.zero,totN],by simp [Fm.zero],by simp [Fm.zero],by simp [Fm.zero],by simp [Fm.zero],by simp [Fm.zero],by simp [Fm.zero],by simp [Fm.zero],by simp [Fm.zero]⟩
theorem below_low {w W W' : World} {L : List Nat} (h : Below w.heap.size w W) (ho : Off L W W') (hl : ∀ k ∈ L,w.heap.size ≤ k) : Below w.heap.size w W':=h.trans (ho.below h.size hl)
set_option maxRecDepth 100000 in
set_option maxHeartbeats 2000000 in
theorem form_any (s : ByteArray) (w : World) (hv : Vars w) (hs64 : s.size ≤ 4611686018427387904) :
  Calls Tryz.prog 35 #[.string s] w (FormOk s w):=by
 have hmf : ∀ (fn : Fn) (first cap : Array Value) (w : World),(Instr.makeFunc fn first cap).run Tryz.prog w = .ok (.func fn first cap) w:=fun _ _ _ _ => rfl
 by_cases hl : 65536 < s.size
 ·have hd : decide ((65536 : Int) < (s.size : Int)) = true:=decide_eq_true (by omega)
  have hR : formP s = .error (3,65536):=by unfold formP; rw [if_pos hl]
  go_enter_defers Tryz.func35,Tryz.ntmps35
  go_wp2_with fail
  have hb : Below w.heap.size w ((w.alloc (.cells #[.pointer none] 24)).alloc (.cells #[.int .i64 3, .int .i64 65536] 87)):=((Below.refl _ _).alloc (Nat.le_refl _) _).alloc (by simp) _
  have hf : ((w.alloc (.cells #[.pointer none] 24)).alloc (.cells #[.int .i64 3, .int .i64 65536] 87)).heap[w.heap.size]? = some (.cells #[.pointer none] 24 (0,0)):=(Below.heap_alloc _ _ _ (by simp)).trans (World.alloc_heap_new w _)
  have hs : ((w.alloc (.cells #[.pointer none] 24)).alloc (.cells #[.int .i64 3, .int .i64 65536] 87)).heap[w.heap.size + 1]? = some (.cells #[.int .i64 3, .int .i64 65536] 87 (0,0)):=by
   have:=World.alloc_heap_new (w.alloc (.cells #[.pointer none] 24)) (.cells #[.int .i64 3, .int .i64 65536] 87)
   rw [World.size_alloc] at this
   exact this
  refine ⟨_,read_res35 rfl rfl hf hs,hb,?_⟩
  rw [hR]
  rfl
 ·have hd : decide ((65536 : Int) < (s.size : Int)) = false:=decide_eq_false (by omega)
  have hR : formP s = wholeP s (s.size + 1) Fm.zero false 0:=by unfold formP; rw [if_neg hl]
  obtain ⟨W4,hW4⟩ : ∃ W4 : World,W4 = (((w.alloc (.cells #[.pointer none] 24)).alloc (.cells #[.int .i64 0, .int .i64 0] 87)).alloc (.cells #[.string ⟨#[]⟩, .slice none 0 0, .slice none 0 0, .slice none 0 0, .bool false, .int .i64 0, .int .i64 0, .int .i64 0] 92)).alloc (.cells #[.string s, .int .i64 0, .pointer (some ⟨w.heap.size + 1 + 1,0,none⟩)] 137):=⟨_,rfl⟩
  have HW4:=Lib.hid hW4
  have hsz4 : W4.heap.size = w.heap.size + 4:=by rw [hW4]; simp
  have hb4 : Below w.heap.size w W4:=by rw [hW4]; exact ((((Below.refl _ _).alloc (Nat.le_refl _) _).alloc (by simp) _).alloc (by simp; omega) _).alloc (by simp; omega) _
  have hpf : W4.heap[w.heap.size]? = some (.cells #[.pointer none] 24 (0,0)):=by
   rw [hW4]
   exact (Below.heap_alloc _ _ _ (by simp; omega)).trans ((Below.heap_alloc _ _ _ (by simp; omega)).trans ((Below.heap_alloc _ _ _ (by simp)).trans (World.alloc_heap_new w _)))
  have hps : W4.heap[w.heap.size + 1]? = some (.cells #[.int .i64 0, .int .i64 0] 87 (0,0)):=by
   have:=World.alloc_heap_new (w.alloc (.cells #[.pointer none] 24)) (.cells #[.int .i64 0, .int .i64 0] 87)
   rw [World.size_alloc] at this
   rw [hW4]
   exact (Below.heap_alloc _ _ _ (by simp)).trans ((Below.heap_alloc _ _ _ (by simp)).trans this)
  have hfm : W4.heap[w.heap.size + 2]? = some (.cells #[.string ⟨#[]⟩, .slice none 0 0, .slice none 0 0, .slice none 0 0, .bool false, .int .i64 0, .int .i64 0, .int .i64 0] 92 (0,0)):=by
   have:=World.alloc_heap_new ((w.alloc (.cells #[.pointer none] 24)).alloc (.cells #[.int .i64 0, .int .i64 0] 87)) (.cells #[.string ⟨#[]⟩, .slice none 0 0, .slice none 0 0, .slice none 0 0, .bool false, .int .i64 0, .int .i64 0, .int .i64 0] 92)
   rw [World.size_alloc,World.size_alloc] at this
   rw [hW4]
   exact (Below.heap_alloc _ _ _ (by simp)).trans this
  have hrd : W4.heap[w.heap.size + 3]? = some (.cells (rdC s 0 (w.heap.size + 2)) 137 (0,0)):=by
   have:=World.alloc_heap_new (((w.alloc (.cells #[.pointer none] 24)).alloc (.cells #[.int .i64 0, .int .i64 0] 87)).alloc (.cells #[.string ⟨#[]⟩, .slice none 0 0, .slice none 0 0, .slice none 0 0, .bool false, .int .i64 0, .int .i64 0, .int .i64 0] 92)) (.cells #[.string s, .int .i64 0, .pointer (some ⟨w.heap.size + 1 + 1,0,none⟩)] 137)
   rw [World.size_alloc,World.size_alloc,World.size_alloc] at this
   rw [hW4]
   exact this
  have h9:=hv.six
  have hJ : WhJ W4 W4 (w.heap.size + 2) (w.heap.size + 3) (w.heap.size + 2) s Fm.zero 0 (.slice none 0 0) (.slice none 0 0) (.slice none 0 0):=
   ⟨⟨hrd,Nat.zero_le _,by omega⟩,fm_zero hfm (Nat.le_refl _),ok_zero,Below.refl _ _,Vars.below hv hb4 h9⟩
  have Hwh:=Lib.hid (whole_any (w.heap.size + 2) (w.heap.size + 3) (w.heap.size + 2) s _ _ _ W4 hJ (by omega) (by omega))
  have Hb4:=Lib.hid hb4
  have Hpf:=Lib.hid hpf
  have Hps:=Lib.hid hps
  have HR:=Lib.hid hR
  clear hW4 hb4 hpf hps hfm hrd hJ hR hv
  go_enter_defers Tryz.func35,Tryz.ntmps35
  go_wp2_with fail
  rw [← HW4.out]
  refine Hwh.out.mono ?_
  rintro e w5 ⟨hb5,hst⟩
  have hpf5:=(hb5.block w.heap.size (by omega)).trans Hpf.out
  have hps5:=(hb5.block (w.heap.size + 1) (by omega)).trans Hps.out
  have hB5 : Below w.heap.size w w5:=Hb4.out.trans ⟨hb5.os,hb5.tape,hb5.output,hb5.size,fun k hk => hb5.block k (by omega)⟩
  have hs5:=hb5.size
  cases hX : wholeP s (s.size + 1) Fm.zero false 0 with
  | error ep =>
   obtain ⟨c,p⟩:=ep
   rw [hX] at hst
   have hst2 : e = PanE c p:=hst
   subst hst2
   have HR2 : Hid (formP s = .error (c,p)):=Lib.hid (HR.out.trans hX)
   clear hst hX
   refine leaves_cons (f:=59) (args:= #[.pointer (some ⟨w.heap.size,0,none⟩), .pointer (some ⟨w.heap.size + 1,0,none⟩)]) (by simp) (by simp [go_sem]) ?_
   refine (caught_any w.heap.size (w.heap.size + 1) c p _ _ _ _ _ [] w5 hpf5 hps5 (by omega)).mono ?_
   rintro e u' w6 ⟨rfl,rfl,ho,hf6,hs6⟩
   refine ⟨_,read_res35 rfl rfl hf6 hs6,below_low hB5 ho (fun k hk => by simp at hk; omega),?_⟩
   rw [HR2.out]
  | ok f =>
   rw [hX] at hst
   obtain ⟨rfl,j,vl,vm,vs,hrd5,hk5,hm5⟩:=hst
   have HR2 : Hid (formP s = .ok f):=Lib.hid (HR.out.trans hX)
   have r2:=hrd5.cells.2.2.1
   have f0 : w5.cell? ⟨w.heap.size,0,none⟩ = some (.pointer none):=cell_of_row _ _ 0 _ _ (0,0) hpf5
   have s0 : w5.cell? ⟨w.heap.size + 1,0,none⟩ = some (.int .i64 0):=cell_of_row _ _ 0 _ _ (0,0) hps5
   have s1 : w5.cell? ⟨w.heap.size + 1,1,none⟩ = some (.int .i64 0):=cell_of_row _ _ 1 _ _ (0,0) hps5
   have z0 : w5.frozen? ⟨w.heap.size,0,none⟩ = false:=frozen_of_row _ _ 0 _ _ hpf5
   have z1 : w5.frozen? ⟨w.heap.size + 1,0,none⟩ = false:=frozen_of_row _ _ 0 _ _ hps5
   have z2 : w5.frozen? ⟨w.heap.size + 1,1,none⟩ = false:=frozen_of_row _ _ 1 _ _ hps5
   have Hrd5:=Lib.hid hrd5
   have Hk5:=Lib.hid hk5
   have Hm5:=Lib.hid hm5
   have HB5:=Lib.hid hB5
   have Hpf5:=Lib.hid hpf5
   have Hps5:=Lib.hid hps5
   clear hX hb5 hrd5 hk5 hm5 hB5 hpf5 hps5
   have h1:=heap_setCell_same w5 w.heap.size 0 _ _ (.pointer (some ⟨w.heap.size + 2,0,none⟩)) Hpf5.out
   have o1:=Off.setCell w5 w.heap.size 0 (.pointer (some ⟨w.heap.size + 2,0,none⟩))
   have q1:=(o1.block (w.heap.size + 1) (by omega) (by simp)).trans Hps5.out
   have q2:=heap_setCell_same _ (w.heap.size + 1) 0 _ _ (.int .i64 0) q1
   have o2:=Off.setCell (w5.setCell ⟨w.heap.size,0,none⟩ (.pointer (some ⟨w.heap.size + 2,0,none⟩))) (w.heap.size + 1) 0 (.int .i64 0)
   have q3:=heap_setCell_same _ (w.heap.size + 1) 1 _ _ (.int .i64 0) q2
   have o3:=Off.setCell ((w5.setCell ⟨w.heap.size,0,none⟩ (.pointer (some ⟨w.heap.size + 2,0,none⟩))).setCell ⟨w.heap.size + 1,0,none⟩ (.int .i64 0)) (w.heap.size + 1) 1 (.int .i64 0)
   have p3:=(o3.block w.heap.size (Nat.lt_of_lt_of_le (Nat.lt_of_lt_of_le (show w.heap.size < w5.heap.size by omega) o1.size) o2.size) (by simp)).trans ((o2.block w.heap.size (Nat.lt_of_lt_of_le (show w.heap.size < w5.heap.size by omega) o1.size) (by simp)).trans h1)
   have ho : Off [w.heap.size,w.heap.size + 1] w5 (((w5.setCell ⟨w.heap.size,0,none⟩ (.pointer (some ⟨w.heap.size + 2,0,none⟩))).setCell ⟨w.heap.size + 1,0,none⟩ (.int .i64 0)).setCell ⟨w.heap.size + 1,1,none⟩ (.int .i64 0)):=
    ((o1.mono (fun k hk => .inl (by simp at hk ⊢; exact .inl hk))).trans (o2.mono (fun k hk => .inl (by simp at hk ⊢; exact .inr hk)))).trans (o3.mono (fun k hk => .inl (by simp at hk ⊢; exact .inr hk)))
   have Hq3:=Lib.hid q3
   have Hp3:=Lib.hid p3
   have Ho:=Lib.hid ho
   clear h1 o1 q1 q2 o2 q3 o3 p3 ho
   go_wp2_with fail
   refine leaves_cons (f:=59) (args:= #[.pointer (some ⟨w.heap.size,0,none⟩), .pointer (some ⟨w.heap.size + 1,0,none⟩)]) (by simp) (by simp [go_sem]) ?_
   refine (idle_any w.heap.size (w.heap.size + 1) _).mono ?_
   rintro e u' w6 ⟨rfl,rfl,rfl⟩
   refine ⟨_,read_res35 rfl rfl Hp3.out Hq3.out,below_low HB5.out Ho.out (fun k hk => by simp at hk; omega),?_⟩
   rw [HR2.out]
   exact ⟨_,_,_,_,rfl,(Hm5.out.offLow Ho.out (fun k hk => by simp at hk; omega)).mono (by omega),Hk5.out.mono Hrd5.out.le⟩
end Go.Proofs.YtgklikkddckgbaaGreatDoor.Mo
namespace Go.Proofs.YtgklikkddckgbaaGreatDoor.Mo
set_option linter.unusedVariables false
set_option linter.unusedSimpArgs false
open Go.RowKit
/-- the variable of the library's own that the search reads holds some number -/
def MaxV (w : World) : Prop:= ∃ m : Int,w.cell? ⟨0,0,none⟩ = some (.int .i64 m)
def HSEST : ByteArray:=⟨#[115,116,97,110,122,97,32,120,32,120,32,120,32,120,32,120,32,120,124,114,111,117,110,100,32,53,32,53,32,48,32,120,64,49,32,120,64,55,32,120,64,52,32,120,64,56,32,120,64,55,32,120,64,57,124,115,116,97,110,122,97,32,120,64,51,126,54,32,120,64,51,126,54,32,120,64,51,126,54]⟩
def TSEST : ByteArray:=⟨#[102,111,114,109,32,115,101,115,116,105,110,97,10,115,116,97,110,122,97,32,120,32,120,32,120,32,120,32,120,32,120,10,114,111,117,110,100,32,53,32,53,32,48,32,120,64,49,32,120,64,55,32,120,64,52,32,120,64,56,32,120,64,55,32,120,64,57,10,115,116,97,110,122,97,32,120,64,51,126,54,32,120,64,51,126,54,32,120,64,51,126,54]⟩
set_option maxRecDepth 100000 in
theorem house_sestina (w : World) :
  Calls Tryz.prog 40 #[.string ⟨#[115,101,115,116,105,110,97]⟩] w fun e w' => e = .returned (.string HSEST) ∧ w = w':=by
 go_enter Tryz.func40,Tryz.ntmps40
 go_wp2_with fail
 go_ret
 exact ⟨rfl,rfl⟩
theorem sest_ok : ∃ f,formP TSEST = .ok f:=by
 have h : (match formP TSEST with | .ok _ => true | .error _ => false) = true:=by decide +kernel
 cases hf : formP TSEST with
 | error e => rw [hf] at h; cases h
 | ok f => exact ⟨f,rfl⟩
theorem sest_cont : Lib.contains HSEST.data.toList (⟨#[58,112]⟩ : ByteArray).data.toList = false:=by decide +kernel
theorem sest_repl : (⟨(Lib.replaceAll HSEST.data.toList (⟨#[124]⟩ : ByteArray).data.toList (⟨#[10]⟩ : ByteArray).data.toList).toArray⟩ : ByteArray) = ⟨#[115,116,97,110,122,97,32,120,32,120,32,120,32,120,32,120,32,120,10,114,111,117,110,100,32,53,32,53,32,48,32,120,64,49,32,120,64,55,32,120,64,52,32,120,64,56,32,120,64,55,32,120,64,57,10,115,116,97,110,122,97,32,120,64,51,126,54,32,120,64,51,126,54,32,120,64,51,126,54]⟩:=by decide +kernel
set_option maxRecDepth 100000 in
theorem of_sestina (w : World) (hv : Vars w) (hm : MaxV w) :
  Calls Tryz.prog 20 #[.string ⟨#[115,101,115,116,105,110,97]⟩] w fun e w' => Below w.heap.size w w' ∧ ∃ f fb vl vm vs,formP TSEST = .ok f ∧ e = .returned (.tuple #[.pointer (some ⟨fb,0,none⟩), .int .i64 0]) ∧ FmM w' w.heap.size fb f vl vm vs ∧ FmOk f TSEST.size:=by
 obtain ⟨m,hm⟩:=hm
 have Hh:=Lib.hid (house_sestina w)
 have hc:=Tryz.strings_Contains HSEST ⟨#[58,112]⟩ m w (by decide +kernel) hm
 rw [sest_cont] at hc
 have Hc:=Lib.hid (quiet_r hc)
 have hr:=Tryz.strings_ReplaceAll HSEST ⟨#[124]⟩ ⟨#[10]⟩ m w (by decide +kernel) hm (by decide) (by decide +kernel)
 rw [sest_repl] at hr
 have Hr:=Lib.hid hr
 have Hv:=Lib.hid hv
 have hne : HSEST.toList.isEmpty = false:=by decide +kernel
 have hne2 : (!HSEST.toList.isEmpty) = true:=by decide +kernel
 have hne3 : HSEST.toList ≠ []:=by decide +kernel
 clear hm hc hr hv
 go_enter Tryz.func20,Tryz.ntmps20
 go_wp2_with fail
 refine Hh.out.mono ?_
 rintro e w2 ⟨rfl,rfl⟩
 go_wp2_with fail
 refine Hc.out.mono ?_
 rintro e w2 ⟨rfl,rfl⟩
 go_wp2_with fail
 refine Hr.out.mono ?_
 rintro e w2 ⟨rfl,hb2⟩
 have Hb2:=Lib.hid hb2
 have hv2:=Vars.below Hv.out hb2 Hv.out.six
 have Hf:=Lib.hid (form_any TSEST w2 hv2 (by decide +kernel))
 clear hb2 hv2
 go_wp2_with fail
 have hcat : ((⟨#[102,111,114,109,32]⟩ : ByteArray) ++ ⟨#[115,101,115,116,105,110,97]⟩ ++ ⟨#[10]⟩ ++ ⟨#[115,116,97,110,122,97,32,120,32,120,32,120,32,120,32,120,32,120,10,114,111,117,110,100,32,53,32,53,32,48,32,120,64,49,32,120,64,55,32,120,64,52,32,120,64,56,32,120,64,55,32,120,64,57,10,115,116,97,110,122,97,32,120,64,51,126,54,32,120,64,51,126,54,32,120,64,51,126,54]⟩) = TSEST:=by decide +kernel
 rw [hcat]
 clear hcat
 refine Hf.out.mono ?_
 rintro e w3 ⟨hb3,hr3⟩
 obtain ⟨f,hf⟩:=sest_ok
 rw [hf] at hr3
 obtain ⟨fb,vl,vm,vs,rfl,hm3,hk3⟩:=hr3
 have Hfin : Hid (Below w.heap.size w (w3.alloc (.cells #[.int .i64 0, .int .i64 0] 87)) ∧ ∃ f vl vm vs,formP TSEST = .ok f ∧ FmM (w3.alloc (.cells #[.int .i64 0, .int .i64 0] 87)) w.heap.size fb f vl vm vs ∧ FmOk f TSEST.size):=Lib.hid
  ⟨(Hb2.out.trans (hb3.mono Hb2.out.size)).alloc (by have:=Hb2.out.size; have:=hb3.size; omega) _,f,vl,vm,vs,hf,(hm3.below ((Below.refl _ _).alloc (Nat.le_refl _) _)).mono Hb2.out.size,hk3⟩
 clear hf hb3 hm3 hk3
 go_wp2_with fail
 go_ret2
 obtain ⟨hb,f,vl,vm,vs,hf,hm,hk⟩:=Hfin.out
 exact ⟨hb,f,fb,vl,vm,vs,hf,rfl,hm,hk⟩
theorem wakes_any (w : World) (hv : Vars w) (hm : MaxV w) :
  Calls Tryz.prog 12 #[] w fun e w' => e = .returned (.bool true) ∧ Below w.heap.size w w':=by
 have Ho:=Lib.hid (of_sestina w hv hm)
 clear hv hm
 go_enter Tryz.func12,Tryz.ntmps12
 go_wp2_with fail
 refine Ho.out.mono ?_
 rintro e w2 ⟨hb,f,fb,vl,vm,vs,hf,rfl,_,_⟩
 have Hb:=Lib.hid hb
 clear hb hf
 go_wp2_with fail
 go_ret
 exact ⟨rfl,Hb.out⟩
theorem long_any (s : ByteArray) (w : World) (hs : s.size ≤ 4611686018427387904) :
  Calls Tryz.prog 13 #[.string s] w fun e w' => e = .returned (.bool (decide (8000 < s.size))) ∧ w = w':=by
 have hd : decide ((8000 : Int) < (s.size : Int)) = decide (8000 < s.size):=by
  by_cases h : 8000 < s.size
  ·rw [decide_eq_true h,decide_eq_true (by omega)]
  ·rw [decide_eq_false h,decide_eq_false (by omega)]
 have Hd:=Lib.hid hd
 clear hd
 go_enter Tryz.func13,Tryz.ntmps13
 go_wp2_with fail
 go_ret
 exact ⟨by rw [← Hd.out]; rfl,rfl⟩
end Go.Proofs.YtgklikkddckgbaaGreatDoor.Mo
namespace Go.Proofs.YtgklikkddckgbaaGreatDoor.Mo
set_option linter.unusedVariables false
set_option linter.unusedSimpArgs false
open Go.RowKit
theorem rhymeP_err {s : ByteArray} {i p : Nat} {c : Int} (h : rhymeP s i = .error (c,p)) : c ≠ 0:=by
 unfold rhymeP at h
 split at h
 ·cases h
 ·split at h
  ·cases h; decide
  ·split at h
   ·cases h
   ·split at h
    ·cases h; decide
    ·split at h
     ·cases h; decide
     ·cases h
theorem marksP_err {s : ByteArray} {letters : List UInt8} : ∀ (f : Nat) (ms : List Mk) (i : Nat) {c : Int} {p : Nat},marksP s letters f ms i = .error (c,p) → c ≠ 0
 | 0,ms,i,c,p,h => by unfold marksP at h; cases h
 | f + 1,ms,i,c,p,h => by
  unfold marksP at h
  split at h
  ·cases hm : markP s letters ms i with
   | error e =>
    obtain ⟨c',p'⟩:=e
    rw [hm] at h
    cases h
    exact markP_err hm
   | ok mj =>
    obtain ⟨m,j⟩:=mj
    rw [hm] at h
    exact marksP_err f _ j h
  ·cases h
theorem itemP_err {s : ByteArray} {letters : List UInt8} {line c : Int} {i p : Nat} (h : itemP s letters line i = .error (c,p)) : c ≠ 0:=by
 rw [itemP_R] at h
 cases hr : itemR s letters i with
 | error e =>
  obtain ⟨c',p'⟩:=e
  rw [hr] at h
  cases h
  unfold itemR at hr
  cases h1 : rhymeP s i with
  | error e => obtain ⟨c',p'⟩:=e; rw [h1] at hr; cases hr; exact rhymeP_err h1
  | ok r =>
   obtain ⟨cls,ref,j⟩:=r
   rw [h1] at hr
   simp only at hr
   cases h2 : marksP s letters (s.size + 1) [] j with
   | error e => obtain ⟨c',p'⟩:=e; rw [h2] at hr; cases hr; exact marksP_err _ _ _ h2
   | ok mk =>
    obtain ⟨ms,k⟩:=mk
    rw [h2] at hr
    simp only at hr
    split at hr
    ·cases hr; decide
    ·cases hr
 | ok xk =>
  obtain ⟨x,k⟩:=xk
  rw [hr] at h
  simp only at h
  split at h
  ·cases h; decide
  ·cases h
theorem itemsP_err {s : ByteArray} {f : Fm} {round : Bool} : ∀ (q : Nat) (l : List It) (i : Nat) {c : Int} {p : Nat},itemsP s f round q l i = .error (c,p) → c ≠ 0
 | 0,l,i,c,p,h => by unfold itemsP at h; cases h
 | q + 1,l,i,c,p,h => by
  unfold itemsP at h
  split at h
  ·cases hm : itemP s f.letters (lineN f round l.length) (i + 1) with
   | error e =>
    obtain ⟨c',p'⟩:=e
    rw [hm] at h
    cases h
    exact itemP_err hm
   | ok mj =>
    obtain ⟨m,j⟩:=mj
    rw [hm] at h
    exact itemsP_err q _ j h
  ·cases h
theorem stanzaP_err {s : ByteArray} {f : Fm} {round : Bool} {start i p : Nat} {c : Int} (h : stanzaP s f round start i = .error (c,p)) : c ≠ 0:=by
 rw [stanzaP_E] at h
 unfold rowsE at h
 by_cases h1 : ¬ isB s i 32 = true
 ·rw [if_pos h1] at h; cases h; decide
 ·rw [if_neg h1] at h
  cases hit : itemsP s f round (s.size + 1) [] i with
  | error e => obtain ⟨c',p'⟩:=e; rw [hit] at h; cases h; exact itemsP_err _ _ _ hit
  | ok lj =>
   obtain ⟨l,j'⟩:=lj
   rw [hit] at h
   simp only at h
   split at h
   ·cases h; decide
   ·split at h
    ·cases h; decide
    ·cases h
theorem lift_err0 {r : Except Nat Nat} {c : Int} {p : Nat} (h : liftE r = .error (c,p)) : c ≠ 0:=by rw [lift_err h]; decide
theorem roundP_err {s : ByteArray} {f : Fm} {i p : Nat} {c : Int} (h : roundP s f i = .error (c,p)) : c ≠ 0:=by
 by_cases hr : f.rounds = true
 ·unfold roundP at h; rw [if_pos hr] at h; cases h; decide
 ·have hr2 : f.rounds = false:=by simpa using hr
  rw [roundP_K hr2] at h
  cases h1 : liftE (mustP s ROUND i) with
  | error e => obtain ⟨c',p'⟩:=e; rw [h1] at h; cases h; exact lift_err0 h1
  | ok a =>
   rw [h1] at h
   simp only at h
   unfold rK1 at h
   cases h2 : numP s 0 a with
   | error e => obtain ⟨c',p'⟩:=e; rw [h2] at h; cases h; exact numP_err h2
   | ok lb =>
    obtain ⟨least,b⟩:=lb
    rw [h2] at h
    simp only at h
    unfold rK2 at h
    cases h3 : liftE (mustP s [32] b) with
    | error e => obtain ⟨c',p'⟩:=e; rw [h3] at h; cases h; exact lift_err0 h3
    | ok c2 =>
     rw [h3] at h
     simp only at h
     unfold rK3 at h
     cases h4 : numP s 0 c2 with
     | error e => obtain ⟨c',p'⟩:=e; rw [h4] at h; cases h; exact numP_err h4
     | ok md =>
      obtain ⟨most,d⟩:=md
      rw [h4] at h
      simp only at h
      unfold rK4 at h
      split at h
      ·cases h; decide
      ·cases h5 : liftE (mustP s [32] d) with
       | error e => obtain ⟨c',p'⟩:=e; rw [h5] at h; cases h; exact lift_err0 h5
       | ok g =>
        rw [h5] at h
        simp only at h
        unfold rK5 at h
        cases h6 : numP s 0 g with
        | error e => obtain ⟨c',p'⟩:=e; rw [h6] at h; cases h; exact numP_err h6
        | ok sh =>
         obtain ⟨shift,hh⟩:=sh
         rw [h6] at h
         simp only at h
         unfold rK6 at h
         cases h7 : stanzaP s { f with least:=least,most:=most,shift:=shift } true i hh with
         | error e => obtain ⟨c',p'⟩:=e; rw [h7] at h; cases h; exact stanzaP_err h7
         | ok fj => obtain ⟨f2,j2⟩:=fj; rw [h7] at h; cases h
theorem metreP_err {s : ByteArray} {f : Fm} {i p : Nat} {c : Int} (hs : s.size ≤ 65536) (h : metreP s f i = .error (c,p)) : c ≠ 0:=by
 rw [metreP_K] at h
 cases h1 : liftE (mustP s METRE i) with
 | error e => obtain ⟨c',p'⟩:=e; rw [h1] at h; cases h; exact lift_err0 h1
 | ok a =>
  rw [h1] at h
  simp only at h
  unfold mK1 at h
  split at h
  ·cases h; decide
  ·unfold mK2 at h
   split at h
   ·cases h; decide
   ·unfold mK3 at h
    cases h2 : liftE (mustP s [32] (a + 1)) with
    | error e => obtain ⟨c',p'⟩:=e; rw [h2] at h; cases h; exact lift_err0 h2
    | ok b =>
     rw [h2] at h
     simp only at h
     unfold mK4 at h
     cases h3 : readP ⟨(cutB s b (restE s b)).toArray⟩ with
     | error e =>
      obtain ⟨c',p'⟩:=e
      rw [h3] at h
      cases h
      refine (read_pos ?_ h3).1
      rw [← ext_cut,ByteArray.size_extract]
      omega
     | ok m => rw [h3] at h; cases h
theorem lineP_err {s : ByteArray} {f : Fm} {t : Bool} {i p : Nat} {c : Int} (hs : s.size ≤ 65536) (h : lineP s f t i = .error (c,p)) : c ≠ 0:=by
 unfold lineP at h
 split at h
 ·cases h1 : liftE (mustP s FORM i) with
  | error e => obtain ⟨c',p'⟩:=e; rw [h1] at h; cases h; exact lift_err0 h1
  | ok a =>
   rw [h1] at h
   simp only at h
   split at h
   ·cases h; decide
   ·cases h
 ·split at h
  ·exact metreP_err hs h
  ·split at h
   ·exact roundP_err h
   ·cases h1 : liftE (mustP s STANZA i) with
    | error e => obtain ⟨c',p'⟩:=e; rw [h1] at h; cases h; exact lift_err0 h1
    | ok a => rw [h1] at h; exact stanzaP_err h
theorem wholeP_err {s : ByteArray} (hs : s.size ≤ 65536) : ∀ (q : Nat) (f : Fm) (t : Bool) (i : Nat) {c : Int} {p : Nat},wholeP s q f t i = .error (c,p) → c ≠ 0
 | 0,f,t,i,c,p,h => by unfold wholeP at h; cases h
 | q + 1,f,t,i,c,p,h => by
  unfold wholeP at h
  split at h
  ·split at h
   ·cases h; decide
   ·cases h
  ·split at h
   ·exact wholeP_err hs q f t _ h
   ·split at h
    ·exact wholeP_err hs q f t _ h
    ·cases hl : lineP s f t i with
     | error e => obtain ⟨c',p'⟩:=e; rw [hl] at h; cases h; exact lineP_err hs hl
     | ok fj => obtain ⟨f',j⟩:=fj; rw [hl] at h; exact wholeP_err hs q f' true _ h
theorem formP_err {s : ByteArray} {c : Int} {p : Nat} (h : formP s = .error (c,p)) : c ≠ 0:=by
 unfold formP at h
 split at h
 ·cases h; decide
 ·exact wholeP_err (by omega) _ _ _ _ h
/-- as the law's read ends -/
def ReadL (s : ByteArray) (w : World) (e : Ending) (w' : World) : Prop:=Below w.heap.size w w' ∧ match formP s with
 | .ok f => ∃ fb vl vm vs F,e = .returned (.tuple #[.pointer (some ⟨fb,0,none⟩),RF.agg F, .bool true, .bool true]) ∧ FmM w' w.heap.size fb f vl vm vs ∧ FmOk f s.size ∧ RFM w' w.heap.size f F
 | .error _ => e = .returned (.tuple #[.pointer none,RF0.agg, .bool false, .bool true])
theorem readl_end {W : World} {T : Array Value} {Q : Ending → World → Prop} {P : Nat} {v0 v1 v2 v3 v4 v5 v6 v7 x y z : Value} (h2 : T.getD 2 undef = x) (h3 : T.getD 3 undef = .pointer (some ⟨P,0,none⟩)) (h4 : T.getD 4 undef = y) (h5 : T.getD 5 undef = z) (r : W.heap[P]? = some (.cells #[v0,v1,v2,v3,v4,v5,v6,v7] 29 (0,0))) (hQ : Q (.returned (.tuple #[x, .agg #[v0,v1,v2,v3,v4,v5,v6,v7],y,z])) W) :
  bodyPost Tryz.prog Tryz.f14 Q Exit.ret { tmps:=T,defers:= [] } W:=by
 have d0 : W.cell? ⟨P,0,none⟩ = some v0:=cell_of_row _ _ _ _ _ (0,0) r
 have d1 : W.cell? ⟨P,1,none⟩ = some v1:=cell_of_row _ _ _ _ _ (0,0) r
 have d2 : W.cell? ⟨P,2,none⟩ = some v2:=cell_of_row _ _ _ _ _ (0,0) r
 have d3 : W.cell? ⟨P,3,none⟩ = some v3:=cell_of_row _ _ _ _ _ (0,0) r
 have d4 : W.cell? ⟨P,4,none⟩ = some v4:=cell_of_row _ _ _ _ _ (0,0) r
 have d5 : W.cell? ⟨P,5,none⟩ = some v5:=cell_of_row _ _ _ _ _ (0,0) r
 have d6 : W.cell? ⟨P,6,none⟩ = some v6:=cell_of_row _ _ _ _ _ (0,0) r
 have d7 : W.cell? ⟨P,7,none⟩ = some v7:=cell_of_row _ _ _ _ _ (0,0) r
 have h2' : T[2]?.getD undef = x:=by simpa using h2
 have h3' : T[3]?.getD undef = .pointer (some ⟨P,0,none⟩):=by simpa using h3
 have h4' : T[4]?.getD undef = y:=by simpa using h4
 have h5' : T[5]?.getD undef = z:=by simpa using h5
 refine bodyPost_ret (v:= .tuple #[x, .agg #[v0,v1,v2,v3,v4,v5,v6,v7],y,z]) ?_ rfl hQ
 simp [results,Tryz.f14,go_sem,h2',h3',h4',h5',d0,d1,d2,d3,d4,d5,d6,d7,Tryz.isAgg29,Tryz.sizeOf29]
set_option maxRecDepth 100000 in
set_option maxHeartbeats 2000000 in
theorem readL_any (s : ByteArray) (w : World) (hv : Vars w) (hs : s.size ≤ 4611686018427387904) :
  Calls Tryz.prog 14 #[.string s] w (ReadL s w):=by
 have hbA : Below w.heap.size w (w.alloc (.cells #[.string ⟨#[]⟩, .slice none 0 0, .slice none 0 0, .slice none 0 0, .bool false, .int .i64 0, .int .i64 0, .int .i64 0] 29)):=(Below.refl _ _).alloc (Nat.le_refl _) _
 have hx:=World.alloc_heap_new w (.cells #[.string ⟨#[]⟩, .slice none 0 0, .slice none 0 0, .slice none 0 0, .bool false, .int .i64 0, .int .i64 0, .int .i64 0] 29)
 have Hr:=Lib.hid (rref_any s _ (Vars.below hv hbA hv.six) hs)
 have Hv:=Lib.hid hv
 have HbA:=Lib.hid hbA
 have Hx:=Lib.hid hx
 have h9:=hv.six
 clear hv hbA hx
 go_enter Tryz.func14,Tryz.ntmps14
 go_wp2_with fail
 generalize w.alloc (.cells #[.string ⟨#[]⟩, .slice none 0 0, .slice none 0 0, .slice none 0 0, .bool false, .int .i64 0, .int .i64 0, .int .i64 0] 29) = W1 at *
 refine Hr.out.mono ?_
 rintro e w2 ⟨hb2,hr2⟩
 have hx2:=(hb2.block w.heap.size (Array.getElem?_eq_some_iff.1 Hx.out).1).trans Hx.out
 have hbw2 : Below w.heap.size w w2:=HbA.out.trans (hb2.mono HbA.out.size)
 cases hf : formP s with
 | error cp =>
  obtain ⟨c,p⟩:=cp
  rw [hf] at hr2
  subst hr2
  have hagg : RF0.agg = .agg #[.string ⟨#[]⟩, .slice none 0 0, .slice none 0 0, .slice none 0 0, .bool false, .int .i64 0, .int .i64 0, .int .i64 0]:=rfl
  rw [hagg]
  have y0:=cell_of_row _ _ 0 _ _ (0,0) hx2
  have z0:=frozen_of_row _ _ 0 _ _ hx2
  have y1:=cell_of_row _ _ 1 _ _ (0,0) hx2
  have z1:=frozen_of_row _ _ 1 _ _ hx2
  have y2:=cell_of_row _ _ 2 _ _ (0,0) hx2
  have z2:=frozen_of_row _ _ 2 _ _ hx2
  have y3:=cell_of_row _ _ 3 _ _ (0,0) hx2
  have z3:=frozen_of_row _ _ 3 _ _ hx2
  have y4:=cell_of_row _ _ 4 _ _ (0,0) hx2
  have z4:=frozen_of_row _ _ 4 _ _ hx2
  have y5:=cell_of_row _ _ 5 _ _ (0,0) hx2
  have z5:=frozen_of_row _ _ 5 _ _ hx2
  have y6:=cell_of_row _ _ 6 _ _ (0,0) hx2
  have z6:=frozen_of_row _ _ 6 _ _ hx2
  have y7:=cell_of_row _ _ 7 _ _ (0,0) hx2
  have z7:=frozen_of_row _ _ 7 _ _ hx2
  have hc:=formP_err hf
  have q0 : (c != 0) = true:=by simpa using hc
  have hz:=rset8n hx2 (.string ⟨#[]⟩) (.slice none 0 0) (.slice none 0 0) (.slice none 0 0) (.bool false) (.int .i64 0) (.int .i64 0) (.int .i64 0)
  have hbw3:=hbw2.trans (hz.2.below hbw2.size (fun k hk => by simp at hk; omega))
  have Hfo:=Lib.hid (form_any s _ (Vars.below Hv.out hbw3 h9) hs)
  have Hz:=Lib.hid hz
  have Hbw3:=Lib.hid hbw3
  have Hf:=Lib.hid hf
  clear hagg hx2 hb2 hbw2 hf hc hz hbw3
  go_wp2_with fail
  generalize ((((((((w2.setCell ⟨w.heap.size,0,none⟩ (.string ⟨#[]⟩)).setCell ⟨w.heap.size,1,none⟩ (.slice none 0 0)).setCell ⟨w.heap.size,2,none⟩ (.slice none 0 0)).setCell ⟨w.heap.size,3,none⟩ (.slice none 0 0)).setCell ⟨w.heap.size,4,none⟩ (.bool false)).setCell ⟨w.heap.size,5,none⟩ (.int .i64 0)).setCell ⟨w.heap.size,6,none⟩ (.int .i64 0)).setCell ⟨w.heap.size,7,none⟩ (.int .i64 0)) = W3 at *
  refine Hfo.out.mono ?_
  rintro e w4 ⟨hb4,hr4⟩
  rw [Hf.out] at hr4
  subst hr4
  go_wp2_with fail
  have hx5 : (w4.alloc (.cells #[.int .i64 c, .int .i64 p] 87)).heap[w.heap.size]? = some (.cells #[.string ⟨#[]⟩, .slice none 0 0, .slice none 0 0, .slice none 0 0, .bool false, .int .i64 0, .int .i64 0, .int .i64 0] 29 (0,0)):=(Below.heap_alloc _ _ _ (Nat.lt_of_lt_of_le (Array.getElem?_eq_some_iff.1 Hz.out.1).1 hb4.size)).trans ((hb4.block w.heap.size (Array.getElem?_eq_some_iff.1 Hz.out.1).1).trans Hz.out.1)
  have hs5:=World.alloc_heap_new w4 (.cells #[.int .i64 c, .int .i64 p] 87)
  have hbw5 : Below w.heap.size w (w4.alloc (.cells #[.int .i64 c, .int .i64 p] 87)):=(Hbw3.out.trans (hb4.mono Hbw3.out.size)).alloc (by have:=Hbw3.out.size; have:=hb4.size; omega) _
  have hne : w4.heap.size ≠ w.heap.size:=by have:=(Array.getElem?_eq_some_iff.1 Hz.out.1).1; have:=hb4.size; omega
  obtain ⟨sb,hsb⟩ : ∃ sb : Nat,w4.heap.size = sb:=⟨_,rfl⟩
  rw [hsb] at hs5 hne ⊢
  generalize w4.alloc (.cells #[.int .i64 c, .int .i64 p] 87) = W5 at *
  have s0 : W5.cell? ⟨sb,0,none⟩ = some (.int .i64 c):=cell_of_row _ _ 0 _ _ (0,0) hs5
  have s1 : W5.cell? ⟨sb,1,none⟩ = some (.int .i64 p):=cell_of_row _ _ 1 _ _ (0,0) hs5
  have u0 : W5.cell? ⟨w.heap.size,0,none⟩ = some (.string ⟨#[]⟩):=cell_of_row _ _ 0 _ _ (0,0) hx5
  have v0:=frozen_of_row _ _ 0 _ _ hx5
  have u1 : W5.cell? ⟨w.heap.size,1,none⟩ = some (.slice none 0 0):=cell_of_row _ _ 1 _ _ (0,0) hx5
  have v1:=frozen_of_row _ _ 1 _ _ hx5
  have u2 : W5.cell? ⟨w.heap.size,2,none⟩ = some (.slice none 0 0):=cell_of_row _ _ 2 _ _ (0,0) hx5
  have v2:=frozen_of_row _ _ 2 _ _ hx5
  have u3 : W5.cell? ⟨w.heap.size,3,none⟩ = some (.slice none 0 0):=cell_of_row _ _ 3 _ _ (0,0) hx5
  have v3:=frozen_of_row _ _ 3 _ _ hx5
  have u4 : W5.cell? ⟨w.heap.size,4,none⟩ = some (.bool false):=cell_of_row _ _ 4 _ _ (0,0) hx5
  have v4:=frozen_of_row _ _ 4 _ _ hx5
  have u5 : W5.cell? ⟨w.heap.size,5,none⟩ = some (.int .i64 0):=cell_of_row _ _ 5 _ _ (0,0) hx5
  have v5:=frozen_of_row _ _ 5 _ _ hx5
  have u6 : W5.cell? ⟨w.heap.size,6,none⟩ = some (.int .i64 0):=cell_of_row _ _ 6 _ _ (0,0) hx5
  have v6:=frozen_of_row _ _ 6 _ _ hx5
  have u7 : W5.cell? ⟨w.heap.size,7,none⟩ = some (.int .i64 0):=cell_of_row _ _ 7 _ _ (0,0) hx5
  have v7:=frozen_of_row _ _ 7 _ _ hx5
  have Hz5:=Lib.hid (rset8 hx5 (.string ⟨#[]⟩) (.slice none 0 0) (.slice none 0 0) (.slice none 0 0) (.bool false) (.int .i64 0) (.int .i64 0) (.int .i64 0))
  have Hbw5:=Lib.hid hbw5
  clear hx5 hs5 hbw5 hb4 hsb y0 y1 y2 y3 y4 y5 y6 y7 z0 z1 z2 z3 z4 z5 z6 z7
  go_region
  all_goals
   go_wp2_with fail
   refine readl_end rfl rfl rfl rfl Hz5.out.1 ⟨Hbw5.out.trans (Hz5.out.2.below Hbw5.out.size (fun k hk => by simp at hk; omega)),?_⟩
   rw [Hf.out]
   rfl
 | ok f =>
  rw [hf] at hr2
  obtain ⟨F,rfl,hfm⟩:=hr2
  obtain ⟨Al,cl,hvl⟩:=own_slice hfm.l
  obtain ⟨cs,hcs⟩:=hfm.m
  obtain ⟨Am,cm,hvm⟩:=own_slice hcs.o
  obtain ⟨Ar,cr,hvr⟩:=hfm.len
  have hagg : RF.agg F = .agg #[.string ⟨f.name.toArray⟩, .slice Al f.letters.length cl, .slice Am f.metres.length cm, .slice Ar f.rows.length cr, .bool F.rd, .int .i64 F.a, .int .i64 F.b, .int .i64 F.c]:=by unfold RF.agg; rw [hfm.nm,hvl,hvm,hvr]
  have Hagg:=Lib.hid hagg
  rw [hagg]
  have y0:=cell_of_row _ _ 0 _ _ (0,0) hx2
  have z0:=frozen_of_row _ _ 0 _ _ hx2
  have y1:=cell_of_row _ _ 1 _ _ (0,0) hx2
  have z1:=frozen_of_row _ _ 1 _ _ hx2
  have y2:=cell_of_row _ _ 2 _ _ (0,0) hx2
  have z2:=frozen_of_row _ _ 2 _ _ hx2
  have y3:=cell_of_row _ _ 3 _ _ (0,0) hx2
  have z3:=frozen_of_row _ _ 3 _ _ hx2
  have y4:=cell_of_row _ _ 4 _ _ (0,0) hx2
  have z4:=frozen_of_row _ _ 4 _ _ hx2
  have y5:=cell_of_row _ _ 5 _ _ (0,0) hx2
  have z5:=frozen_of_row _ _ 5 _ _ hx2
  have y6:=cell_of_row _ _ 6 _ _ (0,0) hx2
  have z6:=frozen_of_row _ _ 6 _ _ hx2
  have y7:=cell_of_row _ _ 7 _ _ (0,0) hx2
  have z7:=frozen_of_row _ _ 7 _ _ hx2
  have hz:=rset8n hx2 (.string ⟨f.name.toArray⟩) (.slice Al f.letters.length cl) (.slice Am f.metres.length cm) (.slice Ar f.rows.length cr) (.bool F.rd) (.int .i64 F.a) (.int .i64 F.b) (.int .i64 F.c)
  have hbw3:=hbw2.trans (hz.2.below hbw2.size (fun k hk => by simp at hk; omega))
  have hlw:=HbA.out.size
  have hf3 : RFM ((((((((w2.setCell ⟨w.heap.size,0,none⟩ (.string ⟨f.name.toArray⟩)).setCell ⟨w.heap.size,1,none⟩ (.slice Al f.letters.length cl)).setCell ⟨w.heap.size,2,none⟩ (.slice Am f.metres.length cm)).setCell ⟨w.heap.size,3,none⟩ (.slice Ar f.rows.length cr)).setCell ⟨w.heap.size,4,none⟩ (.bool F.rd)).setCell ⟨w.heap.size,5,none⟩ (.int .i64 F.a)).setCell ⟨w.heap.size,6,none⟩ (.int .i64 F.b)).setCell ⟨w.heap.size,7,none⟩ (.int .i64 F.c)) w.heap.size f F:=(hfm.off hz.2 (TyAt.one hx2) (by simp)).mono hlw
  have Hfo:=Lib.hid (form_any s _ (Vars.below Hv.out hbw3 h9) hs)
  have Hz:=Lib.hid hz
  have Hbw3:=Lib.hid hbw3
  have Hf3:=Lib.hid hf3
  have Hf:=Lib.hid hf
  clear hagg hx2 hb2 hbw2 hf hz hbw3 hfm hf3 hcs hvl hvm hvr hlw
  go_wp2_with fail
  generalize ((((((((w2.setCell ⟨w.heap.size,0,none⟩ (.string ⟨f.name.toArray⟩)).setCell ⟨w.heap.size,1,none⟩ (.slice Al f.letters.length cl)).setCell ⟨w.heap.size,2,none⟩ (.slice Am f.metres.length cm)).setCell ⟨w.heap.size,3,none⟩ (.slice Ar f.rows.length cr)).setCell ⟨w.heap.size,4,none⟩ (.bool F.rd)).setCell ⟨w.heap.size,5,none⟩ (.int .i64 F.a)).setCell ⟨w.heap.size,6,none⟩ (.int .i64 F.b)).setCell ⟨w.heap.size,7,none⟩ (.int .i64 F.c)) = W3 at *
  refine Hfo.out.mono ?_
  rintro e w4 ⟨hb4,hr4⟩
  rw [Hf.out] at hr4
  obtain ⟨fb,vl,vm,vs,rfl,hfm4,hk4⟩:=hr4
  have Hfm4:=Lib.hid hfm4
  have Hk4:=Lib.hid hk4
  clear hfm4 hk4
  go_wp2_with fail
  have hx5 : (w4.alloc (.cells #[.int .i64 0, .int .i64 0] 87)).heap[w.heap.size]? = some (.cells #[.string ⟨f.name.toArray⟩, .slice Al f.letters.length cl, .slice Am f.metres.length cm, .slice Ar f.rows.length cr, .bool F.rd, .int .i64 F.a, .int .i64 F.b, .int .i64 F.c] 29 (0,0)):=(Below.heap_alloc _ _ _ (Nat.lt_of_lt_of_le (Array.getElem?_eq_some_iff.1 Hz.out.1).1 hb4.size)).trans ((hb4.block w.heap.size (Array.getElem?_eq_some_iff.1 Hz.out.1).1).trans Hz.out.1)
  have hs5:=World.alloc_heap_new w4 (.cells #[.int .i64 0, .int .i64 0] 87)
  have hbw5 : Below w.heap.size w (w4.alloc (.cells #[.int .i64 0, .int .i64 0] 87)):=(Hbw3.out.trans (hb4.mono Hbw3.out.size)).alloc (by have:=Hbw3.out.size; have:=hb4.size; omega) _
  have hne : w4.heap.size ≠ w.heap.size:=by have:=(Array.getElem?_eq_some_iff.1 Hz.out.1).1; have:=hb4.size; omega
  have hm5:=Hfm4.out.below ((Below.refl w4.heap.size w4).alloc (Nat.le_refl _) (.cells #[.int .i64 0, .int .i64 0] 87))
  have hf5:=(Hf3.out.below hb4).below ((Below.refl w4.heap.size w4).alloc (Nat.le_refl _) (.cells #[.int .i64 0, .int .i64 0] 87))
  obtain ⟨sb,hsb⟩ : ∃ sb : Nat,w4.heap.size = sb:=⟨_,rfl⟩
  rw [hsb] at hs5 hne ⊢
  generalize w4.alloc (.cells #[.int .i64 0, .int .i64 0] 87) = W5 at *
  have s0 : W5.cell? ⟨sb,0,none⟩ = some (.int .i64 0):=cell_of_row _ _ 0 _ _ (0,0) hs5
  have s1 : W5.cell? ⟨sb,1,none⟩ = some (.int .i64 0):=cell_of_row _ _ 1 _ _ (0,0) hs5
  have u0 : W5.cell? ⟨w.heap.size,0,none⟩ = some (.string ⟨f.name.toArray⟩):=cell_of_row _ _ 0 _ _ (0,0) hx5
  have v0:=frozen_of_row _ _ 0 _ _ hx5
  have u1 : W5.cell? ⟨w.heap.size,1,none⟩ = some (.slice Al f.letters.length cl):=cell_of_row _ _ 1 _ _ (0,0) hx5
  have v1:=frozen_of_row _ _ 1 _ _ hx5
  have u2 : W5.cell? ⟨w.heap.size,2,none⟩ = some (.slice Am f.metres.length cm):=cell_of_row _ _ 2 _ _ (0,0) hx5
  have v2:=frozen_of_row _ _ 2 _ _ hx5
  have u3 : W5.cell? ⟨w.heap.size,3,none⟩ = some (.slice Ar f.rows.length cr):=cell_of_row _ _ 3 _ _ (0,0) hx5
  have v3:=frozen_of_row _ _ 3 _ _ hx5
  have u4 : W5.cell? ⟨w.heap.size,4,none⟩ = some (.bool F.rd):=cell_of_row _ _ 4 _ _ (0,0) hx5
  have v4:=frozen_of_row _ _ 4 _ _ hx5
  have u5 : W5.cell? ⟨w.heap.size,5,none⟩ = some (.int .i64 F.a):=cell_of_row _ _ 5 _ _ (0,0) hx5
  have v5:=frozen_of_row _ _ 5 _ _ hx5
  have u6 : W5.cell? ⟨w.heap.size,6,none⟩ = some (.int .i64 F.b):=cell_of_row _ _ 6 _ _ (0,0) hx5
  have v6:=frozen_of_row _ _ 6 _ _ hx5
  have u7 : W5.cell? ⟨w.heap.size,7,none⟩ = some (.int .i64 F.c):=cell_of_row _ _ 7 _ _ (0,0) hx5
  have v7:=frozen_of_row _ _ 7 _ _ hx5
  have hz5:=rset8 hx5 (.string ⟨f.name.toArray⟩) (.slice Al f.letters.length cl) (.slice Am f.metres.length cm) (.slice Ar f.rows.length cr) (.bool F.rd) (.int .i64 F.a) (.int .i64 F.b) (.int .i64 F.c)
  have Hz5:=Lib.hid hz5
  have Hbw5:=Lib.hid hbw5
  have Hm6:=Lib.hid ((hm5.offLow hz5.2 (fun k hk => by simp at hk; have:=(Array.getElem?_eq_some_iff.1 Hz.out.1).1; omega)).mono (C:=w.heap.size) Hbw3.out.size)
  have Hf6:=Lib.hid (hf5.off hz5.2 (TyAt.one hx5) (by simp))
  clear hx5 hs5 hbw5 hb4 hsb y0 y1 y2 y3 y4 y5 y6 y7 z0 z1 z2 z3 z4 z5 z6 z7 hm5 hf5 hz5
  go_region
  all_goals
   go_wp2_with fail
   refine readl_end rfl rfl rfl rfl Hz5.out.1 ⟨Hbw5.out.trans (Hz5.out.2.below Hbw5.out.size (fun k hk => by simp at hk; omega)),?_⟩
   rw [Hf.out]
   exact ⟨fb,vl,vm,vs,F,by rw [Hagg.out]; rfl,Hm6.out,Hk4.out,Hf6.out⟩
end Go.Proofs.YtgklikkddckgbaaGreatDoor.Mo
namespace Go.Proofs.YtgklikkddckgbaaGreatDoor.Mo
set_option linter.unusedVariables false
set_option linter.unusedSimpArgs false
open Go.RowKit
/-- with n rounds there are so many lines, and with none fewer; or with none -/
def FitR (rows : List Rw) (least most lines n : Int) (ok : Bool) : Prop:=
 (ok = true ∧ least ≤ n ∧ n ≤ most ∧ sizeP rows n = lines ∧ ∀ j,least ≤ j → j < n → sizeP rows j ≠ lines) ∨ (ok = false ∧ n = 0 ∧ ∀ j,least ≤ j → j ≤ most → sizeP rows j ≠ lines)
def FitOk (rows : List Rw) (least most lines : Int) (w : World) (e : Ending) (w' : World) : Prop:= ∃ n ok,e = .returned (.tuple #[.int .i64 n, .bool ok]) ∧ FitR rows least most lines n ok ∧ Below w.heap.size w w'
set_option maxRecDepth 100000 in
theorem fit_any (B fb : Nat) (f : Fm) (vl vm vs : Value) (i : Nat) (lines : Int) (w : World) (h : FmM w B fb f vl vm vs) (hk : FmOk f i) (hi : i ≤ 65536) :
  Calls Tryz.prog 15 #[.pointer (some ⟨fb,0,none⟩), .int .i64 lines] w (FitOk f.rows f.least f.most lines w):=by
 have c5:=h.cells.2.2.2.2.2.1
 have l0:=hk.l0
 have m0:=hk.m0
 have lm:=hk.lm
 have H:=Lib.hid h
 have Hk:=Lib.hid hk
 clear h hk
 go_enter Tryz.func15,Tryz.ntmps15
 go_wp2_with fail
 go_loopw [6] (fun v6 wr => ∃ k : Int,f.least ≤ k ∧ k ≤ f.most + 1 ∧ v6 = .int .i64 k ∧ Hid (∀ j,f.least ≤ j → j < k → sizeP f.rows j ≠ lines) ∧ Hid (Below w.heap.size w wr)) (fun v6 _ => (f.most + 1 - intOf v6).toNat)
 case atStart => exact ⟨f.least,Int.le_refl _,by omega,rfl,Lib.hid (fun j h1 h2 => by omega),Lib.hid (Below.refl _ _)⟩
 case round =>
  obtain ⟨k,k1,k2,rfl,hno,hb⟩:=hrel
  have hm:=H.out.below hb.out
  have c6:=hm.cells.2.2.2.2.2.2.1
  by_cases hle : k ≤ f.most
  ·have d1 : decide (k ≤ f.most) = true:=decide_eq_true hle
   have Hl:=Lib.hid (hm.linesC Hk.out hi k (by omega) (by omega))
   have hw1 : IntKind.i64.wrap (k + 1) = k + 1:=IntWalk.i64_in _ (by omega)
   clear hm
   by_cases hs : sizeP f.rows k = lines
   ·have e1 : (sizeP f.rows k == lines) = true:=by simpa using hs
    have HF : Hid (FitR f.rows f.least f.most lines k true):=Lib.hid (.inl ⟨rfl,k1,hle,hs,hno.out⟩)
    clear hs
    generalize sizeP f.rows k = S at Hl e1
    go_wp2_with fail
    refine Hl.out.mono ?_
    rintro e w3 ⟨rfl,hb3⟩
    have Hb3:=Lib.hid (hb.out.trans (hb3.mono hb.out.size))
    clear hb3
    go_wp2_with fail
    go_ret2
    exact ⟨k,true,rfl,HF.out,Hb3.out⟩
   ·have e1 : (sizeP f.rows k == lines) = false:=by simpa using hs
    have HN : Hid (∀ j,f.least ≤ j → j < k + 1 → sizeP f.rows j ≠ lines):=Lib.hid (fun j h1 h2 => by
     by_cases e : j = k
     ·subst e; exact hs
     ·exact hno.out j h1 (by omega))
    clear hs
    generalize sizeP f.rows k = S at Hl e1
    go_wp2_with fail
    refine Hl.out.mono ?_
    rintro e w3 ⟨rfl,hb3⟩
    have Hb3:=Lib.hid (hb.out.trans (hb3.mono hb.out.size))
    clear hb3
    go_wp2_with fail
    go_roundw
    case rel => exact ⟨k + 1,by omega,by omega,rfl,HN,Hb3⟩
    case measure => simp [intOf]; omega
  ·have d1 : decide (k ≤ f.most) = false:=decide_eq_false hle
   have HF : Hid (FitR f.rows f.least f.most lines 0 false):=Lib.hid (.inr ⟨rfl,rfl,fun j h1 h2 => hno.out j h1 (by omega)⟩)
   clear hm
   go_wp2_with fail
   go_ret2
   exact ⟨0,false,rfl,HF.out,hb.out⟩
/-- what the law asks of the answer -/
theorem FitR.hit {rows : List Rw} {least most lines n k : Int} {ok : Bool} (h : FitR rows least most lines n ok) (h1 : least ≤ k) (h2 : k ≤ most) (hs : sizeP rows k = lines) (hno : ∀ j,least ≤ j → j < k → sizeP rows j ≠ lines) : ok = true ∧ n = k:=by
 rcases h with ⟨e,a1,a2,a3,a4⟩ | ⟨_,_,a⟩
 ·refine ⟨e,?_⟩
  rcases Int.lt_trichotomy n k with h | h | h
  ·exact absurd a3 (hno n a1 h)
  ·exact h
  ·exact absurd hs (a4 k h1 h)
 ·exact absurd hs (a k h1 h2)
theorem FitR.miss {rows : List Rw} {least most lines n : Int} {ok : Bool} (h : FitR rows least most lines n ok) (hno : ∀ j,least ≤ j → j < most + 1 → sizeP rows j ≠ lines) : ok = false ∧ n = 0:=by
 rcases h with ⟨e,a1,a2,a3,a4⟩ | ⟨e,e2,_⟩
 ·exact absurd a3 (hno n a1 (by omega))
 ·exact ⟨e,e2⟩
set_option maxRecDepth 100000 in
set_option maxHeartbeats 2000000 in
theorem fits_any (s : ByteArray) (lines : Int) (w : World) (hv : Vars w) (hm : MaxV w) (hs : s.size ≤ 4611686018427387904) :
  Calls Tryz.prog 3 #[.string s, .int .i64 lines] w fun e w' => e = .returned (.bool true) ∧ Below w.heap.size w w':=by
 have Hw:=Lib.hid (wakes_any w hv hm)
 have Hv:=Lib.hid hv
 have h9:=hv.six
 clear hv hm
 by_cases hlong : 8000 < s.size
 ·have Hl:=Lib.hid (fun W => long_any s W hs)
  have d1 : decide (8000 < s.size) = true:=decide_eq_true hlong
  rw [d1] at Hl
  clear d1
  go_enter Tryz.func3,Tryz.ntmps3
  go_wp2_with fail
  refine Hw.out.mono ?_
  rintro e w2 ⟨rfl,hb2⟩
  have Hb2:=Lib.hid hb2
  clear hb2
  go_wp2_with fail
  refine (Hl.out _).mono ?_
  rintro e w3 ⟨rfl,rfl⟩
  go_wp2_with fail
  go_ret
  exact ⟨rfl,Hb2.out⟩
 ·have Hl:=Lib.hid (fun W => long_any s W hs)
  have d1 : decide (8000 < s.size) = false:=decide_eq_false hlong
  rw [d1] at Hl
  clear d1
  go_enter Tryz.func3,Tryz.ntmps3
  go_wp2_with fail
  refine Hw.out.mono ?_
  rintro e w2 ⟨rfl,hb2⟩
  have Hb2:=Lib.hid hb2
  have Hrd:=Lib.hid (readL_any s w2 (Vars.below Hv.out hb2 h9) hs)
  clear hb2
  go_wp2_with fail
  refine (Hl.out _).mono ?_
  rintro e w3 ⟨rfl,rfl⟩
  go_wp2_with fail
  refine Hrd.out.mono ?_
  rintro e w4 ⟨hb4,hr4⟩
  have Hb4 : Hid (Below w.heap.size w w4):=Lib.hid (Hb2.out.trans (hb4.mono Hb2.out.size))
  clear hb4
  cases hf : formP s with
  | error cp =>
   rw [hf] at hr4
   subst hr4
   have hagg : RF0.agg = .agg #[.string ⟨#[]⟩, .slice none 0 0, .slice none 0 0, .slice none 0 0, .bool false, .int .i64 0, .int .i64 0, .int .i64 0]:=rfl
   rw [hagg]
   have Hfin : Hid (∀ o,Below w.heap.size w (w4.alloc o)):=Lib.hid (fun o => Hb4.out.alloc Hb4.out.size o)
   clear hf hagg
   go_wp2_with fail
   go_ret
   exact ⟨rfl,Hfin.out _⟩
  | ok f =>
   rw [hf] at hr4
   obtain ⟨fb,vl,vm,vs,F,rfl,hm4,hk4,hf4⟩:=hr4
   obtain ⟨Al,cl,hvl⟩:=own_slice hf4.l
   obtain ⟨cs,hcs⟩:=hf4.m
   obtain ⟨Am,cm,hvm⟩:=own_slice hcs.o
   obtain ⟨Ar,cr,hvr⟩:=hf4.len
   have hagg : RF.agg F = .agg #[.string ⟨f.name.toArray⟩, .slice Al f.letters.length cl, .slice Am f.metres.length cm, .slice Ar f.rows.length cr, .bool F.rd, .int .i64 f.least, .int .i64 f.most, .int .i64 f.shift]:=by unfold RF.agg; rw [hf4.nm,hvl,hvm,hvr,hf4.a,hf4.b,hf4.c]
   rw [hagg]
   have Hk4:=Lib.hid hk4
   have hm5:=fun o => hm4.below ((Below.refl w4.heap.size w4).alloc (Nat.le_refl _) o)
   have Hfit:=Lib.hid (fun o => fit_any w2.heap.size fb f vl vm vs s.size lines _ (hm5 o) hk4 (by omega))
   have hx5 : ∀ cs : Array Value,(w4.alloc (.cells cs 29)).heap[w4.heap.size]? = some (.cells cs 29 (0,0)):=fun cs => World.alloc_heap_new w4 _
   have hf5:=fun o => hf4.below ((Below.refl w4.heap.size w4).alloc (Nat.le_refl _) o)
   have Hx5:=Lib.hid hx5
   have Hf5:=Lib.hid hf5
   have Hv7:=Lib.hid (show F.nm = .string ⟨f.name.toArray⟩ ∧ F.vl = .slice Al f.letters.length cl ∧ F.vm = .slice Am f.metres.length cm ∧ F.vr = .slice Ar f.rows.length cr from ⟨hf4.nm,hvl,hvm,hvr⟩)
   have Hb5 : Hid (∀ o,Below w.heap.size w (w4.alloc o)):=Lib.hid (fun o => Hb4.out.alloc Hb4.out.size o)
   clear hf hagg hm4 hk4 hf4 hm5 hx5 hf5 hcs hvl hvm hvr
   go_wp2_with fail
   refine (Hfit.out _).mono ?_
   rintro e w6 ⟨n,ok,rfl,hfr,hb6⟩
   have hx6:=(hb6.block w4.heap.size (by simp)).trans (Hx5.out _)
   have hf6:=(Hf5.out _).below hb6
   have hbw6 : Below w.heap.size w w6:=(Hb5.out _).trans (hb6.mono (Hb5.out _).size)
   have Hx6:=Lib.hid hx6
   have Hf6:=Lib.hid hf6
   have Hbw6:=Lib.hid hbw6
   have Hfr:=Lib.hid hfr
   have v5 : w6.cell? ⟨w4.heap.size,5,none⟩ = some (.int .i64 f.least):=cell_of_row _ _ 5 _ _ (0,0) hx6
   clear hx6 hf6 hbw6 hfr hb6 Hx5 Hf5 Hb5 Hfit
   obtain ⟨pb,hpb⟩ : ∃ pb : Nat,w4.heap.size = pb:=⟨_,rfl⟩
   rw [hpb] at Hx6 v5
   rw [hpb]
   clear hpb
   have l0:=Hk4.out.l0
   have m0:=Hk4.out.m0
   have lm:=Hk4.out.lm
   go_wp2_with fail
   go_loopw [11] (fun v11 wr => ∃ k : Int,f.least ≤ k ∧ k ≤ f.most + 1 ∧ v11 = .int .i64 k ∧ Hid (∀ j,f.least ≤ j → j < k → sizeP f.rows j ≠ lines) ∧ Hid (Below w6.heap.size w6 wr)) (fun v11 _ => (f.most + 1 - intOf v11).toNat)
   case atStart => exact ⟨f.least,Int.le_refl _,by omega,rfl,Lib.hid (fun j h1 h2 => by omega),Lib.hid (Below.refl _ _)⟩
   case round =>
    obtain ⟨k,k1,k2,rfl,hno,hb⟩:=hrel
    have hxr:=(hb.out.block pb (Array.getElem?_eq_some_iff.1 Hx6.out).1).trans Hx6.out
    have hfr6:=Hf6.out.below hb.out
    obtain ⟨vis,hrm⟩:=hfr6.r
    rw [Hv7.out.2.2.2] at hrm
    have u0 : wr.cell? ⟨pb,0,none⟩ = some (.string ⟨f.name.toArray⟩):=cell_of_row _ _ 0 _ _ (0,0) hxr
    have u1 : wr.cell? ⟨pb,1,none⟩ = some (.slice Al f.letters.length cl):=cell_of_row _ _ 1 _ _ (0,0) hxr
    have u2 : wr.cell? ⟨pb,2,none⟩ = some (.slice Am f.metres.length cm):=cell_of_row _ _ 2 _ _ (0,0) hxr
    have u3 : wr.cell? ⟨pb,3,none⟩ = some (.slice Ar f.rows.length cr):=cell_of_row _ _ 3 _ _ (0,0) hxr
    have u4 : wr.cell? ⟨pb,4,none⟩ = some (.bool F.rd):=cell_of_row _ _ 4 _ _ (0,0) hxr
    have u5 : wr.cell? ⟨pb,5,none⟩ = some (.int .i64 f.least):=cell_of_row _ _ 5 _ _ (0,0) hxr
    have u6 : wr.cell? ⟨pb,6,none⟩ = some (.int .i64 f.most):=cell_of_row _ _ 6 _ _ (0,0) hxr
    have u7 : wr.cell? ⟨pb,7,none⟩ = some (.int .i64 f.shift):=cell_of_row _ _ 7 _ _ (0,0) hxr
    have Hbwr : Hid (Below w.heap.size w wr):=Lib.hid (Hbw6.out.trans (hb.out.mono Hbw6.out.size))
    have htot:=Hk4.out.le
    clear hxr hfr6
    by_cases hle : k ≤ f.most
    ·have d1 : decide (k ≤ f.most) = true:=decide_eq_true hle
     have Hsz:=Lib.hid (rsize_any w2.heap.size (.string ⟨f.name.toArray⟩) (.slice Al f.letters.length cl) (.slice Am f.metres.length cm) (.slice Ar f.rows.length cr) F.rd f.least f.most f.shift f.rows vis k wr hrm (by omega) (by omega) (by omega) (by omega))
     have hw1 : IntKind.i64.wrap (k + 1) = k + 1:=IntWalk.i64_in _ (by omega)
     clear hrm
     by_cases hs2 : sizeP f.rows k = lines
     ·have e1 : (sizeP f.rows k == lines) = true:=by simpa using hs2
      obtain ⟨hok,hn⟩:=Hfr.out.hit k1 hle hs2 hno.out
      subst hok
      have e2 : (n == k) = true:=by simpa using hn
      clear hs2 hn
      generalize sizeP f.rows k = S at Hsz e1
      go_wp2_with fail
      refine Hsz.out.mono ?_
      rintro e w7 ⟨rfl,hb7⟩
      have Hb7:=Lib.hid (Hbwr.out.trans (hb7.mono Hbwr.out.size))
      clear hb7
      go_wp2_with fail
      go_ret
      exact ⟨rfl,Hb7.out⟩
     ·have e1 : (sizeP f.rows k == lines) = false:=by simpa using hs2
      have HN : Hid (∀ j,f.least ≤ j → j < k + 1 → sizeP f.rows j ≠ lines):=Lib.hid (fun j h1 h2 => by
       by_cases e : j = k
       ·subst e; exact hs2
       ·exact hno.out j h1 (by omega))
      clear hs2
      generalize sizeP f.rows k = S at Hsz e1
      go_wp2_with fail
      refine Hsz.out.mono ?_
      rintro e w7 ⟨rfl,hb7⟩
      have Hb7:=Lib.hid (hb.out.trans (hb7.mono hb.out.size))
      clear hb7
      go_wp2_with fail
      go_roundw
      case rel => exact ⟨k + 1,by omega,by omega,rfl,HN,Hb7⟩
      case measure => simp [intOf]; omega
    ·have d1 : decide (k ≤ f.most) = false:=decide_eq_false hle
     obtain ⟨hok,hn⟩:=Hfr.out.miss (fun j h1 h2 => hno.out j h1 (by omega))
     subst hok
     subst hn
     clear hrm
     go_wp2_with fail
     go_ret
     exact ⟨rfl,Hbwr.out⟩
end Go.Proofs.YtgklikkddckgbaaGreatDoor.Mo
namespace Go.Proofs.YtgklikkddckgbaaGreatDoor
set_option linter.unusedVariables false
set_option linter.unusedSimpArgs false
open Go Go.RowKit Go.WideShapes Go.ChangeShapes Go.ChangeAt
section
variable {H : Type} {enc : TypeId × Value → H}
/-- the wrap that keeps a condition of its own and the world's shape -/
theorem handed_and_shaped {a : Assume} {C : Checked} {os : Os} {f : FuncId} {fn : Func} {s : ChangeSpec} {conds : List PathCond} {apart fresh handsOn again : Bool} {X : World → Array Value → Prop}
  (hX : ∀ (w w' : World) (args : Array Value),w.heap = w'.heap → X w args → X w' args)
  (own : ownKnob C.prog.godebug = none) (started : os.Started) (noInit : C.prog.inits.idxOf? f = none) (hfn : C.prog.funcs[f]? = some fn)
  (witness : ∃ (w : World) (tape : Tape) (i : Input),w.os = os ∧ (w.forCall tape i).Shaped C.prog ∧ i.vars = [] ∧ Input.okWide C.prog (w.forCall tape i) .any w.heap.size f i ∧
   ((s.pre enc C.prog fn conds apart (w.forCall tape i).memory i.args ∧ X (w.forCall tape i).memory i.args) ∧ sizedMet enc C.prog fn (OpenSpec.ofChange s) apart (w.forCall tape i).memory i.args) ∧ a.holds C.prog (lone (Frame.enter C.prog f i.args .normal) [] (w.forCall tape i)))
  (contract : ∀ (W : World) (base : Nat) (args : Array Value) (ds gs : List (DataW H)) (before : List MemPlace),
   (∀ (j : Nat) t v,fn.params[j]? = some t → args[j]? = some v → Value.okWide C.prog W .any base t v) →
   DataW.Whole enc C.prog fn.params.toList s.vars apart W args.toList ds gs before →
   (DataW.weightsEach C.prog (fn.params.toList ++ s.plain.varTypes C.prog) (ds ++ gs)).all (· ≤ reachBytes) = true → X W args → W.ShapedOpen C.prog →
   Calls C.prog f args W fun e W' => ∃ v,e = .returned v ∧ s.post enc C.prog fn apart fresh handsOn again W args v W') :
  ReturnsInHanded a C os f .any (fun w args => (s.pre enc C.prog fn conds apart w args ∧ X w args) ∧ sizedMet enc C.prog fn (OpenSpec.ofChange s) apart w args) (s.post enc C.prog fn apart fresh handsOn again):=by
 refine returnsInHanded_of_calls own started noInit witness ?_
 intro w tape i _ hsh _ hok hpre _
 obtain ⟨_,_,_,fn',hfn',_,_,_,_,hval⟩:=hok
 obtain rfl : fn' = fn:=Option.some.inj (hfn'.symm.trans hfn)
 obtain ⟨⟨⟨ds,gs,before,hw,_⟩,hx⟩,hz⟩:=hpre
 refine (contract (w.forCall tape i) w.heap.size i.args ds gs before hval (DataW.Whole.of_heap (w':=w.forCall tape i) (by rfl) hw) (hz.weights hw) (hX _ _ _ (by rfl) hx) hsh).mono fun e W' ⟨v,he,hp⟩ => ?_
 subst he
 exact ChangeSpec.post_blind hp
/-- the data are within the reach -/
def Within (P : Program) (t : TypeId) (d : DataW H) : Prop:= ∀ n ∈ d.weights P t,n ≤ reachBytes
end
theorem own : ownKnob Tryz.prog.godebug = none:=by kernel_rfl
def laid7 : List (String × DataW Unit):=Rows.mouldFitsRow.laid
theorem gSyntax : Tryz.prog.globalNamed "strconv.ErrSyntax" = some 7 := by kernel_rfl
theorem gRange : Tryz.prog.globalNamed "strconv.ErrRange" = some 8 := by kernel_rfl
theorem tSyntax : (Tryz.prog.globals[7]?).map (·.type) = some 122:=by kernel_rfl
theorem tRange : (Tryz.prog.globals[8]?).map (·.type) = some 122:=by kernel_rfl
theorem tPow : (Tryz.prog.globals[3]?).map (·.type) = some 237:=by kernel_rfl
theorem star : "*" ++ "errors.errorString" = "*errors.errorString" := by decide
theorem row215 (u : TypeId) (h : Tryz.prog.typeName? 3 u = some "*errors.errorString") : u = 277 :=
 typeName_ptr_named (nm := "errors.errorString") (by rw [star]; kernel_rfl) (by kernel_rfl) (by decide) u (by rw [star]; exact h)
theorem cells217 : Tryz.prog.cellsOf 279 = 1:=by kernel_rfl
theorem cells190 : Tryz.prog.cellsOf 197 = 1:=by kernel_rfl
theorem cells210 : Tryz.prog.cellsOf 237 = 20:=by kernel_rfl
theorem cells9 : Tryz.prog.cellsOf 9 = 1:=by kernel_rfl
theorem pow_data : (Rows.laid_internal_strconv_uint64pow10 : DataW Unit) = Lib.tabData .u64 Lib.pow10Tab:=by rfl
theorem vars_of_laid {W : World} (h : laidMetH Tryz.prog laid7 W) : Vars W:=by
 rw [MakeChecks.laidMetH_plain _ _ _ (by kernel_rfl)] at h
 have h1:=h.tail
 have h2:=h1.tail
 have h3:=h2.tail
 have h4:=h3.tail
 have h5:=h4.tail
 obtain ⟨a2,s2,hv2,_,_,_⟩:=laid_sentinel h4 gRange tRange Tryz.underlying122 row215 Tryz.underlying277 Tryz.underlying279 rfl rfl Tryz.underlying9 cells217 cells9
 obtain ⟨a1,s1,hv1,_,_,_⟩:=laid_sentinel h5 gSyntax tSyntax Tryz.underlying122 row215 Tryz.underlying277 Tryz.underlying279 rfl rfl Tryz.underlying9 cells217 cells9
 rw [show (Rows.laid_internal_strconv_uint64pow10 : DataW Unit) = Lib.tabData .u64 Lib.pow10Tab from pow_data] at h2
 have h6:=Lib.tabIs_of_head globalPow tPow Tryz.underlying237 Tryz.underlying197 cells190 cells210 h2
 have c2 : W.cell? ⟨8,0,none⟩ = some (.iface 277 (.pointer (some a2))):=by simpa using World.var?_cell gRange hv2 0
 have h7 : 9 ≤ W.heap.size:=by
  unfold World.cell? at c2
  split at c2
  ·rename_i hb
   have:=(Array.getElem?_eq_some_iff.1 hb).1
   simp at this
   omega
  ·cases c2
 exact ⟨⟨_,_,by simpa using World.var?_cell gSyntax hv1 0⟩,⟨_,_,c2⟩,h6,h7⟩
theorem max_of_shape {W : World} (h : W.ShapedOpen Tryz.prog) : Mo.MaxV W:=
 cell_of_shapedOpen_int (g:=0) (t:=3) (zero:= #[.int .i64 0]) (k:= .i64) h (of_decide_eq_true (by kernel_rfl)) (by kernel_rfl) rfl (by kernel_rfl) (by kernel_rfl) Tryz.underlying3
section
variable {H : Type} {enc : TypeId × Value → H} {P : Program}
theorem trodAll_stays (hl : laidOutB P = true) {W W' : World} (hb : Below W.heap.size W W') : ∀ {ts : List TypeId} {vs : List Value} {ds : List (DataW H)} {ps : List MemPlace},
  (∀ t ∈ ts,P.readableRec t = true ∧ t < P.types.size) → (∀ x ∈ ps,x.block < W.heap.size) → DataW.TrodAll enc P W 0 (fun _ => true) true ts vs ds ps →
  DataW.TrodAll enc P W' 0 (fun b => decide (b < W.heap.size)) true ts vs ds ps
 | [], [], [],_,_,_,h => h
 | [], [],_ :: _,_,_,_,h => h.elim
 | [],_ :: _,_,_,_,_,h => h.elim
 | _ :: _, [],_,_,_,_,h => h.elim
 | _ :: _,_ :: _, [],_,_,_,h => h.elim
 | t :: ts,v :: vs,d :: ds,ps,hr,hlt,⟨p,q,h1,h2,e⟩ => by
  subst e
  have ht:=hr t List.mem_cons_self
  exact ⟨p,q,Below.trod hl ht.1 ht.2 h1 hb fun x hx => hlt x (List.mem_append_left _ hx),
   trodAll_stays hl hb (fun t' h' => hr t' (List.mem_cons_of_mem _ h')) (fun x hx => hlt x (List.mem_append_right _ hx)) h2,rfl⟩
/-- THE LAST STEP OF A LAW's ROW: it has returned true; nothing that existed has changed. -/
theorem law_post {f : Func} {s : ChangeSpec} {apart : Bool} {W W' : World} {args : Array Value} {ds gs : List (DataW H)} {before : List MemPlace} {tb : TypeId}
  (hl : laidOutB P = true) (hr : ∀ t ∈ f.params.toList,P.readableRec t = true ∧ t < P.types.size) (hres : f.resultTypes = #[tb]) (hbool : P.underlying tb = some .bool) (hvars : s.vars = [])
  (hspec : s.fn H (ds ++ gs) = { results:= [.lit (.bool true)],args:=ds })
  (hW : DataW.Whole enc P f.params.toList s.vars apart W args.toList ds gs before) (hb : Below W.heap.size W W') :
  s.post enc P f apart true false false W args (.bool true) W':=by
 have hlt : ∀ p ∈ before,p.block < W.heap.size:=fun p hp => hW.lt p hp
 have hW':=hW
 obtain ⟨p,q,hA,hV,rfl,hfz,hnd⟩:=hW
 rw [hvars] at hV
 obtain ⟨rfl,rfl⟩:=trodVars_none hV
 refine ⟨ds, [],p ++ [], [],p, [],hW',?_,?_,?_,hb.frame _,fun h => by cases h⟩
 ·rw [hspec,hres]
  exact trodAll_mk1 (shut_bool hbool true)
 ·rw [hspec]
  exact trodAll_stays hl hb hr (fun x hx => hlt x (List.mem_append_left _ hx)) hA
 ·rw [hspec,hvars]
  rfl
end
theorem within_of {t : TypeId} {H : Type} {ts : List TypeId} {ds : List (DataW H)} {d : DataW H} (h : (DataW.weightsEach Tryz.prog ts ds).all (· ≤ reachBytes) = true) (j : Nat) (ht : ts[j]? = some t) (hd : ds[j]? = some d) : Within Tryz.prog t d:=
 fun n hn => by simpa using List.all_eq_true.1 h n (DataW.weights_mem_each ht hd n hn)
theorem read9 : Tryz.prog.readableRec 9 = true ∧ 9 < Tryz.prog.types.size:=⟨by kernel_rfl,of_decide_eq_true (by kernel_rfl)⟩
theorem read3 : Tryz.prog.readableRec 3 = true ∧ 3 < Tryz.prog.types.size:=⟨by kernel_rfl,of_decide_eq_true (by kernel_rfl)⟩
end Go.Proofs.YtgklikkddckgbaaGreatDoor

import Derived.StillTailTactics
import Derived.Test.YtgklikkddckgbaaGreatDoorFAJ
import Derived.Test.YtgklikkddckgbaaGreatDoorFAU
/- Lemmas of the claim. -/
namespace Go.Proofs.YtgklikkddckgbaaGreatDoor
set_option linter.unusedVariables false
set_option linter.unusedSimpArgs false
open Go.RowKit
variable {w w1 w' : World} {base b : Nat} {s : ByteArray} {T cap i : Nat} {m : Met} {ec ep : Int} {vf ve vb : Value} {vs : List Value}
set_option maxRecDepth 100000 in
set_option maxHeartbeats 16000000 in
theorem refends_any (h : RQ w base b s T cap i m ec ep vf ve vb vs) (hs : s.size ≤ 65536) (hv : Vars w) (h6 : 9 ≤ base) (hz : Sized m) :
  Calls Tryz.prog 160 #[.pointer (some ⟨b,0,none⟩)] w (RGz base b s T cap w (endsP ((toks s 0).drop i).length ((toks s 0).drop i) m)):=by
 have H:=Lib.hid h
 have Hz:=Lib.hid hz
 have Hv:=Lib.hid hv
 generalize hR : endsP ((toks s 0).drop i).length ((toks s 0).drop i) m = R
 have HR:=Lib.hid hR
 clear h hz hv hR
 go_enter Tryz.func160,Tryz.ntmps160
 go_wp2_with fail
 go_loopg [] ((toks s 0).drop i).length (fun gg wr => ∃ (j : Nat) (m' : Met) (ve' : Value) (ec' ep' : Int),Hid (((toks s 0).drop j).length ≤ gg) ∧ Hid (endsP gg ((toks s 0).drop j) m' = R) ∧ Hid (Sized m') ∧
  Hid (RQ wr base b s T cap j m' ec' ep' vf ve' vb vs) ∧ Hid (Below base w wr))
 case atStart => exact ⟨i,m,ve,ec,ep,Lib.hid (Nat.le_refl _),HR,Hz,H,Lib.hid (Below.refl _ _)⟩
 case round =>
  obtain ⟨j,m',ve',ec',ep',hgk,hP,hzz,hr,hbr⟩:=hrel
  clear H Hz HR
  have hpos : 0 < ((toks s 0).drop j).length:=by have:=hr.out.hi; rw [List.length_drop]; omega
  obtain ⟨q,rfl⟩ : ∃ q,gk = q + 1:=⟨gk - 1,by have:=hgk.out; omega⟩
  have c0:=hr.out.rr.rb.c0
  have t0:=hr.out.t0
  have t1:=hr.out.t1
  have hNN : 0 < (toks s 0).length - j:=by have:=hr.out.hi; omega
  have hcp : (toks s 0).length - j ≤ cap - j:=by have:=hr.out.caps; omega
  have hbl:=hr.out.bl
  have htz:=(drop_cur hr.out.hi).size
  unfold tokV at c0
  have H1:=Lib.hid (hr.out.below ((Below.refl wr.heap.size wr).alloc (Nat.le_refl _) (.cells #[.int .i64 (hd ((toks s 0).drop j)).1, .string (hd ((toks s 0).drop j)).2] 187)))
  have Hb1 : Hid (Below base w (wr.alloc (.cells #[.int .i64 (hd ((toks s 0).drop j)).1, .string (hd ((toks s 0).drop j)).2] 187))):=Lib.hid (hbr.out.alloc hr.out.bs _)
  have HX : Hid ((wr.alloc (.cells #[.int .i64 (hd ((toks s 0).drop j)).1, .string (hd ((toks s 0).drop j)).2] 187)).heap[wr.heap.size]? = _):=Lib.hid (World.alloc_heap_new wr _)
  have HAd:=Lib.hid (fun h0 => drop_adv (s:=s) (i:=j) hr.out.hi h0)
  have HN2 : Hid ((hd ((toks s 0).drop j)).2.size ≠ 0 → 2 ≤ (toks s 0).length - j):=Lib.hid fun h0 => by have:=cur_two (drop_cur hr.out.hi) h0; simpa using this
  have HZ0 : Hid (∀ (W : World) (e p : Int) (v : Value),RQ W base b s T cap j m' e p vf v vb vs → W.cell? ⟨b,0,none⟩ = some (.slice (some ⟨T,j * 2,none⟩) ((toks s 0).length - j) (cap - j))):=Lib.hid (fun W _ _ _ h => h.rr.rb.c0)
  have Hnx:=Lib.hid fun (W : World) (hq : RQ W base b s T cap j m' ec' ep' vf ve' vb vs) h0 => hq.next h0
  generalize hW1 : wr.alloc (.cells #[.int .i64 (hd ((toks s 0).drop j)).1, .string (hd ((toks s 0).drop j)).2] 187) = W1 at H1 Hb1 HX
  have hxs : wr.heap.size < W1.heap.size:=by rw [← hW1]; simp
  have hbx : b < W1.heap.size:=by rw [← hW1]; simp; omega
  have HW1:=Lib.hid hW1
  clear hW1
  generalize hLL : (toks s 0).drop j = L at *
  have HLL:=Lib.hid hLL
  clear hLL
  generalize htk : hd L = tk at *
  have Htk:=Lib.hid htk
  clear htk
  generalize (toks s 0).length - j = NN at *
  generalize cap - j = C at *
  obtain ⟨p,t⟩:=tk
  simp only [] at t0 t1 HW1 HX HAd HN2 Hnx htz
  have HTx : Hid ((hd L).2 = t):=Lib.hid (by rw [Htk.out])
  go_upto_region 2 with (fail)
  rw [HW1.out]
  have x0 : W1.cell? ⟨wr.heap.size,0,none⟩ = some (.int .i64 p):=cell_of_row _ _ _ _ 187 (0,0) HX.out
  have x1 : W1.cell? ⟨wr.heap.size,1,none⟩ = some (.string t):=cell_of_row _ _ _ _ 187 (0,0) HX.out
  clear t0 t1 c0 HW1
  go_wp2_with fail
  refine (refsigns_any t 1 2 W1 (by omega)).mono ?_
  rintro e w' ⟨rfl,rfl⟩
  cases hsg : signsB t 1 2 with
  | false =>
   have Hw:=Lib.hid (ends_bad (f:=q) (m:=m') (L:=L) (by rw [HTx.out]; exact hsg))
   clear hsg
   have hfl:=fail_any 130 (p,t) H1.out
   unfold tokA at hfl
   simp only [] at hfl
   have Hfl:=Lib.hid hfl
   clear hfl
   go_wp2_with fail
   refine Hfl.out.mono ?_
   rintro e w' ⟨rfl,hr9,hb9⟩
   have HR9:=Lib.hid hr9
   have HB9:=Lib.hid (Hb1.out.grown hb9 H1.out.bs (fun k e => by cases e; exact H1.out.rr.hb))
   clear hr9 hb9
   go_wp2_with fail
   go_ret
   exact RGz.err (hP.out.symm.trans (Hw.out.trans (by rw [Htk.out]))) HB9.out HR9.out
  | true =>
   have Hs1 : Hid (signsB (hd L).2 1 2 = true):=Lib.hid (by rw [HTx.out]; exact hsg)
   have hpt : t.size ≠ 0:=by
    intro e
    unfold signsB at hsg
    rw [e] at hsg
    simp at hsg
   clear hsg
   obtain ⟨A4,cc4,hve,hcc,hiw⟩:=own_ways H1.out.rr.ends
   subst hve
   have e2:=H1.out.rr.rb.c2
   have hel:=hzz.out.ends
   have Hha : Hid (∀ W,Below W1.heap.size W1 W → Calls Tryz.prog 189 #[.slice A4 m'.ends.length cc4, .string t] W fun e w' => e = .returned (.bool (hasW m'.ends t)) ∧ Below W.heap.size W w'):=Lib.hid (fun W hb => refhas_any A4 cc4 m'.ends t W ((hiw.below hb).more hb.size) (by omega))
   clear hiw
   go_wp2_with fail
   go_region_held3 (fun w' => Below W1.heap.size W1 w' ∧ ∀ b o,b < W1.heap.size → w'.cell? ⟨b,o,none⟩ = W1.cell? ⟨b,o,none⟩) (((repeat (apply keepS; assumption)); exact startS)) (first | (go_at_call 189; refine (Hha.out _ (by first | exact startS.1 | exact And.left (by assumption))).mono ?_; rintro e w9 ⟨rfl,hb9⟩))
   rename_i hHeld
   have hS:=hHeld.1
   clear hHeld
   have H2:=Lib.hid (H1.out.below hS)
   have HB2:=Lib.hid (Hb1.out.trans (hS.mono H1.out.bs))
   have Hx2 : Hid (w9.heap[wr.heap.size]? = some (.cells #[.int .i64 p, .string t] 187 (0,0))):=Lib.hid ((hS.block _ hxs).trans HX.out)
   have y0 : w9.cell? ⟨wr.heap.size,0,none⟩ = some (.int .i64 p):=cell_of_row _ _ _ _ 187 (0,0) Hx2.out
   have y1 : w9.cell? ⟨wr.heap.size,1,none⟩ = some (.string t):=cell_of_row _ _ _ _ 187 (0,0) Hx2.out
   have hxs9 : wr.heap.size < w9.heap.size:=(Array.getElem?_eq_some_iff.1 Hx2.out).1
   have hbx9 : b < w9.heap.size:=H2.out.bl
   have e9:=H2.out.rr.rb.c2
   have Hhe : Hid (∀ v,hasW m'.ends t = v → hasW m'.ends (hd L).2 = v):=Lib.hid (fun v h => by rw [HTx.out]; exact h)
   clear hS x0 x1 e2 hxs hbx
   generalize hhw : hasW m'.ends t = hw
   have Hhw:=Lib.hid (Hhe.out _ hhw)
   clear hhw Hhe Hha
   cases hw with
   | true =>
    have Hw:=Lib.hid (ends_again (f:=q) (m:=m') (L:=L) Hs1.out Hhw.out)
    have hfl:=fail_any 132 (p,t) H2.out
    unfold tokA at hfl
    simp only [] at hfl
    have Hfl:=Lib.hid hfl
    clear hfl
    go_wp2_with fail
    refine Hfl.out.mono ?_
    rintro e w' ⟨rfl,hr9,hb9⟩
    have HR9:=Lib.hid hr9
    have HB9:=Lib.hid (HB2.out.grown hb9 H2.out.bs (fun k e => by cases e; exact H2.out.rr.hb))
    clear hr9 hb9
    go_wp2_with fail
    go_ret
    exact RGz.err (hP.out.symm.trans (Hw.out.trans (by rw [Htk.out]))) HB9.out HR9.out
   | false =>
    by_cases h4 : m'.ends.length = 4
    ·have Hw:=Lib.hid (ends_long (f:=q) (m:=m') (L:=L) Hs1.out Hhw.out h4)
     have h4' : (4 : Int) ≤ (m'.ends.length : Int):=by omega
     clear h4
     have hfl:=fail_any 3 (p,t) H2.out
     unfold tokA at hfl
     simp only [] at hfl
     have Hfl:=Lib.hid hfl
     clear hfl
     go_wp2_with fail
     refine Hfl.out.mono ?_
     rintro e w' ⟨rfl,hr9,hb9⟩
     have HR9:=Lib.hid hr9
     have HB9:=Lib.hid (HB2.out.grown hb9 H2.out.bs (fun k e => by cases e; exact H2.out.rr.hb))
     clear hr9 hb9
     go_wp2_with fail
     go_ret
     exact RGz.err (hP.out.symm.trans (Hw.out.trans (by rw [Htk.out]))) HB9.out HR9.out
    ·have Hn4:=Lib.hid h4
     have h4' : ¬ (4 : Int) ≤ (m'.ends.length : Int):=by omega
     have c0:=HZ0.out _ _ _ _ H2.out
     have z0:=H2.out.rr.rb.z 0
     have hN2:=HN2.out hpt
     have hC1 : ¬ C = 1:=by omega
     have H3':=Hnx.out _ H2.out hpt
     have HJ:=Lib.hid (HAd.out hpt).2
     generalize hw3 : w9.setCell ⟨b,0,none⟩ (.slice (some ⟨T,j * 2 + 2,none⟩) (NN - 1) (C - 1)) = w3 at H3'
     have H3:=Lib.hid H3'
     have HB3 : Hid (Below base w w3):=Lib.hid (by rw [← hw3]; exact HB2.out.setCell (p:=⟨b,0,none⟩) H2.out.rr.hb _)
     have Hx3 : Hid (w3.heap[wr.heap.size]? = some (.cells #[.int .i64 p, .string t] 187 (0,0))):=Lib.hid (by rw [← hw3]; exact (Below.heap_setCell _ _ _ _ (by show wr.heap.size ≠ b; omega)).trans Hx2.out)
     have Hw3:=Lib.hid hw3
     clear h4 hw3 H3' HAd HN2
     have hnum:=refnumber_any 0 1048576 H3.out (Hv.out.below HB3.out h6) h6 hs
     have HA3:=Lib.hid (fun h0 => drop_adv (s:=s) (i:=j + 1) H3.out.hi h0)
     rw [HJ.out] at hnum HA3
     have Hps:=Lib.hid (fun h => numE_pos (t:=(hd (adv L)).2) (lo:=0) (hi:=1048576) h)
     have hNe : numE (hd (adv L)).2 0 1048576 = ((numE (hd (adv L)).2 0 1048576).1,(numE (hd (adv L)).2 0 1048576).2):=rfl
     unfold RNumOk at hnum
     generalize (numE (hd (adv L)).2 0 1048576).1 = nn at hnum hNe
     generalize hen : (numE (hd (adv L)).2 0 1048576).2 = en at hnum hNe Hps
     clear hen
     have HNe:=Lib.hid hNe
     have Hnum:=Lib.hid hnum
     clear hNe hnum
     go_upto_region 9 with (fail)
     rw [Hw3.out]
     clear y0 y1 c0 z0 e9 hxs9 hbx9 Hw3
     go_wp2_with fail
     refine Hnum.out.mono ?_
     rintro e w5 ⟨hb5,hr5⟩
     have HB5:=Lib.hid (HB3.out.grown hb5 H3.out.bs (fun k e => by cases e; exact H3.out.rr.hb))
     have Hx5 : Hid (w5.heap[wr.heap.size]? = some (.cells #[.int .i64 p, .string t] 187 (0,0))):=Lib.hid ((hb5.block wr.heap.size (Array.getElem?_eq_some_iff.1 Hx3.out).1 (by simp; omega)).trans Hx3.out)
     clear hb5 Hnum
     by_cases hn0 : en = 0
     ·subst hn0
      simp only [eq_self,if_true] at hr5
      obtain ⟨rfl,hr5⟩:=hr5
      have H5:=Lib.hid hr5
      have HJ2:=Lib.hid (HA3.out (Hps.out rfl)).2
      have Hm9:=Lib.hid (hzz.out.end_ (t,nn) Hn4.out)
      clear hr5 HA3 Hps
      generalize hj2 : j + 1 + 1 = j2 at *
      clear hj2
      have x1 : w5.cell? ⟨wr.heap.size,1,none⟩ = some (.string t):=cell_of_row _ _ _ _ 187 (0,0) Hx5.out
      have hxs5 : wr.heap.size < w5.heap.size:=(Array.getElem?_eq_some_iff.1 Hx5.out).1
      have e4:=H5.out.rr.rb.c2
      have hbl5:=H5.out.bl
      have hbs5:=H5.out.bs
      have hne5:=own_neb H5.out.rr.ends H5.out.rr.rb (by decide)
      have z4:=H5.out.rr.rb.z 2
      have Hzc : Hid (∀ (w4 : World),w5.drew.grownBy w4 (Value.slice A4 m'.ends.length cc4).ownBlock → w4.frozen? ⟨b,2,none⟩ = false ∧ w4.cell? ⟨b,2,none⟩ = some (.slice A4 m'.ends.length cc4)):=Lib.hid fun w4 hg => by
       have e2 : w4.heap[b]? = w5.heap[b]?:=hg.block b hbl5 (fun e => hne5.elim (fun e1 => by rw [← e] at e1; cases e1) (fun e1 => e1 e.symm))
       exact ⟨(World.frozen?_of_block (w:=w5) (w':=w4) (a:=⟨b,2,none⟩) e2).trans z4,(World.cell?_of_block (w:=w5) (w':=w4) (a:=⟨b,2,none⟩) e2).trans e4⟩
      have Hown : Hid (w5.drew.ownsRow base 83 2 (.slice A4 m'.ends.length cc4) m'.ends.length (wayCells m'.ends)):=Lib.hid H5.out.rr.ends
      have H13 : Hid (RQ w5.drew base b s T cap j2 m' ec' ep' vf (.slice A4 m'.ends.length cc4) vb vs):=Lib.hid (H5.out.below (Below.refl _ _).drew)
      have Hend:=Lib.hid fun (w4 : World) (v4 : Value) ho hg hat => H13.out.end_ (w1:=w4) (x:=(t,nn)) (v':=v4) ho hg hat
      have hfb : ∀ k,(Value.slice A4 m'.ends.length cc4).ownBlock = some k → base ≤ k:=fun k hk => (H5.out.rr.ends.lt k hk).1
      have Hbel:=Lib.hid fun (w4 : World) (hg : w5.drew.grownBy w4 (Value.slice A4 m'.ends.length cc4).ownBlock) (v4 : Value) => ((HB5.out.drew).grown hg hbs5 hfb).setCell (show base ≤ b from H5.out.rr.hb) v4 (p:=⟨b,2,none⟩)
      have Hbs5 : Hid (base ≤ w5.drew.heap.size):=Lib.hid hbs5
      have hone : ∀ u ∈ (#[.string t, .int .i64 nn] : Array Value).toList,u.oneCell' = true:=by
       intro u hu; simp at hu; rcases hu with rfl | rfl <;> rfl
      have Hone:=Lib.hid hone
      have Hmx : Hid (m'.ends.length + 1 ≤ maxLen):=Lib.hid (by unfold maxLen; omega)
      have Hby : Hid ((m'.ends.length + 1) * 24 ≤ 140737488355328):=Lib.hid (by omega)
      have Hpos : Hid (0 < m'.ends.length + 1):=Lib.hid (by omega)
      clear hfb hne5 hone
      go_wp2_with fail
      go_region_law (refine step_append_boxg w5.drew (by rfl) (.tmp 63) (.tmp 68) 76 (by rfl) base 83 _ _ 2 24 Tryz.underlying76 info100 zero100 size100 bytes100 rfl (by decide) (.slice A4 m'.ends.length cc4) m'.ends.length (wayCells m'.ends) _ _ (by simp [Act.eval,Act.put]) (by simp [Act.eval,Act.put]; rfl) (by simp) (by exact Hown.out) rfl (by exact Hone.out) Hmx.out Hby.out (by exact Hbs5.out) ?_; intro v1 w4 hown1 hg1 hat1; obtain ⟨g1,cap1,rfl⟩:=own_form hown1 Hpos.out; obtain ⟨hz1,hc3⟩:=Hzc.out _ hg1; have Hfin:=Lib.hid (Hend.out _ _ hown1 hg1 hat1); have Hfin2:=Lib.hid (Hbel.out _ hg1 (.slice (some ⟨g1,0,none⟩) (m'.ends.length + 1) cap1)); clear hown1 hg1 hat1)
      all_goals
       have c0:=Hfin.out.rr.rb.c0
       have z0:=Hfin.out.rr.rb.z 0
       have t1:=Hfin.out.t1
       unfold tokV at c0
       have hN7 : 0 < (toks s 0).length - j2:=by have:=Hfin.out.hi; omega
       have hcp7 : (toks s 0).length - j2 ≤ cap - j2:=by have:=Hfin.out.caps; omega
       have Hcur : Hid (Cur s ((toks s 0).drop j2)):=Lib.hid (drop_cur Hfin.out.hi)
       have HA7:=Lib.hid (fun h0 => drop_adv (s:=s) (i:=j2) Hfin.out.hi h0)
       have HN7 : Hid ((hd ((toks s 0).drop j2)).2.size ≠ 0 → 2 ≤ (toks s 0).length - j2):=Lib.hid fun h0 => by have:=cur_two Hcur.out h0; simpa using this
       have HRx:=Lib.hid fun h0 => Hfin.out.next h0
       rw [HJ2.out] at t1 Hcur HA7 HN7 HRx
       have HBx:=Lib.hid (Hfin2.out.setCell (p:=⟨b,0,none⟩) Hfin.out.rr.hb (.slice (some ⟨T,j2 * 2 + 2,none⟩) ((toks s 0).length - j2 - 1) (cap - j2 - 1)))
       have hq7 : eqS (hd (adv (adv L))).2 COMMA = ((hd (adv (adv L))).2.toList == [44]):=eqS_comma _
       generalize (toks s 0).length - j2 = N7 at *
       generalize cap - j2 = C7 at *
       generalize hw7 : World.setCell w4 ⟨b,2,none⟩ _ = w7 at *
       clear hw7 hz1 hc3
       cases hc : eqS (hd (adv (adv L))).2 COMMA with
       | true =>
        have hne : ((hd (adv (adv L))).2.toList == [44]) = true:=by rw [← hq7,hc]
        have hne2 : ((hd (adv (adv L))).2.toList != [44]) = false:=by simp only [bne,hne]; rfl
        have hz7 : (hd (adv (adv L))).2.size ≠ 0:=fun e => by rw [list_nil e] at hne; cases hne
        have Hw:=Lib.hid (ends_more (f:=q) (m:=m') (L:=L) Hs1.out Hhw.out Hn4.out HNe.out hc)
        have Hlt:=Lib.hid (comma_lt Hcur.out hc)
        have hN2:=HN7.out hz7
        have HR8:=Lib.hid (HRx.out hz7)
        have HJ3:=Lib.hid (HA7.out hz7).2
        have hC1 : ¬ C7 = 1:=by omega
        clear hc hq7 hz7 HRx HA7 HN7
        go_wp2_with fail
        go_roundg q
        case measure => omega
        case rel => exact ⟨j2 + 1,_,_,ec',ep',Lib.hid (by rw [HJ3.out]; have:=hgk.out; have:=Hlt.out; have:=adv_len L; have:=adv_len (adv L); omega),Lib.hid (by rw [HJ3.out]; have:=Hw.out.symm.trans hP.out; rw [HTx.out] at this; exact this),Hm9,HR8,HBx⟩
       | false =>
        have hne : ((hd (adv (adv L))).2.toList == [44]) = false:=by rw [← hq7,hc]
        have hne2 : ((hd (adv (adv L))).2.toList != [44]) = true:=by simp only [bne,hne]; rfl
        have Hw:=Lib.hid (ends_done (f:=q) (m:=m') (L:=L) Hs1.out Hhw.out Hn4.out HNe.out hc)
        clear hc hq7
        go_wp2_with fail
        go_ret
        exact RGz.good (by have:=hP.out.symm.trans Hw.out; rw [HTx.out] at this; exact this) HJ2.out Hfin2.out Hfin.out Hm9.out
     ·have Hw:=Lib.hid (ends_num (f:=q) (m:=m') (L:=L) Hs1.out Hhw.out Hn4.out (by rw [HNe.out]) hn0)
      rw [if_neg hn0] at hr5
      obtain ⟨rfl,hr5⟩:=hr5
      have HR9:=Lib.hid hr5
      have HB9:=HB5
      clear hr5
      go_wp2_with fail
      go_ret
      exact RGz.err (hP.out.symm.trans Hw.out) HB9.out HR9.out
end Go.Proofs.YtgklikkddckgbaaGreatDoor
namespace Go.Proofs.YtgklikkddckgbaaGreatDoor
set_option linter.unusedVariables false
set_option linter.unusedSimpArgs false
open Go.RowKit
variable {w w1 w' : World} {base b : Nat} {s : ByteArray} {T cap i : Nat} {m : Met} {ec ep : Int} {vf ve vb : Value} {vs : List Value}
theorem RGz.val {r : Res} {e : Ending} (h : RGz base b s T cap w r e w') : ∃ v : Bool,e = .returned (.bool v):=by
 obtain ⟨⟨_,h⟩,_⟩:=h
 cases r with
 | error x => exact ⟨_,h.1⟩
 | ok x => exact ⟨_,h.1⟩
theorem RGz.later {w0 : World} {r : Res} {e : Ending} (hb : Below base w0 w) (h : RGz base b s T cap w r e w') : RGz base b s T cap w0 r e w':=⟨⟨hb.trans h.1.1,h.1.2⟩,h.2⟩
theorem cl_any {L : List Tok} (h : eqS (hd L).2 ANY = true) : clauseP L m = waysP (adv L).length (adv L) m 0 m.feet.length true:=by unfold clauseP; rw [h,if_pos rfl]
theorem cl_end {L : List Tok} (h0 : eqS (hd L).2 ANY = false) (h : eqS (hd L).2 END = true) : clauseP L m = endsP (adv L).length (adv L) m:=by unfold clauseP; rw [h0,h]; rfl
theorem cl_break {L : List Tok} (h0 : eqS (hd L).2 ANY = false) (h1 : eqS (hd L).2 END = false) (h : eqS (hd L).2 BREAK = true) : clauseP L m = pauseP (adv L) m:=by unfold clauseP; rw [h0,h1,h]; rfl
theorem cl_fig {L : List Tok} {n : Int} (h0 : eqS (hd L).2 ANY = false) (h1 : eqS (hd L).2 END = false) (h2 : eqS (hd L).2 BREAK = false) (h : figB (hd L).2 = true) (hn : numE (hd L).2 1 m.feet.length = (n,0)) : clauseP L m = waysP (adv L).length (adv L) m (n.toNat - 1) 1 false:=by
 unfold clauseP; rw [h0,h1,h2,h,hn]; rfl
theorem cl_num {L : List Tok} {n er : Int} (h0 : eqS (hd L).2 ANY = false) (h1 : eqS (hd L).2 END = false) (h2 : eqS (hd L).2 BREAK = false) (h : figB (hd L).2 = true) (hn : numE (hd L).2 1 m.feet.length = (n,er)) (he : er ≠ 0) : clauseP L m = .error (er,(hd L).1):=by
 unfold clauseP; rw [h0,h1,h2,h,hn]; simp [he]
theorem cl_no {L : List Tok} (h0 : eqS (hd L).2 ANY = false) (h1 : eqS (hd L).2 END = false) (h2 : eqS (hd L).2 BREAK = false) (h : figB (hd L).2 = false) : clauseP L m = .error (130,(hd L).1):=by
 unfold clauseP; rw [h0,h1,h2,h]; rfl
theorem ahead_last {m : Met} (h : 0 < m.brks.length) : aheadOf m = (m.brks.getD (m.brks.length - 1) default).1:=by
 unfold aheadOf
 rw [List.getLast?_eq_getElem?,List.getElem?_eq_getElem (by omega)]
 simp [List.getD_eq_getElem?_getD,List.getElem?_eq_getElem (show m.brks.length - 1 < m.brks.length by omega)]
theorem ahead_nil {m : Met} (h : m.brks.length = 0) : aheadOf m = 0:=by
 unfold aheadOf; rw [List.eq_nil_of_length_eq_zero h]; rfl
set_option maxRecDepth 100000 in
set_option maxHeartbeats 16000000 in
theorem refclause_any (h : RQ w base b s T cap i m ec ep vf ve vb vs) (hs : s.size ≤ 65536) (hv : Vars w) (h6 : 9 ≤ base) (hz : Sized m) (hf0 : 0 < m.feet.length) :
  Calls Tryz.prog 127 #[.pointer (some ⟨b,0,none⟩)] w (RGz base b s T cap w (clauseP ((toks s 0).drop i) m)):=by
 have Hz:=Lib.hid hz
 have hlen0 : m.feet.length ≤ 16:=hz.feet
 have c0:=h.rr.rb.c0
 have t0:=h.t0
 have t1:=h.t1
 have hNN : 0 < (toks s 0).length - i:=by have:=h.hi; omega
 have hcp : (toks s 0).length - i ≤ cap - i:=by have:=h.caps; omega
 have hbl:=h.bl
 have htz:=(drop_cur h.hi).size
 unfold tokV at c0
 have H1:=Lib.hid (h.below ((Below.refl w.heap.size w).alloc (Nat.le_refl _) (.cells #[.int .i64 (hd ((toks s 0).drop i)).1, .string (hd ((toks s 0).drop i)).2] 187)))
 have Hb1 : Hid (Below base w (w.alloc (.cells #[.int .i64 (hd ((toks s 0).drop i)).1, .string (hd ((toks s 0).drop i)).2] 187))):=Lib.hid ((Below.refl base w).alloc h.bs _)
 have HX : Hid ((w.alloc (.cells #[.int .i64 (hd ((toks s 0).drop i)).1, .string (hd ((toks s 0).drop i)).2] 187)).heap[w.heap.size]? = _):=Lib.hid (World.alloc_heap_new w _)
 have Hv:=Lib.hid hv
 have HAd:=Lib.hid (fun h0 => drop_adv (s:=s) (i:=i) h.hi h0)
 have HN2 : Hid ((hd ((toks s 0).drop i)).2.size ≠ 0 → 2 ≤ (toks s 0).length - i):=Lib.hid fun h0 => by have:=cur_two (drop_cur h.hi) h0; simpa using this
 have HZ0 : Hid (∀ (W : World),RQ W base b s T cap i m ec ep vf ve vb vs → W.cell? ⟨b,0,none⟩ = some (.slice (some ⟨T,i * 2,none⟩) ((toks s 0).length - i) (cap - i))):=Lib.hid (fun W h => h.rr.rb.c0)
 have Hnx:=Lib.hid fun (W : World) (hq : RQ W base b s T cap i m ec ep vf ve vb vs) h0 => hq.next h0
 obtain ⟨g,cp,hvf⟩:=own_form h.rr.feet hf0
 subst hvf
 clear h hz hv
 generalize hW1 : w.alloc (.cells #[.int .i64 (hd ((toks s 0).drop i)).1, .string (hd ((toks s 0).drop i)).2] 187) = W1 at H1 Hb1 HX
 have hxs : w.heap.size < W1.heap.size:=by rw [← hW1]; simp
 have hbx : b < W1.heap.size:=by rw [← hW1]; simp; omega
 have HW1:=Lib.hid hW1
 clear hW1
 have hnumF:=refnumber_any 1 m.feet.length H1.out (Hv.out.below Hb1.out h6) h6 hs
 generalize hLL : (toks s 0).drop i = L at *
 have HLL:=Lib.hid hLL
 clear hLL
 generalize htk : hd L = tk at *
 have Htk:=Lib.hid htk
 clear htk
 generalize (toks s 0).length - i = NN at *
 generalize cap - i = C at *
 obtain ⟨p,t⟩:=tk
 simp only [] at t0 t1 HW1 HX HAd HN2 Hnx htz
 have HTx : Hid ((hd L).2 = t):=Lib.hid (by rw [Htk.out])
 have HnumF:=Lib.hid hnumF
 clear hnumF
 go_enter Tryz.func127,Tryz.ntmps127
 go_upto_region 2 with (fail)
 rw [HW1.out]
 have x0 : W1.cell? ⟨w.heap.size,0,none⟩ = some (.int .i64 p):=cell_of_row _ _ _ _ 187 (0,0) HX.out
 have x1 : W1.cell? ⟨w.heap.size,1,none⟩ = some (.string t):=cell_of_row _ _ _ _ 187 (0,0) HX.out
 clear t0 t1 c0 HW1
 have c0:=HZ0.out _ H1.out
 have z0:=H1.out.rr.rb.z 0
 have hqa : eqS t ANY = (t.toList == [97,110,121]):=eqS_any t
 have hqe : eqS t END = (t.toList == [101,110,100]):=eqS_end t
 have hqb : eqS t BREAK = (t.toList == [98,114,101,97,107]):=eqS_break t
 cases ha : eqS t ANY with
 | true =>
  have hne1 : (t.toList == [97,110,121]) = true:=by rw [← hqa,ha]
  have hne2 : True:=trivial
  have hpt : t.size ≠ 0:=fun e => by rw [list_nil e] at hne1; cases hne1
  have Hcl:=Lib.hid (cl_any (m:=m) (L:=L) (by rw [HTx.out]; exact ha))
  clear ha hqa hqe hqb HnumF
  have hN2:=HN2.out hpt
  have hC1 : ¬ C = 1:=by omega
  have H3':=Hnx.out _ H1.out hpt
  have HJ:=Lib.hid (HAd.out hpt).2
  generalize hw3 : W1.setCell ⟨b,0,none⟩ (.slice (some ⟨T,i * 2 + 2,none⟩) (NN - 1) (C - 1)) = w3 at H3'
  have H3:=Lib.hid H3'
  have HB3 : Hid (Below base w w3):=Lib.hid (by rw [← hw3]; exact Hb1.out.setCell (p:=⟨b,0,none⟩) H1.out.rr.hb _)
  have Hw3:=Lib.hid hw3
  clear hw3 H3' HAd HN2
  go_upto_region 4 with (fail)
  rw [Hw3.out]
  clear x0 x1 c0 z0 Hw3 hne1 hne2
  have hw:=refways_any H3.out hs (Hv.out.below HB3.out h6) h6 Hz.out 0 m.feet.length m.feet.length (by omega) (Nat.le_refl _) true
  rw [HJ.out, ← Hcl.out] at hw
  have c1:=H3.out.rr.rb.c1
  clear hpt
  have Hw:=Lib.hid hw
  clear hw
  go_wp2_with fail
  refine Hw.out.mono ?_
  rintro e w4 hr
  obtain ⟨v4,rfl⟩:=hr.val
  have HR:=Lib.hid (RGz.later HB3.out hr)
  clear hr
  go_wp2_with fail
  go_ret
  exact HR.out
 | false =>
  have hne1 : (t.toList == [97,110,121]) = false:=by rw [← hqa,ha]
  have Ha : Hid (eqS (hd L).2 ANY = false):=Lib.hid (by rw [HTx.out]; exact ha)
  clear ha hqa
  cases he : eqS t END with
  | true =>
   have hne2 : (t.toList == [101,110,100]) = true:=by rw [← hqe,he]
   have hpt : t.size ≠ 0:=fun e => by rw [list_nil e] at hne2; cases hne2
   have Hcl:=Lib.hid (cl_end (m:=m) (L:=L) Ha.out (by rw [HTx.out]; exact he))
   clear he hqe hqb HnumF
   have hN2:=HN2.out hpt
   have hC1 : ¬ C = 1:=by omega
   have H3':=Hnx.out _ H1.out hpt
   have HJ:=Lib.hid (HAd.out hpt).2
   generalize hw3 : W1.setCell ⟨b,0,none⟩ (.slice (some ⟨T,i * 2 + 2,none⟩) (NN - 1) (C - 1)) = w3 at H3'
   have H3:=Lib.hid H3'
   have HB3 : Hid (Below base w w3):=Lib.hid (by rw [← hw3]; exact Hb1.out.setCell (p:=⟨b,0,none⟩) H1.out.rr.hb _)
   have Hw3:=Lib.hid hw3
   clear hw3 H3' HAd HN2
   go_upto_region 7 with (fail)
   rw [Hw3.out]
   clear x0 x1 c0 z0 Hw3
   have hw:=refends_any H3.out hs (Hv.out.below HB3.out h6) h6 Hz.out
   rw [HJ.out, ← Hcl.out] at hw
   clear hpt
   have Hw:=Lib.hid hw
   clear hw
   go_wp2_with fail
   refine Hw.out.mono ?_
   rintro e w4 hr
   obtain ⟨v4,rfl⟩:=hr.val
   have HR:=Lib.hid (RGz.later HB3.out hr)
   clear hr
   go_wp2_with fail
   go_ret
   exact HR.out
  | false =>
   have hne2 : (t.toList == [101,110,100]) = false:=by rw [← hqe,he]
   have He : Hid (eqS (hd L).2 END = false):=Lib.hid (by rw [HTx.out]; exact he)
   clear he hqe
   cases hbk : eqS t BREAK with
   | true =>
    have hne3 : (t.toList == [98,114,101,97,107]) = true:=by rw [← hqb,hbk]
    have hpt : t.size ≠ 0:=fun e => by rw [list_nil e] at hne3; cases hne3
    have Hcl:=Lib.hid (cl_break (m:=m) (L:=L) Ha.out He.out (by rw [HTx.out]; exact hbk))
    clear hbk hqb HnumF
    have hN2:=HN2.out hpt
    have hC1 : ¬ C = 1:=by omega
    have H3':=Hnx.out _ H1.out hpt
    have HJ:=Lib.hid (HAd.out hpt).2
    generalize hw3 : W1.setCell ⟨b,0,none⟩ (.slice (some ⟨T,i * 2 + 2,none⟩) (NN - 1) (C - 1)) = w3 at H3'
    have H3:=Lib.hid H3'
    have HB3 : Hid (Below base w w3):=Lib.hid (by rw [← hw3]; exact Hb1.out.setCell (p:=⟨b,0,none⟩) H1.out.rr.hb _)
    have Hw3:=Lib.hid hw3
    clear hw3 H3' HAd HN2
    go_upto_region 10 with (fail)
    rw [Hw3.out]
    clear x0 x1 c0 z0 Hw3
    clear hpt hne1 hne2 hne3
    have c1:=H3.out.rr.rb.c1
    have c3:=H3.out.rr.rb.c3
    obtain ⟨A5,cc5,hvb⟩:=own_slice H3.out.rr.brks
    subst hvb
    have hbrk:=Hz.out.brk
    have hlenb : m.brks.length ≤ 16:=by omega
    have ha0 : (0 : Int) ≤ aheadOf m:=by omega
    have HbrL:=Lib.hid (fun h => ahead_last (m:=m) h)
    have HbrN:=Lib.hid (fun h => ahead_nil (m:=m) h)
    have HbrC:=Lib.hid (fun (g5 cc : Nat) (hv : Value.slice A5 m.brks.length cc5 = .slice (some ⟨g5,0,none⟩) m.brks.length cc) (hp : 0 < m.brks.length) => (show w3.cell? ⟨g5,(m.brks.length - 1) * 2,none⟩ = some (.int .i64 (m.brks.getD (m.brks.length - 1) default).1) by
     have hb:=H3.out.rr.brks
     rw [hv] at hb
     rw [hb.cellAt ((m.brks.length - 1) * 2) (by omega)]
     exact (brkCells_get m.brks (m.brks.length - 1) (by omega)).1))
    have Hof:=Lib.hid (fun h => own_form H3.out.rr.brks h)
    go_upto_if 70 with (fail)
    go_cut [4] from 69 to 81 (fun v4 wz => v4 = .int .i64 (aheadOf m + 1) ∧ wz = w3)
    case first =>
     by_cases hp : 0 < m.brks.length
     ·obtain ⟨g5,cc,hv⟩:=Hof.out hp
      have hcell:=HbrC.out g5 cc hv hp
      rw [← HbrL.out hp] at hcell
      have hA : A5 = some ⟨g5,0,none⟩:=by injection hv
      subst hA
      have hp2 : (0 : Int) < (m.brks.length : Int):=by omega
      have q1 : (0 : Int) ≤ (m.brks.length : Int) - 1:=by omega
      have q2 : (m.brks.length : Int) - 1 < (m.brks.length : Int):=by omega
      have q3 : ((m.brks.length : Int) - 1).toNat = m.brks.length - 1:=by omega
      generalize aheadOf m = ah at *
      clear hv
      go_wp2_with fail
      go_meet
      exact ⟨rfl,rfl⟩
     ·have hz0 : m.brks.length = 0:=by omega
      have hah:=HbrN.out hz0
      have hp2 : ¬ (0 : Int) < (m.brks.length : Int):=by omega
      have HA0:=Lib.hid hah
      clear hah hz0
      go_wp2_with fail
      go_meet
      exact ⟨by rw [HA0.out]; rfl,rfl⟩
    case rest =>
    obtain ⟨rfl,hwz⟩:=hcut
    have hwz2:=hwz.symm
    clear hwz
    subst hwz2
    have hnum:=refnumber_any (aheadOf m + 1) (m.feet.length - 1) H3.out (Hv.out.below HB3.out h6) h6 hs
    have HA3:=Lib.hid (fun h0 => drop_adv (s:=s) (i:=i + 1) H3.out.hi h0)
    rw [HJ.out] at hnum HA3
    have Hps:=Lib.hid (fun h => numE_pos (t:=(hd (adv L)).2) (lo:=aheadOf m + 1) (hi:=m.feet.length - 1) h)
    have Hin:=Lib.hid (fun h => numE_in (t:=(hd (adv L)).2) (lo:=aheadOf m + 1) (hi:=m.feet.length - 1) h)
    have hNe : numE (hd (adv L)).2 (aheadOf m + 1) (m.feet.length - 1) = ((numE (hd (adv L)).2 (aheadOf m + 1) (m.feet.length - 1)).1,(numE (hd (adv L)).2 (aheadOf m + 1) (m.feet.length - 1)).2):=rfl
    unfold RNumOk at hnum
    generalize (numE (hd (adv L)).2 (aheadOf m + 1) (m.feet.length - 1)).1 = nn at hnum hNe Hin
    generalize hen : (numE (hd (adv L)).2 (aheadOf m + 1) (m.feet.length - 1)).2 = en at hnum hNe Hps Hin
    clear hen
    have HNe:=Lib.hid hNe
    have Hnum:=Lib.hid hnum
    have Ha1 : Hid (aheadOf m ≤ 16):=Lib.hid hbrk.2
    clear hNe hnum HbrL HbrN HbrC Hof hbrk
    go_wp2_with fail
    refine Hnum.out.mono ?_
    rintro e w5 ⟨hb5,hr5⟩
    have HB5:=Lib.hid (HB3.out.grown hb5 H3.out.bs (fun k e => by cases e; exact H3.out.rr.hb))
    clear hb5 Hnum
    by_cases hn0 : en = 0
    ·subst hn0
     simp only [eq_self,if_true] at hr5
     obtain ⟨rfl,hr5⟩:=hr5
     have H5:=Lib.hid hr5
     have HJ2:=Lib.hid (HA3.out (Hps.out rfl)).2
     have Hi2:=Lib.hid (Hin.out rfl)
     clear hr5 HA3 Hps Hin c1 c3
     have hnum:=refnumber_any 1 1048576 H5.out (Hv.out.below HB5.out h6) h6 hs
     have HA5:=Lib.hid (fun h0 => drop_adv (s:=s) (i:=i + 1 + 1) H5.out.hi h0)
     rw [HJ2.out] at hnum HA5
     have Hps:=Lib.hid (fun h => numE_pos (t:=(hd (adv (adv L))).2) (lo:=1) (hi:=1048576) h)
     have hNe2 : numE (hd (adv (adv L))).2 1 1048576 = ((numE (hd (adv (adv L))).2 1 1048576).1,(numE (hd (adv (adv L))).2 1 1048576).2):=rfl
     unfold RNumOk at hnum
     generalize (numE (hd (adv (adv L))).2 1 1048576).1 = n2 at hnum hNe2
     generalize hen : (numE (hd (adv (adv L))).2 1 1048576).2 = en at hnum hNe2 Hps
     clear hen
     have HNe2:=Lib.hid hNe2
     have Hnum:=Lib.hid hnum
     clear hNe2 hnum
     go_wp2_with fail
     refine Hnum.out.mono ?_
     rintro e w6 ⟨hb6,hr6⟩
     have HB6:=Lib.hid (HB5.out.grown hb6 H5.out.bs (fun k e => by cases e; exact H5.out.rr.hb))
     clear hb6 Hnum
     by_cases hn2 : en = 0
     ·subst hn2
      simp only [eq_self,if_true] at hr6
      obtain ⟨rfl,hr6⟩:=hr6
      have H6:=Lib.hid hr6
      have HJ3:=Lib.hid (HA5.out (Hps.out rfl)).2
      have Hm9:=Lib.hid (Hz.out.brk_ (nn,n2) Hi2.out.1 (by have:=Hi2.out.2; omega))
      have Hpk:=Lib.hid (Hcl.out.trans (pause_ok HNe.out HNe2.out))
      clear hr6 HA5 Hps
      have e5:=H6.out.rr.rb.c3
      have z5:=H6.out.rr.rb.z 3
      have hbl6:=H6.out.bl
      have hbs6:=H6.out.bs
      have hne6:=own_neb H6.out.rr.brks H6.out.rr.rb (by decide)
      have Hzc : Hid (∀ (w4 : World),w6.grownBy w4 (Value.slice A5 m.brks.length cc5).ownBlock → w4.frozen? ⟨b,3,none⟩ = false ∧ w4.cell? ⟨b,3,none⟩ = some (.slice A5 m.brks.length cc5)):=Lib.hid fun w4 hg => by
       have e2 : w4.heap[b]? = w6.heap[b]?:=hg.block b hbl6 (fun e => hne6.elim (fun e1 => by rw [← e] at e1; cases e1) (fun e1 => e1 e.symm))
       exact ⟨(World.frozen?_of_block (w:=w6) (w':=w4) (a:=⟨b,3,none⟩) e2).trans z5,(World.cell?_of_block (w:=w6) (w':=w4) (a:=⟨b,3,none⟩) e2).trans e5⟩
      have Hown : Hid (w6.ownsRow base 85 2 (.slice A5 m.brks.length cc5) m.brks.length (brkCells m.brks)):=Lib.hid H6.out.rr.brks
      have Hend:=Lib.hid fun (w4 : World) (v4 : Value) ho hg => H6.out.brk (w1:=w4) (x:=(nn,n2)) (v':=v4) ho hg
      have hfb : ∀ k,(Value.slice A5 m.brks.length cc5).ownBlock = some k → base ≤ k:=fun k hk => (H6.out.rr.brks.lt k hk).1
      have Hbel:=Lib.hid fun (w4 : World) (hg : w6.grownBy w4 (Value.slice A5 m.brks.length cc5).ownBlock) (v4 : Value) => (HB6.out.grown hg hbs6 hfb).setCell (show base ≤ b from H6.out.rr.hb) v4 (p:=⟨b,3,none⟩)
      clear hfb hne6
      go_wp2_with (at_builtin; go_loud (refine wpList_append_boxg _ rfl _ _ 77 rfl base 85 _ _ 2 16 Tryz.underlying77 info98 zero98 size98 bytes98 rfl (by decide) (.slice A5 m.brks.length cc5) m.brks.length (brkCells m.brks) _ _ rfl rfl ?c0 (by exact Hown.out) rfl ?c1 ?c2 ?c3 ?c4 ?_; rotate_right; intro v1 w4 hown1 hg1 hat1; obtain ⟨g1,cap1,rfl⟩:=own_form hown1 (by omega); obtain ⟨hz1,hc3⟩:=Hzc.out _ hg1; have Hfin:=Lib.hid (Hend.out _ _ hown1 hg1); have Hfin2:=Lib.hid (Hbel.out _ hg1 (.slice (some ⟨g1,0,none⟩) (m.brks.length + 1) cap1)); clear hown1 hg1 hat1))
      case c0 => simp
      case c1 => exact ⟨rfl,rfl⟩
      case c2 => unfold maxLen; omega
      case c3 => omega
      case c4 => exact hbs6
      go_ret
      exact RGz.good Hpk.out HJ3.out Hfin2.out Hfin.out Hm9.out
     ·rw [if_neg hn2] at hr6
      obtain ⟨rfl,hr6⟩:=hr6
      have H6:=Lib.hid hr6
      have Hpk:=Lib.hid (Hcl.out.trans (pause_no2 HNe.out (by rw [HNe2.out]) hn2))
      clear hr6 HA5 Hps hn2
      have e5:=H6.out.rr.rb.c3
      have z5:=H6.out.rr.rb.z 3
      have hbl6:=H6.out.bl
      have hbs6:=H6.out.bs
      have hne6:=own_neb H6.out.rr.brks H6.out.rr.rb (by decide)
      have Hzc : Hid (∀ (w4 : World),w6.grownBy w4 (Value.slice A5 m.brks.length cc5).ownBlock → w4.frozen? ⟨b,3,none⟩ = false ∧ w4.cell? ⟨b,3,none⟩ = some (.slice A5 m.brks.length cc5)):=Lib.hid fun w4 hg => by
       have e2 : w4.heap[b]? = w6.heap[b]?:=hg.block b hbl6 (fun e => hne6.elim (fun e1 => by rw [← e] at e1; cases e1) (fun e1 => e1 e.symm))
       exact ⟨(World.frozen?_of_block (w:=w6) (w':=w4) (a:=⟨b,3,none⟩) e2).trans z5,(World.cell?_of_block (w:=w6) (w':=w4) (a:=⟨b,3,none⟩) e2).trans e5⟩
      have Hown : Hid (w6.ownsRow base 85 2 (.slice A5 m.brks.length cc5) m.brks.length (brkCells m.brks)):=Lib.hid H6.out.rr.brks
      have Hend:=Lib.hid fun (w4 : World) (v4 : Value) ho hg => H6.out.brk (w1:=w4) (x:=(nn,(0 : Int))) (v':=v4) ho hg
      have hfb : ∀ k,(Value.slice A5 m.brks.length cc5).ownBlock = some k → base ≤ k:=fun k hk => (H6.out.rr.brks.lt k hk).1
      have Hbel:=Lib.hid fun (w4 : World) (hg : w6.grownBy w4 (Value.slice A5 m.brks.length cc5).ownBlock) (v4 : Value) => (HB6.out.grown hg hbs6 hfb).setCell (show base ≤ b from H6.out.rr.hb) v4 (p:=⟨b,3,none⟩)
      clear hfb hne6
      go_wp2_with (at_builtin; go_loud (refine wpList_append_boxg _ rfl _ _ 77 rfl base 85 _ _ 2 16 Tryz.underlying77 info98 zero98 size98 bytes98 rfl (by decide) (.slice A5 m.brks.length cc5) m.brks.length (brkCells m.brks) _ _ rfl rfl ?c0 (by exact Hown.out) rfl ?c1 ?c2 ?c3 ?c4 ?_; rotate_right; intro v1 w4 hown1 hg1 hat1; obtain ⟨g1,cap1,rfl⟩:=own_form hown1 (by omega); obtain ⟨hz1,hc3⟩:=Hzc.out _ hg1; have Hfin:=Lib.hid (Hend.out _ _ hown1 hg1); have Hfin2:=Lib.hid (Hbel.out _ hg1 (.slice (some ⟨g1,0,none⟩) (m.brks.length + 1) cap1)); clear hown1 hg1 hat1))
      case c0 => simp
      case c1 => exact ⟨rfl,rfl⟩
      case c2 => unfold maxLen; omega
      case c3 => omega
      case c4 => exact hbs6
      go_ret
      exact RGz.err Hpk.out Hfin2.out Hfin.out
    ·rw [if_neg hn0] at hr5
     obtain ⟨rfl,hr5⟩:=hr5
     have HR9:=Lib.hid hr5
     have Hpk:=Lib.hid (Hcl.out.trans (pause_no1 (by rw [HNe.out]) hn0))
     clear hr5
     go_wp2_with fail
     go_ret
     exact RGz.err Hpk.out HB5.out HR9.out
   | false =>
    have hne3 : (t.toList == [98,114,101,97,107]) = false:=by rw [← hqb,hbk]
    have Hb : Hid (eqS (hd L).2 BREAK = false):=Lib.hid (by rw [HTx.out]; exact hbk)
    clear hbk hqb
    have HF:=reffigure_any t W1
    cases hf : figB t with
    | true =>
     rw [hf] at HF
     have Hf : Hid (figB (hd L).2 = true):=Lib.hid (by rw [HTx.out]; exact hf)
     have hNe : numE t 1 m.feet.length = ((numE t 1 m.feet.length).1,(numE t 1 m.feet.length).2):=rfl
     have Hin:=Lib.hid (fun h => numE_in (t:=t) (lo:=1) (hi:=m.feet.length) h)
     have Hps:=Lib.hid (fun h => numE_pos (t:=t) (lo:=1) (hi:=m.feet.length) h)
     unfold RNumOk at HnumF
     simp only [] at HnumF
     generalize (numE t 1 m.feet.length).1 = nn at HnumF hNe Hin
     generalize hen : (numE t 1 m.feet.length).2 = en at HnumF hNe Hin Hps
     have HNe : Hid (numE (hd L).2 1 m.feet.length = (nn,en)):=Lib.hid (by rw [HTx.out]; exact hNe)
     clear hen hNe hf
     have c1:=H1.out.rr.rb.c1
     go_wp2_with fail
     refine HF.mono ?_
     rintro e w' ⟨rfl,rfl⟩
     clear HF
     go_wp2_with fail
     refine HnumF.out.mono ?_
     rintro e w5 ⟨hb5,hr5⟩
     have HB5:=Lib.hid (Hb1.out.grown hb5 H1.out.bs (fun k e => by cases e; exact H1.out.rr.hb))
     clear hb5 HnumF
     by_cases hn0 : en = 0
     ·subst hn0
      simp only [eq_self,if_true] at hr5
      obtain ⟨rfl,hr5⟩:=hr5
      have H5:=Lib.hid hr5
      have HJ:=Lib.hid (HAd.out (Hps.out rfl)).2
      have hi2:=Hin.out rfl
      have hnn : nn = ((nn.toNat : Nat) : Int):=by omega
      generalize hk : nn.toNat = k at *
      subst hnn
      have hsub : IntKind.i64.wrap ((k : Int) - 1) = ((k - 1 : Nat) : Int):=by rw [IntWalk.i64_in _ (by omega)]; omega
      have hsub2 : (k : Int) - 1 = ((k - 1 : Nat) : Int):=by omega
      have Hcl:=Lib.hid (cl_fig (m:=m) (L:=L) Ha.out He.out Hb.out Hf.out HNe.out)
      have hw:=refways_any H5.out hs (Hv.out.below HB5.out h6) h6 Hz.out (k - 1) 1 k (by omega) (by omega) false
      simp only [Int.toNat_natCast] at Hcl
      rw [HJ.out, ← Hcl.out] at hw
      clear hr5 c1 c0 z0 x0 x1 hne1 hne2 hne3
      have Hw:=Lib.hid hw
      clear hw
      go_wp2_with fail
      refine Hw.out.mono ?_
      rintro e w4 hr
      obtain ⟨v4,rfl⟩:=hr.val
      have HR:=Lib.hid (RGz.later HB5.out hr)
      clear hr
      go_wp2_with fail
      go_ret
      exact HR.out
     ·have Hcl:=Lib.hid (cl_num (m:=m) (L:=L) Ha.out He.out Hb.out Hf.out HNe.out hn0)
      rw [if_neg hn0] at hr5
      obtain ⟨rfl,hr5⟩:=hr5
      have HR9:=Lib.hid hr5
      clear hr5 c1 c0 z0 x0 x1 hne1 hne2 hne3
      go_wp2_with fail
      go_ret
      exact RGz.err (Hcl.out.trans (by rw [Htk.out])) HB5.out HR9.out
    | false =>
     rw [hf] at HF
     have Hcl:=Lib.hid (cl_no (m:=m) (L:=L) Ha.out He.out Hb.out (by rw [HTx.out]; exact hf))
     clear hf HnumF
     go_wp2_with fail
     refine HF.mono ?_
     rintro e w' ⟨rfl,rfl⟩
     clear HF
     have hfl:=fail_any 130 (p,t) H1.out
     unfold tokA at hfl
     simp only [] at hfl
     have Hfl:=Lib.hid hfl
     clear hfl
     go_wp2_with fail
     refine Hfl.out.mono ?_
     rintro e w' ⟨rfl,hr9,hb9⟩
     have HR9:=Lib.hid hr9
     have HB9:=Lib.hid (Hb1.out.grown hb9 H1.out.bs (fun k e => by cases e; exact H1.out.rr.hb))
     clear hr9 hb9
     go_wp2_with fail
     go_ret
     exact RGz.err (Hcl.out.trans (by rw [Htk.out])) HB9.out HR9.out
end Go.Proofs.YtgklikkddckgbaaGreatDoor
namespace Go.Proofs.YtgklikkddckgbaaGreatDoor
set_option linter.unusedVariables false
set_option linter.unusedSimpArgs false
open Go.RowKit
variable {w w1 w' : World} {base b : Nat} {s : ByteArray} {T cap i : Nat} {m : Met} {ec ep : Int} {vf ve vb : Value} {vs : List Value}
def RW (base b : Nat) (s : ByteArray) (T cap : Nat) (w : World) (r : Except (Int × Nat) Met) (e : Ending) (w' : World) : Prop:=
 Below base w w' ∧ match r with
 | .error (c,p) => e = .returned (.bool false) ∧ w'.cell? ⟨b,4,none⟩ = some (.int .i64 c) ∧ w'.cell? ⟨b,5,none⟩ = some (.int .i64 p) ∧ b < w'.heap.size
 | .ok m' => e = .returned (.bool true) ∧ Sized m' ∧ ∃ i' ec ep vf ve vb vs,RQ w' base b s T cap i' m' ec ep vf ve vb vs
theorem RW.err {r : Except (Int × Nat) Met} {c : Int} {p : Nat} (h : r = .error (c,p)) (hb : Below base w w') (hr : RQ w' base b s T cap i m c p vf ve vb vs) : RW base b s T cap w r (.returned (.bool false)) w':=by
 subst h; exact ⟨hb,rfl,hr.rr.rb.c4,hr.rr.rb.c5,hr.bl⟩
theorem RW.good {r : Except (Int × Nat) Met} (h : r = .ok m) (hb : Below base w w') (hz : Sized m) (hr : RQ w' base b s T cap i m ec ep vf ve vb vs) : RW base b s T cap w r (.returned (.bool true)) w':=by
 subst h; exact ⟨hb,rfl,hz,i,ec,ep,vf,ve,vb,vs,hr⟩
theorem RG.split {L : List Tok} {r : Res} {e : Ending} (h : RG base b s T cap w r e w') : (∃ c p,r = .error (c,p) ∧ e = .returned (.bool false) ∧ w'.cell? ⟨b,4,none⟩ = some (.int .i64 c) ∧ w'.cell? ⟨b,5,none⟩ = some (.int .i64 p) ∧ b < w'.heap.size) ∨
  (∃ L' m' i' ec ep vf ve vb vs,r = .ok (L',m') ∧ e = .returned (.bool true) ∧ (toks s 0).drop i' = L' ∧ RQ w' base b s T cap i' m' ec ep vf ve vb vs):=by
 obtain ⟨_,h⟩:=h
 cases r with
 | error x => obtain ⟨c,p⟩:=x; exact .inl ⟨c,p,rfl,h⟩
 | ok x => obtain ⟨L',m'⟩:=x; obtain ⟨h1,i',ec,ep,vf,ve,vb,vs,h2,h3⟩:=h; exact .inr ⟨L',m',i',ec,ep,vf,ve,vb,vs,rfl,h1,h2,h3⟩
theorem groups_err {f : Nat} {L : List Tok} {x : Int × Nat} (h : groupP L m = .error x) : groupsP (f + 1) L m = .error x:=by unfold groupsP; rw [h]
theorem groups_more {f : Nat} {L L' : List Tok} {m' : Met} (h : groupP L m = .ok (L',m')) (hc : eqS (hd L').2 COMMA = true) : groupsP (f + 1) L m = groupsP f (adv L') m':=by
 conv => lhs; unfold groupsP
 rw [h]; simp only [hc,if_true]
theorem groups_last {f : Nat} {L L' : List Tok} {m' : Met} (h : groupP L m = .ok (L',m')) (hc : eqS (hd L').2 COMMA = false) : groupsP (f + 1) L m = clausesP L'.length L' m':=by
 conv => lhs; unfold groupsP
 rw [h]; simp [hc]
theorem clauses_ok {f : Nat} {L : List Tok} (h : (hd L).2.size = 0) : clausesP (f + 1) L m = .ok m:=by unfold clausesP; rw [if_pos h]
theorem clauses_bad {f : Nat} {L : List Tok} (h : (hd L).2.size ≠ 0) (hs : eqS (hd L).2 SEMI = false) : clausesP (f + 1) L m = .error (130,(hd L).1):=by unfold clausesP; rw [if_neg h,hs]; rfl
theorem clauses_err {f : Nat} {L : List Tok} {x : Int × Nat} (h : (hd L).2.size ≠ 0) (hs : eqS (hd L).2 SEMI = true) (hc : clauseP (adv L) m = .error x) : clausesP (f + 1) L m = .error x:=by unfold clausesP; rw [if_neg h,hs,hc]; rfl
theorem clauses_more {f : Nat} {L L' : List Tok} {m' : Met} (h : (hd L).2.size ≠ 0) (hs : eqS (hd L).2 SEMI = true) (hc : clauseP (adv L) m = .ok (L',m')) : clausesP (f + 1) L m = clausesP f L' m':=by
 conv => lhs; unfold clausesP
 rw [if_neg h,hs,hc]; rfl
set_option maxRecDepth 100000 in
set_option maxHeartbeats 16000000 in
theorem refwhole_any (h : RQ w base b s T cap i m ec ep vf ve vb vs) (hs : s.size ≤ 65536) (hv : Vars w) (h6 : 9 ≤ base) (hz : Sized m) :
  Calls Tryz.prog 101 #[.pointer (some ⟨b,0,none⟩)] w (RW base b s T cap w (groupsP ((toks s 0).drop i).length ((toks s 0).drop i) m)):=by
 have H:=Lib.hid h
 have Hz:=Lib.hid hz
 have Hv:=Lib.hid hv
 generalize hR : groupsP ((toks s 0).drop i).length ((toks s 0).drop i) m = R
 have HR:=Lib.hid hR
 clear h hz hv hR
 go_enter Tryz.func101,Tryz.ntmps101
 go_wp2_with fail
 go_loopg [] ((toks s 0).drop i).length (fun gg wr => ∃ (j : Nat) (m' : Met) (vf' ve' vb' : Value) (vs' : List Value) (ec' ep' : Int),Hid (((toks s 0).drop j).length ≤ gg) ∧ Hid (groupsP gg ((toks s 0).drop j) m' = R) ∧ Hid (Sized m') ∧
  Hid (RQ wr base b s T cap j m' ec' ep' vf' ve' vb' vs') ∧ Hid (Below base w wr))
 case atStart => exact ⟨i,m,vf,ve,vb,vs,ec,ep,Lib.hid (Nat.le_refl _),HR,Hz,H,Lib.hid (Below.refl _ _)⟩
 case round =>
  obtain ⟨j,m',vf',ve',vb',vs',ec',ep',hgk,hP,hzz,hr,hbr⟩:=hrel
  clear H Hz HR
  have hpos : 0 < ((toks s 0).drop j).length:=by have:=hr.out.hi; rw [List.length_drop]; omega
  obtain ⟨q,rfl⟩ : ∃ q,gk = q + 1:=⟨gk - 1,by have:=hgk.out; omega⟩
  have hgr:=refgroup_any hr.out (Hv.out.below hbr.out h6) h6 hs hzz.out.feet
  have Hgr:=Lib.hid hgr
  clear hgr
  go_wp2_with fail
  refine Hgr.out.mono ?_
  rintro e w2 hg2
  have Hb2:=Lib.hid (hbr.out.trans hg2.1)
  rcases hg2.split (L:= []) with ⟨c,p,hge,rfl,k4,k5,kb⟩ | ⟨L2,m2,j2,e2,p2,vf2,ve2,vb2,vs2,hge,rfl,hj2,hr2⟩
  ·have Hfin : Hid (RW base b s T cap w R (.returned (.bool false)) w2):=Lib.hid (by rw [← hP.out,groups_err hge]; exact ⟨Hb2.out,rfl,k4,k5,kb⟩)
   clear hg2 hge k4 k5 kb
   go_wp2_with fail
   go_ret
   exact Hfin.out
  ·have H2:=Lib.hid hr2
   have HJ2:=Lib.hid hj2
   have Hge:=Lib.hid hge
   have Hgk:=Lib.hid (group_ok hge hzz.out)
   clear hg2 hge hr2 hj2 Hgr
   have c0:=H2.out.rr.rb.c0
   have z0:=H2.out.rr.rb.z 0
   have t0:=H2.out.t0
   have t1:=H2.out.t1
   unfold tokV at c0
   have hN7 : 0 < (toks s 0).length - j2:=by have:=H2.out.hi; omega
   have hcp7 : (toks s 0).length - j2 ≤ cap - j2:=by have:=H2.out.caps; omega
   have Hcur7 : Hid (Cur s ((toks s 0).drop j2)):=Lib.hid (drop_cur H2.out.hi)
   have HA7:=Lib.hid (fun h0 => drop_adv (s:=s) (i:=j2) H2.out.hi h0)
   have HN7 : Hid ((hd ((toks s 0).drop j2)).2.size ≠ 0 → 2 ≤ (toks s 0).length - j2):=Lib.hid fun h0 => by have:=cur_two Hcur7.out h0; simpa using this
   have HRx7:=Lib.hid fun h0 => H2.out.next h0
   have hbl7:=H2.out.bl
   rw [HJ2.out] at t0 t1 Hcur7 HA7 HN7 HRx7
   have HBx:=Lib.hid (Hb2.out.setCell (p:=⟨b,0,none⟩) H2.out.rr.hb (.slice (some ⟨T,j2 * 2 + 2,none⟩) ((toks s 0).length - j2 - 1) (cap - j2 - 1)))
   have hq7 : eqS (hd L2).2 COMMA = ((hd L2).2.toList == [44]):=eqS_comma _
   generalize hNe7 : (toks s 0).length - j2 = N7 at *
   generalize hCe7 : cap - j2 = C7 at *
   have HNe7:=Lib.hid hNe7
   have HCe7:=Lib.hid hCe7
   clear hNe7 hCe7
   cases hc : eqS (hd L2).2 COMMA with
   | true =>
    have hne : ((hd L2).2.toList == [44]) = true:=by rw [← hq7,hc]
    have hne2 : ((hd L2).2.toList != [44]) = false:=by simp only [bne,hne]; rfl
    have hz7 : (hd L2).2.size ≠ 0:=fun e => by rw [list_nil e] at hne; cases hne
    have Hw:=Lib.hid (groups_more (f:=q) Hge.out hc)
    have Hlt:=Lib.hid (comma_lt Hcur7.out hc)
    have hN2:=HN7.out hz7
    have HR8:=Lib.hid (HRx7.out hz7)
    have HJ3:=Lib.hid (HA7.out hz7).2
    have hC1 : ¬ C7 = 1:=by omega
    clear hc hq7 hz7 HRx7 HA7 HN7
    go_wp2_with fail
    go_roundg q
    case measure => omega
    case rel => exact ⟨j2 + 1,_,_,_,_,_,e2,p2,Lib.hid (by rw [HJ3.out]; have:=hgk.out; have:=Hlt.out; have:=Hgk.out.2.2.1; omega),Lib.hid (by rw [HJ3.out]; exact Hw.out.symm.trans hP.out),Lib.hid Hgk.out.1,HR8,HBx⟩
   | false =>
    have hne : ((hd L2).2.toList == [44]) = false:=by rw [← hq7,hc]
    have hne2 : ((hd L2).2.toList != [44]) = true:=by simp only [bne,hne]; rfl
    have HW0 : Hid (clausesP ((toks s 0).drop j2).length ((toks s 0).drop j2) m2 = R):=Lib.hid (by rw [HJ2.out]; exact (groups_last (f:=q) Hge.out hc).symm.trans hP.out)
    have HzS:=Lib.hid Hgk.out.1
    have HzF:=Lib.hid Hgk.out.2.2.2
    clear hc hq7 HRx7 HA7 HN7
    go_upto_region 5 with (fail)
    clear c0 z0 t0 t1 hne hne2 hN7 hcp7 hbl7 HBx Hcur7 hpos
    obtain ⟨wo,hwo⟩ : ∃ wo : World,wo = wr:=⟨_,rfl⟩
    subst hwo
    clear hr hbr hgk hP hzz Hge Hgk HNe7 HCe7
    go_loopg [] ((toks s 0).drop j2).length (fun gg wr => ∃ (j : Nat) (m' : Met) (vf' ve' vb' : Value) (vs' : List Value) (ec' ep' : Int),Hid (((toks s 0).drop j).length ≤ gg) ∧ Hid (clausesP gg ((toks s 0).drop j) m' = R) ∧ Hid (Sized m') ∧ Hid (0 < m'.feet.length) ∧
     Hid (RQ wr base b s T cap j m' ec' ep' vf' ve' vb' vs') ∧ Hid (Below base w wr))
    case atStart => exact ⟨j2,m2,vf2,ve2,vb2,vs2,e2,p2,Lib.hid (Nat.le_refl _),HW0,HzS,HzF,H2,Hb2⟩
    case round =>
     obtain ⟨j3,m3,vf3,ve3,vb3,vs3,e3,p3,hgk,hP,hzz,hzf,hr,hbr⟩:=hrel
     clear H2 Hb2 HW0 HzS HzF HJ2
     have hpos : 0 < ((toks s 0).drop j3).length:=by have:=hr.out.hi; rw [List.length_drop]; omega
     obtain ⟨q2,rfl⟩ : ∃ q2,gk = q2 + 1:=⟨gk - 1,by have:=hgk.out; omega⟩
     have c0:=hr.out.rr.rb.c0
     have z0:=hr.out.rr.rb.z 0
     have t0:=hr.out.t0
     have t1:=hr.out.t1
     unfold tokV at c0
     have hN8 : 0 < (toks s 0).length - j3:=by have:=hr.out.hi; omega
     have hcp8 : (toks s 0).length - j3 ≤ cap - j3:=by have:=hr.out.caps; omega
     have Hcur8 : Hid (Cur s ((toks s 0).drop j3)):=Lib.hid (drop_cur hr.out.hi)
     have HA8:=Lib.hid (fun h0 => drop_adv (s:=s) (i:=j3) hr.out.hi h0)
     have HN8 : Hid ((hd ((toks s 0).drop j3)).2.size ≠ 0 → 2 ≤ (toks s 0).length - j3):=Lib.hid fun h0 => by have:=cur_two Hcur8.out h0; simpa using this
     have HRx8:=Lib.hid fun h0 => hr.out.next h0
     have hbl8:=hr.out.bl
     have HBx:=Lib.hid (hbr.out.setCell (p:=⟨b,0,none⟩) hr.out.rr.hb (.slice (some ⟨T,j3 * 2 + 2,none⟩) ((toks s 0).length - j3 - 1) (cap - j3 - 1)))
     have hfl:=fail_any 130 (hd ((toks s 0).drop j3)) hr.out
     generalize hLL : (toks s 0).drop j3 = L3 at *
     have HLL:=Lib.hid hLL
     clear hLL
     have hq7 : eqS (hd L3).2 SEMI = ((hd L3).2.toList == [59]):=eqS_semi _
     generalize htk : hd L3 = tk at *
     obtain ⟨p,t⟩:=tk
     have Htk:=Lib.hid htk
     clear htk
     unfold tokA at hfl
     simp only [] at t0 t1 HN8 HA8 HRx8 hfl hq7
     have Hfl:=Lib.hid hfl
     clear hfl
     generalize (toks s 0).length - j3 = N8 at *
     generalize cap - j3 = C8 at *
     cases hc : eqS t SEMI with
     | true =>
      have hne : (t.toList == [59]) = true:=by rw [← hq7,hc]
      have hz8 : t.size ≠ 0:=fun e => by rw [list_nil e] at hne; cases hne
      have Hsz : Hid ((hd L3).2.size ≠ 0):=Lib.hid (by rw [Htk.out]; exact hz8)
      have Hsm : Hid (eqS (hd L3).2 SEMI = true):=Lib.hid (by rw [Htk.out]; exact hc)
      have Hlt:=Lib.hid (semi_lt Hcur8.out Hsm.out)
      have hN2:=HN8.out hz8
      have hR8:=HRx8.out hz8
      have HJ3:=Lib.hid (HA8.out hz8).2
      have hC1 : ¬ C8 = 1:=by omega
      generalize hw5 : wr.setCell ⟨b,0,none⟩ (.slice (some ⟨T,j3 * 2 + 2,none⟩) (N8 - 1) (C8 - 1)) = w5 at hR8 HBx
      have H5:=Lib.hid hR8
      have Hw5:=Lib.hid hw5
      clear hc hq7 hz8 HRx8 HA8 HN8 hw5 hR8 Hfl
      have hcl:=refclause_any H5.out hs (Hv.out.below HBx.out h6) h6 hzz.out hzf.out
      rw [HJ3.out] at hcl
      have Hcl:=Lib.hid hcl
      clear hcl
      go_upto_region 7 with (fail)
      rw [Hw5.out]
      clear c0 z0 t0 t1 hne Hw5
      go_wp2_with fail
      refine Hcl.out.mono ?_
      rintro e w6 hg6
      have Hb6:=Lib.hid (HBx.out.trans hg6.1.1)
      have hz6:=hg6.2
      rcases hg6.1.split (L:= []) with ⟨c,p,hge,rfl,k4,k5,kb⟩ | ⟨L6,m6,j6,e6,p6,vf6,ve6,vb6,vs6,hge,rfl,hj6,hr6⟩
      ·have Hfin : Hid (RW base b s T cap w R (.returned (.bool false)) w6):=Lib.hid (by rw [← hP.out,clauses_err Hsz.out Hsm.out hge]; exact ⟨Hb6.out,rfl,k4,k5,kb⟩)
       clear hg6 hge k4 k5 kb hz6
       go_wp2_with fail
       go_ret
       exact Hfin.out
      ·have H6:=Lib.hid hr6
       have HJ6:=Lib.hid hj6
       have Hge:=Lib.hid hge
       rw [hge] at hz6
       have Hz6 : Hid (Sized m6):=Lib.hid hz6
       have Hf6 : Hid (0 < m6.feet.length):=Lib.hid (by rw [clause_feet hge]; exact hzf.out)
       have Hl6:=Lib.hid (clause_len hge)
       clear hg6 hge hr6 hj6 hz6
       go_wp2_with fail
       go_roundg q2
       case measure => omega
       case rel => exact ⟨j6,m6,vf6,ve6,vb6,vs6,e6,p6,Lib.hid (by rw [HJ6.out]; have:=hgk.out; have:=Hlt.out; have:=Hl6.out; omega),Lib.hid (by rw [HJ6.out]; exact (clauses_more (f:=q2) Hsz.out Hsm.out Hge.out).symm.trans hP.out),Hz6,Hf6,H6,Hb6⟩
     | false =>
      have hne : (t.toList == [59]) = false:=by rw [← hq7,hc]
      have Hsm : Hid (eqS (hd L3).2 SEMI = false):=Lib.hid (by rw [Htk.out]; exact hc)
      clear hc hq7 HRx8 HA8 HN8
      by_cases hz8 : t.size = 0
      ·have hne2 : (t.toList == []) = true:=by rw [list_nil hz8]; rfl
       have hne3 : t.toList = []:=list_nil hz8
       have HR:=Lib.hid (hP.out.symm.trans (clauses_ok (f:=q2) (m:=m3) (L:=L3) (by rw [Htk.out]; exact hz8)))
       clear hz8
       go_wp2_with fail
       go_ret
       exact RW.good HR.out hbr.out hzz.out hr.out
      ·have hne2 : (t.toList == []) = false:=by
        rw [beq_eq_false_iff_ne]; intro e
        rw [ByteArray.toList_eq] at e
        have h2:=congrArg List.length e
        rw [Array.length_toList] at h2
        exact hz8 h2
       have hne3 : ¬ t.toList = []:=by simpa using hne2
       have hne4 : (!t.toList.isEmpty) = true:=by simpa using hne3
       have hne5 : t.toList.isEmpty = false:=by simpa using hne3
       have HR:=Lib.hid (hP.out.symm.trans (clauses_bad (f:=q2) (m:=m3) (L:=L3) (by rw [Htk.out]; exact hz8) Hsm.out))
       clear hz8
       go_wp2_with fail
       refine Hfl.out.mono ?_
       rintro e w' ⟨rfl,hr9,hb9⟩
       have HR9:=Lib.hid hr9
       have HB9:=Lib.hid (hbr.out.grown hb9 hr.out.bs (fun k e => by cases e; exact hr.out.rr.hb))
       clear hr9 hb9
       go_wp2_with fail
       go_ret
       exact RW.err (HR.out.trans (by rw [Htk.out])) HB9.out HR9.out
end Go.Proofs.YtgklikkddckgbaaGreatDoor
namespace Go.Proofs.YtgklikkddckgbaaGreatDoor
set_option linter.unusedVariables false
set_option linter.unusedSimpArgs false
open Go.RowKit
theorem read_end12 {w W : World} {T : Array Value} {Q : Ending → World → Prop} {v0 v1 v2 v3 v4 : Value} (h2 : T.getD 2 undef = .pointer (some ⟨w.heap.size,0,none⟩)) (h3 : T.getD 3 undef = .pointer (some ⟨w.heap.size + 1,0,none⟩))
  (r0 : W.heap[w.heap.size]? = some (.cells #[v0,v1,v2] 79 (0,0))) (r1 : W.heap[w.heap.size + 1]? = some (.cells #[v3,v4] 87 (0,0))) (hQ : Q (.returned (.tuple #[.agg #[v0,v1,v2], .agg #[v3,v4]])) W) :
  bodyPost Tryz.prog Tryz.f69 Q Exit.ret { tmps:=T,defers:= [] } W:=by
 have d0 : W.cell? ⟨w.heap.size,0,none⟩ = some v0:=cell_of_row _ _ _ _ 79 (0,0) r0
 have d1 : W.cell? ⟨w.heap.size,1,none⟩ = some v1:=cell_of_row _ _ _ _ 79 (0,0) r0
 have d2 : W.cell? ⟨w.heap.size,2,none⟩ = some v2:=cell_of_row _ _ _ _ 79 (0,0) r0
 have d3 : W.cell? ⟨w.heap.size + 1,0,none⟩ = some v3:=cell_of_row _ _ _ _ 87 (0,0) r1
 have d4 : W.cell? ⟨w.heap.size + 1,1,none⟩ = some v4:=cell_of_row _ _ _ _ 87 (0,0) r1
 have h2' : T[2]?.getD undef = .pointer (some ⟨w.heap.size,0,none⟩):=by simpa using h2
 have h3' : T[3]?.getD undef = .pointer (some ⟨w.heap.size + 1,0,none⟩):=by simpa using h3
 refine bodyPost_ret (v:= .tuple #[.agg #[v0,v1,v2], .agg #[v3,v4]]) ?_ rfl hQ
 simp [results,Tryz.f69,go_sem,h2',h3',d0,d1,d2,d3,d4,Tryz.isAgg79,Tryz.isAgg87,Tryz.sizeOf79,Tryz.sizeOf87]
theorem RR.om {w : World} {base b : Nat} {lv : Value} {m : Met} {ec ep : Int} {vf ve vb : Value} {vs : List Value} (h : RR w base b lv m ec ep vf ve vb vs) : OM w base m vf ve vb vs:=⟨h.vl,h.feet,h.ways,h.ends,h.brks,h.apart⟩
theorem RQ.start {w2 : World} {base T cap : Nat} {s : ByteArray} (hb : base ≤ w2.heap.size) (ht : w2.ownsRow base 187 2 (.slice (some ⟨T,0,none⟩) (toks s 0).length cap) (toks s 0).length (tokCells (toks s 0))) :
  RQ (w2.alloc (.cells #[.slice (some ⟨T,0,none⟩) (toks s 0).length cap, .slice none 0 0, .slice none 0 0, .slice none 0 0, .int .i64 0, .int .i64 0] 167)) base w2.heap.size s T cap 0 Met.zero 0 0 nilV nilV nilV []:=by
 have e : tokV s T cap 0 = .slice (some ⟨T,0,none⟩) (toks s 0).length cap:=by unfold tokV; simp
 refine ⟨⟨?_,hb,rfl,World.ownsRow_nil _ _ _ _,fun k hk => (by simp [Met.zero] at hk),World.ownsRow_nil _ _ _ _,World.ownsRow_nil _ _ _ _,?_⟩,ht.alloc _,toks_pos s 0⟩
 ·unfold RBr; rw [e]; exact World.alloc_heap_new w2 _
 ·intro i j k hi hj hne h1 h2
  simp at hi hj; omega
set_option maxRecDepth 100000 in
set_option maxHeartbeats 16000000 in
theorem refread_any (s : ByteArray) (w : World) (hv : Vars w) :
  Calls Tryz.prog 69 #[.string s] w (ReadOk s w):=by
 by_cases hs6 : 65536 < s.size
 ·have HR2 : Hid (readP s = .error (3,65536)):=Lib.hid (by unfold readP; rw [if_pos hs6])
  go_enter Tryz.func69,Tryz.ntmps69
  go_upto_region 2 with (fail)
  generalize hw1 : (w.alloc (.cells #[.slice none 0 0, .slice none 0 0, .slice none 0 0] 79)).alloc (.cells #[.int .i64 0, .int .i64 0] 87) = w1
  have x2 : w1.heap[w.heap.size]? = some (.cells #[nilV,nilV,nilV] 79 (0,0)):=by rw [← hw1]; exact (Below.heap_alloc _ _ _ (by simp)).trans (World.alloc_heap_new w _)
  have x3 : w1.heap[w.heap.size + 1]? = some (.cells #[.int .i64 0, .int .i64 0] 87 (0,0)):=by
   rw [← hw1]
   have:=World.alloc_heap_new (w.alloc (.cells #[.slice none 0 0, .slice none 0 0, .slice none 0 0] 79)) (.cells #[.int .i64 0, .int .i64 0] 87)
   rw [World.size_alloc] at this
   exact this
  have hb1 : Below w.heap.size w w1:=by rw [← hw1]; exact ((Below.refl _ _).alloc (Nat.le_refl _) _).alloc (by simp) _
  have k0 : w1.cell? ⟨w.heap.size,0,none⟩ = some (.slice none 0 0):=cell_of_row _ _ _ _ 79 (0,0) x2
  have k1 : w1.cell? ⟨w.heap.size,1,none⟩ = some (.slice none 0 0):=cell_of_row _ _ _ _ 79 (0,0) x2
  have k2 : w1.cell? ⟨w.heap.size,2,none⟩ = some (.slice none 0 0):=cell_of_row _ _ _ _ 79 (0,0) x2
  have l0 : w1.cell? ⟨w.heap.size + 1,0,none⟩ = some (.int .i64 0):=cell_of_row _ _ _ _ 87 (0,0) x3
  have l1 : w1.cell? ⟨w.heap.size + 1,1,none⟩ = some (.int .i64 0):=cell_of_row _ _ _ _ 87 (0,0) x3
  have z0:=frozen_of_row w1 w.heap.size 0 _ 79 x2
  have z1:=frozen_of_row w1 w.heap.size 1 _ 79 x2
  have z2:=frozen_of_row w1 w.heap.size 2 _ 79 x2
  have y0:=frozen_of_row w1 (w.heap.size + 1) 0 _ 87 x3
  have y1:=frozen_of_row w1 (w.heap.size + 1) 1 _ 87 x3
  have Hb1:=Lib.hid hb1
  have X2:=Lib.hid x2
  have X3:=Lib.hid x3
  clear hb1 hw1 x2 x3
  go_wp2_with fail
  obtain ⟨hbe,r0,r1⟩:=five_cells (v0:= .slice none 0 0) (v1:= .slice none 0 0) (v2:= .slice none 0 0) (v3:= .int .i64 3) (v4:= .int .i64 65536) Hb1.out X2.out X3.out rfl
  exact read_end12 rfl rfl r0 r1 ⟨hbe,by rw [HR2.out]; rfl⟩
 ·have hs : s.size ≤ 65536:=by omega
  have HR2 : Hid (readP s = groupsP (toks s 0).length (toks s 0) Met.zero):=Lib.hid (by unfold readP; rw [if_neg hs6])
  go_enter Tryz.func69,Tryz.ntmps69
  go_upto_region 3 with (fail)
  generalize hw1 : (w.alloc (.cells #[.slice none 0 0, .slice none 0 0, .slice none 0 0] 79)).alloc (.cells #[.int .i64 0, .int .i64 0] 87) = w1
  have x2 : w1.heap[w.heap.size]? = some (.cells #[nilV,nilV,nilV] 79 (0,0)):=by rw [← hw1]; exact (Below.heap_alloc _ _ _ (by simp)).trans (World.alloc_heap_new w _)
  have x3 : w1.heap[w.heap.size + 1]? = some (.cells #[.int .i64 0, .int .i64 0] 87 (0,0)):=by
   rw [← hw1]
   have:=World.alloc_heap_new (w.alloc (.cells #[.slice none 0 0, .slice none 0 0, .slice none 0 0] 79)) (.cells #[.int .i64 0, .int .i64 0] 87)
   rw [World.size_alloc] at this
   exact this
  have Hs1 : Hid (w1.heap.size = w.heap.size + 2):=Lib.hid (by rw [← hw1]; simp)
  have Hb1 : Hid (Below w.heap.size w w1):=Lib.hid (by rw [← hw1]; exact ((Below.refl _ _).alloc (Nat.le_refl _) _).alloc (by simp) _)
  have Hv1:=Lib.hid (hv.below Hb1.out hv.six)
  have X2:=Lib.hid x2
  have X3:=Lib.hid x3
  have H6:=Lib.hid hv.six
  clear hw1 x2 x3 hs6 hv
  go_wp2_with fail
  refine (tokens_any s w1 hs).mono ?_
  rintro e w2 ⟨T,cap,rfl,ht,hb2⟩
  have hrq:=RQ.start hb2.size ht
  have Hb2:=Lib.hid hb2
  have Hsz2 : Hid (w1.heap.size ≤ w2.heap.size):=Lib.hid hb2.size
  generalize hw3 : w2.alloc (.cells #[.slice (some ⟨T,0,none⟩) (toks s 0).length cap, .slice none 0 0, .slice none 0 0, .slice none 0 0, .int .i64 0, .int .i64 0] 167) = w3 at hrq
  have Hb3 : Hid (Below w1.heap.size w1 w3):=Lib.hid (by rw [← hw3]; exact hb2.alloc hb2.size _)
  have HW3:=Lib.hid hw3
  have hwh:=refwhole_any hrq hs (Hv1.out.below Hb3.out (by have:=Hs1.out; have:=H6.out; omega)) (by have:=Hs1.out; have:=H6.out; omega) ⟨by simp [Met.zero],fun k hk => by simp [Met.zero] at hk,by simp [Met.zero],by simp [Met.zero,aheadOf]⟩
  rw [List.drop_zero, ← HR2.out] at hwh
  have Hwh:=Lib.hid hwh
  clear ht hb2 hw3 hrq hwh
  go_upto_region 4 with (fail)
  rw [HW3.out]
  clear HW3
  go_wp2_with fail
  refine Hwh.out.mono ?_
  rintro e w4 ⟨hb4,hr4⟩
  have Hb4 : Hid (Below w.heap.size w w4):=Lib.hid (Hb1.out.trans ((Hb3.out.trans hb4).mono (by have:=Hs1.out; omega)))
  have X2' : Hid (w4.heap[w.heap.size]? = some (.cells #[nilV,nilV,nilV] 79 (0,0))):=Lib.hid (((Hb3.out.trans hb4).block _ (by have:=Hs1.out; omega)).trans X2.out)
  have X3' : Hid (w4.heap[w.heap.size + 1]? = some (.cells #[.int .i64 0, .int .i64 0] 87 (0,0))):=Lib.hid (((Hb3.out.trans hb4).block _ (by have:=Hs1.out; omega)).trans X3.out)
  have k0 : w4.cell? ⟨w.heap.size,0,none⟩ = some (.slice none 0 0):=cell_of_row _ _ _ _ 79 (0,0) X2'.out
  have k1 : w4.cell? ⟨w.heap.size,1,none⟩ = some (.slice none 0 0):=cell_of_row _ _ _ _ 79 (0,0) X2'.out
  have k2 : w4.cell? ⟨w.heap.size,2,none⟩ = some (.slice none 0 0):=cell_of_row _ _ _ _ 79 (0,0) X2'.out
  have l0 : w4.cell? ⟨w.heap.size + 1,0,none⟩ = some (.int .i64 0):=cell_of_row _ _ _ _ 87 (0,0) X3'.out
  have l1 : w4.cell? ⟨w.heap.size + 1,1,none⟩ = some (.int .i64 0):=cell_of_row _ _ _ _ 87 (0,0) X3'.out
  have z0:=frozen_of_row w4 w.heap.size 0 _ 79 X2'.out
  have z1:=frozen_of_row w4 w.heap.size 1 _ 79 X2'.out
  have z2:=frozen_of_row w4 w.heap.size 2 _ 79 X2'.out
  have y0:=frozen_of_row w4 (w.heap.size + 1) 0 _ 87 X3'.out
  have y1:=frozen_of_row w4 (w.heap.size + 1) 1 _ 87 X3'.out
  have hb2ne : w2.heap.size ≠ w.heap.size:=by have:=Hsz2.out; have:=Hs1.out; omega
  have hb2ne1 : w2.heap.size ≠ w.heap.size + 1:=by have:=Hsz2.out; have:=Hs1.out; omega
  cases hrp : readP s with
  | error x =>
   obtain ⟨c,p⟩:=x
   rw [hrp] at hr4
   obtain ⟨rfl,k4,k5,kb⟩:=hr4
   have HRp:=Lib.hid hrp
   clear hrp hb4 Hwh HR2
   go_wp2_with fail
   go_region_with (fail)
   all_goals
    go_wp2_with fail
    obtain ⟨hbe,r0,r1⟩:=five_cells (v0:= .slice none 0 0) (v1:= .slice none 0 0) (v2:= .slice none 0 0) (v3:= .int .i64 c) (v4:= .int .i64 p) Hb4.out X2'.out X3'.out rfl
    exact read_end12 (W:=World.drew _) rfl rfl r0 r1 ⟨hbe.drew,by rw [HRp.out]; rfl⟩
  | ok m' =>
   rw [hrp] at hr4
   obtain ⟨rfl,hz,i',ec,ep,vf,ve,vb,vs,hr⟩:=hr4
   have HRp:=Lib.hid hrp
   obtain ⟨Af,cf,rfl⟩:=own_slice hr.rr.feet
   obtain ⟨Ae,ce,rfl⟩:=own_slice hr.rr.ends
   obtain ⟨Ab,cb,rfl⟩:=own_slice hr.rr.brks
   have c1:=hr.rr.rb.c1
   have c2:=hr.rr.rb.c2
   have c3:=hr.rr.rb.c3
   have HOM:=Lib.hid hr.rr.om
   have Hz:=Lib.hid hz
   clear hrp hb4 Hwh HR2 hr hz
   go_wp2_with fail
   obtain ⟨hbe,r0,r1⟩:=five_cells (v0:= .slice Af m'.feet.length cf) (v1:= .slice Ae m'.ends.length ce) (v2:= .slice Ab m'.brks.length cb) (v3:= .int .i64 0) (v4:= .int .i64 0) Hb4.out X2'.out X3'.out rfl
   refine read_end12 rfl rfl r0 r1 ⟨hbe,?_⟩
   rw [HRp.out]
   have hlt0 : w.heap.size < w1.heap.size:=by have:=Hs1.out; omega
   have hlt1 : w.heap.size + 1 < w1.heap.size:=by have:=Hs1.out; omega
   exact ⟨Hz.out,_,_,_,vs,rfl,(((((HOM.out.put hlt0 _ _).put hlt0 _ _).put hlt0 _ _).put hlt1 _ _).put hlt1 _ _).base_le (by omega)⟩
end Go.Proofs.YtgklikkddckgbaaGreatDoor

import Derived.Deep.LoopGhost
import Derived.Deep.RegionLaw
import Derived.StillTailTactics
import Derived.Test.YtgklikkddckgbaaGreatDoorFAH
/- Lemmas of the claim. -/
namespace Go.Proofs.YtgklikkddckgbaaGreatDoor
set_option linter.unusedVariables false
set_option linter.unusedSimpArgs false
open Go.RowKit
theorem eqS_comma (t : ByteArray) : eqS t COMMA = (t.toList == [44]):=by unfold eqS; rw [show COMMA.toList = [44] by decide +kernel]
theorem eqS_semi (t : ByteArray) : eqS t SEMI = (t.toList == [59]):=by unfold eqS; rw [show SEMI.toList = [59] by decide +kernel]
theorem eqS_any (t : ByteArray) : eqS t ANY = (t.toList == [97,110,121]):=by unfold eqS; rw [show ANY.toList = [97,110,121] by decide +kernel]
theorem eqS_end (t : ByteArray) : eqS t END = (t.toList == [101,110,100]):=by unfold eqS; rw [show END.toList = [101,110,100] by decide +kernel]
theorem eqS_break (t : ByteArray) : eqS t BREAK = (t.toList == [98,114,101,97,107]):=by unfold eqS; rw [show BREAK.toList = [98,114,101,97,107] by decide +kernel]
variable {w : World} {base b : Nat} {s : ByteArray} {m : Met} {ve vb : Value} {vs : List Value} {L : List Tok}
set_option maxRecDepth 100000 in
set_option maxHeartbeats 16000000 in
theorem waysR_any {g cap : Nat} (h : RS w base b s (hd L).1 (hd L).2 m (aheadOf m) (.slice (some ⟨g,0,none⟩) m.feet.length cap) ve vb vs) (hL : Cur s L) (hs : s.size ≤ 65536) (hv : Vars w) (h6 : 9 ≤ base) (hz : Sized m)
  (i n c : Nat) (hin : i + n ≤ m.feet.length) (all : Bool) :
  Calls Tryz.prog 144 #[.pointer (some ⟨b,0,none⟩), .slice (some ⟨g,i * 2,none⟩) n c, .bool all] w (ClOk base b s w (waysP L.length L m i n all)):=by
 have H:=Lib.hid h
 have Hz:=Lib.hid hz
 have HL:=Lib.hid hL
 have Hv:=Lib.hid hv
 have hlen0 : m.feet.length ≤ 16:=hz.feet
 generalize hN : m.feet.length = N at *
 generalize hR : waysP L.length L m i n all = R
 have HR:=Lib.hid hR
 have HN:=Lib.hid hN
 clear h hz hL hv hR
 go_enter Tryz.func144,Tryz.ntmps144
 go_wp2_with fail
 go_loopg [] L.length (fun gg wr => ∃ (L' : List Tok) (m' : Met) (vs' : List Value),Hid (L'.length ≤ gg) ∧ Hid (waysP gg L' m' i n all = R) ∧ Hid (Cur s L') ∧ Hid (Sized m') ∧ Hid (m'.feet.length = N) ∧
  Hid (RS wr base b s (hd L').1 (hd L').2 m' (aheadOf m') (.slice (some ⟨g,0,none⟩) N cap) ve vb vs') ∧ Hid (Below base w wr))
 case atStart => exact ⟨L,m,vs,Lib.hid (Nat.le_refl _),HR,HL,Hz,HN,H,Lib.hid (Below.refl _ _)⟩
 case round =>
  obtain ⟨L',m',vs',hgk,hP,hLc,hzz,hN',hr,hbr⟩:=hrel
  have hpos : 0 < L'.length:=by obtain ⟨p,hp,e⟩:=hLc.out; rw [e]; exact toks_pos s p
  obtain ⟨q,rfl⟩ : ∃ q,gk = q + 1:=⟨gk - 1,by have:=hgk.out; omega⟩
  have d2:=hr.out.rb.c2
  have hbl:=hr.out.bl
  have hft:=foot_any b (hd L').2 wr d2 hbl (by have:=hLc.out.size; omega)
  have Hbs:=Lib.hid hr.out.bs
  unfold FootOk at hft
  have hFe : footB (hd L').2 = ((footB (hd L').2).1,(footB (hd L').2).2):=rfl
  generalize (footB (hd L').2).1 = sg at hft hFe
  generalize (footB (hd L').2).2 = er at hft hFe
  have HFe:=Lib.hid hFe
  clear hFe
  go_wp2_with fail
  refine hft.mono ?_
  rintro e w2 ⟨rfl,hb2⟩
  have H2:=Lib.hid (hr.out.below hb2)
  have Hb2:=Lib.hid (hbr.out.trans (hb2.mono Hbs.out))
  clear hft hb2 d2 hbl
  by_cases h0 : er = 0
  ·subst h0
   have hlays:=lays_any (some ⟨g,i * 2,none⟩) c ((m'.feet.drop i).take n) sg all w2 (RS.isFeet (cap:=cap) (by rw [hN'.out]; exact H2.out) i n (by rw [hN'.out]; exact hin)) (by rw [sub_len _ _ _ (by rw [hN'.out]; exact hin)]; omega) (sub_all hzz.out.ways i n)
   rw [sub_len _ _ _ (by rw [hN'.out]; exact hin)] at hlays
   generalize hLe : laysE ((m'.feet.drop i).take n) sg all = el at hlays
   have HLe : Hid (laysE ((m'.feet.drop i).take n) sg all = el):=Lib.hid hLe
   clear hLe
   go_wp2_with fail
   refine hlays.mono ?_
   rintro e w3 ⟨rfl,hb3⟩
   have H3:=Lib.hid (H2.out.below hb3)
   have Hb3:=Lib.hid (Hb2.out.trans (hb3.mono H2.out.bs))
   clear hlays hb3
   by_cases hl0 : el = 0
   ·subst hl0
    have hnx:=next_rs H3.out hLc.out hs
    have Hbb:=Lib.hid fun w1 hg => below_b (w':=w1) H3.out hg
    go_wp2_with fail
    refine hnx.mono ?_
    rintro e w4 ⟨rfl,h4,hg4⟩
    have H4:=Lib.hid h4
    have Hb4:=Lib.hid (Hb3.out.trans (Hbb.out w4 hg4))
    clear hnx Hbb h4 hg4
    have hnum:=number_rs b (hd (adv L')).2 0 1048576 w4 H4.out.rb.c2 H4.out.bl (Hv.out.below Hb4.out h6) (by have:=hLc.out.adv.size; omega)
    have hNe : numE (hd (adv L')).2 0 1048576 = ((numE (hd (adv L')).2 0 1048576).1,(numE (hd (adv L')).2 0 1048576).2):=rfl
    generalize (numE (hd (adv L')).2 0 1048576).1 = nn at hnum hNe
    generalize (numE (hd (adv L')).2 0 1048576).2 = en at hnum hNe
    have HNe:=Lib.hid hNe
    clear hNe
    go_wp2_with fail
    refine hnum.mono ?_
    rintro e w5 ⟨rfl,hb5⟩
    have H5:=Lib.hid (H4.out.below hb5)
    have Hb5:=Lib.hid (Hb4.out.trans (hb5.mono H4.out.bs))
    clear hnum hb5
    by_cases hn0 : en = 0
    ·subst hn0
     have hlay:=lay_any (cap:=cap) (g:=g) (by rw [hN'.out]; exact H5.out) i n c (by rw [hN'.out]; exact hin) hzz.out.feet hzz.out.ways sg nn all
     rw [hN'.out] at hlay
     have Hm7:=Lib.hid (layR_sized hzz.out (i:=i) (n:=n) (by rw [hN'.out]; exact hin) (sg:=sg) (c:=nn) (all:=all) HLe.out)
     have Hm8:=Lib.hid ((layR_len m'.feet i n sg nn all (by rw [hN'.out]; exact hin)).trans hN'.out)
     go_wp2_with fail
     refine hlay.mono ?_
     rintro e w6 ⟨rfl,vs6,h6',hb6⟩
     have H6:=Lib.hid h6'
     have Hb6:=Lib.hid (Hb5.out.trans hb6)
     clear hlay h6' hb6
     have hnx:=next_rs H6.out hLc.out.adv hs
     have Hbb:=Lib.hid fun w1 hg => below_b (w':=w1) H6.out hg
     go_wp2_with fail
     refine hnx.mono ?_
     rintro e w7 ⟨rfl,h7,hg7⟩
     have H7:=Lib.hid h7
     have Hb7:=Lib.hid (Hb6.out.trans (Hbb.out w7 hg7))
     clear hnx Hbb h7 hg7
     have d2:=H7.out.rb.c2
     have hq7 : eqS (hd (adv (adv L'))).2 COMMA = ((hd (adv (adv L'))).2.toList == [44]):=eqS_comma _
     cases hc : eqS (hd (adv (adv L'))).2 COMMA with
     | true =>
      have hne : ((hd (adv (adv L'))).2.toList == [44]) = true:=by rw [← hq7,hc]
      have Hw:=Lib.hid (ways_more (f:=q) (m:=m') (i:=i) (n:=n) (all:=all) HFe.out HLe.out HNe.out hc)
      have Hlt:=Lib.hid (comma_lt hLc.out.adv.adv hc)
      clear hc hq7
      have hnx:=next_rs H7.out hLc.out.adv.adv hs
      have Hbb:=Lib.hid fun w1 hg => below_b (w':=w1) H7.out hg
      go_wp2_with fail
      refine hnx.mono ?_
      rintro e w8 ⟨rfl,h8,hg8⟩
      have H8:=Lib.hid h8
      have Hb8:=Lib.hid (Hb7.out.trans (Hbb.out w8 hg8))
      clear hnx Hbb h8 hg8
      go_wp2_with fail
      go_roundg q
      case measure => omega
      case rel => exact ⟨_,_,_,Lib.hid (by have:=hgk.out; have:=Hlt.out; have:=adv_len L'; have:=adv_len (adv L'); omega),Lib.hid (Hw.out.symm.trans hP.out),Lib.hid hLc.out.adv.adv.adv,Hm7,Hm8,H8,Hb8⟩
     | false =>
      have hne : ((hd (adv (adv L'))).2.toList == [44]) = false:=by rw [← hq7,hc]
      have Hw:=Lib.hid (ways_done (f:=q) (m:=m') (i:=i) (n:=n) (all:=all) HFe.out HLe.out HNe.out hc)
      clear hc hq7
      go_wp2_with fail
      go_ret
      unfold ClOk
      rw [← hP.out,Hw.out]
      exact ⟨Hb7.out,rfl,hLc.out.adv.adv,Hm7.out,_,_,_,_,H7.out⟩
    ·have h0' : (en != 0) = true:=by simpa using hn0
     have Hw:=Lib.hid (ways_num (f:=q) (m:=m') (i:=i) (n:=n) (all:=all) HFe.out HLe.out (by rw [HNe.out]) hn0)
     have H0:=Lib.hid hn0
     clear hn0
     go_wp2_with fail
     go_ret
     unfold ClOk
     rw [← hP.out,Hw.out]
     exact ⟨Hb5.out,rfl,H0.out,H5.out.rb.c1⟩
   ·have h0' : (el != 0) = true:=by simpa using hl0
    have Hw:=Lib.hid (ways_lays (f:=q) (m:=m') (i:=i) (n:=n) (all:=all) HFe.out HLe.out hl0)
    have H0:=Lib.hid hl0
    clear hl0
    go_wp2_with fail
    go_ret
    unfold ClOk
    rw [← hP.out,Hw.out]
    exact ⟨Hb3.out,rfl,H0.out,H3.out.rb.c1⟩
  ·have h0' : (er != 0) = true:=by simpa using h0
   have Hw:=Lib.hid (ways_foot (f:=q) (m:=m') (i:=i) (n:=n) (all:=all) (by rw [HFe.out]) h0)
   have H0:=Lib.hid h0
   clear h0
   go_wp2_with fail
   go_ret
   unfold ClOk
   rw [← hP.out,Hw.out]
   exact ⟨Hb2.out,rfl,H0.out,H2.out.rb.c1⟩
end Go.Proofs.YtgklikkddckgbaaGreatDoor
namespace Go.Proofs.YtgklikkddckgbaaGreatDoor
set_option linter.unusedVariables false
set_option linter.unusedSimpArgs false
open Go.RowKit
/-- append of one element that was just boxed, as a step of a region that draws -/
theorem step_append_boxg {P : Program} {ops : Array Oper} {o : Oper} {a : Act} {K : Act → World → Prop} {Q : Exit → Act → World → Prop} {E : Prop} (w0 : World) (hgd : o.guard = none) (s x : Operand) (t : TypeId)
  (ho : o.op = .call { callee:= .builtin .append,args:= #[s,x],argTypes:= #[t,t] })
  (base : Nat) (e : TypeId) (i : TypeInfo) (z : Value) (size bytes : Nat) (ht : P.underlying t = some (.slice e)) (hi : P.info? e = some i) (hz : i.zero = some z)
  (hsize : i.size = size) (hby : i.bytes = bytes) (hzs : z.cells.size = size) (hsz : 0 < size)
  (v : Value) (n : Nat) (xs : List Value) (nw : Array Value) (g : Nat) (hs : a.eval s = v) (hx : a.eval x = .slice (some ⟨g,0,none⟩) 1 1) (hg : g = w0.heap.size) (hown : w0.ownsRow base e size v n xs)
  (hl : nw.size = size) (h1 : ∀ u ∈ nw.toList,u.oneCell' = true)
  (h63 : n + 1 ≤ maxLen) (hbytes : (n + 1) * bytes ≤ 140737488355328) (hbase : base ≤ w0.heap.size)
  (h : ∀ v' w',w'.ownsRow base e size v' (n + 1) (xs ++ nw.toList) → w0.grownBy w' v.ownBlock → (v'.ownBlock = v.ownBlock ∨ ∃ b,v'.ownBlock = some b ∧ w0.heap.size ≤ b) → K (a.put o.dst v') w') :
  if Region.wanted o (yielded ops a.tmps) = true then Oper.wp P o a (w0.alloc (.cells nw e)) K Q else E:=by
 have hw : Region.wanted o (yielded ops a.tmps) = true:=by simp [Region.wanted,hgd]
 rw [if_pos hw]
 subst hg
 obtain ⟨v',w',hr,h2,h3,h4,h5⟩:=run_append_own_at (P:=P) (w0.alloc (.cells nw e)) base t o.type e i z size bytes ht hi hz hsize hby hzs hsz v n xs (hown.alloc _) ⟨w0.heap.size,0,none⟩ 1 1 nw.toList (by simp [hl])
  (fun j u hu => by
   have e1 : (⟨w0.heap.size,0,none⟩ : Addr).add j = ⟨w0.heap.size,j,none⟩:=by
    unfold Addr.add; by_cases hj : j = 0
    ·simp [hj]
    ·simp [hj]
   rw [e1,cell_of_row (w0.alloc (.cells nw e)) w0.heap.size j nw e (0,0) (heap_alloc_new w0 _)]
   simpa using hu) h1 h63 hbytes (by simp; omega)
 unfold Oper.wp execOp
 simp only [ho,resolve,invoke,builtin,Sem.run_bind,Sem.run_pure,Result.andThen_ok,List.map_toArray,List.map_cons,List.map_nil,hs,hx,hr]
 refine h v' w' h2 (grown_of_alloc h3) ?_
 rcases h5 with h5 | h5
 ·exact .inl h5
 ·exact .inr ⟨_,h5,by simp⟩
end Go.Proofs.YtgklikkddckgbaaGreatDoor
namespace Go.Proofs.YtgklikkddckgbaaGreatDoor
set_option linter.unusedVariables false
set_option linter.unusedSimpArgs false
open Go.RowKit
variable {w w' : World} {base b a a' : Nat} {s t t' : ByteArray} {m m' : Met} {ah ah' : Int} {vf ve vb : Value} {vs : List Value}
theorem RS.box (h0 : RS w base b s a t m ah vf ve vb vs) (h : RS w' base b s a' t' m' ah' vf ve vb vs) (hm : m'.feet.length = m.feet.length) (o : Nat) (v : Value) : RS (w'.setCell ⟨w.heap.size,o,none⟩ v) base b s a' t' m' ah' vf ve vb vs:=by
 have ne : ∀ (v : Value),(∀ k,v.ownBlock = some k → k < w.heap.size) → v.ownBlock = none ∨ v.ownBlock ≠ some w.heap.size:=fun v hv => by
  cases hq : v.ownBlock with
  | none => exact .inl rfl
  | some k => right; intro e; cases e; have:=hv _ hq; omega
 refine h.only (row:=some w.heap.size) (grown_cell w' _ o v) (by have:=h0.bl; simp; omega) (ne _ fun k hk => (h0.feet.lt k hk).2) (ne _ fun k hk => (h0.ends.lt k hk).2) (ne _ fun k hk => (h0.brks.lt k hk).2) fun k hk => ne _ fun q hq => (h0.ways k (by omega)).lt q hq |>.2
theorem RS.drewN (h : RS w base b s a t m ah vf ve vb vs) (n : Nat) : RS (w.drewN n) base b s a t m ah vf ve vb vs:=⟨h.rb,h.hb,h.vl,h.feet,h.ways,h.ends,h.brks,h.apart⟩
theorem Sized.end_ (h : Sized m) (x : Way) (h4 : ¬ m.ends.length = 4) : Sized { m with ends:=m.ends ++ [x] }:=⟨h.feet,h.ways,by have:=h.ends; simp; omega,h.brk⟩
variable {f : Nat} {L : List Tok} {er nn : Int}
theorem ends_bad (h : signsB (hd L).2 1 2 = false) : endsP (f + 1) L m = .error (130,(hd L).1):=by unfold endsP; simp [h]
theorem ends_again (h : signsB (hd L).2 1 2 = true) (h1 : hasW m.ends (hd L).2 = true) : endsP (f + 1) L m = .error (132,(hd L).1):=by unfold endsP; simp [h,h1]
theorem ends_long (h : signsB (hd L).2 1 2 = true) (h1 : hasW m.ends (hd L).2 = false) (h2 : m.ends.length = 4) : endsP (f + 1) L m = .error (3,(hd L).1):=by unfold endsP; simp [h,h1,h2]
theorem ends_num (h : signsB (hd L).2 1 2 = true) (h1 : hasW m.ends (hd L).2 = false) (h2 : ¬ m.ends.length = 4) (h3 : (numE (hd (adv L)).2 0 1048576).2 = er) (h0 : er ≠ 0) : endsP (f + 1) L m = .error (er,(hd (adv L)).1):=by
 unfold endsP; simp [h,h1,h2,h3,h0]
theorem ends_more (h : signsB (hd L).2 1 2 = true) (h1 : hasW m.ends (hd L).2 = false) (h2 : ¬ m.ends.length = 4) (h3 : numE (hd (adv L)).2 0 1048576 = (nn,0)) (h4 : eqS (hd (adv (adv L))).2 COMMA = true) :
  endsP (f + 1) L m = endsP f (adv (adv (adv L))) { m with ends:=m.ends ++ [((hd L).2,nn)] }:=by
 conv => lhs; unfold endsP
 simp [h,h1,h2,h3,h4]
theorem ends_done (h : signsB (hd L).2 1 2 = true) (h1 : hasW m.ends (hd L).2 = false) (h2 : ¬ m.ends.length = 4) (h3 : numE (hd (adv L)).2 0 1048576 = (nn,0)) (h4 : eqS (hd (adv (adv L))).2 COMMA = false) :
  endsP (f + 1) L m = .ok (adv (adv L), { m with ends:=m.ends ++ [((hd L).2,nn)] }):=by
 unfold endsP; simp [h,h1,h2,h3,h4]
set_option maxRecDepth 100000 in
set_option maxHeartbeats 16000000 in
theorem ends_any (h : RS w base b s (hd L).1 (hd L).2 m (aheadOf m) vf ve vb vs) (hL : Cur s L) (hs : s.size ≤ 65536) (hv : Vars w) (h6 : 9 ≤ base) (hz : Sized m) :
  Calls Tryz.prog 145 #[.pointer (some ⟨b,0,none⟩)] w (ClOk base b s w (endsP L.length L m)):=by
 have H:=Lib.hid h
 have Hz:=Lib.hid hz
 have HL:=Lib.hid hL
 have Hv:=Lib.hid hv
 generalize hR : endsP L.length L m = R
 have HR:=Lib.hid hR
 clear h hz hL hv hR
 go_enter Tryz.func145,Tryz.ntmps145
 go_wp2_with fail
 go_loopg [] L.length (fun gg wr => ∃ (L' : List Tok) (m' : Met) (ve' : Value),Hid (L'.length ≤ gg) ∧ Hid (endsP gg L' m' = R) ∧ Hid (Cur s L') ∧ Hid (Sized m') ∧
  Hid (RS wr base b s (hd L').1 (hd L').2 m' (aheadOf m') vf ve' vb vs) ∧ Hid (Below base w wr))
 case atStart => exact ⟨L,m,ve,Lib.hid (Nat.le_refl _),HR,HL,Hz,H,Lib.hid (Below.refl _ _)⟩
 case round =>
  obtain ⟨L',m',ve',hgk,hP,hLc,hzz,hr,hbr⟩:=hrel
  have hpos : 0 < L'.length:=by obtain ⟨p,hp,e⟩:=hLc.out; rw [e]; exact toks_pos s p
  obtain ⟨q,rfl⟩ : ∃ q,gk = q + 1:=⟨gk - 1,by have:=hgk.out; omega⟩
  have d2:=hr.out.rb.c2
  have hbl:=hr.out.bl
  have hne : b ≠ wr.heap.size:=by omega
  have hB1 : Below wr.heap.size wr (wr.alloc (.cells #[.string (hd L').2, .int .i64 0] 83)):=(Below.refl _ wr).alloc (Nat.le_refl _) _
  have hx1 : (wr.alloc (.cells #[.string (hd L').2, .int .i64 0] 83)).heap[wr.heap.size]? = some (.cells #[.string (hd L').2, .int .i64 0] 83 (0,0)):=World.alloc_heap_new wr _
  have H1:=Lib.hid (hr.out.below hB1)
  have Hb1:=Lib.hid (hbr.out.trans (hB1.mono hr.out.bs))
  have Hx1:=Lib.hid hx1
  have hsg:=signs_any (hd L').2 2 (wr.alloc (.cells #[.string (hd L').2, .int .i64 0] 83)) (by have:=hLc.out.size; omega)
  clear hB1 hx1
  have Hr0:=hr
  go_wp2_with fail
  refine hsg.mono ?_
  rintro e w' ⟨rfl,rfl⟩
  clear hsg
  obtain ⟨B,hBe⟩ : ∃ B,B = wr.heap.size:=⟨_,rfl⟩
  generalize hw1 : wr.alloc (.cells #[.string (hd L').2, .int .i64 0] 83) = w1 at *
  clear hw1
  have HBox:=Lib.hid fun (w' : World) (a' : Nat) (t' : ByteArray) (m2 : Met) => RS.box (w':=w') (a':=a') (t':=t') (m':=m2) (ah':=aheadOf m2) Hr0.out
  have c2:=H1.out.rb.c2
  have c4:=H1.out.rb.c4
  have hbl1:=H1.out.bl
  cases hs1 : signsB (hd L').2 1 2 with
  | false =>
   have Hw:=Lib.hid (ends_bad (f:=q) (m:=m') hs1)
   clear hs1
   go_wp2_with fail
   go_ret
   unfold ClOk
   rw [← hP.out,Hw.out]
   exact ⟨Hb1.out,rfl,by decide,H1.out.rb.c1⟩
  | true =>
   obtain ⟨A4,cc4,hv4,hcc4,hw4⟩:=own_ways H1.out.ends
   subst hv4
   have Hhas:=Lib.hid fun (W : World) (hW : Below w1.heap.size w1 W) => has_any A4 cc4 m'.ends (hd L').2 W ((hw4.below hW).more hW.size) (by have:=hzz.out.ends; omega)
   have Hs1:=Lib.hid hs1
   generalize hh : hasW m'.ends (hd L').2 = hasv at Hhas
   have Hh:=Lib.hid hh
   clear hs1 hh hw4 d2
   have hsz1 : wr.heap.size < w1.heap.size:=(Array.getElem?_eq_some_iff.1 Hx1.out).1
   go_wp2_with fail
   go_region_held3 (fun w' => Below w1.heap.size w1 w' ∧ ∀ b o,b < w1.heap.size → w'.cell? ⟨b,o,none⟩ = w1.cell? ⟨b,o,none⟩) (((repeat (apply keepS; assumption)); exact startS)) (first | (go_at_call 174; refine (Hhas.out _ (by first | exact startS.1 | exact And.left (by assumption))).mono ?_; rintro e w9 ⟨rfl,hb9⟩))
   have hS9 : Below w1.heap.size w1 w9:=And.left (by assumption)
   have H9:=Lib.hid (H1.out.below hS9)
   have Hb9:=Lib.hid (Hb1.out.trans (hS9.mono H1.out.bs))
   have Hx9:=Lib.hid ((hS9.block wr.heap.size hsz1).trans Hx1.out)
   have hsz9:=hS9.size
   clear Hhas hS9 hb9
   have c4':=H9.out.rb.c4
   cases hasv with
   | true =>
    have Hw:=Lib.hid (ends_again (f:=q) (m:=m') Hs1.out Hh.out)
    go_wp2_with fail
    go_ret
    unfold ClOk
    rw [← hP.out,Hw.out]
    exact ⟨Hb9.out,rfl,by decide,H9.out.rb.c1⟩
   | false =>
    by_cases hn4 : m'.ends.length = 4
    ·have Hw:=Lib.hid (ends_long (f:=q) (m:=m') Hs1.out Hh.out hn4)
     have hn4' : ((m'.ends.length : Int) == 4) = true:=by simp; omega
     clear hn4
     go_wp2_with fail
     go_ret
     unfold ClOk
     rw [← hP.out,Hw.out]
     exact ⟨Hb9.out,rfl,by decide,H9.out.rb.c1⟩
    ·have hn4' : ((m'.ends.length : Int) == 4) = false:=by simp; omega
     have Hn4:=Lib.hid hn4
     clear hn4
     have hnx:=next_rs H9.out hLc.out hs
     have Hbb:=Lib.hid fun w1 hg => below_b (w':=w1) H9.out hg
     go_wp2_with fail
     refine hnx.mono ?_
     rintro e w10 ⟨rfl,h10,hg10⟩
     have H10:=Lib.hid h10
     have Hb10:=Lib.hid (Hb9.out.trans (Hbb.out w10 hg10))
     have Hx10:=Lib.hid ((hg10.block wr.heap.size (by omega) (by simp; omega)).trans Hx9.out)
     clear hnx Hbb h10 hg10
     have hnum:=number_rs b (hd (adv L')).2 0 1048576 w10 H10.out.rb.c2 H10.out.bl (Hv.out.below Hb10.out h6) (by have:=hLc.out.adv.size; omega)
     have hNe : numE (hd (adv L')).2 0 1048576 = ((numE (hd (adv L')).2 0 1048576).1,(numE (hd (adv L')).2 0 1048576).2):=rfl
     generalize (numE (hd (adv L')).2 0 1048576).1 = nn at hnum hNe
     generalize (numE (hd (adv L')).2 0 1048576).2 = en at hnum hNe
     have HNe:=Lib.hid hNe
     clear hNe
     go_wp2_with fail
     refine hnum.mono ?_
     rintro e w11 ⟨rfl,hb11⟩
     have H11:=Lib.hid (H10.out.below hb11)
     have Hb11:=Lib.hid (Hb10.out.trans (hb11.mono H10.out.bs))
     have Hx11:=Lib.hid ((hb11.block wr.heap.size (Array.getElem?_eq_some_iff.1 Hx10.out).1).trans Hx10.out)
     clear hnum hb11
     have x0 : w11.cell? ⟨wr.heap.size,0,none⟩ = some (.string (hd L').2):=cell_of_row _ _ _ _ 83 (0,0) Hx11.out
     have x1 : w11.cell? ⟨wr.heap.size,1,none⟩ = some (.int .i64 0):=cell_of_row _ _ _ _ 83 (0,0) Hx11.out
     have xz:=frozen_of_row w11 wr.heap.size 1 _ 83 Hx11.out
     have H12:=Lib.hid (HBox.out w11 _ _ _ H11.out rfl 1 (.int .i64 nn))
     have Hb12:=Lib.hid (Hb11.out.setCell (p:=⟨wr.heap.size,1,none⟩) (by show base ≤ wr.heap.size; exact Hr0.out.bs) (.int .i64 nn))
     have Hx12 : Hid ((w11.setCell ⟨wr.heap.size,1,none⟩ (.int .i64 nn)).heap[wr.heap.size]? = some (.cells #[.string (hd L').2, .int .i64 nn] 83 (0,0))):=Lib.hid (heap_setCell_same w11 wr.heap.size 1 _ 83 _ Hx11.out)
     by_cases hn0 : en = 0
     ·subst hn0
      have Hm9:=Lib.hid (hzz.out.end_ ((hd L').2,nn) Hn4.out)
      go_wp2_with fail
      generalize hw12 : w11.setCell ⟨wr.heap.size,1,none⟩ (.int .i64 nn) = w12 at *
      clear hw12 x0 x1 xz
      have x0 : w12.cell? ⟨wr.heap.size,0,none⟩ = some (.string (hd L').2):=cell_of_row _ _ _ _ 83 (0,0) Hx12.out
      have x1 : w12.cell? ⟨wr.heap.size,1,none⟩ = some (.int .i64 nn):=cell_of_row _ _ _ _ 83 (0,0) Hx12.out
      have e4:=H12.out.rb.c4
      have hbl12:=H12.out.bl
      have hbs12:=H12.out.bs
      have hne12 : (Value.slice A4 m'.ends.length cc4).ownBlock ≠ some b:=by rcases own_neb H12.out.ends H12.out.rb (by decide) with e | e; · rw [e]; simp
                                                                             ·exact e
      have z4:=H12.out.rb.z 4
      have Hzc:=Lib.hid fun (w4 : World) (hg : w12.drew.grownBy w4 (Value.slice A4 m'.ends.length cc4).ownBlock) => And.intro ((World.frozen?_of_block (w:=w12) (w':=w4) (a:=⟨b,4,none⟩) (hg.block b hbl12 (fun e => hne12 e.symm))).trans z4) ((World.cell?_of_block (w:=w12) (w':=w4) (a:=⟨b,4,none⟩) (hg.block b hbl12 (fun e => hne12 e.symm))).trans e4)
      have Hown : Hid (w12.drew.ownsRow base 83 2 (.slice A4 m'.ends.length cc4) m'.ends.length (wayCells m'.ends)):=Lib.hid H12.out.ends
      have H13 : Hid (RS w12.drew base b s (hd (adv L')).1 (hd (adv L')).2 m' (aheadOf m') vf (.slice A4 m'.ends.length cc4) vb vs):=Lib.hid (H12.out.drewN 1)
      have Hend:=Lib.hid fun (w4 : World) (v4 : Value) ho hg hat => H13.out.end_ (w1:=w4) (x:=((hd L').2,nn)) (v':=v4) ho hg hat
      have hfb : ∀ k,(Value.slice A4 m'.ends.length cc4).ownBlock = some k → base ≤ k:=fun k hk => (H12.out.ends.lt k hk).1
      have Hbel:=Lib.hid fun (w4 : World) (hg : w12.drew.grownBy w4 (Value.slice A4 m'.ends.length cc4).ownBlock) (v4 : Value) => ((belowD Hb12.out 1 : Below base w w12.drew).grown hg hbs12 hfb).setCell (show base ≤ b from H12.out.hb) v4 (p:=⟨b,4,none⟩)
      have hel:=hzz.out.ends
      have Hbs12:=Lib.hid hbs12
      have hone : ∀ u ∈ (#[.string (hd L').2, .int .i64 nn] : Array Value).toList,u.oneCell' = true:=by
       intro u hu; simp at hu; rcases hu with rfl | rfl <;> rfl
      have Hone:=Lib.hid hone
      have Hmx : Hid (m'.ends.length + 1 ≤ maxLen):=Lib.hid (by unfold maxLen; omega)
      have Hby : Hid ((m'.ends.length + 1) * 24 ≤ 140737488355328):=Lib.hid (by omega)
      have Hpos : Hid (0 < m'.ends.length + 1):=Lib.hid (by omega)
      clear hfb hne12 hone
      go_region_law (refine step_append_boxg w12.drew (by rfl) (.tmp 59) (.tmp 61) 76 (by rfl) base 83 _ _ 2 24 Tryz.underlying76 info100 zero100 size100 bytes100 rfl (by decide) (.slice A4 m'.ends.length cc4) m'.ends.length (wayCells m'.ends) _ _ (by simp [Act.eval,Act.put]) (by simp [Act.eval,Act.put]; rfl) (by simp) (by exact Hown.out) rfl (by exact Hone.out) Hmx.out Hby.out (by exact Hbs12.out) ?_; intro v1 w4 hown1 hg1 hat1; obtain ⟨g1,cap1,rfl⟩:=own_form hown1 Hpos.out; obtain ⟨hz1,hc3⟩:=Hzc.out _ hg1; have Hfin:=Lib.hid (Hend.out _ _ hown1 hg1 hat1); have Hfin2:=Lib.hid (Hbel.out _ hg1 (.slice (some ⟨g1,0,none⟩) (m'.ends.length + 1) cap1)); clear hown1 hg1 hat1)
      all_goals
       have hnx:=next_rs Hfin.out hLc.out.adv hs
       have Hbb:=Lib.hid fun w1 hg => below_b (w':=w1) Hfin.out hg
       go_wp2_with fail
       refine hnx.mono ?_
       rintro e w7 ⟨rfl,h7,hg7⟩
       have H7:=Lib.hid h7
       have Hb7:=Lib.hid (Hfin2.out.trans (Hbb.out w7 hg7))
       clear hnx Hbb h7 hg7
       have d2:=H7.out.rb.c2
       have hq7 : eqS (hd (adv (adv L'))).2 COMMA = ((hd (adv (adv L'))).2.toList == [44]):=eqS_comma _
       cases hc : eqS (hd (adv (adv L'))).2 COMMA with
       | true =>
        have hne : ((hd (adv (adv L'))).2.toList == [44]) = true:=by rw [← hq7,hc]
        have Hw:=Lib.hid (ends_more (f:=q) (m:=m') Hs1.out Hh.out Hn4.out HNe.out hc)
        have Hlt:=Lib.hid (comma_lt hLc.out.adv.adv hc)
        clear hc hq7
        have hnx:=next_rs H7.out hLc.out.adv.adv hs
        have Hbb:=Lib.hid fun w1 hg => below_b (w':=w1) H7.out hg
        go_wp2_with fail
        refine hnx.mono ?_
        rintro e w8 ⟨rfl,h8,hg8⟩
        have H8:=Lib.hid h8
        have Hb8:=Lib.hid (Hb7.out.trans (Hbb.out w8 hg8))
        clear hnx Hbb h8 hg8
        go_wp2_with fail
        go_roundg q
        case measure => omega
        case rel => exact ⟨_,_,_,Lib.hid (by have:=hgk.out; have:=Hlt.out; have:=adv_len L'; have:=adv_len (adv L'); omega),Lib.hid (Hw.out.symm.trans hP.out),Lib.hid hLc.out.adv.adv.adv,Hm9,H8,Hb8⟩
       | false =>
        have hne : ((hd (adv (adv L'))).2.toList == [44]) = false:=by rw [← hq7,hc]
        have Hw:=Lib.hid (ends_done (f:=q) (m:=m') Hs1.out Hh.out Hn4.out HNe.out hc)
        clear hc hq7
        go_wp2_with fail
        go_ret
        unfold ClOk
        rw [← hP.out,Hw.out]
        exact ⟨Hb7.out,rfl,hLc.out.adv.adv,Hm9.out,_,_,_,_,H7.out⟩
     ·have h0' : (en != 0) = true:=by simpa using hn0
      have Hw:=Lib.hid (ends_num (f:=q) (m:=m') Hs1.out Hh.out Hn4.out (by rw [HNe.out]) hn0)
      have H0:=Lib.hid hn0
      clear hn0
      go_wp2_with fail
      go_ret
      unfold ClOk
      rw [← hP.out,Hw.out]
      exact ⟨Hb12.out,rfl,H0.out,H12.out.rb.c1⟩
end Go.Proofs.YtgklikkddckgbaaGreatDoor
namespace Go.Proofs.YtgklikkddckgbaaGreatDoor
set_option linter.unusedVariables false
set_option linter.unusedSimpArgs false
open Go.RowKit
variable {w : World} {base b : Nat} {s : ByteArray} {m : Met} {vf ve vb : Value} {vs : List Value} {L : List Tok} {er nn n2 : Int}
theorem pause_no1 (h : (numE (hd L).2 (aheadOf m + 1) (m.feet.length - 1)).2 = er) (h0 : er ≠ 0) : pauseP L m = .error (er,(hd L).1):=by unfold pauseP; simp [h,h0]
theorem pause_no2 (h : numE (hd L).2 (aheadOf m + 1) (m.feet.length - 1) = (nn,0)) (h1 : (numE (hd (adv L)).2 1 1048576).2 = er) (h0 : er ≠ 0) : pauseP L m = .error (er,(hd (adv L)).1):=by unfold pauseP; simp [h,h1,h0]
theorem pause_ok (h : numE (hd L).2 (aheadOf m + 1) (m.feet.length - 1) = (nn,0)) (h1 : numE (hd (adv L)).2 1 1048576 = (n2,0)) : pauseP L m = .ok (adv (adv L), { m with brks:=m.brks ++ [(nn,n2)] }):=by unfold pauseP; simp [h,h1]
theorem ahead_snoc (m : Met) (x : Int × Int) : aheadOf { m with brks:=m.brks ++ [x] } = x.1:=by simp [aheadOf]
theorem Sized.brk_ (h : Sized m) (x : Int × Int) (h1 : aheadOf m + 1 ≤ x.1) (h2 : x.1 ≤ 16) : Sized { m with brks:=m.brks ++ [x] }:=⟨h.feet,h.ways,h.ends,by rw [ahead_snoc]; have:=h.brk; simp; omega⟩
theorem RS.put6 {a : Nat} {t : ByteArray} {ah : Int} (h : RS w base b s a t m ah vf ve vb vs) (v : Int) : RS (w.setCell ⟨b,6,none⟩ (.int .i64 v)) base b s a t m v vf ve vb vs:=h.move (grown_cell w b 6 _) (h.rb.put6 v)
set_option maxRecDepth 100000 in
set_option maxHeartbeats 16000000 in
theorem pause_any (h : RS w base b s (hd L).1 (hd L).2 m (aheadOf m) vf ve vb vs) (hL : Cur s L) (hs : s.size ≤ 65536) (hv : Vars w) (h6 : 9 ≤ base) (hz : Sized m) :
  Calls Tryz.prog 146 #[.pointer (some ⟨b,0,none⟩)] w (ClOk base b s w (pauseP L m)):=by
 have H:=Lib.hid h
 have Hz:=Lib.hid hz
 have HL:=Lib.hid hL
 have Hv:=Lib.hid hv
 obtain ⟨A3,cc3,hvf⟩:=own_slice h.feet
 subst hvf
 have c2:=h.rb.c2
 have c3:=h.rb.c3
 have c6:=h.rb.c6
 have z6:=h.rb.z 6
 have hbl:=h.bl
 have ha0 : (0 : Int) ≤ aheadOf m:=by have:=hz.brk.1; omega
 have ha1 : aheadOf m ≤ 16:=hz.brk.2
 have hfl : m.feet.length ≤ 16:=hz.feet
 have hnum:=number_rs b (hd L).2 (aheadOf m + 1) (m.feet.length - 1) w.drew c2 hbl (hv.drewN 1) (by have:=hL.size; omega)
 have Hin:=Lib.hid (fun h => numE_in (t:=(hd L).2) (lo:=aheadOf m + 1) (hi:=m.feet.length - 1) h)
 generalize hNe : numE (hd L).2 (aheadOf m + 1) (m.feet.length - 1) = E at hnum Hin
 obtain ⟨nn,en⟩:=E
 simp only [] at hnum Hin
 have HNe:=Lib.hid hNe
 have Hnum:=Lib.hid hnum
 have Hbel9:=Lib.hid fun (w9 : World) (hb9 : Below w.drew.heap.size w.drew w9) => And.intro ((RS.drewN H.out 1).below hb9) ((belowD (Below.refl base w) 1 : Below base w w.drew).trans (hb9.mono H.out.bs))
 have Hst:=Lib.hid fun (w9 : World) (hb9 : Below w.drew.heap.size w.drew w9) => And.intro ((hb9.cell (p:=⟨b,6,none⟩) hbl).trans c6) ((hb9.frozen (p:=⟨b,6,none⟩) hbl).trans z6)
 clear h hz hL hv hNe hnum
 have hwr1 : IntKind.i64.wrap (aheadOf m + 1) = aheadOf m + 1:=IntWalk.i64_in _ (by omega)
 have hwr2 : IntKind.i64.wrap ((m.feet.length : Int) - 1) = (m.feet.length : Int) - 1:=IntWalk.i64_in _ (by omega)
 go_enter Tryz.func146,Tryz.ntmps146
 go_wp2_with fail
 go_region_with (go_at_call 148; refine (Hnum.out).mono ?_; rintro e w9 ⟨rfl,hb9⟩; obtain ⟨c69,z69⟩:=Hst.out _ hb9; obtain ⟨h9,hbe9⟩:=Hbel9.out _ hb9; have H10:=Lib.hid (h9.put6 nn); have Hb10:=Lib.hid (hbe9.setCell (show base ≤ b from h9.hb) (.int .i64 nn) (p:=⟨b,6,none⟩)); clear h9 hbe9 hb9)
 all_goals
  clear hwr1 hwr2 Hnum Hbel9 Hst
  by_cases h0 : en = 0
  ·subst h0
   have Hin1:=Lib.hid (Hin.out rfl)
   have hnx:=next_rs H10.out HL.out hs
   have Hbb:=Lib.hid fun w1 hg => below_b (w':=w1) H10.out hg
   go_wp2_with fail
   refine hnx.mono ?_
   rintro e w11 ⟨rfl,h11,hg11⟩
   have H11:=Lib.hid h11
   have Hb11:=Lib.hid (Hb10.out.trans (Hbb.out w11 hg11))
   clear hnx Hbb h11 hg11
   have hnum:=number_rs b (hd (adv L)).2 1 1048576 w11 H11.out.rb.c2 H11.out.bl (Hv.out.below Hb11.out h6) (by have:=HL.out.adv.size; omega)
   have hNe2 : numE (hd (adv L)).2 1 1048576 = ((numE (hd (adv L)).2 1 1048576).1,(numE (hd (adv L)).2 1 1048576).2):=rfl
   generalize (numE (hd (adv L)).2 1 1048576).1 = n2 at hnum hNe2
   generalize (numE (hd (adv L)).2 1 1048576).2 = e2 at hnum hNe2
   have HNe2:=Lib.hid hNe2
   clear hNe2
   go_wp2_with fail
   refine hnum.mono ?_
   rintro e w12 ⟨rfl,hb12⟩
   have H12:=Lib.hid (H11.out.below hb12)
   have Hb12:=Lib.hid (Hb11.out.trans (hb12.mono H11.out.bs))
   clear hnum hb12
   by_cases h2 : e2 = 0
   ·subst h2
    have Hw:=Lib.hid (pause_ok HNe.out HNe2.out)
    have Hm9:=Lib.hid (Hz.out.brk_ (nn,n2) Hin1.out.1 (by have:=Hin1.out.2; omega))
    obtain ⟨A5,cc5,hvb⟩:=own_slice H12.out.brks
    have e5:=H12.out.rb.c5
    have e6:=H12.out.rb.c6
    have z5:=H12.out.rb.z 5
    have hbl12:=H12.out.bl
    have hbs12:=H12.out.bs
    have hne12 : vb.ownBlock ≠ some b:=by rcases own_neb H12.out.brks H12.out.rb (by decide) with e | e; · rw [e]; simp
                                          ·exact e
    have Hzc:=Lib.hid fun (w4 : World) (hg : w12.drew.grownBy w4 vb.ownBlock) => And.intro ((World.frozen?_of_block (w:=w12) (w':=w4) (a:=⟨b,5,none⟩) (hg.block b hbl12 (fun e => hne12 e.symm))).trans z5) ((World.cell?_of_block (w:=w12) (w':=w4) (a:=⟨b,5,none⟩) (hg.block b hbl12 (fun e => hne12 e.symm))).trans e5)
    have Hown : Hid (w12.drew.ownsRow base 85 2 vb m.brks.length (brkCells m.brks)):=Lib.hid H12.out.brks
    have H13 : Hid (RS w12.drew base b s (hd (adv L)).1 (hd (adv L)).2 m nn (.slice A3 m.feet.length cc3) ve vb vs):=Lib.hid (H12.out.drewN 1)
    have Hend:=Lib.hid fun (w4 : World) (v4 : Value) ho hg => H13.out.brk (w1:=w4) (x:=(nn,n2)) (v':=v4) ho hg
    have hfb : ∀ k,vb.ownBlock = some k → base ≤ k:=fun k hk => (H12.out.brks.lt k hk).1
    have Hbel:=Lib.hid fun (w4 : World) (hg : w12.drew.grownBy w4 vb.ownBlock) (v4 : Value) => ((belowD Hb12.out 1 : Below base w w12.drew).grown hg hbs12 hfb).setCell (show base ≤ b from H12.out.hb) v4 (p:=⟨b,5,none⟩)
    have hel : m.brks.length ≤ 16:=by have:=Hz.out.brk; omega
    have Hbs12:=Lib.hid hbs12
    have hone : ∀ u ∈ (#[.int .i64 nn, .int .i64 n2] : Array Value).toList,u.oneCell' = true:=by
     intro u hu; simp at hu; rcases hu with rfl | rfl <;> rfl
    have Hone:=Lib.hid hone
    have Hmx : Hid (m.brks.length + 1 ≤ maxLen):=Lib.hid (by unfold maxLen; omega)
    have Hby : Hid ((m.brks.length + 1) * 16 ≤ 140737488355328):=Lib.hid (by omega)
    have Hpos : Hid (0 < m.brks.length + 1):=Lib.hid (by omega)
    clear hfb hne12 hone
    subst hvb
    go_wp2_with fail
    go_region_law (refine step_append_boxg w12.drew (by rfl) (.tmp 48) (.tmp 55) 77 (by rfl) base 85 _ _ 2 16 Tryz.underlying77 info98 zero98 size98 bytes98 rfl (by decide) (.slice A5 m.brks.length cc5) m.brks.length (brkCells m.brks) _ _ (by simp [Act.eval,Act.put]) (by simp [Act.eval,Act.put]; rfl) (by simp) (by exact Hown.out) rfl (by exact Hone.out) Hmx.out Hby.out (by exact Hbs12.out) ?_; intro v1 w4 hown1 hg1 hat1; obtain ⟨g1,cap1,rfl⟩:=own_form hown1 Hpos.out; obtain ⟨hz1,hc3⟩:=Hzc.out _ hg1; have Hfin:=Lib.hid (Hend.out _ _ hown1 hg1); have Hfin2:=Lib.hid (Hbel.out _ hg1 (.slice (some ⟨g1,0,none⟩) (m.brks.length + 1) cap1)); clear hown1 hg1 hat1)
    all_goals
     have hnx:=next_rs Hfin.out HL.out.adv hs
     have Hbb:=Lib.hid fun w1 hg => below_b (w':=w1) Hfin.out hg
     go_wp2_with fail
     refine hnx.mono ?_
     rintro e w7 ⟨rfl,h7,hg7⟩
     have H7:=Lib.hid h7
     have Hb7:=Lib.hid (Hfin2.out.trans (Hbb.out w7 hg7))
     clear hnx Hbb h7 hg7
     go_wp2_with fail
     go_ret
     unfold ClOk
     rw [Hw.out]
     exact ⟨Hb7.out,rfl,HL.out.adv.adv,Hm9.out,_,_,_,_,by rw [ahead_snoc]; exact H7.out⟩
   ·have h2' : (e2 != 0) = true:=by simpa using h2
    have Hw:=Lib.hid (pause_no2 HNe.out (by rw [HNe2.out]) h2)
    have H2:=Lib.hid h2
    clear h2
    go_wp2_with fail
    go_ret
    unfold ClOk
    rw [Hw.out]
    exact ⟨Hb12.out,rfl,H2.out,H12.out.rb.c1⟩
  ·have h0' : (en != 0) = true:=by simpa using h0
   have Hw:=Lib.hid (pause_no1 (by rw [HNe.out]) h0)
   have H0:=Lib.hid h0
   clear h0
   go_wp2_with fail
   go_ret
   unfold ClOk
   rw [Hw.out]
   exact ⟨Hb10.out,rfl,H0.out,H10.out.rb.c1⟩
end Go.Proofs.YtgklikkddckgbaaGreatDoor
namespace Go.Proofs.YtgklikkddckgbaaGreatDoor
set_option linter.unusedVariables false
set_option linter.unusedSimpArgs false
open Go.RowKit
set_option maxRecDepth 100000 in
theorem arr_152 (f : Nat → Value) : #[f 0,f 1,f 2,f 3,f 4,f 5,f 6,f 7,f 8,f 9,f 10,f 11,f 12,f 13,f 14,f 15,f 16,f 17,f 18,f 19,f 20,f 21,f 22,f 23,f 24,f 25,f 26,f 27,f 28,f 29,f 30,f 31,f 32,f 33,f 34,f 35,f 36,f 37,f 38,f 39,f 40,f 41,f 42,f 43,f 44,f 45,f 46,f 47,f 48,f 49,f 50,f 51,f 52,f 53,f 54,f 55,f 56,f 57,f 58,f 59,f 60,f 61,f 62,f 63,f 64,f 65,f 66,f 67,f 68,f 69,f 70,f 71,f 72,f 73,f 74,f 75,f 76,f 77,f 78,f 79,f 80,f 81,f 82,f 83,f 84,f 85,f 86,f 87,f 88,f 89,f 90,f 91,f 92,f 93,f 94,f 95,f 96,f 97,f 98,f 99,f 100,f 101,f 102,f 103,f 104,f 105,f 106,f 107,f 108,f 109,f 110,f 111,f 112,f 113,f 114,f 115,f 116,f 117,f 118,f 119,f 120,f 121,f 122,f 123,f 124,f 125,f 126,f 127,f 128,f 129,f 130,f 131,f 132,f 133,f 134,f 135,f 136,f 137,f 138,f 139,f 140,f 141,f 142,f 143,f 144,f 145,f 146,f 147,f 148,f 149,f 150,f 151] = ((List.range 152).map f).toArray:=by kernel_rfl
theorem arr_of (t : Array Value) (h : t.size = 152) : t = ((List.range 152).map fun n => t.getD n undef).toArray:=by
 apply Array.ext
 ·simp [h]
 ·intro i h1 h2
  simp [Array.getD,h1]
def Fr (s : ByteArray) (B b : Nat) (a : Act) : Prop:= ∃ f : Nat → Value,a = { tmps:= #[.string s,f 1, .pointer (some ⟨B,0,none⟩), .pointer (some ⟨B + 1,0,none⟩),f 4,f 5,f 6, .pointer (some ⟨b,0,none⟩),f 8,f 9,f 10,f 11,f 12,f 13,f 14,f 15,f 16,f 17,f 18,f 19,f 20,f 21,f 22,f 23,f 24,f 25,f 26,f 27,f 28,f 29,f 30,f 31,f 32,f 33,f 34,f 35,f 36,f 37,f 38,f 39,f 40,f 41,f 42,f 43,f 44,f 45,f 46,f 47,f 48,f 49,f 50,f 51,f 52,f 53,f 54,f 55,f 56,f 57,f 58,f 59,f 60,f 61,f 62,f 63,f 64,f 65,f 66,f 67,f 68,f 69,f 70,f 71,f 72,f 73,f 74,f 75,f 76,f 77,f 78,f 79,f 80,f 81,f 82,f 83,f 84,f 85,f 86,f 87,f 88,f 89,f 90,f 91,f 92,f 93,f 94,f 95,f 96,f 97,f 98,f 99,f 100,f 101,f 102,f 103,f 104,f 105,f 106,f 107,f 108,f 109,f 110,f 111,f 112,f 113,f 114,f 115,f 116,f 117,f 118,f 119,f 120,f 121,f 122,f 123,f 124,f 125,f 126,f 127,f 128,f 129,f 130,f 131,f 132,f 133,f 134,f 135,f 136,f 137,f 138,f 139,f 140,f 141,f 142,f 143,f 144,f 145,f 146,f 147,f 148,f 149,f 150,f 151],defers:= [] }
def FrE (s : ByteArray) (B b : Nat) (c : Int) (a : Act) : Prop:= ∃ f : Nat → Value,a = { tmps:= #[.string s,f 1, .pointer (some ⟨B,0,none⟩), .pointer (some ⟨B + 1,0,none⟩), .int .i64 c,f 5,f 6, .pointer (some ⟨b,0,none⟩),f 8,f 9,f 10,f 11,f 12,f 13,f 14,f 15,f 16,f 17,f 18,f 19,f 20,f 21,f 22,f 23,f 24,f 25,f 26,f 27,f 28,f 29,f 30,f 31,f 32,f 33,f 34,f 35,f 36,f 37,f 38,f 39,f 40,f 41,f 42,f 43,f 44,f 45,f 46,f 47,f 48,f 49,f 50,f 51,f 52,f 53,f 54,f 55,f 56,f 57,f 58,f 59,f 60,f 61,f 62,f 63,f 64,f 65,f 66,f 67,f 68,f 69,f 70,f 71,f 72,f 73,f 74,f 75,f 76,f 77,f 78,f 79,f 80,f 81,f 82,f 83,f 84,f 85,f 86,f 87,f 88,f 89,f 90,f 91,f 92,f 93,f 94,f 95,f 96,f 97,f 98,f 99,f 100,f 101,f 102,f 103,f 104,f 105,f 106,f 107,f 108,f 109,f 110,f 111,f 112,f 113,f 114,f 115,f 116,f 117,f 118,f 119,f 120,f 121,f 122,f 123,f 124,f 125,f 126,f 127,f 128,f 129,f 130,f 131,f 132,f 133,f 134,f 135,f 136,f 137,f 138,f 139,f 140,f 141,f 142,f 143,f 144,f 145,f 146,f 147,f 148,f 149,f 150,f 151],defers:= [] }
set_option maxRecDepth 100000 in
theorem Fr.of {s : ByteArray} {B b : Nat} {a : Act} (hd : a.defers = []) (hs : a.tmps.size = 152) (h0 : a.tmps.getD 0 undef = .string s) (h2 : a.tmps.getD 2 undef = .pointer (some ⟨B,0,none⟩)) (h3 : a.tmps.getD 3 undef = .pointer (some ⟨B + 1,0,none⟩)) (h7 : a.tmps.getD 7 undef = .pointer (some ⟨b,0,none⟩)) : Fr s B b a:=by
 refine ⟨fun n => a.tmps.getD n undef,?_⟩
 have e:=(arr_of a.tmps hs).trans (arr_152 fun n => a.tmps.getD n undef).symm
 obtain ⟨t,d⟩:=a
 simp only [] at *
 rw [h0,h2,h3,h7] at e
 rw [hd, ← e]
set_option maxRecDepth 100000 in
theorem FrE.of {s : ByteArray} {B b : Nat} {c : Int} {a : Act} (hd : a.defers = []) (hs : a.tmps.size = 152) (h0 : a.tmps.getD 0 undef = .string s) (h2 : a.tmps.getD 2 undef = .pointer (some ⟨B,0,none⟩)) (h3 : a.tmps.getD 3 undef = .pointer (some ⟨B + 1,0,none⟩)) (h4 : a.tmps.getD 4 undef = .int .i64 c) (h7 : a.tmps.getD 7 undef = .pointer (some ⟨b,0,none⟩)) : FrE s B b c a:=by
 refine ⟨fun n => a.tmps.getD n undef,?_⟩
 have e:=(arr_of a.tmps hs).trans (arr_152 fun n => a.tmps.getD n undef).symm
 obtain ⟨t,d⟩:=a
 simp only [] at *
 rw [h0,h2,h3,h4,h7] at e
 rw [hd, ← e]
end Go.Proofs.YtgklikkddckgbaaGreatDoor

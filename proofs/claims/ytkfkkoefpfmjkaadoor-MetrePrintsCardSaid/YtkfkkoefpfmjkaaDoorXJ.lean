import Derived.Test.YtkfkkoefpfmjkaaDoorXI
namespace Go.Proofs.YtkfkkoefpfmjkaaDoor
set_option linter.unusedVariables false
set_option linter.unusedSimpArgs false
open Go.RowKit

/- Print's state: the builder in block b holds l; block p holds the closure put. -/
def FN74 (b : Nat) : Value := .func (.func 74) #[] #[.pointer (some ⟨b, 0, none⟩)]
structure PS (b p : Nat) (W2 : World) (l : List UInt8) (w : World) : Prop where
  bb : BB b l w
  fn : w.heap[p]? = some (.cells #[FN74 b] 140 (0, 0))
  lo : Below b W2 w
  ne : p ≠ b
theorem PS.bw {b p : Nat} {W2 w : World} {l : List UInt8} (h : PS b p W2 l w) : b < w.heap.size := h.bb.lt
theorem PS.pw {b p : Nat} {W2 w : World} {l : List UInt8} (h : PS b p W2 l w) : p < w.heap.size := (Array.getElem?_eq_some_iff.1 h.fn).1
theorem PS.below {b p : Nat} {W2 w w' : World} {l : List UInt8} (h : PS b p W2 l w) (hb : Below w.heap.size w w') : PS b p W2 l w' :=
  ⟨h.bb.below hb, (hb.block p h.pw).trans h.fn, h.lo.trans (hb.mono (Nat.le_of_lt h.bw)), h.ne⟩
theorem PS.step {b p : Nat} {W2 w w' : World} {l : List UInt8} (hb : Below w.heap.size w w') (h : PS b p W2 l w) : PS b p W2 l w' := h.below hb
theorem PS.alloc {b p : Nat} {W2 w : World} {l : List UInt8} (h : PS b p W2 l w) (o : Obj) : PS b p W2 l (w.alloc o) := h.below ((Below.refl _ _).alloc (Nat.le_refl _) o)
theorem PS.drew {b p : Nat} {W2 w : World} {l : List UInt8} (h : PS b p W2 l w) : PS b p W2 l w.drew := h.below (Below.refl _ _).drew
theorem PS.cell {b p : Nat} {W2 w : World} {l : List UInt8} (h : PS b p W2 l w) : w.cell? ⟨p, 0, none⟩ = some (.func (.func 74) #[] #[.pointer (some ⟨b, 0, none⟩)]) := cell_of_row _ _ 0 _ 140 (0, 0) h.fn
theorem PS.text {b p : Nat} {W2 w : World} {l l' : List UInt8} (h : PS b p W2 l w) (e : l = l') : PS b p W2 l' w := e ▸ h
theorem PS.put {b p : Nat} {W2 w w' : World} {l l' : List UInt8} (h : PS b p W2 l w) (h1 : BB b l' w') (h2 : Below b w w') (h3 : Lib.OthersKept 5 (some b) w w') : PS b p W2 l' w' :=
  ⟨h1, h3 p _ h.fn (fun e => h.ne (Option.some.inj e)) (fun c fz e => by injection e with e1 e2 e3; cases e2), h.lo.trans h2, h.ne⟩
theorem putS (b g c p n : Nat) (l : List UInt8) (xs : List ByteArray) (W2 w : World) (h : PS b p W2 l w) (hn0 : xs.length = n) (hg : g < w.heap.size) (hc : ∀ (j : Nat) x, xs[j]? = some x → w.cell? ⟨g, 0 + j, none⟩ = some (.string x)) (hn : n ≤ c) (hx : n ≤ 16)
    (hl : l.length + (putL xs).length ≤ 1000000) :
    Calls Tryd.prog 74 #[.slice (some ⟨g, 0, none⟩) n c, .pointer (some ⟨b, 0, none⟩)] w fun e w' => (∃ v, e = .returned v) ∧ PS b p W2 (l ++ putL xs) w' ∧ Below b w w' ∧ Lib.OthersKept 5 (some b) w w' := by
  subst hn0
  exact (put_any b g c l xs w h.bb hg hc hn hx hl).mono fun e w' ⟨h1, h2, h3, h4⟩ => ⟨h1, h.put h2 h3 h4, h3, h4⟩
theorem kept_block {b k : Nat} {t : TypeId} {xs : Array Value} {w w' : World} (h : Lib.OthersKept 5 (some b) w w') (hk : w.heap[k]? = some (.cells xs t (0, 0))) (hb : k ≠ b) (ht : t ≠ 5) : w'.heap[k]? = some (.cells xs t (0, 0)) :=
  h k _ hk (fun e => hb (Option.some.inj e)) (fun c fz e => by injection e with e1 e2 e3; exact ht e2)
/- What a region that prints keeps: Print's lower blocks, a box of two cells, the closure. -/
structure SB (b p vb t : Nat) (x y : Value) (wq w : World) : Prop where
  lo : Below b wq w
  bw : b < w.heap.size
  box : w.heap[vb]? = some (.cells #[x, y] t (0, 0))
  fn : w.heap[p]? = some (.cells #[FN74 b] 140 (0, 0))
  vne : vb ≠ b
  pne : p ≠ b
  t5 : t ≠ 5
def SC (p vb b : Nat) (x y : Value) (w : World) : Prop := w.cell? ⟨vb, 0, none⟩ = some x ∧ w.cell? ⟨vb, 1, none⟩ = some y ∧ w.cell? ⟨p, 0, none⟩ = some (.func (.func 74) #[] #[.pointer (some ⟨b, 0, none⟩)])
theorem SB.all {b p vb t : Nat} {x y : Value} {wq w : World} (h : SB b p vb t x y wq w) : SB b p vb t x y wq w ∧ w.cell? ⟨vb, 0, none⟩ = some x ∧ w.cell? ⟨vb, 1, none⟩ = some y ∧ w.cell? ⟨p, 0, none⟩ = some (.func (.func 74) #[] #[.pointer (some ⟨b, 0, none⟩)]) :=
  ⟨h, cell_of_row _ _ 0 _ t (0, 0) h.box, cell_of_row _ _ 1 _ t (0, 0) h.box, cell_of_row _ _ 0 _ 140 (0, 0) h.fn⟩
theorem SB.keep {b p vb t : Nat} {x y : Value} {wq w w' : World} (h : SB b p vb t x y wq w) (hb : Below w.heap.size w w') : SB b p vb t x y wq w' :=
  ⟨h.lo.trans (hb.mono (Nat.le_of_lt h.bw)), by have := hb.size; have := h.bw; omega, (hb.block _ (Array.getElem?_eq_some_iff.1 h.box).1).trans h.box, (hb.block _ (Array.getElem?_eq_some_iff.1 h.fn).1).trans h.fn, h.vne, h.pne, h.t5⟩
theorem SB.put {b p vb t : Nat} {x y : Value} {wq w w' : World} (h : SB b p vb t x y wq w) (h2 : Below b w w') (h3 : Lib.OthersKept 5 (some b) w w') : SB b p vb t x y wq w' :=
  ⟨h.lo.trans h2, by have := h2.size; have := h.bw; omega, kept_block h3 h.box h.vne h.t5, kept_block h3 h.fn h.pne (by decide), h.vne, h.pne, h.t5⟩
theorem SB.keepA {b p vb t : Nat} {x y : Value} {wq w w' : World} {A : Prop} (h : SB b p vb t x y wq w ∧ A) (hb : Below w.heap.size w w') : SB b p vb t x y wq w' ∧ w'.cell? ⟨vb, 0, none⟩ = some x ∧ w'.cell? ⟨vb, 1, none⟩ = some y ∧ w'.cell? ⟨p, 0, none⟩ = some (.func (.func 74) #[] #[.pointer (some ⟨b, 0, none⟩)]) := (h.1.keep hb).all
theorem SB.allocA {b p vb t : Nat} {x y : Value} {wq w : World} {A : Prop} {o : Obj} (h : SB b p vb t x y wq w ∧ A) : SB b p vb t x y wq (w.alloc o) ∧ (w.alloc o).cell? ⟨vb, 0, none⟩ = some x ∧ (w.alloc o).cell? ⟨vb, 1, none⟩ = some y ∧ (w.alloc o).cell? ⟨p, 0, none⟩ = some (.func (.func 74) #[] #[.pointer (some ⟨b, 0, none⟩)]) := (h.1.keep ((Below.refl _ w).alloc (Nat.le_refl _) o)).all
theorem SB.putA {b p vb t : Nat} {x y : Value} {wq w w' : World} {A : Prop} (h : SB b p vb t x y wq w ∧ A) (h2 : Below b w w') (h3 : Lib.OthersKept 5 (some b) w w') : SB b p vb t x y wq w' ∧ w'.cell? ⟨vb, 0, none⟩ = some x ∧ w'.cell? ⟨vb, 1, none⟩ = some y ∧ w'.cell? ⟨p, 0, none⟩ = some (.func (.func 74) #[] #[.pointer (some ⟨b, 0, none⟩)]) := (h.1.put h2 h3).all
theorem putL_one (x : ByteArray) : putL [x] = x.data.toList := by simp [putL, Lib.join]
theorem putL_two (x y : ByteArray) : putL [x, y] = x.data.toList ++ ([32] ++ y.data.toList) := by simp [putL, Lib.join]
theorem putL_three (x y z : ByteArray) : putL [x, y, z] = x.data.toList ++ ([32] ++ (y.data.toList ++ ([32] ++ z.data.toList))) := by simp [putL, Lib.join]
def COMMAB : ByteArray := ⟨#[44, 32]⟩
theorem get1 {α : Type} {x y : α} {j : Nat} (h : [x][j]? = some y) : j = 0 ∧ y = x := by
  rcases j with _ | j
  · exact ⟨rfl, by simpa using h.symm⟩
  · simp at h
theorem get2 {α : Type} {x1 x2 y : α} {j : Nat} (h : [x1, x2][j]? = some y) : (j = 0 ∧ y = x1) ∨ (j = 1 ∧ y = x2) := by
  rcases j with _ | _ | j
  · exact .inl ⟨rfl, by simpa using h.symm⟩
  · exact .inr ⟨rfl, by simpa using h.symm⟩
  · simp at h
theorem get3 {α : Type} {x1 x2 x3 y : α} {j : Nat} (h : [x1, x2, x3][j]? = some y) : (j = 0 ∧ y = x1) ∨ (j = 1 ∧ y = x2) ∨ (j = 2 ∧ y = x3) := by
  rcases j with _ | _ | _ | j
  · exact .inl ⟨rfl, by simpa using h.symm⟩
  · exact .inr (.inl ⟨rfl, by simpa using h.symm⟩)
  · exact .inr (.inr ⟨rfl, by simpa using h.symm⟩)
  · simp at h

set_option maxHeartbeats 1000000 in
theorem of80_any (t : ByteArray) (w : World) :
    Calls Tryd.prog 80 #[.string t] w fun e w' => e = .returned (.string ⟨(saidW t.data.toList).toArray⟩) ∧ Below w.heap.size w w' := by
  go_enter Tryd.func80, Tryd.ntmps80
  go_wp2_with fail
  refine (said_any t w).mono ?_
  rintro e w1 ⟨rfl, hb⟩
  go_wp2_with fail
  go_ret
  exact ⟨rfl, hb⟩
set_option maxHeartbeats 1000000 in
theorem of81_any (t : ByteArray) (w : World) :
    Calls Tryd.prog 81 #[.string t] w fun e w' => e = .returned (.string ⟨(id t.data.toList).toArray⟩) ∧ Below w.heap.size w w' := by
  go_enter Tryd.func81, Tryd.ntmps81
  go_wp2_with fail
  go_ret
  exact ⟨rfl, Below.refl _ _⟩

set_option maxRecDepth 100000 in
set_option maxHeartbeats 8000000 in
theorem list80_any (A : Option Addr) (c b p : Nat) (ways : List Way) (W2 w : World) (l : List UInt8) (hps : PS b p W2 l w) (hw : IsWays w b A ways) (hv : Vars w) (h6 : 6 ≤ b) (hc : ways.length ≤ c) (hfew : ways.length ≤ 16) (hll : l.length ≤ 100000)
    (hok : ∀ j, j < ways.length → (ways.getD j default).1.size ≤ 4 ∧ 0 ≤ (ways.getD j default).2 ∧ (ways.getD j default).2 ≤ 1048576) :
    Calls Tryd.prog 79 #[.slice A ways.length c, .func (.func 80) #[] #[], .pointer (some ⟨p, 0, none⟩)] w fun e w' => (∃ v, e = .returned v) ∧ PS b p W2 (l ++ listTo saidW ways ways.length) w' := by
  have HPS := Lib.hid hps
  have HW := Lib.hid hw
  have HV := Lib.hid hv
  have Hok := Lib.hid hok
  have Hlen := Lib.hid (listTo_len (of := saidW) (l := ways) (fun j hj => ⟨saidW_len (by rw [sizeL]; exact (hok j hj).1), (hok j hj).2⟩))
  clear hps hw hv hok
  go_enter Tryd.func79, Tryd.ntmps79
  go_wp2_with fail
  go_loopw [9] (fun i wi => ∃ j : Nat, j ≤ ways.length ∧ i = .int .i64 j ∧ Hid (PS b p W2 (l ++ listTo saidW ways j) wi) ∧ Hid (Below b w wi)) (fun i _ => ways.length - (intOf i).toNat)
  case atStart => exact ⟨0, by omega, rfl, Lib.hid (HPS.out.text (by simp [listTo])), Lib.hid (Below.refl _ _)⟩
  case round =>
    obtain ⟨wi, hwi⟩ : ∃ wi : World, wi = wr := ⟨_, rfl⟩
    subst hwi
    obtain ⟨j, hj, rfl, hps, hbi⟩ := hrel
    by_cases hjt : j < ways.length
    · obtain ⟨b2, o2, rfl, hbb2, hrow2⟩ := (HW.out.below hbi.out) (by omega)
      obtain ⟨r0, r1⟩ := hrow2 j hjt
      obtain ⟨hv4, hv0, hv1⟩ := Hok.out j hjt
      have hsl := Hlen.out j hj
      have Hst := Lib.hid (show listTo saidW ways (j + 1) = listTo saidW ways j ++ ((if 0 < j then COMMA2 else []) ++ (saidW (ways.getD j default).1.data.toList ++ ([32] ++ Lib.itoa (ways.getD j default).2))) from rfl)
      generalize ways.getD j default = v at *
      obtain ⟨v1, v2⟩ := v
      simp only [] at r0 r1 hv4 hv0 hv1 Hst
      clear hrow2
      generalize hX : listTo saidW ways j = X at *
      clear hX
      obtain ⟨U, hU⟩ : ∃ U : ByteArray, Hid (U = ⟨(saidW v1.data.toList).toArray⟩) := ⟨_, Lib.hid rfl⟩
      obtain ⟨V, hV⟩ : ∃ V : ByteArray, Hid (V = ⟨(Lib.itoa v2).toArray⟩) := ⟨_, Lib.hid rfl⟩
      have hUs : U.size ≤ 20 := by rw [hU.out]; exact sizeT (saidW_len (by rw [sizeL]; exact hv4))
      have hVs : V.size ≤ 21 := by rw [hV.out]; exact sizeT (Lib.itoa_length_le v2 (by omega) (by omega))
      have HUV := Lib.hid (show (putL [U, V]).length ≤ 50 by rw [putL_two]; simp only [List.length_append, sizeL, List.length_cons, List.length_nil]; omega)
      have HT := Lib.hid (show putL [U, V] = saidW v1.data.toList ++ ([32] ++ Lib.itoa v2) by rw [putL_two, hU.out, hV.out])
      have HWd : Hid (∀ W, Calls Tryd.prog 80 #[.string v1] W fun e w' => e = .returned (.string U) ∧ Below W.heap.size W w') := Lib.hid (fun W => by rw [hU.out]; exact of80_any v1 W)
      have HIc : Hid (∀ W, Below b w W → Calls Tryd.prog 78 #[.int .i64 v2] W fun e w' => e = .returned (.string V) ∧ Below W.heap.size W w') := Lib.hid (fun W hb => by rw [hV.out]; exact itoa_any v2 W (HV.out.below hb h6) (by omega) (by omega))
      generalize hwc : wi.alloc (.cells #[.string v1, .int .i64 v2] 100) = wc at *
      have Swc := Lib.hid (show wc.heap.size = wi.heap.size + 1 by rw [← hwc]; simp)
      have Hbox := Lib.hid (show wc.heap[wi.heap.size]? = some (.cells #[.string v1, .int .i64 v2] 100 (0, 0)) by rw [← hwc]; exact World.alloc_heap_new wi _)
      have HPc := Lib.hid (show PS b p W2 (l ++ X) wc by rw [← hwc]; exact hps.out.alloc _)
      have HBc := Lib.hid (show Below b w wc by rw [← hwc]; exact hbi.out.alloc (Nat.le_of_lt hps.out.bw) _)
      have Hvne := Lib.hid (show wi.heap.size ≠ b by have := hps.out.bw; omega)
      have Hwc := Lib.hid hwc
      clear hwc hps hbi
      go_upto_region 3 with fail
      rw [Hwc.out]
      by_cases hj0 : j = 0
      · subst hj0
        have Hst2 := Lib.hid (show listTo saidW ways (0 + 1) = X ++ putL [U, V] by rw [Hst.out, HT.out]; simp)
        obtain ⟨wq, hwq⟩ : ∃ wq : World, wq = wc := ⟨_, rfl⟩
        subst hwq
        have HPq := HPc
        have HSB := Lib.hid (show SB b p wi.heap.size 100 (.string v1) (.int .i64 v2) wq wq from ⟨Below.refl _ _, HPq.out.bw, Hbox.out, HPq.out.fn, Hvne.out, HPq.out.ne, by decide⟩)
        go_upto_region 5 with fail
        go_region_held3 (fun w' => SB b p wi.heap.size 100 (.string v1) (.int .i64 v2) wq w' ∧ w'.cell? ⟨wi.heap.size, 0, none⟩ = some (.string v1) ∧ w'.cell? ⟨wi.heap.size, 1, none⟩ = some (.int .i64 v2) ∧ w'.cell? ⟨p, 0, none⟩ = some (.func (.func 74) #[] #[.pointer (some ⟨b, 0, none⟩)])) ((first | exact SB.keepA (by assumption) (by assumption) | exact SB.putA (by assumption) (by assumption) (by assumption) | exact SB.allocA (by assumption) | exact (HSB.out.keep (Below.refl _ _).drew).all)) ((first | (go_at_call 80; refine (HWd.out _).mono ?_; rintro e w9 ⟨rfl, hb9⟩) | (go_at_call 78; refine (HIc.out _ (HBc.out.trans (SB.lo (And.left (by assumption))))).mono ?_; rintro e w9 ⟨rfl, hb9⟩) | (go_at_call 74; refine (putS b _ 2 p 2 (l ++ X) [U, V] W2 _ (by refine PS.alloc ?_ _; (repeat (apply PS.step; assumption)); exact HPq.out.drew) rfl (by simp) (fun k x hk => by rcases get2 hk with ⟨rfl, rfl⟩ | ⟨rfl, rfl⟩ <;> simp) (by omega) (by omega) (by have := HUV.out; simp only [List.length_append, List.length_cons, List.length_nil] at *; omega)).mono ?_; rintro e w7 ⟨⟨vv, rfl⟩, hp7, hb7, ho7⟩)))
        all_goals
          have HP7 := Lib.hid hp7
          have HB7 := Lib.hid (HBc.out.trans (SB.lo (And.left (by assumption : SB b p wi.heap.size 100 (.string v1) (.int .i64 v2) wq w7 ∧ _))))
          clear hp7
          go_wp2_with fail
          go_roundw
          case rel =>
            refine ⟨0 + 1, by omega, by go_num, Lib.hid (HP7.out.text ?_), HB7⟩
            rw [Hst2.out]; simp
          case measure => simp [intOf]; omega
      · have Hst2 := Lib.hid (show listTo saidW ways (j + 1) = X ++ (COMMAB.data.toList ++ putL [U, V]) by rw [Hst.out, HT.out, if_pos (by omega)]; rfl)
        have hj0' : 0 < j := by omega
        have c0 := HPc.out.cell
        go_wp2_with fail
        refine (putS b _ 1 p 1 _ [COMMAB] W2 _ (HPc.out.alloc _) rfl (by simp) (fun k x hk => ?_) (by omega) (by omega) ?_).mono ?_
        · obtain ⟨rfl, rfl⟩ := get1 hk
          simp [COMMAB]
        · rw [putL_one]; simp only [List.length_append, sizeL]; show _ + 2 ≤ _; omega
        rintro e wq ⟨⟨vv, rfl⟩, h1, h2, h3⟩
        have HPq := Lib.hid (h1.text (show _ = (l ++ X) ++ COMMAB.data.toList by rw [putL_one]))
        have HBq := Lib.hid ((HBc.out.alloc (Nat.le_of_lt HPc.out.bw) _).trans h2)
        have HSB := Lib.hid (show SB b p wi.heap.size 100 (.string v1) (.int .i64 v2) wq wq from ⟨Below.refl _ _, h1.bw, kept_block h3 ((Below.heap_alloc _ _ _ (by rw [Swc.out]; omega)).trans Hbox.out) Hvne.out (by decide), h1.fn, Hvne.out, h1.ne, by decide⟩)
        clear h1 h2 h3 c0
        go_upto_region 5 with fail
        go_region_held3 (fun w' => SB b p wi.heap.size 100 (.string v1) (.int .i64 v2) wq w' ∧ w'.cell? ⟨wi.heap.size, 0, none⟩ = some (.string v1) ∧ w'.cell? ⟨wi.heap.size, 1, none⟩ = some (.int .i64 v2) ∧ w'.cell? ⟨p, 0, none⟩ = some (.func (.func 74) #[] #[.pointer (some ⟨b, 0, none⟩)])) ((first | exact SB.keepA (by assumption) (by assumption) | exact SB.putA (by assumption) (by assumption) (by assumption) | exact SB.allocA (by assumption) | exact (HSB.out.keep (Below.refl _ _).drew).all)) ((first | (go_at_call 80; refine (HWd.out _).mono ?_; rintro e w9 ⟨rfl, hb9⟩) | (go_at_call 78; refine (HIc.out _ (HBq.out.trans (SB.lo (And.left (by assumption))))).mono ?_; rintro e w9 ⟨rfl, hb9⟩) | (go_at_call 74; refine (putS b _ 2 p 2 ((l ++ X) ++ COMMAB.data.toList) [U, V] W2 _ (by refine PS.alloc ?_ _; (repeat (apply PS.step; assumption)); exact HPq.out.drew) rfl (by simp) (fun k x hk => by rcases get2 hk with ⟨rfl, rfl⟩ | ⟨rfl, rfl⟩ <;> simp) (by omega) (by omega) (by have := HUV.out; simp only [List.length_append, List.length_cons, List.length_nil, show COMMAB.data.toList.length = 2 from rfl] at *; omega)).mono ?_; rintro e w7 ⟨⟨vv, rfl⟩, hp7, hb7, ho7⟩)))
        all_goals
          have HP7 := Lib.hid hp7
          have HB7 := Lib.hid (HBq.out.trans (SB.lo (And.left (by assumption : SB b p wi.heap.size 100 (.string v1) (.int .i64 v2) wq w7 ∧ _))))
          clear hp7
          go_wp2_with fail
          go_roundw
          case rel =>
            refine ⟨j + 1, by omega, by go_num, Lib.hid (HP7.out.text ?_), HB7⟩
            rw [Hst2.out]; simp
          case measure => simp [intOf]; omega
    · obtain rfl : j = ways.length := by omega
      have HP := hps
      clear hps hbi
      go_wp2_with fail
      go_end0
      exact ⟨⟨_, rfl⟩, HP.out⟩

set_option maxRecDepth 100000 in
set_option maxHeartbeats 8000000 in
theorem list81_any (A : Option Addr) (c b p : Nat) (ways : List Way) (W2 w : World) (l : List UInt8) (hps : PS b p W2 l w) (hw : IsWays w b A ways) (hv : Vars w) (h6 : 6 ≤ b) (hc : ways.length ≤ c) (hfew : ways.length ≤ 16) (hll : l.length ≤ 100000)
    (hok : ∀ j, j < ways.length → (ways.getD j default).1.size ≤ 4 ∧ 0 ≤ (ways.getD j default).2 ∧ (ways.getD j default).2 ≤ 1048576) :
    Calls Tryd.prog 79 #[.slice A ways.length c, .func (.func 81) #[] #[], .pointer (some ⟨p, 0, none⟩)] w fun e w' => (∃ v, e = .returned v) ∧ PS b p W2 (l ++ listTo id ways ways.length) w' := by
  have HPS := Lib.hid hps
  have HW := Lib.hid hw
  have HV := Lib.hid hv
  have Hok := Lib.hid hok
  have Hlen := Lib.hid (listTo_len (of := id) (l := ways) (fun j hj => ⟨by rw [show id (ways.getD j default).1.data.toList = (ways.getD j default).1.data.toList from rfl, sizeL]; have := (hok j hj).1; omega, (hok j hj).2⟩))
  clear hps hw hv hok
  go_enter Tryd.func79, Tryd.ntmps79
  go_wp2_with fail
  go_loopw [9] (fun i wi => ∃ j : Nat, j ≤ ways.length ∧ i = .int .i64 j ∧ Hid (PS b p W2 (l ++ listTo id ways j) wi) ∧ Hid (Below b w wi)) (fun i _ => ways.length - (intOf i).toNat)
  case atStart => exact ⟨0, by omega, rfl, Lib.hid (HPS.out.text (by simp [listTo])), Lib.hid (Below.refl _ _)⟩
  case round =>
    obtain ⟨wi, hwi⟩ : ∃ wi : World, wi = wr := ⟨_, rfl⟩
    subst hwi
    obtain ⟨j, hj, rfl, hps, hbi⟩ := hrel
    by_cases hjt : j < ways.length
    · obtain ⟨b2, o2, rfl, hbb2, hrow2⟩ := (HW.out.below hbi.out) (by omega)
      obtain ⟨r0, r1⟩ := hrow2 j hjt
      obtain ⟨hv4, hv0, hv1⟩ := Hok.out j hjt
      have hsl := Hlen.out j hj
      have Hst := Lib.hid (show listTo id ways (j + 1) = listTo id ways j ++ ((if 0 < j then COMMA2 else []) ++ (id (ways.getD j default).1.data.toList ++ ([32] ++ Lib.itoa (ways.getD j default).2))) from rfl)
      generalize ways.getD j default = v at *
      obtain ⟨v1, v2⟩ := v
      simp only [] at r0 r1 hv4 hv0 hv1 Hst
      clear hrow2
      generalize hX : listTo id ways j = X at *
      clear hX
      obtain ⟨U, hU⟩ : ∃ U : ByteArray, Hid (U = ⟨(id v1.data.toList).toArray⟩) := ⟨_, Lib.hid rfl⟩
      obtain ⟨V, hV⟩ : ∃ V : ByteArray, Hid (V = ⟨(Lib.itoa v2).toArray⟩) := ⟨_, Lib.hid rfl⟩
      have hUs : U.size ≤ 20 := by rw [hU.out]; exact sizeT (by rw [show id v1.data.toList = v1.data.toList from rfl, sizeL]; omega)
      have hVs : V.size ≤ 21 := by rw [hV.out]; exact sizeT (Lib.itoa_length_le v2 (by omega) (by omega))
      have HUV := Lib.hid (show (putL [U, V]).length ≤ 50 by rw [putL_two]; simp only [List.length_append, sizeL, List.length_cons, List.length_nil]; omega)
      have HT := Lib.hid (show putL [U, V] = id v1.data.toList ++ ([32] ++ Lib.itoa v2) by rw [putL_two, hU.out, hV.out])
      have HWd : Hid (∀ W, Calls Tryd.prog 81 #[.string v1] W fun e w' => e = .returned (.string U) ∧ Below W.heap.size W w') := Lib.hid (fun W => by rw [hU.out]; exact of81_any v1 W)
      have HIc : Hid (∀ W, Below b w W → Calls Tryd.prog 78 #[.int .i64 v2] W fun e w' => e = .returned (.string V) ∧ Below W.heap.size W w') := Lib.hid (fun W hb => by rw [hV.out]; exact itoa_any v2 W (HV.out.below hb h6) (by omega) (by omega))
      generalize hwc : wi.alloc (.cells #[.string v1, .int .i64 v2] 100) = wc at *
      have Swc := Lib.hid (show wc.heap.size = wi.heap.size + 1 by rw [← hwc]; simp)
      have Hbox := Lib.hid (show wc.heap[wi.heap.size]? = some (.cells #[.string v1, .int .i64 v2] 100 (0, 0)) by rw [← hwc]; exact World.alloc_heap_new wi _)
      have HPc := Lib.hid (show PS b p W2 (l ++ X) wc by rw [← hwc]; exact hps.out.alloc _)
      have HBc := Lib.hid (show Below b w wc by rw [← hwc]; exact hbi.out.alloc (Nat.le_of_lt hps.out.bw) _)
      have Hvne := Lib.hid (show wi.heap.size ≠ b by have := hps.out.bw; omega)
      have Hwc := Lib.hid hwc
      clear hwc hps hbi
      go_upto_region 3 with fail
      rw [Hwc.out]
      by_cases hj0 : j = 0
      · subst hj0
        have Hst2 := Lib.hid (show listTo id ways (0 + 1) = X ++ putL [U, V] by rw [Hst.out, HT.out]; simp)
        obtain ⟨wq, hwq⟩ : ∃ wq : World, wq = wc := ⟨_, rfl⟩
        subst hwq
        have HPq := HPc
        have HSB := Lib.hid (show SB b p wi.heap.size 100 (.string v1) (.int .i64 v2) wq wq from ⟨Below.refl _ _, HPq.out.bw, Hbox.out, HPq.out.fn, Hvne.out, HPq.out.ne, by decide⟩)
        go_upto_region 5 with fail
        go_region_held3 (fun w' => SB b p wi.heap.size 100 (.string v1) (.int .i64 v2) wq w' ∧ w'.cell? ⟨wi.heap.size, 0, none⟩ = some (.string v1) ∧ w'.cell? ⟨wi.heap.size, 1, none⟩ = some (.int .i64 v2) ∧ w'.cell? ⟨p, 0, none⟩ = some (.func (.func 74) #[] #[.pointer (some ⟨b, 0, none⟩)])) ((first | exact SB.keepA (by assumption) (by assumption) | exact SB.putA (by assumption) (by assumption) (by assumption) | exact SB.allocA (by assumption) | exact (HSB.out.keep (Below.refl _ _).drew).all)) ((first | (go_at_call 81; refine (HWd.out _).mono ?_; rintro e w9 ⟨rfl, hb9⟩) | (go_at_call 78; refine (HIc.out _ (HBc.out.trans (SB.lo (And.left (by assumption))))).mono ?_; rintro e w9 ⟨rfl, hb9⟩) | (go_at_call 74; refine (putS b _ 2 p 2 (l ++ X) [U, V] W2 _ (by refine PS.alloc ?_ _; (repeat (apply PS.step; assumption)); exact HPq.out.drew) rfl (by simp) (fun k x hk => by rcases get2 hk with ⟨rfl, rfl⟩ | ⟨rfl, rfl⟩ <;> simp) (by omega) (by omega) (by have := HUV.out; simp only [List.length_append, List.length_cons, List.length_nil] at *; omega)).mono ?_; rintro e w7 ⟨⟨vv, rfl⟩, hp7, hb7, ho7⟩)))
        all_goals
          have HP7 := Lib.hid hp7
          have HB7 := Lib.hid (HBc.out.trans (SB.lo (And.left (by assumption : SB b p wi.heap.size 100 (.string v1) (.int .i64 v2) wq w7 ∧ _))))
          clear hp7
          go_wp2_with fail
          go_roundw
          case rel =>
            refine ⟨0 + 1, by omega, by go_num, Lib.hid (HP7.out.text ?_), HB7⟩
            rw [Hst2.out]; simp
          case measure => simp [intOf]; omega
      · have Hst2 := Lib.hid (show listTo id ways (j + 1) = X ++ (COMMAB.data.toList ++ putL [U, V]) by rw [Hst.out, HT.out, if_pos (by omega)]; rfl)
        have hj0' : 0 < j := by omega
        have c0 := HPc.out.cell
        go_wp2_with fail
        refine (putS b _ 1 p 1 _ [COMMAB] W2 _ (HPc.out.alloc _) rfl (by simp) (fun k x hk => ?_) (by omega) (by omega) ?_).mono ?_
        · obtain ⟨rfl, rfl⟩ := get1 hk
          simp [COMMAB]
        · rw [putL_one]; simp only [List.length_append, sizeL]; show _ + 2 ≤ _; omega
        rintro e wq ⟨⟨vv, rfl⟩, h1, h2, h3⟩
        have HPq := Lib.hid (h1.text (show _ = (l ++ X) ++ COMMAB.data.toList by rw [putL_one]))
        have HBq := Lib.hid ((HBc.out.alloc (Nat.le_of_lt HPc.out.bw) _).trans h2)
        have HSB := Lib.hid (show SB b p wi.heap.size 100 (.string v1) (.int .i64 v2) wq wq from ⟨Below.refl _ _, h1.bw, kept_block h3 ((Below.heap_alloc _ _ _ (by rw [Swc.out]; omega)).trans Hbox.out) Hvne.out (by decide), h1.fn, Hvne.out, h1.ne, by decide⟩)
        clear h1 h2 h3 c0
        go_upto_region 5 with fail
        go_region_held3 (fun w' => SB b p wi.heap.size 100 (.string v1) (.int .i64 v2) wq w' ∧ w'.cell? ⟨wi.heap.size, 0, none⟩ = some (.string v1) ∧ w'.cell? ⟨wi.heap.size, 1, none⟩ = some (.int .i64 v2) ∧ w'.cell? ⟨p, 0, none⟩ = some (.func (.func 74) #[] #[.pointer (some ⟨b, 0, none⟩)])) ((first | exact SB.keepA (by assumption) (by assumption) | exact SB.putA (by assumption) (by assumption) (by assumption) | exact SB.allocA (by assumption) | exact (HSB.out.keep (Below.refl _ _).drew).all)) ((first | (go_at_call 81; refine (HWd.out _).mono ?_; rintro e w9 ⟨rfl, hb9⟩) | (go_at_call 78; refine (HIc.out _ (HBq.out.trans (SB.lo (And.left (by assumption))))).mono ?_; rintro e w9 ⟨rfl, hb9⟩) | (go_at_call 74; refine (putS b _ 2 p 2 ((l ++ X) ++ COMMAB.data.toList) [U, V] W2 _ (by refine PS.alloc ?_ _; (repeat (apply PS.step; assumption)); exact HPq.out.drew) rfl (by simp) (fun k x hk => by rcases get2 hk with ⟨rfl, rfl⟩ | ⟨rfl, rfl⟩ <;> simp) (by omega) (by omega) (by have := HUV.out; simp only [List.length_append, List.length_cons, List.length_nil, show COMMAB.data.toList.length = 2 from rfl] at *; omega)).mono ?_; rintro e w7 ⟨⟨vv, rfl⟩, hp7, hb7, ho7⟩)))
        all_goals
          have HP7 := Lib.hid hp7
          have HB7 := Lib.hid (HBq.out.trans (SB.lo (And.left (by assumption : SB b p wi.heap.size 100 (.string v1) (.int .i64 v2) wq w7 ∧ _))))
          clear hp7
          go_wp2_with fail
          go_roundw
          case rel =>
            refine ⟨j + 1, by omega, by go_num, Lib.hid (HP7.out.text ?_), HB7⟩
            rw [Hst2.out]; simp
          case measure => simp [intOf]; omega
    · obtain rfl : j = ways.length := by omega
      have HP := hps
      clear hps hbi
      go_wp2_with fail
      go_end0
      exact ⟨⟨_, rfl⟩, HP.out⟩
end Go.Proofs.YtkfkkoefpfmjkaaDoor

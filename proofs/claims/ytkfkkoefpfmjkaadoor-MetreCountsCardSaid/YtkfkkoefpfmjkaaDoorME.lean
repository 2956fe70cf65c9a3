import Derived.Test.YtkfkkoefpfmjkaaDoorMD
namespace Go.Proofs.YtkfkkoefpfmjkaaDoor
set_option linter.unusedVariables false
set_option linter.unusedSimpArgs false
open Go.RowKit

theorem own_form {w : World} {base : Nat} {e : TypeId} {size : Nat} {v : Value} {n : Nat} {xs : List Value} (h : w.ownsRow base e size v n xs) (hn : 0 < n) :
    ∃ g cap, v = .slice (some ⟨g, 0, none⟩) n cap := by
  rcases h.2 with ⟨_, h0⟩ | ⟨g, cap, _, rfl, _⟩
  · omega
  · exact ⟨g, cap, rfl⟩
theorem layF_yes {sg : ByteArray} {c : Int} {all : Bool} {f : Ft} (h : (!all || !(eqS f.own sg)) = true) : layF sg c all f = ⟨f.own, f.ways ++ [(sg, c)]⟩ := by
  unfold layF; rw [if_pos h]
theorem layF_no {sg : ByteArray} {c : Int} {all : Bool} {f : Ft} (h : (!all || !(eqS f.own sg)) = false) : layF sg c all f = f := by
  unfold layF; rw [if_neg (by rw [h]; simp)]

set_option maxRecDepth 100000 in
set_option maxHeartbeats 8000000 in
theorem lay_any {w : World} {base b a g cap : Nat} {s t : ByteArray} {m : Met} {ah : Int} {ve vb : Value} {vs : List Value} (h : RS w base b s a t m ah (.slice (some ⟨g, 0, none⟩) m.feet.length cap) ve vb vs)
    (i n c : Nat) (hin : i + n ≤ m.feet.length) (h16 : m.feet.length ≤ 16) (h15 : ∀ k, k < m.feet.length → (m.feet.getD k default).ways.length ≤ 15) (sg : ByteArray) (cost : Int) (all : Bool) :
    Calls Tryd.prog 92 #[.slice (some ⟨g, i * 2, none⟩) n c, .agg #[.string sg, .int .i64 cost], .bool all] w fun e w' => e = .returned (.tuple #[]) ∧
      ∃ vs', RS w' base b s a t { m with feet := layR m.feet i n sg cost all } ah (.slice (some ⟨g, 0, none⟩) m.feet.length cap) ve vb vs' ∧ Below base w w' := by
  have hst := LayRel.start h i sg cost all
  have hgw : g < w.heap.size := (h.feet.lt g rfl).2
  have Hst := Lib.hid hst
  have Hgw := Lib.hid hgw
  clear hst h
  go_enter Tryd.func92, Tryd.ntmps92
  go_wp2_with fail
  go_loopw [10] (fun q wr => ∃ (k : Nat) (vs' : List Value), k ≤ n ∧ q = .int .i64 k ∧ LayRel w base b s a t m ah (.slice (some ⟨g, 0, none⟩) m.feet.length cap) ve vb i sg cost all k vs' wr) (fun q _ => n - (intOf q).toNat)
  case atStart => exact ⟨0, vs, by omega, rfl, Hst.out⟩
  case round =>
    rename_i wr
    obtain ⟨k, vs', hk, rfl, hr⟩ := hrel
    by_cases hlt : k < n
    · have hik : i + k < m.feet.length := by omega
      have hlen : (layR m.feet i k sg cost all).length = m.feet.length := layR_len _ _ _ _ _ _ (by omega)
      have hh := layR_here m.feet i k sg cost all hik
      have hcl := ftCells_get (layR m.feet i k sg cost all) vs' (i + k) hr.rs.vl (by rw [hlen]; exact hik)
      rw [hh] at hcl
      have hfe := hr.rs.feet
      simp only [hlen] at hfe
      have hz := hfe.frozenAt ((i + k) * 2 + 1)
      have e1 : (i + k) * 2 = i * 2 + k * 2 := by omega
      have hc1 := (hfe.cellAt ((i + k) * 2) (by omega)).trans hcl.1
      have hc2 := (hfe.cellAt ((i + k) * 2 + 1) (by omega)).trans hcl.2
      have hwv := hr.rs.ways (i + k) (by simpa [hlen] using hik)
      simp only [hh] at hwv
      have hl15 := h15 (i + k) hik
      have hgs : g < wr.heap.size := (hfe.lt g rfl).2
      have hxb : wr.cell? ⟨w.heap.size, 0, none⟩ = some (.string sg) := cell_of_row _ _ _ _ 100 (0, 0) hr.box
      have hxc : wr.cell? ⟨w.heap.size, 1, none⟩ = some (.int .i64 cost) := cell_of_row _ _ _ _ 100 (0, 0) hr.box
      have hxs : w.heap.size < wr.heap.size := (Array.getElem?_eq_some_iff.1 hr.box).1
      have hbw : base ≤ wr.heap.size := by have := hr.rs.bl; have := hr.rs.hb; omega
      have Hyes := Lib.hid fun (hf : (!all || !(eqS (m.feet.getD (i + k) default).own sg)) = true) => fun (w0 w1 : World) (v' : Value) hb ho hg hat => hr.step (w0 := w0) (w1 := w1) (v' := v') hik rfl (layF_yes hf) hb ho hg hat Hgw.out
      have Hno := Lib.hid fun (hf : (!all || !(eqS (m.feet.getD (i + k) default).own sg)) = false) => fun (w' : World) hb => hr.skip (wr' := w') hik (layF_no hf) hb
      rw [e1] at hc1 hc2 hz Hyes
      obtain ⟨A, cc, hve, hcc, hiw⟩ := own_ways hwv
      have Hrow := Lib.hid hwv
      have Hneq : Hid ((vs'.getD (i + k) nilV).ownBlock = none ∨ (vs'.getD (i + k) nilV).ownBlock ≠ some g) := Lib.hid (by
        have := own_ne hwv hfe (by decide)
        simpa [Value.ownBlock] using this)
      clear hr hfe hcl hh hlen hwv hiw e1
      generalize vs'.getD (i + k) nilV = V at *
      subst hve
      generalize hfq : m.feet.getD (i + k) default = f at *
      clear hfq
      obtain ⟨own, ways⟩ := f
      simp only [] at hc1 hc2 hl15 hcc Hyes Hno Hrow Hneq
      have hbx : Below wr.heap.size wr (wr.alloc (.cells #[.string own, .slice A ways.length cc] 81)) := (Below.refl _ wr).alloc (Nat.le_refl _) _
      have Hbx := Lib.hid hbx
      have Hblk : Hid (∀ w1 : World, (wr.alloc (.cells #[.string own, .slice A ways.length cc] 81)).grownBy w1 (Value.slice A ways.length cc).ownBlock → w1.heap[g]? = wr.heap[g]?) := Lib.hid fun w1 hg1 =>
        (hg1.block g (by have := hbx.size; omega) (by rcases Hneq.out with e | e; · rw [e]; simp
                                                      · exact fun e' => e e'.symm)).trans (hbx.block g hgs)
      have Hzc := Lib.hid fun (w1 : World) hg1 => And.intro ((World.frozen?_of_block (w := wr) (w' := w1) (a := ⟨g, i * 2 + k * 2 + 1, none⟩) (Hblk.out w1 hg1)).trans hz) ((World.cell?_of_block (w := wr) (w' := w1) (a := ⟨g, i * 2 + k * 2 + 1, none⟩) (Hblk.out w1 hg1)).trans hc2)
      clear hbx
      cases hy : (!all || !(eqS own sg)) with
      | false =>
        have Hn := Lib.hid (Hno.out hy)
        have h2 : all = true ∧ eqS own sg = true := by cases all <;> cases hq : eqS own sg <;> simp [hq] at hy ⊢
        obtain ⟨rfl, hq⟩ := h2
        unfold eqS at hq
        clear hy Hyes Hno
        go_wp2_with fail
        go_roundw
        case rel => exact ⟨k + 1, vs', by omega, by go_num, Hn.out _ Hbx.out⟩
        case measure => simp [intOf]; omega
      | true =>
        have Hy := Lib.hid (Hyes.out hy)
        have h2 : all = false ∨ (all = true ∧ eqS own sg = false) := by cases all <;> cases hq : eqS own sg <;> simp [hq] at hy ⊢
        clear Hyes Hno hy
        rcases h2 with rfl | ⟨rfl, hq⟩
        · go_wp2_with (at_builtin; go_loud (refine wpList_append_boxg _ rfl _ _ 24 rfl base 100 _ _ 2 24 Tryd.underlying24 info100 zero100 size100 bytes100 rfl (by decide) (.slice A ways.length cc) ways.length (wayCells ways) _ _ rfl rfl ?c0 (by exact (Hrow.out).alloc _) rfl ?c1 ?c2 ?c3 ?c4 ?_; rotate_right; intro v1 w1 hown1 hg1 hat1; obtain ⟨g1, cap1, rfl⟩ := own_form hown1 (by omega); obtain ⟨hz1, hc3⟩ := Hzc.out _ hg1; have Hfin := Lib.hid (Hy.out _ _ _ Hbx.out hown1 hg1 hat1); clear hown1 hg1 hat1))
          case c0 => simp
          case c1 => exact ⟨rfl, rfl⟩
          case c2 => unfold maxLen; omega
          case c3 => omega
          case c4 => have := Hbx.out.size; omega
          go_roundw
          case rel => exact ⟨k + 1, _, by omega, by go_num, Hfin.out⟩
          case measure => simp [intOf]; omega
        · unfold eqS at hq
          go_wp2_with (at_builtin; go_loud (refine wpList_append_boxg _ rfl _ _ 24 rfl base 100 _ _ 2 24 Tryd.underlying24 info100 zero100 size100 bytes100 rfl (by decide) (.slice A ways.length cc) ways.length (wayCells ways) _ _ rfl rfl ?c0 (by exact (Hrow.out).alloc _) rfl ?c1 ?c2 ?c3 ?c4 ?_; rotate_right; intro v1 w1 hown1 hg1 hat1; obtain ⟨g1, cap1, rfl⟩ := own_form hown1 (by omega); obtain ⟨hz1, hc3⟩ := Hzc.out _ hg1; have Hfin := Lib.hid (Hy.out _ _ _ Hbx.out hown1 hg1 hat1); clear hown1 hg1 hat1))
          case c0 => simp
          case c1 => exact ⟨rfl, rfl⟩
          case c2 => unfold maxLen; omega
          case c3 => omega
          case c4 => have := Hbx.out.size; omega
          go_roundw
          case rel => exact ⟨k + 1, _, by omega, by go_num, Hfin.out⟩
          case measure => simp [intOf]; omega
    · obtain rfl : k = n := by omega
      have Hr := Lib.hid hr
      clear hr
      go_wp2_with fail
      go_end0
      exact ⟨rfl, vs', Hr.out.rs, Hr.out.below⟩
end Go.Proofs.YtkfkkoefpfmjkaaDoor
namespace Go.Proofs.YtkfkkoefpfmjkaaDoor
set_option linter.unusedVariables false
set_option linter.unusedSimpArgs false
open Go.RowKit

/- The reader's rows grow. No program in sight. -/
variable {w w1 w' : World} {base b a : Nat} {s t : ByteArray} {m : Met} {ah : Int} {vf ve vb : Value} {vs : List Value}
theorem RB.put3 (h : RB w b s a t vf ve vb ah) (v : Value) : RB (w.setCell ⟨b, 3, none⟩ v) b s a t v ve vb ah := heap_setCell_same w b 3 _ 90 v h
theorem RB.put4 (h : RB w b s a t vf ve vb ah) (v : Value) : RB (w.setCell ⟨b, 4, none⟩ v) b s a t vf v vb ah := heap_setCell_same w b 4 _ 90 v h
theorem RB.put5 (h : RB w b s a t vf ve vb ah) (v : Value) : RB (w.setCell ⟨b, 5, none⟩ v) b s a t vf ve v ah := heap_setCell_same w b 5 _ 90 v h
theorem RB.put6 (h : RB w b s a t vf ve vb ah) (v : Int) : RB (w.setCell ⟨b, 6, none⟩ (.int .i64 v)) b s a t vf ve vb v := heap_setCell_same w b 6 _ 90 _ h
theorem grown_cell (w : World) (b o : Nat) (v : Value) : w.grownBy (w.setCell ⟨b, o, none⟩ v) (some b) := only_setCell (only_refl w _) (.inl rfl) _
theorem getD_snoc {α : Type} (l : List α) (x d : α) (k : Nat) (hk : k < l.length) : (l ++ [x]).getD k d = l.getD k d := by simp [List.getD_eq_getElem?_getD, List.getElem?_append_left hk]
theorem getD_last {α : Type} (l : List α) (x d : α) : (l ++ [x]).getD l.length d = x := by simp [List.getD_eq_getElem?_getD]

theorem RS.foot (h : RS w base b s a t m ah vf ve vb vs) {own : ByteArray} {v' : Value} (ho : w1.ownsRow base 81 2 v' (m.feet.length + 1) (ftCells m.feet vs ++ [.string own, nilV])) (hg : w.grownBy w1 vf.ownBlock) :
    RS (w1.setCell ⟨b, 3, none⟩ v') base b s a t { m with feet := m.feet ++ [plainFt own] } ah v' ve vb (vs ++ [nilV]) := by
  have hne : vf.ownBlock ≠ some b := by rcases own_neb h.feet h.rb (by decide) with e | e; · rw [e]; simp
                                        · exact e
  have r1 : RB w1 b s a t vf ve vb ah := (hg.block b h.bl (fun e => hne e.symm)).trans h.rb
  have g2 := grown_cell w1 b 3 v'
  have hvl := h.vl
  have wk : ∀ k, k < m.feet.length → (w1.setCell ⟨b, 3, none⟩ v').ownsRow base 100 2 (vs.getD k nilV) (m.feet.getD k default).ways.length (wayCells (m.feet.getD k default).ways) := fun k hk => by
    have o1 := (h.ways k hk).kept hg (own_ne (h.ways k hk) h.feet (by decide))
    exact o1.kept g2 (own_neb o1 r1 (by decide))
  have e1 := h.ends.kept hg (own_ne h.ends h.feet (by decide))
  have k1 := h.brks.kept hg (own_ne h.brks h.feet (by decide))
  refine ⟨r1.put3 v', h.hb, by simp [hvl], ?_, ?_, e1.kept g2 (own_neb e1 r1 (by decide)), k1.kept g2 (own_neb k1 r1 (by decide)), ?_⟩
  · have e : ftCells (m.feet ++ [plainFt own]) (vs ++ [nilV]) = ftCells m.feet vs ++ [.string own, nilV] := ftCells_snoc _ _ _ _ hvl
    simp only [List.length_append, List.length_cons, List.length_nil]
    rw [e]
    exact ho.kept g2 (own_neb ho r1 (by decide))
  · intro k hk
    simp only [List.length_append, List.length_cons, List.length_nil] at hk
    by_cases e : k < m.feet.length
    · simp only []
      rw [getD_snoc _ _ _ _ (by omega), getD_snoc _ _ _ _ e]
      exact wk k e
    · obtain rfl : k = m.feet.length := by omega
      simp only []
      rw [getD_last]
      have : (vs ++ [nilV]).getD m.feet.length nilV = nilV := by rw [← hvl]; exact getD_last _ _ _
      rw [this]
      exact World.ownsRow_nil _ _ _ _
  · exact h.apart.snoc (v := nilV) rfl

theorem RS.end_ (h : RS w base b s a t m ah vf ve vb vs) {x : Way} {v' : Value} (ho : w1.ownsRow base 100 2 v' (m.ends.length + 1) (wayCells m.ends ++ [.string x.1, .int .i64 x.2])) (hg : w.grownBy w1 ve.ownBlock)
    (hat : v'.ownBlock = ve.ownBlock ∨ ∃ N, v'.ownBlock = some N ∧ w.heap.size ≤ N) :
    RS (w1.setCell ⟨b, 4, none⟩ v') base b s a t { m with ends := m.ends ++ [x] } ah vf v' vb vs := by
  have hne : ve.ownBlock ≠ some b := by rcases own_neb h.ends h.rb (by decide) with e | e; · rw [e]; simp
                                        · exact e
  have r1 : RB w1 b s a t vf ve vb ah := (hg.block b h.bl (fun e => hne e.symm)).trans h.rb
  have g2 := grown_cell w1 b 4 v'
  have hvl := h.vl
  have wk : ∀ k, k < m.feet.length → (w1.setCell ⟨b, 4, none⟩ v').ownsRow base 100 2 (vs.getD k nilV) (m.feet.getD k default).ways.length (wayCells (m.feet.getD k default).ways) := fun k hk => by
    have ha : (vs.getD k nilV).ownBlock = none ∨ (vs.getD k nilV).ownBlock ≠ ve.ownBlock := by
      cases hv : (vs.getD k nilV).ownBlock with
      | none => exact .inl rfl
      | some q =>
        right; intro e
        exact h.apart (k + 1) 0 q (by simp; omega) (by simp) (by omega) (by rw [cons_getD]; exact hv) (by simpa using e.symm)
    have o1 := (h.ways k hk).kept hg ha
    exact o1.kept g2 (own_neb o1 r1 (by decide))
  have f1 := h.feet.kept hg (own_ne h.feet h.ends (by decide))
  have k1 := h.brks.kept hg (own_ne h.brks h.ends (by decide))
  refine ⟨r1.put4 v', h.hb, hvl, f1.kept g2 (own_neb f1 r1 (by decide)), wk, ?_, k1.kept g2 (own_neb k1 r1 (by decide)), ?_⟩
  · simp only [List.length_append, List.length_cons, List.length_nil, wayCells_snoc]
    exact ho.kept g2 (own_neb ho r1 (by decide))
  · have hA : Apart ((ve :: vs).set 0 v') := by
      rcases hat with hat | ⟨N, hN, hle⟩
      · exact h.apart.set (by simp) (N := w.heap.size) h.blocks (.inl (by simpa using hat))
      · exact h.apart.set (by simp) (N := N) (fun k q hk hq => Nat.lt_of_lt_of_le (h.blocks k q hk hq) hle) (.inr hN)
    simpa using hA

theorem RS.brk (h : RS w base b s a t m ah vf ve vb vs) {x : Int × Int} {v' : Value} (ho : w1.ownsRow base 98 2 v' (m.brks.length + 1) (brkCells m.brks ++ [.int .i64 x.1, .int .i64 x.2])) (hg : w.grownBy w1 vb.ownBlock) :
    RS (w1.setCell ⟨b, 5, none⟩ v') base b s a t { m with brks := m.brks ++ [x] } ah vf ve v' vs := by
  have hne : vb.ownBlock ≠ some b := by rcases own_neb h.brks h.rb (by decide) with e | e; · rw [e]; simp
                                        · exact e
  have r1 : RB w1 b s a t vf ve vb ah := (hg.block b h.bl (fun e => hne e.symm)).trans h.rb
  have g2 := grown_cell w1 b 5 v'
  have wk : ∀ k, k < m.feet.length → (w1.setCell ⟨b, 5, none⟩ v').ownsRow base 100 2 (vs.getD k nilV) (m.feet.getD k default).ways.length (wayCells (m.feet.getD k default).ways) := fun k hk => by
    have o1 := (h.ways k hk).kept hg (own_ne (h.ways k hk) h.brks (by decide))
    exact o1.kept g2 (own_neb o1 r1 (by decide))
  have f1 := h.feet.kept hg (own_ne h.feet h.brks (by decide))
  have e1 := h.ends.kept hg (own_ne h.ends h.brks (by decide))
  refine ⟨r1.put5 v', h.hb, h.vl, f1.kept g2 (own_neb f1 r1 (by decide)), wk, e1.kept g2 (own_neb e1 r1 (by decide)), ?_, h.apart⟩
  simp only [List.length_append, List.length_cons, List.length_nil, brkCells_snoc]
  exact ho.kept g2 (own_neb ho r1 (by decide))

/- The state between two calls. -/
def Cur (s : ByteArray) (L : List Tok) : Prop := ∃ p, p ≤ s.size ∧ L = toks s p
theorem Cur.adv {s : ByteArray} {L : List Tok} (h : Cur s L) : Cur s (adv L) := by
  obtain ⟨p, hp, rfl⟩ := h
  exact ⟨_, (adv_toks hp).1, (adv_toks hp).2.symm⟩
theorem Cur.size {s : ByteArray} {L : List Tok} (h : Cur s L) : (hd L).2.size ≤ s.size := by
  obtain ⟨p, hp, rfl⟩ := h
  exact hd_size s hp
theorem next_rs {L : List Tok} (h : RS w base b s (hd L).1 (hd L).2 m ah vf ve vb vs) (hL : Cur s L) (hs : s.size ≤ 65536) :
    Calls Tryd.prog 43 #[.pointer (some ⟨b, 0, none⟩)] w fun e w' => e = .returned (.tuple #[]) ∧ RS w' base b s (hd (adv L)).1 (hd (adv L)).2 m ah vf ve vb vs ∧ w.grownBy w' (some b) := by
  obtain ⟨p, hp, rfl⟩ := hL
  obtain ⟨h1, h2⟩ := adv_toks (s := s) hp
  refine (next_any b (hd (toks s p)).1 s (hd (toks s p)).2 vf ve vb ah w h.rb h1 (by omega)).mono ?_
  rintro e w' ⟨rfl, hr, hg⟩
  refine ⟨rfl, h.move hg ?_, hg⟩
  rw [← h2, hd_toks h1]
  exact hr
theorem below_b (h : RS w base b s a t m ah vf ve vb vs) (hg : w.grownBy w' (some b)) : Below base w w' :=
  (Below.refl base w).grown hg (by have := h.bl; have := h.hb; omega) (fun k e => by cases e; exact h.hb)
theorem RS.bs (h : RS w base b s a t m ah vf ve vb vs) : base ≤ w.heap.size := by have := h.bl; have := h.hb; omega
end Go.Proofs.YtkfkkoefpfmjkaaDoor

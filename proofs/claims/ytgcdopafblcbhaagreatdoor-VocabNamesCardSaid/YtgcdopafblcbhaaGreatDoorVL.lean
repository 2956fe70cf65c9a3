import Derived.Test.YtgcdopafblcbhaaGreatDoorVJ
/- The order of no lines: some order. -/
namespace Go.Proofs.YtgcdopafblcbhaaGreatDoor
set_option linter.unusedVariables false
set_option linter.unusedSimpArgs false
open Go.RowKit Go.Lib Go.Shelf
attribute [local go_sem] Oper.semAt_some

theorem Ks : KeyOk Tryz.prog 9 (fun a : ByteArray => Value.string a) := keyOk_string Tryz.underlying9
theorem infoStr : Tryz.prog.info? 9 = some Tryz.t9 := by kernel_rfl
theorem zeroStr : Tryz.t9.zero = some (.string ⟨#[]⟩) := by kernel_rfl
theorem sizeStr : Tryz.t9.size = 1 := by kernel_rfl
theorem bytesStr : Tryz.t9.bytes = 16 := by kernel_rfl
/-- an order in memory: its units, the map of their places -/
structure OI (B p m : Nat) (xs : List ByteArray) (v : Value) (V : World) : Prop where
  hp : B ≤ p
  hm : B ≤ m
  o : ∃ f s, V.heap[p]? = some (.cells #[v, .map (some m), f, s, .slice none 0 0] 142 (0, 0))
  r : V.ownsRow B 9 1 v xs.length (xs.map Value.string)
  m : ∃ l, MapL (fun a : ByteArray => Value.string a) V m l
theorem OI.below {B p m : Nat} {xs : List ByteArray} {v : Value} {V V' : World} (h : OI B p m xs v V) (hb : Below V.heap.size V V') : OI B p m xs v V' := by
  obtain ⟨f, s, h1⟩ := h.o
  obtain ⟨l, h2⟩ := h.m
  exact ⟨h.hp, h.hm, ⟨f, s, keptB h1 hb⟩, h.r.kept (only_below hb none) (by cases v.ownBlock <;> simp), l, h2.below hb⟩
theorem OI.stored {B p m : Nat} {xs : List ByteArray} {v : Value} {V V' : World} {l : List (ByteArray × Value)} (h : OI B p m xs v V) (hm : MapL (fun a : ByteArray => Value.string a) V' m l) (hg : V.grownBy V' (some m)) : OI B p m xs v V' := by
  obtain ⟨f, s, h1⟩ := h.o
  obtain ⟨l0, h2⟩ := h.m
  obtain ⟨es, c, h3, _⟩ := h2
  refine ⟨h.hp, h.hm, ⟨f, s, keptG h1 hg (fun e => by rw [e, h3] at h1; cases h1)⟩, h.r.kept hg ?_, l, hm⟩
  right
  intro e
  obtain ⟨cur, hc⟩ := row_type h.r e
  rw [h3] at hc; cases hc
theorem OI.push {B p m : Nat} {xs : List ByteArray} {v v5 : Value} {V w5 : World} {s : ByteArray} (h : OI B p m xs v V) (ho : w5.ownsRow B 9 1 v5 (xs.length + 1) (xs.map Value.string ++ [Value.string s])) (hg : V.grownBy w5 v.ownBlock) :
    w5.frozen? ⟨p, 0, none⟩ = false ∧ (∃ x, w5.cell? ⟨p, 0, none⟩ = some x) ∧ OI B p m (xs ++ [s]) v5 (w5.setCell ⟨p, 0, none⟩ v5) ∧ ∀ w0 : World, Below B w0 V → B ≤ V.heap.size → Below B w0 (w5.setCell ⟨p, 0, none⟩ v5) := by
  obtain ⟨f, t, h1⟩ := h.o
  obtain ⟨l, h2⟩ := h.m
  have hne : some p ≠ v.ownBlock := by
    rcases row_off h.r h1 (by decide) with e | e
    · rw [e]; simp
    · exact fun e2 => e e2.symm
  have h5 := (hg.block _ (Array.getElem?_eq_some_iff.1 h1).1 hne).trans h1
  obtain ⟨es, c, h3, h4⟩ := h2
  have hnm : some m ≠ v.ownBlock := by
    intro e
    obtain ⟨cur, hc⟩ := row_type h.r e.symm
    rw [h3] at hc; cases hc
  have h6 := (hg.block _ (Array.getElem?_eq_some_iff.1 h3).1 hnm).trans h3
  have hgs := grown_put w5 p 0 v5
  have hpm : m ≠ p := fun e => by rw [e, h1] at h3; cases h3
  have hown : ∀ r, v.ownBlock = some r → B ≤ r := fun r e => by
    rcases h.r.2 with ⟨e1, _⟩ | ⟨g, cap, cur, e1, e2, _⟩
    · rw [e1] at e; cases e
    · rw [e1] at e; cases e; exact e2
  refine ⟨frozen_of_row _ _ 0 _ _ h5, ⟨_, cell_of_row _ _ 0 _ _ (0, 0) h5⟩, ⟨h.hp, h.hm, ⟨f, t, heap_setCell_same w5 p 0 _ _ v5 h5⟩, ?_, l, es, c, keptG h6 hgs hpm, h4⟩, fun w0 hb hB => ?_⟩
  · have := ho.kept hgs (by rcases row_off ho h5 (by decide) with e | e; exact .inl e; exact .inr e)
    simpa using this
  · exact (hb.grown hg hB hown).setCell (p := ⟨p, 0, none⟩) h.hp _
set_option maxRecDepth 100000 in
set_option maxHeartbeats 8000000 in
theorem number_any (B p m : Nat) (xs : List ByteArray) (v : Value) (w : World) (h : OI B p m xs v w) (hn : xs.length ≤ 2000) (hBw : B ≤ w.heap.size) : Calls Tryz.prog 62 #[.pointer (some ⟨p, 0, none⟩)] w fun e w' => (∃ x, e = .returned x) ∧ Below B w w' := by
  obtain ⟨f, s, h1⟩ := h.o
  have c0 : w.cell? ⟨p, 0, none⟩ = some v := cell_of_row _ _ 0 _ _ (0, 0) h1
  obtain ⟨A, c, rfl⟩ := row_slice h.r
  have H := Lib.hid h
  clear h1 h
  go_enter Tryz.func62, Tryz.ntmps62
  go_wp2_with fail
  go_loopw [9] (fun t9 wr => ∃ k : Nat, k ≤ xs.length ∧ t9 = .int .i64 k ∧ Hid (OI B p m xs (.slice A xs.length c) wr ∧ Below B w wr)) (fun t9 _ => xs.length - (intOf t9).toNat)
  case atStart => exact ⟨0, Nat.zero_le _, rfl, Lib.hid ⟨H.out, Below.refl _ _⟩⟩
  case round =>
    obtain ⟨wi, hwi⟩ : ∃ W : World, W = wr := ⟨_, rfl⟩
    subst hwi
    obtain ⟨k, hk, rfl, HH⟩ := hrel
    by_cases hlt : k < xs.length
    · obtain ⟨hO, hB⟩ := HH.out
      obtain ⟨g, cap, hA⟩ := own_form1 hO.r (by omega)
      cases hA
      have kc := hO.r.cellAt k (by omega)
      obtain ⟨y, hy⟩ : ∃ y, xs[k]? = some y := ⟨xs[k], List.getElem?_eq_getElem hlt⟩
      have kc2 : wi.cell? ⟨g, k, none⟩ = some (.string y) := by rw [kc]; simp [hy]
      obtain ⟨f', s', h1'⟩ := hO.o
      have c1 : wi.cell? ⟨p, 1, none⟩ = some (.map (some m)) := cell_of_row _ _ 1 _ _ (0, 0) h1'
      obtain ⟨l, hl⟩ := hO.m
      obtain ⟨V1, hr1, hm1, hg1⟩ := hl.store Ks Tryz.underlying81 y (.int .i64 k)
      have hN : OI B p m xs (.slice (some ⟨g, 0, none⟩) xs.length c) V1 ∧ Below B w V1 := ⟨hO.stored hm1 hg1, hB.grown hg1 (Nat.le_trans hBw hB.size) (fun r e => by cases e; exact hO.hm)⟩
      have HN := Lib.hid hN
      clear hO hB kc hl hm1 hg1 hN h1' c0
      go_wp2_with fail
      go_roundw
      case rel => exact ⟨k + 1, hlt, by go_num, HN⟩
      case measure => simp [intOf]; omega
    · go_wp2_with fail
      go_end0
      exact ⟨⟨_, rfl⟩, HH.out.2⟩
set_option maxRecDepth 100000 in
set_option maxHeartbeats 8000000 in
theorem begun_any (w : World) : Calls Tryz.prog 31 #[] w fun e w' => (∃ p, e = .returned (.pointer (some ⟨p, 0, none⟩))) ∧ Below w.heap.size w w' := by
  have hmm := @run_makeMap Tryz.prog
  obtain ⟨W4, hW4⟩ : ∃ W4, (((w.alloc (.map #[] 0)).alloc (.map #[] 0)).alloc (.map #[] 0)).alloc (.cells #[.slice none 0 0, .map (some w.heap.size), .map (some (w.heap.size + 1)), .map (some (w.heap.size + 2)), .slice none 0 0] 142) = W4 := ⟨_, rfl⟩
  have h0 : OI w.heap.size (w.heap.size + 1 + 1 + 1) w.heap.size [] (.slice none 0 0) W4 ∧ Below w.heap.size w W4 := by
    rw [← hW4]
    have e3 := World.alloc_heap_new (((w.alloc (.map #[] 0)).alloc (.map #[] 0)).alloc (.map #[] 0)) (.cells #[.slice none 0 0, .map (some w.heap.size), .map (some (w.heap.size + 1)), .map (some (w.heap.size + 2)), .slice none 0 0] 142)
    simp only [World.size_alloc] at e3
    exact ⟨⟨by omega, Nat.le_refl _, ⟨_, _, e3⟩, World.ownsRow_nil _ _ _ _, [], #[], 0, al_at (al_at (al_at (World.alloc_heap_new w _) _) _) _, rfl⟩, ((((Below.refl _ _).alloc (Nat.le_refl _) _).alloc (by simp) _).alloc (by simp; omega) _).alloc (by simp; omega) _⟩
  have H0 := Lib.hid h0
  have HW4 := Lib.hid hW4
  clear h0 hW4
  go_enter Tryz.func31, Tryz.ntmps31
  go_wp2_with fail
  rw [HW4.out]
  go_loopw [2] (fun t2 wr => ∃ (r : Nat) (xs : List ByteArray) (v : Value), 97 ≤ r ∧ r ≤ 1120 ∧ t2 = .int .i32 r ∧ xs.length ≤ r - 97 ∧ Hid (OI w.heap.size (w.heap.size + 1 + 1 + 1) w.heap.size xs v wr ∧ Below w.heap.size w wr)) (fun t2 _ => 1120 - (intOf t2).toNat)
  case atStart => exact ⟨97, [], _, by omega, by omega, rfl, by simp, H0⟩
  case round =>
    obtain ⟨wi, hwi⟩ : ∃ W : World, W = wr := ⟨_, rfl⟩
    subst hwi
    obtain ⟨r, xs, v, h1, h2, rfl, hx, HH⟩ := hrel
    by_cases hlt : r < 1120
    · have Hsm := Lib.hid (small_any (r : Int) wi)
      go_wp2_with fail
      refine Hsm.out.mono ?_
      rintro e w2 ⟨rfl, rfl⟩
      cases hs : decide (SmallR (r : Int)) with
      | false =>
        go_wp2_with fail
        go_roundw
        case rel => exact ⟨r + 1, xs, v, by omega, by omega, by go_num, by omega, HH⟩
        case measure => simp [intOf]; omega
      | true =>
        have Hsp := Lib.hid (split_any (r : Int) wi)
        go_wp2_with fail
        refine Hsp.out.mono ?_
        rintro e w3 ⟨⟨A, n, c, rfl, hn⟩, hb3⟩
        have h3 : OI w.heap.size (w.heap.size + 1 + 1 + 1) w.heap.size xs v w3 ∧ Below w.heap.size w w3 := ⟨HH.out.1.below hb3, HH.out.2.trans (hb3.mono HH.out.2.size)⟩
        have H3 := Lib.hid h3
        clear h3 hb3
        by_cases hn1 : n = 1
        · subst hn1
          have Hfr := Lib.hid (foldrune_any r h1 hlt w3)
          go_wp2_with fail
          refine Hfr.out.mono ?_
          rintro e w4 ⟨⟨t, rfl⟩, hb4⟩
          have h4 : OI w.heap.size (w.heap.size + 1 + 1 + 1) w.heap.size xs v w4 ∧ Below w.heap.size w w4 := ⟨H3.out.1.below hb4, H3.out.2.trans (hb4.mono H3.out.2.size)⟩
          have H4 := Lib.hid h4
          clear h4 hb4
          obtain ⟨f, sk, h1'⟩ := H4.out.1.o
          have c0 : w4.cell? ⟨w.heap.size + 1 + 1 + 1, 0, none⟩ = some v := cell_of_row _ _ 0 _ _ (0, 0) h1'
          clear h1'
          cases hq : (t.toList == (Utf8.encode (r : Int)).toList) with
          | false =>
            go_wp2_with fail
            go_roundw
            case rel => exact ⟨r + 1, xs, v, by omega, by omega, by go_num, by omega, H4⟩
            case measure => simp [intOf]; omega
          | true =>
            go_wp2_with (at_builtin; go_loud (refine wpList_append_boxg w4 rfl _ _ 103 rfl w.heap.size 9 _ _ 1 16 Tryz.underlying103 infoStr zeroStr sizeStr bytesStr rfl (by decide) v xs.length (xs.map Value.string) #[.string (Utf8.encode (r : Int))] w4.heap.size rfl rfl rfl H4.out.1.r rfl (by intro u hu; simp at hu; subst hu; rfl) (by unfold maxLen; omega) (by omega) H4.out.2.size ?_; intro v5 w5 ho5 hg5 hn5; obtain ⟨g5, cap5, rfl⟩ := own_form1 ho5 (by omega); obtain ⟨hz5, ⟨x5, hx5⟩, hO5, hB5⟩ := H4.out.1.push ho5 hg5; have HF5 := Lib.hid (And.intro hO5 (hB5 w H4.out.2 H4.out.2.size)); clear ho5 hg5 hn5 hO5 hB5))
            go_roundw
            case rel => exact ⟨r + 1, xs ++ [Utf8.encode (r : Int)], _, by omega, by omega, by go_num, by simp; omega, HF5⟩
            case measure => simp [intOf]; omega
        · have q1 : ((n : Int) == 1) = false := by simp; omega
          go_wp2_with fail
          go_roundw
          case rel => exact ⟨r + 1, xs, v, by omega, by omega, by go_num, by omega, H3⟩
          case measure => simp [intOf]; omega
    · obtain rfl : r = 1120 := by omega
      have Hn := Lib.hid (number_any w.heap.size (w.heap.size + 1 + 1 + 1) w.heap.size xs v wi HH.out.1 (by omega) HH.out.2.size)
      go_wp2_with fail
      refine Hn.out.mono ?_
      rintro e w5 ⟨⟨x, rfl⟩, hb5⟩
      have Hb5 := Lib.hid (HH.out.2.trans hb5)
      clear hb5
      go_wp2_with fail
      go_ret
      exact ⟨⟨_, rfl⟩, Hb5.out⟩
end Go.Proofs.YtgcdopafblcbhaaGreatDoor

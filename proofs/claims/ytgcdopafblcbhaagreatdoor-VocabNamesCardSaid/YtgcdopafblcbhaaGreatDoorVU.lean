import Derived.Test.YtgcdopafblcbhaaGreatDoorVS
import Derived.Test.YtgcdopafblcbhaaGreatDoorVT
import Derived.Test.YtgcdopafblcbhaaGreatDoorVO
import Derived.Laws.MakeOwn
import Derived.Laws.IdiomStrings
/- VocabNames, walked. -/
namespace Go.Proofs.YtgcdopafblcbhaaGreatDoor
set_option linter.unusedVariables false
set_option linter.unusedSimpArgs false
open Go.RowKit Go.Lib Go.Shelf
attribute [local go_sem] Oper.semAt_some

theorem made_u8 (n k : Nat) (h : k < n) : (madeCells #[.int .u8 0] n)[k]? = some (.int .u8 0) := by
  unfold madeCells
  simp [h, Nat.mod_one]
def zC (n : Nat) : Array Value := madeCells #[.int .u8 0] n
def Zt (n : Nat) : ByteArray := ⟨(List.replicate n (0 : UInt8)).toArray⟩
theorem Zt_size (n : Nat) : (Zt n).size = n := by unfold Zt ByteArray.size; simp
theorem make_zt (W : World) : (Instr.makeSlice 52 (.int .i64 65537) (.int .i64 65537)).run Tryz.prog W = .ok (.slice (some ⟨W.heap.size, 0, none⟩) 65537 65537) (W.alloc (.cells (zC 65537) 5)) := by
  have h := run_make (P := Tryz.prog) W 52 5 _ _ Tryz.underlying52 infoB8 zeroB8 .i64 .i64 65537 65537 (by omega) (by omega) (by rw [bytesB8]; omega) (by omega)
  rw [h, sizeB8]
  rfl
theorem text_zt (W : World) : (Go.convert 52 9 (.slice (some ⟨W.heap.size, 0, none⟩) 65537 65537)).run Tryz.prog (W.alloc (.cells (zC 65537) 5)) = .ok (.string (Zt 65537)) (W.alloc (.cells (zC 65537) 5)) := by
  unfold zC
  generalize hn : 65537 = n
  have hr := run_convert_bytes_back (P := Tryz.prog) (W.alloc (.cells (madeCells #[.int .u8 0] n) 5)) 52 9 5 ⟨W.heap.size, 0, none⟩ n (List.replicate n (0 : UInt8)) Tryz.underlying52 Tryz.underlying5 Tryz.underlying9 (fun j hj => by
    rw [List.length_replicate] at hj
    have e : Addr.add ⟨W.heap.size, 0, none⟩ j = ⟨W.heap.size, 0 + j, none⟩ := by
      simp [Addr.add]
      intro h
      exact h.symm
    rw [e, Nat.zero_add, World.cell?_alloc_new W _ _ j, made_u8 _ _ hj]
    simp)
  rw [List.length_replicate] at hr
  exact hr
def markV (D : Nat) : Deferred := { target := .collected D, args := #[] }
theorem leaves_marksV {F : Fence} {n : Nat} {P : Program} {fn : Func} {tmps : Array Value} {R : Ending → World → Prop} : ∀ (Ds : List Nat) (W : World), Ds.Nodup → (∀ D ∈ Ds, W.heap[D]? = some (.deferred (some []))) →
    (∀ W', (∀ k, k ∉ Ds → W'.heap[k]? = W.heap[k]?) → (∀ B, (∀ D ∈ Ds, B ≤ D) → B ≤ W.heap.size → Below B W W') → LeavesIn F n P fn tmps R [] .returning W') → LeavesInM F n P fn tmps R (Ds.map markV) .returning W
  | [], W, _, _, h => h W (fun _ _ => rfl) (fun B _ _ => Below.refl B W)
  | D :: Ds, W, hnd, hd, h => by
    refine ⟨by simp, .inl ⟨D, _, rfl, run_takeDeferred (hd D (by simp)), ?_⟩⟩
    rw [List.nodup_cons] at hnd
    refine leaves_marksV Ds _ hnd.2 (fun D' hD' => ?_) (fun W' h1 h2 => h W' (fun k hk => ?_) (fun B hB hs => ?_))
    · exact (World.putObj_heap_other (fun e : D' = D => hnd.1 (by rw [← e]; exact hD'))).trans (hd D' (by simp [hD']))
    · exact (h1 k (fun hk' => hk (by simp [hk']))).trans (World.putObj_heap_other (fun e => hk (by simp [e])))
    · have := h2 B (fun D' hD' => hB D' (by simp [hD'])) (by simpa using hs)
      refine Below.trans ?_ this
      exact (Below.refl B W).grown (grownBy_putObj' W D _) hs (fun k e => by cases e; exact hB D (by simp))
/-- what lies while the law runs -/
structure LS (w : World) (F X : Nat) (Ds : List Nat) (V : World) : Prop where
  r : V.heap[w.heap.size]? = some (.cells #[.bool false] 4 (0, 0))
  f : V.heap[F]? = some (.cells #[.string ⟨#[]⟩, .string ⟨#[]⟩, .int .i64 0, .int .i64 0] 27 (0, 0))
  x : V.heap[X]? = some (.cells #[.string ⟨#[]⟩, .string ⟨#[]⟩, .int .i64 0] 25 (0, 0))
  b : Below w.heap.size w V
  d : ∀ D ∈ Ds, V.heap[D]? = some (.deferred (some []))
  nd : Ds.Nodup
  ge : ∀ D ∈ Ds, w.heap.size ≤ D
theorem LS.below {w V V' : World} {F X : Nat} {Ds : List Nat} (h : LS w F X Ds V) (hb : Below V.heap.size V V') : LS w F X Ds V' := ⟨keptB h.r hb, keptB h.f hb, keptB h.x hb, h.b.trans (hb.mono h.b.size), fun D hD => keptB (h.d D hD) hb, h.nd, h.ge⟩
theorem LS.from {w V0 : World} {F X : Nat} {Ds : List Nat} (h0 : LS w F X Ds V0) : OwnFrom V0.heap.size (fun (_ : Nat) V => LS w F X Ds V) := by
  intro k V V' row h hg hr
  have old : ∀ {i : Nat} {o o' : Obj}, V0.heap[i]? = some o' → V.heap[i]? = some o → V'.heap[i]? = some o := fun hi ho => (hg.block _ (Array.getElem?_eq_some_iff.1 ho).1 (fun e => by have := (hr _ e.symm).1; have := (Array.getElem?_eq_some_iff.1 hi).1; omega)).trans ho
  have := (Array.getElem?_eq_some_iff.1 h0.r).1
  exact ⟨old h0.r h.r, old h0.f h.f, old h0.x h.x, h.b.grown hg h.b.size (fun r e => by have := (hr r e).1; omega), fun D hD => old (h0.d D hD) (h.d D hD), h.nd, h.ge⟩
theorem LS.more {w V V0 : World} {F X D : Nat} {Ds : List Nat} (h : LS w F X Ds V) (h0 : LS w F X Ds V0) (hD : V.heap[D]? = some (.deferred (some []))) (hle : V0.heap.size ≤ D) : LS w F X (D :: Ds) V := by
  have ne : D ∉ Ds := fun hm => by have := (Array.getElem?_eq_some_iff.1 (h0.d D hm)).1; omega
  have := (Array.getElem?_eq_some_iff.1 h0.r).1
  refine ⟨h.r, h.f, h.x, h.b, fun D' hD' => ?_, List.nodup_cons.2 ⟨ne, h.nd⟩, fun D' hD' => ?_⟩
  · rcases List.mem_cons.1 hD' with rfl | hm
    · exact hD
    · exact h.d D' hm
  · rcases List.mem_cons.1 hD' with rfl | hm
    · omega
    · exact h.ge D' hm
/-- what lies in the law's last part -/
structure LT (w : World) (F X : Nat) (Ds : List Nat) (r m E1 E2 : Nat) (V : World) : Prop where
  ls : LS w F X Ds V
  v : VcI r m V
  e1 : V.heap[E1]? = some (.cells #[.int .i64 1, .int .i64 0] 47 (0, 0))
  e2 : V.heap[E2]? = some (.cells #[.int .i64 3, .int .i64 65536] 47 (0, 0))
theorem LT.below {w V V' : World} {F X : Nat} {Ds : List Nat} {r m E1 E2 : Nat} (h : LT w F X Ds r m E1 E2 V) (hb : Below V.heap.size V V') : LT w F X Ds r m E1 E2 V' := ⟨h.ls.below hb, h.v.below hb, keptB h.e1 hb, keptB h.e2 hb⟩
theorem al_below (V : World) (o : Obj) : Below V.heap.size V (V.alloc o) := (Below.refl _ V).alloc (Nat.le_refl _) _
theorem al_below2 (V : World) (o o' : Obj) : Below V.heap.size V ((V.alloc o).alloc o') := ((Below.refl _ V).alloc (Nat.le_refl _) _).alloc (by simp) _
set_option maxRecDepth 100000 in
set_option maxHeartbeats 16000000 in
theorem names_any (w : World) : Calls Tryz.prog 3 #[] w fun e w' => e = .returned (.bool true) ∧ Below w.heap.size w w' := by
  refine (callsIn_wide (n := 40)).1 ?_
  refine callsIn_of_wp_marks Tryz.func3 rfl trivial ?_ rfl
  simp only [Tryz.ntmps3, List.size_toArray, List.length_cons, List.length_nil, Nat.reduceAdd, Nat.reduceSub, Array.replicate_succ, Array.replicate_zero, List.push_toArray, List.append_toArray, List.nil_append, List.cons_append]
  have Hwk := Lib.hid wakes_any
  have Hdr := Lib.hid (draw_nil (-1))
  have Hgt := Lib.hid (get_none ⟨#[97]⟩)
  have Hal := Lib.hid all_make
  have Hse := Lib.hid (sel_make 0)
  have Hrh := Lib.hid (rhy_make ⟨#[97]⟩)
  unfold wantV at Hdr Hse
  gi_wp2
  refine ⟨trivial, CallsIn.mono (callsIn_wide.2 (Hwk.out _)) ?_⟩
  rintro e w1 ⟨rfl, hb1⟩
  have r1 : w1.heap[w.heap.size]? = some (.cells #[.bool false] 4 (0, 0)) := keptB (World.alloc_heap_new w _) hb1
  have b1 : Below w.heap.size w w1 := ((Below.refl _ w).alloc (Nat.le_refl _) _).trans (hb1.mono (by simp))
  have R1 := Lib.hid (And.intro r1 b1)
  clear hb1 r1 b1 Hwk
  gi_wp2
  refine ⟨trivial, CallsIn.mono (callsIn_wide.2 (Hdr.out _)) ?_⟩
  rintro e w2 ⟨rfl, hb2⟩
  have hb2' := (R1.out.2.trans (hb2.mono R1.out.2.size))
  obtain ⟨W3, hW3⟩ : ∃ W3, w2.alloc (.cells #[.string ⟨#[]⟩, .string ⟨#[]⟩, .int .i64 0, .int .i64 0] 27) = W3 := ⟨_, rfl⟩
  have hf3 : W3.heap[w2.heap.size]? = some (.cells #[.string ⟨#[]⟩, .string ⟨#[]⟩, .int .i64 0, .int .i64 0] 27 (0, 0)) := by rw [← hW3]; exact World.alloc_heap_new w2 _
  have hr3 : W3.heap[w.heap.size]? = some (.cells #[.bool false] 4 (0, 0)) := by rw [← hW3]; exact al_at (keptB R1.out.1 hb2) _
  have hb3 : Below w.heap.size w W3 := by rw [← hW3]; exact hb2'.alloc hb2'.size _
  have R3 := Lib.hid (And.intro hf3 (And.intro hr3 hb3))
  have HW3 := Lib.hid hW3
  clear hb2 hb2' hW3 hf3 hr3 hb3 R1 Hdr
  gi_wp2
  rw [HW3.out]
  refine ⟨trivial, CallsIn.mono (callsIn_wide.2 (Hgt.out _)) ?_⟩
  rintro e w4 ⟨rfl, hb4⟩
  obtain ⟨W5, hW5⟩ : ∃ W5, w4.alloc (.cells #[.string ⟨#[]⟩, .string ⟨#[]⟩, .int .i64 0] 25) = W5 := ⟨_, rfl⟩
  have hb4' := R3.out.2.2.trans (hb4.mono R3.out.2.2.size)
  have h5 : LS w w2.heap.size w4.heap.size [] W5 := by
    rw [← hW5]
    exact ⟨al_at (keptB R3.out.2.1 hb4) _, al_at (keptB R3.out.1 hb4) _, World.alloc_heap_new w4 _, hb4'.alloc hb4'.size _, fun D hD => by (cases hD), List.nodup_nil, fun D hD => by (cases hD)⟩
  have H5 := Lib.hid h5
  have HW5 := Lib.hid hW5
  clear hb4 hb4' hW5 h5 R3 HW3 Hgt
  generalize hF : w2.heap.size = F at *
  gi_wp2
  rw [HW5.out]
  generalize hX : w4.heap.size = X at *
  clear HW5
  refine ⟨trivial, CallsIn.mono (callsIn_wide.2 (Hal.out _)) ?_⟩
  rintro e w6 ⟨rfl, hw6⟩
  have hb6 : Below W5.heap.size W5 w6 := by rw [hw6]; exact al_below _ _
  have hy6 : w6.heap[W5.heap.size]? = some (.cells #[.pointer none] 23 (0, 0)) := by rw [hw6]; exact World.alloc_heap_new W5 _
  have H6 := Lib.hid (H5.out.below hb6)
  have S6 := Lib.hid (all_nil (40 - 1) W5.heap.size w6 hy6)
  clear hw6 hb6 hy6 H5 Hal
  gi_wp2
  generalize hB5 : W5.heap.size = B5 at *
  refine range_y (F := Fence.wide) rfl (by omega) (gf := 24) (lb := #[.pointer (some ⟨B5, 0, none⟩)]) rfl trivial (enters_of Tryz.func24 (by kernel_rfl) rfl) (bs := []) (by intro i hi; cases hi)
    S6.out (fun _ => rfl) (fun _ V => LS w F X [] V) (fun _ _ _ => False) ?hI ?hIx H6.out (fun _ _ _ => True) ?assign ?body ?hAx ?done ?stop
  case hI => exact H6.out.from
  case hIx => exact fun c => fun _ _ _ _ h _ _ => h.elim
  case hAx => exact fun _ _ _ _ _ _ h _ _ => h
  case stop => exact fun _ _ _ _ _ _ h _ => h.elim
  case assign =>
    intro l2 k x V K hx
    simp at hx
  case body =>
    intro l2 k x a' V hx
    simp at hx
  case done =>
    intro D1 V1 hD1 hi1 hDd1
    have K1 := Lib.hid (hi1.more H6.out hDd1 hD1)
    clear hi1 hDd1 H6 S6
    gi_wp2
    refine ⟨trivial, CallsIn.mono (callsIn_wide.2 (Hse.out _)) ?_⟩
    rintro e w7 ⟨rfl, hw7⟩
    have hb7 : Below V1.heap.size V1 w7 := by rw [hw7]; exact al_below2 _ _ _
    have hy7 : w7.heap[V1.heap.size]? = some (.cells #[.pointer none] 23 (0, 0)) := by rw [hw7]; exact al_at (World.alloc_heap_new V1 _) _
    have Hb := Lib.hid (K1.out.below hb7)
    have Sb := Lib.hid (sel_nil (40 - 1) V1.heap.size w7 hy7)
    clear hw7 hb7 hy7 K1 Hse
    gi_wp2
    generalize hB6 : V1.heap.size = B6 at *
    refine range_y (F := Fence.wide) rfl (by omega) (gf := 25) (lb := #[.pointer (some ⟨B6, 0, none⟩), .pointer (some ⟨B6 + 1, 0, none⟩)]) rfl trivial (enters_of Tryz.func25 (by kernel_rfl) rfl) (bs := []) (by intro i hi; cases hi)
      Sb.out (fun _ => rfl) (fun _ V => LS w F X [D1] V) (fun _ _ _ => False) ?hI ?hIx Hb.out (fun _ _ _ => True) ?assign ?body ?hAx ?done ?stop
    case hI => exact Hb.out.from
    case hIx => exact fun c => fun _ _ _ _ h _ _ => h.elim
    case hAx => exact fun _ _ _ _ _ _ h _ _ => h
    case stop => exact fun _ _ _ _ _ _ h _ => h.elim
    case assign =>
      intro l2 k x V K hx
      simp at hx
    case body =>
      intro l2 k x a' V hx
      simp at hx
    case done =>
      intro D2 V2 hD2 hi2 hDd2
      have K2 := Lib.hid (hi2.more Hb.out hDd2 hD2)
      clear hi2 hDd2 Hb Sb
      gi_wp2
      refine ⟨trivial, CallsIn.mono (callsIn_wide.2 (Hrh.out _)) ?_⟩
      rintro e w8 ⟨rfl, hw8⟩
      have hb8 : Below V2.heap.size V2 w8 := by rw [hw8]; exact al_below2 _ _ _
      have hy8 : w8.heap[V2.heap.size]? = some (.cells #[.pointer none] 23 (0, 0)) := by rw [hw8]; exact al_at (World.alloc_heap_new V2 _) _
      have hs8 : w8.heap[V2.heap.size + 1]? = some (.cells #[.string ⟨#[97]⟩] 9 (0, 0)) := by
        rw [hw8]
        have := World.alloc_heap_new (V2.alloc (.cells #[.pointer none] 23)) (.cells #[.string ⟨#[97]⟩] 9)
        rw [World.size_alloc] at this
        exact this
      have Hc := Lib.hid (K2.out.below hb8)
      have Sc := Lib.hid (rhy_nil (40 - 1) V2.heap.size ⟨#[97]⟩ (by omega) w8 hy8 hs8)
      clear hw8 hb8 hy8 hs8 K2 Hrh
      gi_wp2
      generalize hB7 : V2.heap.size = B7 at *
      refine range_y (F := Fence.wide) rfl (by omega) (gf := 26) (lb := #[.pointer (some ⟨B7, 0, none⟩), .pointer (some ⟨B7 + 1, 0, none⟩)]) rfl trivial (enters_of Tryz.func26 (by kernel_rfl) rfl) (bs := []) (by intro i hi; cases hi)
        Sc.out (fun _ => rfl) (fun _ V => LS w F X [D2, D1] V) (fun _ _ _ => False) ?hI ?hIx Hc.out (fun _ _ _ => True) ?assign ?body ?hAx ?done ?stop
      case hI => exact Hc.out.from
      case hIx => exact fun c => fun _ _ _ _ h _ _ => h.elim
      case hAx => exact fun _ _ _ _ _ _ h _ _ => h
      case stop => exact fun _ _ _ _ _ _ h _ => h.elim
      case assign =>
        intro l2 k x V K hx
        simp at hx
      case body =>
        intro l2 k x a' V hx
        simp at hx
      case done =>
        intro D3 V3 hD3 hi3 hDd3
        have K3 := Lib.hid (hi3.more Hc.out hDd3 hD3)
        clear hi3 hDd3 Hc Sc
        have Hlx := Lib.hid lexnew_any
        have Hrd := Lib.hid read_e
        gi_wp2
        refine ⟨trivial, CallsIn.mono (callsIn_wide.2 (Hlx.out _)) ?_⟩
        rintro e w9 ⟨⟨p, rfl⟩, hb9⟩
        have K9 := Lib.hid (K3.out.below hb9)
        clear hb9 K3 Hlx
        gi_wp2
        refine ⟨trivial, CallsIn.mono (callsIn_wide.2 (Hrd.out _)) ?_⟩
        rintro e w10 ⟨⟨q, rfl⟩, hb10⟩
        obtain ⟨W11, hW11⟩ : ∃ W11, w10.alloc (.cells #[.int .i64 0, .int .i64 0] 47) = W11 := ⟨_, rfl⟩
        have hb11 : Below w10.heap.size w10 W11 := by rw [← hW11]; exact al_below _ _
        have c11 : W11.cell? ⟨w10.heap.size, 0, none⟩ = some (.int .i64 0) := by rw [← hW11]; exact cell_of_row _ _ 0 _ _ (0, 0) (World.alloc_heap_new w10 _)
        have K11 := Lib.hid ((K9.out.below hb10).below hb11)
        have HW11 := Lib.hid hW11
        have Hn1 := Lib.hid (vnew_nil1 (some ⟨q, 0, none⟩) 0 W11)
        have Hn2 := Lib.hid (vnew_nil2 p 1 W11)
        have Hn3 := Lib.hid (vnew_arg p q W11)
        have Hn4 := Lib.hid (vnew_fine p q W11)
        clear hb10 hb11 hW11 K9 Hrd
        gi_wp2
        rw [HW11.out]
        gi_wp2
        refine ⟨trivial, CallsIn.mono (callsIn_wide.2 Hn1.out) ?_⟩
        rintro e v1 ⟨rfl, rfl⟩
        gi_wp2
        refine ⟨trivial, CallsIn.mono (callsIn_wide.2 Hn2.out) ?_⟩
        rintro e v2 ⟨rfl, rfl⟩
        gi_wp2
        refine ⟨trivial, CallsIn.mono (callsIn_wide.2 Hn3.out) ?_⟩
        rintro e v3 ⟨rfl, rfl⟩
        gi_wp2
        refine ⟨trivial, CallsIn.mono (callsIn_wide.2 Hn4.out) ?_⟩
        rintro e w12 ⟨⟨r, m, rfl, hv, _, _⟩, hb12⟩
        have K12 := Lib.hid (K11.out.below hb12)
        obtain ⟨W13, hW13⟩ : ∃ W13, w12.alloc (.cells (zC 65537) 5) = W13 := ⟨_, rfl⟩
        have hm5 := make_zt w12
        have ht5 := text_zt w12
        rw [hW13] at hm5 ht5
        have hb13 : Below w12.heap.size w12 W13 := by rw [← hW13]; exact al_below _ _
        have K13 := Lib.hid (And.intro (K12.out.below hb13) (hv.below hb13))
        have Hr1 := Lib.hid (vread_nil (Zt 65537))
        have Hr2 := Lib.hid (vread_long r (Zt 65537) (Zt_size _))
        clear hb12 hv hW13 hb13 K12 K11 Hn1 Hn2 Hn3 Hn4 c11 HW11
        generalize Zt 65537 = Z at *
        gi_wp2
        refine ⟨trivial, CallsIn.mono (callsIn_wide.2 (Hr1.out _)) ?_⟩
        rintro e w14 ⟨rfl, hb14⟩
        have K14 := Lib.hid (And.intro (K13.out.1.below hb14) (K13.out.2.below hb14))
        clear hb14 K13 Hr1 hm5 ht5
        gi_wp2
        refine ⟨trivial, CallsIn.mono (callsIn_wide.2 (Hr2.out _)) ?_⟩
        rintro e w15 ⟨rfl, hb15⟩
        have K15 := Lib.hid (And.intro (K14.out.1.below hb15) (K14.out.2.below hb15))
        obtain ⟨W16, hW16⟩ : ∃ W16, ((w15.alloc (.cells #[.int .i64 1, .int .i64 0] 47)).alloc (.cells #[.int .i64 3, .int .i64 65536] 47)).alloc (.cells #[.int .i32 97, .bool false, .int .i32 0] 58) = W16 := ⟨_, rfl⟩
        have hb16 : Below w15.heap.size w15 W16 := by rw [← hW16]; exact (((Below.refl _ _).alloc (Nat.le_refl _) _).alloc (by simp) _).alloc (by simp; omega) _
        have he1 : W16.heap[w15.heap.size]? = some (.cells #[.int .i64 1, .int .i64 0] 47 (0, 0)) := by rw [← hW16]; exact al_at (al_at (World.alloc_heap_new w15 _) _) _
        have he2 : W16.heap[w15.heap.size + 1]? = some (.cells #[.int .i64 3, .int .i64 65536] 47 (0, 0)) := by
          rw [← hW16]
          have := World.alloc_heap_new (w15.alloc (.cells #[.int .i64 1, .int .i64 0] 47)) (.cells #[.int .i64 3, .int .i64 65536] 47)
          rw [World.size_alloc] at this
          exact al_at this _
        have he3 : W16.heap[w15.heap.size + 1 + 1]? = some (.cells #[.int .i32 97, .bool false, .int .i32 0] 58 (0, 0)) := by
          rw [← hW16]
          have := World.alloc_heap_new ((w15.alloc (.cells #[.int .i64 1, .int .i64 0] 47)).alloc (.cells #[.int .i64 3, .int .i64 65536] 47)) (.cells #[.int .i32 97, .bool false, .int .i32 0] 58)
          rw [World.size_alloc, World.size_alloc] at this
          exact this
        have K16 := Lib.hid (LT.mk (K15.out.1.below hb16) (K15.out.2.below hb16) he1 he2)
        have Hly := Lib.hid (lay_a _ W16 ⟨he3⟩)
        have HW16 := Lib.hid hW16
        clear hb15 K14 Hr2 hb16 he1 he2 he3 hW16 K15
        gi_wp2
        rw [HW16.out]
        generalize hE : w15.heap.size = E at *
        clear HW16
        refine ⟨trivial, CallsIn.mono (callsIn_wide.2 Hly.out) ?_⟩
        rintro e w17 ⟨⟨A, c, rfl⟩, hb17⟩
        have K17 := Lib.hid (K16.out.below hb17)
        clear hb17 K16 Hly
        have hq1 : ∀ W : World, (binOp BinOp.eql 27 (.agg #[.string ⟨#[]⟩, .string ⟨#[]⟩, .int .i64 0, .int .i64 0]) (.agg #[.string ⟨#[]⟩, .string ⟨#[]⟩, .int .i64 0, .int .i64 0])).run Tryz.prog W = .ok (.bool true) W := fun W => by kernel_rfl
        have hq2 : ∀ W : World, (binOp BinOp.eql 25 (.agg #[.string ⟨#[]⟩, .string ⟨#[]⟩, .int .i64 0]) (.agg #[.string ⟨#[]⟩, .string ⟨#[]⟩, .int .i64 0])).run Tryz.prog W = .ok (.bool true) W := fun W => by kernel_rfl
        have f0 : w17.cell? ⟨F, 0, none⟩ = some (.string ⟨#[]⟩) := cell_of_row _ _ 0 _ _ (0, 0) K17.out.ls.f
        have f1 : w17.cell? ⟨F, 1, none⟩ = some (.string ⟨#[]⟩) := cell_of_row _ _ 1 _ _ (0, 0) K17.out.ls.f
        have f2 : w17.cell? ⟨F, 2, none⟩ = some (.int .i64 0) := cell_of_row _ _ 2 _ _ (0, 0) K17.out.ls.f
        have f3 : w17.cell? ⟨F, 3, none⟩ = some (.int .i64 0) := cell_of_row _ _ 3 _ _ (0, 0) K17.out.ls.f
        have x0 : w17.cell? ⟨X, 0, none⟩ = some (.string ⟨#[]⟩) := cell_of_row _ _ 0 _ _ (0, 0) K17.out.ls.x
        have x1 : w17.cell? ⟨X, 1, none⟩ = some (.string ⟨#[]⟩) := cell_of_row _ _ 1 _ _ (0, 0) K17.out.ls.x
        have x2 : w17.cell? ⟨X, 2, none⟩ = some (.int .i64 0) := cell_of_row _ _ 2 _ _ (0, 0) K17.out.ls.x
        have Hfo := Lib.hid (forms_nil ⟨#[97]⟩ w17)
        have Hle := Lib.hid (len_nil w17)
        have Hco := Lib.hid (copy_nil w17)
        have Hpr := Lib.hid (print_nil w17)
        gi_wp2
        refine ⟨trivial, CallsIn.mono (callsIn_wide.2 Hfo.out) ?_⟩
        rintro e u1' ⟨rfl, rfl⟩
        clear hq1 hq2 f0 f1 f2 f3 x0 x1 x2 Hfo
        gi_wp2
        refine ⟨trivial, CallsIn.mono (callsIn_wide.2 Hle.out) ?_⟩
        rintro e u2' ⟨rfl, rfl⟩
        clear Hle
        gi_wp2
        refine ⟨trivial, CallsIn.mono (callsIn_wide.2 Hco.out) ?_⟩
        rintro e u3' ⟨rfl, rfl⟩
        clear Hco
        gi_wp2
        refine ⟨trivial, CallsIn.mono (callsIn_wide.2 Hpr.out) ?_⟩
        rintro e w18 ⟨rfl, hb18⟩
        have K18 := Lib.hid (K17.out.below hb18)
        have Had := Lib.hid (add_nil w18)
        have Hrm := Lib.hid (remove_nil ⟨#[]⟩ w18)
        have Hl2 := Lib.hid (len_none r m w18 K18.out.v)
        have Ha2 := Lib.hid (vadd_none r m w18 K18.out.v)
        have s0 : w18.cell? ⟨E, 0, none⟩ = some (.int .i64 1) := cell_of_row _ _ 0 _ _ (0, 0) K18.out.e1
        have s1 : w18.cell? ⟨E, 1, none⟩ = some (.int .i64 0) := cell_of_row _ _ 1 _ _ (0, 0) K18.out.e1
        have t0 : w18.cell? ⟨E + 1, 0, none⟩ = some (.int .i64 3) := cell_of_row _ _ 0 _ _ (0, 0) K18.out.e2
        have t1 : w18.cell? ⟨E + 1, 1, none⟩ = some (.int .i64 65536) := cell_of_row _ _ 1 _ _ (0, 0) K18.out.e2
        clear hb18 K17 Hpr
        gi_wp2
        refine ⟨trivial, CallsIn.mono (callsIn_wide.2 Had.out) ?_⟩
        rintro e u4' ⟨rfl, rfl⟩
        clear Had
        gi_wp2
        refine ⟨trivial, CallsIn.mono (callsIn_wide.2 Hrm.out) ?_⟩
        rintro e u5' ⟨rfl, rfl⟩
        clear Hrm
        gi_wp2
        refine ⟨trivial, CallsIn.mono (callsIn_wide.2 Hl2.out) ?_⟩
        rintro e u6' ⟨rfl, rfl⟩
        clear Hl2 s0 s1 t0 t1
        gi_wp2
        refine ⟨trivial, CallsIn.mono (callsIn_wide.2 Ha2.out) ?_⟩
        rintro e w19 ⟨rfl, hb19⟩
        have K19 := Lib.hid (K18.out.below hb19)
        have Hr4 := Lib.hid (remove_none r m w19 K19.out.v)
        clear hb19 K18 Ha2
        gi_wp2
        refine ⟨trivial, CallsIn.mono (callsIn_wide.2 Hr4.out) ?_⟩
        rintro e w20 ⟨rfl, hb20⟩
        have K20 := Lib.hid (K19.out.below hb20)
        clear hb20 K19 Hr4
        have rr : w20.cell? ⟨w.heap.size, 0, none⟩ = some (.bool false) := cell_of_row _ _ 0 _ _ (0, 0) K20.out.ls.r
        have rz := frozen_of_row _ _ 0 _ _ K20.out.ls.r
        gi_wp2
        have hgs := grown_put w20 w.heap.size 0 (.bool true)
        have hrr : (w20.setCell ⟨w.heap.size, 0, none⟩ (.bool true)).heap[w.heap.size]? = some (.cells #[.bool true] 4 (0, 0)) := heap_setCell_same w20 w.heap.size 0 _ _ _ K20.out.ls.r
        have hbb : Below w.heap.size w (w20.setCell ⟨w.heap.size, 0, none⟩ (.bool true)) := K20.out.ls.b.setCell (p := ⟨w.heap.size, 0, none⟩) (Nat.le_refl _) _
        have hnm : w.heap.size ∉ [D3, D2, D1] := fun hm => by
          have h1 := K20.out.ls.d _ hm
          rw [K20.out.ls.r] at h1
          cases h1
        have hdd : ∀ D ∈ [D3, D2, D1], (w20.setCell ⟨w.heap.size, 0, none⟩ (.bool true)).heap[D]? = some (.deferred (some [])) := fun D hD => keptG (K20.out.ls.d D hD) hgs (fun e => hnm (e ▸ hD))
        have hnd := K20.out.ls.nd
        have hge := K20.out.ls.ge
        generalize w20.setCell ⟨w.heap.size, 0, none⟩ (.bool true) = W21 at *
        refine leaves_marksV [D3, D2, D1] _ hnd hdd (fun W' h3 h4 => ?_)
        have hc' : W'.cell? ⟨w.heap.size, 0, none⟩ = some (.bool true) := cell_of_row _ _ 0 _ _ (0, 0) ((h3 _ hnm).trans hrr)
        refine ⟨.bool true, ?_, rfl, hbb.trans (h4 w.heap.size hge hbb.size)⟩
        simp [results, Tryz.f3, go_sem, hc']
end Go.Proofs.YtgcdopafblcbhaaGreatDoor

import Derived.Test.YtgklikkddckgbaaGreatDoorYA
import Derived.Test.YtgklikkddckgbaaGreatDoorYB
import Derived.Test.YtgklikkddckgbaaGreatDoorFBA
import Derived.Laws.MakeOwn
import Derived.Laws.IdiomStrings
/- The numbers, a nil form, texts that are too long: the walk of the law. -/
namespace Go.Proofs.YtgklikkddckgbaaGreatDoor.Mo
set_option linter.unusedVariables false
set_option linter.unusedSimpArgs false
open Go.RowKit

/-- the iterator of a nil form: no round -/
theorem each_nil_seq (n fb rb : Nat) (r : Int) (w : World) (hf : w.heap[fb]? = some (.cells #[.pointer none] 24 (0, 0))) (hr : w.heap[rb]? = some (.cells #[.int .i64 r] 3 (0, 0))) :
    SeqOwn Fence.wide n Tryz.prog 37 #[.pointer (some ⟨fb, 0, none⟩), .pointer (some ⟨rb, 0, none⟩)] (fun x : Empty => x.elim) (fun xs => xs = []) (fun _ => False) 0 w := fun l J Jx W hW hJ hJx hY h0 => by
  have h1 : fb < w.heap.size := (Array.getElem?_eq_some_iff.1 hf).1
  have h2 : rb < w.heap.size := (Array.getElem?_eq_some_iff.1 hr).1
  refine (callsIn_wide (n := n)).2 ((each1_nil l fb rb r W ((hW.block fb h1).trans hf) ((hW.block rb h2).trans hr)).mono ?_)
  rintro e W' ⟨hv, rfl⟩
  exact ⟨hv, .inl ⟨[], rfl, h0⟩⟩

theorem maxV_on {w w' : World} {B : Nat} (h : MaxV w) (hb : Below B w w') (hB : 9 ≤ B) : MaxV w' := by
  obtain ⟨m, hm⟩ := h
  exact ⟨m, (World.cell?_of_block (hb.block 0 (by omega))).trans hm⟩

/- The long text. -/
theorem infoU8 : Tryz.prog.info? 5 = some Tryz.t5 := by kernel_rfl
theorem zeroU8 : Tryz.t5.zero = some (.int .u8 0) := by kernel_rfl
theorem sizeU8 : Tryz.t5.size = 1 := by kernel_rfl
theorem bytesU8 : Tryz.t5.bytes = 1 := by kernel_rfl
theorem make_long (W : World) : (Instr.makeSlice 25 (.int .i64 65537) (.int .i64 65537)).run Tryz.prog W = .ok (.slice (some ⟨W.heap.size, 0, none⟩) 65537 65537) (W.alloc (.cells (madeCells #[.int .u8 0] 65537) 5)) := by
  have h := run_make (P := Tryz.prog) W 25 5 _ _ Tryz.underlying25 infoU8 zeroU8 .i64 .i64 65537 65537 (by omega) (by omega) (by rw [bytesU8]; omega) (by omega)
  rw [h, sizeU8]
  rfl
theorem made_u8 (n k : Nat) (h : k < n) : (madeCells #[.int .u8 0] n)[k]? = some (.int .u8 0) := by
  unfold madeCells
  simp [h, Nat.mod_one]
/-- k of its bytes are written -/
structure Fil (wb : World) (G k : Nat) (W : World) : Prop where
  b : Below G wb W
  sz : wb.heap.size = G
  lt : G < W.heap.size
  c : ∀ j, j < 65537 → W.cell? ⟨G, j, none⟩ = some (.int .u8 (if j < k then 10 else 0))
  z : ∀ j, W.frozen? ⟨G, j, none⟩ = false
theorem Fil.start (wb : World) : Fil wb wb.heap.size 0 (wb.alloc (.cells (madeCells #[.int .u8 0] 65537) 5)) := by
  refine ⟨(Below.refl _ _).alloc (Nat.le_refl _) _, rfl, by simp, fun j hj => ?_, fun j => World.frozen?_alloc_new wb _ _ j⟩
  rw [World.cell?_alloc_new wb _ _ j, made_u8 _ _ hj, if_neg (by omega)]
theorem Fil.step {wb W : World} {G k : Nat} (h : Fil wb G k W) (hk : k < 65537) : Fil wb G (k + 1) (W.setCell ⟨G, k, none⟩ (.int .u8 10)) := by
  refine ⟨h.b.setCell (p := ⟨G, k, none⟩) (Nat.le_refl _) _, h.sz, by rw [World.size_setCell]; exact h.lt, fun j hj => ?_, fun j => by rw [World.frozen?_setCell]; exact h.z j⟩
  by_cases e : j = k
  · subst e
    rw [World.cell?_setCell_same _ _ _ (h.c j hj), if_pos (by omega)]
  · rw [World.cell?_setCell_other _ _ _ _ (fun q => e (by simp at q <;> omega)), h.c j hj]
    by_cases h1 : j < k
    · rw [if_pos h1, if_pos (by omega)]
    · rw [if_neg h1, if_neg (by omega)]
theorem Fil.below {wb W W' : World} {G k : Nat} (h : Fil wb G k W) (hb : Below W.heap.size W W') : Fil wb G k W' :=
  ⟨h.b.trans (hb.mono (by have := h.lt; omega)), h.sz, by have := h.lt; have := hb.size; omega, fun j hj => (hb.cell (p := ⟨G, j, none⟩) h.lt).trans (h.c j hj), fun j => (hb.frozen (p := ⟨G, j, none⟩) h.lt).trans (h.z j)⟩
def nlS (n : Nat) : ByteArray := ⟨(List.replicate n (10 : UInt8)).toArray⟩
theorem nlS_size (n : Nat) : (nlS n).size = n := by unfold nlS ByteArray.size; simp
theorem nlS_at {n j : Nat} (h : j < n) : isB (nlS n) j 10 = true := by
  rw [isB_in (by rw [nlS_size]; exact h)]
  unfold nlS
  show (((List.replicate n (10 : UInt8)).toArray[j]'(by simpa using h)).toNat : Int) == 10
  simp
theorem Fil.text {wb W : World} {G k : Nat} (h : Fil wb G k W) (o n c : Nat) (hn : o + n ≤ k) (hk : k ≤ 65537) : (Go.convert 25 9 (.slice (some ⟨G, o, none⟩) n c)).run Tryz.prog W = .ok (.string (nlS n)) W := by
  have hr := run_convert_bytes_back (P := Tryz.prog) W 25 9 5 ⟨G, o, none⟩ c (List.replicate n (10 : UInt8)) Tryz.underlying25 Tryz.underlying5 Tryz.underlying9 (fun j hj => by
    rw [List.length_replicate] at hj
    have e : Addr.add ⟨G, o, none⟩ j = ⟨G, o + j, none⟩ := by simp [Addr.add]
    rw [e, h.c (o + j) (by omega), if_pos (by omega)]
    simp)
  rw [List.length_replicate] at hr
  exact hr
theorem text1 : formP (nlS 65537) = .error (3, 65536) := form_long (by rw [nlS_size]; omega)
theorem text2 : formP (nlS 65536) = .error (180, 65536) := form_nl (nlS_size _) (fun j hj => nlS_at hj)
theorem tail_size : TAIL.size = 15 := rfl
theorem text3_of {A : ByteArray} (hA : A.size = 65521) (h10 : ∀ j, j < 65521 → isB A j 10 = true) : ∃ f, formP (A ++ TAIL) = .ok f := by
  have hs : (A ++ TAIL).size = 65536 := by rw [ByteArray.size_append, hA, tail_size]
  refine form_good hs (fun j hj => ?_) (fun k hk => ?_)
  · have h := h10 j hj
    rw [isB_in (by omega)] at h
    rw [isB_in (by omega), ByteArray.getElem_append_left (by omega)]
    exact h
  · unfold byteD
    rw [dif_pos (by omega), dif_pos (by rw [tail_size]; exact hk), ByteArray.getElem_append_right (by omega)]
    exact getElem_congr_idx (by omega)
theorem text3_size : (nlS 65521 ++ TAIL).size = 65536 := by rw [ByteArray.size_append, nlS_size, tail_size]
theorem text3 : ∃ f, formP (nlS 65521 ++ TAIL) = .ok f := text3_of (nlS_size _) (fun j hj => nlS_at hj)
theorem below_on {A W2 W3 : World} (h : Below A.heap.size A W2) (h2 : Below W2.heap.size W2 W3) : Below A.heap.size A W3 := h.trans (h2.mono h.size)
theorem row_on {w w' : World} {b : Nat} {o : Obj} (h : w.heap[b]? = some o) (hb : Below w.heap.size w w') : w'.heap[b]? = some o := (hb.block b (Array.getElem?_eq_some_iff.1 h).1).trans h

/-- the law's end, ahead of the loop's deferred calls (there are none) -/
def NmPost (w : World) (e : Exit) (a : Act) (W : World) : Prop :=
  match e with
  | .ret => a.tmps.getD 0 undef = .pointer (some ⟨w.heap.size, 0, none⟩) ∧ W.cell? ⟨w.heap.size, 0, none⟩ = some (.bool true) ∧ Below w.heap.size w W ∧
      ∃ D, a.defers = [{ target := .collected D, args := #[] }] ∧ w.heap.size + 1 ≤ D ∧ W.heap[D]? = some (.deferred (some []))
  | _ => False
set_option maxRecDepth 100000 in
set_option maxHeartbeats 4000000 in
theorem names_any (w : World) (hv : Vars w) (hm : MaxV w) :
    Calls Tryz.prog 11 #[] w fun e w' => e = .returned (.bool true) ∧ Below w.heap.size w w' := by
  have h9 := hv.six
  obtain ⟨W1, hW1⟩ : ∃ W1, w.alloc (.cells #[.bool false] 4) = W1 := ⟨_, rfl⟩
  have hb1 : Below w.heap.size w W1 := by rw [← hW1]; exact (Below.refl _ _).alloc (Nat.le_refl _) _
  have hR1 : W1.heap[w.heap.size]? = some (.cells #[.bool false] 4 (0, 0)) := by rw [← hW1]; exact World.alloc_heap_new w _
  have Hwk := Lib.hid (wakes_any W1 (Vars.below hv hb1 h9) (maxV_on hm hb1 h9))
  have HW1 := Lib.hid hW1
  have Hb1 := Lib.hid hb1
  have HR1 := Lib.hid hR1
  have Hv := Lib.hid hv
  clear hW1 hb1 hR1 hv hm
  refine (callsIn_wide (n := 6)).1 ?_
  refine callsIn_of_wp_marks Tryz.func11 rfl trivial ?_ rfl
  simp only [Tryz.ntmps11, List.size_toArray, List.length_cons, List.length_nil, Nat.reduceAdd, Nat.reduceSub, Array.replicate_succ, Array.replicate_zero, List.push_toArray, List.append_toArray, List.nil_append, List.cons_append]
  refine wpIn_wide.2 (Code.wp_mono (Q := NmPost w) ?_ ?_)
  · rintro e a W hq
    cases e <;> try exact hq.elim
    obtain ⟨h4, hc, hb, D, hd, hD, hK⟩ := hq
    obtain ⟨T, df⟩ := a
    simp only [] at hd h4
    subst hd
    have h4' : T[0]?.getD undef = .pointer (some ⟨w.heap.size, 0, none⟩) := by simpa using h4
    have hc' : (W.putObj D (.deferred none)).cell? ⟨w.heap.size, 0, none⟩ = some (.bool true) :=
      (World.cell?_of_block (by exact World.putObj_heap_other (by show w.heap.size ≠ D; omega))).trans hc
    refine ⟨by simp, .inl ⟨_, _, rfl, run_takeDeferred hK, ?_⟩⟩
    refine ⟨_, ?_, rfl, ?_⟩
    · simp [results, Tryz.f11, go_sem, h4', hc']
    · exact ⟨hb.os, hb.tape, hb.output, by rw [World.putObj_size]; exact hb.size, fun k hk => (World.putObj_heap_other (by omega)).trans (hb.block k hk)⟩
  go_wp2_with fail
  rw [HW1.out]
  refine Hwk.out.mono ?_
  rintro e w2 ⟨rfl, hb2⟩
  have Hb2 := Lib.hid (Hb1.out.trans (hb2.mono Hb1.out.size))
  have HR2 := Lib.hid (row_on HR1.out hb2)
  clear hb2
  go_wp2_with fail
  refine (size_nil 0 w2).mono ?_
  rintro e w3 ⟨rfl, rfl⟩
  go_wp2_with fail
  refine (lines_nil 0 w2).mono ?_
  rintro e w3 ⟨rfl, rfl⟩
  go_wp2_with fail
  refine (scheme_nil 0 w2).mono ?_
  rintro e w3 ⟨rfl, hb3⟩
  have Hb3 := Lib.hid (below_on Hb2.out hb3)
  have HR3 := Lib.hid (row_on HR2.out hb3)
  clear hb3
  go_wp2_with fail
  obtain ⟨W4, hW4⟩ : ∃ W, w3.alloc (.cells #[.slice none 0 0, .slice none 0 0] 60) = W := ⟨_, rfl⟩
  rw [hW4]
  have hb4 : Below w3.heap.size w3 W4 := by rw [← hW4]; exact (Below.refl _ _).alloc (Nat.le_refl _) _
  have hS4 : W4.heap[w3.heap.size]? = some (.cells #[.slice none 0 0, .slice none 0 0] 60 (0, 0)) := by rw [← hW4]; exact World.alloc_heap_new w3 _
  have Hb4 := Lib.hid (below_on Hb3.out hb4)
  have HR4 := Lib.hid (row_on HR3.out hb4)
  have HS4 := Lib.hid hS4
  clear hW4 hb4 hS4
  refine (fit_nil 0 W4).mono ?_
  rintro e w5 ⟨rfl, rfl⟩
  go_wp2_with fail
  refine (rounds_nil W4).mono ?_
  rintro e w5 ⟨rfl, rfl⟩
  go_wp2_with fail
  refine (each_any (.pointer none) 0 W4 (.inl rfl)).mono ?_
  rintro e w5 ⟨rfl, rfl⟩
  have hb5 : Below W4.heap.size W4 ((W4.alloc (.cells #[.pointer none] 24)).alloc (.cells #[.int .i64 0] 3)) := ((Below.refl _ _).alloc (Nat.le_refl _) _).alloc (by simp) _
  have hF5 : ((W4.alloc (.cells #[.pointer none] 24)).alloc (.cells #[.int .i64 0] 3)).heap[W4.heap.size]? = some (.cells #[.pointer none] 24 (0, 0)) := (Below.heap_alloc _ _ _ (by simp)).trans (World.alloc_heap_new W4 _)
  have hr5 : ((W4.alloc (.cells #[.pointer none] 24)).alloc (.cells #[.int .i64 0] 3)).heap[W4.heap.size + 1]? = some (.cells #[.int .i64 0] 3 (0, 0)) := by
    have := World.alloc_heap_new (W4.alloc (.cells #[.pointer none] 24)) (.cells #[.int .i64 0] 3)
    rw [World.size_alloc] at this
    exact this
  generalize ((W4.alloc (.cells #[.pointer none] 24)).alloc (.cells #[.int .i64 0] 3)) = W5 at hb5 hF5 hr5 ⊢
  have hseq := each_nil_seq 5 W4.heap.size (W4.heap.size + 1) 0 W5 hF5 hr5
  have Hb5 := Lib.hid (below_on Hb4.out hb5)
  have HR5 := Lib.hid (row_on HR4.out hb5)
  have HS5 := Lib.hid (row_on HS4.out hb5)
  clear hb5 hF5 hr5
  go_wp2_with fail
  refine wpIn_wide.1 (range_all (F := Fence.wide) (n := 6) (gf := 37) (lb := #[.pointer (some ⟨W4.heap.size, 0, none⟩), .pointer (some ⟨W4.heap.size + 1, 0, none⟩)]) rfl (by decide) rfl trivial (enters_of Tryz.func37 (by kernel_rfl) rfl) hseq (fun x => x.elim)
    (fun _ W => Below W5.heap.size W5 W) (fun _ _ _ => False) ?hI ?hIx (Below.refl _ _) (fun _ _ _ => True) ?assign ?body ?hAx ?done ?stop)
  case hI =>
    rintro s A A' row h2 hg hr
    exact h2.grown hg h2.size hr
  case hIx => exact fun c s A A' row h _ _ => h
  case assign => exact fun l pre x => x.elim
  case body => exact fun l pre x => x.elim
  case hAx => exact fun x => x.elim
  case stop => exact fun D c pre W _ h => h.elim
  case done =>
    rintro D xs W hD rfl hW5 hK
    have Hb6 := Lib.hid (below_on Hb5.out hW5)
    have HR6 := Lib.hid (row_on HR5.out hW5)
    have HS6 := Lib.hid (row_on HS5.out hW5)
    have HD := Lib.hid (And.intro hD hK)
    have hmk := make_long W
    clear hW5 hD hK hseq
    go_wp2_with fail
    have hF0 := Fil.start W
    generalize W.alloc (.cells (madeCells #[.int .u8 0] 65537) 5) = W7 at hF0 ⊢
    have HF0 := Lib.hid hF0
    obtain ⟨G, hG⟩ : ∃ G : Nat, W.heap.size = G := ⟨_, rfl⟩
    rw [hG] at HF0
    rw [hG]
    have HG := Lib.hid hG
    clear hF0 hmk hG
    go_loopw [13] (fun i wr => ∃ k : Nat, k ≤ 65537 ∧ i = .int .i64 k ∧ Hid (Fil W G k wr)) (fun i _ => 65537 - (intOf i).toNat)
    case atStart => exact ⟨0, by omega, rfl, HF0⟩
    case round =>
      rename_i wr
      obtain ⟨k, hk, rfl, hF⟩ := hrel
      clear HF0
      by_cases hlt : k < 65537
      · have i1 : (0 : Int) ≤ (k : Int) := by omega
        have i2 : (k : Int) < 65537 := by omega
        have c3 := hF.out.c k hlt
        rw [if_neg (by omega)] at c3
        have z3 := hF.out.z k
        have Hst := Lib.hid (hF.out.step hlt)
        go_wp2_with fail
        go_roundw
        case rel => exact ⟨k + 1, by omega, by go_num, Hst⟩
        case measure => simp [intOf]; omega
      · obtain rfl : k = 65537 := by omega
        have hcv := hF.out.text 0 65537 65537 (by omega) (by omega)
        have hbr : Below W.heap.size W wr := by rw [HG.out]; exact hF.out.b
        have Hb7 := Lib.hid (below_on Hb6.out hbr)
        have HR7 := Lib.hid (row_on HR6.out hbr)
        have HS7 := Lib.hid (row_on HS6.out hbr)
        have HD7 := Lib.hid (row_on HD.out.2 hbr)
        have Hr1 := Lib.hid (form_any (nlS 65537) wr (Vars.below Hv.out Hb7.out h9) (by rw [nlS_size]; omega))
        obtain ⟨S1, hS1⟩ : ∃ S, S = nlS 65537 := ⟨_, rfl⟩
        have ht1 := text1
        rw [← hS1] at hcv Hr1 ht1
        have Ht1 := Lib.hid ht1
        clear hbr hS1 ht1
        go_wp2_with fail
        refine Hr1.out.mono ?_
        rintro e w8 ⟨hb8, hr8⟩
        rw [Ht1.out] at hr8
        subst hr8
        have hF8 := hF.out.below hb8
        have Hb8 := Lib.hid (below_on Hb7.out hb8)
        have HR8 := Lib.hid (row_on HR7.out hb8)
        have HS8 := Lib.hid (row_on HS7.out hb8)
        have HD8 := Lib.hid (row_on HD7.out hb8)
        have HF8 := Lib.hid hF8
        clear hb8 hF8 hF hcv
        obtain ⟨W9, hW9⟩ : ∃ W, w8.alloc (.cells #[.int .i64 3, .int .i64 65536] 87) = W := ⟨_, rfl⟩
        have hb9 : Below w8.heap.size w8 W9 := by rw [← hW9]; exact (Below.refl _ _).alloc (Nat.le_refl _) _
        have hP9 : W9.heap[w8.heap.size]? = some (.cells #[.int .i64 3, .int .i64 65536] 87 (0, 0)) := by rw [← hW9]; exact World.alloc_heap_new w8 _
        have hF9 := HF8.out.below hb9
        have Hb9 := Lib.hid (below_on Hb8.out hb9)
        have HR9 := Lib.hid (row_on HR8.out hb9)
        have HS9 := Lib.hid (row_on HS8.out hb9)
        have HD9 := Lib.hid (row_on HD8.out hb9)
        have HP9 := Lib.hid hP9
        have HF9 := Lib.hid hF9
        have hcv := hF9.text 1 65536 65536 (by omega) (by omega)
        have Hr2 := Lib.hid (form_any (nlS 65536) W9 (Vars.below Hv.out Hb9.out h9) (by rw [nlS_size]; omega))
        obtain ⟨S2, hS2⟩ : ∃ S, S = nlS 65536 := ⟨_, rfl⟩
        have ht2 := text2
        rw [← hS2] at hcv Hr2 ht2
        have Ht2 := Lib.hid ht2
        have HW9 := Lib.hid hW9
        rw [← hW9] at hcv
        clear hb9 hP9 hF9 hS2 ht2 hW9
        go_wp2_with fail
        rw [HW9.out]
        refine Hr2.out.mono ?_
        rintro e w10 ⟨hb10, hr10⟩
        rw [Ht2.out] at hr10
        subst hr10
        have Hb10 := Lib.hid (below_on Hb9.out hb10)
        have HR10 := Lib.hid (row_on HR9.out hb10)
        have HS10 := Lib.hid (row_on HS9.out hb10)
        have HD10 := Lib.hid (row_on HD9.out hb10)
        have HP10 := Lib.hid (row_on HP9.out hb10)
        have HF10 := Lib.hid (HF9.out.below hb10)
        clear hb10 hcv
        obtain ⟨W11, hW11⟩ : ∃ W, w10.alloc (.cells #[.int .i64 180, .int .i64 65536] 87) = W := ⟨_, rfl⟩
        have hb11 : Below w10.heap.size w10 W11 := by rw [← hW11]; exact (Below.refl _ _).alloc (Nat.le_refl _) _
        have hQ11 : W11.heap[w10.heap.size]? = some (.cells #[.int .i64 180, .int .i64 65536] 87 (0, 0)) := by rw [← hW11]; exact World.alloc_heap_new w10 _
        have hF11 := HF10.out.below hb11
        have Hb11 := Lib.hid (below_on Hb10.out hb11)
        have HR11 := Lib.hid (row_on HR10.out hb11)
        have HS11 := Lib.hid (row_on HS10.out hb11)
        have HD11 := Lib.hid (row_on HD10.out hb11)
        have HP11 := Lib.hid (row_on HP10.out hb11)
        have HQ11 := Lib.hid hQ11
        have hcv := hF11.text 0 65521 65537 (by omega) (by omega)
        have Hr3 := Lib.hid (form_any (nlS 65521 ++ TAIL) W11 (Vars.below Hv.out Hb11.out h9) (by rw [text3_size]; omega))
        have ht3 := text3
        unfold TAIL at ht3 Hr3
        obtain ⟨S3, hS3⟩ : ∃ S, S = nlS 65521 := ⟨_, rfl⟩
        have hs3 : S3.size = 65521 := by rw [hS3, nlS_size]
        rw [← hS3] at hcv Hr3 ht3
        have Ht3 := Lib.hid ht3
        have HW11 := Lib.hid hW11
        rw [← hW11] at hcv
        clear hb11 hQ11 hF11 hS3 ht3 hW11
        go_wp2_with fail
        rw [HW11.out]
        refine Hr3.out.mono ?_
        rintro e w12 ⟨hb12, hr12⟩
        obtain ⟨f, hf⟩ := Ht3.out
        rw [hf] at hr12
        obtain ⟨fb, vl, vm, vs, rfl, _, _⟩ := hr12
        have Hb12 := Lib.hid (below_on Hb11.out hb12)
        have HR12 := Lib.hid (row_on HR11.out hb12)
        have HS12 := Lib.hid (row_on HS11.out hb12)
        have HD12 := Lib.hid (row_on HD11.out hb12)
        have HP12 := Lib.hid (row_on HP11.out hb12)
        have HQ12 := Lib.hid (row_on HQ11.out hb12)
        clear hb12 hcv hf
        have hb13 : Below w12.heap.size w12 (w12.alloc (.cells #[.int .i64 0, .int .i64 0] 87)) := (Below.refl _ _).alloc (Nat.le_refl _) _
        have hT13 : (w12.alloc (.cells #[.int .i64 0, .int .i64 0] 87)).heap[w12.heap.size]? = some (.cells #[.int .i64 0, .int .i64 0] 87 (0, 0)) := World.alloc_heap_new w12 _
        have Hb13 := Lib.hid (below_on Hb12.out hb13)
        have HR13 := row_on HR12.out hb13
        have HS13 := row_on HS12.out hb13
        have HD13 := Lib.hid (row_on HD12.out hb13)
        have HP13 := row_on HP12.out hb13
        have HQ13 := row_on HQ12.out hb13
        have s0 := cell_of_row _ _ 0 _ 60 (0, 0) HS13
        have s1 := cell_of_row _ _ 1 _ 60 (0, 0) HS13
        have p0 := cell_of_row _ _ 0 _ 87 (0, 0) HP13
        have p1 := cell_of_row _ _ 1 _ 87 (0, 0) HP13
        have q0 := cell_of_row _ _ 0 _ 87 (0, 0) HQ13
        have q1 := cell_of_row _ _ 1 _ 87 (0, 0) HQ13
        have t0 := cell_of_row _ _ 0 _ 87 (0, 0) hT13
        have t1 := cell_of_row _ _ 1 _ 87 (0, 0) hT13
        have r0 := cell_of_row _ _ 0 _ 4 (0, 0) HR13
        have rz := frozen_of_row _ _ 0 _ 4 HR13
        have Hsame := Lib.hid (fun (W2 W3 : World) (h : W2 = W3) => h)
        clear hb13 hT13 HR13 HS13 HP13 HQ13
        go_wp2_with fail
        refine (name_nil _).mono ?_
        rintro e w13 ⟨rfl, rfl⟩
        go_wp2_with fail
        refine (print_nil _).mono ?_
        rintro e w13 ⟨rfl, rfl⟩
        go_wp2_with fail
        refine (metres_nil _).mono ?_
        rintro e w13 ⟨rfl, rfl⟩
        go_wp2_with fail
        have hlt5 : w.heap.size < W5.heap.size := (Array.getElem?_eq_some_iff.1 HR5.out).1
        have hD5 := HD.out.1
        exact ⟨rfl, World.cell?_setCell_same _ _ _ r0, Hb13.out.setCell (p := ⟨w.heap.size, 0, none⟩) (Nat.le_refl _) _, D, rfl, by omega, (Below.heap_setCell _ _ _ _ (by show D ≠ w.heap.size; omega)).trans HD13.out⟩
end Go.Proofs.YtgklikkddckgbaaGreatDoor.Mo

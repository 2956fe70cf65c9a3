import Derived.Test.YtgklikkddckgbaaGreatDoorBE
import Derived.Test.YtgklikkddckgbaaGreatDoorFCA
/- The sestina's words: the walk of the law. -/
namespace Go.Proofs.YtgklikkddckgbaaGreatDoor.Mo
set_option linter.unusedVariables false
set_option linter.unusedSimpArgs false
open Go.RowKit

def YD0 : YD := ⟨0, ⟨0, 0, 0, 0, 0, 0, 0, [], 0⟩, .nilFunc⟩
theorem ydC_len : ∀ xs : List YD, (ydC xs).length = xs.length * 9
  | [] => rfl
  | x :: xs => by
    have := ydC_len xs
    unfold ydC at this ⊢
    rw [List.flatMap_cons, List.length_append, this]
    simp [dmC]
    omega
theorem ydC_get : ∀ (xs : List YD) (k o : Nat), k < xs.length → o < 9 → (ydC xs)[k * 9 + o]? = (dmC (xs.getD k YD0).d (xs.getD k YD0).v)[o]?
  | [], k, o, hk, _ => by simp at hk
  | x :: xs, 0, o, _, ho => by
    unfold ydC
    rw [List.flatMap_cons, List.getElem?_append_left (by simp [dmC]; omega)]
    simp
  | x :: xs, k + 1, o, hk, ho => by
    have ih := ydC_get xs k o (by simpa using hk) ho
    unfold ydC at ih ⊢
    rw [List.flatMap_cons, List.getElem?_append_right (by simp [dmC]; omega)]
    have e : (k + 1) * 9 + o - (dmC x.d x.v).toList.length = k * 9 + o := by simp [dmC]; omega
    rw [e, ih]
    simp
theorem DmsM.get {w : World} {B g n c : Nat} {xs : List YD} (h : DmsM w B (.slice (some ⟨g, 0, none⟩) n c) xs) (hn : xs.length = n) {k : Nat} (hk : k < n) (o : Nat) (ho : o < 9) : w.cell? ⟨g, k * 9 + o, none⟩ = (dmC (xs.getD k YD0).d (xs.getD k YD0).v)[o]? := by
  have h1 := h.o
  rw [hn] at h1
  exact (h1.cellAt (k * 9 + o) (by omega)).trans (ydC_get xs k o (by omega) ho)
/-- of each line of the sestina: whose word it ends with, and which words it has -/
def SL : List (Int × List Int) := [(-1, []), (-1, []), (-1, []), (-1, []), (-1, []), (-1, []), (5, []), (0, []), (4, []), (1, []), (3, []), (2, []), (11, []), (6, []), (10, []), (7, []), (9, []), (8, []), (17, []), (12, []), (16, []), (13, []), (15, []), (14, []), (23, []), (18, []), (22, []), (19, []), (21, []), (20, []), (29, []), (24, []), (28, []), (25, []), (27, []), (26, []), (33, [30]), (34, [31]), (35, [32])]
/-- each line's word -/
def SW : List Int := [0, 1, 2, 3, 4, 5, 5, 0, 4, 1, 3, 2, 2, 5, 3, 0, 1, 4, 4, 2, 1, 5, 0, 3, 3, 4, 0, 2, 5, 1, 1, 3, 5, 4, 2, 0, 4, 2, 0]
def eS (k : Nat) : Int := (SL.getD k (0, [])).1
def wS (k : Nat) : Int := SW.getD k 0
theorem sest_data : (match formP TSEST with | .ok f => decide (f.least ≤ 5 ∧ 5 ≤ f.most ∧ (demandsP f 5).map (fun d => (d.ends, d.has)) = SL) | .error _ => false) = true := by decide +kernel
theorem eS_in : ∀ k, k < 39 → 6 ≤ k → 0 ≤ eS k ∧ eS k < (k : Int) ∧ wS (eS k).toNat = wS k := by decide +kernel
theorem wS_low : ∀ k, k < 6 → wS k = (k : Int) := by decide +kernel
theorem wS_in : ∀ k, k < 39 → 0 ≤ wS k ∧ wS k ≤ 5 := by decide +kernel
def orP (u v : Int) : Int := bits BinOp.or IntKind.i64 u (wrap64 (2 ^ v.toNat))
def seenP (f : Nat → Int) : Nat → Int
  | 0 => 0
  | k + 1 => orP (seenP f k) (f k)
def lastP : Nat → Int
  | 0 => 0
  | k + 1 => orP (orP (lastP k) (wS (36 + k))) (wS (30 + k))
theorem seen_all : ∀ s, s < 6 → seenP (fun q => wS (6 * s + q)) 6 = 63 := by decide +kernel
theorem last_all : lastP 3 = 63 := by decide +kernel
theorem has_last : ∀ q, q < 3 → (SL.getD (36 + q) (0, [])).2 = [((30 + q : Nat) : Int)] := by decide +kernel
/-- the words found so far, in their array -/
structure WA (w4 : World) (k : Nat) (W : World) : Prop where
  b : Below w4.heap.size w4 W
  c : ∀ j, j < k → j < 39 → W.cell? ⟨w4.heap.size, j, none⟩ = some (.int .i64 (wS j))
  e : ∀ j, j < 39 → ∃ v, W.cell? ⟨w4.heap.size, j, none⟩ = some (.int .i64 v)
  z : ∀ j, W.frozen? ⟨w4.heap.size, j, none⟩ = false
theorem WA.put {w4 W : World} {k : Nat} (h : WA w4 k W) (hk : k < 39) (v : Int) : WA w4 k (W.setCell ⟨w4.heap.size, k, none⟩ (.int .i64 v)) ∧ (v = wS k → WA w4 (k + 1) (W.setCell ⟨w4.heap.size, k, none⟩ (.int .i64 v))) := by
  have hb := h.b.setCell (p := ⟨w4.heap.size, k, none⟩) (Nat.le_refl _) (.int .i64 v)
  obtain ⟨v0, h0⟩ := h.e k hk
  have hs : (W.setCell ⟨w4.heap.size, k, none⟩ (.int .i64 v)).cell? ⟨w4.heap.size, k, none⟩ = some (.int .i64 v) := World.cell?_setCell_same _ _ _ h0
  have ho : ∀ j, j ≠ k → (W.setCell ⟨w4.heap.size, k, none⟩ (.int .i64 v)).cell? ⟨w4.heap.size, j, none⟩ = W.cell? ⟨w4.heap.size, j, none⟩ := fun j hj => World.cell?_setCell_other _ _ _ _ (fun q => hj (by simp at q <;> omega))
  have he : ∀ j, j < 39 → ∃ u, (W.setCell ⟨w4.heap.size, k, none⟩ (.int .i64 v)).cell? ⟨w4.heap.size, j, none⟩ = some (.int .i64 u) := fun j hj => by
    by_cases e : j = k
    · subst e; exact ⟨v, hs⟩
    · rw [ho j e]; exact h.e j hj
  have hz : ∀ j, (W.setCell ⟨w4.heap.size, k, none⟩ (.int .i64 v)).frozen? ⟨w4.heap.size, j, none⟩ = false := fun j => by rw [World.frozen?_setCell]; exact h.z j
  refine ⟨⟨hb, fun j hj h39 => by rw [ho j (by omega)]; exact h.c j hj h39, he, hz⟩, fun hv => ⟨hb, fun j hj h39 => ?_, he, hz⟩⟩
  by_cases e : j = k
  · subst e; rw [hs, hv]
  · rw [ho j e]; exact h.c j (by omega) h39
theorem WA.start (w4 : World) (cs : Array Value) (t : Nat) (h : ∀ j, j < 39 → cs[j]? = some (.int .i64 0)) : WA w4 0 (w4.alloc (.cells cs t)) :=
  ⟨(Below.refl _ _).alloc (Nat.le_refl _) _, fun j hj _ => by omega, fun j hj => ⟨0, by rw [World.cell?_alloc_new w4 _ _ j, h j hj]⟩, fun j => World.frozen?_alloc_new w4 _ _ j⟩
set_option maxRecDepth 100000 in
set_option maxHeartbeats 4000000 in
theorem sestina_any (w : World) (hv : Vars w) (hm : MaxV w) :
    Calls Tryz.prog 5 #[] w fun e w' => e = .returned (.bool true) ∧ Below w.heap.size w w' := by
  have h9 := hv.six
  have Hw := Lib.hid (wakes_any w hv hm)
  have Hv := Lib.hid hv
  have Hm := Lib.hid hm
  clear hv hm
  go_enter Tryz.func5, Tryz.ntmps5
  go_wp2_with fail
  refine Hw.out.mono ?_
  rintro e w2 ⟨rfl, hb2⟩
  have Hb2 := Lib.hid hb2
  have Ho := Lib.hid (of_sestina w2 (Vars.below Hv.out hb2 h9) (by
    obtain ⟨m, hm⟩ := Hm.out
    exact ⟨m, (World.cell?_of_block (hb2.block 0 (by omega))).trans hm⟩))
  clear hb2
  go_wp2_with fail
  refine Ho.out.mono ?_
  rintro e w3 ⟨hb3, f, fb, vl, vm, vs, hf, rfl, hfm, hfk⟩
  have hsd := sest_data
  rw [hf] at hsd
  obtain ⟨hl5, hm5, hds⟩ := of_decide_eq_true hsd
  have Hl := Lib.hid (lines_form w2.heap.size fb f vl vm vs 5 TSEST.size w3 hfm hfk (by decide) hl5 hm5)
  have Hb3 := Lib.hid (Hb2.out.trans (hb3.mono Hb2.out.size))
  have Hds := Lib.hid hds
  clear hsd hl5 hm5 hds hfm hfk hb3 hf
  go_wp2_with fail
  refine Hl.out.mono ?_
  rintro e w4 ⟨hb4, v, xs, rfl, hen, hdm⟩
  have hlen : xs.length = 39 := by
    rw [hen.len]
    have := congrArg List.length Hds.out
    rw [List.length_map] at this
    exact this
  rw [show (((5 : Nat) : Int)) = 5 from rfl] at hen
  have ho := hdm.o
  rw [hlen] at ho
  obtain ⟨g, cap, rfl⟩ := own_form ho (by omega)
  have hget := fun k (hk : k < 39) o (h9' : o < 9) => hdm.get hlen hk o h9'
  have hdat : xs.map (fun x => (x.d.ends, x.d.has)) = SL := by
    rw [← Hds.out, ← hen.1, List.map_map]; rfl
  have hgk : ∀ k, k < 39 → ((xs.getD k YD0).d.ends, (xs.getD k YD0).d.has) = SL.getD k (0, []) := fun k hk => by
    rw [← hdat]
    simp [List.getD_eq_getElem?_getD, hlen, hk]
  have Hget := Lib.hid hget
  have Hgk := Lib.hid hgk
  have Hdm := Lib.hid hdm
  have Hlen := Lib.hid hlen
  have hglt : g < w4.heap.size := (ho.lt g rfl).2
  have Hb4 := Lib.hid (Hb3.out.trans (hb4.mono Hb3.out.size))
  clear hget hgk hdat hen hdm hlen ho hb4
  go_wp2_with fail
  generalize hW5 : w4.alloc _ = W5
  have hWA : WA w4 0 W5 := by
    rw [← hW5]
    exact WA.start w4 (Array.replicate 39 (.int .i64 0)) _ (fun j hj => by simp [hj])
  have HWA := Lib.hid hWA
  clear hW5 hWA
  go_loopw [5] (fun i wr => ∃ k : Nat, k ≤ 39 ∧ i = .int .i64 k ∧ Hid (WA w4 k wr)) (fun i _ => 39 - (intOf i).toNat)
  case atStart => exact ⟨0, by omega, rfl, HWA⟩
  case round =>
    rename World => wr
    obtain ⟨k, hk, rfl, hF⟩ := hrel
    clear HWA
    by_cases hlt : k < 39
    · obtain ⟨v0, c0⟩ := hF.out.e k hlt
      have z0 := hF.out.z k
      by_cases h6 : 6 ≤ k
      · obtain ⟨e0, e1, e2⟩ := eS_in k hlt h6
        have hek := congrArg Prod.fst (Hgk.out k hlt)
        obtain ⟨n, hn⟩ : ∃ n : Nat, eS k = (n : Int) := ⟨(eS k).toNat, by omega⟩
        rw [hn] at e1 e2
        rw [Int.toNat_natCast] at e2
        have hnk : n < k := by omega
        have hp1 := (hF.out.put hlt (k : Int)).1
        have hp2 := (hp1.put hlt (wS n)).2 e2
        have cl : (wr.setCell ⟨w4.heap.size, k, none⟩ (.int .i64 (k : Int))).cell? ⟨g, k * 9 + 6, none⟩ = some (.int .i64 (n : Int)) := by
          rw [hp1.b.cell (p := ⟨g, k * 9 + 6, none⟩) hglt, Hget.out k hlt 6 (by decide)]
          show some (Value.int .i64 (xs.getD k YD0).d.ends) = _
          rw [show (xs.getD k YD0).d.ends = eS k from hek, hn]
        have cw := hp1.c n hnk (by omega)
        obtain ⟨v1, c1⟩ := hp1.e k hlt
        have z1 := hp1.z k
        rw [e2] at hp2
        have HF := Lib.hid hp2
        clear hp1 hp2 hek e0 e1 hn
        go_wp2_with fail
        go_roundw
        case rel => exact ⟨k + 1, by omega, by go_num, HF⟩
        case measure => simp [intOf]; omega
      · have HF := Lib.hid ((hF.out.put hlt (k : Int)).2 (wS_low k (by omega)).symm)
        go_wp2_with fail
        go_roundw
        case rel => exact ⟨k + 1, by omega, by go_num, HF⟩
        case measure => simp [intOf]; omega
    · obtain rfl : k = 39 := by omega
      rw [show ((39 : Nat) : Int) = 39 from rfl]
      go_wp2_with fail
      obtain ⟨Wf, hWf⟩ : ∃ W0, W0 = wr := ⟨_, rfl⟩
      rw [← hWf] at hF ⊢
      clear hWf
      go_loopw [6] (fun i wr => ∃ s : Nat, s ≤ 6 ∧ i = .int .i64 s ∧ wr = Wf) (fun i _ => 6 - (intOf i).toNat)
      case atStart => exact ⟨0, by omega, rfl, rfl⟩
      case round =>
        obtain ⟨s, hs, rfl, hwr⟩ := hrel
        rw [hwr]
        clear hwr
        by_cases hlt2 : s < 6
        · go_wp2_with fail
          go_loopw [7, 8] (fun seen q wr => ∃ j : Nat, j ≤ 6 ∧ q = .int .i64 j ∧ seen = .int .i64 (seenP (fun q => wS (6 * s + q)) j) ∧ wr = Wf) (fun _ q _ => 6 - (intOf q).toNat)
          case atStart => exact ⟨0, by omega, rfl, rfl, rfl⟩
          case round =>
            obtain ⟨j, hj, rfl, rfl, hwr⟩ := hrel
            rw [hwr]
            clear hwr
            by_cases hlt3 : j < 6
            · have cw := hF.out.c (6 * s + j) (by omega) (by omega)
              have hin := wS_in (6 * s + j) (by omega)
              have Hst := Lib.hid (show seenP (fun q => wS (6 * s + q)) (j + 1) = orP (seenP (fun q => wS (6 * s + q)) j) (wS (6 * s + j)) from rfl)
              generalize wS (6 * s + j) = v at cw hin Hst
              generalize seenP (fun q => wS (6 * s + q)) j = u at Hst ⊢
              go_wp2_with fail
              go_roundw
              case rel => exact ⟨j + 1, by omega, by go_num, by rw [Hst.out]; rfl, by first | rfl | trivial⟩
              case measure => simp [intOf]; omega
            · obtain rfl : j = 6 := by omega
              have h63 := seen_all s hlt2
              rw [h63]
              go_wp2_with fail
              go_roundw
              case rel => exact ⟨s + 1, by omega, by go_num, by first | rfl | trivial⟩
              case measure => simp [intOf]; omega
        · obtain rfl : s = 6 := by omega
          rw [show ((6 : Nat) : Int) = 6 from rfl]
          go_wp2_with fail
          go_loopw [9, 10] (fun seen i wr => ∃ q : Nat, q ≤ 3 ∧ i = .int .i64 ((36 + q : Nat) : Int) ∧ seen = .int .i64 (lastP q) ∧ wr = Wf) (fun _ i _ => 39 - (intOf i).toNat)
          case atStart => exact ⟨0, by omega, rfl, rfl, rfl⟩
          case round =>
            obtain ⟨q, hq, rfl, rfl, hwr⟩ := hrel
            rw [hwr]
            clear hwr
            by_cases hlt4 : q < 3
            · have cw := hF.out.c (36 + q) (by omega) (by omega)
              have cv := hF.out.c (30 + q) (by omega) (by omega)
              have hin := wS_in (36 + q) (by omega)
              have hin2 := wS_in (30 + q) (by omega)
              have hh := congrArg Prod.snd (Hgk.out (36 + q) (by omega))
              rw [has_last q hlt4] at hh
              have hh : (xs.getD (36 + q) YD0).d.has = [((30 + q : Nat) : Int)] := hh
              have hx := (Hdm.out.h (xs.getD (36 + q) YD0) (by rw [List.getD_eq_getElem?_getD, List.getElem?_eq_getElem (by rw [Hlen.out]; omega)]; exact List.getElem_mem _)).1
              rw [hh] at hx
              obtain ⟨A, ch, hxv, _, hrow⟩ := own_int hx
              obtain ⟨gh, rfl, hgh, hcell⟩ := hrow (by simp)
              have c1 := (hF.out.b.cell (p := ⟨gh, 0, none⟩) hgh).trans (hcell 0 (by simp))
              have c7 : Wf.cell? ⟨g, (36 + q) * 9 + 7, none⟩ = some (.slice (some ⟨gh, 0, none⟩) 1 ch) := by
                rw [hF.out.b.cell (p := ⟨g, (36 + q) * 9 + 7, none⟩) hglt, Hget.out (36 + q) (by omega) 7 (by decide)]
                show some (xs.getD (36 + q) YD0).v = _
                rw [hxv]; rfl
              have Hst := Lib.hid (show lastP (q + 1) = orP (orP (lastP q) (wS (36 + q))) (wS (30 + q)) from rfl)
              clear hh hx hrow hcell hxv
              generalize wS (36 + q) = v at cw hin Hst
              generalize wS (30 + q) = v2 at cv hin2 Hst
              generalize lastP q = u at Hst ⊢
              have c1 : Wf.cell? ⟨gh, 0, none⟩ = some (.int .i64 ((30 + q : Nat) : Int)) := c1
              go_wp2_with fail
              go_loopw [9, 11] (fun seen k wr => wr = Wf ∧ ((k = .int .i64 0 ∧ seen = .int .i64 (orP u v)) ∨ (k = .int .i64 1 ∧ seen = .int .i64 (lastP (q + 1))))) (fun _ k _ => 1 - (intOf k).toNat)
              case atStart => exact ⟨rfl, .inl ⟨rfl, rfl⟩⟩
              case round =>
                obtain ⟨hwr, ⟨rfl, rfl⟩ | ⟨rfl, rfl⟩⟩ := hrel
                · rw [hwr]
                  clear hwr
                  go_wp2_with fail
                  exact ⟨⟨by first | rfl | trivial, .inr ⟨rfl, by rw [Hst.out]; rfl⟩⟩, by simp [intOf]⟩
                · rw [hwr]
                  clear hwr
                  go_wp2_with fail
                  go_roundw
                  case rel => exact ⟨q + 1, by omega, by go_num, rfl, by first | rfl | trivial⟩
                  case measure => simp [intOf]; omega
            · obtain rfl : q = 3 := by omega
              have hl := last_all
              rw [hl]
              go_wp2_with fail
              go_ret
              exact ⟨rfl, Hb4.out.trans (hF.out.b.mono Hb4.out.size)⟩
end Go.Proofs.YtgklikkddckgbaaGreatDoor.Mo

import Derived.Test.YtkfkkoefpfmjkaaDoorVC
import Derived.Test.YtkfkkoefpfmjkaaDoorGR
namespace Go.Proofs.YtkfkkoefpfmjkaaDoor
set_option linter.unusedVariables false
set_option linter.unusedSimpArgs false
open Go.RowKit Go.Shelf
attribute [local go_sem] Oper.semAt_some

/- rests. -/
theorem cut_any (s p : ByteArray) (w : World) : Calls Tryd.prog 100 #[.string s, .string p] w fun e w' => e = .returned (.tuple #[.string ⟨(Lib.trimPrefix s.data.toList p.data.toList).toArray⟩, .bool (Lib.hasPrefix s.data.toList p.data.toList)]) ∧ w' = w :=
  Tryd.strings_CutPrefix s p w
theorem extract_drop (s : ByteArray) (a : Nat) (h : a ≤ s.size) : (s.extract a s.size).data.toList = s.data.toList.drop a := by
  rw [ByteArray.data_extract, Array.toList_extract]
  rw [List.extract_eq_take_drop, List.take_of_length_le (by simp)]
theorem trim_size (s : ByteArray) (a : Nat) (v : ByteArray) (h : a ≤ s.size) : (⟨(Lib.trimPrefix (s.data.toList.drop a) v.data.toList).toArray⟩ : ByteArray).size = s.size - (a + if Lib.hasPrefix (s.data.toList.drop a) v.data.toList then v.size else 0) := by
  show (Lib.trimPrefix (s.data.toList.drop a) v.data.toList).toArray.size = _
  unfold Lib.trimPrefix
  split <;> simp <;> omega
def stepB (ok : Bool) (r : Cell) (vc : Int) (b : Cell) : Cell :=
  if ok then (if r.2 = 0 then b else if b.2 = 0 ∨ r.1 + vc < b.1 then (r.1 + vc, r.2) else if r.1 + vc = b.1 then (b.1, min (addW b.2 r.2) manyN) else b) else b
theorem dist (ok : Bool) (a v L : Nat) (h : a ≤ L) (hok : ok = true → a + v ≤ L) : ∃ q, q ≤ L ∧ (a + if ok = true then v else 0) = q ∧ (ok = true → a + v = q) := by
  cases ok with
  | true => exact ⟨a + v, hok rfl, rfl, fun _ => rfl⟩
  | false => exact ⟨a, by omega, rfl, fun h => by cases h⟩
theorem Mem.drewN {W : World} {B n ln : Nat} {s : ByteArray} {t : Tb} (h : Mem W B n ln s t) (q : Nat) : Mem (W.drewN q) B n ln s t := ⟨h.sg, h.ob, h.oc, h.t1, h.t2, h.z, h.sz⟩
structure KB (B Bs : Nat) (W W' : World) : Prop where
  oth : KeepsOthers W W'
  bel : Below B W W'
  box : W'.heap[Bs]? = W.heap[Bs]?
  lt : Bs < W.heap.size → Bs < W'.heap.size
theorem KB.refl (B Bs : Nat) (W : World) : KB B Bs W W := ⟨KeepsOthers.refl _, Below.refl _ _, rfl, id⟩
theorem KB.trans {B Bs : Nat} {W W1 W2 : World} (h : KB B Bs W W1) (k : KB B Bs W1 W2) : KB B Bs W W2 := ⟨h.oth.trans k.oth, h.bel.trans k.bel, k.box.trans h.box, fun e => k.lt (h.lt e)⟩
theorem KB.alloc {B Bs : Nat} (W : World) (o : Obj) (hB : B ≤ W.heap.size) (hs : Bs < W.heap.size) : KB B Bs W (W.alloc o) :=
  ⟨KeepsOthers.alloc _ _, (Below.refl _ _).alloc hB _, Below.heap_alloc _ _ _ hs, fun e => by rw [World.size_alloc]; omega⟩
theorem KB.put {B Bs : Nat} (W : World) (b o : Nat) (v : Value) (hB : B ≤ b) (hs : Bs ≠ b) : KB B Bs W (W.setCell ⟨b, o, none⟩ v) :=
  ⟨KeepsOthers.setCell _ _ _, (Below.refl _ _).setCell (p := ⟨b, o, none⟩) hB _, Below.heap_setCell _ _ _ _ hs, fun e => by rw [World.size_setCell]; exact e⟩
theorem KB.drew {B Bs : Nat} (W : World) : KB B Bs W W.drew := ⟨KeepsOthers.drew _, (Below.refl _ _).drew, rfl, id⟩
theorem KB.drewN {B Bs : Nat} (W : World) (q : Nat) : KB B Bs W (W.drewN q) := ⟨⟨Nat.le_refl _, fun _ _ h _ => h⟩, belowD (Below.refl _ _) q, rfl, id⟩
def restT (rows : List (List Way)) (s : ByteArray) : Tb := fun k a => restR (rows.drop k) (s.data.toList.drop a)
theorem tab_all (rows : List (List Way)) (s : ByteArray) (n : Nat) (hn : rows.length = n) (k a : Nat) (hk : k ≤ n) (ha : a ≤ s.size) : tabOf rows s.data.toList n s.size (descF n n) k a = restT rows s k a := by
  subst hn
  have := tab_desc rows s.data.toList rows.length (Nat.le_refl _) k a hk (by simpa using ha)
  rw [Nat.sub_self, if_pos (Nat.zero_le _)] at this
  have e : s.data.toList.length = s.size := by simp
  rw [e] at this
  exact this
theorem Mem.congr {W : World} {B n ln : Nat} {s : ByteArray} {t t' : Tb} (h : Mem W B n ln s t) (e : ∀ k a, k ≤ n → a ≤ ln → t k a = t' k a) : Mem W B n ln s t' :=
  ⟨h.sg, h.ob, h.oc, fun k a hk ha => by rw [← e k a hk ha]; exact h.t1 k a hk ha, fun k a hk ha => by rw [← e k a hk ha]; exact h.t2 k a hk ha, h.z, h.sz⟩
def RestsOk (rows : List (List Way)) (s : ByteArray) (w : World) (e : Ending) (w' : World) : Prop :=
  e = .returned (.slice (some ⟨w.heap.size + 1, 0, none⟩) (rows.length + 1) (rows.length + 1)) ∧ Mem w' w.heap.size rows.length s.size s (restT rows s) ∧ Below w.heap.size w w'
/-- the function's end, before the loop's deferred calls (there are none) are taken up -/
def RestsPost (rows : List (List Way)) (s : ByteArray) (w : World) (e : Exit) (a : Act) (W : World) : Prop :=
  match e with
  | .ret => ∃ D, a.defers = [{ target := .collected D, args := #[] }] ∧ a.tmps.getD 4 undef = .slice (some ⟨w.heap.size + 1, 0, none⟩) (rows.length + 1) (rows.length + 1) ∧ W.heap[D]? = some (.deferred (some [])) ∧
      RestsOk rows s w (.returned (.slice (some ⟨w.heap.size + 1, 0, none⟩) (rows.length + 1) (rows.length + 1))) (W.putObj D (.deferred none))
  | _ => False
set_option maxRecDepth 100000 in
set_option maxHeartbeats 4000000 in
theorem rests_any (A : Option Addr) (c : Nat) (rows : List (List Way)) (s : ByteArray) (w : World) (h : IsRows w w.heap.size A rows) (hcap : rows.length ≤ c) (h0 : 0 < rows.length) (hn : rows.length ≤ 17) (hs : s.size ≤ 66)
    (hl : ∀ l ∈ rows, l.length ≤ 16 ∧ ∀ v ∈ l, 0 ≤ v.2 ∧ v.2 ≤ 1048576) :
    Calls Tryd.prog 59 #[.slice A rows.length c, .string s] w (RestsOk rows s w) := by
  have hmk1 := make_outer rows.length (by omega)
  have hmk2 := make_row s.size (by omega)
  have H := Lib.hid h
  have Hl := Lib.hid hl
  generalize hn' : rows.length = n at *
  have Hn := Lib.hid hn'
  clear h hl hn'
  refine (callsIn_wide (n := 6)).1 ?_
  refine callsIn_of_wp_marks Tryd.func59 rfl trivial ?_ rfl
  simp only [Tryd.ntmps59, List.size_toArray, List.length_cons, List.length_nil, Nat.reduceAdd, Nat.reduceSub, Array.replicate_succ, Array.replicate_zero, List.push_toArray, List.append_toArray, List.nil_append, List.cons_append]
  refine wpIn_wide.2 (Code.wp_mono (Q := RestsPost rows s w) ?_ ?_)
  · rintro e a W hq
    cases e <;> try exact hq.elim
    obtain ⟨D, hd, h4, hK, hfin⟩ := hq
    obtain ⟨T, df⟩ := a
    simp only [] at hd h4
    subst hd
    have h4' : T[4]?.getD undef = .slice (some ⟨w.heap.size + 1, 0, none⟩) (rows.length + 1) (rows.length + 1) := by simpa using h4
    refine ⟨by simp, .inl ⟨_, _, rfl, run_takeDeferred hK, ?_⟩⟩
    refine ⟨_, ?_, hfin⟩
    simp [results, Tryd.f59, go_sem, h4']
  go_wp2_with fail
  generalize hW2 : ((w.alloc (.cells #[.string s] 9)).alloc (.cells (madeCells #[.slice none 0 0] (n + 1)) 111)).alloc (.cells #[.slice (some ⟨w.heap.size + 1, 0, none⟩) (n + 1) (n + 1)] 112) = W2
  have hF0 : Fill w W2 w.heap.size n s.size s 0 := by
    have b1 := World.size_alloc w (.cells #[.string s] 9)
    have b2 := World.size_alloc (w.alloc (.cells #[.string s] 9)) (.cells (madeCells #[.slice none 0 0] (n + 1)) 111)
    rw [b1] at b2
    have hb : Below w.heap.size w W2 := by rw [← hW2]; exact (((Below.refl _ w).alloc (Nat.le_refl _) _).alloc (by rw [b1]; omega) _).alloc (by rw [b2]; omega) _
    have c0 : W2.heap[w.heap.size]? = some (.cells #[.string s] 9 (0, 0)) := by
      rw [← hW2]; exact ((Below.heap_alloc _ _ _ (by rw [b2]; omega)).trans (Below.heap_alloc _ _ _ (by rw [b1]; omega))).trans (World.alloc_heap_new w _)
    have c1 : W2.heap[w.heap.size + 1]? = some (.cells (madeCells #[.slice none 0 0] (n + 1)) 111 (0, 0)) := by
      rw [← hW2]
      have := World.alloc_heap_new (w.alloc (.cells #[.string s] 9)) (.cells (madeCells #[.slice none 0 0] (n + 1)) 111)
      rw [b1] at this
      exact (Below.heap_alloc _ _ _ (by rw [b2]; omega)).trans this
    have c2 : W2.heap[w.heap.size + 2]? = some (.cells #[.slice (some ⟨w.heap.size + 1, 0, none⟩) (n + 1) (n + 1)] 112 (0, 0)) := by
      rw [← hW2]
      have := World.alloc_heap_new ((w.alloc (.cells #[.string s] 9)).alloc (.cells (madeCells #[.slice none 0 0] (n + 1)) 111)) (.cells #[.slice (some ⟨w.heap.size + 1, 0, none⟩) (n + 1) (n + 1)] 112)
      rw [b2] at this
      exact this
    refine ⟨cell_of_row _ _ _ _ 9 (0, 0) c0, cell_of_row _ _ _ _ 112 (0, 0) c2, fun j hj => by omega, fun j _ hj => ?_, fun j => frozen_of_row _ _ j _ 111 c1, fun j o hj => by omega, fun j o hj => by omega, ?_, hb⟩
    · rw [cell_of_row W2 _ j _ 111 (0, 0) c1]; exact made_nil _ _ (by omega)
    · rw [← hW2, World.size_alloc, b2]
  have HF0 := Lib.hid hF0
  clear hF0 hW2 hmk1
  go_loopw [23] (fun i wr => ∃ k : Nat, k ≤ n + 1 ∧ i = .int .i64 k ∧ Hid (Fill w wr w.heap.size n s.size s k)) (fun i _ => n + 1 - (intOf i).toNat)
  case atStart => exact ⟨0, by omega, rfl, HF0⟩
  case round =>
    rename_i wr
    obtain ⟨k, hk, rfl, hF⟩ := hrel
    clear HF0
    by_cases hlt : k < n + 1
    · have hsz := hF.out.sz
      have f1 := hF.out.sg
      have f2 : wr.cell? ⟨w.heap.size + 1 + 1, 0, none⟩ = some (.slice (some ⟨w.heap.size + 1, 0, none⟩) (n + 1) (n + 1)) := hF.out.ob
      have f3 := hF.out.on k (Nat.le_refl _) (by omega)
      have f4 := hF.out.oz k
      have hab : Below wr.heap.size wr (wr.alloc (.cells (madeCells #[.int .i64 0, .int .i64 0] ((s.size + 1) * 2)) 110)) := (Below.refl _ wr).alloc (Nat.le_refl _) _
      have a1 := (hab.cell (p := ⟨w.heap.size, 0, none⟩) (by show w.heap.size < wr.heap.size; omega)).trans f1
      have a2 := (hab.cell (p := ⟨w.heap.size + 1 + 1, 0, none⟩) (by show w.heap.size + 1 + 1 < wr.heap.size; omega)).trans f2
      have a3 := (hab.cell (p := ⟨w.heap.size + 1, k, none⟩) (by show w.heap.size + 1 < wr.heap.size; omega)).trans f3
      have a4 := (hab.frozen (p := ⟨w.heap.size + 1, k, none⟩) (by show w.heap.size + 1 < wr.heap.size; omega)).trans f4
      clear hab
      have Hst := Lib.hid (hF.out.step (by omega))
      have i1 : (0 : Int) ≤ (k : Int) := by omega
      have i2 : (k : Int) < (n : Int) + 1 := by omega
      have hwr : IntKind.i64.wrap ((s.size : Int) + 1) = (s.size : Int) + 1 := IntWalk.i64_in _ (by omega)
      go_wp2_with fail
      go_region
      go_wp2_with fail
      go_roundw
      case rel => exact ⟨k + 1, by omega, by go_num, Lib.hid Hst.out⟩
      case measure => simp [intOf]; omega
    · obtain rfl : k = n + 1 := by omega
      have f1 := hF.out.sg
      have f2 : wr.cell? ⟨w.heap.size + 1 + 1, 0, none⟩ = some (.slice (some ⟨w.heap.size + 1, 0, none⟩) (n + 1) (n + 1)) := hF.out.ob
      have f3 := hF.out.oc n (by omega)
      have f5 := hF.out.r n (s.size * 2 + 1) (by omega) (by omega)
      have f6 := hF.out.z n (s.size * 2 + 1) (by omega)
      have i1 : (0 : Int) ≤ (n : Int) := by omega
      have i2 : (n : Int) < (n : Int) + 1 := by omega
      have i3 : (0 : Int) ≤ (s.size : Int) := by omega
      have i4 : (s.size : Int) < (s.size : Int) + 1 := by omega
      have hM := hF.out.mem
      have HM := Lib.hid hM
      have hsz := hF.out.sz
      have hB5 : Below w.heap.size w (wr.setCell ⟨w.heap.size + 3 + n, s.size * 2 + 1, none⟩ (.int .i64 1)) := hF.out.bl.setCell (p := ⟨w.heap.size + 3 + n, s.size * 2 + 1, none⟩) (by show w.heap.size ≤ w.heap.size + 3 + n; omega) _
      have HB5 := Lib.hid hB5
      clear hM hB5
      go_wp2_with fail
      go_region
      all_goals
        generalize hW5 : (wr.setCell ⟨w.heap.size + 3 + n, s.size * 2 + 1, none⟩ (.int .i64 1)).drew = W5
        have hs5 : W5.heap.size = w.heap.size + 3 + n + 1 := by
          rw [← hW5]
          have := World.size_setCell wr ⟨w.heap.size + 3 + n, s.size * 2 + 1, none⟩ (.int .i64 1)
          show (wr.setCell ⟨w.heap.size + 3 + n, s.size * 2 + 1, none⟩ (.int .i64 1)).heap.size = _
          rw [this]; omega
        have HM5 : Hid (Mem W5 w.heap.size n s.size s (tab0 n s.size)) := Lib.hid (by rw [← hW5]; exact ⟨HM.out.sg, HM.out.ob, HM.out.oc, HM.out.t1, HM.out.t2, HM.out.z, HM.out.sz⟩)
        have Hb5 : Hid (Below w.heap.size w W5) := Lib.hid (by rw [← hW5]; exact HB5.out.drew)
        have HW5 := Lib.hid hW5
        clear hW5 HM HB5 hF f1 f2 f3 f5 f6
        go_wp2_with fail
        refine (back_any A n c _).mono ?_
        rintro e w6 ⟨rfl, hw6⟩
        have h61 : w6.heap[W5.heap.size]? = some (.cells #[.slice A n c] 114 (0, 0)) := by rw [hw6]; exact World.alloc_heap_new W5 _
        have hb56 : Below W5.heap.size W5 w6 := by rw [hw6]; exact (Below.refl _ _).alloc (Nat.le_refl _) _
        have hs6 : w6.heap.size = w.heap.size + 3 + n + 2 := by rw [hw6, World.size_alloc]; omega
        have HM6 := Lib.hid (HM5.out.below (hb56.mono (by omega)))
        have Hb6 := Lib.hid (Hb5.out.trans (hb56.mono (by omega)))
        rw [hs5] at h61
        have H61 := Lib.hid h61
        clear hw6 h61 hb56
        rw [hs5]
        go_wp2_with fail
        obtain ⟨b, off, hA, hbb, hrow⟩ := H.out (by rw [Hn.out]; omega)
        subst hA
        have hV : ∀ k, k < n → w.cell? ⟨b, off + k, none⟩ = some ((w.cell? ⟨b, off + k, none⟩).getD undef) := fun k hk => by
          obtain ⟨A', c', q1, _⟩ := hrow k (by rw [Hn.out]; exact hk)
          rw [q1]; rfl
        have hVs : ∀ k, k < n → ∃ A' m' c', (w.cell? ⟨b, off + k, none⟩).getD undef = .slice A' m' c' := fun k hk => by
          obtain ⟨A', c', q1, _⟩ := hrow k (by rw [Hn.out]; exact hk)
          exact ⟨A', _, c', by rw [q1]; rfl⟩
        have Hrow := Lib.hid hrow
        clear hrow
        generalize hVV : (fun k => (w.cell? ⟨b, off + k, none⟩).getD undef) = V
        have HV : Hid (∀ k, k < n → w.cell? ⟨b, off + k, none⟩ = some (V k)) := Lib.hid (fun k hk => by rw [← hVV]; exact hV k hk)
        have HVs : Hid (∀ k, k < n → ∃ A' m' c', V k = .slice A' m' c') := Lib.hid (fun k hk => by rw [← hVV]; exact hVs k hk)
        clear hVV hV hVs
        have h1 : 1 ≤ 5 := by omega
        refine wpIn_wide.1 (?_ : Code.wpIn Fence.wide 5 _ _ _ _ _)
        refine wpIn_rangeFunc_ownH rfl h1 (gf := 122) (lb := #[.pointer (some ⟨w.heap.size + 3 + n + 1, 0, none⟩)]) rfl trivial (enters_of Tryd.func122 (by kernel_rfl) rfl)
          (back_stops Fence.wide (5 - 1) trivial rfl (by omega) (w.heap.size + 3 + n + 1) w.heap.size b off n c V HVs.out (by omega) hcap hbb w6 (by omega) H61.out (fun j hj => (Hb6.out.cell (p := ⟨b, off + j, none⟩) hbb).trans (HV.out j hj))) KpB.t ?kb (Below.refl _ _) (fun _ => rfl)
          (fun pre W => Mem W w.heap.size n s.size s (tabOf rows s.data.toList n s.size pre) ∧ Below w.heap.size w W ∧ w.heap.size + 3 + n + 2 ≤ W.heap.size)
          (fun _ _ _ => False) ?hI ?hIx ?h0 (fun x a' W => FrR w.heap.size x.1 (V x.1) a') ?hAx ?assign ?body ?done ?stop
        case kb => exact fun W l o o' hl ho _ _ => ⟨(Below.refl _ W).grown (grownBy_putObj' W l o') (by have := (Array.getElem?_eq_some_iff.1 ho).1; omega) (fun k e => by cases e; omega), World.putObj_heap_other (by omega)⟩
        case hI =>
          intro pre W W' row hs hg hr
          have hb : Below (w.heap.size + 3 + n + 1) W W' := (Below.refl _ W).grown hg hs.1.sz (fun k e => by have := (hr k e).1; omega)
          exact ⟨hs.1.below hb, hs.2.1.trans (hb.mono (by omega)), Nat.le_trans hs.2.2 hg.size⟩
        case hIx => exact fun _ _ _ _ _ hs _ _ => hs
        case h0 => exact ⟨HM6.out, Hb6.out, by omega⟩
        case hAx => exact fun x a' _ _ _ _ hs _ _ => hs
        case assign =>
          intro l pre x W K hi hK
          gi_wp2
          exact hK _ _ ((KeepsOthers.refl _).from _) ⟨Below.refl _ _, rfl⟩ hi (FrR.of rfl rfl rfl rfl rfl rfl)
        case done =>
          rintro D xs W hD rfl ⟨hm, hb, hWs⟩ hK
          have f2 : W.cell? ⟨w.heap.size + 1 + 1, 0, none⟩ = some (.slice (some ⟨w.heap.size + 1, 0, none⟩) (n + 1) (n + 1)) := hm.ob
          have Hm := Lib.hid hm
          have Hb := Lib.hid hb
          clear hm hb
          go_wp2_with fail
          have hbf : Below (w.heap.size + 3 + n + 1) W (W.putObj D (.deferred none)) := belowK_b (w := w6) (by omega) W D _ _ hD hK rfl rfl
          have hfin : RestsOk rows s w (.returned (.slice (some ⟨w.heap.size + 1, 0, none⟩) (n + 1) (n + 1))) (W.putObj D (.deferred none)) := by
            unfold RestsOk
            rw [Hn.out]
            exact ⟨rfl, (Hm.out.below hbf).congr (fun k a hk ha => tab_all rows s n Hn.out k a hk ha), Hb.out.trans (hbf.mono (by omega))⟩
          exact ⟨D, rfl, by rw [Hn.out]; rfl, hK, by rw [Hn.out]; exact hfin⟩
        case stop =>
          rintro D c pre W _ _ h _
          exact h.elim
        case body =>
          rintro l pre ⟨x, hx⟩ a' W hl ⟨r, hr⟩ ⟨hm, hb, hWs⟩ ⟨f, rfl⟩ hlt
          dsimp only
          have hrx := Hrow.out x (by rw [Hn.out]; exact hx)
          obtain ⟨A', c', q1, q2, q3⟩ := hrx
          have hvx : V x = .slice A' (rows.getD x []).length c' := by
            have := HV.out x hx
            rw [q1] at this; exact (Option.some.inj this).symm
          rw [hvx]
          have f2 : W.cell? ⟨w.heap.size + 1 + 1, 0, none⟩ = some (.slice (some ⟨w.heap.size + 1, 0, none⟩) (n + 1) (n + 1)) := hm.ob
          have f3 := hm.oc x (by omega)
          have i1 : (0 : Int) ≤ (x : Int) := by omega
          have i2 : (x : Int) < (n : Int) + 1 := by omega
          have hrl : rows.getD x [] ∈ rows := by
            rw [List.getD_eq_getElem?_getD, List.getElem?_eq_getElem (by rw [Hn.out]; exact hx)]; exact List.getElem_mem _
          have hll := (Hl.out _ hrl).1
          have Hcost := Lib.hid (Hl.out _ hrl).2
          have Hcs : Hid (Costs (tabOf rows s.data.toList n s.size pre) pre.length) := Lib.hid (by have := tabOf_costs (s := s.data.toList) (ln := s.size) (n := n) (fun l hl => (Hl.out l hl).2) pre _ 0 (tab0_costs n s.size); rw [Nat.zero_add] at this; exact this)
          have Hsnoc := Lib.hid (tabOf_snoc rows s.data.toList n s.size pre ⟨x, hx⟩)
          have hRR : rows.getD x [] = rows.getD x [] := rfl
          have Hrow2 : Hid (∀ t a, rowR rows s.data.toList t x a = (rows.getD x []).foldl (stepR (s.data.toList.drop a) (nxR t x a)) (t x a)) := Lib.hid (fun _ _ => rfl)
          generalize rows.getD x [] = row at *
          generalize tabOf rows s.data.toList n s.size pre = t0 at *
          have HM := Lib.hid hm
          have HB := Lib.hid hb
          have Hq3 := Lib.hid q3
          have hpl : pre.length ≤ 17 := by omega
          clear hm hb hvx q1 hrl hRR q3
          gi_wp2
          gi_loopw [52] (fun i wr => ∃ a : Nat, a ≤ s.size + 1 ∧ i = .int .i64 a ∧ Hid (Mem wr w.heap.size n s.size s (procTo rows s.data.toList a t0 x)) ∧ Hid (KB w.heap.size (w.heap.size + 3 + n + 1) W wr)) (fun i _ => s.size + 1 - (intOf i).toNat)
          case atStart => exact ⟨0, by omega, rfl, Lib.hid (by rw [procTo_zero]; exact HM.out), Lib.hid (KB.refl _ _ _)⟩
          case round =>
            obtain ⟨a, ha, rfl, hM, hK⟩ := hrel
            clear f2 f3 HM
            by_cases hla : a < s.size + 1
            · have f2 : wr.cell? ⟨w.heap.size + 1 + 1, 0, none⟩ = some (.slice (some ⟨w.heap.size + 1, 0, none⟩) (n + 1) (n + 1)) := hM.out.ob
              have f3 := hM.out.oc x (by omega)
              have i3 : (0 : Int) ≤ (a : Int) := by omega
              have i4 : (a : Int) < (s.size : Int) + 1 := by omega
              have i5 : (a : Int) ≤ (s.size : Int) := by omega
              have hta : procTo rows s.data.toList a t0 x x a = t0 x a := procTo_at _ _ _ _ _
              have Hta : Hid (upd (procTo rows s.data.toList a t0 x) x a (t0 x a) = procTo rows s.data.toList a t0 x) := Lib.hid (by rw [← hta]; exact upd_self _ _ _)
              have Hsu : Hid (procTo rows s.data.toList (a + 1) t0 x = upd (procTo rows s.data.toList a t0 x) x a (rowR rows s.data.toList t0 x a)) := Lib.hid (procTo_succ _ _ _ _ _)
              have Htn : Hid (∀ q, procTo rows s.data.toList a t0 x (x + 1) q = t0 (x + 1) q) := Lib.hid (fun q => procTo_row _ _ _ _ _ _ _ (by omega))
              clear hta
              generalize procTo rows s.data.toList a t0 x = tA at *
              gi_wp2
              obtain ⟨wo, hwo⟩ : ∃ wo : World, wo = wr := ⟨_, rfl⟩
              subst hwo
              gi_loopw [63] (fun i wr => ∃ k : Nat, k ≤ row.length ∧ i = .int .i64 k ∧ Hid (Mem wr w.heap.size n s.size s (upd tA x a ((row.take k).foldl (stepR (s.data.toList.drop a) (nxR t0 x a)) (t0 x a)))) ∧ Hid (KB w.heap.size (w.heap.size + 3 + n + 1) W wr)) (fun i _ => row.length - (intOf i).toNat)
              case atStart => exact ⟨0, by omega, rfl, Lib.hid (by rw [List.take_zero]; simp only [List.foldl_nil]; rw [Hta.out]; exact hM.out), hK⟩
              case round =>
                obtain ⟨k, hk, rfl, hM2, hK2⟩ := hrel
                clear f2 f3 hM hK
                by_cases hlk : k < row.length
                · have f2 : wr.cell? ⟨w.heap.size + 1 + 1, 0, none⟩ = some (.slice (some ⟨w.heap.size + 1, 0, none⟩) (n + 1) (n + 1)) := hM2.out.ob
                  have f1 := hM2.out.sg
                  have f3 := hM2.out.oc (x + 1) (by omega)
                  obtain ⟨bw, ow, rfl, hbw, hcw⟩ := Hq3.out (by omega)
                  have g1 := ((HB.out.trans hK2.out.bel).cell (p := ⟨bw, ow + k * 2, none⟩) hbw).trans (hcw k hlk).1
                  have g2 := ((HB.out.trans hK2.out.bel).cell (p := ⟨bw, ow + k * 2 + 1, none⟩) hbw).trans (hcw k hlk).2
                  have hmem : row.getD k default ∈ row := by rw [List.getD_eq_getElem?_getD, List.getElem?_eq_getElem hlk]; exact List.getElem_mem hlk
                  have hvc := Hcost.out _ hmem
                  have Hfs := Lib.hid (foldl_snoc (stepR (s.data.toList.drop a) (nxR t0 x a)) (t0 x a) row k hlk)
                  clear hmem hcw
                  generalize row.getD k default = v at *
                  obtain ⟨vs, vc⟩ := v
                  simp only [] at g1 g2 hvc
                  generalize (row.take k).foldl (stepR (s.data.toList.drop a) (nxR t0 x a)) (t0 x a) = cb at *
                  have hsz1 : w.heap.size + 3 + n + 1 < wr.heap.size := hK2.out.lt (by omega)
                  generalize hW1 : wr.alloc (.cells #[.string vs, .int .i64 vc] 100) = W1
                  have sW1 : W1.heap.size = wr.heap.size + 1 := by rw [← hW1]; simp
                  have hb1 : Below wr.heap.size wr W1 := by rw [← hW1]; exact (Below.refl _ _).alloc (Nat.le_refl _) _
                  have v1 : W1.cell? ⟨wr.heap.size, 0, none⟩ = some (.string vs) := by rw [← hW1]; simp
                  have v2 : W1.cell? ⟨wr.heap.size, 1, none⟩ = some (.int .i64 vc) := by rw [← hW1]; simp
                  have hk1 : KB w.heap.size (w.heap.size + 3 + n + 1) wr W1 := by rw [← hW1]; exact KB.alloc _ _ (by omega) (by omega)
                  have HK1 := Lib.hid (hK2.out.trans hk1)
                  have HM1 := Lib.hid (hM2.out.below (hb1.mono (by omega)))
                  have HW1 := Lib.hid hW1
                  clear hW1 hk1 hM2 hK2
                  gi_wp2
                  rw [HW1.out]
                  have f2 := HM1.out.ob
                  have f1 := HM1.out.sg
                  have f3 := HM1.out.oc (x + 1) (by omega)
                  have hcp := fun W => cut_any (s.extract a s.size) vs W
                  have hex : (s.extract a s.size).data.toList = s.data.toList.drop a := extract_drop s a (by omega)
                  rw [hex] at hcp
                  have hok : (Lib.hasPrefix (s.data.toList.drop a) vs.data.toList = true → a + vs.size ≤ s.size) := fun h => by
                    have := hasPrefix_len h
                    simp only [List.length_drop, Array.length_toList, ByteArray.size_data] at this
                    omega
                  have hsz2 := trim_size s a vs (by omega)
                  have Hstep : Hid (∀ ok, Lib.hasPrefix (s.data.toList.drop a) vs.data.toList = ok → stepR (s.data.toList.drop a) (nxR t0 x a) cb (vs, vc) = stepB ok (nxR t0 x a vs.size) vc cb) := Lib.hid (fun ok h => by subst h; rfl)
                  generalize hT : (⟨(Lib.trimPrefix (s.data.toList.drop a) vs.data.toList).toArray⟩ : ByteArray) = T at hcp hsz2
                  generalize hokk : Lib.hasPrefix (s.data.toList.drop a) vs.data.toList = ok at hcp hok hsz2
                  have Hstep2 := Lib.hid (Hstep.out ok hokk)
                  have Hcp := Lib.hid hcp
                  have Hsz2 := Lib.hid hsz2
                  have Hok := Lib.hid hok
                  clear hcp hex hok hsz2 hT hokk Hstep
                  refine wpIn_region_quiet_round (by kernel_rfl) (by kernel_rfl) (by kernel_rfl) ?_
                  repeat (any_goals (first | go_big_quiet_step ((go_at_call 100; exact Calls.quiet_of_same (Hcp.out _))) | quiet_step ((go_at_call 100; exact Calls.quiet_of_same (Hcp.out _)))))
                  refine wpQuiet_nil ?_
                  intro _ hw'
                  obtain ⟨nq, hw''⟩ := hw'
                  subst hw''
                  have hd := dist ok a vs.size s.size (by omega) Hok.out
                  obtain ⟨q, hql, hqT, hqok⟩ := hd
                  have hTs := Hsz2.out
                  rw [hqT] at hTs
                  have Hqok := Lib.hid hqok
                  have HM2 : Hid (Mem (W1.drewN nq) w.heap.size n s.size s (upd tA x a cb)) := Lib.hid (HM1.out.drewN nq)
                  have HK2 : Hid (KB w.heap.size (w.heap.size + 3 + n + 1) W (W1.drewN nq)) := Lib.hid (HK1.out.trans (KB.drewN _ _))
                  have v1' : (W1.drewN nq).cell? ⟨wr.heap.size, 0, none⟩ = some (.string vs) := v1
                  have v2' : (W1.drewN nq).cell? ⟨wr.heap.size, 1, none⟩ = some (.int .i64 vc) := v2
                  have sW2 : (W1.drewN nq).heap.size = wr.heap.size + 1 := sW1
                  have hup : upd tA x a cb (x + 1) q = t0 (x + 1) q := by rw [upd_row _ _ _ _ _ _ (by omega), Htn.out]
                  have hr1 := HM2.out.t1 (x + 1) q (by omega) hql
                  have hr2 := HM2.out.t2 (x + 1) q (by omega) hql
                  rw [hup] at hr1 hr2
                  generalize W1.drewN nq = W2 at *
                  have hrc := Hcs.out (x + 1) q
                  have Hnx : Hid (ok = true → nxR t0 x a vs.size = t0 (x + 1) q) := Lib.hid (fun h => by rw [← Hqok.out h]; rfl)
                  generalize t0 (x + 1) q = rc at *
                  obtain ⟨r1, r2⟩ := rc
                  simp only [] at hr1 hr2 hrc
                  have f2 : W2.cell? ⟨w.heap.size + 1 + 1, 0, none⟩ = some (.slice (some ⟨w.heap.size + 1, 0, none⟩) (n + 1) (n + 1)) := HM2.out.ob
                  have f1 := HM2.out.sg
                  have f3 := HM2.out.oc (x + 1) (by omega)
                  have j1 : (0 : Int) ≤ (x : Int) + 1 := by omega
                  have j2 : (x : Int) + 1 < (n : Int) + 1 := by omega
                  have j4 : (0 : Int) ≤ (q : Int) := by omega
                  have j5 : (q : Int) < (s.size : Int) + 1 := by omega
                  have hiy0 : (s.size : Int) - (T.size : Int) = (q : Int) := by omega
                  have hix : IntKind.i64.wrap ((x : Int) + 1) = (x : Int) + 1 := IntWalk.i64_in _ (by omega)
                  have hiy : IntKind.i64.wrap ((s.size : Int) - (T.size : Int)) = (q : Int) := by rw [IntWalk.i64_in _ (by omega)]; exact hiy0
                  have j3 : ((x : Int) + 1).toNat = x + 1 := by omega
                  clear v1 v2 hup hqT hqok hTs hiy0
                  gi_wp2
                  refine wpIn_region_held_round (S := fun W' => W'.cell? ⟨w.heap.size + 1 + 1, 0, none⟩ = some (.slice (some ⟨w.heap.size + 1, 0, none⟩) (n + 1) (n + 1)) ∧ W'.cell? ⟨w.heap.size, 0, none⟩ = some (.string s) ∧ W'.cell? ⟨w.heap.size + 1, x + 1, none⟩ = some (.slice (some ⟨w.heap.size + 3 + (x + 1), 0, none⟩) (s.size + 1) (s.size + 1)) ∧ W'.cell? ⟨w.heap.size + 3 + (x + 1), q * 2, none⟩ = some (.int .i64 r1) ∧ W'.cell? ⟨w.heap.size + 3 + (x + 1), q * 2 + 1, none⟩ = some (.int .i64 r2)) (by kernel_rfl) (by kernel_rfl) ?lo ⟨f2, f1, f3, hr1, hr2⟩ (fun hHeld => ?_)
                  case lo => exact fun ⟨_, _, h⟩ => h
                  refine wpAnyH_take (i := 0) (v := ?_) rfl (by kernel_rfl) (by kernel_rfl) (by kernel_rfl) (fun _ _ _ h => h) (Or.inl ⟨by rfl, ?_⟩) (by assumption) ?_
                  rotate_left
                  · intro w hSw
                    obtain ⟨hS1, hS2, hS3, hS4, hS5⟩ := hSw
                    go_simp
                    try with_reducible rfl
                  simp only [Act.put, List.getElem_toArray, List.getElem_cons_zero, List.getElem_cons_succ, List.setIfInBounds_toArray, List.set_cons_zero, List.set_cons_succ]
                  refine wpAnyH_take (i := 1) (v := ?_) rfl (by kernel_rfl) (by kernel_rfl) (by kernel_rfl) (fun _ _ _ h => h) (Or.inl ⟨by rfl, ?_⟩) (by assumption) ?_
                  rotate_left
                  · intro w hSw
                    obtain ⟨hS1, hS2, hS3, hS4, hS5⟩ := hSw
                    go_simp
                    try with_reducible rfl
                  simp only [Act.put, List.getElem_toArray, List.getElem_cons_zero, List.getElem_cons_succ, List.setIfInBounds_toArray, List.set_cons_zero, List.set_cons_succ]
                  refine wpAnyH_take (i := 2) (v := ?_) rfl (by kernel_rfl) (by kernel_rfl) (by kernel_rfl) (fun _ _ _ h => h) (Or.inl ⟨by rfl, ?_⟩) (by assumption) ?_
                  rotate_left
                  · intro w hSw
                    obtain ⟨hS1, hS2, hS3, hS4, hS5⟩ := hSw
                    go_simp
                    try with_reducible rfl
                  simp only [Act.put, List.getElem_toArray, List.getElem_cons_zero, List.getElem_cons_succ, List.setIfInBounds_toArray, List.set_cons_zero, List.set_cons_succ]
                  refine wpAnyH_take (i := 3) (v := ?_) rfl (by kernel_rfl) (by kernel_rfl) (by kernel_rfl) (fun _ _ _ h => h) (Or.inl ⟨by rfl, ?_⟩) (by assumption) ?_
                  rotate_left
                  · intro w hSw
                    obtain ⟨hS1, hS2, hS3, hS4, hS5⟩ := hSw
                    go_simp
                    try with_reducible rfl
                  simp only [Act.put, List.getElem_toArray, List.getElem_cons_zero, List.getElem_cons_succ, List.setIfInBounds_toArray, List.set_cons_zero, List.set_cons_succ]
                  refine wpAnyH_take (i := 4) (v := ?_) rfl (by kernel_rfl) (by kernel_rfl) (by kernel_rfl) (fun _ _ _ h => h) (Or.inl ⟨by rfl, ?_⟩) (by assumption) ?_
                  rotate_left
                  · intro w hSw
                    obtain ⟨hS1, hS2, hS3, hS4, hS5⟩ := hSw
                    go_simp
                    try with_reducible rfl
                  simp only [Act.put, List.getElem_toArray, List.getElem_cons_zero, List.getElem_cons_succ, List.setIfInBounds_toArray, List.set_cons_zero, List.set_cons_succ]
                  refine wpAnyH_take (i := 5) (v := ?_) rfl (by kernel_rfl) (by kernel_rfl) (by kernel_rfl) (fun _ _ _ h => h) (Or.inl ⟨by rfl, ?_⟩) (by assumption) ?_
                  rotate_left
                  · intro w hSw
                    obtain ⟨hS1, hS2, hS3, hS4, hS5⟩ := hSw
                    go_simp
                    try with_reducible rfl
                  simp only [Act.put, List.getElem_toArray, List.getElem_cons_zero, List.getElem_cons_succ, List.setIfInBounds_toArray, List.set_cons_zero, List.set_cons_succ]
                  refine wpAnyH_take (i := 6) (v := ?_) rfl (by kernel_rfl) (by kernel_rfl) (by kernel_rfl) (fun _ _ _ h => h) (Or.inl ⟨by rfl, ?_⟩) (by assumption) ?_
                  rotate_left
                  · intro w hSw
                    obtain ⟨hS1, hS2, hS3, hS4, hS5⟩ := hSw
                    go_simp
                    try with_reducible rfl
                  simp only [Act.put, List.getElem_toArray, List.getElem_cons_zero, List.getElem_cons_succ, List.setIfInBounds_toArray, List.set_cons_zero, List.set_cons_succ]
                  refine wpAnyH_take (i := 7) (v := ?_) rfl (by kernel_rfl) (by kernel_rfl) (by kernel_rfl) (fun _ _ _ h => h) (Or.inl ⟨by rfl, ?_⟩) (by assumption) ?_
                  rotate_left
                  · intro w hSw
                    obtain ⟨hS1, hS2, hS3, hS4, hS5⟩ := hSw
                    go_simp
                    try with_reducible rfl
                  simp only [Act.put, List.getElem_toArray, List.getElem_cons_zero, List.getElem_cons_succ, List.setIfInBounds_toArray, List.set_cons_zero, List.set_cons_succ]
                  refine wpAnyH_take (i := 8) (v := ?_) rfl (by kernel_rfl) (by kernel_rfl) (by kernel_rfl) (fun _ _ _ h => h) (Or.inl ⟨by rfl, ?_⟩) (by assumption) ?_
                  rotate_left
                  · intro w hSw
                    obtain ⟨hS1, hS2, hS3, hS4, hS5⟩ := hSw
                    go_simp
                    try with_reducible rfl
                  simp only [Act.put, List.getElem_toArray, List.getElem_cons_zero, List.getElem_cons_succ, List.setIfInBounds_toArray, List.set_cons_zero, List.set_cons_succ]
                  refine wpAnyH_take (i := 9) (v := ?_) rfl (by kernel_rfl) (by kernel_rfl) (by kernel_rfl) (fun _ _ _ h => h) (Or.inl ⟨by rfl, ?_⟩) (by assumption) ?_
                  rotate_left
                  · intro w hSw
                    obtain ⟨hS1, hS2, hS3, hS4, hS5⟩ := hSw
                    go_simp
                    try with_reducible rfl
                  simp only [Act.put, List.getElem_toArray, List.getElem_cons_zero, List.getElem_cons_succ, List.setIfInBounds_toArray, List.set_cons_zero, List.set_cons_succ]
                  refine wpAnyH_take (i := 10) (v := ?_) rfl (by kernel_rfl) (by kernel_rfl) (by kernel_rfl) (fun _ _ _ h => h) (Or.inl ⟨by rfl, ?_⟩) (by assumption) ?_
                  rotate_left
                  · intro w hSw
                    obtain ⟨hS1, hS2, hS3, hS4, hS5⟩ := hSw
                    go_simp
                    try with_reducible rfl
                  simp only [Act.put, List.getElem_toArray, List.getElem_cons_zero, List.getElem_cons_succ, List.setIfInBounds_toArray, List.set_cons_zero, List.set_cons_succ]
                  refine wpAnyH_take (i := 11) (v := ?_) rfl (by kernel_rfl) (by kernel_rfl) (by kernel_rfl) (fun _ _ _ h => h) (Or.inl ⟨by rfl, ?_⟩) (by assumption) ?_
                  rotate_left
                  · intro w hSw
                    obtain ⟨hS1, hS2, hS3, hS4, hS5⟩ := hSw
                    go_simp
                    try with_reducible rfl
                  simp only [Act.put, List.getElem_toArray, List.getElem_cons_zero, List.getElem_cons_succ, List.setIfInBounds_toArray, List.set_cons_zero, List.set_cons_succ]
                  have hal : Below W2.heap.size W2 (W2.alloc (.cells #[.int .i64 0, .int .i64 0] 110)).drew := ((Below.refl _ W2).alloc (Nat.le_refl _) _).drew
                  refine wpAnyH_ready (rs := [12]) (by kernel_rfl) (by simp) (AllReadyH.cons rfl (fun K hK => ?_) AllReadyH.nil)
                  go_simp
                  refine hK.out _ _ ⟨(hal.cell (p := ⟨w.heap.size + 1 + 1, 0, none⟩) (by show w.heap.size + 1 + 1 < W2.heap.size; omega)).trans f2, (hal.cell (p := ⟨w.heap.size, 0, none⟩) (by show w.heap.size < W2.heap.size; omega)).trans f1, (hal.cell (p := ⟨w.heap.size + 1, x + 1, none⟩) (by show w.heap.size + 1 < W2.heap.size; omega)).trans f3, (hal.cell (p := ⟨w.heap.size + 3 + (x + 1), q * 2, none⟩) (by show w.heap.size + 3 + (x + 1) < W2.heap.size; omega)).trans hr1, (hal.cell (p := ⟨w.heap.size + 3 + (x + 1), q * 2 + 1, none⟩) (by show w.heap.size + 3 + (x + 1) < W2.heap.size; omega)).trans hr2⟩ (fun hHeld2 => ?_)
                  clear hK K
                  have hal2 : Below W2.heap.size W2 (W2.alloc (.cells #[.int .i64 r1, .int .i64 r2] 110)).drew := ((Below.refl _ W2).alloc (Nat.le_refl _) _).drew
                  refine wpAnyH_ready (rs := [13]) (by kernel_rfl) (by simp) (AllReadyH.cons rfl (fun K hK => ?_) AllReadyH.nil)
                  go_simp
                  refine hK.out _ _ ⟨(hal2.cell (p := ⟨w.heap.size + 1 + 1, 0, none⟩) (by show w.heap.size + 1 + 1 < W2.heap.size; omega)).trans f2, (hal2.cell (p := ⟨w.heap.size, 0, none⟩) (by show w.heap.size < W2.heap.size; omega)).trans f1, (hal2.cell (p := ⟨w.heap.size + 1, x + 1, none⟩) (by show w.heap.size + 1 < W2.heap.size; omega)).trans f3, (hal2.cell (p := ⟨w.heap.size + 3 + (x + 1), q * 2, none⟩) (by show w.heap.size + 3 + (x + 1) < W2.heap.size; omega)).trans hr1, (hal2.cell (p := ⟨w.heap.size + 3 + (x + 1), q * 2 + 1, none⟩) (by show w.heap.size + 3 + (x + 1) < W2.heap.size; omega)).trans hr2⟩ (fun hHeld3 => ?_)
                  clear hK K
                  refine wpAnyH_done (by kernel_rfl) ?_ _
                  clear hHeld hHeld2 hHeld3 hal
                  have hbv : wr.heap.size < W2.heap.size := by omega
                  have HM3 : Hid (Mem (W2.alloc (.cells #[.int .i64 r1, .int .i64 r2] 110)).drew w.heap.size n s.size s (upd tA x a cb)) := Lib.hid (HM2.out.below (hal2.mono (by omega)))
                  have HK3 : Hid (KB w.heap.size (w.heap.size + 3 + n + 1) W (W2.alloc (.cells #[.int .i64 r1, .int .i64 r2] 110)).drew) := Lib.hid ((HK2.out.trans (KB.alloc _ _ (by omega) (by omega))).trans (KB.drew _))
                  have n1 : (W2.alloc (.cells #[.int .i64 r1, .int .i64 r2] 110)).drew.cell? ⟨wr.heap.size + 1, 0, none⟩ = some (.int .i64 r1) := by rw [← sW2]; simp
                  have n2 : (W2.alloc (.cells #[.int .i64 r1, .int .i64 r2] 110)).drew.cell? ⟨wr.heap.size + 1, 1, none⟩ = some (.int .i64 r2) := by rw [← sW2]; simp
                  have v2'' := (hal2.cell (p := ⟨wr.heap.size, 1, none⟩) hbv).trans v2'
                  have HsW : Hid (wr.heap.size < W2.heap.size) := Lib.hid hbv
                  clear v1' v2' f1 f2 f3 hr1 hr2 hal2 HM2 HK2 hix hiy sW2
                  generalize (W2.alloc (.cells #[.int .i64 r1, .int .i64 r2] 110)).drew = W3 at *
                  have b1 := HM3.out.t1 x a (by omega) (by omega)
                  have b2 := HM3.out.t2 x a (by omega) (by omega)
                  rw [upd_same] at b1 b2
                  have z1 := HM3.out.z x (a * 2) (by omega)
                  have z2 := HM3.out.z x (a * 2 + 1) (by omega)
                  have hse : ∀ c' : Cell, stepB ok (r1, r2) vc cb = c' → stepR (s.data.toList.drop a) (nxR t0 x a) cb (vs, vc) = c' := by
                    intro c' hc
                    rw [Hstep2.out]
                    cases ok with
                    | false => exact hc
                    | true => rw [Hnx.out rfl]; exact hc
                  have hend : ∀ (c' : Cell) (W4 : World), stepB ok (r1, r2) vc cb = c' → Mem W4 w.heap.size n s.size s (upd tA x a c') → KB w.heap.size (w.heap.size + 3 + n + 1) W W4 →
                      Mem W4 w.heap.size n s.size s (upd tA x a ((row.take (k + 1)).foldl (stepR (s.data.toList.drop a) (nxR t0 x a)) (t0 x a))) ∧ KB w.heap.size (w.heap.size + 3 + n + 1) W W4 := by
                    intro c' W4 hc hM4 hK4
                    rw [Hfs.out, hse c' hc]
                    exact ⟨hM4, hK4⟩
                  have Hend := Lib.hid hend
                  clear hse hend
                  clear Hnx Hstep2 Hfs
                  obtain ⟨c1, c2⟩ := cb
                  simp only [] at b1 b2
                  have hr17 : r1 ≤ 17 * 1048576 := by have := hrc.2; omega
                  have hr0 := hrc.1
                  obtain ⟨hv0, hv1⟩ := hvc
                  cases ok with
                  | false =>
                    have HE := Lib.hid (Hend.out (c1, c2) W3 rfl HM3.out HK3.out)
                    gi_wp2
                    go_roundw
                    case rel => exact ⟨k + 1, by omega, by go_num, Lib.hid HE.out.1, Lib.hid HE.out.2⟩
                    case measure => simp [intOf]; omega
                  | true =>
                    cases h0 : (r2 == 0) with
                    | true =>
                      have HE := Lib.hid (Hend.out (c1, c2) W3 (by unfold stepB; rw [if_pos rfl, if_pos (by simpa using h0)]) HM3.out HK3.out)
                      gi_wp2
                      go_roundw
                      case rel => exact ⟨k + 1, by omega, by go_num, Lib.hid HE.out.1, Lib.hid HE.out.2⟩
                      case measure => simp [intOf]; omega
                    | false =>
                      have hr20 : ¬ r2 = 0 := by simpa using h0
                      have Hs1 := Lib.hid (show stepB true (r1, r2) vc (c1, c2) = (if c2 = 0 ∨ r1 + vc < c1 then (r1 + vc, r2) else if r1 + vc = c1 then (c1, min (addW c2 r2) manyN) else (c1, c2)) by unfold stepB; rw [if_pos rfl, if_neg hr20])
                      clear hr20
                      cases hc0 : (c2 == 0) with
                      | true =>
                        have hM4 := (HM3.out.put1 (i := x) (a := a) (by omega) (by omega) (r1 + vc)).put2 (i := x) (a := a) (by omega) (by omega) r2
                        simp only [upd_same, upd_upd] at hM4
                        have hK4 := (HK3.out.trans (KB.put W3 (w.heap.size + 3 + x) (a * 2) (.int .i64 (r1 + vc)) (by omega) (by omega))).trans (KB.put _ (w.heap.size + 3 + x) (a * 2 + 1) (.int .i64 r2) (by omega) (by omega))
                        have HE := Lib.hid (Hend.out (r1 + vc, r2) _ (by rw [Hs1.out, if_pos (.inl (by simpa using hc0))]) hM4 hK4)
                        clear hM4 hK4
                        gi_wp2
                        go_roundw
                        case rel => exact ⟨k + 1, by omega, by go_num, Lib.hid HE.out.1, Lib.hid HE.out.2⟩
                        case measure => simp [intOf]; omega
                      | false =>
                        have Hc0 : Hid (¬ c2 = 0) := Lib.hid (by simpa using hc0)
                        by_cases hlt : r1 + vc < c1
                        · have hM4 := (HM3.out.put1 (i := x) (a := a) (by omega) (by omega) (r1 + vc)).put2 (i := x) (a := a) (by omega) (by omega) r2
                          simp only [upd_same, upd_upd] at hM4
                          have hK4 := (HK3.out.trans (KB.put W3 (w.heap.size + 3 + x) (a * 2) (.int .i64 (r1 + vc)) (by omega) (by omega))).trans (KB.put _ (w.heap.size + 3 + x) (a * 2 + 1) (.int .i64 r2) (by omega) (by omega))
                          have HE := Lib.hid (Hend.out (r1 + vc, r2) _ (by rw [Hs1.out, if_pos (.inr hlt)]) hM4 hK4)
                          clear hM4 hK4
                          gi_wp2
                          go_roundw
                          case rel => exact ⟨k + 1, by omega, by go_num, Lib.hid HE.out.1, Lib.hid HE.out.2⟩
                          case measure => simp [intOf]; omega
                        · have Hs2 : Hid (stepB true (r1, r2) vc (c1, c2) = (if r1 + vc = c1 then (c1, min (addW c2 r2) manyN) else (c1, c2))) := Lib.hid (by rw [Hs1.out, if_neg (fun h => h.elim Hc0.out hlt)])
                          cases heq : (r1 + vc == c1) with
                          | false =>
                            have HE := Lib.hid (Hend.out (c1, c2) W3 (by rw [Hs2.out, if_neg (by simpa using heq)]) HM3.out HK3.out)
                            gi_wp2
                            go_roundw
                            case rel => exact ⟨k + 1, by omega, by go_num, Lib.hid HE.out.1, Lib.hid HE.out.2⟩
                            case measure => simp [intOf]; omega
                          | true =>
                            gi_wp2
                            refine wpIn_region_held_round (S := fun W' => W'.cell? ⟨wr.heap.size + 1, 1, none⟩ = some (.int .i64 r2) ∧ True) (by kernel_rfl) (by kernel_rfl) (fun ⟨_, _, h⟩ => h) ⟨n2, trivial⟩ (fun hHeld => ?_)
                            refine wpAnyH_take (i := 0) (v := ?_) rfl (by kernel_rfl) (by kernel_rfl) (by kernel_rfl) (fun _ _ _ h => h) (Or.inl ⟨by rfl, ?_⟩) (by assumption) ?_
                            rotate_left
                            · intro w hSw
                              obtain ⟨hS1, hS2⟩ := hSw
                              go_simp
                              try with_reducible rfl
                            simp only [Act.put, List.getElem_toArray, List.getElem_cons_zero, List.getElem_cons_succ, List.setIfInBounds_toArray, List.set_cons_zero, List.set_cons_succ]
                            refine wpAnyH_take (i := 1) (v := ?_) rfl (by kernel_rfl) (by kernel_rfl) (by kernel_rfl) (fun _ _ _ h => h) (Or.inl ⟨by rfl, ?_⟩) (by assumption) ?_
                            rotate_left
                            · intro w hSw
                              obtain ⟨hS1, hS2⟩ := hSw
                              go_simp
                              try with_reducible rfl
                            simp only [Act.put, List.getElem_toArray, List.getElem_cons_zero, List.getElem_cons_succ, List.setIfInBounds_toArray, List.set_cons_zero, List.set_cons_succ]
                            refine wpAnyH_take (i := 2) (v := ?_) rfl (by kernel_rfl) (by kernel_rfl) (by kernel_rfl) (fun _ _ _ h => h) (Or.inl ⟨by rfl, ?_⟩) (by assumption) ?_
                            rotate_left
                            · intro w hSw
                              obtain ⟨hS1, hS2⟩ := hSw
                              go_simp
                              try with_reducible rfl
                            simp only [Act.put, List.getElem_toArray, List.getElem_cons_zero, List.getElem_cons_succ, List.setIfInBounds_toArray, List.set_cons_zero, List.set_cons_succ]
                            refine wpAnyH_take (i := 3) (v := ?_) rfl (by kernel_rfl) (by kernel_rfl) (by kernel_rfl) (fun _ _ _ h => h) (Or.inl ⟨by rfl, ?_⟩) (by assumption) ?_
                            rotate_left
                            · intro w hSw
                              obtain ⟨hS1, hS2⟩ := hSw
                              go_simp
                              try with_reducible rfl
                            simp only [Act.put, List.getElem_toArray, List.getElem_cons_zero, List.getElem_cons_succ, List.setIfInBounds_toArray, List.set_cons_zero, List.set_cons_succ]
                            refine wpAnyH_take (i := 5) (v := ?_) rfl (by kernel_rfl) (by kernel_rfl) (by kernel_rfl) (fun _ _ _ h => h) (Or.inl ⟨by rfl, ?_⟩) (by assumption) ?_
                            rotate_left
                            · intro w hSw
                              obtain ⟨hS1, hS2⟩ := hSw
                              go_simp
                              try with_reducible rfl
                            simp only [Act.put, List.getElem_toArray, List.getElem_cons_zero, List.getElem_cons_succ, List.setIfInBounds_toArray, List.set_cons_zero, List.set_cons_succ]
                            refine wpAnyH_take (i := 6) (v := ?_) rfl (by kernel_rfl) (by kernel_rfl) (by kernel_rfl) (fun _ _ _ h => h) (Or.inl ⟨by rfl, ?_⟩) (by assumption) ?_
                            rotate_left
                            · intro w hSw
                              obtain ⟨hS1, hS2⟩ := hSw
                              go_simp
                              try with_reducible rfl
                            simp only [Act.put, List.getElem_toArray, List.getElem_cons_zero, List.getElem_cons_succ, List.setIfInBounds_toArray, List.set_cons_zero, List.set_cons_succ]
                            refine wpAnyH_ready (rs := [4]) (by kernel_rfl) (by simp) (AllReadyH.cons rfl (fun K hK => ?_) AllReadyH.nil)
                            go_simp
                            refine hK.out _ _ ⟨n2, trivial⟩ (fun hHeld2 => ?_)
                            clear hK K
                            refine wpAnyH_take (i := 7) (v := ?_) rfl (by kernel_rfl) (by kernel_rfl) (by kernel_rfl) (fun _ _ _ h => h) (Or.inl ⟨by rfl, ?_⟩) (by assumption) ?_
                            rotate_left
                            · intro w hSw
                              obtain ⟨hS1, hS2⟩ := hSw
                              go_simp
                              try with_reducible rfl
                            simp only [Act.put, List.getElem_toArray, List.getElem_cons_zero, List.getElem_cons_succ, List.setIfInBounds_toArray, List.set_cons_zero, List.set_cons_succ]
                            refine wpAnyH_take (i := 8) (v := ?_) rfl (by kernel_rfl) (by kernel_rfl) (by kernel_rfl) (fun _ _ _ h => h) (Or.inl ⟨by rfl, ?_⟩) (by assumption) ?_
                            rotate_left
                            · intro w hSw
                              obtain ⟨hS1, hS2⟩ := hSw
                              go_simp
                              try with_reducible rfl
                            simp only [Act.put, List.getElem_toArray, List.getElem_cons_zero, List.getElem_cons_succ, List.setIfInBounds_toArray, List.set_cons_zero, List.set_cons_succ]
                            refine wpAnyH_take (i := 9) (v := ?_) rfl (by kernel_rfl) (by kernel_rfl) (by kernel_rfl) (fun _ _ _ h => h) (Or.inl ⟨by rfl, ?_⟩) (by assumption) ?_
                            rotate_left
                            · intro w hSw
                              obtain ⟨hS1, hS2⟩ := hSw
                              go_simp
                              try with_reducible rfl
                            simp only [Act.put, List.getElem_toArray, List.getElem_cons_zero, List.getElem_cons_succ, List.setIfInBounds_toArray, List.set_cons_zero, List.set_cons_succ]
                            refine wpAnyH_take (i := 10) (v := ?_) rfl (by kernel_rfl) (by kernel_rfl) (by kernel_rfl) (fun _ _ _ h => h) (Or.inl ⟨by rfl, ?_⟩) (by assumption) ?_
                            rotate_left
                            · intro w hSw
                              obtain ⟨hS1, hS2⟩ := hSw
                              go_simp
                              try with_reducible rfl
                            simp only [Act.put, List.getElem_toArray, List.getElem_cons_zero, List.getElem_cons_succ, List.setIfInBounds_toArray, List.set_cons_zero, List.set_cons_succ]
                            have hM4 := HM3.out.put2 (i := x) (a := a) (by omega) (by omega) (min (IntKind.i64.wrap (c2 + r2)) 4611686018427387904)
                            simp only [upd_same, upd_upd] at hM4
                            have hK4 := HK3.out.trans (KB.put W3 (w.heap.size + 3 + x) (a * 2 + 1) (.int .i64 (min (IntKind.i64.wrap (c2 + r2)) 4611686018427387904)) (by omega) (by omega))
                            have HE := Lib.hid (Hend.out (c1, min (IntKind.i64.wrap (c2 + r2)) 4611686018427387904) _ (by rw [Hs2.out, if_pos (by simpa using heq)]; rfl) hM4 hK4)
                            clear hM4 hK4
                            refine wpAnyH_ready (rs := [11]) (by kernel_rfl) (by simp) (AllReadyH.cons rfl (fun K hK => ?_) AllReadyH.nil)
                            go_simp
                            refine hK.out _ _ ⟨(World.cell?_setCell_far W3 _ _ _ (by show w.heap.size + 3 + x ≠ wr.heap.size + 1; omega)).trans n2, trivial⟩ (fun hHeld3 => ?_)
                            clear hK K
                            refine wpAnyH_done (by kernel_rfl) ?_ _
                            clear hHeld hHeld2 hHeld3
                            have he1 : Mem (W3.setCell ⟨w.heap.size + 3 + x, a * 2 + 1, none⟩ (.int .i64 (min (IntKind.i64.wrap (c2 + r2)) 4611686018427387904))).drew w.heap.size n s.size s (upd tA x a ((row.take (k + 1)).foldl (stepR (s.data.toList.drop a) (nxR t0 x a)) (t0 x a))) := HE.out.1.drewN 1
                            have he2 : KB w.heap.size (w.heap.size + 3 + n + 1) W (W3.setCell ⟨w.heap.size + 3 + x, a * 2 + 1, none⟩ (.int .i64 (min (IntKind.i64.wrap (c2 + r2)) 4611686018427387904))).drew := HE.out.2.trans (KB.drew _)
                            clear HE
                            generalize (W3.setCell ⟨w.heap.size + 3 + x, a * 2 + 1, none⟩ (.int .i64 (min (IntKind.i64.wrap (c2 + r2)) 4611686018427387904))).drew = W5 at he1 he2 ⊢
                            have HE1 := Lib.hid he1
                            have HE2 := Lib.hid he2
                            clear he1 he2
                            gi_wp2
                            go_roundw
                            case rel => exact ⟨k + 1, by omega, by go_num, HE1, HE2⟩
                            case measure => simp [intOf]; omega
                · obtain rfl : k = row.length := by omega
                  have HM9 : Hid (Mem wr w.heap.size n s.size s (procTo rows s.data.toList (a + 1) t0 x)) := Lib.hid (by rw [Hsu.out, Hrow2.out]; have := hM2.out; rw [List.take_length] at this; exact this)
                  gi_wp2
                  go_roundw
                  case rel => exact ⟨a + 1, by omega, by go_num, HM9, hK2⟩
                  case measure => simp [intOf]; omega
            · obtain rfl : a = s.size + 1 := by omega
              gi_wp2
              exact ⟨hK.out.oth.from _, ⟨hK.out.bel, hK.out.box⟩, by rw [Hsnoc.out]; exact hM.out, HB.out.trans hK.out.bel, by have := hK.out.lt (by omega); omega⟩
end Go.Proofs.YtkfkkoefpfmjkaaDoor

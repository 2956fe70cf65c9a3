import Derived.Test.YtjlncnjmcgkkhaaE2
import Derived.Deep.RegionHeld3
namespace Go.Proofs.Ytjlncnjmcgkkhaa
set_option linter.unusedVariables false
set_option linter.unusedSimpArgs false
open Go.RowKit
attribute [local go_sem] run_store_float run_fadd run_fsub run_fmul run_fquo

/- stayed, spoil. -/
theorem room_lt {l : List Note} {k : Nat} (h : k < l.length) : (roomL l 9).getD k default = l.getD k default := by
  unfold roomL; rw [List.getD_eq_getElem?_getD, List.getElem?_append_left h, ← List.getD_eq_getElem?_getD]
theorem room_ge {l : List Note} {k : Nat} (h : l.length ≤ k) (h' : k < l.length + 9) : (roomL l 9).getD k default = pad := by
  unfold roomL; rw [List.getD_eq_getElem?_getD, List.getElem?_append_right h, List.getElem?_replicate, if_pos (by omega)]; rfl

theorem box_facts {wr wx : World} {a b c : Int} {d : Bool} {e f : Nat} (h : wr.alloc (.cells #[.int .i64 a, .int .i64 b, .int .i64 c, .bool d, .float .f64 e, .float .f64 f] 37) = wx) :
    Below wr.heap.size wr wx ∧ wr.heap.size < wx.heap.size ∧ wx.cell? ⟨wr.heap.size, 0, none⟩ = some (.int .i64 a) ∧ wx.cell? ⟨wr.heap.size, 1, none⟩ = some (.int .i64 b) ∧ wx.cell? ⟨wr.heap.size, 2, none⟩ = some (.int .i64 c) ∧
      wx.cell? ⟨wr.heap.size, 3, none⟩ = some (.bool d) ∧ wx.cell? ⟨wr.heap.size, 4, none⟩ = some (.float .f64 e) ∧ wx.cell? ⟨wr.heap.size, 5, none⟩ = some (.float .f64 f) := by
  subst h
  have hc := fun j => cell_of_row (wr.alloc (.cells #[.int .i64 a, .int .i64 b, .int .i64 c, .bool d, .float .f64 e, .float .f64 f] 37)) wr.heap.size j _ 37 (0, 0) (heap_alloc_new wr _)
  exact ⟨(Below.refl _ _).alloc (Nat.le_refl _) _, by simp, hc 0, hc 1, hc 2, hc 3, hc 4, hc 5⟩

set_option maxRecDepth 100000 in
set_option maxHeartbeats 4000000 in
theorem stayed_true (g c : Nat) (A : Option Addr) (l : List Note) (w : World) (hg : w.heap[g]? = some (.cells (notesCells (roomL l 9)).toArray 37 (0, 0))) (hn : IsNotes w w.heap.size A l) (hl : l.length ≤ 4398046511104) :
    Calls Try.prog 29 #[.slice (some ⟨g, 0, none⟩) (l.length + 9) (l.length + 9), .slice A l.length c] w fun e w' => e = .returned (.bool true) ∧ Below w.heap.size w w' := by
  have hgs := heap_lt hg
  have Hn := Lib.hid hn
  have Hg := Lib.hid hg
  clear hn hg
  go_enter Try.func29, Try.ntmps29
  go_wp2_with fail
  go_loopw [9] (fun i wr => ∃ k : Nat, k ≤ l.length + 9 ∧ i = .int .i64 k ∧ Below w.heap.size w wr) (fun i _ => l.length + 9 - (intOf i).toNat)
  case atStart => exact ⟨0, by omega, rfl, Below.refl _ _⟩
  case round =>
    obtain ⟨k, hk, rfl, hbl⟩ := hrel
    have hgr : g < wr.heap.size := Nat.lt_of_lt_of_le hgs hbl.size
    have hbs := hbl.size
    by_cases hlt : k < l.length + 9
    · have hx := notes_of_heap ((hbl.block g hgs).trans Hg.out) k (by rw [roomL_length]; omega)
      by_cases hkl : k < l.length
      · obtain ⟨b, off, rfl, hb, hnt⟩ := Hn.out (by omega)
        obtain ⟨d0, d1, d2, d3, d4, d5⟩ := (hnt k hkl).keep hb (keepOf hbl)
        have hbr : b < wr.heap.size := Nat.lt_of_lt_of_le hb hbs
        rw [room_lt hkl] at hx
        clear hnt
        generalize l.getD k default = x at *
        obtain ⟨c0, c1, c2, c3, c4, c5⟩ := hx
        have heq := fun W => equal_any x x W
        rw [eqN_refl] at heq
        have Heq := Lib.hid heq
        clear heq
        go_wp2_with fail
        generalize hwx : World.alloc wr _ = wx
        obtain ⟨hwb, hws, e0, e1, e2, e3, e4, e5⟩ := box_facts hwx
        clear hwx c0 c1 c2 c3 c4 c5
        replace d0 := (hwb.cell (p := ⟨b, _, none⟩) hbr).trans d0
        replace d1 := (hwb.cell (p := ⟨b, _, none⟩) hbr).trans d1
        replace d2 := (hwb.cell (p := ⟨b, _, none⟩) hbr).trans d2
        replace d3 := (hwb.cell (p := ⟨b, _, none⟩) hbr).trans d3
        replace d4 := (hwb.cell (p := ⟨b, _, none⟩) hbr).trans d4
        replace d5 := (hwb.cell (p := ⟨b, _, none⟩) hbr).trans d5
        have hbx : b < wx.heap.size := Nat.lt_trans hbr hws
        have t1 : decide ((k : Int) < (l.length : Int)) = true := by simp; omega
        have t2 : decide (l.length ≤ k) = false := by simp; omega
        refine wp_region_held_drew (S := fun w' => Below wx.heap.size wx w' ∧ ∀ b o, b < wx.heap.size → w'.cell? ⟨b, o, none⟩ = wx.cell? ⟨b, o, none⟩) (by kernel_rfl) startS (fun hHeld => ?_)
        refine wpAnyH_take (i := 0) (oi := { dst := some 14, op := Op.move (Operand.tmp 5), type := 3, pos := "law.go:54", after := #[], guard := none }) (v := ?_) rfl (by kernel_rfl) (by kernel_rfl) (by kernel_rfl) (fun _ _ _ h => h) (Or.inl ⟨by rfl, ?_⟩) (by assumption) ?_
        rotate_left
        · intro w hSw
          obtain ⟨hS1, hS2⟩ := hSw
          go_simp
          try with_reducible rfl
        simp only [Act.put, List.setIfInBounds_toArray, List.set_cons_zero, List.set_cons_succ]
        refine wpAnyH_take (i := 1) (oi := { dst := some 15, op := Op.move (Operand.tmp 1), type := 29, pos := "law.go:54", after := #[], guard := none }) (v := ?_) rfl (by kernel_rfl) (by kernel_rfl) (by kernel_rfl) (fun _ _ _ h => h) (Or.inl ⟨by rfl, ?_⟩) (by assumption) ?_
        rotate_left
        · intro w hSw
          obtain ⟨hS1, hS2⟩ := hSw
          go_simp
          try with_reducible rfl
        simp only [Act.put, List.setIfInBounds_toArray, List.set_cons_zero, List.set_cons_succ]
        refine wpAnyH_take (i := 2) (oi := { dst := some 16, op := Op.call { callee := Callee.builtin Builtin.len, args := #[Operand.tmp 15], argTypes := #[29] }, type := 3, pos := "law.go:54", after := #[{ on := 1, ground := Ground.data }], guard := none }) (v := ?_) rfl (by kernel_rfl) (by kernel_rfl) (by kernel_rfl) (fun _ _ _ h => h) (Or.inl ⟨by rfl, ?_⟩) (by assumption) ?_
        rotate_left
        · intro w hSw
          obtain ⟨hS1, hS2⟩ := hSw
          go_simp
          try with_reducible rfl
        simp only [Act.put, List.setIfInBounds_toArray, List.set_cons_zero, List.set_cons_succ]
        refine wpAnyH_take (i := 3) (oi := { dst := some 17, op := Op.binOp BinOp.lss 3 (Operand.tmp 14) (Operand.tmp 16) 3, type := 4, pos := "law.go:54", after := #[{ on := 0, ground := Ground.data }, { on := 2, ground := Ground.data }], guard := none }) (v := ?_) rfl (by kernel_rfl) (by kernel_rfl) (by kernel_rfl) (fun _ _ _ h => h) (Or.inl ⟨by rfl, ?_⟩) (by assumption) ?_
        rotate_left
        · intro w hSw
          obtain ⟨hS1, hS2⟩ := hSw
          go_simp
          try with_reducible rfl
        simp only [Act.put, List.setIfInBounds_toArray, List.set_cons_zero, List.set_cons_succ]
        refine wpAnyH_take (i := 4) (oi := { dst := some 18, op := Op.move (Operand.tmp 17), type := 4, pos := "law.go:54", after := #[{ on := 3, ground := Ground.data }], guard := none }) (v := ?_) rfl (by kernel_rfl) (by kernel_rfl) (by kernel_rfl) (fun _ _ _ h => h) (Or.inl ⟨by rfl, ?_⟩) (by assumption) ?_
        rotate_left
        · intro w hSw
          obtain ⟨hS1, hS2⟩ := hSw
          go_simp
          try with_reducible rfl
        simp only [Act.put, List.setIfInBounds_toArray, List.set_cons_zero, List.set_cons_succ]
        refine wpAnyH_take (i := 5) (oi := { dst := some 19, op := Op.load 37 (Operand.tmp 6), type := 37, pos := "law.go:54", after := #[{ on := 4, ground := Ground.guard }], guard := some (4, true) }) (v := ?_) rfl (by kernel_rfl) (by kernel_rfl) (by kernel_rfl) (fun _ _ _ h => h) (Or.inl ⟨by rfl, ?_⟩) (by assumption) ?_
        rotate_left
        · intro w hSw
          obtain ⟨hS1, hS2⟩ := hSw
          go_simp
          try with_reducible rfl
        simp only [Act.put, List.setIfInBounds_toArray, List.set_cons_zero, List.set_cons_succ]
        refine wpAnyH_take (i := 6) (oi := { dst := some 20, op := Op.move (Operand.tmp 1), type := 29, pos := "law.go:54", after := #[{ on := 4, ground := Ground.guard }], guard := some (4, true) }) (v := ?_) rfl (by kernel_rfl) (by kernel_rfl) (by kernel_rfl) (fun _ _ _ h => h) (Or.inl ⟨by rfl, ?_⟩) (by assumption) ?_
        rotate_left
        · intro w hSw
          obtain ⟨hS1, hS2⟩ := hSw
          go_simp
          try with_reducible rfl
        simp only [Act.put, List.setIfInBounds_toArray, List.set_cons_zero, List.set_cons_succ]
        refine wpAnyH_take (i := 7) (oi := { dst := some 21, op := Op.move (Operand.tmp 5), type := 3, pos := "law.go:54", after := #[{ on := 4, ground := Ground.guard }], guard := some (4, true) }) (v := ?_) rfl (by kernel_rfl) (by kernel_rfl) (by kernel_rfl) (fun _ _ _ h => h) (Or.inl ⟨by rfl, ?_⟩) (by assumption) ?_
        rotate_left
        · intro w hSw
          obtain ⟨hS1, hS2⟩ := hSw
          go_simp
          try with_reducible rfl
        simp only [Act.put, List.setIfInBounds_toArray, List.set_cons_zero, List.set_cons_succ]
        refine wpAnyH_take (i := 8) (oi := { dst := some 22, op := Op.indexAddr 29 (Operand.tmp 20) (Operand.tmp 21), type := 0, pos := "law.go:54", after := #[{ on := 6, ground := Ground.data }, { on := 7, ground := Ground.data }, { on := 4, ground := Ground.guard }], guard := some (4, true) }) (v := ?_) rfl (by kernel_rfl) (by kernel_rfl) (by kernel_rfl) (fun _ _ _ h => h) (Or.inl ⟨by rfl, ?_⟩) (by assumption) ?_
        rotate_left
        · intro w hSw
          obtain ⟨hS1, hS2⟩ := hSw
          go_simp
          try with_reducible rfl
        simp only [Act.put, List.setIfInBounds_toArray, List.set_cons_zero, List.set_cons_succ]
        refine wpAnyH_take (i := 9) (oi := { dst := some 23, op := Op.load 37 (Operand.tmp 22), type := 37, pos := "law.go:54", after := #[{ on := 8, ground := Ground.data }, { on := 4, ground := Ground.guard }], guard := some (4, true) }) (v := ?_) rfl (by kernel_rfl) (by kernel_rfl) (by kernel_rfl) (fun _ _ _ h => h) (Or.inl ⟨by rfl, ?_⟩) (by assumption) ?_
        rotate_left
        · intro w hSw
          obtain ⟨hS1, hS2⟩ := hSw
          go_simp
          try with_reducible rfl
        simp only [Act.put, List.setIfInBounds_toArray, List.set_cons_zero, List.set_cons_succ]
        refine wpAnyH_ready (rs := [10]) (by kernel_rfl) (by simp) (AllReadyH.cons (o := { dst := some 24, op := Op.call { callee := Callee.value (Operand.func 38), args := #[Operand.tmp 19, Operand.tmp 23], argTypes := #[37, 37] }, type := 4, pos := "law.go:54", after := #[{ on := 5, ground := Ground.data }, { on := 9, ground := Ground.data }, { on := 4, ground := Ground.chain }, { on := 4, ground := Ground.guard }], guard := some (4, true) }) rfl (fun K hK => ?_) AllReadyH.nil)
        go_simp
        go_at_call 38
        refine (Heq.out _).mono ?_
        rintro e w2 ⟨rfl, hb2⟩
        refine hK.out _ _ (keepS hb2 hHeld) (fun hHeld2 => ?_)
        clear hK K
        try simp only [Act.put, List.setIfInBounds_toArray, List.set_cons_zero, List.set_cons_succ]
        refine wpAnyH_take (i := 11) (oi := { dst := some 25, op := Op.unOp UnOp.not 4 (Operand.tmp 24), type := 4, pos := "law.go:54", after := #[{ on := 10, ground := Ground.data }, { on := 4, ground := Ground.guard }], guard := some (4, true) }) (v := ?_) rfl (by kernel_rfl) (by kernel_rfl) (by kernel_rfl) (fun _ _ _ h => h) (Or.inl ⟨by rfl, ?_⟩) (by assumption) ?_
        rotate_left
        · intro w hSw
          obtain ⟨hS1, hS2⟩ := hSw
          go_simp
          try with_reducible rfl
        simp only [Act.put, List.setIfInBounds_toArray, List.set_cons_zero, List.set_cons_succ]
        refine wpAnyH_take (i := 12) (oi := { dst := some 26, op := Op.pick (Operand.tmp 18) (Operand.tmp 25) (Operand.const (Value.bool false)), type := 4, pos := "law.go:54", after := #[{ on := 4, ground := Ground.data }, { on := 11, ground := Ground.data }], guard := none }) (v := ?_) rfl (by kernel_rfl) (by kernel_rfl) (by kernel_rfl) (fun _ _ _ h => h) (Or.inl ⟨by rfl, ?_⟩) (by assumption) ?_
        rotate_left
        · intro w hSw
          obtain ⟨hS1, hS2⟩ := hSw
          go_simp
          try with_reducible rfl
        simp only [Act.put, List.setIfInBounds_toArray, List.set_cons_zero, List.set_cons_succ]
        refine wpAnyH_take (i := 13) (oi := { dst := some 27, op := Op.move (Operand.tmp 26), type := 4, pos := "law.go:54", after := #[{ on := 12, ground := Ground.data }, { on := 10, ground := Ground.chain }], guard := none }) (v := ?_) rfl (by kernel_rfl) (by kernel_rfl) (by kernel_rfl) (fun _ _ _ h => h) (Or.inl ⟨by rfl, ?_⟩) (by assumption) ?_
        rotate_left
        · intro w hSw
          obtain ⟨hS1, hS2⟩ := hSw
          go_simp
          try with_reducible rfl
        simp only [Act.put, List.setIfInBounds_toArray, List.set_cons_zero, List.set_cons_succ]
        refine wpAnyH_take (i := 14) (oi := { dst := some 28, op := Op.move (Operand.tmp 5), type := 3, pos := "law.go:54", after := #[{ on := 13, ground := Ground.guard }], guard := some (13, false) }) (v := ?_) rfl (by kernel_rfl) (by kernel_rfl) (by kernel_rfl) (fun _ _ _ h => h) (Or.inl ⟨by rfl, ?_⟩) (by assumption) ?_
        rotate_left
        · intro w hSw
          obtain ⟨hS1, hS2⟩ := hSw
          go_simp
          try with_reducible rfl
        simp only [Act.put, List.setIfInBounds_toArray, List.set_cons_zero, List.set_cons_succ]
        refine wpAnyH_take (i := 15) (oi := { dst := some 29, op := Op.move (Operand.tmp 1), type := 29, pos := "law.go:54", after := #[{ on := 13, ground := Ground.guard }], guard := some (13, false) }) (v := ?_) rfl (by kernel_rfl) (by kernel_rfl) (by kernel_rfl) (fun _ _ _ h => h) (Or.inl ⟨by rfl, ?_⟩) (by assumption) ?_
        rotate_left
        · intro w hSw
          obtain ⟨hS1, hS2⟩ := hSw
          go_simp
          try with_reducible rfl
        simp only [Act.put, List.setIfInBounds_toArray, List.set_cons_zero, List.set_cons_succ]
        refine wpAnyH_take (i := 16) (oi := { dst := some 30, op := Op.call { callee := Callee.builtin Builtin.len, args := #[Operand.tmp 29], argTypes := #[29] }, type := 3, pos := "law.go:54", after := #[{ on := 15, ground := Ground.data }, { on := 13, ground := Ground.guard }], guard := some (13, false) }) (v := ?_) rfl (by kernel_rfl) (by kernel_rfl) (by kernel_rfl) (fun _ _ _ h => h) (Or.inl ⟨by rfl, ?_⟩) (by assumption) ?_
        rotate_left
        · intro w hSw
          obtain ⟨hS1, hS2⟩ := hSw
          go_simp
          try with_reducible rfl
        simp only [Act.put, List.setIfInBounds_toArray, List.set_cons_zero, List.set_cons_succ]
        refine wpAnyH_take (i := 17) (oi := { dst := some 31, op := Op.binOp BinOp.geq 3 (Operand.tmp 28) (Operand.tmp 30) 3, type := 4, pos := "law.go:54", after := #[{ on := 14, ground := Ground.data }, { on := 16, ground := Ground.data }, { on := 13, ground := Ground.guard }], guard := some (13, false) }) (v := ?_) rfl (by kernel_rfl) (by kernel_rfl) (by kernel_rfl) (fun _ _ _ h => h) (Or.inl ⟨by rfl, ?_⟩) (by assumption) ?_
        rotate_left
        · intro w hSw
          obtain ⟨hS1, hS2⟩ := hSw
          go_simp
          try with_reducible rfl
        simp only [Act.put, List.setIfInBounds_toArray, List.set_cons_zero, List.set_cons_succ]
        refine wpAnyH_take (i := 18) (oi := { dst := some 32, op := Op.move (Operand.tmp 31), type := 4, pos := "law.go:54", after := #[{ on := 17, ground := Ground.data }, { on := 13, ground := Ground.chain }, { on := 13, ground := Ground.guard }], guard := some (13, false) }) (v := ?_) rfl (by kernel_rfl) (by kernel_rfl) (by kernel_rfl) (fun _ _ _ h => h) (Or.inl ⟨by rfl, ?_⟩) (by assumption) ?_
        rotate_left
        · intro w hSw
          obtain ⟨hS1, hS2⟩ := hSw
          go_simp
          try with_reducible rfl
        simp only [Act.put, List.setIfInBounds_toArray, List.set_cons_zero, List.set_cons_succ]
        refine wpAnyH_take (i := 19) (oi := { dst := some 33, op := Op.fieldAddr 37 (Operand.tmp 6) 0, type := 0, pos := "law.go:54", after := #[{ on := 18, ground := Ground.guard }], guard := some (18, true) }) (v := undef) rfl (by kernel_rfl) (by kernel_rfl) (by kernel_rfl) (fun _ _ _ h => h) (Or.inr ⟨by rfl, rfl⟩) (by assumption) ?_
        simp only [Act.put, List.setIfInBounds_toArray, List.set_cons_zero, List.set_cons_succ]
        refine wpAnyH_take (i := 20) (oi := { dst := some 34, op := Op.load 3 (Operand.tmp 33), type := 3, pos := "law.go:54", after := #[{ on := 19, ground := Ground.data }, { on := 18, ground := Ground.guard }], guard := some (18, true) }) (v := undef) rfl (by kernel_rfl) (by kernel_rfl) (by kernel_rfl) (fun _ _ _ h => h) (Or.inr ⟨by rfl, rfl⟩) (by assumption) ?_
        simp only [Act.put, List.setIfInBounds_toArray, List.set_cons_zero, List.set_cons_succ]
        refine wpAnyH_take (i := 21) (oi := { dst := some 35, op := Op.binOp BinOp.neq 3 (Operand.tmp 34) (Operand.const (Value.int IntKind.i64 (-7))) 3, type := 4, pos := "law.go:54", after := #[{ on := 20, ground := Ground.data }, { on := 18, ground := Ground.guard }], guard := some (18, true) }) (v := undef) rfl (by kernel_rfl) (by kernel_rfl) (by kernel_rfl) (fun _ _ _ h => h) (Or.inr ⟨by rfl, rfl⟩) (by assumption) ?_
        simp only [Act.put, List.setIfInBounds_toArray, List.set_cons_zero, List.set_cons_succ]
        refine wpAnyH_take (i := 22) (oi := { dst := some 36, op := Op.pick (Operand.tmp 32) (Operand.tmp 35) (Operand.const (Value.bool false)), type := 4, pos := "law.go:54", after := #[{ on := 18, ground := Ground.data }, { on := 21, ground := Ground.data }, { on := 13, ground := Ground.guard }], guard := some (13, false) }) (v := ?_) rfl (by kernel_rfl) (by kernel_rfl) (by kernel_rfl) (fun _ _ _ h => h) (Or.inl ⟨by rfl, ?_⟩) (by assumption) ?_
        rotate_left
        · intro w hSw
          obtain ⟨hS1, hS2⟩ := hSw
          go_simp
          try with_reducible rfl
        simp only [Act.put, List.setIfInBounds_toArray, List.set_cons_zero, List.set_cons_succ]
        refine wpAnyH_take (i := 23) (oi := { dst := some 37, op := Op.pick (Operand.tmp 27) (Operand.const (Value.bool true)) (Operand.tmp 36), type := 4, pos := "law.go:54", after := #[{ on := 13, ground := Ground.data }, { on := 22, ground := Ground.data }], guard := none }) (v := ?_) rfl (by kernel_rfl) (by kernel_rfl) (by kernel_rfl) (fun _ _ _ h => h) (Or.inl ⟨by rfl, ?_⟩) (by assumption) ?_
        rotate_left
        · intro w hSw
          obtain ⟨hS1, hS2⟩ := hSw
          go_simp
          try with_reducible rfl
        simp only [Act.put, List.setIfInBounds_toArray, List.set_cons_zero, List.set_cons_succ]
        refine wpAnyH_done (by kernel_rfl) ?_ _
        have hS : Below wx.heap.size wx w2 := And.left (by assumption)
        go_wp2_with fail
        go_roundw
        case rel => exact ⟨k + 1, by omega, by go_num, hbl.trans ((hwb.mono hbs).trans (hS.mono (Nat.le_trans hbs (Nat.le_of_lt hws))))⟩
        case measure => simp [intOf]; omega
      · rw [room_ge (by omega) hlt] at hx
        obtain ⟨c0, c1, c2, c3, c4, c5⟩ := hx
        have hkl' : l.length ≤ k := by omega
        go_wp2_with fail
        generalize hwx : World.alloc wr _ = wx
        obtain ⟨hwb, hws, e0, e1, e2, e3, e4, e5⟩ := box_facts hwx
        clear hwx c0 c1 c2 c3 c4 c5
        have t1 : decide ((k : Int) < (l.length : Int)) = false := by simp; omega
        have t2 : decide (l.length ≤ k) = true := by simp; omega
        go_quiet (fail)
        go_wp2_with fail
        go_roundw
        case rel => exact ⟨k + 1, by omega, by go_num, belowD (hbl.trans (hwb.mono hbs)) _⟩
        case measure => simp [intOf]; omega
    · obtain rfl : k = l.length + 9 := by omega
      go_wp2_with fail
      go_ret
      exact ⟨rfl, hbl⟩
end Go.Proofs.Ytjlncnjmcgkkhaa

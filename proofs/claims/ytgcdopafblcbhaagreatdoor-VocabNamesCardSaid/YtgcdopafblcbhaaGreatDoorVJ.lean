import Derived.Test.YtgcdopafblcbhaaGreatDoorVI
/- A rune's bytes; its folded form. -/
namespace Go.Proofs.YtgcdopafblcbhaaGreatDoor
set_option linter.unusedVariables false
set_option linter.unusedSimpArgs false
open Go.RowKit Go.Lib Go.Shelf

def tailV (r : Int) : Int := bits BinOp.or IntKind.u8 (r % 64) 128
theorem tail_any (r : Int) (w : World) : Calls Tryz.prog 145 #[.int .i32 r] w fun e w' => e = .returned (.int .u8 (tailV r)) ∧ w = w' := by
  unfold tailV
  go_enter Tryz.func145, Tryz.ntmps145
  go_wp2_with fail
  go_ret
  exact ⟨rfl, rfl⟩
/-- the bytes of a rune of one or two -/
def bytesV (r : Nat) : ByteArray := if r < 128 then ⟨#[UInt8.ofNat r]⟩ else ⟨#[UInt8.ofNat (192 + r / 64), UInt8.ofNat (128 + r % 64)]⟩
def pcT (p : Pc) : Nat × Nat × Int × Bool := (p.at_, p.w, p.r, p.br)
theorem bytes_tup : ∀ k : Fin 1023, (pcs (bytesV (97 + k.val))).map pcT = [(0, (bytesV (97 + k.val)).size, ((97 + k.val : Nat) : Int), false)] := by decide +kernel
theorem bytes_one (k : Fin 1023) : pcs (bytesV (97 + k.val)) = [⟨0, (bytesV (97 + k.val)).size, ((97 + k.val : Nat) : Int), false⟩] := by
  have h := bytes_tup k
  match hp : pcs (bytesV (97 + k.val)), h with
  | [p], h =>
    obtain ⟨a, b, c, d⟩ := p
    simp only [List.map_cons, List.map_nil, pcT, List.cons.injEq, Prod.mk.injEq, and_true] at h
    obtain ⟨rfl, rfl, rfl, rfl⟩ := h
    rfl
  | [], h => cases h
  | _ :: _ :: _, h => simp at h
theorem tail_two : ∀ k : Fin 1200, tailV (k.val : Int) = (128 + k.val % 64 : Nat) := by decide +kernel
theorem one_str (w : World) (b : UInt8) (x : Int) (hx : (b.toNat : Int) = x) : Sem.run Tryz.prog (convert 52 9 (.slice (some ⟨w.heap.size, 0, none⟩) 1 1)) (w.alloc (.cells #[.int .u8 x] 5)) = .ok (.string ⟨#[b]⟩) (w.alloc (.cells #[.int .u8 x] 5)) := by
  subst hx
  refine run_convert_bytes_back _ _ _ _ ⟨w.heap.size, 0, none⟩ 1 [b] Tryz.underlying52 Tryz.underlying5 Tryz.underlying9 (fun j hj => ?_)
  obtain rfl : j = 0 := by simpa using hj
  exact cell_of_row _ _ 0 _ _ (0, 0) (World.alloc_heap_new w _)
theorem two_str (w : World) (a b : UInt8) (x y : Int) (hx : (a.toNat : Int) = x) (hy : (b.toNat : Int) = y) : Sem.run Tryz.prog (convert 52 9 (.slice (some ⟨w.heap.size, 0, none⟩) 2 2)) (w.alloc (.cells #[.int .u8 x, .int .u8 y] 5)) = .ok (.string ⟨#[a, b]⟩) (w.alloc (.cells #[.int .u8 x, .int .u8 y] 5)) := by
  subst hx hy
  refine run_convert_bytes_back _ _ _ _ ⟨w.heap.size, 0, none⟩ 2 [a, b] Tryz.underlying52 Tryz.underlying5 Tryz.underlying9 (fun j hj => ?_)
  match j, hj with
  | 0, _ => exact cell_of_row _ _ 0 _ _ (0, 0) (World.alloc_heap_new w _)
  | 1, _ => exact cell_of_row _ _ 1 _ _ (0, 0) (World.alloc_heap_new w _)
set_option maxRecDepth 100000 in
set_option maxHeartbeats 8000000 in
theorem encode_any (r : Nat) (h1 : 97 ≤ r) (h2 : r < 1120) (w : World) : Calls Tryz.prog 104 #[.int .i32 r] w fun e w' => e = .returned (.string (bytesV r)) ∧ Below w.heap.size w w' := by
  have hw := Lib.hid (width_any r (.inl (by omega)) w)
  have hs : (Utf8.encode (r : Int)).size = if r < 128 then 1 else 2 := by
    rw [enc_size (.inl (by omega))]
    split
    · rfl
    · rw [if_pos (by omega)]
  by_cases h : r < 128
  · rw [if_pos h] at hs
    rw [hs] at hw
    have d1 : decide ((r : Int) < 128) = true := decide_eq_true (by omega)
    have hb : bytesV r = ⟨#[UInt8.ofNat r]⟩ := by unfold bytesV; rw [if_pos h]
    rw [hb]
    have hc := one_str w (UInt8.ofNat r) (r : Int) (by simp; omega)
    clear hs hb
    go_enter Tryz.func104, Tryz.ntmps104
    go_wp2_with fail
    refine hw.out.mono ?_
    rintro e w2 ⟨rfl, rfl⟩
    go_wp2_with fail
    go_ret
    exact ⟨rfl, (Below.refl _ _).alloc (Nat.le_refl _) _⟩
  · rw [if_neg h] at hs
    rw [hs] at hw
    have d1 : decide ((r : Int) < 128) = false := decide_eq_false (by omega)
    have d2 : decide ((r : Int) < 2048) = true := decide_eq_true (by omega)
    obtain ⟨x, hx⟩ : ∃ x, UInt8.ofNat (192 + r / 64) = x := ⟨_, rfl⟩
    obtain ⟨y, hy⟩ : ∃ y, UInt8.ofNat (128 + r % 64) = y := ⟨_, rfl⟩
    have hb : bytesV r = ⟨#[x, y]⟩ := by unfold bytesV; rw [if_neg h, hx, hy]
    rw [hb]
    have ht := Lib.hid (tail_any (r : Int) w)
    have ht2 : tailV (r : Int) = ((128 + r % 64 : Nat) : Int) := tail_two ⟨r, by omega⟩
    rw [ht2] at ht
    have hc := two_str w x y (192 + (r : Int) / 64) (128 + (r : Int) % 64) (by rw [← hx]; simp; omega) (by rw [← hy]; simp; omega)
    clear hx hy
    clear hs hb ht2
    go_enter Tryz.func104, Tryz.ntmps104
    go_wp2_with fail
    refine hw.out.mono ?_
    rintro e w2 ⟨rfl, rfl⟩
    go_wp2_with fail
    refine ht.out.mono ?_
    rintro e w2 ⟨rfl, rfl⟩
    go_wp2_with fail
    go_ret
    exact ⟨rfl, (Below.refl _ _).alloc (Nat.le_refl _) _⟩
set_option maxRecDepth 100000 in
set_option maxHeartbeats 8000000 in
theorem foldrune_any (r : Nat) (h1 : 97 ≤ r) (h2 : r < 1120) (w : World) : Calls Tryz.prog 61 #[.int .i32 r] w fun e w' => (∃ t : ByteArray, e = .returned (.string t)) ∧ Below w.heap.size w w' := by
  have He := Lib.hid (encode_any r h1 h2 w)
  go_enter Tryz.func61, Tryz.ntmps61
  go_wp2_with fail
  refine He.out.mono ?_
  rintro e w2 ⟨rfl, hb2⟩
  have hbo := bytes_one ⟨r - 97, by omega⟩
  have e1 : 97 + (r - 97) = r := by omega
  simp only [e1] at hbo
  have hsz : (bytesV r).size < 1000 := by
    unfold bytesV
    split
    · show (1 : Nat) < 1000; omega
    · show (2 : Nat) < 1000; omega
  have Hf := Lib.hid (fold_one (bytesV r) r hsz hbo w2)
  have Hb2 := Lib.hid hb2
  clear hbo hsz hb2
  go_wp2_with fail
  refine Hf.out.mono ?_
  rintro e w3 ⟨⟨t, rfl⟩, hb3⟩
  have Hb3 := Lib.hid (Hb2.out.trans (hb3.mono Hb2.out.size))
  clear hb3
  go_wp2_with fail
  go_ret
  exact ⟨⟨_, rfl⟩, Hb3.out⟩
end Go.Proofs.YtgcdopafblcbhaaGreatDoor

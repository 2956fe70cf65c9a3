import Derived.Test.YtjlncnjmcgkkhaaE6
namespace Go.Proofs.Ytjlncnjmcgkkhaa
set_option linter.unusedVariables false
set_option linter.unusedSimpArgs false
open Go.RowKit
attribute [local go_sem] run_store_float run_fadd run_fsub run_fmul run_fquo

/- spoil. -/
theorem grown_trans {a b c : World} {row : Option Nat} (h : a.grownBy b row) (k : b.grownBy c row) : a.grownBy c row :=
  ⟨k.os.trans h.os, k.tape.trans h.tape, k.output.trans h.output, Nat.le_trans h.size k.size, fun j hj hne => (k.block j (Nat.lt_of_lt_of_le hj h.size) hne).trans (h.block j hj hne)⟩
theorem grown_set {a b : World} {row : Option Nat} (h : a.grownBy b row) {p : Addr} (hp : some p.block = row ∨ a.heap.size ≤ p.block) (u : Value) : a.grownBy (b.setCell p u) row :=
  ⟨h.os, h.tape, h.output, by simpa [World.setCell] using h.size, fun j hj hne => (Below.heap_setCell b p u j (fun e => by rcases hp with hp | hp; exact hne (by rw [e, hp]); omega)).trans (h.block j hj hne)⟩

def spoilNews : List Value := [.int .i64 (-9), .int .i64 0, .int .i64 0, .bool false, .float .f64 0, .float .f64 0, .int .i64 0, .int .i64 0, .int .i64 0, .bool false, .float .f64 0, .float .f64 0, .int .i64 0, .int .i64 0, .int .i64 0, .bool false, .float .f64 0, .float .f64 0]
theorem spoil_one : ∀ u ∈ spoilNews, u.oneCell' = true := by
  decide

set_option maxRecDepth 100000 in
set_option maxHeartbeats 4000000 in
theorem spoil_any (v : Value) (n base : Nat) (lo : List Note) (w : World) (hown : w.ownsRow base 37 6 v n (notesCells lo)) (hbase : base ≤ w.heap.size) (hn : n ≤ 2932031007399) :
    Calls Try.prog 30 #[v] w fun e w' => e = .returned (.tuple #[]) ∧ w.grownBy w' v.ownBlock := by
  obtain ⟨A, cap, rfl⟩ := own_slice hown
  generalize hxs : notesCells lo = xs at hown
  clear hxs
  have Hown := Lib.hid hown
  clear hown
  go_enter Try.func30, Try.ntmps30
  go_wp2_with fail
  go_loopw [5] (fun i wr => ∃ (k : Nat) (ys : List Value), k ≤ n ∧ i = .int .i64 k ∧ wr.ownsRow base 37 6 (.slice A n cap) n ys ∧ w.grownBy wr (Value.slice A n cap).ownBlock) (fun i _ => n - (intOf i).toNat)
  case atStart => exact ⟨0, xs, by omega, rfl, Hown.out, World.grownBy.refl w _⟩
  case round =>
    obtain ⟨k, ys, hk, rfl, hown, hgr⟩ := hrel
    have hsz := hgr.size
    by_cases hlt : k < n
    · obtain ⟨g, rfl, hg⟩ := own_some hown (by omega)
      have Hown1 := Lib.hid hown
      have Hgr := Lib.hid hgr
      clear hown hgr
      go_wp2_with (refine wpList_store_elem rfl 37 (.tmp 11) (.tmp 10) rfl 6 (by kernel_rfl) base g n cap _ (by exact Hown1.out) k (k * 6) hlt rfl _ rfl rfl rfl ?h1 ?_; rotate_right; intro w1 hown1 hgr1)
      case h1 => exact ⟨rfl, rfl, rfl, rfl⟩
      go_roundw
      case rel => exact ⟨k + 1, _, by omega, by go_num, hown1, grown_trans Hgr.out hgr1⟩
      case measure => simp [intOf]; omega
    · obtain rfl : k = n := by omega
      have Hown1 := Lib.hid hown
      have Hgr := Lib.hid hgr
      have hbr : base ≤ wr.heap.size := Nat.le_trans hbase hsz
      clear hown hgr
      have Hnew := Lib.hid (newCells wr spoilNews 37)
      go_wp2_with (at_builtin; refine wpList_append_own_at _ rfl _ _ 29 rfl base 37 _ _ 6 48 Try.underlying29 info37 zero37 size37 bytes37 rfl (by decide) (.slice A k cap) k ys rfl ?c0 ⟨wr.heap.size, 0, none⟩ 3 3 spoilNews rfl rfl ?c1 ?c2 ?c3 ?c4 ?c5 ?_; rotate_right; intro v1 w1 hown1 hgr1 _ hat)
      case c0 => exact Hown1.out.alloc _
      case c1 => exact Hnew.out _ rfl
      case c2 => exact spoil_one
      case c3 => unfold maxLen; omega
      case c4 => omega
      case c5 => simp; omega
      obtain ⟨A1, cap1, rfl⟩ := own_slice hown1
      obtain ⟨g1, rfl, hg1⟩ := own_some hown1 (by omega)
      have f4 := hown1.cellAt 4 (by omega)
      have z4 := hown1.frozenAt 4
      have hl : 4 < (ys ++ spoilNews).length := by simp [spoilNews]
      obtain ⟨u4, hu4⟩ : ∃ u, (ys ++ spoilNews)[4]? = some u := ⟨_, List.getElem?_eq_getElem hl⟩
      rw [hu4] at f4
      have hgrw := grown_trans Hgr.out (grown_of_alloc hgr1)
      have hat' : some g1 = (Value.slice A k cap).ownBlock ∨ w.heap.size ≤ g1 := by
        rcases hat with h | h
        · exact .inl h
        · have h' : g1 = (wr.alloc (.cells spoilNews.toArray 37)).heap.size := by injection h
          simp at h'
          exact .inr (by omega)
      have Hfin := Lib.hid (grown_set (p := ⟨g1, 4, none⟩) hgrw hat' (.float .f64 13844628204490326016))
      have hcap : ¬ ((k : Int) + 3 ≤ 0) := by omega
      clear hat hat' hgrw hgr1 hown1 hu4 hl
      go_wp2_with fail
      go_end0
      exact ⟨rfl, Hfin.out⟩
end Go.Proofs.Ytjlncnjmcgkkhaa

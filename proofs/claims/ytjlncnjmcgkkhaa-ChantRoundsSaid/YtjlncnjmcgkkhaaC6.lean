import Derived.Test.YtjlncnjmcgkkhaaC5
import Derived.Test.YtjlncnjmcgkkhaaC7
import Derived.Deep.LoopGhost
import Derived.IntWalk
namespace Go.Proofs.Ytjlncnjmcgkkhaa
set_option linter.unusedVariables false
set_option linter.unusedSimpArgs false
open Go.RowKit
attribute [local go_sem] run_store_float

/-- a row that holds, in order, the notes of these keys -/
def RM (vs : List (List Note)) (B : Nat) (keys : List (Nat × Nat)) (n : Nat) (v : Value) (wr : World) : Prop :=
  ∃ ks : List (Nat × Nat), ks.Perm keys ∧ Ord vs ks ∧ ks.length = n ∧ wr.ownsRow B 60 8 v n (cellsOf vs ks)

theorem RM.alloc {vs : List (List Note)} {B : Nat} {keys : List (Nat × Nat)} {n : Nat} {v : Value} {wr : World} (h : RM vs B keys n v wr) (o : Obj) : RM vs B keys n v (wr.alloc o) := by
  obtain ⟨ks, h1, h2, h3, h4⟩ := h
  exact ⟨ks, h1, h2, h3, h4.alloc o⟩

theorem quiet_add_left {P : Program} {f : FuncId} {args : Array Value} {w : World} {a n : Nat} {v : Value}
    (h : Calls P f args (w.drewN (a + n)) fun e w' => e = .returned v ∧ w.drewN (a + n) = w') :
    Calls P f args (w.drewN (a + n)) fun e w'' => e = .returned v ∧ ∃ m, w'' = w.drewN (a + m) :=
  h.mono fun _ _ ⟨he, hm⟩ => ⟨he, n, hm.symm⟩

def worldX (wr : World) (k j : Nat) (nt : Note) (m : Nat) : World :=
  ((wr.alloc (.cells #[.int .i64 nt.line, .int .i64 nt.beat, .int .i64 nt.word, .bool nt.strong, .float .f64 nt.at_, .float .f64 nt.long] 37)).alloc
    (.cells #[.int .i64 k, .int .i64 j, .int .i64 nt.line, .int .i64 nt.beat, .int .i64 nt.word, .bool nt.strong, .float .f64 nt.at_, .float .f64 nt.long] 60)).drewN m

theorem own_cap {w : World} {base : Nat} {e : TypeId} {size g n cap : Nat} {xs : List Value} (h : w.ownsRow base e size (.slice (some ⟨g, 0, none⟩) n cap) n xs) : n ≤ cap ∧ cap ≤ maxLen := by
  rcases h.2 with ⟨h1, _⟩ | ⟨g', cap', cur, hv, hB, hg, hn, hm, _⟩
  · cases h1
  · injection hv with e1 e2 e3
    subst e3; exact ⟨hn, hm⟩

def zero8 : List Value := [.int .i64 0, .int .i64 0, .int .i64 0, .int .i64 0, .int .i64 0, .bool false, .float .f64 0, .float .f64 0]
theorem cells_one (vs : List (List Note)) (ks : List (Nat × Nat)) : ∀ v ∈ cellsOf vs ks ++ zero8, v.oneCell' = true := by
  intro v hv
  rw [List.mem_append] at hv
  rcases hv with hv | hv
  · unfold cellsOf at hv
    obtain ⟨p, _, hp⟩ := List.mem_flatMap.1 hv
    exact sungOf_one vs p v hp
  · simp [zero8] at hv
    rcases hv with rfl | rfl | rfl <;> rfl

theorem ownAbove {w : World} {base : Nat} {e : TypeId} {size n : Nat} {v : Value} {xs : List Value} (h : w.ownsRow base e size v n xs) : ∀ b, v.ownBlock = some b → base ≤ b := fun b hb => (own_block h b hb).1
/-- the box of the new note lies neither in the old row nor in the new one -/
theorem boxApart {wr wx : World} {base n g len cap : Nat} {v : Value} {xs : List Value} (h : wr.ownsRow base 60 8 v n xs) (hsz : wr.heap.size + 1 < wx.heap.size)
    (hw : (Value.slice (some ⟨g, 0, none⟩) len cap).ownBlock = v.ownBlock ∨ ∃ b, (Value.slice (some ⟨g, 0, none⟩) len cap).ownBlock = some b ∧ wx.heap.size ≤ b) : some (wr.heap.size + 1) ≠ v.ownBlock ∧ wr.heap.size + 1 ≠ g := by
  have h1 : some (wr.heap.size + 1) ≠ v.ownBlock := fun e => by have := (own_block h _ e.symm).2; omega
  refine ⟨h1, fun e => ?_⟩
  rcases hw with hw | ⟨b, hb, hle⟩
  · rw [← hw] at h1; exact h1 (by rw [e]; rfl)
  · have : g = b := by simpa [Value.ownBlock] using hb
    omega
theorem grownCell {w w' : World} {row : Option Nat} (h : w.grownBy w' row) {b o : Nat} (hb : b < w.heap.size) (hne : some b ≠ row) : w'.cell? ⟨b, o, none⟩ = w.cell? ⟨b, o, none⟩ :=
  World.cell?_of_block (h.block b hb hne)

theorem grown_drewN {w w' : World} {n : Nat} {row : Option Nat} (h : (w.drewN n).grownBy w' row) : w.grownBy w' row := ⟨h.os, h.tape, h.output, h.size, h.block⟩

theorem keysIn_lt (vs : List (List Note)) (k j : Nat) : ∀ q ∈ keysIn vs k j, q.1 < k ∨ q.1 = k ∧ q.2 < j := by
  intro q hq
  simp only [keysIn, keysTo, List.mem_append, List.mem_flatMap, List.mem_map, List.mem_range] at hq
  rcases hq with ⟨v, hv, i, _, rfl⟩ | ⟨i, hi, rfl⟩
  · left; exact hv
  · right; exact ⟨rfl, hi⟩

theorem exitFacts {wr wx w : World} {k j : Nat} {nt : Note} {m n : Nat} {v : Value} {xs : List Value} (h : worldX wr k j nt m = wx) (hbl : Below w.heap.size w wr) (ho : wr.ownsRow w.heap.size 60 8 v n xs) :
    wx.ownsRow w.heap.size 60 8 v n xs ∧ Below w.heap.size w wx ∧ wr.heap.size + 1 < wx.heap.size ∧
    wx.cell? ⟨wr.heap.size + 1, 0, none⟩ = some (.int .i64 k) ∧ wx.cell? ⟨wr.heap.size + 1, 1, none⟩ = some (.int .i64 j) ∧ wx.cell? ⟨wr.heap.size + 1, 2, none⟩ = some (.int .i64 nt.line) ∧ wx.cell? ⟨wr.heap.size + 1, 3, none⟩ = some (.int .i64 nt.beat) ∧
    wx.cell? ⟨wr.heap.size + 1, 4, none⟩ = some (.int .i64 nt.word) ∧ wx.cell? ⟨wr.heap.size + 1, 5, none⟩ = some (.bool nt.strong) ∧ wx.cell? ⟨wr.heap.size + 1, 6, none⟩ = some (.float .f64 nt.at_) ∧ wx.cell? ⟨wr.heap.size + 1, 7, none⟩ = some (.float .f64 nt.long) := by
  subst h
  unfold worldX
  generalize hP : (Obj.cells #[.int .i64 nt.line, .int .i64 nt.beat, .int .i64 nt.word, .bool nt.strong, .float .f64 nt.at_, .float .f64 nt.long] 37) = P
  have hsz : (wr.alloc P).heap.size = wr.heap.size + 1 := by simp
  have hh : ((wr.alloc P).alloc (.cells #[.int .i64 k, .int .i64 j, .int .i64 nt.line, .int .i64 nt.beat, .int .i64 nt.word, .bool nt.strong, .float .f64 nt.at_, .float .f64 nt.long] 60)).heap[wr.heap.size + 1]? = some (.cells #[.int .i64 k, .int .i64 j, .int .i64 nt.line, .int .i64 nt.beat, .int .i64 nt.word, .bool nt.strong, .float .f64 nt.at_, .float .f64 nt.long] 60 (0, 0)) := by
    rw [← hsz]; exact heap_alloc_new _ _
  have hb2 := (hbl.alloc hbl.size P).alloc (by rw [hsz]; have := hbl.size; omega) (.cells #[.int .i64 k, .int .i64 j, .int .i64 nt.line, .int .i64 nt.beat, .int .i64 nt.word, .bool nt.strong, .float .f64 nt.at_, .float .f64 nt.long] 60)
  refine ⟨(ho.alloc _).alloc _, ⟨hb2.os, hb2.tape, hb2.output, hb2.size, hb2.block⟩, ?_, ?_⟩
  · show _ < ((wr.alloc P).alloc _).heap.size
    rw [World.size_alloc, hsz]; omega
  · exact ⟨cell_of_row _ _ 0 _ _ _ hh, cell_of_row _ _ 1 _ _ _ hh, cell_of_row _ _ 2 _ _ _ hh, cell_of_row _ _ 3 _ _ _ hh, cell_of_row _ _ 4 _ _ _ hh, cell_of_row _ _ 5 _ _ _ hh, cell_of_row _ _ 6 _ _ _ hh, cell_of_row _ _ 7 _ _ _ hh⟩

set_option maxRecDepth 100000 in
set_option maxHeartbeats 4000000 in
theorem refmerge_any (A : Option Addr) (c : Nat) (vs : List (List Note)) (w : World) (hv : IsVoices w w.heap.size A vs) (hl1 : vs.length ≤ 65536) (hl2 : total vs ≤ 65536) :
    Calls Try.prog 21 #[.slice A vs.length c] w fun e w' => ∃ v, e = .returned v ∧ w'.ownsRow w.heap.size 60 8 v (total vs) (cellsOf vs (sortP vs (keysTo vs vs.length))) ∧ Below w.heap.size w w' := by
  have ht' : ∀ k, total (vs.take k) ≤ 65536 := fun k => Nat.le_trans (total_take_le vs k) hl2
  go_enter Try.func21, Try.ntmps21
  go_wp2_with fail
  go_loopw [3, 12] (fun v i wr => ∃ k : Nat, k ≤ vs.length ∧ i = .int .i64 k ∧ RM vs w.heap.size (keysTo vs k) (total (vs.take k)) v wr ∧ Below w.heap.size w wr) (fun _ i _ => vs.length - (intOf i).toNat)
  case atStart => exact ⟨0, by omega, rfl, ⟨[], List.Perm.refl _, List.Pairwise.nil, rfl, ⟨rfl, .inl ⟨rfl, rfl⟩⟩⟩, Below.refl _ _⟩
  case round =>
    rename_i wr
    obtain ⟨k, hk, rfl, hrm, hbl⟩ := hrel
    have Hrm := Lib.hid hrm
    clear hrm
    by_cases hlt : k < vs.length
    · obtain ⟨b, off, rfl, hb, hn⟩ := hv (by omega)
      obtain ⟨A', c', hc, _, hi⟩ := hn k hlt
      have hc1 := (hbl.cell (p := ⟨b, off + k, none⟩) hb).trans hc
      have h1 := ht' k
      have h2 := ht' (k + 1)
      have h3 := total_take vs k hlt
      have h5 : total (vs.take k) + (vs.getD k []).length ≤ 65536 := by omega
      have HK := Lib.hid (keysIn_zero vs k)
      have HS := Lib.hid (keysTo_succ vs k)
      have H3 := Lib.hid h3
      clear h3 hn hc
      generalize hlk : vs.getD k [] = lk at *
      have Hlk := Lib.hid hlk
      clear hlk
      generalize hto : total (vs.take k) = T at *
      have Hto := Lib.hid hto
      clear hto
      go_wp2_with fail
      go_loopw [3, 19] (fun v i wx => ∃ j : Nat, j ≤ lk.length ∧ i = .int .i64 j ∧ RM vs w.heap.size (keysIn vs k j) (T + j) v wx ∧ Below w.heap.size w wx) (fun _ i _ => lk.length - (intOf i).toNat)
      case atStart => exact ⟨0, by omega, rfl, by rw [HK.out]; exact Hrm.out, hbl⟩
      case round =>
        clear Hrm hbl hc1 hb
        rename_i wr
        obtain ⟨j, hj, rfl, hrm, hbl⟩ := hrel
        by_cases hjl : j < lk.length
        · obtain ⟨b', off', rfl, hb', hnt⟩ := hi (by omega)
          obtain ⟨c0, c1, c2, c3, c4, c5⟩ := (hnt j hjl).keep hb' (keepOf hbl)
          have HKS := Lib.hid (keysIn_succ vs k j)
          have hlook : look vs (k, j) = lk.getD j default := by unfold look; simp only [Hlk.out]
          have HLook := Lib.hid hlook
          clear hlook hnt
          generalize lk.getD j default = nt at *
          have hTj : T + j + 1 ≤ 65536 := by omega
          obtain ⟨ks, hperm, hord, hlen, hown⟩ := hrm
          obtain ⟨A3, c3', rfl, hsu⟩ := sung_of_own hown hlen
          have Hperm := Lib.hid hperm
          have Hord := Lib.hid hord
          have Hlen := Lib.hid hlen
          have Hown := Lib.hid hown
          have hbs := hbl.size
          have hlen' : ks.length ≤ 65536 := by omega
          clear hperm hord hlen hown
          go_wp2_with fail
          go_loopw [9] (fun i wx => ∃ kk m : Nat, kk ≤ ks.length ∧ i = .int .i64 kk ∧ (∀ q, kk ≤ q → q < ks.length → aheadP vs (k, j) (ks.getD q (0, 0))) ∧ worldX wr k j nt m = wx) (fun i _ => (intOf i).toNat)
          case atStart => exact ⟨ks.length, 0, Nat.le_refl _, rfl, fun q h1 h2 => by omega, rfl⟩
          case round =>
            obtain ⟨kk, m, hkk, rfl, hah, rfl⟩ := hrel
            have Hah := Lib.hid hah
            clear hah
            by_cases hgo : 0 < kk ∧ Fl.mom nt.at_ (look vs (ks.getD (kk - 1) (0, 0))).at_ < 0
            · obtain ⟨hk0, hm⟩ := hgo
              obtain ⟨b3, off3, rfl, hb3, hsk⟩ := hsu (by omega)
              obtain ⟨d0, d1, d2, d3, d4, d5, d6, d7⟩ := hsk (kk - 1) (by omega)
              clear hsk
              have haw := fun W => ahead_any nt.at_ (look vs (ks.getD (kk - 1) (0, 0))).at_ W
              rw [decide_eq_true hm] at haw
              have Haw := Lib.hid haw
              have hahp : aheadP vs (k, j) (ks.getD (kk - 1) (0, 0)) := by unfold aheadP; rw [HLook.out]; exact hm
              have Hahp := Lib.hid hahp
              clear haw hm hahp
              generalize (look vs (ks.getD (kk - 1) (0, 0))) = x at *
              have hkp : (0 : Int) < (kk : Int) := by omega
              unfold worldX
              go_wp2_with fail
              go_quiet ((go_at_call 46; exact quiet_add_left (Haw.out _)))
              go_wp2_with fail
              go_roundw
              case rel => exact ⟨kk - 1, _, by omega, (by congr 1; omega), fun q h1 h2 => by
                by_cases e : q = kk - 1
                · rw [e]; exact Hahp.out
                · exact Hah.out q (by omega) h2, rfl⟩
              case measure => simp [intOf]; omega
            · have hstop : 0 < kk → ¬ aheadP vs (k, j) (ks.getD (kk - 1) (0, 0)) := fun h0 ha => hgo ⟨h0, by unfold aheadP at ha; rw [HLook.out] at ha; exact ha⟩
              have Hstop := Lib.hid hstop
              clear hstop
              by_cases hk0 : 0 < kk
              case' pos =>
                obtain ⟨b3, off3, rfl, hb3, hsk⟩ := hsu (by omega)
                obtain ⟨d0, d1, d2, d3, d4, d5, d6, d7⟩ := hsk (kk - 1) (by omega)
                clear hsk
                have haw := fun W => ahead_any nt.at_ (look vs (ks.getD (kk - 1) (0, 0))).at_ W
                have hm : ¬ Fl.mom nt.at_ (look vs (ks.getD (kk - 1) (0, 0))).at_ < 0 := fun h => hgo ⟨hk0, h⟩
                rw [decide_eq_false hm] at haw
                have Haw := Lib.hid haw
                clear haw hm hgo
                generalize (look vs (ks.getD (kk - 1) (0, 0))) = x at *
                have hkp : (0 : Int) < (kk : Int) := by omega
                unfold worldX
                go_wp2_with fail
                go_quiet ((go_at_call 46; exact quiet_add_left (Haw.out _)))
                clear Haw d0 d1 d2 d3 d4 d5 d6 d7 hkp
              case' neg =>
                clear hgo
                have hkn : decide ((0 : Int) < (kk : Int)) = false := by simp; omega
                unfold worldX
                go_wp2_with fail
                go_quiet (fail)
                clear hkn
              all_goals
                generalize hwx : World.drewN (World.alloc (World.alloc wr _) _) _ = wx
                have Hwx := Lib.hid hwx
                clear hwx
                have X := exitFacts Hwx.out hbl Hown.out
                obtain ⟨hownx, hblx, hszx, e0, e1, e2, e3, e4, e5, e6, e7⟩ := X
                have Hownx := Lib.hid hownx
                clear hownx
                go_wp2_with (at_builtin; refine wpList_append_boxg _ rfl _ _ 31 rfl w.heap.size 60 _ _ 8 64 Try.underlying31 info60 zero60 size60 bytes60 rfl (by decide) (Value.slice _ ks.length c3') (T + j) (cellsOf vs ks) _ wx.heap.size rfl rfl ?c0 (by exact Hownx.out) rfl ?c1 ?c2 ?c3 ?c4 ?_; rotate_right; intro v1 w1 hown1 hgr1 hwh1; clear Hownx)
                case c0 => rfl
                case c1 => exact ⟨rfl, rfl, rfl⟩
                case c2 => unfold maxLen; omega
                case c3 => omega
                case c4 => exact hblx.size
                obtain ⟨g, cap, rfl, hBg, hg1⟩ := own_form hown1 (by omega)
                replace hgr1 := grown_drewN hgr1
                have hcap1 := own_cap hown1
                have hTj2 : ks.length = T + j := Hlen.out
                have hkk2 : kk ≤ T + j := by omega
                have hne := boxApart Hown.out hszx hwh1
                have Hne := Lib.hid hne
                have hb1 : Below w.heap.size wx w1 := (Below.refl _ _).grown hgr1 hblx.size (ownAbove Hown.out)
                have Hb1 := Lib.hid (hblx.trans hb1)
                have f0 := (grownCell hgr1 hszx Hne.out.1).trans e0
                have f1 := (grownCell hgr1 hszx Hne.out.1).trans e1
                have f2 := (grownCell hgr1 hszx Hne.out.1).trans e2
                have f3 := (grownCell hgr1 hszx Hne.out.1).trans e3
                have f4 := (grownCell hgr1 hszx Hne.out.1).trans e4
                have f5 := (grownCell hgr1 hszx Hne.out.1).trans e5
                have f6 := (grownCell hgr1 hszx Hne.out.1).trans e6
                have f7 := (grownCell hgr1 hszx Hne.out.1).trans e7
                have hsz1 : wr.heap.size + 1 < w1.heap.size := Nat.lt_of_lt_of_le hszx hgr1.size
                have hsz1' : wx.heap.size ≤ w1.heap.size := hgr1.size
                have Hown1 := Lib.hid hown1
                clear hown1 hgr1 hwh1 hb1 hne e0 e1 e2 e3 e4 e5 e6 e7 hTj2
                have s1 : IntKind.i64.wrap ((kk : Int) + 1) = (kk : Int) + 1 := IntWalk.i64_in _ (by omega)
                have s2 : (0 : Int) ≤ (kk : Int) + 1 := by omega
                have s3 : (kk : Int) + 1 ≤ (T : Int) + (j : Int) + 1 := by omega
                have s4 : ((kk : Int) + 1).toNat = kk + 1 := by omega
                have H1 := Lib.hid (cells_one vs ks)
                have s5 : ¬ cap = kk := by omega
                have s6 : (kk : Int) ≤ (T : Int) + (j : Int) + 1 := by omega
                have S := Lib.hid (And.intro s1 (And.intro s2 (And.intro s3 (And.intro s4 (And.intro s5 s6)))))
                clear s1 s2 s3 s4 s5 s6
                by_cases hcap : cap = kk + 1
                case' pos =>
                  subst hcap
                  go_wp2_with fail
                  obtain ⟨s1, s2, s3, s4, s5, s6⟩ := S.out
                  go_region_law ((refine step_copy_up rfl (.tmp 53) (.tmp 56) 31 31 rfl 60 Try.underlying31 8 (by kernel_rfl) (by decide) w.heap.size g (kk + 1) (T + j + 1) (cellsOf vs ks ++ zero8) (by exact Hown1.out) H1.out kk (by omega) (some ⟨g, 0, none⟩) 0 1 0 (T + j + 1 - kk) (by simp [Act.eval, Act.put]) (by omega) (fun h => by omega) (by simp [Act.eval, Act.put]) rfl ?_; intro w2 hown2 hgr2))
                case' neg =>
                  have hcap2 : kk + 1 < cap := by omega
                  go_wp2_with fail
                  obtain ⟨s1, s2, s3, s4, s5, s6⟩ := S.out
                  go_region_law ((refine step_copy_up rfl (.tmp 53) (.tmp 56) 31 31 rfl 60 Try.underlying31 8 (by kernel_rfl) (by decide) w.heap.size g cap (T + j + 1) (cellsOf vs ks ++ zero8) (by exact Hown1.out) H1.out kk (by omega) (some ⟨g, (kk + 1) * 8, none⟩) (cap - (kk + 1)) (cap - kk) (T + j - kk) (T + j + 1 - kk) (by simp [Act.eval, Act.put]) (by omega) (fun _ => rfl) (by simp [Act.eval, Act.put]) rfl ?_; intro w2 hown2 hgr2))
                all_goals
                  clear s1 s2 s3 s4 s5 s6
                  replace hgr2 := grown_drewN (n := 1) hgr2
                  have hne2 : some (wr.heap.size + 1) ≠ some g := fun e => Hne.out.2 (Option.some.inj e)
                  replace f0 := (grownCell hgr2 hsz1 hne2).trans f0
                  replace f1 := (grownCell hgr2 hsz1 hne2).trans f1
                  replace f2 := (grownCell hgr2 hsz1 hne2).trans f2
                  replace f3 := (grownCell hgr2 hsz1 hne2).trans f3
                  replace f4 := (grownCell hgr2 hsz1 hne2).trans f4
                  replace f5 := (grownCell hgr2 hsz1 hne2).trans f5
                  replace f6 := (grownCell hgr2 hsz1 hne2).trans f6
                  replace f7 := (grownCell hgr2 hsz1 hne2).trans f7
                  have hb2 : Below w.heap.size w1 w2 := (Below.refl _ _).grown hgr2 (Nat.le_trans hblx.size hsz1') (fun b hb => by injection hb with hb; omega)
                  have Hb2 := Lib.hid (Hb1.out.trans hb2)
                  have Hown2 := Lib.hid hown2
                  have hsz2 : w.heap.size ≤ w2.heap.size := Hb2.out.size
                  clear hown2 hgr2 hne2 hb2
                  go_wp2_with (refine wpList_store_elem rfl 60 (.tmp 61) (.tmp 60) rfl 8 (by kernel_rfl) w.heap.size g (T + j + 1) _ _ (by exact Hown2.out) kk (kk * 8) (by omega) rfl _ rfl rfl rfl ?h1 ?_; rotate_right; intro w3 hown3 hgr3)
                  case h1 => exact ⟨rfl, rfl, rfl, rfl, rfl, rfl, rfl, rfl⟩
                  go_roundw
                  case rel =>
                    refine ⟨j + 1, by omega, by go_num, ⟨ins ks kk (k, j), ?_, ins_ord vs Hord.out (by omega) ?_ Hah.out Hstop.out, ?_, ?_⟩, ?_⟩
                    · rw [HKS.out]; exact (ins_perm ks kk (k, j)).trans (Hperm.out.append_right _)
                    · exact fun q hq => keysIn_lt vs k j q (Hperm.out.mem_iff.1 hq)
                    · rw [ins_length, Hlen.out, Nat.add_assoc]
                    · have hins := ins_cells vs ks kk (k, j) (by omega) zero8 rfl
                      rw [Hlen.out] at hins
                      rw [← hins, sungOf, HLook.out]
                      exact hown3
                    · exact Hb2.out.trans ((Below.refl _ _).grown hgr3 hsz2 (fun b hb => by injection hb with hb; omega))
                  case measure => simp [intOf]; omega
        · obtain rfl : j = lk.length := by omega
          have Hrm := Lib.hid hrm
          clear hrm
          go_wp2_with fail
          go_roundw
          case rel => exact ⟨k + 1, by omega, by go_num, by rw [HS.out, H3.out]; exact Hrm.out, hbl⟩
          case measure => simp [intOf]; omega
    · obtain rfl : k = vs.length := by omega
      go_wp2_with fail
      go_ret
      obtain ⟨ks, hperm, hord, hlen, hown⟩ := Hrm.out
      have e : ks = sortP vs (keysTo vs vs.length) := sorted_unique vs hperm hord
      rw [e, List.take_length] at hown
      exact ⟨_, rfl, hown, hbl⟩
end Go.Proofs.Ytjlncnjmcgkkhaa

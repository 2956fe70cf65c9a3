import Derived.Test.YtjlncnjmcgkkhaaC1
namespace Go.Proofs.Ytjlncnjmcgkkhaa
set_option linter.unusedVariables false
set_option linter.unusedSimpArgs false
open Go.RowKit
attribute [local go_sem] run_store_float ext51 ext69

/- Same, Equal, notes. -/
def sameB (a b : Nat) : Bool := a == b || (Fl.nanB a && Fl.nanB b)
def eqN (n m : Note) : Bool := n.line == m.line && n.beat == m.beat && n.word == m.word && n.strong == m.strong && sameB n.at_ m.at_ && sameB n.long m.long

theorem nan_order (a : Nat) : (FloatKind.f64.format.order a a != some .eq) = Fl.nanB a := Fl.nanB_order a

set_option maxRecDepth 100000 in
theorem same_any (a b : Nat) (w : World) : Calls Try.prog 32 #[.float .f64 a, .float .f64 b] w fun e w' => e = .returned (.bool (sameB a b)) ∧ w = w' := by
  have ha := nan_order a
  have hb := nan_order b
  cases hab : (a == b)
  · have h1 : ((a : Int) == (b : Int)) = false := by simp at hab; simp; omega
    cases hna : Fl.nanB a
    · have e : sameB a b = false := by simp [sameB, hab, hna]
      rw [e]; rw [hna] at ha; clear e hab hna hb
      go_enter Try.func32, Try.ntmps32
      go_wp2
      go_ret; exact ⟨rfl, rfl⟩
    · cases hnb : Fl.nanB b
      · have e : sameB a b = false := by simp [sameB, hab, hna, hnb]
        rw [e]; rw [hna] at ha; rw [hnb] at hb; clear e hab hna hnb
        go_enter Try.func32, Try.ntmps32
        go_wp2
        go_ret; exact ⟨rfl, rfl⟩
      · have e : sameB a b = true := by simp [sameB, hab, hna, hnb]
        rw [e]; rw [hna] at ha; rw [hnb] at hb; clear e hab hna hnb
        go_enter Try.func32, Try.ntmps32
        go_wp2
        go_ret; exact ⟨rfl, rfl⟩
  · have h1 : ((a : Int) == (b : Int)) = true := by simp at hab; simp; omega
    have e : sameB a b = true := by simp [sameB, hab]
    rw [e]; clear e hab ha hb
    go_enter Try.func32, Try.ntmps32
    go_wp2
    go_ret; exact ⟨rfl, rfl⟩

set_option maxRecDepth 100000 in
set_option maxHeartbeats 2000000 in
theorem equal_any (n m : Note) (w : World) : Calls Try.prog 38 #[.agg n.cells.toArray, .agg m.cells.toArray] w fun e w' => e = .returned (.bool (eqN n m)) ∧ Below w.heap.size w w' := by
  have hgr : ∀ o1 o2, Below w.heap.size w ((w.alloc o1).alloc o2) := fun o1 o2 => ((Below.refl _ _).alloc (Nat.le_refl _) _).alloc (by simp) _
  have Hgr := Lib.hid hgr
  clear hgr
  have hs1 := fun W => same_any n.at_ m.at_ W
  have hs2 := fun W => same_any n.long m.long W
  unfold Note.cells
  have e : eqN n m = (n.line == m.line && n.beat == m.beat && n.word == m.word && n.strong == m.strong && sameB n.at_ m.at_ && sameB n.long m.long) := rfl
  rw [e]; clear e
  generalize sameB n.at_ m.at_ = s1 at *
  generalize sameB n.long m.long = s2 at *
  have Hs1 := Lib.hid hs1
  have Hs2 := Lib.hid hs2
  clear hs1 hs2
  by_cases h1 : n.line = m.line
  · have h1' : (n.line == m.line) = true := by simpa using h1
    by_cases h2 : n.beat = m.beat
    · have h2' : (n.beat == m.beat) = true := by simpa using h2
      by_cases h3 : n.word = m.word
      · have h3' : (n.word == m.word) = true := by simpa using h3
        by_cases h4 : n.strong = m.strong
        · have h4' : (n.strong == m.strong) = true := by simpa using h4
          clear h1 h2 h3 h4
          cases s1
          · go_enter Try.func38, Try.ntmps38
            go_wp2_with fail
            refine (Hs1.out _).mono ?_
            rintro e w' ⟨rfl, rfl⟩
            go_wp2_with fail
            go_ret; exact ⟨ret_bool (by simp [*]), Hgr.out _ _⟩
          · go_enter Try.func38, Try.ntmps38
            go_wp2_with fail
            refine (Hs1.out _).mono ?_
            rintro e w' ⟨rfl, rfl⟩
            go_wp2_with fail
            refine (Hs2.out _).mono ?_
            rintro e w' ⟨rfl, rfl⟩
            go_wp2_with fail
            go_ret; exact ⟨ret_bool (by simp [*]), Hgr.out _ _⟩
        · have h4' : (n.strong == m.strong) = false := by simpa using h4
          clear h1 h2 h3 h4
          go_enter Try.func38, Try.ntmps38
          go_wp2_with fail
          go_ret; exact ⟨ret_bool (by simp [*]), Hgr.out _ _⟩
      · have h3' : (n.word == m.word) = false := by simpa using h3
        clear h1 h2 h3
        go_enter Try.func38, Try.ntmps38
        go_wp2_with fail
        go_ret; exact ⟨ret_bool (by simp [*]), Hgr.out _ _⟩
    · have h2' : (n.beat == m.beat) = false := by simpa using h2
      clear h1 h2
      go_enter Try.func38, Try.ntmps38
      go_wp2_with fail
      go_ret; exact ⟨ret_bool (by simp [*]), Hgr.out _ _⟩
  · have h1' : (n.line == m.line) = false := by simpa using h1
    clear h1
    go_enter Try.func38, Try.ntmps38
    go_wp2_with fail
    go_ret; exact ⟨ret_bool (by simp [*]), Hgr.out _ _⟩
end Go.Proofs.Ytjlncnjmcgkkhaa

import Derived.Test.YtkfkkoefpfmjkaaDoorMB
import Derived.Test.YtkfkkoefpfmjkaaDoorNA
namespace Go.Proofs.YtkfkkoefpfmjkaaDoor
set_option linter.unusedVariables false
set_option linter.unusedSimpArgs false
open Go.RowKit

/- cutter.foot. -/
/-- does a word that can't be a foot's name begin so? -/
def badC (c : UInt8) : Bool := decide ((0 : Int) ≤ Lib.indexByte [44, 59, 120, 47] c)
def badHead (t : ByteArray) : Bool := match t.data.toList with | [] => false | c :: _ => badC c
/-- the foot of a word: its signs, or what is wrong -/
def footB (t : ByteArray) : ByteArray × Int :=
  if signsB t 1 4 then (t, 0) else if t.size = 0 ∨ figB t = true ∨ badHead t = true then (⟨#[]⟩, 130) else
    match byName t.data.toList with | some f => (⟨f.2.1.toArray⟩, 0) | none => (⟨#[]⟩, 131)
def FootOk (t : ByteArray) (w : World) (e : Ending) (w' : World) : Prop := e = .returned (.tuple #[.string (footB t).1, .int .i64 (footB t).2]) ∧ Below w.heap.size w w'

theorem index_bad (c : UInt8) (w : World) : Calls Tryd.prog 89 #[.string ⟨#[44, 59, 120, 47]⟩, .int .u8 c.toNat] w fun e w' => e = .returned (.int .i64 (Lib.indexByte [44, 59, 120, 47] c)) ∧ w = w' := by
  refine (Tryd.strings_IndexByte ⟨#[44, 59, 120, 47]⟩ c.toNat w).mono ?_
  rintro e w' ⟨rfl, rfl⟩
  refine ⟨?_, rfl⟩
  have e : ((c.toNat : Int).toNat.toUInt8) = c := by simp
  rw [e]

theorem foot_signs {t : ByteArray} {w w' : World} (h : signsB t 1 4 = true) (hb : Below w.heap.size w w') : FootOk t w (.returned (.tuple #[.string t, .int .i64 0])) w' := by
  unfold FootOk footB
  rw [if_pos h]
  exact ⟨rfl, hb⟩
theorem foot_bad {t : ByteArray} {w w' : World} (h : signsB t 1 4 = false) (h1 : t.size = 0 ∨ figB t = true ∨ badHead t = true) (hb : Below w.heap.size w w') : FootOk t w (.returned (.tuple #[.string ⟨#[]⟩, .int .i64 130])) w' := by
  unfold FootOk footB
  rw [if_neg (by rw [h]; simp), if_pos h1]
  exact ⟨rfl, hb⟩
theorem foot_named {t : ByteArray} {w w' : World} (h : signsB t 1 4 = false) (h0 : ¬ t.size = 0) (h1 : figB t = false) (h2 : badHead t = false) (h3 : namedOk t.data.toList = true) (hb : Below w.heap.size w w') : FootOk t w (.returned (.tuple #[.string ⟨(namedSigns t.data.toList).toArray⟩, .int .i64 0])) w' := by
  unfold FootOk footB
  rw [if_neg (by rw [h]; simp), if_neg (by rw [h1, h2]; simp [h0])]
  unfold namedOk at h3
  unfold namedSigns
  cases hn : byName t.data.toList with
  | none => rw [hn] at h3; cases h3
  | some f => exact ⟨rfl, hb⟩
theorem foot_unnamed {t : ByteArray} {w w' : World} (h : signsB t 1 4 = false) (h0 : ¬ t.size = 0) (h1 : figB t = false) (h2 : badHead t = false) (h3 : namedOk t.data.toList = false) (hb : Below w.heap.size w w') : FootOk t w (.returned (.tuple #[.string ⟨#[]⟩, .int .i64 131])) w' := by
  unfold FootOk footB
  rw [if_neg (by rw [h]; simp), if_neg (by rw [h1, h2]; simp [h0])]
  unfold namedOk at h3
  cases hn : byName t.data.toList with
  | some f => rw [hn] at h3; cases h3
  | none => exact ⟨rfl, hb⟩

set_option maxRecDepth 100000 in
set_option maxHeartbeats 4000000 in
theorem foot_any (b : Nat) (t : ByteArray) (w : World) (hc : w.cell? ⟨b, 2, none⟩ = some (.string t)) (hb : b < w.heap.size) (ht : t.size ≤ 65536) :
    Calls Tryd.prog 90 #[.pointer (some ⟨b, 0, none⟩)] w (FootOk t w) := by
  have Hfg := Lib.hid fun W hc => figure_any b t W hc
  go_enter Tryd.func90, Tryd.ntmps90
  go_wp2_with fail
  refine (signs_any t 4 w (by omega)).mono ?_
  rintro e w' ⟨rfl, rfl⟩
  cases hs : signsB t 1 4 with
  | true =>
    have Hs := Lib.hid hs
    clear hs
    go_wp2_with fail
    go_ret2
    exact foot_signs Hs.out (Below.refl _ _)
  | false =>
    have Hs := Lib.hid hs
    clear hs
    by_cases h0 : t.size = 0
    · have h1 := data_nil h0
      have h2 := list_nil h0
      have H0 := Lib.hid h0
      clear h0 h1
      go_wp2_with fail
      go_ret2
      exact foot_bad Hs.out (.inl H0.out) (Below.refl _ _)
    · have h1 : 0 < t.size := by omega
      have h2 := list_pos h1
      cases hf : figB t with
      | true =>
        rw [hf] at Hfg
        have Hf := Lib.hid hf
        clear hf h0
        go_wp2_with fail
        refine (Hfg.out _ hc).mono ?_
        rintro e w' ⟨rfl, rfl⟩
        go_wp2_with fail
        go_ret2
        exact foot_bad Hs.out (.inr (.inl Hf.out)) (Below.refl _ _)
      | false =>
        rw [hf] at Hfg
        have Hf := Lib.hid hf
        have hbh : badHead t = badC (t[0]'h1) := by
          unfold badHead
          have : t.data.toList = t[0] :: t.data.toList.tail := by
            rcases t with ⟨⟨_ | ⟨c, l⟩⟩⟩
            · exact absurd h1 (by decide)
            · rfl
          rw [this]
        have Hix := Lib.hid fun W => index_bad (t[0]'h1) W
        have Hbh := Lib.hid hbh
        have H0 := Lib.hid h0
        unfold badC at hbh
        generalize hn : Lib.indexByte [44, 59, 120, 47] (t[0]'h1) = n at Hix hbh
        clear hf h0 hn
        cases hbn : decide ((0 : Int) ≤ n) with
        | true =>
          rw [hbn] at hbh
          have Hbn := Lib.hid hbh
          clear hbh
          have hn0 : (0 : Int) ≤ n := of_decide_eq_true hbn
          clear hbn
          go_wp2_with fail
          refine (Hfg.out _ hc).mono ?_
          rintro e w' ⟨rfl, rfl⟩
          go_wp2_with fail
          refine (Hix.out _).mono ?_
          rintro e w' ⟨rfl, rfl⟩
          go_wp2_with fail
          go_ret2
          exact foot_bad Hs.out (.inr (.inr Hbn.out)) (Below.refl _ _)
        | false =>
          rw [hbn] at hbh
          have Hbn := Lib.hid hbh
          clear hbh
          have hn0 : ¬ (0 : Int) ≤ n := of_decide_eq_false hbn
          clear hbn
          go_wp2_with fail
          refine (Hfg.out _ hc).mono ?_
          rintro e w' ⟨rfl, rfl⟩
          go_wp2_with fail
          refine (Hix.out _).mono ?_
          rintro e w' ⟨rfl, rfl⟩
          go_wp2_with fail
          refine (named_any t _).mono ?_
          rintro e w' ⟨rfl, hb2⟩
          have Hf4 := Lib.hid fun h => foot_named Hs.out H0.out Hf.out Hbn.out h hb2
          have Hf5 := Lib.hid fun h => foot_unnamed Hs.out H0.out Hf.out Hbn.out h hb2
          cases hok : namedOk t.data.toList with
          | true =>
            have Hf6 := Lib.hid (Hf4.out hok)
            clear hok
            go_wp2_with fail
            go_ret2
            exact Hf6.out
          | false =>
            have Hf6 := Lib.hid (Hf5.out hok)
            clear hok
            go_wp2_with fail
            go_ret2
            exact Hf6.out
end Go.Proofs.YtkfkkoefpfmjkaaDoor
namespace Go.Proofs.YtkfkkoefpfmjkaaDoor
set_option linter.unusedVariables false
set_option linter.unusedSimpArgs false
open Go.RowKit

/- Ways: has. -/
abbrev Way := ByteArray × Int
def wayV (v : Way) : Value := .agg #[.string v.1, .int .i64 v.2]
def wayCells (l : List Way) : List Value := l.flatMap fun v => [.string v.1, .int .i64 v.2]
def IsWays (w : World) (B : Nat) (A : Option Addr) (l : List Way) : Prop :=
  0 < l.length → ∃ b off, A = some ⟨b, off, none⟩ ∧ b < B ∧ ∀ k, k < l.length → w.cell? ⟨b, off + k * 2, none⟩ = some (.string (l.getD k default).1) ∧ w.cell? ⟨b, off + k * 2 + 1, none⟩ = some (.int .i64 (l.getD k default).2)
theorem IsWays.keep {w w' : World} {B : Nat} {A : Option Addr} {l : List Way} (h : IsWays w B A l) (hk : ∀ p : Addr, p.block < B → w'.cell? p = w.cell? p) : IsWays w' B A l := fun hl => by
  obtain ⟨b, off, e, hb, hn⟩ := h hl
  exact ⟨b, off, e, hb, fun k hk' => ⟨(hk ⟨b, _, none⟩ hb).trans (hn k hk').1, (hk ⟨b, _, none⟩ hb).trans (hn k hk').2⟩⟩
theorem IsWays.below {w w' : World} {B : Nat} {A : Option Addr} {l : List Way} (h : IsWays w B A l) (hb : Below B w w') : IsWays w' B A l := h.keep fun p hp => hb.cell hp
theorem IsWays.more {w : World} {B B' : Nat} {A : Option Addr} {l : List Way} (h : IsWays w B A l) (hB : B ≤ B') : IsWays w B' A l := fun hl => by
  obtain ⟨b, off, e, hb, hn⟩ := h hl
  exact ⟨b, off, e, by omega, hn⟩
def eqS (a b : ByteArray) : Bool := a.toList == b.toList
theorem eqS_true {a b : ByteArray} (h : eqS a b = true) : a = b := by
  unfold eqS at h
  rw [ByteArray.toList_eq, ByteArray.toList_eq] at h
  have : a.data.toList = b.data.toList := by simpa using h
  rcases a with ⟨⟨a⟩⟩; rcases b with ⟨⟨b⟩⟩
  simp at this; rw [this]
theorem eqS_refl (a : ByteArray) : eqS a a = true := by simp [eqS]
theorem eqS_dec (a b : ByteArray) : eqS a b = decide (a = b) := by
  cases h : eqS a b with
  | true => simp [eqS_true h]
  | false =>
    symm; rw [decide_eq_false_iff_not]
    rintro rfl
    rw [eqS_refl] at h; cases h
def hasW (l : List Way) (s : ByteArray) : Bool := l.any fun v => eqS v.1 s

theorem has1_any (v : Way) (p : Nat) (s : ByteArray) (W : World) (hc : W.cell? ⟨p, 0, none⟩ = some (.string s)) (hp : p < W.heap.size) :
    Calls Tryd.prog 115 #[.agg #[.string v.1, .int .i64 v.2], .pointer (some ⟨p, 0, none⟩)] W fun e w' => e = .returned (.bool (eqS v.1 s)) ∧ Below W.heap.size W w' := by
  have hne : p ≠ W.heap.size := by omega
  unfold eqS
  go_enter Tryd.func115, Tryd.ntmps115
  go_wp2_with fail
  all_goals (go_ret; exact ⟨by simp_all, (Below.refl _ W).alloc (Nat.le_refl _) _⟩)
theorem any_take_succ {α : Type} [Inhabited α] (l : List α) (p : α → Bool) (k : Nat) (hk : k < l.length) : (l.take (k + 1)).any p = ((l.take k).any p || p (l.getD k default)) := by
  rw [List.take_succ_eq_append_getElem hk, List.any_append]
  simp [List.getD_eq_getElem?_getD, hk]
theorem any_hit {α : Type} [Inhabited α] (l : List α) (p : α → Bool) (k : Nat) (hk : k < l.length) (h : p (l.getD k default) = true) : l.any p = true :=
  List.any_eq_true.2 ⟨l[k], List.getElem_mem hk, by simpa [List.getD_eq_getElem?_getD, hk] using h⟩

set_option maxRecDepth 100000 in
set_option maxHeartbeats 4000000 in
/-- the first that has the signs; below zero: none -/
theorem index_any (A : Option Addr) (c p : Nat) (l : List Way) (s : ByteArray) (w : World) (hl : IsWays w w.heap.size A l) (hb : l.length ≤ 4611686018427387904) (hc : w.cell? ⟨p, 0, none⟩ = some (.string s)) (hp : p < w.heap.size) :
    Calls Tryd.prog 129 #[.slice A l.length c, .func (.func 115) #[] #[.pointer (some ⟨p, 0, none⟩)]] w fun e w' => ∃ n : Int, e = .returned (.int .i64 n) ∧ decide (0 ≤ n) = hasW l s ∧ Below w.heap.size w w' := by
  go_enter Tryd.func129, Tryd.ntmps129
  go_wp2_with fail
  go_loopw [5, 8] (fun _ i wr => ∃ k : Nat, k ≤ l.length ∧ i = .int .i64 k ∧ (l.take k).any (fun v => eqS v.1 s) = false ∧ Below w.heap.size w wr) (fun _ i _ => l.length - (intOf i).toNat)
  case atStart => exact ⟨0, by omega, rfl, rfl, Below.refl _ _⟩
  case round =>
    rename_i wr
    obtain ⟨k, hk, rfl, hn, hbl⟩ := hrel
    have Hn := Lib.hid hn
    clear hn
    by_cases hlt : k < l.length
    · obtain ⟨b, off, rfl, hbb, hrow⟩ := hl (by omega)
      have hc1 := (hbl.cell (p := ⟨b, off + k * 2, none⟩) hbb).trans (hrow k hlt).1
      have hc2 := (hbl.cell (p := ⟨b, off + k * 2 + 1, none⟩) hbb).trans (hrow k hlt).2
      have hcp := (hbl.cell (p := ⟨p, 0, none⟩) hp).trans hc
      have Hst := Lib.hid (any_take_succ l (fun v => eqS v.1 s) k hlt)
      have Hit := Lib.hid (any_hit l (fun v => eqS v.1 s) k hlt)
      have hbs := hbl.size
      clear hrow hl
      generalize l.getD k default = v at *
      cases hq : eqS v.1 s with
      | true =>
        have Hq := Lib.hid hq
        have hcl := has1_any v p s wr hcp (by omega)
        rw [hq] at hcl
        clear hq
        go_wp2_with fail
        refine hcl.mono ?_
        rintro e w' ⟨rfl, hb'⟩
        have hbe := hbl.trans (hb'.mono hbs)
        go_wp2_with fail
        go_ret
        exact ⟨_, rfl, by rw [show hasW l s = true from Hit.out Hq.out]; simp, hbe⟩
      | false =>
        have Hq := Lib.hid hq
        have hcl := has1_any v p s wr hcp (by omega)
        rw [hq] at hcl
        clear hq
        go_wp2_with fail
        refine hcl.mono ?_
        rintro e w' ⟨rfl, hb'⟩
        have hbe := hbl.trans (hb'.mono hbs)
        go_wp2_with fail
        go_roundw
        case rel => exact ⟨k + 1, by omega, by go_num, by rw [Hst.out, Hn.out, Hq.out]; rfl, hbe⟩
        case measure => simp [intOf]; omega
    · obtain rfl : k = l.length := by omega
      go_wp2_with fail
      go_ret
      exact ⟨_, rfl, by have hx := Hn.out; rw [List.take_length] at hx; unfold hasW; rw [hx]; rfl, hbl⟩
theorem contains_any (A : Option Addr) (c p : Nat) (l : List Way) (s : ByteArray) (w : World) (hl : IsWays w w.heap.size A l) (hb : l.length ≤ 4611686018427387904) (hc : w.cell? ⟨p, 0, none⟩ = some (.string s)) (hp : p < w.heap.size) :
    Calls Tryd.prog 114 #[.slice A l.length c, .func (.func 115) #[] #[.pointer (some ⟨p, 0, none⟩)]] w fun e w' => e = .returned (.bool (hasW l s)) ∧ Below w.heap.size w w' := by
  go_enter Tryd.func114, Tryd.ntmps114
  go_wp2_with fail
  refine (index_any A c p l s w hl hb hc hp).mono ?_
  rintro e w' ⟨n, rfl, hn, hb'⟩
  have Hn := Lib.hid hn
  clear hn
  go_wp2_with fail
  go_ret
  exact ⟨ret_bool (by rw [← Hn.out]), hb'⟩
theorem has_any (A : Option Addr) (c : Nat) (l : List Way) (s : ByteArray) (w : World) (hl : IsWays w w.heap.size A l) (hb : l.length ≤ 4611686018427387904) :
    Calls Tryd.prog 94 #[.slice A l.length c, .string s] w fun e w' => e = .returned (.bool (hasW l s)) ∧ Below w.heap.size w w' := by
  go_enter Tryd.func94, Tryd.ntmps94
  go_wp2_with fail
  have hB : Below w.heap.size w (w.alloc (.cells #[.string s] 9)) := (Below.refl _ w).alloc (Nat.le_refl _) _
  refine (contains_any A c w.heap.size l s _ ((hl.below hB).more hB.size) hb (by simp) (by simp)).mono ?_
  rintro e w' ⟨rfl, hb'⟩
  have hbe := hB.trans (hb'.mono hB.size)
  go_wp2_with fail
  go_ret
  exact ⟨rfl, hbe⟩
end Go.Proofs.YtkfkkoefpfmjkaaDoor
namespace Go.Proofs.YtkfkkoefpfmjkaaDoor
set_option linter.unusedVariables false
set_option linter.unusedSimpArgs false
open Go.RowKit

/- Feet: lays. -/
structure Ft where
  own : ByteArray
  ways : List Way
instance : Inhabited Ft := ⟨⟨⟨#[]⟩, []⟩⟩
def FtAt (w : World) (B b o : Nat) (f : Ft) : Prop := w.cell? ⟨b, o, none⟩ = some (.string f.own) ∧ ∃ A c, w.cell? ⟨b, o + 1, none⟩ = some (.slice A f.ways.length c) ∧ f.ways.length ≤ c ∧ IsWays w B A f.ways
def IsFeet (w : World) (B : Nat) (A : Option Addr) (fs : List Ft) : Prop :=
  0 < fs.length → ∃ b off, A = some ⟨b, off, none⟩ ∧ b < B ∧ ∀ k, k < fs.length → FtAt w B b (off + k * 2) (fs.getD k default)
theorem FtAt.keep {w w' : World} {B b o : Nat} {f : Ft} (h : FtAt w B b o f) (hb : b < B) (hk : ∀ p : Addr, p.block < B → w'.cell? p = w.cell? p) : FtAt w' B b o f := by
  obtain ⟨h1, A, c, h2, h3, h4⟩ := h
  exact ⟨(hk ⟨b, _, none⟩ hb).trans h1, A, c, (hk ⟨b, _, none⟩ hb).trans h2, h3, h4.keep hk⟩
theorem IsFeet.keep {w w' : World} {B : Nat} {A : Option Addr} {fs : List Ft} (h : IsFeet w B A fs) (hk : ∀ p : Addr, p.block < B → w'.cell? p = w.cell? p) : IsFeet w' B A fs := fun hl => by
  obtain ⟨b, off, e, hb, hn⟩ := h hl
  exact ⟨b, off, e, hb, fun k hk' => (hn k hk').keep hb hk⟩
theorem IsFeet.below {w w' : World} {B : Nat} {A : Option Addr} {fs : List Ft} (h : IsFeet w B A fs) (hb : Below B w w') : IsFeet w' B A fs := h.keep fun p hp => hb.cell hp
theorem IsFeet.more {w : World} {B B' : Nat} {A : Option Addr} {fs : List Ft} (h : IsFeet w B A fs) (hB : B ≤ B') : IsFeet w B' A fs := fun hl => by
  obtain ⟨b, off, e, hb, hn⟩ := h hl
  refine ⟨b, off, e, by omega, fun k hk => ?_⟩
  obtain ⟨h1, A, c, h2, h3, h4⟩ := hn k hk
  exact ⟨h1, A, c, h2, h3, h4.more hB⟩

def againF (sg : ByteArray) (all : Bool) (f : Ft) : Bool := !(all && eqS f.own sg) && (eqS f.own sg || hasW f.ways sg)
def longF (sg : ByteArray) (all : Bool) (f : Ft) : Bool := !(all && eqS f.own sg) && decide (f.ways.length = 15)
def laysE (fs : List Ft) (sg : ByteArray) (all : Bool) : Int := if fs.any (againF sg all) then 132 else if fs.any (longF sg all) then 3 else 0
def longE (b : Bool) : Int := if b then 3 else 0

set_option maxRecDepth 100000 in
set_option maxHeartbeats 8000000 in
theorem lays_any (A : Option Addr) (c : Nat) (fs : List Ft) (sg : ByteArray) (all : Bool) (w : World) (hl : IsFeet w w.heap.size A fs) (hb : fs.length ≤ 16) (hw : ∀ f ∈ fs, f.ways.length ≤ 15) :
    Calls Tryd.prog 91 #[.slice A fs.length c, .string sg, .bool all] w fun e w' => e = .returned (.int .i64 (laysE fs sg all)) ∧ Below w.heap.size w w' := by
  go_enter Tryd.func91, Tryd.ntmps91
  go_wp2_with fail
  go_loopw [7, 12] (fun e i wr => ∃ k : Nat, k ≤ fs.length ∧ i = .int .i64 k ∧ e = .int .i64 (longE ((fs.take k).any (longF sg all))) ∧ (fs.take k).any (againF sg all) = false ∧ Below w.heap.size w wr) (fun _ i _ => fs.length - (intOf i).toNat)
  case atStart => exact ⟨0, by omega, rfl, rfl, rfl, Below.refl _ _⟩
  case round =>
    rename_i wr
    obtain ⟨k, hk, rfl, rfl, hn, hbl⟩ := hrel
    by_cases hlt : k < fs.length
    · obtain ⟨b, off, rfl, hbb, hrow⟩ := hl (by omega)
      obtain ⟨h1, A', c', h2, h3, h4⟩ := hrow k hlt
      have hc1 := (hbl.cell (p := ⟨b, off + k * 2, none⟩) hbb).trans h1
      have hc2 := (hbl.cell (p := ⟨b, off + k * 2 + 1, none⟩) hbb).trans h2
      have h4' := h4.below hbl
      have hn1 := any_take_succ fs (againF sg all) k hlt
      have hn2 := any_take_succ fs (longF sg all) k hlt
      have hit := any_hit fs (againF sg all) k hlt
      have hw15 : (fs.getD k default).ways.length ≤ 15 := by
        rw [List.getD_eq_getElem?_getD, List.getElem?_eq_getElem hlt]
        exact hw _ (List.getElem_mem hlt)
      rw [hn] at hn1
      have hbs := hbl.size
      clear hrow hl h1 h2 h4 hn
      generalize fs.getD k default = f at *
      obtain ⟨own, ways⟩ := f
      simp only [againF, longF] at hn1 hn2 hit
      simp only [] at hc1 hc2 h3 h4' hw15
      generalize (fs.take k).any (longF sg all) = e0 at hn2
      have hwb : Below w.heap.size w (wr.alloc (.cells #[.string own, .slice A' ways.length c'] 81)) := hbl.alloc hbs _
      cases hq : eqS own sg with
      | true =>
        rw [hq] at hn1 hn2 hit
        have hq' := hq
        unfold eqS at hq'
        cases all with
        | true =>
          have Hn1 := Lib.hid hn1
          have Hn2 := Lib.hid hn2
          clear hn1 hn2 hit hq
          go_wp2_with fail
          go_roundw
          case rel => exact ⟨k + 1, by omega, by go_num, by rw [Hn2.out]; simp, by rw [Hn1.out]; rfl, hwb⟩
          case measure => simp [intOf]; omega
        | false =>
          have Hit := Lib.hid hit
          clear hn1 hn2 hit hq
          go_wp2_with fail
          go_ret
          exact ⟨by unfold laysE; rw [show fs.any (againF sg false) = true from Hit.out rfl]; rfl, hwb⟩
      | false =>
        rw [hq] at hn1 hn2 hit
        have hq' := hq
        unfold eqS at hq'
        simp only [Bool.and_false, Bool.not_false, Bool.true_and, Bool.false_or] at hn1 hn2 hit
        have hha := has_any A' c' ways sg (wr.alloc (.cells #[.string own, .slice A' ways.length c'] 81)) ((h4'.below ((Below.refl _ wr).alloc (by omega) _)).more (by simp; omega)) (by omega)
        have Hcx := Lib.hid fun (w' : World) (hb' : Below (wr.alloc (.cells #[.string own, .slice A' ways.length c'] 81)).heap.size (wr.alloc (.cells #[.string own, .slice A' ways.length c'] 81)) w') => (hb'.cell (p := ⟨wr.heap.size, 1, none⟩) (by simp)).trans (show (wr.alloc (.cells #[.string own, .slice A' ways.length c'] 81)).cell? ⟨wr.heap.size, 1, none⟩ = some (.slice A' ways.length c') by simp)
        cases hh : hasW ways sg with
        | true =>
          rw [hh] at hha
          have Hit := Lib.hid (hit hh)
          clear hn1 hn2 hit hq hh
          cases all <;>
          · go_wp2_with fail
            refine hha.mono ?_
            rintro e w' ⟨rfl, hb'⟩
            have hbe := hwb.trans (hb'.mono hwb.size)
            go_wp2_with fail
            go_ret
            exact ⟨by unfold laysE; rw [Hit.out]; rfl, hbe⟩
        | false =>
          rw [hh] at hha hn1
          have Hn1 := Lib.hid hn1
          clear hn1 hit hq hh
          cases h15 : decide (ways.length = 15) with
          | true =>
            rw [h15] at hn2
            have Hn2 := Lib.hid hn2
            have h15' : ((ways.length : Int) == 15) = true := by have := of_decide_eq_true h15; simp; omega
            clear hn2 h15
            cases all <;>
            · go_wp2_with fail
              refine hha.mono ?_
              rintro e w' ⟨rfl, hb'⟩
              have hbe := hwb.trans (hb'.mono hwb.size)
              have hcx := Hcx.out _ hb'
              go_wp2_with fail
              go_roundw
              case rel => exact ⟨k + 1, by omega, by go_num, by rw [Hn2.out]; simp [longE], by rw [Hn1.out], hbe⟩
              case measure => simp [intOf]; omega
          | false =>
            rw [h15] at hn2
            have Hn2 := Lib.hid hn2
            have h15' : ((ways.length : Int) == 15) = false := by have := of_decide_eq_false h15; simp; omega
            clear hn2 h15
            cases all <;>
            · go_wp2_with fail
              refine hha.mono ?_
              rintro e w' ⟨rfl, hb'⟩
              have hbe := hwb.trans (hb'.mono hwb.size)
              have hcx := Hcx.out _ hb'
              go_wp2_with fail
              go_roundw
              case rel => exact ⟨k + 1, by omega, by go_num, by rw [Hn2.out]; simp, by rw [Hn1.out], hbe⟩
              case measure => simp [intOf]; omega
    · obtain rfl : k = fs.length := by omega
      have Hn := Lib.hid hn
      clear hn
      go_wp2_with fail
      go_ret
      refine ⟨?_, hbl⟩
      have hx := Hn.out
      rw [List.take_length] at hx
      unfold laysE
      rw [List.take_length, hx]
      rfl
end Go.Proofs.YtkfkkoefpfmjkaaDoor
/- Tokens as a list; the metre that a text is: plain. -/
namespace Go.Proofs.YtkfkkoefpfmjkaaDoor
set_option linter.unusedVariables false
set_option linter.unusedSimpArgs false

abbrev Tok := Nat × ByteArray
def noTok : Tok := (0, ⟨#[]⟩)
/-- the tokens of a text from a place on; the last one is empty -/
def toks (s : ByteArray) (p : Nat) : List Tok :=
  if h : skipN s p < s.size ∧ p ≤ s.size then (skipN s p, s.extract (skipN s p) (stopN s (skipN s p))) :: toks s (stopN s (skipN s p)) else [(s.size, ⟨#[]⟩)]
termination_by s.size - p
decreasing_by have := skipN_le (s := s) p h.2; have := stopN_lt (s := s) (skipN s p) h.1; have := stopN_le (s := s) (skipN s p) (by omega); omega
def hd (L : List Tok) : Tok := L.headD noTok
def adv (L : List Tok) : List Tok := match L with | [] => [] | [x] => [x] | _ :: l => l
theorem toks_in {s : ByteArray} {p : Nat} (h : skipN s p < s.size) (hp : p ≤ s.size) : toks s p = (skipN s p, s.extract (skipN s p) (stopN s (skipN s p))) :: toks s (stopN s (skipN s p)) := by
  rw [toks, dif_pos ⟨h, hp⟩]
theorem toks_end {s : ByteArray} {p : Nat} (h : ¬ skipN s p < s.size) : toks s p = [(s.size, ⟨#[]⟩)] := by
  rw [toks, dif_neg (by omega)]
theorem toks_pos (s : ByteArray) (p : Nat) : 0 < (toks s p).length := by
  rw [toks]; split <;> simp
theorem extract_size {s : ByteArray} {a e : Nat} (h : e ≤ s.size) : (s.extract a e).size = e - a := by simp; omega
theorem extract_nil (s : ByteArray) (a : Nat) : s.extract a a = ⟨#[]⟩ := by
  apply ByteArray.ext; simp [ByteArray.data_extract]
/-- what the cutter stands on -/
theorem hd_toks {s : ByteArray} {p : Nat} (hp : p ≤ s.size) : hd (toks s p) = (skipN s p, s.extract (skipN s p) (stopN s (skipN s p))) := by
  have hs := skipN_le (s := s) p hp
  by_cases h : skipN s p < s.size
  · rw [toks_in h hp]; rfl
  · have e : skipN s p = s.size := by omega
    rw [toks_end h, e, stopN_end (by omega), extract_nil]; rfl
/-- the cutter goes on -/
theorem adv_toks {s : ByteArray} {p : Nat} (hp : p ≤ s.size) : (hd (toks s p)).1 + (hd (toks s p)).2.size ≤ s.size ∧ toks s ((hd (toks s p)).1 + (hd (toks s p)).2.size) = adv (toks s p) := by
  have hs := skipN_le (s := s) p hp
  have ht := stopN_le (s := s) (skipN s p) hs.2
  rw [hd_toks hp]
  simp only []
  rw [extract_size ht.2]
  by_cases h : skipN s p < s.size
  · have e : skipN s p + (stopN s (skipN s p) - skipN s p) = stopN s (skipN s p) := by omega
    rw [e, toks_in h hp]
    refine ⟨ht.2, ?_⟩
    have := toks_pos s (stopN s (skipN s p))
    cases hq : toks s (stopN s (skipN s p)) with
    | nil => rw [hq] at this; simp at this
    | cons x l => rfl
  · have e : skipN s p = s.size := by omega
    rw [e, stopN_end (by omega), toks_end h]
    refine ⟨by omega, ?_⟩
    rw [toks_end (by have := skipN_le (s := s) (s.size + (s.size - s.size)) (by omega); omega)]; rfl
theorem hd_size (s : ByteArray) {p : Nat} (hp : p ≤ s.size) : (hd (toks s p)).2.size ≤ s.size := by have := (adv_toks hp).1; omega
theorem adv_len (L : List Tok) : (adv L).length ≤ L.length := by
  unfold adv; split <;> simp
theorem adv_pos {L : List Tok} (h : 0 < L.length) : 0 < (adv L).length := by
  match L with
  | [] => simp at h
  | [x] => simp [adv]
  | _ :: y :: l => simp [adv]
/-- behind a word there is something -/
theorem adv_lt {s : ByteArray} {p : Nat} (h : (hd (toks s p)).2 ≠ ⟨#[]⟩) : (adv (toks s p)).length < (toks s p).length := by
  by_cases h1 : skipN s p < s.size ∧ p ≤ s.size
  · rw [toks_in h1.1 h1.2]
    have := toks_pos s (stopN s (skipN s p))
    cases hq : toks s (stopN s (skipN s p)) with
    | nil => rw [hq] at this; simp at this
    | cons x l => simp [adv]
  · exfalso; apply h; rw [toks, dif_neg h1]; rfl

/- A metre. -/
structure Met where
  feet : List Ft
  ends : List Way
  brks : List (Int × Int)
def Met.zero : Met := ⟨[], [], []⟩
/-- a result: what is left and the metre; or what is wrong, and where -/
abbrev Res := Except (Int × Nat) (List Tok × Met)
def numE (t : ByteArray) (lo hi : Int) : Int × Int := match numB t with | none => (0, 130) | some n => if n < lo ∨ n > hi then (0, 2) else (n, 0)
def COMMA : ByteArray := ⟨#[44]⟩
def SEMI : ByteArray := ⟨#[59]⟩
def plainFt (own : ByteArray) : Ft := ⟨own, []⟩

def groupTail (n : Int) (at0 : Nat) (L : List Tok) (m : Met) : Res :=
  if (footB (hd L).2).2 = 0 then
    if (m.feet.length : Int) + n ≤ 16 then .ok (adv L, { m with feet := m.feet ++ List.replicate n.toNat (plainFt (footB (hd L).2).1) }) else .error (3, at0)
  else .error ((footB (hd L).2).2, (hd L).1)
def groupP (L : List Tok) (m : Met) : Res :=
  if figB (hd L).2 then
    if (numE (hd L).2 1 16).2 = 0 then groupTail (numE (hd L).2 1 16).1 (hd L).1 (adv L) m else .error ((numE (hd L).2 1 16).2, (hd L).1)
  else groupTail 1 (hd L).1 L m

def layF (sg : ByteArray) (c : Int) (all : Bool) (f : Ft) : Ft := if !all || !(eqS f.own sg) then { f with ways := f.ways ++ [(sg, c)] } else f
/-- a way laid to the feet from i on, n of them -/
def layR (fs : List Ft) (i n : Nat) (sg : ByteArray) (c : Int) (all : Bool) : List Ft := fs.take i ++ ((fs.drop i).take n).map (layF sg c all) ++ fs.drop (i + n)
def waysP : Nat → List Tok → Met → Nat → Nat → Bool → Res
  | 0, L, m, i, n, all => .error (130, 0)
  | f + 1, L, m, i, n, all =>
    if (footB (hd L).2).2 = 0 then
      if laysE ((m.feet.drop i).take n) (footB (hd L).2).1 all = 0 then
        if (numE (hd (adv L)).2 0 1048576).2 = 0 then
          if eqS (hd (adv (adv L))).2 COMMA then waysP f (adv (adv (adv L))) { m with feet := layR m.feet i n (footB (hd L).2).1 (numE (hd (adv L)).2 0 1048576).1 all } i n all
          else .ok (adv (adv L), { m with feet := layR m.feet i n (footB (hd L).2).1 (numE (hd (adv L)).2 0 1048576).1 all })
        else .error ((numE (hd (adv L)).2 0 1048576).2, (hd (adv L)).1)
      else .error (laysE ((m.feet.drop i).take n) (footB (hd L).2).1 all, (hd L).1)
    else .error ((footB (hd L).2).2, (hd L).1)
def endsP : Nat → List Tok → Met → Res
  | 0, L, m => .error (130, 0)
  | f + 1, L, m =>
    if signsB (hd L).2 1 2 then
      if hasW m.ends (hd L).2 then .error (132, (hd L).1)
      else if m.ends.length = 4 then .error (3, (hd L).1)
      else if (numE (hd (adv L)).2 0 1048576).2 = 0 then
        if eqS (hd (adv (adv L))).2 COMMA then endsP f (adv (adv (adv L))) { m with ends := m.ends ++ [((hd L).2, (numE (hd (adv L)).2 0 1048576).1)] }
        else .ok (adv (adv L), { m with ends := m.ends ++ [((hd L).2, (numE (hd (adv L)).2 0 1048576).1)] })
      else .error ((numE (hd (adv L)).2 0 1048576).2, (hd (adv L)).1)
    else .error (130, (hd L).1)
def aheadOf (m : Met) : Int := match m.brks.getLast? with | none => 0 | some b => b.1
def pauseP (L : List Tok) (m : Met) : Res :=
  if (numE (hd L).2 (aheadOf m + 1) (m.feet.length - 1)).2 = 0 then
    if (numE (hd (adv L)).2 1 1048576).2 = 0 then .ok (adv (adv L), { m with brks := m.brks ++ [((numE (hd L).2 (aheadOf m + 1) (m.feet.length - 1)).1, (numE (hd (adv L)).2 1 1048576).1)] })
    else .error ((numE (hd (adv L)).2 1 1048576).2, (hd (adv L)).1)
  else .error ((numE (hd L).2 (aheadOf m + 1) (m.feet.length - 1)).2, (hd L).1)
def ANY : ByteArray := ⟨#[97, 110, 121]⟩
def END : ByteArray := ⟨#[101, 110, 100]⟩
def BREAK : ByteArray := ⟨#[98, 114, 101, 97, 107]⟩
/-- a clause, behind its mark -/
def clauseP (L : List Tok) (m : Met) : Res :=
  if eqS (hd L).2 ANY then waysP (adv L).length (adv L) m 0 m.feet.length true
  else if eqS (hd L).2 END then endsP (adv L).length (adv L) m
  else if eqS (hd L).2 BREAK then pauseP (adv L) m
  else if figB (hd L).2 then
    if (numE (hd L).2 1 m.feet.length).2 = 0 then waysP (adv L).length (adv L) m ((numE (hd L).2 1 m.feet.length).1.toNat - 1) 1 false
    else .error ((numE (hd L).2 1 m.feet.length).2, (hd L).1)
  else .error (130, (hd L).1)
def clausesP : Nat → List Tok → Met → Except (Int × Nat) Met
  | 0, L, m => .error (130, 0)
  | f + 1, L, m =>
    if (hd L).2.size = 0 then .ok m
    else if eqS (hd L).2 SEMI then
      match clauseP (adv L) m with
      | .ok (L', m') => clausesP f L' m'
      | .error x => .error x
    else .error (130, (hd L).1)
def groupsP : Nat → List Tok → Met → Except (Int × Nat) Met
  | 0, L, m => .error (130, 0)
  | f + 1, L, m =>
    match groupP L m with
    | .error x => .error x
    | .ok (L', m') => if eqS (hd L').2 COMMA then groupsP f (adv L') m' else clausesP L'.length L' m'
def readP (s : ByteArray) : Except (Int × Nat) Met := if s.size > 65536 then .error (3, 65536) else groupsP (toks s 0).length (toks s 0) Met.zero
end Go.Proofs.YtkfkkoefpfmjkaaDoor
/- What a metre must be: plain. -/
namespace Go.Proofs.YtkfkkoefpfmjkaaDoor
set_option linter.unusedVariables false
set_option linter.unusedSimpArgs false

def ownHas (own : List ByteArray) (s : ByteArray) : Bool := own.any fun o => eqS o s
def wayOk (lg : Int) (own : List ByteArray) (pre : List Way) (v : Way) : Bool :=
  signsB v.1 1 lg && decide (0 ≤ v.2) && decide (v.2 ≤ 1048576) && !(pre.any fun u => eqS u.1 v.1) && !ownHas own v.1
/-- the ways from place k on, those before it in pre -/
def waysFrom (lg : Int) (own : List ByteArray) : List Way → List Way → Bool
  | _, [] => true
  | pre, v :: l => wayOk lg own pre v && waysFrom lg own (pre ++ [v]) l
def waysB (l : List Way) (most lg : Int) (own : List ByteArray) : Bool := decide ((l.length : Int) ≤ most) && waysFrom lg own [] l
def footMay (f : Ft) : Bool := signsB f.own 1 4 && waysB f.ways 15 4 [f.own]
def brksFrom (n : Int) : Int → List (Int × Int) → Bool
  | _, [] => true
  | a, b :: l => decide (a < b.1) && decide (b.1 < n) && decide (1 ≤ b.2) && decide (b.2 ≤ 1048576) && brksFrom n b.1 l
def mayB (m : Met) : Bool := decide (1 ≤ m.feet.length) && decide (m.feet.length ≤ 16) && waysB m.ends 4 2 [] && m.feet.all footMay && brksFrom m.feet.length 0 m.brks
/-- step by step, at place k -/
theorem drop_cons {α : Type} [Inhabited α] (l : List α) (k : Nat) (h : k < l.length) : l.drop k = l.getD k default :: l.drop (k + 1) := by
  rw [List.drop_eq_getElem_cons h]; simp [List.getD_eq_getElem?_getD, h]
theorem take_snoc' {α : Type} [Inhabited α] (l : List α) (k : Nat) (h : k < l.length) : l.take (k + 1) = l.take k ++ [l.getD k default] := by
  rw [List.take_succ_eq_append_getElem h]; simp [List.getD_eq_getElem?_getD, h]
theorem waysFrom_step (lg : Int) (own : List ByteArray) (l : List Way) (k : Nat) (h : k < l.length) :
    waysFrom lg own (l.take k) (l.drop k) = (wayOk lg own (l.take k) (l.getD k default) && waysFrom lg own (l.take (k + 1)) (l.drop (k + 1))) := by
  rw [drop_cons l k h, take_snoc' l k h]; rfl
theorem waysFrom_end (lg : Int) (own : List ByteArray) (l : List Way) : waysFrom lg own (l.take l.length) (l.drop l.length) = true := by
  rw [List.drop_length]; rfl
theorem brksFrom_step (n : Int) (a : Int) (l : List (Int × Int)) (k : Nat) (h : k < l.length) :
    brksFrom n a (l.drop k) = (decide (a < (l.getD k default).1) && decide ((l.getD k default).1 < n) && decide (1 ≤ (l.getD k default).2) && decide ((l.getD k default).2 ≤ 1048576) && brksFrom n (l.getD k default).1 (l.drop (k + 1))) := by
  rw [drop_cons l k h]; rfl
theorem all_step {α : Type} [Inhabited α] (l : List α) (p : α → Bool) (k : Nat) (h : k < l.length) : (l.drop k).all p = (p (l.getD k default) && (l.drop (k + 1)).all p) := by
  rw [drop_cons l k h]; rfl
/-- the ways of each foot, and of the end -/
def optsP (m : Met) : List (List Way) := m.feet.map (fun f => (f.own, (0 : Int)) :: f.ways) ++ [(⟨#[]⟩, 0) :: m.ends]
theorem optsP_len (m : Met) : (optsP m).length = m.feet.length + 1 := by simp [optsP]
def addW (a b : Int) : Int := IntKind.i64.wrap (a + b)
def manyN : Int := 4611686018427387904
/-- a further way, with what the rest comes to behind it -/
def restStep (s : List UInt8) (nx : List UInt8 → Int × Int) (b : Int × Int) (v : Way) : Int × Int :=
  if Lib.hasPrefix s v.1.data.toList then
    let r := nx (s.drop v.1.size)
    if r.2 = 0 then b
    else if b.2 = 0 ∨ r.1 + v.2 < b.1 then (r.1 + v.2, r.2)
    else if r.1 + v.2 = b.1 then (b.1, min (addW b.2 r.2) manyN)
    else b
  else b
/-- the least cost of choices with just these signs, and how many have it -/
def restP : List (List Way) → List UInt8 → Int × Int
  | [], s => if s = [] then (0, 1) else (0, 0)
  | l :: r, s => l.foldl (restStep s (restP r)) (0, 0)
theorem foldl_snoc {α β : Type} [Inhabited α] (f : β → α → β) (b : β) (l : List α) (k : Nat) (h : k < l.length) : (l.take (k + 1)).foldl f b = f ((l.take k).foldl f b) (l.getD k default) := by
  rw [take_snoc' l k h, List.foldl_append]; rfl
end Go.Proofs.YtkfkkoefpfmjkaaDoor

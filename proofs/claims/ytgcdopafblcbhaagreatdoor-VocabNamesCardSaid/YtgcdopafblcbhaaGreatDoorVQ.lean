import Derived.Test.YtgcdopafblcbhaaGreatDoorVP
import Derived.Test.YtgcdopafblcbhaaGreatDoorVN
import Derived.Deep.RegionHeld3
/- The vocabulary's calls on nil; a vocabulary without entries. -/
namespace Go.Proofs.YtgcdopafblcbhaaGreatDoor
set_option linter.unusedVariables false
set_option linter.unusedSimpArgs false
open Go.RowKit Go.Lib Go.Shelf
attribute [local go_sem] Oper.semAt_some

theorem results_row_tmp2 {P : Program} {fn : Func} {p u v : Tmp} {ty : TypeId} (h : fn.results = #[.cell p ty, .tmp u, .tmp v]) (tmps : Array Value) (w : World) (g : Nat) (t : TypeId) (cs : Array Value) (fr : Nat × Nat) (d : TypeDesc)
    (hp : tmps.getD p undef = .pointer (some ⟨g, 0, none⟩)) (hg : w.heap[g]? = some (.cells cs t fr))
    (hu : P.underlying ty = some d) (hd : (match d with | .struct _ | .array _ _ => true | _ => false) = true) (hi : (P.info? ty).map (·.size) = some cs.size) :
    (results fn tmps).run P w = .ok (.tuple #[.agg cs, tmps.getD u undef, tmps.getD v undef]) w := by
  have hp' : tmps[p]?.getD undef = .pointer (some ⟨g, 0, none⟩) := by simpa using hp
  simp [results, h, hp', asAddr, run_loadVar_row w g t ty cs fr d hg hu hd hi]
set_option maxRecDepth 100000 in
theorem lexnew_any (w : World) : Calls Tryz.prog 10 #[.pointer none] w fun e w' => (∃ p, e = .returned (.pointer (some ⟨p, 0, none⟩))) ∧ Below w.heap.size w w' := by
  go_enter Tryz.func10, Tryz.ntmps10
  have hmm := @run_makeMap Tryz.prog
  go_wp2_with fail
  go_ret
  exact ⟨⟨_, rfl⟩, (((Below.refl _ w).alloc (Nat.le_refl _) _).alloc (by simp) _).alloc (by simp; omega) _⟩
/-- a vocabulary without entries -/
structure VcI (p m : Nat) (V : World) : Prop where
  c : ∃ l o, V.heap[p]? = some (.cells #[l, o, .int .i64 4, .slice none 0 0, .map (some m)] 79 (0, 0))
  m : MapL (fun a : ByteArray => Value.string a) V m []
theorem VcI.below {p m : Nat} {V V' : World} (h : VcI p m V) (hb : Below V.heap.size V V') : VcI p m V' := by
  obtain ⟨l, o, h1⟩ := h.c
  exact ⟨⟨l, o, keptB h1 hb⟩, h.m.below hb⟩
set_option maxRecDepth 100000 in
theorem vnew_fine (p q : Nat) (w : World) : Calls Tryz.prog 12 #[.pointer (some ⟨p, 0, none⟩), .pointer (some ⟨q, 0, none⟩), .int .i64 4] w fun e w' => (∃ r m, e = .returned (.tuple #[.pointer (some ⟨r, 0, none⟩), .int .i64 0]) ∧ VcI r m w' ∧ w.heap.size ≤ r ∧ w.heap.size ≤ m) ∧ Below w.heap.size w w' := by
  have hmm := @run_makeMap Tryz.prog
  go_enter Tryz.func12, Tryz.ntmps12
  go_wp2_with fail
  go_ret2
  have := World.alloc_heap_new (w.alloc (.map #[] 0)) (.cells #[.pointer (some ⟨p, 0, none⟩), .pointer (some ⟨q, 0, none⟩), .int .i64 4, .slice none 0 0, .map (some w.heap.size)] 79)
  rw [World.size_alloc] at this
  exact ⟨⟨w.heap.size + 1, w.heap.size, rfl, ⟨⟨_, _, this⟩, #[], 0, al_at (World.alloc_heap_new w _) _, rfl⟩, Nat.le_succ _, Nat.le_refl _⟩, ((Below.refl _ w).alloc (Nat.le_refl _) _).alloc (by simp) _⟩
set_option maxRecDepth 100000 in
theorem vnew_nil1 (o : Option Addr) (r : Int) (w : World) : Calls Tryz.prog 12 #[.pointer none, .pointer o, .int .i64 r] w fun e w' => e = .returned (.tuple #[.pointer none, .int .i64 1]) ∧ w = w' := by
  go_enter Tryz.func12, Tryz.ntmps12
  go_wp2_with fail
  go_ret2
  exact ⟨rfl, rfl⟩
set_option maxRecDepth 100000 in
theorem vnew_nil2 (p : Nat) (r : Int) (w : World) : Calls Tryz.prog 12 #[.pointer (some ⟨p, 0, none⟩), .pointer none, .int .i64 r] w fun e w' => e = .returned (.tuple #[.pointer none, .int .i64 1]) ∧ w = w' := by
  go_enter Tryz.func12, Tryz.ntmps12
  go_wp2_with fail
  go_ret2
  exact ⟨rfl, rfl⟩
set_option maxRecDepth 100000 in
theorem vnew_arg (p q : Nat) (w : World) : Calls Tryz.prog 12 #[.pointer (some ⟨p, 0, none⟩), .pointer (some ⟨q, 0, none⟩), .int .i64 0] w fun e w' => e = .returned (.tuple #[.pointer none, .int .i64 2]) ∧ w = w' := by
  go_enter Tryz.func12, Tryz.ntmps12
  go_wp2_with fail
  go_ret2
  exact ⟨rfl, rfl⟩
set_option maxRecDepth 100000 in
theorem wakes_any (w : World) : Calls Tryz.prog 4 #[] w fun e w' => e = .returned (.bool true) ∧ Below w.heap.size w w' := by
  have Hr := Lib.hid (read_e w)
  go_enter Tryz.func4, Tryz.ntmps4
  go_wp2_with fail
  refine Hr.out.mono ?_
  rintro e w2 ⟨⟨p, rfl⟩, hb2⟩
  obtain ⟨W3, hW3⟩ : ∃ W3, w2.alloc (.cells #[.int .i64 0, .int .i64 0] 47) = W3 := ⟨_, rfl⟩
  have hb3 : Below w.heap.size w W3 := by rw [← hW3]; exact hb2.alloc hb2.size _
  have c0 : W3.cell? ⟨w2.heap.size, 0, none⟩ = some (.int .i64 0) := by rw [← hW3]; exact cell_of_row _ _ 0 _ _ (0, 0) (World.alloc_heap_new w2 _)
  have HW3 := Lib.hid hW3
  have Hb3 := Lib.hid hb3
  have Hl := Lib.hid (lexnew_any W3)
  clear hW3 hb2 hb3 Hr
  go_upto_region 2 with (fail)
  rw [HW3.out]
  go_wp2_with fail
  refine Hl.out.mono ?_
  rintro e w4 ⟨⟨q, rfl⟩, hb4⟩
  have Hn := Lib.hid (vnew_fine q p w4)
  have Hb4 := Lib.hid (Hb3.out.trans (hb4.mono Hb3.out.size))
  clear hb4 c0
  go_wp2_with fail
  refine Hn.out.mono ?_
  rintro e w5 ⟨⟨r, m, rfl, _, _, _⟩, hb5⟩
  have Hb5 := Lib.hid (Hb4.out.trans (hb5.mono Hb4.out.size))
  clear hb5
  go_wp2_with fail
  go_ret
  exact ⟨rfl, Hb5.out⟩
set_option maxRecDepth 100000 in
theorem get_nil (s : ByteArray) (w : World) : Calls Tryz.prog 23 #[.pointer none, .string s] w fun e w' => e = .returned (.pointer none) ∧ w = w' := by
  go_enter Tryz.func23, Tryz.ntmps23
  go_wp2_with fail
  go_ret
  exact ⟨rfl, rfl⟩
set_option maxRecDepth 100000 in
theorem forms_nil (s : ByteArray) (w : World) : Calls Tryz.prog 15 #[.pointer none, .string s] w fun e w' => e = .returned (.slice none 0 0) ∧ w = w' := by
  have Hg := Lib.hid (get_nil s w)
  go_enter Tryz.func15, Tryz.ntmps15
  go_wp2_with fail
  refine Hg.out.mono ?_
  rintro e w2 ⟨rfl, rfl⟩
  go_wp2_with fail
  go_ret
  exact ⟨rfl, rfl⟩
set_option maxRecDepth 100000 in
theorem len_nil (w : World) : Calls Tryz.prog 16 #[.pointer none] w fun e w' => e = .returned (.int .i64 0) ∧ w = w' := by
  go_enter Tryz.func16, Tryz.ntmps16
  go_wp2_with fail
  go_ret
  exact ⟨rfl, rfl⟩
set_option maxRecDepth 100000 in
theorem len_none (p m : Nat) (w : World) (h : VcI p m w) : Calls Tryz.prog 16 #[.pointer (some ⟨p, 0, none⟩)] w fun e w' => e = .returned (.int .i64 0) ∧ w = w' := by
  obtain ⟨l, o, h1⟩ := h.c
  have c3 : w.cell? ⟨p, 3, none⟩ = some (.slice none 0 0) := cell_of_row _ _ 3 _ _ (0, 0) h1
  clear h h1
  go_enter Tryz.func16, Tryz.ntmps16
  go_wp2_with fail
  go_ret
  exact ⟨rfl, rfl⟩
set_option maxRecDepth 100000 in
theorem copy_nil (w : World) : Calls Tryz.prog 17 #[.pointer none] w fun e w' => e = .returned (.pointer none) ∧ w = w' := by
  go_enter Tryz.func17, Tryz.ntmps17
  go_wp2_with fail
  go_ret
  exact ⟨rfl, rfl⟩
set_option maxRecDepth 100000 in
theorem add_nil (w : World) : Calls Tryz.prog 19 #[.pointer none, .slice none 0 0] w fun e w' => e = .returned (.int .i64 1) ∧ w = w' := by
  go_enter Tryz.func19, Tryz.ntmps19
  go_wp2_with fail
  go_ret
  exact ⟨rfl, rfl⟩
set_option maxRecDepth 100000 in
theorem remove_nil (s : ByteArray) (w : World) : Calls Tryz.prog 20 #[.pointer none, .string s] w fun e w' => e = .returned (.int .i64 1) ∧ w = w' := by
  go_enter Tryz.func20, Tryz.ntmps20
  go_wp2_with fail
  go_ret
  exact ⟨rfl, rfl⟩
set_option maxRecDepth 100000 in
theorem get_none (s : ByteArray) (w : World) : Calls Tryz.prog 6 #[.pointer none, .string s] w fun e w' => e = .returned (.tuple #[.agg #[.string ⟨#[]⟩, .string ⟨#[]⟩, .int .i64 0], .bool false]) ∧ Below w.heap.size w w' := by
  have Hg := fun W => Lib.hid (get_nil s W)
  go_enter Tryz.func6, Tryz.ntmps6
  go_wp2_with fail
  refine (Hg _).out.mono ?_
  rintro e w2 ⟨rfl, rfl⟩
  clear Hg
  go_wp2_with fail
  exact bodyPost_ret (results_row_tmp rfl _ _ w.heap.size 25 #[.string ⟨#[]⟩, .string ⟨#[]⟩, .int .i64 0] (0, 0) _ rfl (World.alloc_heap_new w _) Tryz.underlying25 (by rfl) (by kernel_rfl)) rfl ⟨rfl, (Below.refl _ w).alloc (Nat.le_refl _) _⟩
def wantV (n : Int) : Value := .agg #[.string ⟨#[]⟩, .string ⟨#[]⟩, .string ⟨#[]⟩, .string ⟨#[]⟩, .int .i64 n]
set_option maxRecDepth 100000 in
theorem draw_nil (n : Int) (w : World) : Calls Tryz.prog 5 #[.pointer none, wantV n, .int .u64 1] w fun e w' => e = .returned (.tuple #[.agg #[.string ⟨#[]⟩, .string ⟨#[]⟩, .int .i64 0, .int .i64 0], .int .u64 0, .int .i64 1]) ∧ Below w.heap.size w w' := by
  unfold wantV
  go_enter Tryz.func5, Tryz.ntmps5
  go_wp2_with fail
  refine bodyPost_ret (results_row_tmp2 rfl _ _ (w.heap.size + 1) 27 #[.string ⟨#[]⟩, .string ⟨#[]⟩, .int .i64 0, .int .i64 0] (0, 0) _ rfl ?_ Tryz.underlying27 (by rfl) (by kernel_rfl)) rfl ⟨rfl, ((Below.refl _ w).alloc (Nat.le_refl _) _).alloc (by simp) _⟩
  have := World.alloc_heap_new (w.alloc (.cells #[.string ⟨#[]⟩, .string ⟨#[]⟩, .string ⟨#[]⟩, .string ⟨#[]⟩, .int .i64 n] 33)) (.cells #[.string ⟨#[]⟩, .string ⟨#[]⟩, .int .i64 0, .int .i64 0] 27)
  rw [World.size_alloc] at this
  exact this
set_option maxRecDepth 100000 in
theorem all_make (w : World) : Calls Tryz.prog 7 #[.pointer none] w fun e w' => e = .returned (.func (.func 24) #[] #[.pointer (some ⟨w.heap.size, 0, none⟩)]) ∧ w' = w.alloc (.cells #[.pointer none] 23) := by
  go_enter Tryz.func7, Tryz.ntmps7
  go_wp2_with fail
  go_ret
  exact ⟨rfl, rfl⟩
set_option maxRecDepth 100000 in
theorem sel_make (n : Int) (w : World) : Calls Tryz.prog 8 #[.pointer none, wantV n] w fun e w' => e = .returned (.func (.func 25) #[] #[.pointer (some ⟨w.heap.size, 0, none⟩), .pointer (some ⟨w.heap.size + 1, 0, none⟩)]) ∧ w' = (w.alloc (.cells #[.pointer none] 23)).alloc (.cells #[.string ⟨#[]⟩, .string ⟨#[]⟩, .string ⟨#[]⟩, .string ⟨#[]⟩, .int .i64 n] 33) := by
  unfold wantV
  go_enter Tryz.func8, Tryz.ntmps8
  go_wp2_with fail
  go_ret
  exact ⟨rfl, rfl⟩
set_option maxRecDepth 100000 in
theorem rhy_make (s : ByteArray) (w : World) : Calls Tryz.prog 9 #[.pointer none, .string s] w fun e w' => e = .returned (.func (.func 26) #[] #[.pointer (some ⟨w.heap.size, 0, none⟩), .pointer (some ⟨w.heap.size + 1, 0, none⟩)]) ∧ w' = (w.alloc (.cells #[.pointer none] 23)).alloc (.cells #[.string s] 9) := by
  go_enter Tryz.func9, Tryz.ntmps9
  go_wp2_with fail
  go_ret
  exact ⟨rfl, rfl⟩
set_option maxRecDepth 100000 in
theorem all_nil (n b : Nat) (w : World) (hb : w.heap[b]? = some (.cells #[.pointer none] 23 (0, 0))) :
    SeqY Fence.wide n Tryz.prog 24 #[.pointer (some ⟨b, 0, none⟩)] (fun _ : Nat => #[undef]) [] [] w := fun l J Jx W hW hJ hJx hY h0 => by
  refine callsIn_of_wp Tryz.func24 rfl trivial ?_ rfl
  simp only [Tryz.ntmps24, List.size_toArray, List.length_cons, List.length_nil, Nat.reduceAdd, Nat.reduceSub, Array.replicate_succ, Array.replicate_zero, List.push_toArray, List.append_toArray, List.nil_append, List.cons_append]
  have hbW : W.heap[b]? = some (.cells #[.pointer none] 23 (0, 0)) := (hW.block _ (Array.getElem?_eq_some_iff.1 hb).1).trans hb
  have c0 : W.cell? ⟨b, 0, none⟩ = some (.pointer none) := cell_of_row _ _ 0 _ _ (0, 0) hbW
  clear hY
  gi_wp2
  refine bodyPost_ret (results_none rfl _ _ _) rfl ?_
  exact ⟨⟨_, rfl⟩, .inl h0⟩
set_option maxRecDepth 100000 in
theorem sel_nil (n b : Nat) (w : World) (hb : w.heap[b]? = some (.cells #[.pointer none] 23 (0, 0))) :
    SeqY Fence.wide n Tryz.prog 25 #[.pointer (some ⟨b, 0, none⟩), .pointer (some ⟨b + 1, 0, none⟩)] (fun _ : Nat => #[undef]) [] [] w := fun l J Jx W hW hJ hJx hY h0 => by
  refine callsIn_of_wp Tryz.func25 rfl trivial ?_ rfl
  simp only [Tryz.ntmps25, List.size_toArray, List.length_cons, List.length_nil, Nat.reduceAdd, Nat.reduceSub, Array.replicate_succ, Array.replicate_zero, List.push_toArray, List.append_toArray, List.nil_append, List.cons_append]
  have hbW : W.heap[b]? = some (.cells #[.pointer none] 23 (0, 0)) := (hW.block _ (Array.getElem?_eq_some_iff.1 hb).1).trans hb
  have c0 : W.cell? ⟨b, 0, none⟩ = some (.pointer none) := cell_of_row _ _ 0 _ _ (0, 0) hbW
  clear hY
  gi_wp2
  refine ⟨trivial, ?_⟩
  gi_wp2
  refine bodyPost_ret (results_none rfl _ _ _) rfl ?_
  exact ⟨⟨_, rfl⟩, .inl h0⟩
set_option maxRecDepth 100000 in
theorem rhy_nil (n b : Nat) (s : ByteArray) (hn : 2 ≤ n) (w : World) (hb : w.heap[b]? = some (.cells #[.pointer none] 23 (0, 0))) (hs : w.heap[b + 1]? = some (.cells #[.string s] 9 (0, 0))) :
    SeqY Fence.wide n Tryz.prog 26 #[.pointer (some ⟨b, 0, none⟩), .pointer (some ⟨b + 1, 0, none⟩)] (fun _ : Nat => #[undef]) [] [] w := fun l J Jx W hW hJ hJx hY h0 => by
  refine callsIn_of_wp Tryz.func26 rfl trivial ?_ rfl
  simp only [Tryz.ntmps26, List.size_toArray, List.length_cons, List.length_nil, Nat.reduceAdd, Nat.reduceSub, Array.replicate_succ, Array.replicate_zero, List.push_toArray, List.append_toArray, List.nil_append, List.cons_append]
  have hbW : W.heap[b]? = some (.cells #[.pointer none] 23 (0, 0)) := (hW.block _ (Array.getElem?_eq_some_iff.1 hb).1).trans hb
  have hsW : W.heap[b + 1]? = some (.cells #[.string s] 9 (0, 0)) := (hW.block _ (Array.getElem?_eq_some_iff.1 hs).1).trans hs
  have c0 : W.cell? ⟨b, 0, none⟩ = some (.pointer none) := cell_of_row _ _ 0 _ _ (0, 0) hbW
  have c1 : W.cell? ⟨b + 1, 0, none⟩ = some (.string s) := cell_of_row _ _ 0 _ _ (0, 0) hsW
  have Hg := Lib.hid (get_nil s W)
  clear hY
  gi_wp2
  refine ⟨trivial, fun _ => by omega, CallsIn.mono (callsIn_wide.2 Hg.out) ?_⟩
  rintro e w2 ⟨rfl, rfl⟩
  gi_wp2
  refine bodyPost_ret (results_none rfl _ _ _) rfl ?_
  exact ⟨⟨_, rfl⟩, .inl h0⟩
set_option maxRecDepth 100000 in
theorem bstr_none (b : Nat) (w : World) (h : w.heap[b]? = some (.cells #[.pointer none, .slice none 0 0] 116 (0, 0))) : Calls Tryz.prog 45 #[.pointer (some ⟨b, 0, none⟩)] w fun e w' => e = .returned (.string ⟨#[]⟩) ∧ Below w.heap.size w w' := by
  have c1 : w.cell? ⟨b, 1, none⟩ = some (.slice none 0 0) := cell_of_row _ _ 1 _ _ (0, 0) h
  have hsd : ∀ W : World, (Builtin.unsafeSliceData_ #[52] 163 #[.slice none 0 0]).run Tryz.prog W = .ok (.pointer none) W := fun W => by kernel_rfl
  have hus : ∀ W : World, (Builtin.unsafeString_ #[163, 3] 9 #[.pointer none, .int .i64 0]).run Tryz.prog W = .ok (.string ⟨#[]⟩) W := fun W => by kernel_rfl
  clear h
  go_enter Tryz.func45, Tryz.ntmps45
  go_wp2_with fail
  go_region
  go_wp2_with fail
  go_ret
  exact ⟨rfl, (Below.refl _ _).drew⟩
end Go.Proofs.YtgcdopafblcbhaaGreatDoor

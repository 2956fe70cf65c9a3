import Derived.Below
import Derived.ChangeMaps5
import Derived.RangeFuncBox
import Derived.WideKeyRuns
import Derived.Outline
import Derived.StringKeys
/- Maps as lists of their entries, whatever the elements are. No program in sight. -/
namespace Go.Proofs.YtgcdopafblcbhaaGreatDoor
set_option linter.unusedVariables false
set_option linter.unusedSimpArgs false
set_option linter.unusedSectionVars false
open Go Go.RowKit

def posA {α : Type} [DecidableEq α] (a : α) : List (α × Value) → Nat → Option (Nat × Value)
  | [], _ => none
  | x :: l, i => if a = x.1 then some (i, x.2) else posA a l (i + 1)
def getA {α : Type} [DecidableEq α] (a : α) : List (α × Value) → Option Value
  | [] => none
  | x :: l => if a = x.1 then some x.2 else getA a l
def putA {α : Type} [DecidableEq α] (a : α) (v : Value) : List (α × Value) → List (α × Value)
  | [] => [(a, v)]
  | x :: l => if a = x.1 then (a, v) :: l else x :: putA a v l
/-- how the keys of a type are held against each other -/
structure KeyOk {α : Type} [DecidableEq α] (P : Program) (kt : TypeId) (enc : α → Value) : Prop where
  find : ∀ (a : α) (l : List (α × Value)) (es : List MapEntry), es.map (fun e => (e.key, e.val)) = l.map (fun x => (enc x.1, x.2)) → ∀ w, (Instr.findKey kt (enc a) es).run P w = .ok (posA a l 0) w
  check : ∀ (b : Bool) (a : α) (w : World), (Instr.checkKey b 10000 kt (enc a)).run P w = .ok () w
  bits : ∀ a, Instr.sameBits 10000 (enc a) (enc a) = true
/-- a map in memory, its entries in their order -/
def MapL {α : Type} (enc : α → Value) (w : World) (B : Nat) (l : List (α × Value)) : Prop := ∃ (es : Array MapEntry) (clock : Nat), w.heap[B]? = some (.map es clock) ∧ es.toList.map (fun e => (e.key, e.val)) = l.map (fun x => (enc x.1, x.2))
variable {α : Type} [DecidableEq α]
theorem posA_get (a : α) : ∀ (l : List (α × Value)) (i : Nat), (posA a l i).map (·.2) = getA a l
  | [], _ => rfl
  | x :: l, i => by
    unfold posA getA
    split
    · rfl
    · exact posA_get a l (i + 1)
theorem posA_some {a : α} : ∀ {l : List (α × Value)} {i j : Nat} {v : Value}, posA a l i = some (j, v) → i ≤ j ∧ (∃ x, l[j - i]? = some x ∧ x.1 = a) ∧ ∀ u, putA a u l = l.set (j - i) (a, u)
  | [], i, j, v, h => by cases h
  | x :: l, i, j, v, h => by
    unfold posA at h
    split at h
    · rename_i e
      cases h
      rw [Nat.sub_self]
      refine ⟨Nat.le_refl _, ⟨x, rfl, e.symm⟩, fun u => ?_⟩
      unfold putA
      rw [if_pos e]; rfl
    · rename_i e
      obtain ⟨h1, ⟨y, h2, h3⟩, h4⟩ := posA_some h
      have e1 : j - i = (j - (i + 1)) + 1 := by omega
      rw [e1]
      refine ⟨by omega, ⟨y, by simpa using h2, h3⟩, fun u => ?_⟩
      unfold putA
      rw [if_neg e, h4]; rfl
theorem posA_none {a : α} : ∀ {l : List (α × Value)} {i : Nat}, posA a l i = none → ∀ u, putA a u l = l ++ [(a, u)]
  | [], _, _, _ => rfl
  | x :: l, i, h, u => by
    unfold posA at h
    split at h
    · cases h
    · rename_i e
      unfold putA
      rw [if_neg e, posA_none h]; rfl
theorem getA_put (a b : α) (v : Value) : ∀ l : List (α × Value), getA b (putA a v l) = if b = a then some v else getA b l
  | [] => by
    unfold putA getA getA
    rfl
  | x :: l => by
    unfold putA
    split
    · rename_i e
      unfold getA
      simp only
      split
      · rfl
      · rename_i e2
        rw [if_neg (fun e3 => e2 (by rw [e3, e]))]
    · rename_i e
      unfold getA
      rw [getA_put a b v l]
      by_cases e2 : b = x.1
      · rw [if_pos e2, if_pos e2, if_neg (fun e3 => e (by rw [← e3, e2]))]
      · rw [if_neg e2, if_neg e2]
theorem MapL.made (enc : α → Value) (w : World) : MapL enc (w.alloc (.map #[] 0)) w.heap.size ([] : List (α × Value)) := ⟨#[], 0, World.alloc_heap_new w _, rfl⟩
theorem MapL.of {enc : α → Value} {w w' : World} {B : Nat} {l : List (α × Value)} (h : MapL enc w B l) (hb : w'.heap[B]? = w.heap[B]?) : MapL enc w' B l := by
  obtain ⟨es, c, h1, h2⟩ := h
  exact ⟨es, c, hb.trans h1, h2⟩
theorem MapL.lt {enc : α → Value} {w : World} {B : Nat} {l : List (α × Value)} (h : MapL enc w B l) : B < w.heap.size := by
  obtain ⟨es, c, h1, h2⟩ := h
  exact (Array.getElem?_eq_some_iff.1 h1).1
theorem MapL.below {enc : α → Value} {w w' : World} {B : Nat} {l : List (α × Value)} (h : MapL enc w B l) (hb : Below w.heap.size w w') : MapL enc w' B l := h.of (hb.block _ h.lt)
theorem MapL.look {P : Program} {kt e t : TypeId} {enc : α → Value} (K : KeyOk P kt enc) {w : World} {B : Nat} {l : List (α × Value)} (h : MapL enc w B l) (ht : P.underlying t = some (.map kt e)) {z : Value} (hz : (zeroValue e).run P w = .ok z w) (a : α) (ok : Bool) :
    (Instr.lookup t (.map (some B)) (enc a) ok).run P w = .ok (if ok then .tuple #[(getA a l).getD z, .bool (getA a l).isSome] else (getA a l).getD z) w := by
  obtain ⟨es, c, h1, h2⟩ := h
  have hf := K.find a l es.toList h2 w
  have hg := posA_get a l 0
  cases hp : posA a l 0 with
  | none =>
    rw [hp] at hf hg
    rw [← hg]
    cases ok <;> simp [Instr.lookup, run_underlying ht, MapKept.run_getObj_map h1, K.check, hf, hz, Result.andThen]
  | some x =>
    rw [hp] at hf hg
    rw [← hg]
    cases ok <;> simp [Instr.lookup, run_underlying ht, MapKept.run_getObj_map h1, K.check, hf, hz, Result.andThen]
theorem MapL.store {P : Program} {kt e t : TypeId} {enc : α → Value} (K : KeyOk P kt enc) {w : World} {B : Nat} {l : List (α × Value)} (h : MapL enc w B l) (ht : P.underlying t = some (.map kt e)) (a : α) (v : Value) :
    ∃ w', (Instr.mapUpdate t (.map (some B)) (enc a) v).run P w = .ok () w' ∧ MapL enc w' B (putA a v l) ∧ w.grownBy w' (some B) := by
  obtain ⟨es, c, h1, h2⟩ := h
  have hf := K.find a l es.toList h2 w
  have hlen : es.toList.length = l.length := by have := congrArg List.length h2; simpa using this
  cases hp : posA a l 0 with
  | none =>
    rw [hp] at hf
    refine ⟨ChangeMaps.setBlock w B (.map (es.push { key := enc a, val := v, born := c }) (c + 1)), ?_, ⟨_, _, ChangeMaps.heap_setBlock_same h1 _, ?_⟩, ⟨rfl, rfl, rfl, by simp [ChangeMaps.setBlock], fun i _ hi => ChangeMaps.heap_setBlock_other h1 _ (fun e => hi (by rw [e]))⟩⟩
    · simp [Instr.mapUpdate, run_underlying ht, MapKept.run_getObj_map h1, K.check, hf, MapKept.run_setObj_map _ h1, Result.andThen, ChangeMaps.setBlock]
    · rw [posA_none hp, List.map_append, ← h2]
      simp
  | some x =>
    obtain ⟨j, u⟩ := x
    rw [hp] at hf
    obtain ⟨_, ⟨y, hy, hya⟩, hset⟩ := posA_some hp
    rw [Nat.sub_zero] at hy hset
    have hj : j < l.length := (List.getElem?_eq_some_iff.1 hy).1
    have hj2 : j < es.size := by rw [← hlen] at hj; simpa using hj
    have hkey : (es[j]).key = enc a := by
      have e1 := congrArg (fun z => z[j]?) h2
      simp only [List.getElem?_map, hy] at e1
      have e2 : es.toList[j]? = some es[j] := by simp [hj2]
      rw [e2] at e1
      simp at e1
      rw [← hya]; exact e1.1
    refine ⟨ChangeMaps.setBlock w B (.map (es.modify j fun e => { e with key := enc a, val := v }) c), ?_, ⟨_, _, ChangeMaps.heap_setBlock_same h1 _, ?_⟩, ⟨rfl, rfl, rfl, by simp [ChangeMaps.setBlock], fun i _ hi => ChangeMaps.heap_setBlock_other h1 _ (fun e => hi (by rw [e]))⟩⟩
    · have hst : (Instr.keyThatStays (((es[j]?).map (·.key)).getD (enc a)) (enc a)).run P w = .ok (enc a) w := by
        rw [show es[j]? = some es[j] by simp [hj2]]
        simp [Instr.keyThatStays, hkey, K.bits]
      simp [Instr.mapUpdate, run_underlying ht, MapKept.run_getObj_map h1, K.check, hf, hst, MapKept.run_setObj_map _ h1, Result.andThen, ChangeMaps.setBlock]
    · rw [hset]
      apply List.ext_getElem?
      intro i
      have e1 := congrArg (fun z => z[i]?) h2
      simp only [List.getElem?_map] at e1 ⊢
      rw [Array.getElem?_toList] at e1 ⊢
      rw [Array.getElem?_modify]
      by_cases hi : j = i
      · subst hi
        rw [List.getElem?_set_self hj]
        simp [hj2]
      · rw [if_neg hi, List.getElem?_set_ne hi]
        exact e1
omit [DecidableEq α] in
theorem keys_is {enc : α → Value} {l : List (α × Value)} {es : List MapEntry} {d : TypeDesc} (h : es.map (fun e => (e.key, e.val)) = l.map (fun x => (enc x.1, x.2))) (hk : ∀ a, MapKept.IsKey d (enc a)) : ∀ x ∈ es, MapKept.IsKey d x.key := by
  intro x hx
  have : (x.key, x.val) ∈ l.map (fun x => (enc x.1, x.2)) := by rw [← h]; exact List.mem_map_of_mem hx
  obtain ⟨y, _, hy⟩ := List.mem_map.1 this
  have e : x.key = enc y.1 := (congrArg Prod.fst hy).symm
  rw [e]; exact hk _
theorem findNow_pos {d : TypeDesc} {enc : α → Value} (hs : ∀ a b, Instr.sameNow d (enc a) (enc b) = some (decide (a = b))) (a : α) : ∀ (l : List (α × Value)) (es : List MapEntry) (i : Nat), es.map (fun e => (e.key, e.val)) = l.map (fun x => (enc x.1, x.2)) → Instr.findNow d (enc a) es i = some (posA a l i)
  | [], [], _, _ => rfl
  | [], e :: es, _, h => by simp at h
  | x :: l, [], _, h => by simp at h
  | x :: l, e :: es, i, h => by
    simp only [List.map_cons, List.cons.injEq, Prod.mk.injEq] at h
    obtain ⟨⟨h1, h2⟩, h3⟩ := h
    unfold Instr.findNow posA
    rw [h1, hs]
    by_cases e2 : a = x.1
    · simp [e2, h2]
    · simp [e2, findNow_pos hs a l es (i + 1) h3]
theorem keyOk_plain {P : Program} {kt : TypeId} {d : TypeDesc} {enc : α → Value} (hd : P.underlying kt = some d) (hk : ∀ a, MapKept.IsKey d (enc a)) (hs : ∀ a b, Instr.sameNow d (enc a) (enc b) = some (decide (a = b))) (hb : ∀ a, Instr.sameBits 10000 (enc a) (enc a) = true) : KeyOk P kt enc :=
  ⟨fun a l es h w => MapKept.run_findKey hd (findNow_pos hs a l es 0 h), fun b a w => MapKept.run_checkKey hd (hk a) b 9999, hb⟩
/-- numbers as keys -/
theorem keyOk_int {P : Program} {kt : TypeId} {q : IntKind} (hd : P.underlying kt = some (.int q)) : KeyOk P kt (fun a : Int => Value.int q a) :=
  keyOk_plain hd (fun a => rfl) (fun a b => by by_cases e : a = b <;> simp [Instr.sameNow, e]) (fun a => by simp [Instr.sameBits])
/-- texts as keys -/
theorem keyOk_string {P : Program} {kt : TypeId} (hd : P.underlying kt = some .string) : KeyOk P kt (fun a : ByteArray => Value.string a) :=
  keyOk_plain hd (fun a => trivial) (fun a b => by
    show some (a == b) = _
    by_cases e : a = b
    · rw [(MapKept.bytes_beq a b).2 e, decide_eq_true e]
    · rw [decide_eq_false e, Bool.eq_false_iff.2 (fun h => e ((MapKept.bytes_beq a b).1 h))]) (fun a => (MapKept.bytes_beq a a).2 rfl)
theorem findAsking_pos {P : Program} {kt : TypeId} {enc : α → Value} (hs : ∀ a b w, (Op.equal kt (enc a) (enc b)).run P w = .ok (decide (a = b)) w) (a : α) (w : World) : ∀ (l : List (α × Value)) (es : List MapEntry) (i : Nat), es.map (fun e => (e.key, e.val)) = l.map (fun x => (enc x.1, x.2)) → (Instr.findAsking kt (enc a) es i).run P w = .ok (posA a l i) w
  | [], [], _, _ => rfl
  | [], e :: es, _, h => by simp at h
  | x :: l, [], _, h => by simp at h
  | x :: l, e :: es, i, h => by
    simp only [List.map_cons, List.cons.injEq, Prod.mk.injEq] at h
    obtain ⟨⟨h1, h2⟩, h3⟩ := h
    unfold Instr.findAsking posA
    rw [h1]
    by_cases e2 : a = x.1
    · simp [hs, e2, h2, Result.andThen]
    · simp [hs, e2, findAsking_pos hs a w l es (i + 1) h3, Result.andThen]
def pairV (p : Int × Int) : Value := .agg #[.int .i32 p.1, .int .i32 p.2]
/-- two runes as a key -/
theorem keyOk_pair {P : Program} {kt et : TypeId} {info : TypeInfo} (hd : P.underlying kt = some (.array 2 et)) (he : P.underlying et = some (.int .i32)) (hi : P.info? et = some info) (hs : info.size = 1) : KeyOk P kt pairV := by
  have hsz : ∀ w, (sizeOf et).run P w = .ok 1 w := fun w => by simp [sizeOf, typeInfo, hi, hs, Result.andThen]
  have hpk : P.plainKey et = true := by unfold Program.plainKey; rw [he]
  have hp0 : ∀ (x y : Int) w, (part et #[Value.int .i32 x, Value.int .i32 y] 0).run P w = .ok (.int .i32 x) w := fun x y w => run_part_plain w hpk rfl
  have hp1 : ∀ (x y : Int) w, (part et #[Value.int .i32 x, Value.int .i32 y] 1).run P w = .ok (.int .i32 y) w := fun x y w => run_part_plain w hpk rfl
  have heq : ∀ (x y : Int) w, (Op.equalIn 9999 et (.int .i32 x) (.int .i32 y)).run P w = .ok (x == y) w := fun x y w => by
    unfold Op.equalIn
    simp [run_underlying he, Result.andThen]
  have hck : ∀ b (x : Int) w, (Instr.checkKey b 9999 et (.int .i32 x)).run P w = .ok () w := fun b x w => by
    unfold Instr.checkKey
    simp [run_underlying he, Result.andThen]
  refine ⟨fun a l es h w => ?_, fun b a w => ?_, fun a => ?_⟩
  · have hfk : (Instr.findKey kt (pairV a) es).run P w = (Instr.findAsking kt (pairV a) es).run P w := run_findKey_eq w (by rw [hd]) _ _
    rw [hfk]
    refine findAsking_pos (fun a b w => ?_) a w l es 0 h
    unfold Op.equal Op.maxDepth
    unfold Op.equalIn
    have e0 : List.range' 0 2 = [0, 1] := rfl
    simp [run_underlying hd, Result.andThen, pairV, hsz, e0, hp0, hp1, heq]
    obtain ⟨a1, a2⟩ := a
    obtain ⟨b1, b2⟩ := b
    by_cases h1 : a1 = b1
    · by_cases h2 : a2 = b2
      · simp [h1, h2, hp1, heq, Result.andThen]
      · simp [h1, h2, hp1, heq, Result.andThen]
    · simp [h1, Result.andThen]
  · unfold Instr.checkKey
    have e0 : List.range' 0 2 = [0, 1] := rfl
    simp [run_underlying hd, Result.andThen, pairV, hsz, e0, hp0, hp1, hck]
  · simp [pairV, Instr.sameBits]
end Go.Proofs.YtgcdopafblcbhaaGreatDoor

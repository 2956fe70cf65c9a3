/-
  No cell of these rows narrows 'for every input' (looked for: loops, veiled, ifaces, maps, wideKeys, modest, calm, conditions, laid).
  DERIVED. THE GIVEN ROWS OF THIS SEAT. 9 by the template 'for every input the law returns true; each argument reads behind the call as it read before'; 0 by the template 'total and deterministic' (their statements: YtjlncnjmcgkkhaaTotals.lean).
  GIVEN WITH THE SEED: the statements are not yours to turn. If you find one false, say at which input.
  Laid BY PROGRAM, IN A SANDBOX (cutbox-rows.mjs): the forced cells as the released guide's own fill.sh prints them over the translation 993c0000cd9358c4… (all of the seat's roots in one cut). By AI agents, Wed Nov 11 2026. No macro, syntax, notation, axiom, sorry.
-/
import Derived.Test.YtjlncnjmcgkkhaaChecked
import GoSem.Claim
import GoSem.ClaimJoined
import GoSem.ClaimMapViews
import Derived.JoinedTies
import Derived.KernelRfl
namespace Go.Proofs.Ytjlncnjmcgkkhaa
/- THE CELL 'sum', in the pinned program and in every row, IS THE sha256 OF THE DUMP (.gsa) THAT YtjlncnjmcgkkhaaProg.lean LOADS. Nothing in Lean hashes anything: it is a label: what it is worth is what the hold of that sum in a sandbox is worth. -/
noncomputable def Try.pinned : Pinned := { name := "ytjlncnjmcgkkhaa", sum := "993c0000cd9358c4f5fd8c6aaa5c492ea2c14be696814f545079e9ab86b88c5a", checked := Try.checked }
namespace Rows
def none {H : Type} : Left H := { results := [], args := [] }

/-- 'canticlelaw31.ChantTempos': WHATEVER THE INPUT: true; the input reads as it did. -/
def chantTemposSpec : ChangeSpec := { name := "chantTempos", fn := fun _ => fun
  | [d] => { results := [.lit (.bool true)], args := [d] }
  | _ => none }
def chantTemposRow : OpenClaim := { program := "ytjlncnjmcgkkhaa", sum := "993c0000cd9358c4f5fd8c6aaa5c492ea2c14be696814f545079e9ab86b88c5a", func := "canticle/canticlelaw31.ChantTempos", spec := "chantTempos", inPlace := ["math.Float64bits", "math.Float64frombits"], unfollowed := true, recurses := true, leaving := true, apart := false }
def ChantTemposSaid : Prop := chantTemposRow.holds Try.pinned (OpenSpec.ofChange chantTemposSpec)

/-- ITS FALSE NEIGHBOUR: 'it returns false'. Refute it at one input. -/
def chantTemposWrong : ChangeSpec := { name := "chantTempos", fn := fun _ => fun
  | [d] => { results := [.lit (.bool false)], args := [d] }
  | _ => none }
def ChantTemposWrongFalsely : Prop := chantTemposRow.holds Try.pinned (OpenSpec.ofChange chantTemposWrong)

/-- 'canticlelaw31.ChantMerges': WHATEVER THE INPUT: true; the input reads as it did. -/
def chantMergesSpec : ChangeSpec := { name := "chantMerges", fn := fun _ => fun
  | [d] => { results := [.lit (.bool true)], args := [d] }
  | _ => none }
def chantMergesRow : OpenClaim := { program := "ytjlncnjmcgkkhaa", sum := "993c0000cd9358c4f5fd8c6aaa5c492ea2c14be696814f545079e9ab86b88c5a", func := "canticle/canticlelaw31.ChantMerges", spec := "chantMerges", inPlace := ["math.Float64bits", "math.Float64frombits"], unfollowed := true, recurses := true, leaving := true, apart := false }
def ChantMergesSaid : Prop := chantMergesRow.holds Try.pinned (OpenSpec.ofChange chantMergesSpec)

/-- ITS FALSE NEIGHBOUR: 'it returns false'. Refute it at one input. -/
def chantMergesWrong : ChangeSpec := { name := "chantMerges", fn := fun _ => fun
  | [d] => { results := [.lit (.bool false)], args := [d] }
  | _ => none }
def ChantMergesWrongFalsely : Prop := chantMergesRow.holds Try.pinned (OpenSpec.ofChange chantMergesWrong)

/-- 'canticlelaw31.ChantSounds': WHATEVER THE INPUT: true; the input reads as it did. -/
def chantSoundsSpec : ChangeSpec := { name := "chantSounds", fn := fun _ => fun
  | [d1, d2] => { results := [.lit (.bool true)], args := [d1, d2] }
  | _ => none }
def chantSoundsRow : OpenClaim := { program := "ytjlncnjmcgkkhaa", sum := "993c0000cd9358c4f5fd8c6aaa5c492ea2c14be696814f545079e9ab86b88c5a", func := "canticle/canticlelaw31.ChantSounds", spec := "chantSounds", inPlace := ["math.Float64bits", "math.Float64frombits"], unfollowed := true, recurses := true, leaving := true, apart := false }
def ChantSoundsSaid : Prop := chantSoundsRow.holds Try.pinned (OpenSpec.ofChange chantSoundsSpec)

/-- ITS FALSE NEIGHBOUR: 'it returns false'. Refute it at one input. -/
def chantSoundsWrong : ChangeSpec := { name := "chantSounds", fn := fun _ => fun
  | [d1, d2] => { results := [.lit (.bool false)], args := [d1, d2] }
  | _ => none }
def ChantSoundsWrongFalsely : Prop := chantSoundsRow.holds Try.pinned (OpenSpec.ofChange chantSoundsWrong)

/-- 'canticlelaw31.ChantRounds': WHATEVER THE INPUT: true; the input reads as it did. -/
def chantRoundsSpec : ChangeSpec := { name := "chantRounds", fn := fun _ => fun
  | [d1, d2, d3] => { results := [.lit (.bool true)], args := [d1, d2, d3] }
  | _ => none }
def chantRoundsRow : OpenClaim := { program := "ytjlncnjmcgkkhaa", sum := "993c0000cd9358c4f5fd8c6aaa5c492ea2c14be696814f545079e9ab86b88c5a", func := "canticle/canticlelaw31.ChantRounds", spec := "chantRounds", inPlace := ["math.Float64bits", "math.Float64frombits"], unfollowed := true, recurses := true, leaving := true, apart := false }
def ChantRoundsSaid : Prop := chantRoundsRow.holds Try.pinned (OpenSpec.ofChange chantRoundsSpec)

/-- ITS FALSE NEIGHBOUR: 'it returns false'. Refute it at one input. -/
def chantRoundsWrong : ChangeSpec := { name := "chantRounds", fn := fun _ => fun
  | [d1, d2, d3] => { results := [.lit (.bool false)], args := [d1, d2, d3] }
  | _ => none }
def ChantRoundsWrongFalsely : Prop := chantRoundsRow.holds Try.pinned (OpenSpec.ofChange chantRoundsWrong)

/-- 'canticlelaw31.ChantScales': WHATEVER THE INPUT: true; the input reads as it did. -/
def chantScalesSpec : ChangeSpec := { name := "chantScales", fn := fun _ => fun
  | [d1, d2] => { results := [.lit (.bool true)], args := [d1, d2] }
  | _ => none }
def chantScalesRow : OpenClaim := { program := "ytjlncnjmcgkkhaa", sum := "993c0000cd9358c4f5fd8c6aaa5c492ea2c14be696814f545079e9ab86b88c5a", func := "canticle/canticlelaw31.ChantScales", spec := "chantScales", inPlace := ["math.Float64bits", "math.Float64frombits"], unfollowed := true, recurses := true, leaving := true, apart := false }
def ChantScalesSaid : Prop := chantScalesRow.holds Try.pinned (OpenSpec.ofChange chantScalesSpec)

/-- ITS FALSE NEIGHBOUR: 'it returns false'. Refute it at one input. -/
def chantScalesWrong : ChangeSpec := { name := "chantScales", fn := fun _ => fun
  | [d1, d2] => { results := [.lit (.bool false)], args := [d1, d2] }
  | _ => none }
def ChantScalesWrongFalsely : Prop := chantScalesRow.holds Try.pinned (OpenSpec.ofChange chantScalesWrong)

/-- 'canticlelaw31.ChantSings': WHATEVER THE INPUT: true; the input reads as it did. -/
def chantSingsSpec : ChangeSpec := { name := "chantSings", fn := fun _ => fun
  | [d1, d2] => { results := [.lit (.bool true)], args := [d1, d2] }
  | _ => none }
def chantSingsRow : OpenClaim := { program := "ytjlncnjmcgkkhaa", sum := "993c0000cd9358c4f5fd8c6aaa5c492ea2c14be696814f545079e9ab86b88c5a", func := "canticle/canticlelaw31.ChantSings", spec := "chantSings", inPlace := ["math.Float64bits", "math.Float64frombits"], unfollowed := true, recurses := true, leaving := true, apart := false }
def ChantSingsSaid : Prop := chantSingsRow.holds Try.pinned (OpenSpec.ofChange chantSingsSpec)

/-- ITS FALSE NEIGHBOUR: 'it returns false'. Refute it at one input. -/
def chantSingsWrong : ChangeSpec := { name := "chantSings", fn := fun _ => fun
  | [d1, d2] => { results := [.lit (.bool false)], args := [d1, d2] }
  | _ => none }
def ChantSingsWrongFalsely : Prop := chantSingsRow.holds Try.pinned (OpenSpec.ofChange chantSingsWrong)

/-- 'canticlelaw31.ChantHeard': WHATEVER THE INPUT: true; the input reads as it did. -/
def chantHeardSpec : ChangeSpec := { name := "chantHeard", fn := fun _ => fun
  | [d1, d2] => { results := [.lit (.bool true)], args := [d1, d2] }
  | _ => none }
def chantHeardRow : OpenClaim := { program := "ytjlncnjmcgkkhaa", sum := "993c0000cd9358c4f5fd8c6aaa5c492ea2c14be696814f545079e9ab86b88c5a", func := "canticle/canticlelaw31.ChantHeard", spec := "chantHeard", inPlace := ["math.Float64bits", "math.Float64frombits"], unfollowed := true, recurses := true, leaving := true, apart := false }
def ChantHeardSaid : Prop := chantHeardRow.holds Try.pinned (OpenSpec.ofChange chantHeardSpec)

/-- ITS FALSE NEIGHBOUR: 'it returns false'. Refute it at one input. -/
def chantHeardWrong : ChangeSpec := { name := "chantHeard", fn := fun _ => fun
  | [d1, d2] => { results := [.lit (.bool false)], args := [d1, d2] }
  | _ => none }
def ChantHeardWrongFalsely : Prop := chantHeardRow.holds Try.pinned (OpenSpec.ofChange chantHeardWrong)

/-- 'canticlelaw31.ChantGrids': WHATEVER THE INPUT: true; the input reads as it did. -/
def chantGridsSpec : ChangeSpec := { name := "chantGrids", fn := fun _ => fun
  | [d1, d2] => { results := [.lit (.bool true)], args := [d1, d2] }
  | _ => none }
def chantGridsRow : OpenClaim := { program := "ytjlncnjmcgkkhaa", sum := "993c0000cd9358c4f5fd8c6aaa5c492ea2c14be696814f545079e9ab86b88c5a", func := "canticle/canticlelaw31.ChantGrids", spec := "chantGrids", inPlace := ["math.Float64bits", "math.Float64frombits", "math.archFloor", "math.archTrunc", "math.RoundToEven"], unfollowed := true, recurses := true, leaving := true, apart := false }
def ChantGridsSaid : Prop := chantGridsRow.holds Try.pinned (OpenSpec.ofChange chantGridsSpec)

/-- ITS FALSE NEIGHBOUR: 'it returns false'. Refute it at one input. -/
def chantGridsWrong : ChangeSpec := { name := "chantGrids", fn := fun _ => fun
  | [d1, d2] => { results := [.lit (.bool false)], args := [d1, d2] }
  | _ => none }
def ChantGridsWrongFalsely : Prop := chantGridsRow.holds Try.pinned (OpenSpec.ofChange chantGridsWrong)

/-- 'canticlelaw31.ChantFree': WHATEVER THE INPUT: true; the input reads as it did. -/
def chantFreeSpec : ChangeSpec := { name := "chantFree", fn := fun _ => fun
  | [d] => { results := [.lit (.bool true)], args := [d] }
  | _ => none }
def chantFreeRow : OpenClaim := { program := "ytjlncnjmcgkkhaa", sum := "993c0000cd9358c4f5fd8c6aaa5c492ea2c14be696814f545079e9ab86b88c5a", func := "canticle/canticlelaw31.ChantFree", spec := "chantFree", inPlace := ["math.Float64bits", "math.Float64frombits", "(*sync.WaitGroup).Add", "internal/race.ReleaseMerge", "internal/race.Disable", "internal/race.Enable", "internal/synctest.IsInBubble", "internal/synctest.Associate[sync.WaitGroup]", "sync.fatal", "sync/atomic.OrUint64", "sync/atomic.AddUint64", "internal/race.Read", "sync/atomic.LoadUint64", "sync/atomic.StoreUint64", "internal/synctest.Disassociate[sync.WaitGroup]", "sync.runtime_Semrelease", "(*sync.WaitGroup).Done", "(*sync.WaitGroup).Wait", "internal/race.Acquire", "internal/synctest.IsAssociated[sync.WaitGroup]", "sync/atomic.CompareAndSwapUint64", "internal/race.Write", "sync.runtime_SemacquireWaitGroup"], unfollowed := true, recurses := true, leaving := true, apart := false }
def ChantFreeSaid : Prop := chantFreeRow.holds Try.pinned (OpenSpec.ofChange chantFreeSpec)

/-- ITS FALSE NEIGHBOUR: 'it returns false'. Refute it at one input. -/
def chantFreeWrong : ChangeSpec := { name := "chantFree", fn := fun _ => fun
  | [d] => { results := [.lit (.bool false)], args := [d] }
  | _ => none }
def ChantFreeWrongFalsely : Prop := chantFreeRow.holds Try.pinned (OpenSpec.ofChange chantFreeWrong)

/- THE SECOND FORM. 'bulk': how many values and letters a reading holds, each counted each time it is reached (what is shared counts as often as it is met; a slice's spare places count too). A statement '..UptoSaid' is the law's where the arguments, and the package variables that the reading takes, are together of bulk at most 1048576: NARROWER than '..Said'. Prove '..Said' where nothing that the law and all that it calls make is longer than what came in: it says more and counts as full. Else prove '..UptoSaid'. A law counts once. -/
mutual
def uptoBulk {H : Type} : DataW H → Nat
  | .lit (.string bytes) => bytes.length + 1
  | .lit _ => 1
  | .nil => 1
  | .ptr d => uptoBulk d + 1
  | .slice elems spare => uptoBulkAll elems + uptoBulkAll spare + 1
  | .agg parts => uptoBulkAll parts + 1
  | .iface _ d => uptoBulk d + 1
  | .map entries => uptoBulkEntries entries + 1
  | .held _ => 1
def uptoBulkAll {H : Type} : List (DataW H) → Nat
  | [] => 0
  | d :: r => uptoBulk d + uptoBulkAll r
def uptoBulkEntries {H : Type} : List (Lit × DataW H) → Nat
  | [] => 0
  | x :: r => uptoBulkEntry x + uptoBulkEntries r
def uptoBulkEntry {H : Type} : Lit × DataW H → Nat
  | (.string bytes, d) => bytes.length + uptoBulk d + 1
  | (_, d) => uptoBulk d + 1
 end
def uptoSmall : (H : Type) → List (DataW H) → Bool := fun _ ds => decide (uptoBulkAll ds ≤ 1048576)
def OpenSpec.upto (s : _root_.Go.ChangeSpec) : _root_.Go.OpenSpec := { _root_.Go.OpenSpec.ofChange s with cond := some uptoSmall }

/-- 'canticlelaw31.ChantTempos', WHERE WHAT IT READS IS OF BULK AT MOST 1048576: true; the input reads as it did. -/
def chantTemposUptoRow : OpenClaim := { program := "ytjlncnjmcgkkhaa", sum := "993c0000cd9358c4f5fd8c6aaa5c492ea2c14be696814f545079e9ab86b88c5a", func := "canticle/canticlelaw31.ChantTempos", spec := "chantTempos", inPlace := ["math.Float64bits", "math.Float64frombits"], unfollowed := true, recurses := true, leaving := true, apart := false, narrowed := true }
def ChantTemposUptoSaid : Prop := chantTemposUptoRow.holds Try.pinned (OpenSpec.upto chantTemposSpec)

/-- 'canticlelaw31.ChantMerges', WHERE WHAT IT READS IS OF BULK AT MOST 1048576: true; the input reads as it did. -/
def chantMergesUptoRow : OpenClaim := { program := "ytjlncnjmcgkkhaa", sum := "993c0000cd9358c4f5fd8c6aaa5c492ea2c14be696814f545079e9ab86b88c5a", func := "canticle/canticlelaw31.ChantMerges", spec := "chantMerges", inPlace := ["math.Float64bits", "math.Float64frombits"], unfollowed := true, recurses := true, leaving := true, apart := false, narrowed := true }
def ChantMergesUptoSaid : Prop := chantMergesUptoRow.holds Try.pinned (OpenSpec.upto chantMergesSpec)

/-- 'canticlelaw31.ChantSounds', WHERE WHAT IT READS IS OF BULK AT MOST 1048576: true; the input reads as it did. -/
def chantSoundsUptoRow : OpenClaim := { program := "ytjlncnjmcgkkhaa", sum := "993c0000cd9358c4f5fd8c6aaa5c492ea2c14be696814f545079e9ab86b88c5a", func := "canticle/canticlelaw31.ChantSounds", spec := "chantSounds", inPlace := ["math.Float64bits", "math.Float64frombits"], unfollowed := true, recurses := true, leaving := true, apart := false, narrowed := true }
def ChantSoundsUptoSaid : Prop := chantSoundsUptoRow.holds Try.pinned (OpenSpec.upto chantSoundsSpec)

/-- 'canticlelaw31.ChantRounds', WHERE WHAT IT READS IS OF BULK AT MOST 1048576: true; the input reads as it did. -/
def chantRoundsUptoRow : OpenClaim := { program := "ytjlncnjmcgkkhaa", sum := "993c0000cd9358c4f5fd8c6aaa5c492ea2c14be696814f545079e9ab86b88c5a", func := "canticle/canticlelaw31.ChantRounds", spec := "chantRounds", inPlace := ["math.Float64bits", "math.Float64frombits"], unfollowed := true, recurses := true, leaving := true, apart := false, narrowed := true }
def ChantRoundsUptoSaid : Prop := chantRoundsUptoRow.holds Try.pinned (OpenSpec.upto chantRoundsSpec)

/-- 'canticlelaw31.ChantScales', WHERE WHAT IT READS IS OF BULK AT MOST 1048576: true; the input reads as it did. -/
def chantScalesUptoRow : OpenClaim := { program := "ytjlncnjmcgkkhaa", sum := "993c0000cd9358c4f5fd8c6aaa5c492ea2c14be696814f545079e9ab86b88c5a", func := "canticle/canticlelaw31.ChantScales", spec := "chantScales", inPlace := ["math.Float64bits", "math.Float64frombits"], unfollowed := true, recurses := true, leaving := true, apart := false, narrowed := true }
def ChantScalesUptoSaid : Prop := chantScalesUptoRow.holds Try.pinned (OpenSpec.upto chantScalesSpec)

/-- 'canticlelaw31.ChantSings', WHERE WHAT IT READS IS OF BULK AT MOST 1048576: true; the input reads as it did. -/
def chantSingsUptoRow : OpenClaim := { program := "ytjlncnjmcgkkhaa", sum := "993c0000cd9358c4f5fd8c6aaa5c492ea2c14be696814f545079e9ab86b88c5a", func := "canticle/canticlelaw31.ChantSings", spec := "chantSings", inPlace := ["math.Float64bits", "math.Float64frombits"], unfollowed := true, recurses := true, leaving := true, apart := false, narrowed := true }
def ChantSingsUptoSaid : Prop := chantSingsUptoRow.holds Try.pinned (OpenSpec.upto chantSingsSpec)

/-- 'canticlelaw31.ChantHeard', WHERE WHAT IT READS IS OF BULK AT MOST 1048576: true; the input reads as it did. -/
def chantHeardUptoRow : OpenClaim := { program := "ytjlncnjmcgkkhaa", sum := "993c0000cd9358c4f5fd8c6aaa5c492ea2c14be696814f545079e9ab86b88c5a", func := "canticle/canticlelaw31.ChantHeard", spec := "chantHeard", inPlace := ["math.Float64bits", "math.Float64frombits"], unfollowed := true, recurses := true, leaving := true, apart := false, narrowed := true }
def ChantHeardUptoSaid : Prop := chantHeardUptoRow.holds Try.pinned (OpenSpec.upto chantHeardSpec)

/-- 'canticlelaw31.ChantGrids', WHERE WHAT IT READS IS OF BULK AT MOST 1048576: true; the input reads as it did. -/
def chantGridsUptoRow : OpenClaim := { program := "ytjlncnjmcgkkhaa", sum := "993c0000cd9358c4f5fd8c6aaa5c492ea2c14be696814f545079e9ab86b88c5a", func := "canticle/canticlelaw31.ChantGrids", spec := "chantGrids", inPlace := ["math.Float64bits", "math.Float64frombits", "math.archFloor", "math.archTrunc", "math.RoundToEven"], unfollowed := true, recurses := true, leaving := true, apart := false, narrowed := true }
def ChantGridsUptoSaid : Prop := chantGridsUptoRow.holds Try.pinned (OpenSpec.upto chantGridsSpec)

/-- 'canticlelaw31.ChantFree', WHERE WHAT IT READS IS OF BULK AT MOST 1048576: true; the input reads as it did. -/
def chantFreeUptoRow : OpenClaim := { program := "ytjlncnjmcgkkhaa", sum := "993c0000cd9358c4f5fd8c6aaa5c492ea2c14be696814f545079e9ab86b88c5a", func := "canticle/canticlelaw31.ChantFree", spec := "chantFree", inPlace := ["math.Float64bits", "math.Float64frombits", "(*sync.WaitGroup).Add", "internal/race.ReleaseMerge", "internal/race.Disable", "internal/race.Enable", "internal/synctest.IsInBubble", "internal/synctest.Associate[sync.WaitGroup]", "sync.fatal", "sync/atomic.OrUint64", "sync/atomic.AddUint64", "internal/race.Read", "sync/atomic.LoadUint64", "sync/atomic.StoreUint64", "internal/synctest.Disassociate[sync.WaitGroup]", "sync.runtime_Semrelease", "(*sync.WaitGroup).Done", "(*sync.WaitGroup).Wait", "internal/race.Acquire", "internal/synctest.IsAssociated[sync.WaitGroup]", "sync/atomic.CompareAndSwapUint64", "internal/race.Write", "sync.runtime_SemacquireWaitGroup"], unfollowed := true, recurses := true, leaving := true, apart := false, narrowed := true }
def ChantFreeUptoSaid : Prop := chantFreeUptoRow.holds Try.pinned (OpenSpec.upto chantFreeSpec)

end Rows
end Go.Proofs.Ytjlncnjmcgkkhaa

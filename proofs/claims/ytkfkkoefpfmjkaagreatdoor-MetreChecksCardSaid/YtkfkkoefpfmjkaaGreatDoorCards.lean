/-
  DERIVED. GIVEN WITH THE SEED: THE CARDS: each row of YtkfkkoefpfmjkaaGreatDoorRows.lean that lists a variable, with what it lists TIED to the program's text (the seventh form; the later family's looks); each row that meets fmt, with fmt's text TOLD by the authors' own Lean function (tested against real Go, not proved from fmt's source: count such statements apart). THE CARD IS WHAT COUNTS. Prove the row's statement (the work); the ties are given (YtkfkkoefpfmjkaaGreatDoorTie.lean); close each card by the builder's one call (the guide's Derived/Test/ToyasCard.lean, 'card_holds'). Laid BY PROGRAM, IN A SANDBOX (cutbox-door.mjs). By AI agents, Wed Nov 11 2026. No macro, syntax, notation, axiom, sorry.
-/
import Derived.Test.YtkfkkoefpfmjkaaGreatDoorRows
import GoSem.ClaimSeven
namespace Go.Proofs.YtkfkkoefpfmjkaaGreatDoor
namespace Rows

/-- THE TIED CARD OF 'canticlelaw13.MetreChecks'. -/
def metreChecksCard : Claim7 := { stood := { row := metreChecksRow, standIns := [], harness := (true, "e145017f39ef1ea1f5f948e28105a67c860341242787e4ebb0ec9ae60952bbaf"), looks := true }, kinds := [], alts := [], laidByText := true, laidKinds := [.data, .data, .data, .sentinel, .sentinel], laidTests := true, laidLooks := .later }
def MetreChecksCardSaid : Prop := Claim7.holds Tryz.pinned (.plain (OpenSpec.ofChange metreChecksSpec)) metreChecksCard

/-- THE SECOND FORM's CARD OF 'canticlelaw13.MetreChecks'. -/
def metreChecksUptoCard : Claim7 := { stood := { row := metreChecksUptoRow, standIns := [], harness := (true, "e145017f39ef1ea1f5f948e28105a67c860341242787e4ebb0ec9ae60952bbaf"), looks := true }, kinds := [], alts := [], laidByText := true, laidKinds := [.data, .data, .data, .sentinel, .sentinel], laidTests := true, laidLooks := .later }
def MetreChecksUptoCardSaid : Prop := Claim7.holds Tryz.pinned (.plain (OpenSpec.upto metreChecksSpec)) metreChecksUptoCard
end Rows
end Go.Proofs.YtkfkkoefpfmjkaaGreatDoor

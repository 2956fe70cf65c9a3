/-
  DERIVED. GIVEN WITH THE SEED: THE CARDS: each row of YtgcdopafblcbhaaGreatDoorRows.lean that lists a variable, with what it lists TIED to the program's text (the seventh form; the later family's looks); each row that meets fmt, with fmt's text TOLD by the authors' own Lean function (tested against real Go, not proved from fmt's source: count such statements apart). THE CARD IS WHAT COUNTS. Prove the row's statement (the work); the ties are given (YtgcdopafblcbhaaGreatDoorTie.lean); close each card by the builder's one call (the guide's Derived/Test/ToyasCard.lean, 'card_holds'). Laid BY PROGRAM, IN A SANDBOX (cutbox-door.mjs). By AI agents, Wed Nov 11 2026. No macro, syntax, notation, axiom, sorry.
-/
import Derived.Test.YtgcdopafblcbhaaGreatDoorRows
import GoSem.ClaimSeven
namespace Go.Proofs.YtgcdopafblcbhaaGreatDoor
namespace Rows

/-- THE TIED CARD OF 'canticlelaw24.VocabNames'. -/
def vocabNamesCard : Claim7 := { stood := { row := vocabNamesRow, standIns := [], harness := (true, "f6a73df0832d0f8dcbbfc62a31a5c019a83e43a17a92d1fad2e5c9a1ea7e4882"), looks := true }, kinds := [], alts := [], laidByText := true, laidKinds := [.data, .data, .data, .data, .sentinel, .sentinel, .pinned], laidTests := true, laidLooks := .later }
def VocabNamesCardSaid : Prop := Claim7.holds Tryz.pinned (.plain (OpenSpec.ofChange vocabNamesSpec)) vocabNamesCard

/-- THE SECOND FORM's CARD OF 'canticlelaw24.VocabNames'. -/
def vocabNamesUptoCard : Claim7 := { stood := { row := vocabNamesUptoRow, standIns := [], harness := (true, "f6a73df0832d0f8dcbbfc62a31a5c019a83e43a17a92d1fad2e5c9a1ea7e4882"), looks := true }, kinds := [], alts := [], laidByText := true, laidKinds := [.data, .data, .data, .data, .sentinel, .sentinel, .pinned], laidTests := true, laidLooks := .later }
def VocabNamesUptoCardSaid : Prop := Claim7.holds Tryz.pinned (.plain (OpenSpec.upto vocabNamesSpec)) vocabNamesUptoCard
end Rows
end Go.Proofs.YtgcdopafblcbhaaGreatDoor

/-
  DERIVED. GIVEN WITH THE SEED: THE CARDS: each row of YtgklikkddckgbaaGreatDoorRows.lean that lists a variable, with what it lists TIED to the program's text (the seventh form; the later family's looks); each row that meets fmt, with fmt's text TOLD by the authors' own Lean function (tested against real Go, not proved from fmt's source: count such statements apart). THE CARD IS WHAT COUNTS. Prove the row's statement (the work); the ties are given (YtgklikkddckgbaaGreatDoorTie.lean); close each card by the builder's one call (the guide's Derived/Test/ToyasCard.lean, 'card_holds'). Laid BY PROGRAM, IN A SANDBOX (cutbox-door.mjs). By AI agents, Wed Nov 11 2026. No macro, syntax, notation, axiom, sorry.
-/
import Derived.Test.YtgklikkddckgbaaGreatDoorRows
import GoSem.ClaimSeven
namespace Go.Proofs.YtgklikkddckgbaaGreatDoor
namespace Rows

/-- THE TIED CARD OF 'canticlelaw18.MouldFits'. -/
def mouldFitsCard : Claim7 := { stood := { row := mouldFitsRow, standIns := [], harness := (true, "5e382eb2a93edc8a2149d9d91411bd1129859cd84ea20f0ef3575aec56e67244"), looks := true }, kinds := [], alts := [], laidByText := true, laidKinds := [.data, .data, .data, .data, .sentinel, .sentinel, .pinned], laidTests := true, laidLooks := .later }
def MouldFitsCardSaid : Prop := Claim7.holds Tryz.pinned (.plain (OpenSpec.ofChange mouldFitsSpec)) mouldFitsCard

/-- THE TIED CARD OF 'canticlelaw18.MouldEach'. -/
def mouldEachCard : Claim7 := { stood := { row := mouldEachRow, standIns := [], harness := (true, "5e382eb2a93edc8a2149d9d91411bd1129859cd84ea20f0ef3575aec56e67244"), looks := true }, kinds := [], alts := [], laidByText := true, laidKinds := [.data, .data, .data, .data, .sentinel, .sentinel, .pinned], laidTests := true, laidLooks := .later }
def MouldEachCardSaid : Prop := Claim7.holds Tryz.pinned (.plain (OpenSpec.ofChange mouldEachSpec)) mouldEachCard

/-- THE TIED CARD OF 'canticlelaw18.MouldSestina'. -/
def mouldSestinaCard : Claim7 := { stood := { row := mouldSestinaRow, standIns := [], harness := (true, "5e382eb2a93edc8a2149d9d91411bd1129859cd84ea20f0ef3575aec56e67244"), looks := true }, kinds := [], alts := [], laidByText := true, laidKinds := [.data, .data, .data, .data, .sentinel, .sentinel, .pinned], laidTests := true, laidLooks := .later }
def MouldSestinaCardSaid : Prop := Claim7.holds Tryz.pinned (.plain (OpenSpec.ofChange mouldSestinaSpec)) mouldSestinaCard

/-- THE TIED CARD OF 'canticlelaw18.MouldGrows'. -/
def mouldGrowsCard : Claim7 := { stood := { row := mouldGrowsRow, standIns := [], harness := (true, "5e382eb2a93edc8a2149d9d91411bd1129859cd84ea20f0ef3575aec56e67244"), looks := true }, kinds := [], alts := [], laidByText := true, laidKinds := [.data, .data, .data, .data, .sentinel, .sentinel, .pinned], laidTests := true, laidLooks := .later }
def MouldGrowsCardSaid : Prop := Claim7.holds Tryz.pinned (.plain (OpenSpec.ofChange mouldGrowsSpec)) mouldGrowsCard

/-- THE TIED CARD OF 'canticlelaw18.MouldLines'. -/
def mouldLinesCard : Claim7 := { stood := { row := mouldLinesRow, standIns := [], harness := (true, "5e382eb2a93edc8a2149d9d91411bd1129859cd84ea20f0ef3575aec56e67244"), looks := true }, kinds := [], alts := [], laidByText := true, laidKinds := [.data, .data, .data, .data, .sentinel, .sentinel, .pinned], laidTests := true, laidLooks := .later }
def MouldLinesCardSaid : Prop := Claim7.holds Tryz.pinned (.plain (OpenSpec.ofChange mouldLinesSpec)) mouldLinesCard

/-- THE TIED CARD OF 'canticlelaw18.MouldHouse'. -/
def mouldHouseCard : Claim7 := { stood := { row := mouldHouseRow, standIns := [], harness := (true, "5e382eb2a93edc8a2149d9d91411bd1129859cd84ea20f0ef3575aec56e67244"), looks := true }, kinds := [], alts := [], laidByText := true, laidKinds := [.data, .data, .data, .data, .sentinel, .sentinel, .pinned, .pinned], laidTests := true, laidLooks := .later }
def MouldHouseCardSaid : Prop := Claim7.holds Tryz.pinned (.plain (OpenSpec.ofChange mouldHouseSpec)) mouldHouseCard

/-- THE TIED CARD OF 'canticlelaw18.MouldReads'. -/
def mouldReadsCard : Claim7 := { stood := { row := mouldReadsRow, standIns := [], harness := (true, "5e382eb2a93edc8a2149d9d91411bd1129859cd84ea20f0ef3575aec56e67244"), looks := true }, kinds := [], alts := [], laidByText := true, laidKinds := [.data, .data, .data, .data, .sentinel, .sentinel, .pinned, .pinned], laidTests := true, laidLooks := .later }
def MouldReadsCardSaid : Prop := Claim7.holds Tryz.pinned (.plain (OpenSpec.ofChange mouldReadsSpec)) mouldReadsCard

/-- THE TIED CARD OF 'canticlelaw18.MouldBack'. -/
def mouldBackCard : Claim7 := { stood := { row := mouldBackRow, standIns := [], harness := (true, "5e382eb2a93edc8a2149d9d91411bd1129859cd84ea20f0ef3575aec56e67244"), looks := true }, kinds := [], alts := [], laidByText := true, laidKinds := [.data, .data, .data, .data, .sentinel, .sentinel, .pinned, .pinned], laidTests := true, laidLooks := .later }
def MouldBackCardSaid : Prop := Claim7.holds Tryz.pinned (.plain (OpenSpec.ofChange mouldBackSpec)) mouldBackCard

/-- THE TIED CARD OF 'canticlelaw18.MouldNames'. -/
def mouldNamesCard : Claim7 := { stood := { row := mouldNamesRow, standIns := [], harness := (true, "5e382eb2a93edc8a2149d9d91411bd1129859cd84ea20f0ef3575aec56e67244"), looks := true }, kinds := [], alts := [], laidByText := true, laidKinds := [.data, .data, .data, .data, .sentinel, .sentinel, .pinned, .pinned], laidTests := true, laidLooks := .later }
def MouldNamesCardSaid : Prop := Claim7.holds Tryz.pinned (.plain (OpenSpec.ofChange mouldNamesSpec)) mouldNamesCard

/-- THE SECOND FORM's CARD OF 'canticlelaw18.MouldFits'. -/
def mouldFitsUptoCard : Claim7 := { stood := { row := mouldFitsUptoRow, standIns := [], harness := (true, "5e382eb2a93edc8a2149d9d91411bd1129859cd84ea20f0ef3575aec56e67244"), looks := true }, kinds := [], alts := [], laidByText := true, laidKinds := [.data, .data, .data, .data, .sentinel, .sentinel, .pinned], laidTests := true, laidLooks := .later }
def MouldFitsUptoCardSaid : Prop := Claim7.holds Tryz.pinned (.plain (OpenSpec.upto mouldFitsSpec)) mouldFitsUptoCard

/-- THE SECOND FORM's CARD OF 'canticlelaw18.MouldEach'. -/
def mouldEachUptoCard : Claim7 := { stood := { row := mouldEachUptoRow, standIns := [], harness := (true, "5e382eb2a93edc8a2149d9d91411bd1129859cd84ea20f0ef3575aec56e67244"), looks := true }, kinds := [], alts := [], laidByText := true, laidKinds := [.data, .data, .data, .data, .sentinel, .sentinel, .pinned], laidTests := true, laidLooks := .later }
def MouldEachUptoCardSaid : Prop := Claim7.holds Tryz.pinned (.plain (OpenSpec.upto mouldEachSpec)) mouldEachUptoCard

/-- THE SECOND FORM's CARD OF 'canticlelaw18.MouldSestina'. -/
def mouldSestinaUptoCard : Claim7 := { stood := { row := mouldSestinaUptoRow, standIns := [], harness := (true, "5e382eb2a93edc8a2149d9d91411bd1129859cd84ea20f0ef3575aec56e67244"), looks := true }, kinds := [], alts := [], laidByText := true, laidKinds := [.data, .data, .data, .data, .sentinel, .sentinel, .pinned], laidTests := true, laidLooks := .later }
def MouldSestinaUptoCardSaid : Prop := Claim7.holds Tryz.pinned (.plain (OpenSpec.upto mouldSestinaSpec)) mouldSestinaUptoCard

/-- THE SECOND FORM's CARD OF 'canticlelaw18.MouldGrows'. -/
def mouldGrowsUptoCard : Claim7 := { stood := { row := mouldGrowsUptoRow, standIns := [], harness := (true, "5e382eb2a93edc8a2149d9d91411bd1129859cd84ea20f0ef3575aec56e67244"), looks := true }, kinds := [], alts := [], laidByText := true, laidKinds := [.data, .data, .data, .data, .sentinel, .sentinel, .pinned], laidTests := true, laidLooks := .later }
def MouldGrowsUptoCardSaid : Prop := Claim7.holds Tryz.pinned (.plain (OpenSpec.upto mouldGrowsSpec)) mouldGrowsUptoCard

/-- THE SECOND FORM's CARD OF 'canticlelaw18.MouldLines'. -/
def mouldLinesUptoCard : Claim7 := { stood := { row := mouldLinesUptoRow, standIns := [], harness := (true, "5e382eb2a93edc8a2149d9d91411bd1129859cd84ea20f0ef3575aec56e67244"), looks := true }, kinds := [], alts := [], laidByText := true, laidKinds := [.data, .data, .data, .data, .sentinel, .sentinel, .pinned], laidTests := true, laidLooks := .later }
def MouldLinesUptoCardSaid : Prop := Claim7.holds Tryz.pinned (.plain (OpenSpec.upto mouldLinesSpec)) mouldLinesUptoCard

/-- THE SECOND FORM's CARD OF 'canticlelaw18.MouldHouse'. -/
def mouldHouseUptoCard : Claim7 := { stood := { row := mouldHouseUptoRow, standIns := [], harness := (true, "5e382eb2a93edc8a2149d9d91411bd1129859cd84ea20f0ef3575aec56e67244"), looks := true }, kinds := [], alts := [], laidByText := true, laidKinds := [.data, .data, .data, .data, .sentinel, .sentinel, .pinned, .pinned], laidTests := true, laidLooks := .later }
def MouldHouseUptoCardSaid : Prop := Claim7.holds Tryz.pinned (.plain (OpenSpec.upto mouldHouseSpec)) mouldHouseUptoCard

/-- THE SECOND FORM's CARD OF 'canticlelaw18.MouldReads'. -/
def mouldReadsUptoCard : Claim7 := { stood := { row := mouldReadsUptoRow, standIns := [], harness := (true, "5e382eb2a93edc8a2149d9d91411bd1129859cd84ea20f0ef3575aec56e67244"), looks := true }, kinds := [], alts := [], laidByText := true, laidKinds := [.data, .data, .data, .data, .sentinel, .sentinel, .pinned, .pinned], laidTests := true, laidLooks := .later }
def MouldReadsUptoCardSaid : Prop := Claim7.holds Tryz.pinned (.plain (OpenSpec.upto mouldReadsSpec)) mouldReadsUptoCard

/-- THE SECOND FORM's CARD OF 'canticlelaw18.MouldBack'. -/
def mouldBackUptoCard : Claim7 := { stood := { row := mouldBackUptoRow, standIns := [], harness := (true, "5e382eb2a93edc8a2149d9d91411bd1129859cd84ea20f0ef3575aec56e67244"), looks := true }, kinds := [], alts := [], laidByText := true, laidKinds := [.data, .data, .data, .data, .sentinel, .sentinel, .pinned, .pinned], laidTests := true, laidLooks := .later }
def MouldBackUptoCardSaid : Prop := Claim7.holds Tryz.pinned (.plain (OpenSpec.upto mouldBackSpec)) mouldBackUptoCard

/-- THE SECOND FORM's CARD OF 'canticlelaw18.MouldNames'. -/
def mouldNamesUptoCard : Claim7 := { stood := { row := mouldNamesUptoRow, standIns := [], harness := (true, "5e382eb2a93edc8a2149d9d91411bd1129859cd84ea20f0ef3575aec56e67244"), looks := true }, kinds := [], alts := [], laidByText := true, laidKinds := [.data, .data, .data, .data, .sentinel, .sentinel, .pinned, .pinned], laidTests := true, laidLooks := .later }
def MouldNamesUptoCardSaid : Prop := Claim7.holds Tryz.pinned (.plain (OpenSpec.upto mouldNamesSpec)) mouldNamesUptoCard
end Rows
end Go.Proofs.YtgklikkddckgbaaGreatDoor

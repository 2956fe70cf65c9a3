/-
  DERIVED. GIVEN WITH THE SEED: THE CARDS: each row of YtkfkkoefpfmjkaaDoorRows.lean that lists a variable, with what it lists TIED to the program's text (the seventh form; the later family's looks); each row that meets fmt, with fmt's text TOLD by the authors' own Lean function (tested against real Go, not proved from fmt's source: count such statements apart). THE CARD IS WHAT COUNTS. Prove the row's statement (the work); the ties are given (YtkfkkoefpfmjkaaDoorTie.lean); close each card by the builder's one call (the guide's Derived/Test/ToyasCard.lean, 'card_holds'). Laid BY PROGRAM, IN A SANDBOX (cutbox-door.mjs). By AI agents, Wed Nov 11 2026. No macro, syntax, notation, axiom, sorry.
-/
import Derived.Test.YtkfkkoefpfmjkaaDoorRows
import GoSem.ClaimSeven
namespace Go.Proofs.YtkfkkoefpfmjkaaDoor
namespace Rows

/-- THE TIED CARD OF 'canticlelaw13.MetreReads'. -/
def metreReadsCard : Claim7 := { stood := { row := metreReadsRow, standIns := [], harness := (true, "d7e3d013812703a9ad835ee646829c0219f5e5bab3e72460f43d37854a4092ea"), looks := true }, kinds := [], alts := [], laidByText := true, laidKinds := [.data, .data, .data, .sentinel, .sentinel], laidTests := true, laidLooks := .later }
def MetreReadsCardSaid : Prop := Claim7.holds Tryd.pinned (.plain (OpenSpec.ofChange metreReadsSpec)) metreReadsCard

/-- THE TIED CARD OF 'canticlelaw13.MetreNames'. -/
def metreNamesCard : Claim7 := { stood := { row := metreNamesRow, standIns := [], harness := (true, "d7e3d013812703a9ad835ee646829c0219f5e5bab3e72460f43d37854a4092ea"), looks := true }, kinds := [], alts := [], laidByText := true, laidKinds := [.data, .data, .data, .sentinel, .sentinel], laidTests := true, laidLooks := .later }
def MetreNamesCardSaid : Prop := Claim7.holds Tryd.pinned (.plain (OpenSpec.ofChange metreNamesSpec)) metreNamesCard

/-- THE TIED CARD OF 'canticlelaw13.MetreSames'. -/
def metreSamesCard : Claim7 := { stood := { row := metreSamesRow, standIns := [], harness := (true, "d7e3d013812703a9ad835ee646829c0219f5e5bab3e72460f43d37854a4092ea"), looks := true }, kinds := [], alts := [], laidByText := true, laidKinds := [.data, .data, .data, .sentinel, .sentinel], laidTests := true, laidLooks := .later }
def MetreSamesCardSaid : Prop := Claim7.holds Tryd.pinned (.plain (OpenSpec.ofChange metreSamesSpec)) metreSamesCard

/-- THE TIED CARD OF 'canticlelaw13.MetreLeasts'. -/
def metreLeastsCard : Claim7 := { stood := { row := metreLeastsRow, standIns := [], harness := (true, "d7e3d013812703a9ad835ee646829c0219f5e5bab3e72460f43d37854a4092ea"), looks := true }, kinds := [], alts := [], laidByText := true, laidKinds := [.data, .data, .data, .sentinel, .sentinel], laidTests := true, laidLooks := .later }
def MetreLeastsCardSaid : Prop := Claim7.holds Tryd.pinned (.plain (OpenSpec.ofChange metreLeastsSpec)) metreLeastsCard

/-- THE TIED CARD OF 'canticlelaw13.MetreJoins'. -/
def metreJoinsCard : Claim7 := { stood := { row := metreJoinsRow, standIns := [], harness := (true, "d7e3d013812703a9ad835ee646829c0219f5e5bab3e72460f43d37854a4092ea"), looks := true }, kinds := [], alts := [], laidByText := true, laidKinds := [.data, .data, .data, .sentinel, .sentinel], laidTests := true, laidLooks := .later }
def MetreJoinsCardSaid : Prop := Claim7.holds Tryd.pinned (.plain (OpenSpec.ofChange metreJoinsSpec)) metreJoinsCard

/-- THE TIED CARD OF 'canticlelaw13.MetreSpans'. -/
def metreSpansCard : Claim7 := { stood := { row := metreSpansRow, standIns := [], harness := (true, "d7e3d013812703a9ad835ee646829c0219f5e5bab3e72460f43d37854a4092ea"), looks := true }, kinds := [], alts := [], laidByText := true, laidKinds := [.data, .data, .data, .sentinel, .sentinel], laidTests := true, laidLooks := .later }
def MetreSpansCardSaid : Prop := Claim7.holds Tryd.pinned (.plain (OpenSpec.ofChange metreSpansSpec)) metreSpansCard

/-- THE TIED CARD OF 'canticlelaw13.MetreCounts'. -/
def metreCountsCard : Claim7 := { stood := { row := metreCountsRow, standIns := [], harness := (true, "d7e3d013812703a9ad835ee646829c0219f5e5bab3e72460f43d37854a4092ea"), looks := true }, kinds := [], alts := [], laidByText := true, laidKinds := [.data, .data, .data, .sentinel, .sentinel], laidTests := true, laidLooks := .later }
def MetreCountsCardSaid : Prop := Claim7.holds Tryd.pinned (.plain (OpenSpec.ofChange metreCountsSpec)) metreCountsCard

/-- THE TIED CARD OF 'canticlelaw13.MetrePrints'. -/
def metrePrintsCard : Claim7 := { stood := { row := metrePrintsRow, standIns := [], harness := (true, "d7e3d013812703a9ad835ee646829c0219f5e5bab3e72460f43d37854a4092ea"), looks := true }, kinds := [], alts := [], laidByText := true, laidKinds := [.data, .data, .data, .sentinel, .sentinel], laidTests := true, laidLooks := .later }
def MetrePrintsCardSaid : Prop := Claim7.holds Tryd.pinned (.plain (OpenSpec.ofChange metrePrintsSpec)) metrePrintsCard

/-- THE SECOND FORM's CARD OF 'canticlelaw13.MetreReads'. -/
def metreReadsUptoCard : Claim7 := { stood := { row := metreReadsUptoRow, standIns := [], harness := (true, "d7e3d013812703a9ad835ee646829c0219f5e5bab3e72460f43d37854a4092ea"), looks := true }, kinds := [], alts := [], laidByText := true, laidKinds := [.data, .data, .data, .sentinel, .sentinel], laidTests := true, laidLooks := .later }
def MetreReadsUptoCardSaid : Prop := Claim7.holds Tryd.pinned (.plain (OpenSpec.upto metreReadsSpec)) metreReadsUptoCard

/-- THE SECOND FORM's CARD OF 'canticlelaw13.MetreNames'. -/
def metreNamesUptoCard : Claim7 := { stood := { row := metreNamesUptoRow, standIns := [], harness := (true, "d7e3d013812703a9ad835ee646829c0219f5e5bab3e72460f43d37854a4092ea"), looks := true }, kinds := [], alts := [], laidByText := true, laidKinds := [.data, .data, .data, .sentinel, .sentinel], laidTests := true, laidLooks := .later }
def MetreNamesUptoCardSaid : Prop := Claim7.holds Tryd.pinned (.plain (OpenSpec.upto metreNamesSpec)) metreNamesUptoCard

/-- THE SECOND FORM's CARD OF 'canticlelaw13.MetreSames'. -/
def metreSamesUptoCard : Claim7 := { stood := { row := metreSamesUptoRow, standIns := [], harness := (true, "d7e3d013812703a9ad835ee646829c0219f5e5bab3e72460f43d37854a4092ea"), looks := true }, kinds := [], alts := [], laidByText := true, laidKinds := [.data, .data, .data, .sentinel, .sentinel], laidTests := true, laidLooks := .later }
def MetreSamesUptoCardSaid : Prop := Claim7.holds Tryd.pinned (.plain (OpenSpec.upto metreSamesSpec)) metreSamesUptoCard

/-- THE SECOND FORM's CARD OF 'canticlelaw13.MetreLeasts'. -/
def metreLeastsUptoCard : Claim7 := { stood := { row := metreLeastsUptoRow, standIns := [], harness := (true, "d7e3d013812703a9ad835ee646829c0219f5e5bab3e72460f43d37854a4092ea"), looks := true }, kinds := [], alts := [], laidByText := true, laidKinds := [.data, .data, .data, .sentinel, .sentinel], laidTests := true, laidLooks := .later }
def MetreLeastsUptoCardSaid : Prop := Claim7.holds Tryd.pinned (.plain (OpenSpec.upto metreLeastsSpec)) metreLeastsUptoCard

/-- THE SECOND FORM's CARD OF 'canticlelaw13.MetreJoins'. -/
def metreJoinsUptoCard : Claim7 := { stood := { row := metreJoinsUptoRow, standIns := [], harness := (true, "d7e3d013812703a9ad835ee646829c0219f5e5bab3e72460f43d37854a4092ea"), looks := true }, kinds := [], alts := [], laidByText := true, laidKinds := [.data, .data, .data, .sentinel, .sentinel], laidTests := true, laidLooks := .later }
def MetreJoinsUptoCardSaid : Prop := Claim7.holds Tryd.pinned (.plain (OpenSpec.upto metreJoinsSpec)) metreJoinsUptoCard

/-- THE SECOND FORM's CARD OF 'canticlelaw13.MetreSpans'. -/
def metreSpansUptoCard : Claim7 := { stood := { row := metreSpansUptoRow, standIns := [], harness := (true, "d7e3d013812703a9ad835ee646829c0219f5e5bab3e72460f43d37854a4092ea"), looks := true }, kinds := [], alts := [], laidByText := true, laidKinds := [.data, .data, .data, .sentinel, .sentinel], laidTests := true, laidLooks := .later }
def MetreSpansUptoCardSaid : Prop := Claim7.holds Tryd.pinned (.plain (OpenSpec.upto metreSpansSpec)) metreSpansUptoCard

/-- THE SECOND FORM's CARD OF 'canticlelaw13.MetreCounts'. -/
def metreCountsUptoCard : Claim7 := { stood := { row := metreCountsUptoRow, standIns := [], harness := (true, "d7e3d013812703a9ad835ee646829c0219f5e5bab3e72460f43d37854a4092ea"), looks := true }, kinds := [], alts := [], laidByText := true, laidKinds := [.data, .data, .data, .sentinel, .sentinel], laidTests := true, laidLooks := .later }
def MetreCountsUptoCardSaid : Prop := Claim7.holds Tryd.pinned (.plain (OpenSpec.upto metreCountsSpec)) metreCountsUptoCard

/-- THE SECOND FORM's CARD OF 'canticlelaw13.MetrePrints'. -/
def metrePrintsUptoCard : Claim7 := { stood := { row := metrePrintsUptoRow, standIns := [], harness := (true, "d7e3d013812703a9ad835ee646829c0219f5e5bab3e72460f43d37854a4092ea"), looks := true }, kinds := [], alts := [], laidByText := true, laidKinds := [.data, .data, .data, .sentinel, .sentinel], laidTests := true, laidLooks := .later }
def MetrePrintsUptoCardSaid : Prop := Claim7.holds Tryd.pinned (.plain (OpenSpec.upto metrePrintsSpec)) metrePrintsUptoCard
end Rows
end Go.Proofs.YtkfkkoefpfmjkaaDoor

/-
  DERIVED. GIVEN WITH THE SEED: THE CARDS: each row of YtaphehlgijlfeaaGreatDoorRows.lean that lists a variable, with what it lists TIED to the program's text (the seventh form; the later family's looks); each row that meets fmt, with fmt's text TOLD by the authors' own Lean function (tested against real Go, not proved from fmt's source: count such statements apart). THE CARD IS WHAT COUNTS. Prove the row's statement (the work); the ties are given (YtaphehlgijlfeaaGreatDoorTie.lean); close each card by the builder's one call (the guide's Derived/Test/ToyasCard.lean, 'card_holds'). Laid BY PROGRAM, IN A SANDBOX (cutbox-door.mjs). By AI agents, Wed Nov 11 2026. No macro, syntax, notation, axiom, sorry.
-/
import Derived.Test.YtaphehlgijlfeaaGreatDoorRows
import GoSem.ClaimSeven
namespace Go.Proofs.YtaphehlgijlfeaaGreatDoor
namespace Rows

/-- THE TIED CARD OF 'isobarlaw02.WireCoulds'. -/
def wireCouldsCard : Claim7 := { stood := { row := wireCouldsRow, standIns := [], harness := (true, "faf32b471a4046c26054fd80b9544b2851aca4c527019fae6cdd7dbae78c9e5d"), looks := true }, kinds := [], alts := [], laidByText := true, laidKinds := [.data, .data, .data], laidTests := true, laidLooks := .later }
def WireCouldsCardSaid : Prop := Claim7.holds Tryz.pinned (.plain (OpenSpec.ofChange wireCouldsSpec)) wireCouldsCard

/-- THE TIED CARD OF 'isobarlaw02.WireRestores'. -/
def wireRestoresCard : Claim7 := { stood := { row := wireRestoresRow, standIns := [], harness := (true, "faf32b471a4046c26054fd80b9544b2851aca4c527019fae6cdd7dbae78c9e5d"), looks := true }, kinds := [], alts := [], laidByText := true, laidKinds := [.data, .data, .data], laidTests := true, laidLooks := .later }
def WireRestoresCardSaid : Prop := Claim7.holds Tryz.pinned (.plain (OpenSpec.ofChange wireRestoresSpec)) wireRestoresCard

/-- THE TIED CARD OF 'isobarlaw02.WireClashes'. -/
def wireClashesCard : Claim7 := { stood := { row := wireClashesRow, standIns := [], harness := (true, "faf32b471a4046c26054fd80b9544b2851aca4c527019fae6cdd7dbae78c9e5d"), looks := true }, kinds := [], alts := [], laidByText := true, laidKinds := [.data, .data, .data], laidTests := true, laidLooks := .later }
def WireClashesCardSaid : Prop := Claim7.holds Tryz.pinned (.plain (OpenSpec.ofChange wireClashesSpec)) wireClashesCard

/-- THE TIED CARD OF 'isobarlaw02.WireShown'. -/
def wireShownCard : Claim7 := { stood := { row := wireShownRow, standIns := [], harness := (true, "faf32b471a4046c26054fd80b9544b2851aca4c527019fae6cdd7dbae78c9e5d"), looks := true }, kinds := [], alts := [], laidByText := true, laidKinds := [.data, .data, .data], laidTests := true, laidLooks := .later }
def WireShownCardSaid : Prop := Claim7.holds Tryz.pinned (.plain (OpenSpec.ofChange wireShownSpec)) wireShownCard

/-- THE TIED CARD OF 'isobarlaw02.WireDoubts'. -/
def wireDoubtsCard : Claim7 := { stood := { row := wireDoubtsRow, standIns := [], harness := (true, "faf32b471a4046c26054fd80b9544b2851aca4c527019fae6cdd7dbae78c9e5d"), looks := true }, kinds := [], alts := [], laidByText := true, laidKinds := [.data, .data, .data], laidTests := true, laidLooks := .later }
def WireDoubtsCardSaid : Prop := Claim7.holds Tryz.pinned (.plain (OpenSpec.ofChange wireDoubtsSpec)) wireDoubtsCard

/-- THE TIED CARD OF 'isobarlaw02.WireRepeats'. -/
def wireRepeatsCard : Claim7 := { stood := { row := wireRepeatsRow, standIns := [], harness := (true, "faf32b471a4046c26054fd80b9544b2851aca4c527019fae6cdd7dbae78c9e5d"), looks := true }, kinds := [], alts := [], laidByText := true, laidKinds := [.data, .data, .data], laidTests := true, laidLooks := .later }
def WireRepeatsCardSaid : Prop := Claim7.holds Tryz.pinned (.plain (OpenSpec.ofChange wireRepeatsSpec)) wireRepeatsCard

/-- THE TIED CARD OF 'isobarlaw02.WireLooks'. -/
def wireLooksCard : Claim7 := { stood := { row := wireLooksRow, standIns := [], harness := (true, "faf32b471a4046c26054fd80b9544b2851aca4c527019fae6cdd7dbae78c9e5d"), looks := true }, kinds := [], alts := [], laidByText := true, laidKinds := [.data, .data, .data], laidTests := true, laidLooks := .later }
def WireLooksCardSaid : Prop := Claim7.holds Tryz.pinned (.plain (OpenSpec.ofChange wireLooksSpec)) wireLooksCard

/-- THE TIED CARD OF 'isobarlaw02.WireCosts'. -/
def wireCostsCard : Claim7 := { stood := { row := wireCostsRow, standIns := [], harness := (true, "faf32b471a4046c26054fd80b9544b2851aca4c527019fae6cdd7dbae78c9e5d"), looks := true }, kinds := [], alts := [], laidByText := true, laidKinds := [.data, .data, .data], laidTests := true, laidLooks := .later }
def WireCostsCardSaid : Prop := Claim7.holds Tryz.pinned (.plain (OpenSpec.ofChange wireCostsSpec)) wireCostsCard

/-- THE TIED CARD OF 'isobarlaw02.WireRouted'. -/
def wireRoutedCard : Claim7 := { stood := { row := wireRoutedRow, standIns := [], harness := (true, "faf32b471a4046c26054fd80b9544b2851aca4c527019fae6cdd7dbae78c9e5d"), looks := true }, kinds := [], alts := [], laidByText := true, laidKinds := [.data, .data, .data], laidTests := true, laidLooks := .later }
def WireRoutedCardSaid : Prop := Claim7.holds Tryz.pinned (.plain (OpenSpec.ofChange wireRoutedSpec)) wireRoutedCard

/-- THE TIED CARD OF 'isobarlaw02.WireMore'. -/
def wireMoreCard : Claim7 := { stood := { row := wireMoreRow, standIns := [], harness := (true, "faf32b471a4046c26054fd80b9544b2851aca4c527019fae6cdd7dbae78c9e5d"), looks := true }, kinds := [], alts := [], laidByText := true, laidKinds := [.data, .data, .data], laidTests := true, laidLooks := .later }
def WireMoreCardSaid : Prop := Claim7.holds Tryz.pinned (.plain (OpenSpec.ofChange wireMoreSpec)) wireMoreCard

/-- THE TIED CARD OF 'isobarlaw02.WireSends'. -/
def wireSendsCard : Claim7 := { stood := { row := wireSendsRow, standIns := [], harness := (true, "faf32b471a4046c26054fd80b9544b2851aca4c527019fae6cdd7dbae78c9e5d"), looks := true }, kinds := [], alts := [], laidByText := true, laidKinds := [.data, .data, .data], laidTests := true, laidLooks := .later }
def WireSendsCardSaid : Prop := Claim7.holds Tryz.pinned (.plain (OpenSpec.ofChange wireSendsSpec)) wireSendsCard

/-- THE TIED CARD OF 'isobarlaw02.WireCans'. -/
def wireCansCard : Claim7 := { stood := { row := wireCansRow, standIns := [], harness := (true, "faf32b471a4046c26054fd80b9544b2851aca4c527019fae6cdd7dbae78c9e5d"), looks := true }, kinds := [], alts := [], laidByText := true, laidKinds := [.data, .data, .data], laidTests := true, laidLooks := .later }
def WireCansCardSaid : Prop := Claim7.holds Tryz.pinned (.plain (OpenSpec.ofChange wireCansSpec)) wireCansCard

/-- THE TIED CARD OF 'isobarlaw02.WireTrue'. -/
def wireTrueCard : Claim7 := { stood := { row := wireTrueRow, standIns := [], harness := (true, "faf32b471a4046c26054fd80b9544b2851aca4c527019fae6cdd7dbae78c9e5d"), looks := true }, kinds := [], alts := [], laidByText := true, laidKinds := [.data, .data, .data], laidTests := true, laidLooks := .later }
def WireTrueCardSaid : Prop := Claim7.holds Tryz.pinned (.plain (OpenSpec.ofChange wireTrueSpec)) wireTrueCard

/-- THE TIED CARD OF 'isobarlaw02.WirePacks'. -/
def wirePacksCard : Claim7 := { stood := { row := wirePacksRow, standIns := [], harness := (true, "faf32b471a4046c26054fd80b9544b2851aca4c527019fae6cdd7dbae78c9e5d"), looks := true }, kinds := [], alts := [], laidByText := true, laidKinds := [.data, .data, .data], laidTests := true, laidLooks := .later }
def WirePacksCardSaid : Prop := Claim7.holds Tryz.pinned (.plain (OpenSpec.ofChange wirePacksSpec)) wirePacksCard

/-- THE TIED CARD OF 'isobarlaw02.WirePacked'. -/
def wirePackedCard : Claim7 := { stood := { row := wirePackedRow, standIns := [], harness := (true, "faf32b471a4046c26054fd80b9544b2851aca4c527019fae6cdd7dbae78c9e5d"), looks := true }, kinds := [], alts := [], laidByText := true, laidKinds := [.data, .data, .data], laidTests := true, laidLooks := .later }
def WirePackedCardSaid : Prop := Claim7.holds Tryz.pinned (.plain (OpenSpec.ofChange wirePackedSpec)) wirePackedCard

/-- THE TIED CARD OF 'isobarlaw02.WirePrints'. -/
def wirePrintsCard : Claim7 := { stood := { row := wirePrintsRow, standIns := [], harness := (true, "faf32b471a4046c26054fd80b9544b2851aca4c527019fae6cdd7dbae78c9e5d"), looks := true }, kinds := [], alts := [], laidByText := true, laidKinds := [.data, .data, .data, .data, .sentinel, .sentinel, .pinned], laidTests := true, laidLooks := .later }
def WirePrintsCardSaid : Prop := Claim7.holds Tryz.pinned (.plain (OpenSpec.ofChange wirePrintsSpec)) wirePrintsCard

/-- THE TIED CARD OF 'isobarlaw02.WireReads'. -/
def wireReadsCard : Claim7 := { stood := { row := wireReadsRow, standIns := [], harness := (true, "faf32b471a4046c26054fd80b9544b2851aca4c527019fae6cdd7dbae78c9e5d"), looks := true }, kinds := [], alts := [], laidByText := true, laidKinds := [.data, .data, .data, .data, .sentinel, .sentinel, .pinned], laidTests := true, laidLooks := .later }
def WireReadsCardSaid : Prop := Claim7.holds Tryz.pinned (.plain (OpenSpec.ofChange wireReadsSpec)) wireReadsCard

/-- THE TIED CARD OF 'isobarlaw02.WireSpoilt'. -/
def wireSpoiltCard : Claim7 := { stood := { row := wireSpoiltRow, standIns := [], harness := (true, "faf32b471a4046c26054fd80b9544b2851aca4c527019fae6cdd7dbae78c9e5d"), looks := true }, kinds := [], alts := [], laidByText := true, laidKinds := [.data, .data, .data, .data, .sentinel, .sentinel, .pinned], laidTests := true, laidLooks := .later }
def WireSpoiltCardSaid : Prop := Claim7.holds Tryz.pinned (.plain (OpenSpec.ofChange wireSpoiltSpec)) wireSpoiltCard

/-- THE SECOND FORM's CARD OF 'isobarlaw02.WireCoulds'. -/
def wireCouldsUptoCard : Claim7 := { stood := { row := wireCouldsUptoRow, standIns := [], harness := (true, "faf32b471a4046c26054fd80b9544b2851aca4c527019fae6cdd7dbae78c9e5d"), looks := true }, kinds := [], alts := [], laidByText := true, laidKinds := [.data, .data, .data], laidTests := true, laidLooks := .later }
def WireCouldsUptoCardSaid : Prop := Claim7.holds Tryz.pinned (.plain (OpenSpec.upto wireCouldsSpec)) wireCouldsUptoCard

/-- THE SECOND FORM's CARD OF 'isobarlaw02.WireRestores'. -/
def wireRestoresUptoCard : Claim7 := { stood := { row := wireRestoresUptoRow, standIns := [], harness := (true, "faf32b471a4046c26054fd80b9544b2851aca4c527019fae6cdd7dbae78c9e5d"), looks := true }, kinds := [], alts := [], laidByText := true, laidKinds := [.data, .data, .data], laidTests := true, laidLooks := .later }
def WireRestoresUptoCardSaid : Prop := Claim7.holds Tryz.pinned (.plain (OpenSpec.upto wireRestoresSpec)) wireRestoresUptoCard

/-- THE SECOND FORM's CARD OF 'isobarlaw02.WireClashes'. -/
def wireClashesUptoCard : Claim7 := { stood := { row := wireClashesUptoRow, standIns := [], harness := (true, "faf32b471a4046c26054fd80b9544b2851aca4c527019fae6cdd7dbae78c9e5d"), looks := true }, kinds := [], alts := [], laidByText := true, laidKinds := [.data, .data, .data], laidTests := true, laidLooks := .later }
def WireClashesUptoCardSaid : Prop := Claim7.holds Tryz.pinned (.plain (OpenSpec.upto wireClashesSpec)) wireClashesUptoCard

/-- THE SECOND FORM's CARD OF 'isobarlaw02.WireShown'. -/
def wireShownUptoCard : Claim7 := { stood := { row := wireShownUptoRow, standIns := [], harness := (true, "faf32b471a4046c26054fd80b9544b2851aca4c527019fae6cdd7dbae78c9e5d"), looks := true }, kinds := [], alts := [], laidByText := true, laidKinds := [.data, .data, .data], laidTests := true, laidLooks := .later }
def WireShownUptoCardSaid : Prop := Claim7.holds Tryz.pinned (.plain (OpenSpec.upto wireShownSpec)) wireShownUptoCard

/-- THE SECOND FORM's CARD OF 'isobarlaw02.WireDoubts'. -/
def wireDoubtsUptoCard : Claim7 := { stood := { row := wireDoubtsUptoRow, standIns := [], harness := (true, "faf32b471a4046c26054fd80b9544b2851aca4c527019fae6cdd7dbae78c9e5d"), looks := true }, kinds := [], alts := [], laidByText := true, laidKinds := [.data, .data, .data], laidTests := true, laidLooks := .later }
def WireDoubtsUptoCardSaid : Prop := Claim7.holds Tryz.pinned (.plain (OpenSpec.upto wireDoubtsSpec)) wireDoubtsUptoCard

/-- THE SECOND FORM's CARD OF 'isobarlaw02.WireRepeats'. -/
def wireRepeatsUptoCard : Claim7 := { stood := { row := wireRepeatsUptoRow, standIns := [], harness := (true, "faf32b471a4046c26054fd80b9544b2851aca4c527019fae6cdd7dbae78c9e5d"), looks := true }, kinds := [], alts := [], laidByText := true, laidKinds := [.data, .data, .data], laidTests := true, laidLooks := .later }
def WireRepeatsUptoCardSaid : Prop := Claim7.holds Tryz.pinned (.plain (OpenSpec.upto wireRepeatsSpec)) wireRepeatsUptoCard

/-- THE SECOND FORM's CARD OF 'isobarlaw02.WireLooks'. -/
def wireLooksUptoCard : Claim7 := { stood := { row := wireLooksUptoRow, standIns := [], harness := (true, "faf32b471a4046c26054fd80b9544b2851aca4c527019fae6cdd7dbae78c9e5d"), looks := true }, kinds := [], alts := [], laidByText := true, laidKinds := [.data, .data, .data], laidTests := true, laidLooks := .later }
def WireLooksUptoCardSaid : Prop := Claim7.holds Tryz.pinned (.plain (OpenSpec.upto wireLooksSpec)) wireLooksUptoCard

/-- THE SECOND FORM's CARD OF 'isobarlaw02.WireCosts'. -/
def wireCostsUptoCard : Claim7 := { stood := { row := wireCostsUptoRow, standIns := [], harness := (true, "faf32b471a4046c26054fd80b9544b2851aca4c527019fae6cdd7dbae78c9e5d"), looks := true }, kinds := [], alts := [], laidByText := true, laidKinds := [.data, .data, .data], laidTests := true, laidLooks := .later }
def WireCostsUptoCardSaid : Prop := Claim7.holds Tryz.pinned (.plain (OpenSpec.upto wireCostsSpec)) wireCostsUptoCard

/-- THE SECOND FORM's CARD OF 'isobarlaw02.WireRouted'. -/
def wireRoutedUptoCard : Claim7 := { stood := { row := wireRoutedUptoRow, standIns := [], harness := (true, "faf32b471a4046c26054fd80b9544b2851aca4c527019fae6cdd7dbae78c9e5d"), looks := true }, kinds := [], alts := [], laidByText := true, laidKinds := [.data, .data, .data], laidTests := true, laidLooks := .later }
def WireRoutedUptoCardSaid : Prop := Claim7.holds Tryz.pinned (.plain (OpenSpec.upto wireRoutedSpec)) wireRoutedUptoCard

/-- THE SECOND FORM's CARD OF 'isobarlaw02.WireMore'. -/
def wireMoreUptoCard : Claim7 := { stood := { row := wireMoreUptoRow, standIns := [], harness := (true, "faf32b471a4046c26054fd80b9544b2851aca4c527019fae6cdd7dbae78c9e5d"), looks := true }, kinds := [], alts := [], laidByText := true, laidKinds := [.data, .data, .data], laidTests := true, laidLooks := .later }
def WireMoreUptoCardSaid : Prop := Claim7.holds Tryz.pinned (.plain (OpenSpec.upto wireMoreSpec)) wireMoreUptoCard

/-- THE SECOND FORM's CARD OF 'isobarlaw02.WireSends'. -/
def wireSendsUptoCard : Claim7 := { stood := { row := wireSendsUptoRow, standIns := [], harness := (true, "faf32b471a4046c26054fd80b9544b2851aca4c527019fae6cdd7dbae78c9e5d"), looks := true }, kinds := [], alts := [], laidByText := true, laidKinds := [.data, .data, .data], laidTests := true, laidLooks := .later }
def WireSendsUptoCardSaid : Prop := Claim7.holds Tryz.pinned (.plain (OpenSpec.upto wireSendsSpec)) wireSendsUptoCard

/-- THE SECOND FORM's CARD OF 'isobarlaw02.WireCans'. -/
def wireCansUptoCard : Claim7 := { stood := { row := wireCansUptoRow, standIns := [], harness := (true, "faf32b471a4046c26054fd80b9544b2851aca4c527019fae6cdd7dbae78c9e5d"), looks := true }, kinds := [], alts := [], laidByText := true, laidKinds := [.data, .data, .data], laidTests := true, laidLooks := .later }
def WireCansUptoCardSaid : Prop := Claim7.holds Tryz.pinned (.plain (OpenSpec.upto wireCansSpec)) wireCansUptoCard

/-- THE SECOND FORM's CARD OF 'isobarlaw02.WireTrue'. -/
def wireTrueUptoCard : Claim7 := { stood := { row := wireTrueUptoRow, standIns := [], harness := (true, "faf32b471a4046c26054fd80b9544b2851aca4c527019fae6cdd7dbae78c9e5d"), looks := true }, kinds := [], alts := [], laidByText := true, laidKinds := [.data, .data, .data], laidTests := true, laidLooks := .later }
def WireTrueUptoCardSaid : Prop := Claim7.holds Tryz.pinned (.plain (OpenSpec.upto wireTrueSpec)) wireTrueUptoCard

/-- THE SECOND FORM's CARD OF 'isobarlaw02.WirePacks'. -/
def wirePacksUptoCard : Claim7 := { stood := { row := wirePacksUptoRow, standIns := [], harness := (true, "faf32b471a4046c26054fd80b9544b2851aca4c527019fae6cdd7dbae78c9e5d"), looks := true }, kinds := [], alts := [], laidByText := true, laidKinds := [.data, .data, .data], laidTests := true, laidLooks := .later }
def WirePacksUptoCardSaid : Prop := Claim7.holds Tryz.pinned (.plain (OpenSpec.upto wirePacksSpec)) wirePacksUptoCard

/-- THE SECOND FORM's CARD OF 'isobarlaw02.WirePacked'. -/
def wirePackedUptoCard : Claim7 := { stood := { row := wirePackedUptoRow, standIns := [], harness := (true, "faf32b471a4046c26054fd80b9544b2851aca4c527019fae6cdd7dbae78c9e5d"), looks := true }, kinds := [], alts := [], laidByText := true, laidKinds := [.data, .data, .data], laidTests := true, laidLooks := .later }
def WirePackedUptoCardSaid : Prop := Claim7.holds Tryz.pinned (.plain (OpenSpec.upto wirePackedSpec)) wirePackedUptoCard

/-- THE SECOND FORM's CARD OF 'isobarlaw02.WirePrints'. -/
def wirePrintsUptoCard : Claim7 := { stood := { row := wirePrintsUptoRow, standIns := [], harness := (true, "faf32b471a4046c26054fd80b9544b2851aca4c527019fae6cdd7dbae78c9e5d"), looks := true }, kinds := [], alts := [], laidByText := true, laidKinds := [.data, .data, .data, .data, .sentinel, .sentinel, .pinned], laidTests := true, laidLooks := .later }
def WirePrintsUptoCardSaid : Prop := Claim7.holds Tryz.pinned (.plain (OpenSpec.upto wirePrintsSpec)) wirePrintsUptoCard

/-- THE SECOND FORM's CARD OF 'isobarlaw02.WireReads'. -/
def wireReadsUptoCard : Claim7 := { stood := { row := wireReadsUptoRow, standIns := [], harness := (true, "faf32b471a4046c26054fd80b9544b2851aca4c527019fae6cdd7dbae78c9e5d"), looks := true }, kinds := [], alts := [], laidByText := true, laidKinds := [.data, .data, .data, .data, .sentinel, .sentinel, .pinned], laidTests := true, laidLooks := .later }
def WireReadsUptoCardSaid : Prop := Claim7.holds Tryz.pinned (.plain (OpenSpec.upto wireReadsSpec)) wireReadsUptoCard

/-- THE SECOND FORM's CARD OF 'isobarlaw02.WireSpoilt'. -/
def wireSpoiltUptoCard : Claim7 := { stood := { row := wireSpoiltUptoRow, standIns := [], harness := (true, "faf32b471a4046c26054fd80b9544b2851aca4c527019fae6cdd7dbae78c9e5d"), looks := true }, kinds := [], alts := [], laidByText := true, laidKinds := [.data, .data, .data, .data, .sentinel, .sentinel, .pinned], laidTests := true, laidLooks := .later }
def WireSpoiltUptoCardSaid : Prop := Claim7.holds Tryz.pinned (.plain (OpenSpec.upto wireSpoiltSpec)) wireSpoiltUptoCard
end Rows
end Go.Proofs.YtaphehlgijlfeaaGreatDoor

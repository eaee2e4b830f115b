/-
  DERIVED. GIVEN WITH THE SEED: THE CARDS: each row of YtdjncbjfejdamaaGreatDoorRows.lean that lists a variable, with what it lists TIED to the program's text (the seventh form; the later family's looks); each row that meets fmt, with fmt's text TOLD by the authors' own Lean function (tested against real Go, not proved from fmt's source: count such statements apart). THE CARD IS WHAT COUNTS. Prove the row's statement (the work); the ties are given (YtdjncbjfejdamaaGreatDoorTie.lean); close each card by the builder's one call (the guide's Derived/Test/ToyasCard.lean, 'card_holds'). Laid BY PROGRAM, IN A SANDBOX (cutbox-door.mjs). By AI agents, Wed Nov 11 2026. No macro, syntax, notation, axiom, sorry.
-/
import Derived.Test.YtdjncbjfejdamaaGreatDoorRows
import GoSem.ClaimSeven
namespace Go.Proofs.YtdjncbjfejdamaaGreatDoor
namespace Rows

/-- THE TIED CARD OF 'isobarlaw03.ChartDraws'. -/
def chartDrawsCard : Claim7 := { stood := { row := chartDrawsRow, standIns := [], harness := (true, "2d17a4dc9e16d3a73f126c826b77bd7af92222a396f0142bc46a5dacda5c891f"), looks := true }, kinds := [], alts := [], laidByText := true, laidKinds := [.data, .data, .data], laidTests := true, laidLooks := .later }
def ChartDrawsCardSaid : Prop := Claim7.holds Tryz.pinned (.plain (OpenSpec.ofChange chartDrawsSpec)) chartDrawsCard

/-- THE TIED CARD OF 'isobarlaw03.ChartLines'. -/
def chartLinesCard : Claim7 := { stood := { row := chartLinesRow, standIns := [], harness := (true, "2d17a4dc9e16d3a73f126c826b77bd7af92222a396f0142bc46a5dacda5c891f"), looks := true }, kinds := [], alts := [], laidByText := true, laidKinds := [.data, .data, .data], laidTests := true, laidLooks := .later }
def ChartLinesCardSaid : Prop := Claim7.holds Tryz.pinned (.plain (OpenSpec.ofChange chartLinesSpec)) chartLinesCard

/-- THE TIED CARD OF 'isobarlaw03.ChartWhole'. -/
def chartWholeCard : Claim7 := { stood := { row := chartWholeRow, standIns := [], harness := (true, "2d17a4dc9e16d3a73f126c826b77bd7af92222a396f0142bc46a5dacda5c891f"), looks := true }, kinds := [], alts := [], laidByText := true, laidKinds := [.data, .data, .data], laidTests := true, laidLooks := .later }
def ChartWholeCardSaid : Prop := Claim7.holds Tryz.pinned (.plain (OpenSpec.ofChange chartWholeSpec)) chartWholeCard

/-- THE TIED CARD OF 'isobarlaw03.ChartApart'. -/
def chartApartCard : Claim7 := { stood := { row := chartApartRow, standIns := [], harness := (true, "2d17a4dc9e16d3a73f126c826b77bd7af92222a396f0142bc46a5dacda5c891f"), looks := true }, kinds := [], alts := [], laidByText := true, laidKinds := [.data, .data, .data], laidTests := true, laidLooks := .later }
def ChartApartCardSaid : Prop := Claim7.holds Tryz.pinned (.plain (OpenSpec.ofChange chartApartSpec)) chartApartCard

/-- THE TIED CARD OF 'isobarlaw03.ChartWords'. -/
def chartWordsCard : Claim7 := { stood := { row := chartWordsRow, standIns := [], harness := (true, "2d17a4dc9e16d3a73f126c826b77bd7af92222a396f0142bc46a5dacda5c891f"), looks := true }, kinds := [], alts := [], laidByText := true, laidKinds := [.data, .data, .data], laidTests := true, laidLooks := .later }
def ChartWordsCardSaid : Prop := Claim7.holds Tryz.pinned (.plain (OpenSpec.ofChange chartWordsSpec)) chartWordsCard

/-- THE TIED CARD OF 'isobarlaw03.ChartClosed'. -/
def chartClosedCard : Claim7 := { stood := { row := chartClosedRow, standIns := [], harness := (true, "2d17a4dc9e16d3a73f126c826b77bd7af92222a396f0142bc46a5dacda5c891f"), looks := true }, kinds := [], alts := [], laidByText := true, laidKinds := [.data, .data, .data], laidTests := true, laidLooks := .later }
def ChartClosedCardSaid : Prop := Claim7.holds Tryz.pinned (.plain (OpenSpec.ofChange chartClosedSpec)) chartClosedCard

/-- THE TIED CARD OF 'isobarlaw03.ChartClashes'. -/
def chartClashesCard : Claim7 := { stood := { row := chartClashesRow, standIns := [], harness := (true, "2d17a4dc9e16d3a73f126c826b77bd7af92222a396f0142bc46a5dacda5c891f"), looks := true }, kinds := [], alts := [], laidByText := true, laidKinds := [.data, .data, .data], laidTests := true, laidLooks := .later }
def ChartClashesCardSaid : Prop := Claim7.holds Tryz.pinned (.plain (OpenSpec.ofChange chartClashesSpec)) chartClashesCard

/-- THE TIED CARD OF 'isobarlaw03.ChartShown'. -/
def chartShownCard : Claim7 := { stood := { row := chartShownRow, standIns := [], harness := (true, "2d17a4dc9e16d3a73f126c826b77bd7af92222a396f0142bc46a5dacda5c891f"), looks := true }, kinds := [], alts := [], laidByText := true, laidKinds := [.data, .data, .data], laidTests := true, laidLooks := .later }
def ChartShownCardSaid : Prop := Claim7.holds Tryz.pinned (.plain (OpenSpec.ofChange chartShownSpec)) chartShownCard

/-- THE TIED CARD OF 'isobarlaw03.ChartMore'. -/
def chartMoreCard : Claim7 := { stood := { row := chartMoreRow, standIns := [], harness := (true, "2d17a4dc9e16d3a73f126c826b77bd7af92222a396f0142bc46a5dacda5c891f"), looks := true }, kinds := [], alts := [], laidByText := true, laidKinds := [.data, .data, .data], laidTests := true, laidLooks := .later }
def ChartMoreCardSaid : Prop := Claim7.holds Tryz.pinned (.plain (OpenSpec.ofChange chartMoreSpec)) chartMoreCard

/-- THE TIED CARD OF 'isobarlaw03.ChartBounds'. -/
def chartBoundsCard : Claim7 := { stood := { row := chartBoundsRow, standIns := [], harness := (true, "2d17a4dc9e16d3a73f126c826b77bd7af92222a396f0142bc46a5dacda5c891f"), looks := true }, kinds := [], alts := [], laidByText := true, laidKinds := [.data, .data, .data], laidTests := true, laidLooks := .later }
def ChartBoundsCardSaid : Prop := Claim7.holds Tryz.pinned (.plain (OpenSpec.ofChange chartBoundsSpec)) chartBoundsCard

/-- THE TIED CARD OF 'isobarlaw03.ChartFits'. -/
def chartFitsCard : Claim7 := { stood := { row := chartFitsRow, standIns := [], harness := (true, "2d17a4dc9e16d3a73f126c826b77bd7af92222a396f0142bc46a5dacda5c891f"), looks := true }, kinds := [], alts := [], laidByText := true, laidKinds := [.data, .data, .data], laidTests := true, laidLooks := .later }
def ChartFitsCardSaid : Prop := Claim7.holds Tryz.pinned (.plain (OpenSpec.ofChange chartFitsSpec)) chartFitsCard

/-- THE TIED CARD OF 'isobarlaw03.ChartDrawn'. -/
def chartDrawnCard : Claim7 := { stood := { row := chartDrawnRow, standIns := [], harness := (true, "2d17a4dc9e16d3a73f126c826b77bd7af92222a396f0142bc46a5dacda5c891f"), looks := true }, kinds := [], alts := [], laidByText := true, laidKinds := [.data, .data, .data], laidTests := true, laidLooks := .later }
def ChartDrawnCardSaid : Prop := Claim7.holds Tryz.pinned (.plain (OpenSpec.ofChange chartDrawnSpec)) chartDrawnCard

/-- THE TIED CARD OF 'isobarlaw03.ChartSharp'. -/
def chartSharpCard : Claim7 := { stood := { row := chartSharpRow, standIns := [], harness := (true, "2d17a4dc9e16d3a73f126c826b77bd7af92222a396f0142bc46a5dacda5c891f"), looks := true }, kinds := [], alts := [], laidByText := true, laidKinds := [.data, .data, .data], laidTests := true, laidLooks := .later }
def ChartSharpCardSaid : Prop := Claim7.holds Tryz.pinned (.plain (OpenSpec.ofChange chartSharpSpec)) chartSharpCard

/-- THE TIED CARD OF 'isobarlaw03.ChartTrue'. -/
def chartTrueCard : Claim7 := { stood := { row := chartTrueRow, standIns := [], harness := (true, "2d17a4dc9e16d3a73f126c826b77bd7af92222a396f0142bc46a5dacda5c891f"), looks := true }, kinds := [], alts := [], laidByText := true, laidKinds := [.data, .data, .data], laidTests := true, laidLooks := .later }
def ChartTrueCardSaid : Prop := Claim7.holds Tryz.pinned (.plain (OpenSpec.ofChange chartTrueSpec)) chartTrueCard

/-- THE TIED CARD OF 'isobarlaw03.ChartSheets'. -/
def chartSheetsCard : Claim7 := { stood := { row := chartSheetsRow, standIns := [], harness := (true, "2d17a4dc9e16d3a73f126c826b77bd7af92222a396f0142bc46a5dacda5c891f"), looks := true }, kinds := [], alts := [], laidByText := true, laidKinds := [.data, .data, .data, .data, .pinned], laidTests := true, laidLooks := .later }
def ChartSheetsCardSaid : Prop := Claim7.holds Tryz.pinned (.plain (OpenSpec.ofChange chartSheetsSpec)) chartSheetsCard

/-- THE TIED CARD OF 'isobarlaw03.ChartReads'. -/
def chartReadsCard : Claim7 := { stood := { row := chartReadsRow, standIns := [], harness := (true, "2d17a4dc9e16d3a73f126c826b77bd7af92222a396f0142bc46a5dacda5c891f"), looks := true }, kinds := [], alts := [], laidByText := true, laidKinds := [.data, .data, .data, .data, .pinned], laidTests := true, laidLooks := .later }
def ChartReadsCardSaid : Prop := Claim7.holds Tryz.pinned (.plain (OpenSpec.ofChange chartReadsSpec)) chartReadsCard

/-- THE TIED CARD OF 'isobarlaw03.ChartSpoilt'. -/
def chartSpoiltCard : Claim7 := { stood := { row := chartSpoiltRow, standIns := [], harness := (true, "2d17a4dc9e16d3a73f126c826b77bd7af92222a396f0142bc46a5dacda5c891f"), looks := true }, kinds := [], alts := [], laidByText := true, laidKinds := [.data, .data, .data, .data, .pinned], laidTests := true, laidLooks := .later }
def ChartSpoiltCardSaid : Prop := Claim7.holds Tryz.pinned (.plain (OpenSpec.ofChange chartSpoiltSpec)) chartSpoiltCard

/-- THE SECOND FORM's CARD OF 'isobarlaw03.ChartDraws'. -/
def chartDrawsUptoCard : Claim7 := { stood := { row := chartDrawsUptoRow, standIns := [], harness := (true, "2d17a4dc9e16d3a73f126c826b77bd7af92222a396f0142bc46a5dacda5c891f"), looks := true }, kinds := [], alts := [], laidByText := true, laidKinds := [.data, .data, .data], laidTests := true, laidLooks := .later }
def ChartDrawsUptoCardSaid : Prop := Claim7.holds Tryz.pinned (.plain (OpenSpec.upto chartDrawsSpec)) chartDrawsUptoCard

/-- THE SECOND FORM's CARD OF 'isobarlaw03.ChartLines'. -/
def chartLinesUptoCard : Claim7 := { stood := { row := chartLinesUptoRow, standIns := [], harness := (true, "2d17a4dc9e16d3a73f126c826b77bd7af92222a396f0142bc46a5dacda5c891f"), looks := true }, kinds := [], alts := [], laidByText := true, laidKinds := [.data, .data, .data], laidTests := true, laidLooks := .later }
def ChartLinesUptoCardSaid : Prop := Claim7.holds Tryz.pinned (.plain (OpenSpec.upto chartLinesSpec)) chartLinesUptoCard

/-- THE SECOND FORM's CARD OF 'isobarlaw03.ChartWhole'. -/
def chartWholeUptoCard : Claim7 := { stood := { row := chartWholeUptoRow, standIns := [], harness := (true, "2d17a4dc9e16d3a73f126c826b77bd7af92222a396f0142bc46a5dacda5c891f"), looks := true }, kinds := [], alts := [], laidByText := true, laidKinds := [.data, .data, .data], laidTests := true, laidLooks := .later }
def ChartWholeUptoCardSaid : Prop := Claim7.holds Tryz.pinned (.plain (OpenSpec.upto chartWholeSpec)) chartWholeUptoCard

/-- THE SECOND FORM's CARD OF 'isobarlaw03.ChartApart'. -/
def chartApartUptoCard : Claim7 := { stood := { row := chartApartUptoRow, standIns := [], harness := (true, "2d17a4dc9e16d3a73f126c826b77bd7af92222a396f0142bc46a5dacda5c891f"), looks := true }, kinds := [], alts := [], laidByText := true, laidKinds := [.data, .data, .data], laidTests := true, laidLooks := .later }
def ChartApartUptoCardSaid : Prop := Claim7.holds Tryz.pinned (.plain (OpenSpec.upto chartApartSpec)) chartApartUptoCard

/-- THE SECOND FORM's CARD OF 'isobarlaw03.ChartWords'. -/
def chartWordsUptoCard : Claim7 := { stood := { row := chartWordsUptoRow, standIns := [], harness := (true, "2d17a4dc9e16d3a73f126c826b77bd7af92222a396f0142bc46a5dacda5c891f"), looks := true }, kinds := [], alts := [], laidByText := true, laidKinds := [.data, .data, .data], laidTests := true, laidLooks := .later }
def ChartWordsUptoCardSaid : Prop := Claim7.holds Tryz.pinned (.plain (OpenSpec.upto chartWordsSpec)) chartWordsUptoCard

/-- THE SECOND FORM's CARD OF 'isobarlaw03.ChartClosed'. -/
def chartClosedUptoCard : Claim7 := { stood := { row := chartClosedUptoRow, standIns := [], harness := (true, "2d17a4dc9e16d3a73f126c826b77bd7af92222a396f0142bc46a5dacda5c891f"), looks := true }, kinds := [], alts := [], laidByText := true, laidKinds := [.data, .data, .data], laidTests := true, laidLooks := .later }
def ChartClosedUptoCardSaid : Prop := Claim7.holds Tryz.pinned (.plain (OpenSpec.upto chartClosedSpec)) chartClosedUptoCard

/-- THE SECOND FORM's CARD OF 'isobarlaw03.ChartClashes'. -/
def chartClashesUptoCard : Claim7 := { stood := { row := chartClashesUptoRow, standIns := [], harness := (true, "2d17a4dc9e16d3a73f126c826b77bd7af92222a396f0142bc46a5dacda5c891f"), looks := true }, kinds := [], alts := [], laidByText := true, laidKinds := [.data, .data, .data], laidTests := true, laidLooks := .later }
def ChartClashesUptoCardSaid : Prop := Claim7.holds Tryz.pinned (.plain (OpenSpec.upto chartClashesSpec)) chartClashesUptoCard

/-- THE SECOND FORM's CARD OF 'isobarlaw03.ChartShown'. -/
def chartShownUptoCard : Claim7 := { stood := { row := chartShownUptoRow, standIns := [], harness := (true, "2d17a4dc9e16d3a73f126c826b77bd7af92222a396f0142bc46a5dacda5c891f"), looks := true }, kinds := [], alts := [], laidByText := true, laidKinds := [.data, .data, .data], laidTests := true, laidLooks := .later }
def ChartShownUptoCardSaid : Prop := Claim7.holds Tryz.pinned (.plain (OpenSpec.upto chartShownSpec)) chartShownUptoCard

/-- THE SECOND FORM's CARD OF 'isobarlaw03.ChartMore'. -/
def chartMoreUptoCard : Claim7 := { stood := { row := chartMoreUptoRow, standIns := [], harness := (true, "2d17a4dc9e16d3a73f126c826b77bd7af92222a396f0142bc46a5dacda5c891f"), looks := true }, kinds := [], alts := [], laidByText := true, laidKinds := [.data, .data, .data], laidTests := true, laidLooks := .later }
def ChartMoreUptoCardSaid : Prop := Claim7.holds Tryz.pinned (.plain (OpenSpec.upto chartMoreSpec)) chartMoreUptoCard

/-- THE SECOND FORM's CARD OF 'isobarlaw03.ChartBounds'. -/
def chartBoundsUptoCard : Claim7 := { stood := { row := chartBoundsUptoRow, standIns := [], harness := (true, "2d17a4dc9e16d3a73f126c826b77bd7af92222a396f0142bc46a5dacda5c891f"), looks := true }, kinds := [], alts := [], laidByText := true, laidKinds := [.data, .data, .data], laidTests := true, laidLooks := .later }
def ChartBoundsUptoCardSaid : Prop := Claim7.holds Tryz.pinned (.plain (OpenSpec.upto chartBoundsSpec)) chartBoundsUptoCard

/-- THE SECOND FORM's CARD OF 'isobarlaw03.ChartFits'. -/
def chartFitsUptoCard : Claim7 := { stood := { row := chartFitsUptoRow, standIns := [], harness := (true, "2d17a4dc9e16d3a73f126c826b77bd7af92222a396f0142bc46a5dacda5c891f"), looks := true }, kinds := [], alts := [], laidByText := true, laidKinds := [.data, .data, .data], laidTests := true, laidLooks := .later }
def ChartFitsUptoCardSaid : Prop := Claim7.holds Tryz.pinned (.plain (OpenSpec.upto chartFitsSpec)) chartFitsUptoCard

/-- THE SECOND FORM's CARD OF 'isobarlaw03.ChartDrawn'. -/
def chartDrawnUptoCard : Claim7 := { stood := { row := chartDrawnUptoRow, standIns := [], harness := (true, "2d17a4dc9e16d3a73f126c826b77bd7af92222a396f0142bc46a5dacda5c891f"), looks := true }, kinds := [], alts := [], laidByText := true, laidKinds := [.data, .data, .data], laidTests := true, laidLooks := .later }
def ChartDrawnUptoCardSaid : Prop := Claim7.holds Tryz.pinned (.plain (OpenSpec.upto chartDrawnSpec)) chartDrawnUptoCard

/-- THE SECOND FORM's CARD OF 'isobarlaw03.ChartSharp'. -/
def chartSharpUptoCard : Claim7 := { stood := { row := chartSharpUptoRow, standIns := [], harness := (true, "2d17a4dc9e16d3a73f126c826b77bd7af92222a396f0142bc46a5dacda5c891f"), looks := true }, kinds := [], alts := [], laidByText := true, laidKinds := [.data, .data, .data], laidTests := true, laidLooks := .later }
def ChartSharpUptoCardSaid : Prop := Claim7.holds Tryz.pinned (.plain (OpenSpec.upto chartSharpSpec)) chartSharpUptoCard

/-- THE SECOND FORM's CARD OF 'isobarlaw03.ChartTrue'. -/
def chartTrueUptoCard : Claim7 := { stood := { row := chartTrueUptoRow, standIns := [], harness := (true, "2d17a4dc9e16d3a73f126c826b77bd7af92222a396f0142bc46a5dacda5c891f"), looks := true }, kinds := [], alts := [], laidByText := true, laidKinds := [.data, .data, .data], laidTests := true, laidLooks := .later }
def ChartTrueUptoCardSaid : Prop := Claim7.holds Tryz.pinned (.plain (OpenSpec.upto chartTrueSpec)) chartTrueUptoCard

/-- THE SECOND FORM's CARD OF 'isobarlaw03.ChartSheets'. -/
def chartSheetsUptoCard : Claim7 := { stood := { row := chartSheetsUptoRow, standIns := [], harness := (true, "2d17a4dc9e16d3a73f126c826b77bd7af92222a396f0142bc46a5dacda5c891f"), looks := true }, kinds := [], alts := [], laidByText := true, laidKinds := [.data, .data, .data, .data, .pinned], laidTests := true, laidLooks := .later }
def ChartSheetsUptoCardSaid : Prop := Claim7.holds Tryz.pinned (.plain (OpenSpec.upto chartSheetsSpec)) chartSheetsUptoCard

/-- THE SECOND FORM's CARD OF 'isobarlaw03.ChartReads'. -/
def chartReadsUptoCard : Claim7 := { stood := { row := chartReadsUptoRow, standIns := [], harness := (true, "2d17a4dc9e16d3a73f126c826b77bd7af92222a396f0142bc46a5dacda5c891f"), looks := true }, kinds := [], alts := [], laidByText := true, laidKinds := [.data, .data, .data, .data, .pinned], laidTests := true, laidLooks := .later }
def ChartReadsUptoCardSaid : Prop := Claim7.holds Tryz.pinned (.plain (OpenSpec.upto chartReadsSpec)) chartReadsUptoCard

/-- THE SECOND FORM's CARD OF 'isobarlaw03.ChartSpoilt'. -/
def chartSpoiltUptoCard : Claim7 := { stood := { row := chartSpoiltUptoRow, standIns := [], harness := (true, "2d17a4dc9e16d3a73f126c826b77bd7af92222a396f0142bc46a5dacda5c891f"), looks := true }, kinds := [], alts := [], laidByText := true, laidKinds := [.data, .data, .data, .data, .pinned], laidTests := true, laidLooks := .later }
def ChartSpoiltUptoCardSaid : Prop := Claim7.holds Tryz.pinned (.plain (OpenSpec.upto chartSpoiltSpec)) chartSpoiltUptoCard
end Rows
end Go.Proofs.YtdjncbjfejdamaaGreatDoor

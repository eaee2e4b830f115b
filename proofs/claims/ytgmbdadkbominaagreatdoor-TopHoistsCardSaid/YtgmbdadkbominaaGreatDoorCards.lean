/-
  DERIVED. GIVEN WITH THE SEED: THE CARDS: each row of YtgmbdadkbominaaGreatDoorRows.lean that lists a variable, with what it lists TIED to the program's text (the seventh form; the later family's looks); each row that meets fmt, with fmt's text TOLD by the authors' own Lean function (tested against real Go, not proved from fmt's source: count such statements apart). THE CARD IS WHAT COUNTS. Prove the row's statement (the work); the ties are given (YtgmbdadkbominaaGreatDoorTie.lean); close each card by the builder's one call (the guide's Derived/Test/ToyasCard.lean, 'card_holds'). Laid BY PROGRAM, IN A SANDBOX (cutbox-door.mjs). By AI agents, Wed Nov 11 2026. No macro, syntax, notation, axiom, sorry.
-/
import Derived.Test.YtgmbdadkbominaaGreatDoorRows
import GoSem.ClaimSeven
namespace Go.Proofs.YtgmbdadkbominaaGreatDoor
namespace Rows

/-- THE TIED CARD OF 'isobartop.TopHoists'. -/
def topHoistsCard : Claim7 := { stood := { row := topHoistsRow, standIns := [], harness := (true, "289a431fdb2263323ffb0e056d38a7967f485279947c01e59e404db151fb7b09"), looks := true }, kinds := [], alts := [], laidByText := true, laidKinds := [.data, .data, .data, .data, .pinned], laidTests := true, laidLooks := .later }
def TopHoistsCardSaid : Prop := Claim7.holds Tryz.pinned (.plain (OpenSpec.ofChange topHoistsSpec)) topHoistsCard

/-- THE TIED CARD OF 'isobartop.TopMaps'. -/
def topMapsCard : Claim7 := { stood := { row := topMapsRow, standIns := [], harness := (true, "289a431fdb2263323ffb0e056d38a7967f485279947c01e59e404db151fb7b09"), looks := true }, kinds := [], alts := [], laidByText := true, laidKinds := [.data, .data, .data, .data, .pinned], laidTests := true, laidLooks := .later }
def TopMapsCardSaid : Prop := Claim7.holds Tryz.pinned (.plain (OpenSpec.ofChange topMapsSpec)) topMapsCard

/-- THE TIED CARD OF 'isobartop.TopFollows'. -/
def topFollowsCard : Claim7 := { stood := { row := topFollowsRow, standIns := [], harness := (true, "289a431fdb2263323ffb0e056d38a7967f485279947c01e59e404db151fb7b09"), looks := true }, kinds := [], alts := [], laidByText := true, laidKinds := [.data, .data, .data, .data, .pinned], laidTests := true, laidLooks := .later }
def TopFollowsCardSaid : Prop := Claim7.holds Tryz.pinned (.plain (OpenSpec.ofChange topFollowsSpec)) topFollowsCard

/-- THE SECOND FORM's CARD OF 'isobartop.TopHoists'. -/
def topHoistsUptoCard : Claim7 := { stood := { row := topHoistsUptoRow, standIns := [], harness := (true, "289a431fdb2263323ffb0e056d38a7967f485279947c01e59e404db151fb7b09"), looks := true }, kinds := [], alts := [], laidByText := true, laidKinds := [.data, .data, .data, .data, .pinned], laidTests := true, laidLooks := .later }
def TopHoistsUptoCardSaid : Prop := Claim7.holds Tryz.pinned (.plain (OpenSpec.upto topHoistsSpec)) topHoistsUptoCard

/-- THE SECOND FORM's CARD OF 'isobartop.TopMaps'. -/
def topMapsUptoCard : Claim7 := { stood := { row := topMapsUptoRow, standIns := [], harness := (true, "289a431fdb2263323ffb0e056d38a7967f485279947c01e59e404db151fb7b09"), looks := true }, kinds := [], alts := [], laidByText := true, laidKinds := [.data, .data, .data, .data, .pinned], laidTests := true, laidLooks := .later }
def TopMapsUptoCardSaid : Prop := Claim7.holds Tryz.pinned (.plain (OpenSpec.upto topMapsSpec)) topMapsUptoCard

/-- THE SECOND FORM's CARD OF 'isobartop.TopFollows'. -/
def topFollowsUptoCard : Claim7 := { stood := { row := topFollowsUptoRow, standIns := [], harness := (true, "289a431fdb2263323ffb0e056d38a7967f485279947c01e59e404db151fb7b09"), looks := true }, kinds := [], alts := [], laidByText := true, laidKinds := [.data, .data, .data, .data, .pinned], laidTests := true, laidLooks := .later }
def TopFollowsUptoCardSaid : Prop := Claim7.holds Tryz.pinned (.plain (OpenSpec.upto topFollowsSpec)) topFollowsUptoCard
end Rows
end Go.Proofs.YtgmbdadkbominaaGreatDoor

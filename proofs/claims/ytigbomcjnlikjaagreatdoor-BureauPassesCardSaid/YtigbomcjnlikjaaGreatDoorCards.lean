/-
  DERIVED. GIVEN WITH THE SEED: THE CARDS: each row of YtigbomcjnlikjaaGreatDoorRows.lean that lists a variable, with what it lists TIED to the program's text (the seventh form; the later family's looks); each row that meets fmt, with fmt's text TOLD by the authors' own Lean function (tested against real Go, not proved from fmt's source: count such statements apart). THE CARD IS WHAT COUNTS. Prove the row's statement (the work); the ties are given (YtigbomcjnlikjaaGreatDoorTie.lean); close each card by the builder's one call (the guide's Derived/Test/ToyasCard.lean, 'card_holds'). Laid BY PROGRAM, IN A SANDBOX (cutbox-door.mjs). By AI agents, Wed Nov 11 2026. No macro, syntax, notation, axiom, sorry.
-/
import Derived.Test.YtigbomcjnlikjaaGreatDoorRows
import GoSem.ClaimSeven
namespace Go.Proofs.YtigbomcjnlikjaaGreatDoor
namespace Rows

/-- THE TIED CARD OF 'isobarlaw10.BureauOrders'. -/
def bureauOrdersCard : Claim7 := { stood := { row := bureauOrdersRow, standIns := [], harness := (true, "b0b19e1712b7093aee8b05e5289e8a5f802361f7ad21800066e52839856787e8"), looks := true }, kinds := [], alts := [], laidByText := true, laidKinds := [.data, .data, .data, .data, .pinned], laidTests := true, laidLooks := .later }
def BureauOrdersCardSaid : Prop := Claim7.holds Tryz.pinned (.plain (OpenSpec.ofChange bureauOrdersSpec)) bureauOrdersCard

/-- THE TIED CARD OF 'isobarlaw10.BureauPasses'. -/
def bureauPassesCard : Claim7 := { stood := { row := bureauPassesRow, standIns := [], harness := (true, "b0b19e1712b7093aee8b05e5289e8a5f802361f7ad21800066e52839856787e8"), looks := true }, kinds := [], alts := [], laidByText := true, laidKinds := [.data, .data, .data, .data, .pinned], laidTests := true, laidLooks := .later }
def BureauPassesCardSaid : Prop := Claim7.holds Tryz.pinned (.plain (OpenSpec.ofChange bureauPassesSpec)) bureauPassesCard

/-- THE TIED CARD OF 'isobarlaw10.BureauWatches'. -/
def bureauWatchesCard : Claim7 := { stood := { row := bureauWatchesRow, standIns := [], harness := (true, "b0b19e1712b7093aee8b05e5289e8a5f802361f7ad21800066e52839856787e8"), looks := true }, kinds := [], alts := [], laidByText := true, laidKinds := [.data, .data, .data, .data, .pinned], laidTests := true, laidLooks := .later }
def BureauWatchesCardSaid : Prop := Claim7.holds Tryz.pinned (.plain (OpenSpec.ofChange bureauWatchesSpec)) bureauWatchesCard

/-- THE TIED CARD OF 'isobarlaw10.BureauScores'. -/
def bureauScoresCard : Claim7 := { stood := { row := bureauScoresRow, standIns := [], harness := (true, "b0b19e1712b7093aee8b05e5289e8a5f802361f7ad21800066e52839856787e8"), looks := true }, kinds := [], alts := [], laidByText := true, laidKinds := [.data, .data, .data, .data, .pinned], laidTests := true, laidLooks := .later }
def BureauScoresCardSaid : Prop := Claim7.holds Tryz.pinned (.plain (OpenSpec.ofChange bureauScoresSpec)) bureauScoresCard

/-- THE TIED CARD OF 'isobarlaw10.BureauCosts'. -/
def bureauCostsCard : Claim7 := { stood := { row := bureauCostsRow, standIns := [], harness := (true, "b0b19e1712b7093aee8b05e5289e8a5f802361f7ad21800066e52839856787e8"), looks := true }, kinds := [], alts := [], laidByText := true, laidKinds := [.data, .data, .data, .data, .pinned], laidTests := true, laidLooks := .later }
def BureauCostsCardSaid : Prop := Claim7.holds Tryz.pinned (.plain (OpenSpec.ofChange bureauCostsSpec)) bureauCostsCard

/-- THE TIED CARD OF 'isobarlaw10.BureauKeeps'. -/
def bureauKeepsCard : Claim7 := { stood := { row := bureauKeepsRow, standIns := [], harness := (true, "b0b19e1712b7093aee8b05e5289e8a5f802361f7ad21800066e52839856787e8"), looks := true }, kinds := [], alts := [], laidByText := true, laidKinds := [.data, .data, .data, .data, .pinned], laidTests := true, laidLooks := .later }
def BureauKeepsCardSaid : Prop := Claim7.holds Tryz.pinned (.plain (OpenSpec.ofChange bureauKeepsSpec)) bureauKeepsCard

/-- THE TIED CARD OF 'isobarlaw10.BureauRefuses'. -/
def bureauRefusesCard : Claim7 := { stood := { row := bureauRefusesRow, standIns := [], harness := (true, "b0b19e1712b7093aee8b05e5289e8a5f802361f7ad21800066e52839856787e8"), looks := true }, kinds := [], alts := [], laidByText := true, laidKinds := [.data, .data, .data, .data, .pinned], laidTests := true, laidLooks := .later }
def BureauRefusesCardSaid : Prop := Claim7.holds Tryz.pinned (.plain (OpenSpec.ofChange bureauRefusesSpec)) bureauRefusesCard

/-- THE TIED CARD OF 'isobarlaw10.BureauAgain'. -/
def bureauAgainCard : Claim7 := { stood := { row := bureauAgainRow, standIns := [], harness := (true, "b0b19e1712b7093aee8b05e5289e8a5f802361f7ad21800066e52839856787e8"), looks := true }, kinds := [], alts := [], laidByText := true, laidKinds := [.data, .data, .data, .data, .pinned], laidTests := true, laidLooks := .later }
def BureauAgainCardSaid : Prop := Claim7.holds Tryz.pinned (.plain (OpenSpec.ofChange bureauAgainSpec)) bureauAgainCard

/-- THE SECOND FORM's CARD OF 'isobarlaw10.BureauOrders'. -/
def bureauOrdersUptoCard : Claim7 := { stood := { row := bureauOrdersUptoRow, standIns := [], harness := (true, "b0b19e1712b7093aee8b05e5289e8a5f802361f7ad21800066e52839856787e8"), looks := true }, kinds := [], alts := [], laidByText := true, laidKinds := [.data, .data, .data, .data, .pinned], laidTests := true, laidLooks := .later }
def BureauOrdersUptoCardSaid : Prop := Claim7.holds Tryz.pinned (.plain (OpenSpec.upto bureauOrdersSpec)) bureauOrdersUptoCard

/-- THE SECOND FORM's CARD OF 'isobarlaw10.BureauPasses'. -/
def bureauPassesUptoCard : Claim7 := { stood := { row := bureauPassesUptoRow, standIns := [], harness := (true, "b0b19e1712b7093aee8b05e5289e8a5f802361f7ad21800066e52839856787e8"), looks := true }, kinds := [], alts := [], laidByText := true, laidKinds := [.data, .data, .data, .data, .pinned], laidTests := true, laidLooks := .later }
def BureauPassesUptoCardSaid : Prop := Claim7.holds Tryz.pinned (.plain (OpenSpec.upto bureauPassesSpec)) bureauPassesUptoCard

/-- THE SECOND FORM's CARD OF 'isobarlaw10.BureauWatches'. -/
def bureauWatchesUptoCard : Claim7 := { stood := { row := bureauWatchesUptoRow, standIns := [], harness := (true, "b0b19e1712b7093aee8b05e5289e8a5f802361f7ad21800066e52839856787e8"), looks := true }, kinds := [], alts := [], laidByText := true, laidKinds := [.data, .data, .data, .data, .pinned], laidTests := true, laidLooks := .later }
def BureauWatchesUptoCardSaid : Prop := Claim7.holds Tryz.pinned (.plain (OpenSpec.upto bureauWatchesSpec)) bureauWatchesUptoCard

/-- THE SECOND FORM's CARD OF 'isobarlaw10.BureauScores'. -/
def bureauScoresUptoCard : Claim7 := { stood := { row := bureauScoresUptoRow, standIns := [], harness := (true, "b0b19e1712b7093aee8b05e5289e8a5f802361f7ad21800066e52839856787e8"), looks := true }, kinds := [], alts := [], laidByText := true, laidKinds := [.data, .data, .data, .data, .pinned], laidTests := true, laidLooks := .later }
def BureauScoresUptoCardSaid : Prop := Claim7.holds Tryz.pinned (.plain (OpenSpec.upto bureauScoresSpec)) bureauScoresUptoCard

/-- THE SECOND FORM's CARD OF 'isobarlaw10.BureauCosts'. -/
def bureauCostsUptoCard : Claim7 := { stood := { row := bureauCostsUptoRow, standIns := [], harness := (true, "b0b19e1712b7093aee8b05e5289e8a5f802361f7ad21800066e52839856787e8"), looks := true }, kinds := [], alts := [], laidByText := true, laidKinds := [.data, .data, .data, .data, .pinned], laidTests := true, laidLooks := .later }
def BureauCostsUptoCardSaid : Prop := Claim7.holds Tryz.pinned (.plain (OpenSpec.upto bureauCostsSpec)) bureauCostsUptoCard

/-- THE SECOND FORM's CARD OF 'isobarlaw10.BureauKeeps'. -/
def bureauKeepsUptoCard : Claim7 := { stood := { row := bureauKeepsUptoRow, standIns := [], harness := (true, "b0b19e1712b7093aee8b05e5289e8a5f802361f7ad21800066e52839856787e8"), looks := true }, kinds := [], alts := [], laidByText := true, laidKinds := [.data, .data, .data, .data, .pinned], laidTests := true, laidLooks := .later }
def BureauKeepsUptoCardSaid : Prop := Claim7.holds Tryz.pinned (.plain (OpenSpec.upto bureauKeepsSpec)) bureauKeepsUptoCard

/-- THE SECOND FORM's CARD OF 'isobarlaw10.BureauRefuses'. -/
def bureauRefusesUptoCard : Claim7 := { stood := { row := bureauRefusesUptoRow, standIns := [], harness := (true, "b0b19e1712b7093aee8b05e5289e8a5f802361f7ad21800066e52839856787e8"), looks := true }, kinds := [], alts := [], laidByText := true, laidKinds := [.data, .data, .data, .data, .pinned], laidTests := true, laidLooks := .later }
def BureauRefusesUptoCardSaid : Prop := Claim7.holds Tryz.pinned (.plain (OpenSpec.upto bureauRefusesSpec)) bureauRefusesUptoCard

/-- THE SECOND FORM's CARD OF 'isobarlaw10.BureauAgain'. -/
def bureauAgainUptoCard : Claim7 := { stood := { row := bureauAgainUptoRow, standIns := [], harness := (true, "b0b19e1712b7093aee8b05e5289e8a5f802361f7ad21800066e52839856787e8"), looks := true }, kinds := [], alts := [], laidByText := true, laidKinds := [.data, .data, .data, .data, .pinned], laidTests := true, laidLooks := .later }
def BureauAgainUptoCardSaid : Prop := Claim7.holds Tryz.pinned (.plain (OpenSpec.upto bureauAgainSpec)) bureauAgainUptoCard
end Rows
end Go.Proofs.YtigbomcjnlikjaaGreatDoor

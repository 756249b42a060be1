/-
  DERIVED. GIVEN WITH THE SEED: THE CARDS: each row of YtapigfcnpjchbaaGreatDoorRows.lean that lists a variable, with what it lists TIED to the program's text (the seventh form; the later family's looks); each row that meets fmt, with fmt's text TOLD by the authors' own Lean function (tested against real Go, not proved from fmt's source: count such statements apart). THE CARD IS WHAT COUNTS. Prove the row's statement (the work); the ties are given (YtapigfcnpjchbaaGreatDoorTie.lean); close each card by the builder's one call (the guide's Derived/Test/ToyasCard.lean, 'card_holds'). Laid BY PROGRAM, IN A SANDBOX (cutbox-door.mjs). By AI agents, Wed Nov 11 2026. No macro, syntax, notation, axiom, sorry.
-/
import Derived.Test.YtapigfcnpjchbaaGreatDoorRows
import GoSem.ClaimSeven
namespace Go.Proofs.YtapigfcnpjchbaaGreatDoor
namespace Rows

/-- THE TIED CARD OF 'laws.FnExactTurnNet'. -/
def fnExactTurnNetCard : Claim7 := { stood := { row := fnExactTurnNetRow, standIns := [], harness := (true, "3a35a06b5b61902424f0e113ea8014e1d732a50ac053e18cdf44fbbe67492085"), looks := true }, kinds := [], alts := [], laidByText := true, laidKinds := [.data, .pinned], laidTests := true, laidLooks := .later }
def FnExactTurnNetCardSaid : Prop := Claim7.holds Tryz.pinned (.plain (OpenSpec.ofChange fnExactTurnNetSpec)) fnExactTurnNetCard

/-- THE TIED CARD OF 'laws.FnExactLongestRow'. -/
def fnExactLongestRowCard : Claim7 := { stood := { row := fnExactLongestRowRow, standIns := [], harness := (true, "3a35a06b5b61902424f0e113ea8014e1d732a50ac053e18cdf44fbbe67492085"), looks := true }, kinds := [], alts := [], laidByText := true, laidKinds := [.data, .pinned], laidTests := true, laidLooks := .later }
def FnExactLongestRowCardSaid : Prop := Claim7.holds Tryz.pinned (.plain (OpenSpec.ofChange fnExactLongestRowSpec)) fnExactLongestRowCard

/-- THE TIED CARD OF 'laws.FnExactIsNetShape'. -/
def fnExactIsNetShapeCard : Claim7 := { stood := { row := fnExactIsNetShapeRow, standIns := [], harness := (true, "3a35a06b5b61902424f0e113ea8014e1d732a50ac053e18cdf44fbbe67492085"), looks := true }, kinds := [], alts := [], laidByText := true, laidKinds := [.data, .pinned], laidTests := true, laidLooks := .later }
def FnExactIsNetShapeCardSaid : Prop := Claim7.holds Tryz.pinned (.plain (OpenSpec.ofChange fnExactIsNetShapeSpec)) fnExactIsNetShapeCard

/-- THE TIED CARD OF 'laws.FnExactNetOfShape'. -/
def fnExactNetOfShapeCard : Claim7 := { stood := { row := fnExactNetOfShapeRow, standIns := [], harness := (true, "3a35a06b5b61902424f0e113ea8014e1d732a50ac053e18cdf44fbbe67492085"), looks := true }, kinds := [], alts := [], laidByText := true, laidKinds := [.data, .pinned], laidTests := true, laidLooks := .later }
def FnExactNetOfShapeCardSaid : Prop := Claim7.holds Tryz.pinned (.plain (OpenSpec.ofChange fnExactNetOfShapeSpec)) fnExactNetOfShapeCard

/-- THE TIED CARD OF 'laws.FnExactShapeOfNet'. -/
def fnExactShapeOfNetCard : Claim7 := { stood := { row := fnExactShapeOfNetRow, standIns := [], harness := (true, "3a35a06b5b61902424f0e113ea8014e1d732a50ac053e18cdf44fbbe67492085"), looks := true }, kinds := [], alts := [], laidByText := true, laidKinds := [.data, .pinned], laidTests := true, laidLooks := .later }
def FnExactShapeOfNetCardSaid : Prop := Claim7.holds Tryz.pinned (.plain (OpenSpec.ofChange fnExactShapeOfNetSpec)) fnExactShapeOfNetCard

/-- THE TIED CARD OF 'laws.FnExactNetsOf'. -/
def fnExactNetsOfCard : Claim7 := { stood := { row := fnExactNetsOfRow, standIns := [], harness := (true, "3a35a06b5b61902424f0e113ea8014e1d732a50ac053e18cdf44fbbe67492085"), looks := true }, kinds := [], alts := [], laidByText := true, laidKinds := [.data, .pinned], laidTests := true, laidLooks := .later }
def FnExactNetsOfCardSaid : Prop := Claim7.holds Tryz.pinned (.plain (OpenSpec.ofChange fnExactNetsOfSpec)) fnExactNetsOfCard

/-- THE SECOND FORM's CARD OF 'laws.FnExactTurnNet'. -/
def fnExactTurnNetUptoCard : Claim7 := { stood := { row := fnExactTurnNetUptoRow, standIns := [], harness := (true, "3a35a06b5b61902424f0e113ea8014e1d732a50ac053e18cdf44fbbe67492085"), looks := true }, kinds := [], alts := [], laidByText := true, laidKinds := [.data, .pinned], laidTests := true, laidLooks := .later }
def FnExactTurnNetUptoCardSaid : Prop := Claim7.holds Tryz.pinned (.plain (OpenSpec.upto fnExactTurnNetSpec)) fnExactTurnNetUptoCard

/-- THE SECOND FORM's CARD OF 'laws.FnExactLongestRow'. -/
def fnExactLongestRowUptoCard : Claim7 := { stood := { row := fnExactLongestRowUptoRow, standIns := [], harness := (true, "3a35a06b5b61902424f0e113ea8014e1d732a50ac053e18cdf44fbbe67492085"), looks := true }, kinds := [], alts := [], laidByText := true, laidKinds := [.data, .pinned], laidTests := true, laidLooks := .later }
def FnExactLongestRowUptoCardSaid : Prop := Claim7.holds Tryz.pinned (.plain (OpenSpec.upto fnExactLongestRowSpec)) fnExactLongestRowUptoCard

/-- THE SECOND FORM's CARD OF 'laws.FnExactIsNetShape'. -/
def fnExactIsNetShapeUptoCard : Claim7 := { stood := { row := fnExactIsNetShapeUptoRow, standIns := [], harness := (true, "3a35a06b5b61902424f0e113ea8014e1d732a50ac053e18cdf44fbbe67492085"), looks := true }, kinds := [], alts := [], laidByText := true, laidKinds := [.data, .pinned], laidTests := true, laidLooks := .later }
def FnExactIsNetShapeUptoCardSaid : Prop := Claim7.holds Tryz.pinned (.plain (OpenSpec.upto fnExactIsNetShapeSpec)) fnExactIsNetShapeUptoCard

/-- THE SECOND FORM's CARD OF 'laws.FnExactNetOfShape'. -/
def fnExactNetOfShapeUptoCard : Claim7 := { stood := { row := fnExactNetOfShapeUptoRow, standIns := [], harness := (true, "3a35a06b5b61902424f0e113ea8014e1d732a50ac053e18cdf44fbbe67492085"), looks := true }, kinds := [], alts := [], laidByText := true, laidKinds := [.data, .pinned], laidTests := true, laidLooks := .later }
def FnExactNetOfShapeUptoCardSaid : Prop := Claim7.holds Tryz.pinned (.plain (OpenSpec.upto fnExactNetOfShapeSpec)) fnExactNetOfShapeUptoCard

/-- THE SECOND FORM's CARD OF 'laws.FnExactShapeOfNet'. -/
def fnExactShapeOfNetUptoCard : Claim7 := { stood := { row := fnExactShapeOfNetUptoRow, standIns := [], harness := (true, "3a35a06b5b61902424f0e113ea8014e1d732a50ac053e18cdf44fbbe67492085"), looks := true }, kinds := [], alts := [], laidByText := true, laidKinds := [.data, .pinned], laidTests := true, laidLooks := .later }
def FnExactShapeOfNetUptoCardSaid : Prop := Claim7.holds Tryz.pinned (.plain (OpenSpec.upto fnExactShapeOfNetSpec)) fnExactShapeOfNetUptoCard

/-- THE SECOND FORM's CARD OF 'laws.FnExactNetsOf'. -/
def fnExactNetsOfUptoCard : Claim7 := { stood := { row := fnExactNetsOfUptoRow, standIns := [], harness := (true, "3a35a06b5b61902424f0e113ea8014e1d732a50ac053e18cdf44fbbe67492085"), looks := true }, kinds := [], alts := [], laidByText := true, laidKinds := [.data, .pinned], laidTests := true, laidLooks := .later }
def FnExactNetsOfUptoCardSaid : Prop := Claim7.holds Tryz.pinned (.plain (OpenSpec.upto fnExactNetsOfSpec)) fnExactNetsOfUptoCard
end Rows
end Go.Proofs.YtapigfcnpjchbaaGreatDoor

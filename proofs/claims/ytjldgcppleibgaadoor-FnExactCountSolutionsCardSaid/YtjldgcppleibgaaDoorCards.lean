/-
  DERIVED. GIVEN WITH THE SEED: THE CARDS: each row of YtjldgcppleibgaaDoorRows.lean that lists a variable, with what it lists TIED to the program's text (the seventh form; the later family's looks); each row that meets fmt, with fmt's text TOLD by the authors' own Lean function (tested against real Go, not proved from fmt's source: count such statements apart). THE CARD IS WHAT COUNTS. Prove the row's statement (the work); the ties are given (YtjldgcppleibgaaDoorTie.lean); close each card by the builder's one call (the guide's Derived/Test/ToyasCard.lean, 'card_holds'). Laid BY PROGRAM, IN A SANDBOX (cutbox-door.mjs). By AI agents, Wed Nov 11 2026. No macro, syntax, notation, axiom, sorry.
-/
import Derived.Test.YtjldgcppleibgaaDoorRows
import GoSem.ClaimSeven
namespace Go.Proofs.YtjldgcppleibgaaDoor
namespace Rows

/-- THE TIED CARD OF 'laws.FnExactLengthOf'. -/
def fnExactLengthOfCard : Claim7 := { stood := { row := fnExactLengthOfRow, standIns := [], harness := (true, "af9cc1acdbcdbb59976ff9b2b3344d2e5156824ddb9f26e092dd66b92d0ddc7a"), looks := false }, kinds := [], alts := [], laidByText := true, laidKinds := [.data, .pinned], laidTests := true, laidLooks := .later }
def FnExactLengthOfCardSaid : Prop := Claim7.holds Tryd.pinned (.plain (OpenSpec.ofChange fnExactLengthOfSpec)) fnExactLengthOfCard

/-- THE TIED CARD OF 'laws.FnExactSolutionOf'. -/
def fnExactSolutionOfCard : Claim7 := { stood := { row := fnExactSolutionOfRow, standIns := [], harness := (true, "af9cc1acdbcdbb59976ff9b2b3344d2e5156824ddb9f26e092dd66b92d0ddc7a"), looks := false }, kinds := [], alts := [], laidByText := true, laidKinds := [.data, .pinned], laidTests := true, laidLooks := .later }
def FnExactSolutionOfCardSaid : Prop := Claim7.holds Tryd.pinned (.plain (OpenSpec.ofChange fnExactSolutionOfSpec)) fnExactSolutionOfCard

/-- THE TIED CARD OF 'laws.FnExactHardestGoal'. -/
def fnExactHardestGoalCard : Claim7 := { stood := { row := fnExactHardestGoalRow, standIns := [], harness := (true, "af9cc1acdbcdbb59976ff9b2b3344d2e5156824ddb9f26e092dd66b92d0ddc7a"), looks := false }, kinds := [], alts := [], laidByText := true, laidKinds := [.data, .pinned], laidTests := true, laidLooks := .later }
def FnExactHardestGoalCardSaid : Prop := Claim7.holds Tryd.pinned (.plain (OpenSpec.ofChange fnExactHardestGoalSpec)) fnExactHardestGoalCard

/-- THE TIED CARD OF 'laws.FnExactNeedlessWalls'. -/
def fnExactNeedlessWallsCard : Claim7 := { stood := { row := fnExactNeedlessWallsRow, standIns := [], harness := (true, "af9cc1acdbcdbb59976ff9b2b3344d2e5156824ddb9f26e092dd66b92d0ddc7a"), looks := false }, kinds := [], alts := [], laidByText := true, laidKinds := [.data, .pinned], laidTests := true, laidLooks := .later }
def FnExactNeedlessWallsCardSaid : Prop := Claim7.holds Tryd.pinned (.plain (OpenSpec.ofChange fnExactNeedlessWallsSpec)) fnExactNeedlessWallsCard

/-- THE TIED CARD OF 'laws.FnExactCountSolutions'. -/
def fnExactCountSolutionsCard : Claim7 := { stood := { row := fnExactCountSolutionsRow, standIns := [], harness := (true, "af9cc1acdbcdbb59976ff9b2b3344d2e5156824ddb9f26e092dd66b92d0ddc7a"), looks := false }, kinds := [], alts := [], laidByText := true, laidKinds := [.data, .pinned], laidTests := true, laidLooks := .later }
def FnExactCountSolutionsCardSaid : Prop := Claim7.holds Tryd.pinned (.plain (OpenSpec.ofChange fnExactCountSolutionsSpec)) fnExactCountSolutionsCard

/-- THE TIED CARD OF 'laws.FnExactPuzzleText'. -/
def fnExactPuzzleTextCard : Claim7 := { stood := { row := fnExactPuzzleTextRow, standIns := [], harness := (true, "af9cc1acdbcdbb59976ff9b2b3344d2e5156824ddb9f26e092dd66b92d0ddc7a"), looks := false }, kinds := [], alts := [], laidByText := true, laidKinds := [.data, .data, .data, .data, .pinned], laidTests := true, laidLooks := .later }
def FnExactPuzzleTextCardSaid : Prop := Claim7.holds Tryd.pinned (.plain (OpenSpec.ofChange fnExactPuzzleTextSpec)) fnExactPuzzleTextCard

/-- THE TIED CARD OF 'laws.FnExactAllSolutions'. -/
def fnExactAllSolutionsCard : Claim7 := { stood := { row := fnExactAllSolutionsRow, standIns := [], harness := (true, "af9cc1acdbcdbb59976ff9b2b3344d2e5156824ddb9f26e092dd66b92d0ddc7a"), looks := false }, kinds := [], alts := [], laidByText := true, laidKinds := [.data, .pinned], laidTests := true, laidLooks := .later }
def FnExactAllSolutionsCardSaid : Prop := Claim7.holds Tryd.pinned (.plain (OpenSpec.ofChange fnExactAllSolutionsSpec)) fnExactAllSolutionsCard

/-- THE TIED CARD OF 'laws.FnExactMakePuzzle'. -/
def fnExactMakePuzzleCard : Claim7 := { stood := { row := fnExactMakePuzzleRow, standIns := [], harness := (true, "af9cc1acdbcdbb59976ff9b2b3344d2e5156824ddb9f26e092dd66b92d0ddc7a"), looks := false }, kinds := [], alts := [], laidByText := true, laidKinds := [.data, .pinned], laidTests := true, laidLooks := .later }
def FnExactMakePuzzleCardSaid : Prop := Claim7.holds Tryd.pinned (.plain (OpenSpec.ofChange fnExactMakePuzzleSpec)) fnExactMakePuzzleCard

/-- THE SECOND FORM's CARD OF 'laws.FnExactLengthOf'. -/
def fnExactLengthOfUptoCard : Claim7 := { stood := { row := fnExactLengthOfUptoRow, standIns := [], harness := (true, "af9cc1acdbcdbb59976ff9b2b3344d2e5156824ddb9f26e092dd66b92d0ddc7a"), looks := false }, kinds := [], alts := [], laidByText := true, laidKinds := [.data, .pinned], laidTests := true, laidLooks := .later }
def FnExactLengthOfUptoCardSaid : Prop := Claim7.holds Tryd.pinned (.plain (OpenSpec.upto fnExactLengthOfSpec)) fnExactLengthOfUptoCard

/-- THE SECOND FORM's CARD OF 'laws.FnExactSolutionOf'. -/
def fnExactSolutionOfUptoCard : Claim7 := { stood := { row := fnExactSolutionOfUptoRow, standIns := [], harness := (true, "af9cc1acdbcdbb59976ff9b2b3344d2e5156824ddb9f26e092dd66b92d0ddc7a"), looks := false }, kinds := [], alts := [], laidByText := true, laidKinds := [.data, .pinned], laidTests := true, laidLooks := .later }
def FnExactSolutionOfUptoCardSaid : Prop := Claim7.holds Tryd.pinned (.plain (OpenSpec.upto fnExactSolutionOfSpec)) fnExactSolutionOfUptoCard

/-- THE SECOND FORM's CARD OF 'laws.FnExactHardestGoal'. -/
def fnExactHardestGoalUptoCard : Claim7 := { stood := { row := fnExactHardestGoalUptoRow, standIns := [], harness := (true, "af9cc1acdbcdbb59976ff9b2b3344d2e5156824ddb9f26e092dd66b92d0ddc7a"), looks := false }, kinds := [], alts := [], laidByText := true, laidKinds := [.data, .pinned], laidTests := true, laidLooks := .later }
def FnExactHardestGoalUptoCardSaid : Prop := Claim7.holds Tryd.pinned (.plain (OpenSpec.upto fnExactHardestGoalSpec)) fnExactHardestGoalUptoCard

/-- THE SECOND FORM's CARD OF 'laws.FnExactNeedlessWalls'. -/
def fnExactNeedlessWallsUptoCard : Claim7 := { stood := { row := fnExactNeedlessWallsUptoRow, standIns := [], harness := (true, "af9cc1acdbcdbb59976ff9b2b3344d2e5156824ddb9f26e092dd66b92d0ddc7a"), looks := false }, kinds := [], alts := [], laidByText := true, laidKinds := [.data, .pinned], laidTests := true, laidLooks := .later }
def FnExactNeedlessWallsUptoCardSaid : Prop := Claim7.holds Tryd.pinned (.plain (OpenSpec.upto fnExactNeedlessWallsSpec)) fnExactNeedlessWallsUptoCard

/-- THE SECOND FORM's CARD OF 'laws.FnExactCountSolutions'. -/
def fnExactCountSolutionsUptoCard : Claim7 := { stood := { row := fnExactCountSolutionsUptoRow, standIns := [], harness := (true, "af9cc1acdbcdbb59976ff9b2b3344d2e5156824ddb9f26e092dd66b92d0ddc7a"), looks := false }, kinds := [], alts := [], laidByText := true, laidKinds := [.data, .pinned], laidTests := true, laidLooks := .later }
def FnExactCountSolutionsUptoCardSaid : Prop := Claim7.holds Tryd.pinned (.plain (OpenSpec.upto fnExactCountSolutionsSpec)) fnExactCountSolutionsUptoCard

/-- THE SECOND FORM's CARD OF 'laws.FnExactPuzzleText'. -/
def fnExactPuzzleTextUptoCard : Claim7 := { stood := { row := fnExactPuzzleTextUptoRow, standIns := [], harness := (true, "af9cc1acdbcdbb59976ff9b2b3344d2e5156824ddb9f26e092dd66b92d0ddc7a"), looks := false }, kinds := [], alts := [], laidByText := true, laidKinds := [.data, .data, .data, .data, .pinned], laidTests := true, laidLooks := .later }
def FnExactPuzzleTextUptoCardSaid : Prop := Claim7.holds Tryd.pinned (.plain (OpenSpec.upto fnExactPuzzleTextSpec)) fnExactPuzzleTextUptoCard

/-- THE SECOND FORM's CARD OF 'laws.FnExactAllSolutions'. -/
def fnExactAllSolutionsUptoCard : Claim7 := { stood := { row := fnExactAllSolutionsUptoRow, standIns := [], harness := (true, "af9cc1acdbcdbb59976ff9b2b3344d2e5156824ddb9f26e092dd66b92d0ddc7a"), looks := false }, kinds := [], alts := [], laidByText := true, laidKinds := [.data, .pinned], laidTests := true, laidLooks := .later }
def FnExactAllSolutionsUptoCardSaid : Prop := Claim7.holds Tryd.pinned (.plain (OpenSpec.upto fnExactAllSolutionsSpec)) fnExactAllSolutionsUptoCard

/-- THE SECOND FORM's CARD OF 'laws.FnExactMakePuzzle'. -/
def fnExactMakePuzzleUptoCard : Claim7 := { stood := { row := fnExactMakePuzzleUptoRow, standIns := [], harness := (true, "af9cc1acdbcdbb59976ff9b2b3344d2e5156824ddb9f26e092dd66b92d0ddc7a"), looks := false }, kinds := [], alts := [], laidByText := true, laidKinds := [.data, .pinned], laidTests := true, laidLooks := .later }
def FnExactMakePuzzleUptoCardSaid : Prop := Claim7.holds Tryd.pinned (.plain (OpenSpec.upto fnExactMakePuzzleSpec)) fnExactMakePuzzleUptoCard
end Rows
end Go.Proofs.YtjldgcppleibgaaDoor

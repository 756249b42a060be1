/-
  DERIVED. GIVEN WITH THE SEED: THE CARDS: each row of YtopdhhekaacjbaaDoorRows.lean that lists a variable, with what it lists TIED to the program's text (the seventh form; the later family's looks); each row that meets fmt, with fmt's text TOLD by the authors' own Lean function (tested against real Go, not proved from fmt's source: count such statements apart). THE CARD IS WHAT COUNTS. Prove the row's statement (the work); the ties are given (YtopdhhekaacjbaaDoorTie.lean); close each card by the builder's one call (the guide's Derived/Test/ToyasCard.lean, 'card_holds'). Laid BY PROGRAM, IN A SANDBOX (cutbox-door.mjs). By AI agents, Wed Nov 11 2026. No macro, syntax, notation, axiom, sorry.
-/
import Derived.Test.YtopdhhekaacjbaaDoorRows
import GoSem.ClaimSeven
namespace Go.Proofs.YtopdhhekaacjbaaDoor
namespace Rows

/-- THE TIED CARD OF 'laws.FnExactCountKept'. -/
def fnExactCountKeptCard : Claim7 := { stood := { row := fnExactCountKeptRow, standIns := [], harness := (true, "eabf1d9343c3115c25851ada5edb789c823bcfa8e7b4bdecf6c15ca791e76aa9"), looks := false }, kinds := [], alts := [], laidByText := true, laidKinds := [.data, .pinned], laidTests := true, laidLooks := .later }
def FnExactCountKeptCardSaid : Prop := Claim7.holds Tryd.pinned (.plain (OpenSpec.ofChange fnExactCountKeptSpec)) fnExactCountKeptCard

/-- THE TIED CARD OF 'laws.FnExactFaceCycles'. -/
def fnExactFaceCyclesCard : Claim7 := { stood := { row := fnExactFaceCyclesRow, standIns := [], harness := (true, "eabf1d9343c3115c25851ada5edb789c823bcfa8e7b4bdecf6c15ca791e76aa9"), looks := false }, kinds := [], alts := [], laidByText := true, laidKinds := [.data, .pinned], laidTests := true, laidLooks := .later }
def FnExactFaceCyclesCardSaid : Prop := Claim7.holds Tryd.pinned (.plain (OpenSpec.ofChange fnExactFaceCyclesSpec)) fnExactFaceCyclesCard

/-- THE SECOND FORM's CARD OF 'laws.FnExactCountKept'. -/
def fnExactCountKeptUptoCard : Claim7 := { stood := { row := fnExactCountKeptUptoRow, standIns := [], harness := (true, "eabf1d9343c3115c25851ada5edb789c823bcfa8e7b4bdecf6c15ca791e76aa9"), looks := false }, kinds := [], alts := [], laidByText := true, laidKinds := [.data, .pinned], laidTests := true, laidLooks := .later }
def FnExactCountKeptUptoCardSaid : Prop := Claim7.holds Tryd.pinned (.plain (OpenSpec.upto fnExactCountKeptSpec)) fnExactCountKeptUptoCard

/-- THE SECOND FORM's CARD OF 'laws.FnExactFaceCycles'. -/
def fnExactFaceCyclesUptoCard : Claim7 := { stood := { row := fnExactFaceCyclesUptoRow, standIns := [], harness := (true, "eabf1d9343c3115c25851ada5edb789c823bcfa8e7b4bdecf6c15ca791e76aa9"), looks := false }, kinds := [], alts := [], laidByText := true, laidKinds := [.data, .pinned], laidTests := true, laidLooks := .later }
def FnExactFaceCyclesUptoCardSaid : Prop := Claim7.holds Tryd.pinned (.plain (OpenSpec.upto fnExactFaceCyclesSpec)) fnExactFaceCyclesUptoCard
end Rows
end Go.Proofs.YtopdhhekaacjbaaDoor

/-
  NARROWER THAN 'FOR EVERY INPUT', by the rows' own cells (each row's printed sentence says how): FnExactIsDesk: laid · FnExactIsPuzzle: laid · FnExactTurnBoard: laid · FnExactTurnGround: laid · FnExactFloorOfLabels: laid · FnExactTurnLabelled: laid · FnExactIsSolvedBy: laid · FnExactFirstSolved: laid · FnExactTurnPuzzle: laid · FnExactReplayOf: laid · FnExactPrintsAlong: laid · FnExactLabelsOfWord: laid.
  DERIVED. THE GIVEN ROWS OF THIS SEAT. 12 by the template 'for every input the law returns true; each argument reads behind the call as it read before'; 0 by the template 'total and deterministic' (their statements: YtfbfndnppfgfmaaDoorTotals.lean).
  GIVEN WITH THE SEED: the statements are not yours to turn. If you find one false, say at which input.
  Laid BY PROGRAM, IN A SANDBOX (cutbox-rows.mjs): the forced cells as the released guide's own fill.sh prints them over the translation c75c14edf596c801… (all of the seat's roots in one cut). By AI agents, Wed Nov 11 2026. No macro, syntax, notation, axiom, sorry.
-/
import Derived.Test.YtfbfndnppfgfmaaDoorChecked
import GoSem.PinnedTables
import GoSem.Claim
import GoSem.ClaimJoined
import GoSem.ClaimMapViews
import Derived.JoinedTies
import Derived.KernelRfl
namespace Go.Proofs.YtfbfndnppfgfmaaDoor
/- THE CELL 'sum', in the pinned program and in every row, IS THE sha256 OF THE DUMP (.gsa) THAT YtfbfndnppfgfmaaDoorProg.lean LOADS. Nothing in Lean hashes anything: it is a label: what it is worth is what the hold of that sum in a sandbox is worth. -/
noncomputable def Tryd.pinned : Pinned := { name := "ytfbfndnppfgfmaadoor", sum := "c75c14edf596c80181e9159a766a9c090170b2537224201555030ce309c49e44", checked := Tryd.checked }
namespace Rows
def none {H : Type} : Left H := { results := [], args := [] }

/- WHAT THE LISTED PACKAGE-LEVEL VARIABLES READ AS WHEN THE CALL BEGINS. Each datum BY PROGRAM (the guide's laid-datum.mjs) off the statement by which the dump's own 'gosem.cut.vars' lays the variable. In a bare row this is a premise. The card (YtfbfndnppfgfmaaDoorCards.lean) ties it to the program's text. -/
def laid_unicode_utf8_acceptRanges {H : Type} : DataW H := .agg [.agg [.lit (.int .u8 128), .lit (.int .u8 191)], .agg [.lit (.int .u8 160), .lit (.int .u8 191)], .agg [.lit (.int .u8 128), .lit (.int .u8 159)], .agg [.lit (.int .u8 144), .lit (.int .u8 191)], .agg [.lit (.int .u8 128), .lit (.int .u8 143)], .agg [.lit (.int .u8 0), .lit (.int .u8 0)], .agg [.lit (.int .u8 0), .lit (.int .u8 0)], .agg [.lit (.int .u8 0), .lit (.int .u8 0)], .agg [.lit (.int .u8 0), .lit (.int .u8 0)], .agg [.lit (.int .u8 0), .lit (.int .u8 0)], .agg [.lit (.int .u8 0), .lit (.int .u8 0)], .agg [.lit (.int .u8 0), .lit (.int .u8 0)], .agg [.lit (.int .u8 0), .lit (.int .u8 0)], .agg [.lit (.int .u8 0), .lit (.int .u8 0)], .agg [.lit (.int .u8 0), .lit (.int .u8 0)], .agg [.lit (.int .u8 0), .lit (.int .u8 0)]]
/-- One of Go's own tables, pinned by name: the form's constant. -/
def laid_unicode_utf8_first : DataW Unit := Go.Pinned.utf8First

/-- 'laws.FnExactIsDesk': WHATEVER THE INPUT: true; the input reads as it did. -/
def fnExactIsDeskSpec : ChangeSpec := { name := "fnExactIsDesk", fn := fun _ => fun
  | [d] => { results := [.lit (.bool true)], args := [d] }
  | _ => none }
def fnExactIsDeskRow : OpenClaim := { program := "ytfbfndnppfgfmaadoor", sum := "c75c14edf596c80181e9159a766a9c090170b2537224201555030ce309c49e44", func := "loop.example/g01207/laws.FnExactIsDesk", spec := "fnExactIsDesk", inPlace := ["internal/bytealg.CountString", "internal/bytealg.IndexByteString", "internal/bytealg.IndexString"], unfollowed := true, recurses := true, named := ["unicode/utf8.first", "unicode/utf8.acceptRanges", "internal/bytealg.MaxLen"], apart := false, laid := [("unicode/utf8.acceptRanges", laid_unicode_utf8_acceptRanges), ("unicode/utf8.first", laid_unicode_utf8_first)] }
def FnExactIsDeskSaid : Prop := fnExactIsDeskRow.holds Tryd.pinned (OpenSpec.ofChange fnExactIsDeskSpec)

/-- ITS FALSE NEIGHBOUR: 'it returns false'. Refute it at one input. -/
def fnExactIsDeskWrong : ChangeSpec := { name := "fnExactIsDesk", fn := fun _ => fun
  | [d] => { results := [.lit (.bool false)], args := [d] }
  | _ => none }
def FnExactIsDeskWrongFalsely : Prop := fnExactIsDeskRow.holds Tryd.pinned (OpenSpec.ofChange fnExactIsDeskWrong)

/-- 'laws.FnExactIsPuzzle': WHATEVER THE INPUT: true; the input reads as it did. -/
def fnExactIsPuzzleSpec : ChangeSpec := { name := "fnExactIsPuzzle", fn := fun _ => fun
  | [d] => { results := [.lit (.bool true)], args := [d] }
  | _ => none }
def fnExactIsPuzzleRow : OpenClaim := { program := "ytfbfndnppfgfmaadoor", sum := "c75c14edf596c80181e9159a766a9c090170b2537224201555030ce309c49e44", func := "loop.example/g01207/laws.FnExactIsPuzzle", spec := "fnExactIsPuzzle", inPlace := ["internal/bytealg.CountString", "internal/bytealg.IndexByteString", "internal/bytealg.IndexString"], unfollowed := true, recurses := true, named := ["unicode/utf8.first", "unicode/utf8.acceptRanges", "internal/bytealg.MaxLen"], apart := false, laid := [("unicode/utf8.acceptRanges", laid_unicode_utf8_acceptRanges), ("unicode/utf8.first", laid_unicode_utf8_first)] }
def FnExactIsPuzzleSaid : Prop := fnExactIsPuzzleRow.holds Tryd.pinned (OpenSpec.ofChange fnExactIsPuzzleSpec)

/-- ITS FALSE NEIGHBOUR: 'it returns false'. Refute it at one input. -/
def fnExactIsPuzzleWrong : ChangeSpec := { name := "fnExactIsPuzzle", fn := fun _ => fun
  | [d] => { results := [.lit (.bool false)], args := [d] }
  | _ => none }
def FnExactIsPuzzleWrongFalsely : Prop := fnExactIsPuzzleRow.holds Tryd.pinned (OpenSpec.ofChange fnExactIsPuzzleWrong)

/-- 'laws.FnExactTurnBoard': WHATEVER THE INPUT: true; the input reads as it did. -/
def fnExactTurnBoardSpec : ChangeSpec := { name := "fnExactTurnBoard", fn := fun _ => fun
  | [d] => { results := [.lit (.bool true)], args := [d] }
  | _ => none }
def fnExactTurnBoardRow : OpenClaim := { program := "ytfbfndnppfgfmaadoor", sum := "c75c14edf596c80181e9159a766a9c090170b2537224201555030ce309c49e44", func := "loop.example/g01207/laws.FnExactTurnBoard", spec := "fnExactTurnBoard", inPlace := ["internal/bytealg.CountString", "internal/bytealg.IndexByteString", "internal/bytealg.IndexString", "internal/abi.NoEscape", "internal/bytealg.MakeNoZero"], named := ["unicode/utf8.first", "unicode/utf8.acceptRanges", "internal/bytealg.MaxLen"], apart := false, laid := [("unicode/utf8.acceptRanges", laid_unicode_utf8_acceptRanges), ("unicode/utf8.first", laid_unicode_utf8_first)] }
def FnExactTurnBoardSaid : Prop := fnExactTurnBoardRow.holds Tryd.pinned (OpenSpec.ofChange fnExactTurnBoardSpec)

/-- ITS FALSE NEIGHBOUR: 'it returns false'. Refute it at one input. -/
def fnExactTurnBoardWrong : ChangeSpec := { name := "fnExactTurnBoard", fn := fun _ => fun
  | [d] => { results := [.lit (.bool false)], args := [d] }
  | _ => none }
def FnExactTurnBoardWrongFalsely : Prop := fnExactTurnBoardRow.holds Tryd.pinned (OpenSpec.ofChange fnExactTurnBoardWrong)

/-- 'laws.FnExactTurnGround': WHATEVER THE INPUT: true; the input reads as it did. -/
def fnExactTurnGroundSpec : ChangeSpec := { name := "fnExactTurnGround", fn := fun _ => fun
  | [d] => { results := [.lit (.bool true)], args := [d] }
  | _ => none }
def fnExactTurnGroundRow : OpenClaim := { program := "ytfbfndnppfgfmaadoor", sum := "c75c14edf596c80181e9159a766a9c090170b2537224201555030ce309c49e44", func := "loop.example/g01207/laws.FnExactTurnGround", spec := "fnExactTurnGround", inPlace := ["internal/bytealg.CountString", "internal/bytealg.IndexByteString", "internal/bytealg.IndexString", "internal/abi.NoEscape", "internal/bytealg.MakeNoZero"], named := ["unicode/utf8.first", "unicode/utf8.acceptRanges", "internal/bytealg.MaxLen"], apart := false, laid := [("unicode/utf8.acceptRanges", laid_unicode_utf8_acceptRanges), ("unicode/utf8.first", laid_unicode_utf8_first)] }
def FnExactTurnGroundSaid : Prop := fnExactTurnGroundRow.holds Tryd.pinned (OpenSpec.ofChange fnExactTurnGroundSpec)

/-- ITS FALSE NEIGHBOUR: 'it returns false'. Refute it at one input. -/
def fnExactTurnGroundWrong : ChangeSpec := { name := "fnExactTurnGround", fn := fun _ => fun
  | [d] => { results := [.lit (.bool false)], args := [d] }
  | _ => none }
def FnExactTurnGroundWrongFalsely : Prop := fnExactTurnGroundRow.holds Tryd.pinned (OpenSpec.ofChange fnExactTurnGroundWrong)

/-- 'laws.FnExactFloorOfLabels': WHATEVER THE INPUT: true; the input reads as it did. -/
def fnExactFloorOfLabelsSpec : ChangeSpec := { name := "fnExactFloorOfLabels", fn := fun _ => fun
  | [d] => { results := [.lit (.bool true)], args := [d] }
  | _ => none }
def fnExactFloorOfLabelsRow : OpenClaim := { program := "ytfbfndnppfgfmaadoor", sum := "c75c14edf596c80181e9159a766a9c090170b2537224201555030ce309c49e44", func := "loop.example/g01207/laws.FnExactFloorOfLabels", spec := "fnExactFloorOfLabels", inPlace := ["internal/bytealg.CountString", "internal/bytealg.IndexByteString", "internal/bytealg.IndexString", "internal/abi.NoEscape", "internal/bytealg.MakeNoZero"], named := ["unicode/utf8.first", "unicode/utf8.acceptRanges", "internal/bytealg.MaxLen"], apart := false, laid := [("unicode/utf8.acceptRanges", laid_unicode_utf8_acceptRanges), ("unicode/utf8.first", laid_unicode_utf8_first)] }
def FnExactFloorOfLabelsSaid : Prop := fnExactFloorOfLabelsRow.holds Tryd.pinned (OpenSpec.ofChange fnExactFloorOfLabelsSpec)

/-- ITS FALSE NEIGHBOUR: 'it returns false'. Refute it at one input. -/
def fnExactFloorOfLabelsWrong : ChangeSpec := { name := "fnExactFloorOfLabels", fn := fun _ => fun
  | [d] => { results := [.lit (.bool false)], args := [d] }
  | _ => none }
def FnExactFloorOfLabelsWrongFalsely : Prop := fnExactFloorOfLabelsRow.holds Tryd.pinned (OpenSpec.ofChange fnExactFloorOfLabelsWrong)

/-- 'laws.FnExactTurnLabelled': WHATEVER THE INPUT: true; the input reads as it did. -/
def fnExactTurnLabelledSpec : ChangeSpec := { name := "fnExactTurnLabelled", fn := fun _ => fun
  | [d] => { results := [.lit (.bool true)], args := [d] }
  | _ => none }
def fnExactTurnLabelledRow : OpenClaim := { program := "ytfbfndnppfgfmaadoor", sum := "c75c14edf596c80181e9159a766a9c090170b2537224201555030ce309c49e44", func := "loop.example/g01207/laws.FnExactTurnLabelled", spec := "fnExactTurnLabelled", inPlace := ["internal/bytealg.CountString", "internal/bytealg.IndexByteString", "internal/bytealg.IndexString", "internal/abi.NoEscape", "internal/bytealg.MakeNoZero"], named := ["unicode/utf8.first", "unicode/utf8.acceptRanges", "internal/bytealg.MaxLen"], apart := false, laid := [("unicode/utf8.acceptRanges", laid_unicode_utf8_acceptRanges), ("unicode/utf8.first", laid_unicode_utf8_first)] }
def FnExactTurnLabelledSaid : Prop := fnExactTurnLabelledRow.holds Tryd.pinned (OpenSpec.ofChange fnExactTurnLabelledSpec)

/-- ITS FALSE NEIGHBOUR: 'it returns false'. Refute it at one input. -/
def fnExactTurnLabelledWrong : ChangeSpec := { name := "fnExactTurnLabelled", fn := fun _ => fun
  | [d] => { results := [.lit (.bool false)], args := [d] }
  | _ => none }
def FnExactTurnLabelledWrongFalsely : Prop := fnExactTurnLabelledRow.holds Tryd.pinned (OpenSpec.ofChange fnExactTurnLabelledWrong)

/-- 'laws.FnExactIsSolvedBy': WHATEVER THE INPUT: true; the input reads as it did. -/
def fnExactIsSolvedBySpec : ChangeSpec := { name := "fnExactIsSolvedBy", fn := fun _ => fun
  | [d1, d2] => { results := [.lit (.bool true)], args := [d1, d2] }
  | _ => none }
def fnExactIsSolvedByRow : OpenClaim := { program := "ytfbfndnppfgfmaadoor", sum := "c75c14edf596c80181e9159a766a9c090170b2537224201555030ce309c49e44", func := "loop.example/g01207/laws.FnExactIsSolvedBy", spec := "fnExactIsSolvedBy", inPlace := ["internal/bytealg.CountString", "internal/bytealg.IndexByteString", "internal/bytealg.IndexString"], unfollowed := true, recurses := true, named := ["unicode/utf8.first", "unicode/utf8.acceptRanges", "internal/bytealg.MaxLen"], apart := false, laid := [("unicode/utf8.acceptRanges", laid_unicode_utf8_acceptRanges), ("unicode/utf8.first", laid_unicode_utf8_first)] }
def FnExactIsSolvedBySaid : Prop := fnExactIsSolvedByRow.holds Tryd.pinned (OpenSpec.ofChange fnExactIsSolvedBySpec)

/-- ITS FALSE NEIGHBOUR: 'it returns false'. Refute it at one input. -/
def fnExactIsSolvedByWrong : ChangeSpec := { name := "fnExactIsSolvedBy", fn := fun _ => fun
  | [d1, d2] => { results := [.lit (.bool false)], args := [d1, d2] }
  | _ => none }
def FnExactIsSolvedByWrongFalsely : Prop := fnExactIsSolvedByRow.holds Tryd.pinned (OpenSpec.ofChange fnExactIsSolvedByWrong)

/-- 'laws.FnExactFirstSolved': WHATEVER THE INPUT: true; the input reads as it did. -/
def fnExactFirstSolvedSpec : ChangeSpec := { name := "fnExactFirstSolved", fn := fun _ => fun
  | [d1, d2] => { results := [.lit (.bool true)], args := [d1, d2] }
  | _ => none }
def fnExactFirstSolvedRow : OpenClaim := { program := "ytfbfndnppfgfmaadoor", sum := "c75c14edf596c80181e9159a766a9c090170b2537224201555030ce309c49e44", func := "loop.example/g01207/laws.FnExactFirstSolved", spec := "fnExactFirstSolved", inPlace := ["internal/bytealg.CountString", "internal/bytealg.IndexByteString", "internal/bytealg.IndexString"], unfollowed := true, recurses := true, named := ["unicode/utf8.first", "unicode/utf8.acceptRanges", "internal/bytealg.MaxLen"], apart := false, laid := [("unicode/utf8.acceptRanges", laid_unicode_utf8_acceptRanges), ("unicode/utf8.first", laid_unicode_utf8_first)] }
def FnExactFirstSolvedSaid : Prop := fnExactFirstSolvedRow.holds Tryd.pinned (OpenSpec.ofChange fnExactFirstSolvedSpec)

/-- ITS FALSE NEIGHBOUR: 'it returns false'. Refute it at one input. -/
def fnExactFirstSolvedWrong : ChangeSpec := { name := "fnExactFirstSolved", fn := fun _ => fun
  | [d1, d2] => { results := [.lit (.bool false)], args := [d1, d2] }
  | _ => none }
def FnExactFirstSolvedWrongFalsely : Prop := fnExactFirstSolvedRow.holds Tryd.pinned (OpenSpec.ofChange fnExactFirstSolvedWrong)

/-- 'laws.FnExactTurnPuzzle': WHATEVER THE INPUT: true; the input reads as it did. -/
def fnExactTurnPuzzleSpec : ChangeSpec := { name := "fnExactTurnPuzzle", fn := fun _ => fun
  | [d] => { results := [.lit (.bool true)], args := [d] }
  | _ => none }
def fnExactTurnPuzzleRow : OpenClaim := { program := "ytfbfndnppfgfmaadoor", sum := "c75c14edf596c80181e9159a766a9c090170b2537224201555030ce309c49e44", func := "loop.example/g01207/laws.FnExactTurnPuzzle", spec := "fnExactTurnPuzzle", inPlace := ["internal/bytealg.CountString", "internal/bytealg.IndexByteString", "internal/bytealg.IndexString", "internal/abi.NoEscape", "internal/bytealg.MakeNoZero"], unfollowed := true, recurses := true, named := ["unicode/utf8.first", "unicode/utf8.acceptRanges", "internal/bytealg.MaxLen"], apart := false, laid := [("unicode/utf8.acceptRanges", laid_unicode_utf8_acceptRanges), ("unicode/utf8.first", laid_unicode_utf8_first)] }
def FnExactTurnPuzzleSaid : Prop := fnExactTurnPuzzleRow.holds Tryd.pinned (OpenSpec.ofChange fnExactTurnPuzzleSpec)

/-- ITS FALSE NEIGHBOUR: 'it returns false'. Refute it at one input. -/
def fnExactTurnPuzzleWrong : ChangeSpec := { name := "fnExactTurnPuzzle", fn := fun _ => fun
  | [d] => { results := [.lit (.bool false)], args := [d] }
  | _ => none }
def FnExactTurnPuzzleWrongFalsely : Prop := fnExactTurnPuzzleRow.holds Tryd.pinned (OpenSpec.ofChange fnExactTurnPuzzleWrong)

/-- 'laws.FnExactReplayOf': WHATEVER THE INPUT: true; the input reads as it did. -/
def fnExactReplayOfSpec : ChangeSpec := { name := "fnExactReplayOf", fn := fun _ => fun
  | [d1, d2] => { results := [.lit (.bool true)], args := [d1, d2] }
  | _ => none }
def fnExactReplayOfRow : OpenClaim := { program := "ytfbfndnppfgfmaadoor", sum := "c75c14edf596c80181e9159a766a9c090170b2537224201555030ce309c49e44", func := "loop.example/g01207/laws.FnExactReplayOf", spec := "fnExactReplayOf", inPlace := ["internal/bytealg.CountString", "internal/bytealg.IndexByteString", "internal/bytealg.IndexString"], unfollowed := true, recurses := true, named := ["unicode/utf8.first", "unicode/utf8.acceptRanges", "internal/bytealg.MaxLen"], apart := false, laid := [("unicode/utf8.acceptRanges", laid_unicode_utf8_acceptRanges), ("unicode/utf8.first", laid_unicode_utf8_first)] }
def FnExactReplayOfSaid : Prop := fnExactReplayOfRow.holds Tryd.pinned (OpenSpec.ofChange fnExactReplayOfSpec)

/-- ITS FALSE NEIGHBOUR: 'it returns false'. Refute it at one input. -/
def fnExactReplayOfWrong : ChangeSpec := { name := "fnExactReplayOf", fn := fun _ => fun
  | [d1, d2] => { results := [.lit (.bool false)], args := [d1, d2] }
  | _ => none }
def FnExactReplayOfWrongFalsely : Prop := fnExactReplayOfRow.holds Tryd.pinned (OpenSpec.ofChange fnExactReplayOfWrong)

/-- 'laws.FnExactPrintsAlong': WHATEVER THE INPUT: true; the input reads as it did. -/
def fnExactPrintsAlongSpec : ChangeSpec := { name := "fnExactPrintsAlong", fn := fun _ => fun
  | [d1, d2, d3] => { results := [.lit (.bool true)], args := [d1, d2, d3] }
  | _ => none }
def fnExactPrintsAlongRow : OpenClaim := { program := "ytfbfndnppfgfmaadoor", sum := "c75c14edf596c80181e9159a766a9c090170b2537224201555030ce309c49e44", func := "loop.example/g01207/laws.FnExactPrintsAlong", spec := "fnExactPrintsAlong", inPlace := ["internal/bytealg.CountString", "internal/bytealg.IndexByteString", "internal/bytealg.IndexString", "internal/abi.NoEscape", "internal/bytealg.MakeNoZero"], unfollowed := true, recurses := true, named := ["unicode/utf8.first", "unicode/utf8.acceptRanges", "internal/bytealg.MaxLen"], apart := false, laid := [("unicode/utf8.acceptRanges", laid_unicode_utf8_acceptRanges), ("unicode/utf8.first", laid_unicode_utf8_first)] }
def FnExactPrintsAlongSaid : Prop := fnExactPrintsAlongRow.holds Tryd.pinned (OpenSpec.ofChange fnExactPrintsAlongSpec)

/-- ITS FALSE NEIGHBOUR: 'it returns false'. Refute it at one input. -/
def fnExactPrintsAlongWrong : ChangeSpec := { name := "fnExactPrintsAlong", fn := fun _ => fun
  | [d1, d2, d3] => { results := [.lit (.bool false)], args := [d1, d2, d3] }
  | _ => none }
def FnExactPrintsAlongWrongFalsely : Prop := fnExactPrintsAlongRow.holds Tryd.pinned (OpenSpec.ofChange fnExactPrintsAlongWrong)

/-- 'laws.FnExactLabelsOfWord': WHATEVER THE INPUT: true; the input reads as it did. -/
def fnExactLabelsOfWordSpec : ChangeSpec := { name := "fnExactLabelsOfWord", fn := fun _ => fun
  | [d1, d2, d3] => { results := [.lit (.bool true)], args := [d1, d2, d3] }
  | _ => none }
def fnExactLabelsOfWordRow : OpenClaim := { program := "ytfbfndnppfgfmaadoor", sum := "c75c14edf596c80181e9159a766a9c090170b2537224201555030ce309c49e44", func := "loop.example/g01207/laws.FnExactLabelsOfWord", spec := "fnExactLabelsOfWord", inPlace := ["internal/bytealg.CountString", "internal/bytealg.IndexByteString", "internal/bytealg.IndexString", "internal/abi.NoEscape", "internal/bytealg.MakeNoZero"], unfollowed := true, recurses := true, named := ["unicode/utf8.first", "unicode/utf8.acceptRanges", "internal/bytealg.MaxLen"], apart := false, laid := [("unicode/utf8.acceptRanges", laid_unicode_utf8_acceptRanges), ("unicode/utf8.first", laid_unicode_utf8_first)] }
def FnExactLabelsOfWordSaid : Prop := fnExactLabelsOfWordRow.holds Tryd.pinned (OpenSpec.ofChange fnExactLabelsOfWordSpec)

/-- ITS FALSE NEIGHBOUR: 'it returns false'. Refute it at one input. -/
def fnExactLabelsOfWordWrong : ChangeSpec := { name := "fnExactLabelsOfWord", fn := fun _ => fun
  | [d1, d2, d3] => { results := [.lit (.bool false)], args := [d1, d2, d3] }
  | _ => none }
def FnExactLabelsOfWordWrongFalsely : Prop := fnExactLabelsOfWordRow.holds Tryd.pinned (OpenSpec.ofChange fnExactLabelsOfWordWrong)

/- THE SECOND FORM. 'bulk': how many values and letters a reading holds, each counted each time it is reached (what is shared counts as often as it is met; a slice's spare places count too). A statement '..UptoSaid' is the law's where the arguments, and the package variables that the reading takes, are together of bulk at most 1048576: NARROWER than '..Said'. Prove '..Said' where nothing that the law and all that it calls make is longer than what came in: it says more and counts as full. Else prove '..UptoSaid'. A law counts once. -/
mutual
def uptoBulk {H : Type} : DataW H → Nat
  | .lit (.string bytes) => bytes.length + 1
  | .lit _ => 1
  | .nil => 1
  | .ptr d => uptoBulk d + 1
  | .slice elems spare => uptoBulkAll elems + uptoBulkAll spare + 1
  | .agg parts => uptoBulkAll parts + 1
  | .iface _ d => uptoBulk d + 1
  | .map entries => uptoBulkEntries entries + 1
  | .held _ => 1
def uptoBulkAll {H : Type} : List (DataW H) → Nat
  | [] => 0
  | d :: r => uptoBulk d + uptoBulkAll r
def uptoBulkEntries {H : Type} : List (Lit × DataW H) → Nat
  | [] => 0
  | x :: r => uptoBulkEntry x + uptoBulkEntries r
def uptoBulkEntry {H : Type} : Lit × DataW H → Nat
  | (.string bytes, d) => bytes.length + uptoBulk d + 1
  | (_, d) => uptoBulk d + 1
 end
def uptoSmall : (H : Type) → List (DataW H) → Bool := fun _ ds => decide (uptoBulkAll ds ≤ 1048576)
def OpenSpec.upto (s : _root_.Go.ChangeSpec) : _root_.Go.OpenSpec := { _root_.Go.OpenSpec.ofChange s with cond := some uptoSmall }

/-- 'laws.FnExactIsDesk', WHERE WHAT IT READS IS OF BULK AT MOST 1048576: true; the input reads as it did. -/
def fnExactIsDeskUptoRow : OpenClaim := { program := "ytfbfndnppfgfmaadoor", sum := "c75c14edf596c80181e9159a766a9c090170b2537224201555030ce309c49e44", func := "loop.example/g01207/laws.FnExactIsDesk", spec := "fnExactIsDesk", inPlace := ["internal/bytealg.CountString", "internal/bytealg.IndexByteString", "internal/bytealg.IndexString"], unfollowed := true, recurses := true, named := ["unicode/utf8.first", "unicode/utf8.acceptRanges", "internal/bytealg.MaxLen"], apart := false, laid := [("unicode/utf8.acceptRanges", laid_unicode_utf8_acceptRanges), ("unicode/utf8.first", laid_unicode_utf8_first)], narrowed := true }
def FnExactIsDeskUptoSaid : Prop := fnExactIsDeskUptoRow.holds Tryd.pinned (OpenSpec.upto fnExactIsDeskSpec)

/-- 'laws.FnExactIsPuzzle', WHERE WHAT IT READS IS OF BULK AT MOST 1048576: true; the input reads as it did. -/
def fnExactIsPuzzleUptoRow : OpenClaim := { program := "ytfbfndnppfgfmaadoor", sum := "c75c14edf596c80181e9159a766a9c090170b2537224201555030ce309c49e44", func := "loop.example/g01207/laws.FnExactIsPuzzle", spec := "fnExactIsPuzzle", inPlace := ["internal/bytealg.CountString", "internal/bytealg.IndexByteString", "internal/bytealg.IndexString"], unfollowed := true, recurses := true, named := ["unicode/utf8.first", "unicode/utf8.acceptRanges", "internal/bytealg.MaxLen"], apart := false, laid := [("unicode/utf8.acceptRanges", laid_unicode_utf8_acceptRanges), ("unicode/utf8.first", laid_unicode_utf8_first)], narrowed := true }
def FnExactIsPuzzleUptoSaid : Prop := fnExactIsPuzzleUptoRow.holds Tryd.pinned (OpenSpec.upto fnExactIsPuzzleSpec)

/-- 'laws.FnExactTurnBoard', WHERE WHAT IT READS IS OF BULK AT MOST 1048576: true; the input reads as it did. -/
def fnExactTurnBoardUptoRow : OpenClaim := { program := "ytfbfndnppfgfmaadoor", sum := "c75c14edf596c80181e9159a766a9c090170b2537224201555030ce309c49e44", func := "loop.example/g01207/laws.FnExactTurnBoard", spec := "fnExactTurnBoard", inPlace := ["internal/bytealg.CountString", "internal/bytealg.IndexByteString", "internal/bytealg.IndexString", "internal/abi.NoEscape", "internal/bytealg.MakeNoZero"], named := ["unicode/utf8.first", "unicode/utf8.acceptRanges", "internal/bytealg.MaxLen"], apart := false, laid := [("unicode/utf8.acceptRanges", laid_unicode_utf8_acceptRanges), ("unicode/utf8.first", laid_unicode_utf8_first)], narrowed := true }
def FnExactTurnBoardUptoSaid : Prop := fnExactTurnBoardUptoRow.holds Tryd.pinned (OpenSpec.upto fnExactTurnBoardSpec)

/-- 'laws.FnExactTurnGround', WHERE WHAT IT READS IS OF BULK AT MOST 1048576: true; the input reads as it did. -/
def fnExactTurnGroundUptoRow : OpenClaim := { program := "ytfbfndnppfgfmaadoor", sum := "c75c14edf596c80181e9159a766a9c090170b2537224201555030ce309c49e44", func := "loop.example/g01207/laws.FnExactTurnGround", spec := "fnExactTurnGround", inPlace := ["internal/bytealg.CountString", "internal/bytealg.IndexByteString", "internal/bytealg.IndexString", "internal/abi.NoEscape", "internal/bytealg.MakeNoZero"], named := ["unicode/utf8.first", "unicode/utf8.acceptRanges", "internal/bytealg.MaxLen"], apart := false, laid := [("unicode/utf8.acceptRanges", laid_unicode_utf8_acceptRanges), ("unicode/utf8.first", laid_unicode_utf8_first)], narrowed := true }
def FnExactTurnGroundUptoSaid : Prop := fnExactTurnGroundUptoRow.holds Tryd.pinned (OpenSpec.upto fnExactTurnGroundSpec)

/-- 'laws.FnExactFloorOfLabels', WHERE WHAT IT READS IS OF BULK AT MOST 1048576: true; the input reads as it did. -/
def fnExactFloorOfLabelsUptoRow : OpenClaim := { program := "ytfbfndnppfgfmaadoor", sum := "c75c14edf596c80181e9159a766a9c090170b2537224201555030ce309c49e44", func := "loop.example/g01207/laws.FnExactFloorOfLabels", spec := "fnExactFloorOfLabels", inPlace := ["internal/bytealg.CountString", "internal/bytealg.IndexByteString", "internal/bytealg.IndexString", "internal/abi.NoEscape", "internal/bytealg.MakeNoZero"], named := ["unicode/utf8.first", "unicode/utf8.acceptRanges", "internal/bytealg.MaxLen"], apart := false, laid := [("unicode/utf8.acceptRanges", laid_unicode_utf8_acceptRanges), ("unicode/utf8.first", laid_unicode_utf8_first)], narrowed := true }
def FnExactFloorOfLabelsUptoSaid : Prop := fnExactFloorOfLabelsUptoRow.holds Tryd.pinned (OpenSpec.upto fnExactFloorOfLabelsSpec)

/-- 'laws.FnExactTurnLabelled', WHERE WHAT IT READS IS OF BULK AT MOST 1048576: true; the input reads as it did. -/
def fnExactTurnLabelledUptoRow : OpenClaim := { program := "ytfbfndnppfgfmaadoor", sum := "c75c14edf596c80181e9159a766a9c090170b2537224201555030ce309c49e44", func := "loop.example/g01207/laws.FnExactTurnLabelled", spec := "fnExactTurnLabelled", inPlace := ["internal/bytealg.CountString", "internal/bytealg.IndexByteString", "internal/bytealg.IndexString", "internal/abi.NoEscape", "internal/bytealg.MakeNoZero"], named := ["unicode/utf8.first", "unicode/utf8.acceptRanges", "internal/bytealg.MaxLen"], apart := false, laid := [("unicode/utf8.acceptRanges", laid_unicode_utf8_acceptRanges), ("unicode/utf8.first", laid_unicode_utf8_first)], narrowed := true }
def FnExactTurnLabelledUptoSaid : Prop := fnExactTurnLabelledUptoRow.holds Tryd.pinned (OpenSpec.upto fnExactTurnLabelledSpec)

/-- 'laws.FnExactIsSolvedBy', WHERE WHAT IT READS IS OF BULK AT MOST 1048576: true; the input reads as it did. -/
def fnExactIsSolvedByUptoRow : OpenClaim := { program := "ytfbfndnppfgfmaadoor", sum := "c75c14edf596c80181e9159a766a9c090170b2537224201555030ce309c49e44", func := "loop.example/g01207/laws.FnExactIsSolvedBy", spec := "fnExactIsSolvedBy", inPlace := ["internal/bytealg.CountString", "internal/bytealg.IndexByteString", "internal/bytealg.IndexString"], unfollowed := true, recurses := true, named := ["unicode/utf8.first", "unicode/utf8.acceptRanges", "internal/bytealg.MaxLen"], apart := false, laid := [("unicode/utf8.acceptRanges", laid_unicode_utf8_acceptRanges), ("unicode/utf8.first", laid_unicode_utf8_first)], narrowed := true }
def FnExactIsSolvedByUptoSaid : Prop := fnExactIsSolvedByUptoRow.holds Tryd.pinned (OpenSpec.upto fnExactIsSolvedBySpec)

/-- 'laws.FnExactFirstSolved', WHERE WHAT IT READS IS OF BULK AT MOST 1048576: true; the input reads as it did. -/
def fnExactFirstSolvedUptoRow : OpenClaim := { program := "ytfbfndnppfgfmaadoor", sum := "c75c14edf596c80181e9159a766a9c090170b2537224201555030ce309c49e44", func := "loop.example/g01207/laws.FnExactFirstSolved", spec := "fnExactFirstSolved", inPlace := ["internal/bytealg.CountString", "internal/bytealg.IndexByteString", "internal/bytealg.IndexString"], unfollowed := true, recurses := true, named := ["unicode/utf8.first", "unicode/utf8.acceptRanges", "internal/bytealg.MaxLen"], apart := false, laid := [("unicode/utf8.acceptRanges", laid_unicode_utf8_acceptRanges), ("unicode/utf8.first", laid_unicode_utf8_first)], narrowed := true }
def FnExactFirstSolvedUptoSaid : Prop := fnExactFirstSolvedUptoRow.holds Tryd.pinned (OpenSpec.upto fnExactFirstSolvedSpec)

/-- 'laws.FnExactTurnPuzzle', WHERE WHAT IT READS IS OF BULK AT MOST 1048576: true; the input reads as it did. -/
def fnExactTurnPuzzleUptoRow : OpenClaim := { program := "ytfbfndnppfgfmaadoor", sum := "c75c14edf596c80181e9159a766a9c090170b2537224201555030ce309c49e44", func := "loop.example/g01207/laws.FnExactTurnPuzzle", spec := "fnExactTurnPuzzle", inPlace := ["internal/bytealg.CountString", "internal/bytealg.IndexByteString", "internal/bytealg.IndexString", "internal/abi.NoEscape", "internal/bytealg.MakeNoZero"], unfollowed := true, recurses := true, named := ["unicode/utf8.first", "unicode/utf8.acceptRanges", "internal/bytealg.MaxLen"], apart := false, laid := [("unicode/utf8.acceptRanges", laid_unicode_utf8_acceptRanges), ("unicode/utf8.first", laid_unicode_utf8_first)], narrowed := true }
def FnExactTurnPuzzleUptoSaid : Prop := fnExactTurnPuzzleUptoRow.holds Tryd.pinned (OpenSpec.upto fnExactTurnPuzzleSpec)

/-- 'laws.FnExactReplayOf', WHERE WHAT IT READS IS OF BULK AT MOST 1048576: true; the input reads as it did. -/
def fnExactReplayOfUptoRow : OpenClaim := { program := "ytfbfndnppfgfmaadoor", sum := "c75c14edf596c80181e9159a766a9c090170b2537224201555030ce309c49e44", func := "loop.example/g01207/laws.FnExactReplayOf", spec := "fnExactReplayOf", inPlace := ["internal/bytealg.CountString", "internal/bytealg.IndexByteString", "internal/bytealg.IndexString"], unfollowed := true, recurses := true, named := ["unicode/utf8.first", "unicode/utf8.acceptRanges", "internal/bytealg.MaxLen"], apart := false, laid := [("unicode/utf8.acceptRanges", laid_unicode_utf8_acceptRanges), ("unicode/utf8.first", laid_unicode_utf8_first)], narrowed := true }
def FnExactReplayOfUptoSaid : Prop := fnExactReplayOfUptoRow.holds Tryd.pinned (OpenSpec.upto fnExactReplayOfSpec)

/-- 'laws.FnExactPrintsAlong', WHERE WHAT IT READS IS OF BULK AT MOST 1048576: true; the input reads as it did. -/
def fnExactPrintsAlongUptoRow : OpenClaim := { program := "ytfbfndnppfgfmaadoor", sum := "c75c14edf596c80181e9159a766a9c090170b2537224201555030ce309c49e44", func := "loop.example/g01207/laws.FnExactPrintsAlong", spec := "fnExactPrintsAlong", inPlace := ["internal/bytealg.CountString", "internal/bytealg.IndexByteString", "internal/bytealg.IndexString", "internal/abi.NoEscape", "internal/bytealg.MakeNoZero"], unfollowed := true, recurses := true, named := ["unicode/utf8.first", "unicode/utf8.acceptRanges", "internal/bytealg.MaxLen"], apart := false, laid := [("unicode/utf8.acceptRanges", laid_unicode_utf8_acceptRanges), ("unicode/utf8.first", laid_unicode_utf8_first)], narrowed := true }
def FnExactPrintsAlongUptoSaid : Prop := fnExactPrintsAlongUptoRow.holds Tryd.pinned (OpenSpec.upto fnExactPrintsAlongSpec)

/-- 'laws.FnExactLabelsOfWord', WHERE WHAT IT READS IS OF BULK AT MOST 1048576: true; the input reads as it did. -/
def fnExactLabelsOfWordUptoRow : OpenClaim := { program := "ytfbfndnppfgfmaadoor", sum := "c75c14edf596c80181e9159a766a9c090170b2537224201555030ce309c49e44", func := "loop.example/g01207/laws.FnExactLabelsOfWord", spec := "fnExactLabelsOfWord", inPlace := ["internal/bytealg.CountString", "internal/bytealg.IndexByteString", "internal/bytealg.IndexString", "internal/abi.NoEscape", "internal/bytealg.MakeNoZero"], unfollowed := true, recurses := true, named := ["unicode/utf8.first", "unicode/utf8.acceptRanges", "internal/bytealg.MaxLen"], apart := false, laid := [("unicode/utf8.acceptRanges", laid_unicode_utf8_acceptRanges), ("unicode/utf8.first", laid_unicode_utf8_first)], narrowed := true }
def FnExactLabelsOfWordUptoSaid : Prop := fnExactLabelsOfWordUptoRow.holds Tryd.pinned (OpenSpec.upto fnExactLabelsOfWordSpec)

end Rows
end Go.Proofs.YtfbfndnppfgfmaaDoor

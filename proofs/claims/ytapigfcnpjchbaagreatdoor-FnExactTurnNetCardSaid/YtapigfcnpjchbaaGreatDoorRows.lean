/-
  NARROWER THAN 'FOR EVERY INPUT', by the rows' own cells (each row's printed sentence says how): FnExactTurnNet: laid · FnExactLongestRow: laid · FnExactIsNetShape: laid · FnExactNetOfShape: laid · FnExactShapeOfNet: laid · FnExactNetsOf: laid.
  DERIVED. THE GIVEN ROWS OF THIS SEAT. 6 by the template 'for every input the law returns true; each argument reads behind the call as it read before'; 0 by the template 'total and deterministic' (their statements: YtapigfcnpjchbaaGreatDoorTotals.lean).
  GIVEN WITH THE SEED: the statements are not yours to turn. If you find one false, say at which input.
  Laid BY PROGRAM, IN A SANDBOX (cutbox-rows.mjs): the forced cells as the released guide's own fill.sh prints them over the translation d9e016df4a4ab199… (all of the seat's roots in one cut). By AI agents, Wed Nov 11 2026. No macro, syntax, notation, axiom, sorry.
-/
import Derived.Test.YtapigfcnpjchbaaGreatDoorChecked
import GoSem.PinnedTables
import GoSem.Claim
import GoSem.ClaimJoined
import GoSem.ClaimMapViews
import Derived.JoinedTies
import Derived.KernelRfl
namespace Go.Proofs.YtapigfcnpjchbaaGreatDoor
/- THE CELL 'sum', in the pinned program and in every row, IS THE sha256 OF THE DUMP (.gsa) THAT YtapigfcnpjchbaaGreatDoorProg.lean LOADS. Nothing in Lean hashes anything: it is a label: what it is worth is what the hold of that sum in a sandbox is worth. -/
noncomputable def Tryz.pinned : Pinned := { name := "ytapigfcnpjchbaagreatdoor", sum := "d9e016df4a4ab199a9afc4b2d5df41cdee92e18ffd194da91e400abebbf37272", checked := Tryz.checked }
namespace Rows
def none {H : Type} : Left H := { results := [], args := [] }

/- WHAT THE LISTED PACKAGE-LEVEL VARIABLES READ AS WHEN THE CALL BEGINS. Each datum BY PROGRAM (the guide's laid-datum.mjs) off the statement by which the dump's own 'gosem.cut.vars' lays the variable. In a bare row this is a premise. The card (YtapigfcnpjchbaaGreatDoorCards.lean) ties it to the program's text. -/
def laid_unicode_utf8_acceptRanges {H : Type} : DataW H := .agg [.agg [.lit (.int .u8 128), .lit (.int .u8 191)], .agg [.lit (.int .u8 160), .lit (.int .u8 191)], .agg [.lit (.int .u8 128), .lit (.int .u8 159)], .agg [.lit (.int .u8 144), .lit (.int .u8 191)], .agg [.lit (.int .u8 128), .lit (.int .u8 143)], .agg [.lit (.int .u8 0), .lit (.int .u8 0)], .agg [.lit (.int .u8 0), .lit (.int .u8 0)], .agg [.lit (.int .u8 0), .lit (.int .u8 0)], .agg [.lit (.int .u8 0), .lit (.int .u8 0)], .agg [.lit (.int .u8 0), .lit (.int .u8 0)], .agg [.lit (.int .u8 0), .lit (.int .u8 0)], .agg [.lit (.int .u8 0), .lit (.int .u8 0)], .agg [.lit (.int .u8 0), .lit (.int .u8 0)], .agg [.lit (.int .u8 0), .lit (.int .u8 0)], .agg [.lit (.int .u8 0), .lit (.int .u8 0)], .agg [.lit (.int .u8 0), .lit (.int .u8 0)]]
/-- One of Go's own tables, pinned by name: the form's constant. -/
def laid_unicode_utf8_first : DataW Unit := Go.Pinned.utf8First

/-- 'laws.FnExactTurnNet': WHATEVER THE INPUT: true; the input reads as it did. -/
def fnExactTurnNetSpec : ChangeSpec := { name := "fnExactTurnNet", fn := fun _ => fun
  | [d] => { results := [.lit (.bool true)], args := [d] }
  | _ => none }
def fnExactTurnNetRow : OpenClaim := { program := "ytapigfcnpjchbaagreatdoor", sum := "d9e016df4a4ab199a9afc4b2d5df41cdee92e18ffd194da91e400abebbf37272", func := "loop.example/g01207/laws.FnExactTurnNet", spec := "fnExactTurnNet", inPlace := ["internal/bytealg.CountString", "internal/bytealg.IndexByteString", "internal/bytealg.IndexString", "internal/abi.NoEscape", "internal/bytealg.MakeNoZero"], unfollowed := true, recurses := true, named := ["unicode/utf8.first", "unicode/utf8.acceptRanges", "internal/bytealg.MaxLen"], plainKeys := false, apart := false, laid := [("unicode/utf8.acceptRanges", laid_unicode_utf8_acceptRanges), ("unicode/utf8.first", laid_unicode_utf8_first)] }
def FnExactTurnNetSaid : Prop := fnExactTurnNetRow.holds Tryz.pinned (OpenSpec.ofChange fnExactTurnNetSpec)

/-- ITS FALSE NEIGHBOUR: 'it returns false'. Refute it at one input. -/
def fnExactTurnNetWrong : ChangeSpec := { name := "fnExactTurnNet", fn := fun _ => fun
  | [d] => { results := [.lit (.bool false)], args := [d] }
  | _ => none }
def FnExactTurnNetWrongFalsely : Prop := fnExactTurnNetRow.holds Tryz.pinned (OpenSpec.ofChange fnExactTurnNetWrong)

/-- 'laws.FnExactLongestRow': WHATEVER THE INPUT: true; the input reads as it did. -/
def fnExactLongestRowSpec : ChangeSpec := { name := "fnExactLongestRow", fn := fun _ => fun
  | [d] => { results := [.lit (.bool true)], args := [d] }
  | _ => none }
def fnExactLongestRowRow : OpenClaim := { program := "ytapigfcnpjchbaagreatdoor", sum := "d9e016df4a4ab199a9afc4b2d5df41cdee92e18ffd194da91e400abebbf37272", func := "loop.example/g01207/laws.FnExactLongestRow", spec := "fnExactLongestRow", inPlace := ["internal/bytealg.CountString", "internal/bytealg.IndexByteString", "internal/bytealg.IndexString", "internal/abi.NoEscape", "internal/bytealg.MakeNoZero"], unfollowed := true, recurses := true, named := ["unicode/utf8.first", "unicode/utf8.acceptRanges", "internal/bytealg.MaxLen"], plainKeys := false, apart := false, laid := [("unicode/utf8.acceptRanges", laid_unicode_utf8_acceptRanges), ("unicode/utf8.first", laid_unicode_utf8_first)] }
def FnExactLongestRowSaid : Prop := fnExactLongestRowRow.holds Tryz.pinned (OpenSpec.ofChange fnExactLongestRowSpec)

/-- ITS FALSE NEIGHBOUR: 'it returns false'. Refute it at one input. -/
def fnExactLongestRowWrong : ChangeSpec := { name := "fnExactLongestRow", fn := fun _ => fun
  | [d] => { results := [.lit (.bool false)], args := [d] }
  | _ => none }
def FnExactLongestRowWrongFalsely : Prop := fnExactLongestRowRow.holds Tryz.pinned (OpenSpec.ofChange fnExactLongestRowWrong)

/-- 'laws.FnExactIsNetShape': WHATEVER THE INPUT: true; the input reads as it did. -/
def fnExactIsNetShapeSpec : ChangeSpec := { name := "fnExactIsNetShape", fn := fun _ => fun
  | [d] => { results := [.lit (.bool true)], args := [d] }
  | _ => none }
def fnExactIsNetShapeRow : OpenClaim := { program := "ytapigfcnpjchbaagreatdoor", sum := "d9e016df4a4ab199a9afc4b2d5df41cdee92e18ffd194da91e400abebbf37272", func := "loop.example/g01207/laws.FnExactIsNetShape", spec := "fnExactIsNetShape", inPlace := ["internal/bytealg.IndexByteString", "internal/bytealg.IndexString", "internal/bytealg.CountString", "internal/abi.NoEscape", "internal/bytealg.MakeNoZero"], unfollowed := true, recurses := true, named := ["internal/bytealg.MaxLen", "unicode/utf8.first", "unicode/utf8.acceptRanges"], plainKeys := false, apart := false, laid := [("unicode/utf8.acceptRanges", laid_unicode_utf8_acceptRanges), ("unicode/utf8.first", laid_unicode_utf8_first)] }
def FnExactIsNetShapeSaid : Prop := fnExactIsNetShapeRow.holds Tryz.pinned (OpenSpec.ofChange fnExactIsNetShapeSpec)

/-- ITS FALSE NEIGHBOUR: 'it returns false'. Refute it at one input. -/
def fnExactIsNetShapeWrong : ChangeSpec := { name := "fnExactIsNetShape", fn := fun _ => fun
  | [d] => { results := [.lit (.bool false)], args := [d] }
  | _ => none }
def FnExactIsNetShapeWrongFalsely : Prop := fnExactIsNetShapeRow.holds Tryz.pinned (OpenSpec.ofChange fnExactIsNetShapeWrong)

/-- 'laws.FnExactNetOfShape': WHATEVER THE INPUT: true; the input reads as it did. -/
def fnExactNetOfShapeSpec : ChangeSpec := { name := "fnExactNetOfShape", fn := fun _ => fun
  | [d1, d2] => { results := [.lit (.bool true)], args := [d1, d2] }
  | _ => none }
def fnExactNetOfShapeRow : OpenClaim := { program := "ytapigfcnpjchbaagreatdoor", sum := "d9e016df4a4ab199a9afc4b2d5df41cdee92e18ffd194da91e400abebbf37272", func := "loop.example/g01207/laws.FnExactNetOfShape", spec := "fnExactNetOfShape", inPlace := ["internal/bytealg.IndexByteString", "internal/bytealg.IndexString", "internal/bytealg.CountString", "internal/abi.NoEscape", "internal/bytealg.MakeNoZero"], unfollowed := true, recurses := true, named := ["internal/bytealg.MaxLen", "unicode/utf8.first", "unicode/utf8.acceptRanges"], plainKeys := false, apart := false, laid := [("unicode/utf8.acceptRanges", laid_unicode_utf8_acceptRanges), ("unicode/utf8.first", laid_unicode_utf8_first)] }
def FnExactNetOfShapeSaid : Prop := fnExactNetOfShapeRow.holds Tryz.pinned (OpenSpec.ofChange fnExactNetOfShapeSpec)

/-- ITS FALSE NEIGHBOUR: 'it returns false'. Refute it at one input. -/
def fnExactNetOfShapeWrong : ChangeSpec := { name := "fnExactNetOfShape", fn := fun _ => fun
  | [d1, d2] => { results := [.lit (.bool false)], args := [d1, d2] }
  | _ => none }
def FnExactNetOfShapeWrongFalsely : Prop := fnExactNetOfShapeRow.holds Tryz.pinned (OpenSpec.ofChange fnExactNetOfShapeWrong)

/-- 'laws.FnExactShapeOfNet': WHATEVER THE INPUT: true; the input reads as it did. -/
def fnExactShapeOfNetSpec : ChangeSpec := { name := "fnExactShapeOfNet", fn := fun _ => fun
  | [d] => { results := [.lit (.bool true)], args := [d] }
  | _ => none }
def fnExactShapeOfNetRow : OpenClaim := { program := "ytapigfcnpjchbaagreatdoor", sum := "d9e016df4a4ab199a9afc4b2d5df41cdee92e18ffd194da91e400abebbf37272", func := "loop.example/g01207/laws.FnExactShapeOfNet", spec := "fnExactShapeOfNet", inPlace := ["internal/bytealg.CountString", "internal/bytealg.IndexByteString", "internal/bytealg.IndexString", "sync/atomic.LoadUint32", "(*internal/sync.Mutex).Lock", "internal/race.Disable", "sync/atomic.CompareAndSwapInt32", "internal/race.Enable", "internal/race.Acquire", "(*internal/sync.Mutex).lockSlow", "internal/sync.runtime_canSpin", "internal/sync.runtime_doSpin", "internal/sync.throw", "internal/sync.runtime_nanotime", "internal/sync.runtime_SemacquireMutex", "sync/atomic.AddInt32", "(*internal/sync.Mutex).Unlock", "internal/race.ReleaseMerge", "(*internal/sync.Mutex).unlockSlow", "internal/sync.fatal", "internal/sync.runtime_Semrelease", "sync/atomic.StoreUint32", "internal/abi.NoEscape", "internal/bytealg.MakeNoZero"], unfollowed := true, recurses := true, named := ["unicode/utf8.first", "unicode/utf8.acceptRanges", "internal/bytealg.MaxLen"], plainKeys := false, apart := false, laid := [("unicode/utf8.acceptRanges", laid_unicode_utf8_acceptRanges), ("unicode/utf8.first", laid_unicode_utf8_first)] }
def FnExactShapeOfNetSaid : Prop := fnExactShapeOfNetRow.holds Tryz.pinned (OpenSpec.ofChange fnExactShapeOfNetSpec)

/-- ITS FALSE NEIGHBOUR: 'it returns false'. Refute it at one input. -/
def fnExactShapeOfNetWrong : ChangeSpec := { name := "fnExactShapeOfNet", fn := fun _ => fun
  | [d] => { results := [.lit (.bool false)], args := [d] }
  | _ => none }
def FnExactShapeOfNetWrongFalsely : Prop := fnExactShapeOfNetRow.holds Tryz.pinned (OpenSpec.ofChange fnExactShapeOfNetWrong)

/-- 'laws.FnExactNetsOf': WHATEVER THE INPUT: true; the input reads as it did. -/
def fnExactNetsOfSpec : ChangeSpec := { name := "fnExactNetsOf", fn := fun _ => fun
  | [d1, d2] => { results := [.lit (.bool true)], args := [d1, d2] }
  | _ => none }
def fnExactNetsOfRow : OpenClaim := { program := "ytapigfcnpjchbaagreatdoor", sum := "d9e016df4a4ab199a9afc4b2d5df41cdee92e18ffd194da91e400abebbf37272", func := "loop.example/g01207/laws.FnExactNetsOf", spec := "fnExactNetsOf", inPlace := ["internal/bytealg.IndexByteString", "internal/bytealg.IndexString", "internal/bytealg.CountString", "internal/abi.NoEscape", "internal/bytealg.MakeNoZero"], unfollowed := true, recurses := true, named := ["internal/bytealg.MaxLen", "unicode/utf8.first", "unicode/utf8.acceptRanges"], plainKeys := false, apart := false, laid := [("unicode/utf8.acceptRanges", laid_unicode_utf8_acceptRanges), ("unicode/utf8.first", laid_unicode_utf8_first)] }
def FnExactNetsOfSaid : Prop := fnExactNetsOfRow.holds Tryz.pinned (OpenSpec.ofChange fnExactNetsOfSpec)

/-- ITS FALSE NEIGHBOUR: 'it returns false'. Refute it at one input. -/
def fnExactNetsOfWrong : ChangeSpec := { name := "fnExactNetsOf", fn := fun _ => fun
  | [d1, d2] => { results := [.lit (.bool false)], args := [d1, d2] }
  | _ => none }
def FnExactNetsOfWrongFalsely : Prop := fnExactNetsOfRow.holds Tryz.pinned (OpenSpec.ofChange fnExactNetsOfWrong)

/- THE SECOND FORM. 'bulk': how many values and letters a reading holds, each counted each time it is reached (what is shared counts as often as it is met; a slice's spare places count too). A statement '..UptoSaid' is the law's where the arguments, and the package variables that the reading takes, are together of bulk at most 1048576: NARROWER than '..Said'. Prove '..Said' where nothing that the law and all that it calls make is longer than what came in: it says more and counts as full. Else prove '..UptoSaid'. A law counts once. -/
mutual
def uptoBulk {H : Type} : DataW H → Nat
  | .lit (.string bytes) => bytes.length + 1
  | .lit _ => 1
  | .nil => 1
  | .ptr d => uptoBulk d + 1
  | .slice elems spare => uptoBulkAll elems + uptoBulkAll spare + 1
  | .agg parts => uptoBulkAll parts + 1
  | .iface _ d => uptoBulk d + 1
  | .map entries => uptoBulkEntries entries + 1
  | .held _ => 1
def uptoBulkAll {H : Type} : List (DataW H) → Nat
  | [] => 0
  | d :: r => uptoBulk d + uptoBulkAll r
def uptoBulkEntries {H : Type} : List (Lit × DataW H) → Nat
  | [] => 0
  | x :: r => uptoBulkEntry x + uptoBulkEntries r
def uptoBulkEntry {H : Type} : Lit × DataW H → Nat
  | (.string bytes, d) => bytes.length + uptoBulk d + 1
  | (_, d) => uptoBulk d + 1
 end
def uptoSmall : (H : Type) → List (DataW H) → Bool := fun _ ds => decide (uptoBulkAll ds ≤ 1048576)
def OpenSpec.upto (s : _root_.Go.ChangeSpec) : _root_.Go.OpenSpec := { _root_.Go.OpenSpec.ofChange s with cond := some uptoSmall }

/-- 'laws.FnExactTurnNet', WHERE WHAT IT READS IS OF BULK AT MOST 1048576: true; the input reads as it did. -/
def fnExactTurnNetUptoRow : OpenClaim := { program := "ytapigfcnpjchbaagreatdoor", sum := "d9e016df4a4ab199a9afc4b2d5df41cdee92e18ffd194da91e400abebbf37272", func := "loop.example/g01207/laws.FnExactTurnNet", spec := "fnExactTurnNet", inPlace := ["internal/bytealg.CountString", "internal/bytealg.IndexByteString", "internal/bytealg.IndexString", "internal/abi.NoEscape", "internal/bytealg.MakeNoZero"], unfollowed := true, recurses := true, named := ["unicode/utf8.first", "unicode/utf8.acceptRanges", "internal/bytealg.MaxLen"], plainKeys := false, apart := false, laid := [("unicode/utf8.acceptRanges", laid_unicode_utf8_acceptRanges), ("unicode/utf8.first", laid_unicode_utf8_first)], narrowed := true }
def FnExactTurnNetUptoSaid : Prop := fnExactTurnNetUptoRow.holds Tryz.pinned (OpenSpec.upto fnExactTurnNetSpec)

/-- 'laws.FnExactLongestRow', WHERE WHAT IT READS IS OF BULK AT MOST 1048576: true; the input reads as it did. -/
def fnExactLongestRowUptoRow : OpenClaim := { program := "ytapigfcnpjchbaagreatdoor", sum := "d9e016df4a4ab199a9afc4b2d5df41cdee92e18ffd194da91e400abebbf37272", func := "loop.example/g01207/laws.FnExactLongestRow", spec := "fnExactLongestRow", inPlace := ["internal/bytealg.CountString", "internal/bytealg.IndexByteString", "internal/bytealg.IndexString", "internal/abi.NoEscape", "internal/bytealg.MakeNoZero"], unfollowed := true, recurses := true, named := ["unicode/utf8.first", "unicode/utf8.acceptRanges", "internal/bytealg.MaxLen"], plainKeys := false, apart := false, laid := [("unicode/utf8.acceptRanges", laid_unicode_utf8_acceptRanges), ("unicode/utf8.first", laid_unicode_utf8_first)], narrowed := true }
def FnExactLongestRowUptoSaid : Prop := fnExactLongestRowUptoRow.holds Tryz.pinned (OpenSpec.upto fnExactLongestRowSpec)

/-- 'laws.FnExactIsNetShape', WHERE WHAT IT READS IS OF BULK AT MOST 1048576: true; the input reads as it did. -/
def fnExactIsNetShapeUptoRow : OpenClaim := { program := "ytapigfcnpjchbaagreatdoor", sum := "d9e016df4a4ab199a9afc4b2d5df41cdee92e18ffd194da91e400abebbf37272", func := "loop.example/g01207/laws.FnExactIsNetShape", spec := "fnExactIsNetShape", inPlace := ["internal/bytealg.IndexByteString", "internal/bytealg.IndexString", "internal/bytealg.CountString", "internal/abi.NoEscape", "internal/bytealg.MakeNoZero"], unfollowed := true, recurses := true, named := ["internal/bytealg.MaxLen", "unicode/utf8.first", "unicode/utf8.acceptRanges"], plainKeys := false, apart := false, laid := [("unicode/utf8.acceptRanges", laid_unicode_utf8_acceptRanges), ("unicode/utf8.first", laid_unicode_utf8_first)], narrowed := true }
def FnExactIsNetShapeUptoSaid : Prop := fnExactIsNetShapeUptoRow.holds Tryz.pinned (OpenSpec.upto fnExactIsNetShapeSpec)

/-- 'laws.FnExactNetOfShape', WHERE WHAT IT READS IS OF BULK AT MOST 1048576: true; the input reads as it did. -/
def fnExactNetOfShapeUptoRow : OpenClaim := { program := "ytapigfcnpjchbaagreatdoor", sum := "d9e016df4a4ab199a9afc4b2d5df41cdee92e18ffd194da91e400abebbf37272", func := "loop.example/g01207/laws.FnExactNetOfShape", spec := "fnExactNetOfShape", inPlace := ["internal/bytealg.IndexByteString", "internal/bytealg.IndexString", "internal/bytealg.CountString", "internal/abi.NoEscape", "internal/bytealg.MakeNoZero"], unfollowed := true, recurses := true, named := ["internal/bytealg.MaxLen", "unicode/utf8.first", "unicode/utf8.acceptRanges"], plainKeys := false, apart := false, laid := [("unicode/utf8.acceptRanges", laid_unicode_utf8_acceptRanges), ("unicode/utf8.first", laid_unicode_utf8_first)], narrowed := true }
def FnExactNetOfShapeUptoSaid : Prop := fnExactNetOfShapeUptoRow.holds Tryz.pinned (OpenSpec.upto fnExactNetOfShapeSpec)

/-- 'laws.FnExactShapeOfNet', WHERE WHAT IT READS IS OF BULK AT MOST 1048576: true; the input reads as it did. -/
def fnExactShapeOfNetUptoRow : OpenClaim := { program := "ytapigfcnpjchbaagreatdoor", sum := "d9e016df4a4ab199a9afc4b2d5df41cdee92e18ffd194da91e400abebbf37272", func := "loop.example/g01207/laws.FnExactShapeOfNet", spec := "fnExactShapeOfNet", inPlace := ["internal/bytealg.CountString", "internal/bytealg.IndexByteString", "internal/bytealg.IndexString", "sync/atomic.LoadUint32", "(*internal/sync.Mutex).Lock", "internal/race.Disable", "sync/atomic.CompareAndSwapInt32", "internal/race.Enable", "internal/race.Acquire", "(*internal/sync.Mutex).lockSlow", "internal/sync.runtime_canSpin", "internal/sync.runtime_doSpin", "internal/sync.throw", "internal/sync.runtime_nanotime", "internal/sync.runtime_SemacquireMutex", "sync/atomic.AddInt32", "(*internal/sync.Mutex).Unlock", "internal/race.ReleaseMerge", "(*internal/sync.Mutex).unlockSlow", "internal/sync.fatal", "internal/sync.runtime_Semrelease", "sync/atomic.StoreUint32", "internal/abi.NoEscape", "internal/bytealg.MakeNoZero"], unfollowed := true, recurses := true, named := ["unicode/utf8.first", "unicode/utf8.acceptRanges", "internal/bytealg.MaxLen"], plainKeys := false, apart := false, laid := [("unicode/utf8.acceptRanges", laid_unicode_utf8_acceptRanges), ("unicode/utf8.first", laid_unicode_utf8_first)], narrowed := true }
def FnExactShapeOfNetUptoSaid : Prop := fnExactShapeOfNetUptoRow.holds Tryz.pinned (OpenSpec.upto fnExactShapeOfNetSpec)

/-- 'laws.FnExactNetsOf', WHERE WHAT IT READS IS OF BULK AT MOST 1048576: true; the input reads as it did. -/
def fnExactNetsOfUptoRow : OpenClaim := { program := "ytapigfcnpjchbaagreatdoor", sum := "d9e016df4a4ab199a9afc4b2d5df41cdee92e18ffd194da91e400abebbf37272", func := "loop.example/g01207/laws.FnExactNetsOf", spec := "fnExactNetsOf", inPlace := ["internal/bytealg.IndexByteString", "internal/bytealg.IndexString", "internal/bytealg.CountString", "internal/abi.NoEscape", "internal/bytealg.MakeNoZero"], unfollowed := true, recurses := true, named := ["internal/bytealg.MaxLen", "unicode/utf8.first", "unicode/utf8.acceptRanges"], plainKeys := false, apart := false, laid := [("unicode/utf8.acceptRanges", laid_unicode_utf8_acceptRanges), ("unicode/utf8.first", laid_unicode_utf8_first)], narrowed := true }
def FnExactNetsOfUptoSaid : Prop := fnExactNetsOfUptoRow.holds Tryz.pinned (OpenSpec.upto fnExactNetsOfSpec)

end Rows
end Go.Proofs.YtapigfcnpjchbaaGreatDoor

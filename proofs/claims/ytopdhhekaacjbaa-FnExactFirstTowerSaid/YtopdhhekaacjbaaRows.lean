/-
  No cell of these rows narrows 'for every input' (looked for: loops, veiled, ifaces, maps, wideKeys, modest, calm, conditions, laid).
  DERIVED. THE GIVEN ROWS OF THIS SEAT. 4 by the template 'for every input the law returns true; each argument reads behind the call as it read before'; 0 by the template 'total and deterministic' (their statements: YtopdhhekaacjbaaTotals.lean).
  GIVEN WITH THE SEED: the statements are not yours to turn. If you find one false, say at which input.
  Laid BY PROGRAM, IN A SANDBOX (cutbox-rows.mjs): the forced cells as the released guide's own fill.sh prints them over the translation 07aa6dc54e32634a… (all of the seat's roots in one cut). By AI agents, Wed Nov 11 2026. No macro, syntax, notation, axiom, sorry.
-/
import Derived.Test.YtopdhhekaacjbaaChecked
import GoSem.Claim
import GoSem.ClaimJoined
import GoSem.ClaimMapViews
import Derived.JoinedTies
import Derived.KernelRfl
namespace Go.Proofs.Ytopdhhekaacjbaa
/- THE CELL 'sum', in the pinned program and in every row, IS THE sha256 OF THE DUMP (.gsa) THAT YtopdhhekaacjbaaProg.lean LOADS. Nothing in Lean hashes anything: it is a label: what it is worth is what the hold of that sum in a sandbox is worth. -/
noncomputable def Try.pinned : Pinned := { name := "ytopdhhekaacjbaa", sum := "07aa6dc54e32634aeda07667576733324026b21acf0b249d33d4ee0c809c2908", checked := Try.checked }
namespace Rows
def none {H : Type} : Left H := { results := [], args := [] }

/-- 'laws.FnExactListColorings': WHATEVER THE INPUT: true; the input reads as it did. -/
def fnExactListColoringsSpec : ChangeSpec := { name := "fnExactListColorings", fn := fun _ => fun
  | [d] => { results := [.lit (.bool true)], args := [d] }
  | _ => none }
def fnExactListColoringsRow : OpenClaim := { program := "ytopdhhekaacjbaa", sum := "07aa6dc54e32634aeda07667576733324026b21acf0b249d33d4ee0c809c2908", func := "loop.example/g01207/laws.FnExactListColorings", spec := "fnExactListColorings", unfollowed := true, recurses := true, plainKeys := false, apart := false }
def FnExactListColoringsSaid : Prop := fnExactListColoringsRow.holds Try.pinned (OpenSpec.ofChange fnExactListColoringsSpec)

/-- ITS FALSE NEIGHBOUR: 'it returns false'. Refute it at one input. -/
def fnExactListColoringsWrong : ChangeSpec := { name := "fnExactListColorings", fn := fun _ => fun
  | [d] => { results := [.lit (.bool false)], args := [d] }
  | _ => none }
def FnExactListColoringsWrongFalsely : Prop := fnExactListColoringsRow.holds Try.pinned (OpenSpec.ofChange fnExactListColoringsWrong)

/-- 'laws.FnExactCountTowers': WHATEVER THE INPUT: true; the input reads as it did. -/
def fnExactCountTowersSpec : ChangeSpec := { name := "fnExactCountTowers", fn := fun _ => fun
  | [d] => { results := [.lit (.bool true)], args := [d] }
  | _ => none }
def fnExactCountTowersRow : OpenClaim := { program := "ytopdhhekaacjbaa", sum := "07aa6dc54e32634aeda07667576733324026b21acf0b249d33d4ee0c809c2908", func := "loop.example/g01207/laws.FnExactCountTowers", spec := "fnExactCountTowers", unfollowed := true, recurses := true, plainKeys := false, apart := false }
def FnExactCountTowersSaid : Prop := fnExactCountTowersRow.holds Try.pinned (OpenSpec.ofChange fnExactCountTowersSpec)

/-- ITS FALSE NEIGHBOUR: 'it returns false'. Refute it at one input. -/
def fnExactCountTowersWrong : ChangeSpec := { name := "fnExactCountTowers", fn := fun _ => fun
  | [d] => { results := [.lit (.bool false)], args := [d] }
  | _ => none }
def FnExactCountTowersWrongFalsely : Prop := fnExactCountTowersRow.holds Try.pinned (OpenSpec.ofChange fnExactCountTowersWrong)

/-- 'laws.FnExactFirstTower': WHATEVER THE INPUT: true; the input reads as it did. -/
def fnExactFirstTowerSpec : ChangeSpec := { name := "fnExactFirstTower", fn := fun _ => fun
  | [d] => { results := [.lit (.bool true)], args := [d] }
  | _ => none }
def fnExactFirstTowerRow : OpenClaim := { program := "ytopdhhekaacjbaa", sum := "07aa6dc54e32634aeda07667576733324026b21acf0b249d33d4ee0c809c2908", func := "loop.example/g01207/laws.FnExactFirstTower", spec := "fnExactFirstTower", unfollowed := true, recurses := true, plainKeys := false, apart := false }
def FnExactFirstTowerSaid : Prop := fnExactFirstTowerRow.holds Try.pinned (OpenSpec.ofChange fnExactFirstTowerSpec)

/-- ITS FALSE NEIGHBOUR: 'it returns false'. Refute it at one input. -/
def fnExactFirstTowerWrong : ChangeSpec := { name := "fnExactFirstTower", fn := fun _ => fun
  | [d] => { results := [.lit (.bool false)], args := [d] }
  | _ => none }
def FnExactFirstTowerWrongFalsely : Prop := fnExactFirstTowerRow.holds Try.pinned (OpenSpec.ofChange fnExactFirstTowerWrong)

/-- 'laws.FnExactCountMirrored': WHATEVER THE INPUT: true; the input reads as it did. -/
def fnExactCountMirroredSpec : ChangeSpec := { name := "fnExactCountMirrored", fn := fun _ => fun
  | [d] => { results := [.lit (.bool true)], args := [d] }
  | _ => none }
def fnExactCountMirroredRow : OpenClaim := { program := "ytopdhhekaacjbaa", sum := "07aa6dc54e32634aeda07667576733324026b21acf0b249d33d4ee0c809c2908", func := "loop.example/g01207/laws.FnExactCountMirrored", spec := "fnExactCountMirrored", unfollowed := true, recurses := true, plainKeys := false, apart := false }
def FnExactCountMirroredSaid : Prop := fnExactCountMirroredRow.holds Try.pinned (OpenSpec.ofChange fnExactCountMirroredSpec)

/-- ITS FALSE NEIGHBOUR: 'it returns false'. Refute it at one input. -/
def fnExactCountMirroredWrong : ChangeSpec := { name := "fnExactCountMirrored", fn := fun _ => fun
  | [d] => { results := [.lit (.bool false)], args := [d] }
  | _ => none }
def FnExactCountMirroredWrongFalsely : Prop := fnExactCountMirroredRow.holds Try.pinned (OpenSpec.ofChange fnExactCountMirroredWrong)

/- THE SECOND FORM. 'bulk': how many values and letters a reading holds, each counted each time it is reached (what is shared counts as often as it is met; a slice's spare places count too). A statement '..UptoSaid' is the law's where the arguments, and the package variables that the reading takes, are together of bulk at most 1048576: NARROWER than '..Said'. Prove '..Said' where nothing that the law and all that it calls make is longer than what came in: it says more and counts as full. Else prove '..UptoSaid'. A law counts once. -/
mutual
def uptoBulk {H : Type} : DataW H → Nat
  | .lit (.string bytes) => bytes.length + 1
  | .lit _ => 1
  | .nil => 1
  | .ptr d => uptoBulk d + 1
  | .slice elems spare => uptoBulkAll elems + uptoBulkAll spare + 1
  | .agg parts => uptoBulkAll parts + 1
  | .iface _ d => uptoBulk d + 1
  | .map entries => uptoBulkEntries entries + 1
  | .held _ => 1
def uptoBulkAll {H : Type} : List (DataW H) → Nat
  | [] => 0
  | d :: r => uptoBulk d + uptoBulkAll r
def uptoBulkEntries {H : Type} : List (Lit × DataW H) → Nat
  | [] => 0
  | x :: r => uptoBulkEntry x + uptoBulkEntries r
def uptoBulkEntry {H : Type} : Lit × DataW H → Nat
  | (.string bytes, d) => bytes.length + uptoBulk d + 1
  | (_, d) => uptoBulk d + 1
 end
def uptoSmall : (H : Type) → List (DataW H) → Bool := fun _ ds => decide (uptoBulkAll ds ≤ 1048576)
def OpenSpec.upto (s : _root_.Go.ChangeSpec) : _root_.Go.OpenSpec := { _root_.Go.OpenSpec.ofChange s with cond := some uptoSmall }

/-- 'laws.FnExactListColorings', WHERE WHAT IT READS IS OF BULK AT MOST 1048576: true; the input reads as it did. -/
def fnExactListColoringsUptoRow : OpenClaim := { program := "ytopdhhekaacjbaa", sum := "07aa6dc54e32634aeda07667576733324026b21acf0b249d33d4ee0c809c2908", func := "loop.example/g01207/laws.FnExactListColorings", spec := "fnExactListColorings", unfollowed := true, recurses := true, plainKeys := false, apart := false, narrowed := true }
def FnExactListColoringsUptoSaid : Prop := fnExactListColoringsUptoRow.holds Try.pinned (OpenSpec.upto fnExactListColoringsSpec)

/-- 'laws.FnExactCountTowers', WHERE WHAT IT READS IS OF BULK AT MOST 1048576: true; the input reads as it did. -/
def fnExactCountTowersUptoRow : OpenClaim := { program := "ytopdhhekaacjbaa", sum := "07aa6dc54e32634aeda07667576733324026b21acf0b249d33d4ee0c809c2908", func := "loop.example/g01207/laws.FnExactCountTowers", spec := "fnExactCountTowers", unfollowed := true, recurses := true, plainKeys := false, apart := false, narrowed := true }
def FnExactCountTowersUptoSaid : Prop := fnExactCountTowersUptoRow.holds Try.pinned (OpenSpec.upto fnExactCountTowersSpec)

/-- 'laws.FnExactFirstTower', WHERE WHAT IT READS IS OF BULK AT MOST 1048576: true; the input reads as it did. -/
def fnExactFirstTowerUptoRow : OpenClaim := { program := "ytopdhhekaacjbaa", sum := "07aa6dc54e32634aeda07667576733324026b21acf0b249d33d4ee0c809c2908", func := "loop.example/g01207/laws.FnExactFirstTower", spec := "fnExactFirstTower", unfollowed := true, recurses := true, plainKeys := false, apart := false, narrowed := true }
def FnExactFirstTowerUptoSaid : Prop := fnExactFirstTowerUptoRow.holds Try.pinned (OpenSpec.upto fnExactFirstTowerSpec)

/-- 'laws.FnExactCountMirrored', WHERE WHAT IT READS IS OF BULK AT MOST 1048576: true; the input reads as it did. -/
def fnExactCountMirroredUptoRow : OpenClaim := { program := "ytopdhhekaacjbaa", sum := "07aa6dc54e32634aeda07667576733324026b21acf0b249d33d4ee0c809c2908", func := "loop.example/g01207/laws.FnExactCountMirrored", spec := "fnExactCountMirrored", unfollowed := true, recurses := true, plainKeys := false, apart := false, narrowed := true }
def FnExactCountMirroredUptoSaid : Prop := fnExactCountMirroredUptoRow.holds Try.pinned (OpenSpec.upto fnExactCountMirroredSpec)

end Rows
end Go.Proofs.Ytopdhhekaacjbaa

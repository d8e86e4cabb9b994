/-
  No cell of these rows narrows 'for every input' (looked for: loops, veiled, ifaces, maps, wideKeys, modest, calm, conditions, laid).
  DERIVED. THE GIVEN ROWS OF THIS SEAT. 12 by the template 'for every input the law returns true; each argument reads behind the call as it read before'; 0 by the template 'total and deterministic' (their statements: YtjeongckkfkehaaTotals.lean).
  GIVEN WITH THE SEED: the statements are not yours to turn. If you find one false, say at which input.
  Laid BY PROGRAM, IN A SANDBOX (cutbox-rows.mjs): the forced cells as the released guide's own fill.sh prints them over the translation ecee66ee26f62d96… (all of the seat's roots in one cut). By AI agents, Wed Nov 11 2026. No macro, syntax, notation, axiom, sorry.
-/
import Derived.Test.YtjeongckkfkehaaChecked
import GoSem.Claim
import GoSem.ClaimJoined
import GoSem.ClaimMapViews
import Derived.JoinedTies
import Derived.KernelRfl
namespace Go.Proofs.Ytjeongckkfkehaa
/- THE CELL 'sum', in the pinned program and in every row, IS THE sha256 OF THE DUMP (.gsa) THAT YtjeongckkfkehaaProg.lean LOADS. Nothing in Lean hashes anything: it is a label: what it is worth is what the hold of that sum in a sandbox is worth. -/
noncomputable def Try.pinned : Pinned := { name := "ytjeongckkfkehaa", sum := "ecee66ee26f62d963827ef69bddb2979006e48f3bdfe9990a3b3b81a65e337e5", checked := Try.checked }
namespace Rows
def none {H : Type} : Left H := { results := [], args := [] }

/-- 'laws.FnExactBackPath': WHATEVER THE INPUT: true; the input reads as it did. -/
def fnExactBackPathSpec : ChangeSpec := { name := "fnExactBackPath", fn := fun _ => fun
  | [d1, d2, d3] => { results := [.lit (.bool true)], args := [d1, d2, d3] }
  | _ => none }
def fnExactBackPathRow : OpenClaim := { program := "ytjeongckkfkehaa", sum := "ecee66ee26f62d963827ef69bddb2979006e48f3bdfe9990a3b3b81a65e337e5", func := "loop.example/g01239/laws.FnExactBackPath", spec := "fnExactBackPath", recurses := true, apart := false }
def FnExactBackPathSaid : Prop := fnExactBackPathRow.holds Try.pinned (OpenSpec.ofChange fnExactBackPathSpec)

/-- ITS FALSE NEIGHBOUR: 'it returns false'. Refute it at one input. -/
def fnExactBackPathWrong : ChangeSpec := { name := "fnExactBackPath", fn := fun _ => fun
  | [d1, d2, d3] => { results := [.lit (.bool false)], args := [d1, d2, d3] }
  | _ => none }
def FnExactBackPathWrongFalsely : Prop := fnExactBackPathRow.holds Try.pinned (OpenSpec.ofChange fnExactBackPathWrong)

/-- 'laws.FnExactFewestOnward': WHATEVER THE INPUT: true; the input reads as it did. -/
def fnExactFewestOnwardSpec : ChangeSpec := { name := "fnExactFewestOnward", fn := fun _ => fun
  | [d1, d2, d3] => { results := [.lit (.bool true)], args := [d1, d2, d3] }
  | _ => none }
def fnExactFewestOnwardRow : OpenClaim := { program := "ytjeongckkfkehaa", sum := "ecee66ee26f62d963827ef69bddb2979006e48f3bdfe9990a3b3b81a65e337e5", func := "loop.example/g01239/laws.FnExactFewestOnward", spec := "fnExactFewestOnward", recurses := true, apart := false }
def FnExactFewestOnwardSaid : Prop := fnExactFewestOnwardRow.holds Try.pinned (OpenSpec.ofChange fnExactFewestOnwardSpec)

/-- ITS FALSE NEIGHBOUR: 'it returns false'. Refute it at one input. -/
def fnExactFewestOnwardWrong : ChangeSpec := { name := "fnExactFewestOnward", fn := fun _ => fun
  | [d1, d2, d3] => { results := [.lit (.bool false)], args := [d1, d2, d3] }
  | _ => none }
def FnExactFewestOnwardWrongFalsely : Prop := fnExactFewestOnwardRow.holds Try.pinned (OpenSpec.ofChange fnExactFewestOnwardWrong)

/-- 'laws.FnExactTailTurns': WHATEVER THE INPUT: true; the input reads as it did. -/
def fnExactTailTurnsSpec : ChangeSpec := { name := "fnExactTailTurns", fn := fun _ => fun
  | [d1, d2, d3] => { results := [.lit (.bool true)], args := [d1, d2, d3] }
  | _ => none }
def fnExactTailTurnsRow : OpenClaim := { program := "ytjeongckkfkehaa", sum := "ecee66ee26f62d963827ef69bddb2979006e48f3bdfe9990a3b3b81a65e337e5", func := "loop.example/g01239/laws.FnExactTailTurns", spec := "fnExactTailTurns", recurses := true, apart := false }
def FnExactTailTurnsSaid : Prop := fnExactTailTurnsRow.holds Try.pinned (OpenSpec.ofChange fnExactTailTurnsSpec)

/-- ITS FALSE NEIGHBOUR: 'it returns false'. Refute it at one input. -/
def fnExactTailTurnsWrong : ChangeSpec := { name := "fnExactTailTurns", fn := fun _ => fun
  | [d1, d2, d3] => { results := [.lit (.bool false)], args := [d1, d2, d3] }
  | _ => none }
def FnExactTailTurnsWrongFalsely : Prop := fnExactTailTurnsRow.holds Try.pinned (OpenSpec.ofChange fnExactTailTurnsWrong)

/-- 'laws.FnExactCountRoutes': WHATEVER THE INPUT: true; the input reads as it did. -/
def fnExactCountRoutesSpec : ChangeSpec := { name := "fnExactCountRoutes", fn := fun _ => fun
  | [d1, d2, d3, d4] => { results := [.lit (.bool true)], args := [d1, d2, d3, d4] }
  | _ => none }
def fnExactCountRoutesRow : OpenClaim := { program := "ytjeongckkfkehaa", sum := "ecee66ee26f62d963827ef69bddb2979006e48f3bdfe9990a3b3b81a65e337e5", func := "loop.example/g01239/laws.FnExactCountRoutes", spec := "fnExactCountRoutes", recurses := true, apart := false }
def FnExactCountRoutesSaid : Prop := fnExactCountRoutesRow.holds Try.pinned (OpenSpec.ofChange fnExactCountRoutesSpec)

/-- ITS FALSE NEIGHBOUR: 'it returns false'. Refute it at one input. -/
def fnExactCountRoutesWrong : ChangeSpec := { name := "fnExactCountRoutes", fn := fun _ => fun
  | [d1, d2, d3, d4] => { results := [.lit (.bool false)], args := [d1, d2, d3, d4] }
  | _ => none }
def FnExactCountRoutesWrongFalsely : Prop := fnExactCountRoutesRow.holds Try.pinned (OpenSpec.ofChange fnExactCountRoutesWrong)

/-- 'laws.FnExactReverseWalk': WHATEVER THE INPUT: true; the input reads as it did. -/
def fnExactReverseWalkSpec : ChangeSpec := { name := "fnExactReverseWalk", fn := fun _ => fun
  | [d1, d2, d3] => { results := [.lit (.bool true)], args := [d1, d2, d3] }
  | _ => none }
def fnExactReverseWalkRow : OpenClaim := { program := "ytjeongckkfkehaa", sum := "ecee66ee26f62d963827ef69bddb2979006e48f3bdfe9990a3b3b81a65e337e5", func := "loop.example/g01239/laws.FnExactReverseWalk", spec := "fnExactReverseWalk", recurses := true, apart := false }
def FnExactReverseWalkSaid : Prop := fnExactReverseWalkRow.holds Try.pinned (OpenSpec.ofChange fnExactReverseWalkSpec)

/-- ITS FALSE NEIGHBOUR: 'it returns false'. Refute it at one input. -/
def fnExactReverseWalkWrong : ChangeSpec := { name := "fnExactReverseWalk", fn := fun _ => fun
  | [d1, d2, d3] => { results := [.lit (.bool false)], args := [d1, d2, d3] }
  | _ => none }
def FnExactReverseWalkWrongFalsely : Prop := fnExactReverseWalkRow.holds Try.pinned (OpenSpec.ofChange fnExactReverseWalkWrong)

/-- 'laws.FnExactCountByDistance': WHATEVER THE INPUT: true; the input reads as it did. -/
def fnExactCountByDistanceSpec : ChangeSpec := { name := "fnExactCountByDistance", fn := fun _ => fun
  | [d1, d2, d3] => { results := [.lit (.bool true)], args := [d1, d2, d3] }
  | _ => none }
def fnExactCountByDistanceRow : OpenClaim := { program := "ytjeongckkfkehaa", sum := "ecee66ee26f62d963827ef69bddb2979006e48f3bdfe9990a3b3b81a65e337e5", func := "loop.example/g01239/laws.FnExactCountByDistance", spec := "fnExactCountByDistance", recurses := true, apart := false }
def FnExactCountByDistanceSaid : Prop := fnExactCountByDistanceRow.holds Try.pinned (OpenSpec.ofChange fnExactCountByDistanceSpec)

/-- ITS FALSE NEIGHBOUR: 'it returns false'. Refute it at one input. -/
def fnExactCountByDistanceWrong : ChangeSpec := { name := "fnExactCountByDistance", fn := fun _ => fun
  | [d1, d2, d3] => { results := [.lit (.bool false)], args := [d1, d2, d3] }
  | _ => none }
def FnExactCountByDistanceWrongFalsely : Prop := fnExactCountByDistanceRow.holds Try.pinned (OpenSpec.ofChange fnExactCountByDistanceWrong)

/-- 'laws.FnExactWalkOfNumbers': WHATEVER THE INPUT: true; the input reads as it did. -/
def fnExactWalkOfNumbersSpec : ChangeSpec := { name := "fnExactWalkOfNumbers", fn := fun _ => fun
  | [d1, d2, d3] => { results := [.lit (.bool true)], args := [d1, d2, d3] }
  | _ => none }
def fnExactWalkOfNumbersRow : OpenClaim := { program := "ytjeongckkfkehaa", sum := "ecee66ee26f62d963827ef69bddb2979006e48f3bdfe9990a3b3b81a65e337e5", func := "loop.example/g01239/laws.FnExactWalkOfNumbers", spec := "fnExactWalkOfNumbers", recurses := true, apart := false }
def FnExactWalkOfNumbersSaid : Prop := fnExactWalkOfNumbersRow.holds Try.pinned (OpenSpec.ofChange fnExactWalkOfNumbersSpec)

/-- ITS FALSE NEIGHBOUR: 'it returns false'. Refute it at one input. -/
def fnExactWalkOfNumbersWrong : ChangeSpec := { name := "fnExactWalkOfNumbers", fn := fun _ => fun
  | [d1, d2, d3] => { results := [.lit (.bool false)], args := [d1, d2, d3] }
  | _ => none }
def FnExactWalkOfNumbersWrongFalsely : Prop := fnExactWalkOfNumbersRow.holds Try.pinned (OpenSpec.ofChange fnExactWalkOfNumbersWrong)

/-- 'laws.FnExactWidthOf': WHATEVER THE INPUT: true; the input reads as it did. -/
def fnExactWidthOfSpec : ChangeSpec := { name := "fnExactWidthOf", fn := fun _ => fun
  | [d1, d2] => { results := [.lit (.bool true)], args := [d1, d2] }
  | _ => none }
def fnExactWidthOfRow : OpenClaim := { program := "ytjeongckkfkehaa", sum := "ecee66ee26f62d963827ef69bddb2979006e48f3bdfe9990a3b3b81a65e337e5", func := "loop.example/g01239/laws.FnExactWidthOf", spec := "fnExactWidthOf", recurses := true, apart := false }
def FnExactWidthOfSaid : Prop := fnExactWidthOfRow.holds Try.pinned (OpenSpec.ofChange fnExactWidthOfSpec)

/-- ITS FALSE NEIGHBOUR: 'it returns false'. Refute it at one input. -/
def fnExactWidthOfWrong : ChangeSpec := { name := "fnExactWidthOf", fn := fun _ => fun
  | [d1, d2] => { results := [.lit (.bool false)], args := [d1, d2] }
  | _ => none }
def FnExactWidthOfWrongFalsely : Prop := fnExactWidthOfRow.holds Try.pinned (OpenSpec.ofChange fnExactWidthOfWrong)

/-- 'laws.FnExactIsHalfMagic': WHATEVER THE INPUT: true; the input reads as it did. -/
def fnExactIsHalfMagicSpec : ChangeSpec := { name := "fnExactIsHalfMagic", fn := fun _ => fun
  | [d1, d2, d3] => { results := [.lit (.bool true)], args := [d1, d2, d3] }
  | _ => none }
def fnExactIsHalfMagicRow : OpenClaim := { program := "ytjeongckkfkehaa", sum := "ecee66ee26f62d963827ef69bddb2979006e48f3bdfe9990a3b3b81a65e337e5", func := "loop.example/g01239/laws.FnExactIsHalfMagic", spec := "fnExactIsHalfMagic", recurses := true, apart := false }
def FnExactIsHalfMagicSaid : Prop := fnExactIsHalfMagicRow.holds Try.pinned (OpenSpec.ofChange fnExactIsHalfMagicSpec)

/-- ITS FALSE NEIGHBOUR: 'it returns false'. Refute it at one input. -/
def fnExactIsHalfMagicWrong : ChangeSpec := { name := "fnExactIsHalfMagic", fn := fun _ => fun
  | [d1, d2, d3] => { results := [.lit (.bool false)], args := [d1, d2, d3] }
  | _ => none }
def FnExactIsHalfMagicWrongFalsely : Prop := fnExactIsHalfMagicRow.holds Try.pinned (OpenSpec.ofChange fnExactIsHalfMagicWrong)

/-- 'laws.FnExactCellsOnRoutes': WHATEVER THE INPUT: true; the input reads as it did. -/
def fnExactCellsOnRoutesSpec : ChangeSpec := { name := "fnExactCellsOnRoutes", fn := fun _ => fun
  | [d1, d2, d3, d4] => { results := [.lit (.bool true)], args := [d1, d2, d3, d4] }
  | _ => none }
def fnExactCellsOnRoutesRow : OpenClaim := { program := "ytjeongckkfkehaa", sum := "ecee66ee26f62d963827ef69bddb2979006e48f3bdfe9990a3b3b81a65e337e5", func := "loop.example/g01239/laws.FnExactCellsOnRoutes", spec := "fnExactCellsOnRoutes", recurses := true, apart := false }
def FnExactCellsOnRoutesSaid : Prop := fnExactCellsOnRoutesRow.holds Try.pinned (OpenSpec.ofChange fnExactCellsOnRoutesSpec)

/-- ITS FALSE NEIGHBOUR: 'it returns false'. Refute it at one input. -/
def fnExactCellsOnRoutesWrong : ChangeSpec := { name := "fnExactCellsOnRoutes", fn := fun _ => fun
  | [d1, d2, d3, d4] => { results := [.lit (.bool false)], args := [d1, d2, d3, d4] }
  | _ => none }
def FnExactCellsOnRoutesWrongFalsely : Prop := fnExactCellsOnRoutesRow.holds Try.pinned (OpenSpec.ofChange fnExactCellsOnRoutesWrong)

/-- 'laws.FnExactFirstRoute': WHATEVER THE INPUT: true; the input reads as it did. -/
def fnExactFirstRouteSpec : ChangeSpec := { name := "fnExactFirstRoute", fn := fun _ => fun
  | [d1, d2, d3, d4] => { results := [.lit (.bool true)], args := [d1, d2, d3, d4] }
  | _ => none }
def fnExactFirstRouteRow : OpenClaim := { program := "ytjeongckkfkehaa", sum := "ecee66ee26f62d963827ef69bddb2979006e48f3bdfe9990a3b3b81a65e337e5", func := "loop.example/g01239/laws.FnExactFirstRoute", spec := "fnExactFirstRoute", recurses := true, apart := false }
def FnExactFirstRouteSaid : Prop := fnExactFirstRouteRow.holds Try.pinned (OpenSpec.ofChange fnExactFirstRouteSpec)

/-- ITS FALSE NEIGHBOUR: 'it returns false'. Refute it at one input. -/
def fnExactFirstRouteWrong : ChangeSpec := { name := "fnExactFirstRoute", fn := fun _ => fun
  | [d1, d2, d3, d4] => { results := [.lit (.bool false)], args := [d1, d2, d3, d4] }
  | _ => none }
def FnExactFirstRouteWrongFalsely : Prop := fnExactFirstRouteRow.holds Try.pinned (OpenSpec.ofChange fnExactFirstRouteWrong)

/-- 'laws.FnExactSpinTour': WHATEVER THE INPUT: true; the input reads as it did. -/
def fnExactSpinTourSpec : ChangeSpec := { name := "fnExactSpinTour", fn := fun _ => fun
  | [d1, d2, d3, d4] => { results := [.lit (.bool true)], args := [d1, d2, d3, d4] }
  | _ => none }
def fnExactSpinTourRow : OpenClaim := { program := "ytjeongckkfkehaa", sum := "ecee66ee26f62d963827ef69bddb2979006e48f3bdfe9990a3b3b81a65e337e5", func := "loop.example/g01239/laws.FnExactSpinTour", spec := "fnExactSpinTour", recurses := true, apart := false }
def FnExactSpinTourSaid : Prop := fnExactSpinTourRow.holds Try.pinned (OpenSpec.ofChange fnExactSpinTourSpec)

/-- ITS FALSE NEIGHBOUR: 'it returns false'. Refute it at one input. -/
def fnExactSpinTourWrong : ChangeSpec := { name := "fnExactSpinTour", fn := fun _ => fun
  | [d1, d2, d3, d4] => { results := [.lit (.bool false)], args := [d1, d2, d3, d4] }
  | _ => none }
def FnExactSpinTourWrongFalsely : Prop := fnExactSpinTourRow.holds Try.pinned (OpenSpec.ofChange fnExactSpinTourWrong)

/- THE SECOND FORM. 'bulk': how many values and letters a reading holds, each counted each time it is reached (what is shared counts as often as it is met; a slice's spare places count too). A statement '..UptoSaid' is the law's where the arguments, and the package variables that the reading takes, are together of bulk at most 1048576: NARROWER than '..Said'. Prove '..Said' where nothing that the law and all that it calls make is longer than what came in: it says more and counts as full. Else prove '..UptoSaid'. A law counts once. -/
mutual
def uptoBulk {H : Type} : DataW H → Nat
  | .lit (.string bytes) => bytes.length + 1
  | .lit _ => 1
  | .nil => 1
  | .ptr d => uptoBulk d + 1
  | .slice elems spare => uptoBulkAll elems + uptoBulkAll spare + 1
  | .agg parts => uptoBulkAll parts + 1
  | .iface _ d => uptoBulk d + 1
  | .map entries => uptoBulkEntries entries + 1
  | .held _ => 1
def uptoBulkAll {H : Type} : List (DataW H) → Nat
  | [] => 0
  | d :: r => uptoBulk d + uptoBulkAll r
def uptoBulkEntries {H : Type} : List (Lit × DataW H) → Nat
  | [] => 0
  | x :: r => uptoBulkEntry x + uptoBulkEntries r
def uptoBulkEntry {H : Type} : Lit × DataW H → Nat
  | (.string bytes, d) => bytes.length + uptoBulk d + 1
  | (_, d) => uptoBulk d + 1
 end
def uptoSmall : (H : Type) → List (DataW H) → Bool := fun _ ds => decide (uptoBulkAll ds ≤ 1048576)
def OpenSpec.upto (s : _root_.Go.ChangeSpec) : _root_.Go.OpenSpec := { _root_.Go.OpenSpec.ofChange s with cond := some uptoSmall }

/-- 'laws.FnExactBackPath', WHERE WHAT IT READS IS OF BULK AT MOST 1048576: true; the input reads as it did. -/
def fnExactBackPathUptoRow : OpenClaim := { program := "ytjeongckkfkehaa", sum := "ecee66ee26f62d963827ef69bddb2979006e48f3bdfe9990a3b3b81a65e337e5", func := "loop.example/g01239/laws.FnExactBackPath", spec := "fnExactBackPath", recurses := true, apart := false, narrowed := true }
def FnExactBackPathUptoSaid : Prop := fnExactBackPathUptoRow.holds Try.pinned (OpenSpec.upto fnExactBackPathSpec)

/-- 'laws.FnExactFewestOnward', WHERE WHAT IT READS IS OF BULK AT MOST 1048576: true; the input reads as it did. -/
def fnExactFewestOnwardUptoRow : OpenClaim := { program := "ytjeongckkfkehaa", sum := "ecee66ee26f62d963827ef69bddb2979006e48f3bdfe9990a3b3b81a65e337e5", func := "loop.example/g01239/laws.FnExactFewestOnward", spec := "fnExactFewestOnward", recurses := true, apart := false, narrowed := true }
def FnExactFewestOnwardUptoSaid : Prop := fnExactFewestOnwardUptoRow.holds Try.pinned (OpenSpec.upto fnExactFewestOnwardSpec)

/-- 'laws.FnExactTailTurns', WHERE WHAT IT READS IS OF BULK AT MOST 1048576: true; the input reads as it did. -/
def fnExactTailTurnsUptoRow : OpenClaim := { program := "ytjeongckkfkehaa", sum := "ecee66ee26f62d963827ef69bddb2979006e48f3bdfe9990a3b3b81a65e337e5", func := "loop.example/g01239/laws.FnExactTailTurns", spec := "fnExactTailTurns", recurses := true, apart := false, narrowed := true }
def FnExactTailTurnsUptoSaid : Prop := fnExactTailTurnsUptoRow.holds Try.pinned (OpenSpec.upto fnExactTailTurnsSpec)

/-- 'laws.FnExactCountRoutes', WHERE WHAT IT READS IS OF BULK AT MOST 1048576: true; the input reads as it did. -/
def fnExactCountRoutesUptoRow : OpenClaim := { program := "ytjeongckkfkehaa", sum := "ecee66ee26f62d963827ef69bddb2979006e48f3bdfe9990a3b3b81a65e337e5", func := "loop.example/g01239/laws.FnExactCountRoutes", spec := "fnExactCountRoutes", recurses := true, apart := false, narrowed := true }
def FnExactCountRoutesUptoSaid : Prop := fnExactCountRoutesUptoRow.holds Try.pinned (OpenSpec.upto fnExactCountRoutesSpec)

/-- 'laws.FnExactReverseWalk', WHERE WHAT IT READS IS OF BULK AT MOST 1048576: true; the input reads as it did. -/
def fnExactReverseWalkUptoRow : OpenClaim := { program := "ytjeongckkfkehaa", sum := "ecee66ee26f62d963827ef69bddb2979006e48f3bdfe9990a3b3b81a65e337e5", func := "loop.example/g01239/laws.FnExactReverseWalk", spec := "fnExactReverseWalk", recurses := true, apart := false, narrowed := true }
def FnExactReverseWalkUptoSaid : Prop := fnExactReverseWalkUptoRow.holds Try.pinned (OpenSpec.upto fnExactReverseWalkSpec)

/-- 'laws.FnExactCountByDistance', WHERE WHAT IT READS IS OF BULK AT MOST 1048576: true; the input reads as it did. -/
def fnExactCountByDistanceUptoRow : OpenClaim := { program := "ytjeongckkfkehaa", sum := "ecee66ee26f62d963827ef69bddb2979006e48f3bdfe9990a3b3b81a65e337e5", func := "loop.example/g01239/laws.FnExactCountByDistance", spec := "fnExactCountByDistance", recurses := true, apart := false, narrowed := true }
def FnExactCountByDistanceUptoSaid : Prop := fnExactCountByDistanceUptoRow.holds Try.pinned (OpenSpec.upto fnExactCountByDistanceSpec)

/-- 'laws.FnExactWalkOfNumbers', WHERE WHAT IT READS IS OF BULK AT MOST 1048576: true; the input reads as it did. -/
def fnExactWalkOfNumbersUptoRow : OpenClaim := { program := "ytjeongckkfkehaa", sum := "ecee66ee26f62d963827ef69bddb2979006e48f3bdfe9990a3b3b81a65e337e5", func := "loop.example/g01239/laws.FnExactWalkOfNumbers", spec := "fnExactWalkOfNumbers", recurses := true, apart := false, narrowed := true }
def FnExactWalkOfNumbersUptoSaid : Prop := fnExactWalkOfNumbersUptoRow.holds Try.pinned (OpenSpec.upto fnExactWalkOfNumbersSpec)

/-- 'laws.FnExactWidthOf', WHERE WHAT IT READS IS OF BULK AT MOST 1048576: true; the input reads as it did. -/
def fnExactWidthOfUptoRow : OpenClaim := { program := "ytjeongckkfkehaa", sum := "ecee66ee26f62d963827ef69bddb2979006e48f3bdfe9990a3b3b81a65e337e5", func := "loop.example/g01239/laws.FnExactWidthOf", spec := "fnExactWidthOf", recurses := true, apart := false, narrowed := true }
def FnExactWidthOfUptoSaid : Prop := fnExactWidthOfUptoRow.holds Try.pinned (OpenSpec.upto fnExactWidthOfSpec)

/-- 'laws.FnExactIsHalfMagic', WHERE WHAT IT READS IS OF BULK AT MOST 1048576: true; the input reads as it did. -/
def fnExactIsHalfMagicUptoRow : OpenClaim := { program := "ytjeongckkfkehaa", sum := "ecee66ee26f62d963827ef69bddb2979006e48f3bdfe9990a3b3b81a65e337e5", func := "loop.example/g01239/laws.FnExactIsHalfMagic", spec := "fnExactIsHalfMagic", recurses := true, apart := false, narrowed := true }
def FnExactIsHalfMagicUptoSaid : Prop := fnExactIsHalfMagicUptoRow.holds Try.pinned (OpenSpec.upto fnExactIsHalfMagicSpec)

/-- 'laws.FnExactCellsOnRoutes', WHERE WHAT IT READS IS OF BULK AT MOST 1048576: true; the input reads as it did. -/
def fnExactCellsOnRoutesUptoRow : OpenClaim := { program := "ytjeongckkfkehaa", sum := "ecee66ee26f62d963827ef69bddb2979006e48f3bdfe9990a3b3b81a65e337e5", func := "loop.example/g01239/laws.FnExactCellsOnRoutes", spec := "fnExactCellsOnRoutes", recurses := true, apart := false, narrowed := true }
def FnExactCellsOnRoutesUptoSaid : Prop := fnExactCellsOnRoutesUptoRow.holds Try.pinned (OpenSpec.upto fnExactCellsOnRoutesSpec)

/-- 'laws.FnExactFirstRoute', WHERE WHAT IT READS IS OF BULK AT MOST 1048576: true; the input reads as it did. -/
def fnExactFirstRouteUptoRow : OpenClaim := { program := "ytjeongckkfkehaa", sum := "ecee66ee26f62d963827ef69bddb2979006e48f3bdfe9990a3b3b81a65e337e5", func := "loop.example/g01239/laws.FnExactFirstRoute", spec := "fnExactFirstRoute", recurses := true, apart := false, narrowed := true }
def FnExactFirstRouteUptoSaid : Prop := fnExactFirstRouteUptoRow.holds Try.pinned (OpenSpec.upto fnExactFirstRouteSpec)

/-- 'laws.FnExactSpinTour', WHERE WHAT IT READS IS OF BULK AT MOST 1048576: true; the input reads as it did. -/
def fnExactSpinTourUptoRow : OpenClaim := { program := "ytjeongckkfkehaa", sum := "ecee66ee26f62d963827ef69bddb2979006e48f3bdfe9990a3b3b81a65e337e5", func := "loop.example/g01239/laws.FnExactSpinTour", spec := "fnExactSpinTour", recurses := true, apart := false, narrowed := true }
def FnExactSpinTourUptoSaid : Prop := fnExactSpinTourUptoRow.holds Try.pinned (OpenSpec.upto fnExactSpinTourSpec)

end Rows
end Go.Proofs.Ytjeongckkfkehaa

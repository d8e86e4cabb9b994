/-
  No cell of these rows narrows 'for every input' (looked for: loops, veiled, ifaces, maps, wideKeys, modest, calm, conditions, laid).
  DERIVED. THE GIVEN ROWS OF THIS SEAT. 9 by the template 'for every input the law returns true; each argument reads behind the call as it read before'; 0 by the template 'total and deterministic' (their statements: YtbecdckdbeoomaaTotals.lean).
  GIVEN WITH THE SEED: the statements are not yours to turn. If you find one false, say at which input.
  Laid BY PROGRAM, IN A SANDBOX (cutbox-rows.mjs): the forced cells as the released guide's own fill.sh prints them over the translation f359f76e6cbe2944… (all of the seat's roots in one cut). By AI agents, Wed Nov 11 2026. No macro, syntax, notation, axiom, sorry.
-/
import Derived.Test.YtbecdckdbeoomaaChecked
import GoSem.Claim
import GoSem.ClaimJoined
import GoSem.ClaimMapViews
import Derived.JoinedTies
import Derived.KernelRfl
namespace Go.Proofs.Ytbecdckdbeoomaa
/- THE CELL 'sum', in the pinned program and in every row, IS THE sha256 OF THE DUMP (.gsa) THAT YtbecdckdbeoomaaProg.lean LOADS. Nothing in Lean hashes anything: it is a label: what it is worth is what the hold of that sum in a sandbox is worth. -/
noncomputable def Try.pinned : Pinned := { name := "ytbecdckdbeoomaa", sum := "f359f76e6cbe294426c15615e64e487ad7fbd1315568367adeea0dff6c6ed781", checked := Try.checked }
namespace Rows
def none {H : Type} : Left H := { results := [], args := [] }

/-- 'laws.FnExactStepsOfWalk': WHATEVER THE INPUT: true; the input reads as it did. -/
def fnExactStepsOfWalkSpec : ChangeSpec := { name := "fnExactStepsOfWalk", fn := fun _ => fun
  | [d1, d2, d3] => { results := [.lit (.bool true)], args := [d1, d2, d3] }
  | _ => none }
def fnExactStepsOfWalkRow : OpenClaim := { program := "ytbecdckdbeoomaa", sum := "f359f76e6cbe294426c15615e64e487ad7fbd1315568367adeea0dff6c6ed781", func := "loop.example/g01239/laws.FnExactStepsOfWalk", spec := "fnExactStepsOfWalk", recurses := true, apart := false }
def FnExactStepsOfWalkSaid : Prop := fnExactStepsOfWalkRow.holds Try.pinned (OpenSpec.ofChange fnExactStepsOfWalkSpec)

/-- ITS FALSE NEIGHBOUR: 'it returns false'. Refute it at one input. -/
def fnExactStepsOfWalkWrong : ChangeSpec := { name := "fnExactStepsOfWalk", fn := fun _ => fun
  | [d1, d2, d3] => { results := [.lit (.bool false)], args := [d1, d2, d3] }
  | _ => none }
def FnExactStepsOfWalkWrongFalsely : Prop := fnExactStepsOfWalkRow.holds Try.pinned (OpenSpec.ofChange fnExactStepsOfWalkWrong)

/-- 'laws.FnExactTurnTail': WHATEVER THE INPUT: true; the input reads as it did. -/
def fnExactTurnTailSpec : ChangeSpec := { name := "fnExactTurnTail", fn := fun _ => fun
  | [d1, d2, d3, d4] => { results := [.lit (.bool true)], args := [d1, d2, d3, d4] }
  | _ => none }
def fnExactTurnTailRow : OpenClaim := { program := "ytbecdckdbeoomaa", sum := "f359f76e6cbe294426c15615e64e487ad7fbd1315568367adeea0dff6c6ed781", func := "loop.example/g01239/laws.FnExactTurnTail", spec := "fnExactTurnTail", recurses := true, apart := false }
def FnExactTurnTailSaid : Prop := fnExactTurnTailRow.holds Try.pinned (OpenSpec.ofChange fnExactTurnTailSpec)

/-- ITS FALSE NEIGHBOUR: 'it returns false'. Refute it at one input. -/
def fnExactTurnTailWrong : ChangeSpec := { name := "fnExactTurnTail", fn := fun _ => fun
  | [d1, d2, d3, d4] => { results := [.lit (.bool false)], args := [d1, d2, d3, d4] }
  | _ => none }
def FnExactTurnTailWrongFalsely : Prop := fnExactTurnTailRow.holds Try.pinned (OpenSpec.ofChange fnExactTurnTailWrong)

/-- 'laws.FnExactCountJoins': WHATEVER THE INPUT: true; the input reads as it did. -/
def fnExactCountJoinsSpec : ChangeSpec := { name := "fnExactCountJoins", fn := fun _ => fun
  | [d1, d2, d3, d4] => { results := [.lit (.bool true)], args := [d1, d2, d3, d4] }
  | _ => none }
def fnExactCountJoinsRow : OpenClaim := { program := "ytbecdckdbeoomaa", sum := "f359f76e6cbe294426c15615e64e487ad7fbd1315568367adeea0dff6c6ed781", func := "loop.example/g01239/laws.FnExactCountJoins", spec := "fnExactCountJoins", recurses := true, apart := false }
def FnExactCountJoinsSaid : Prop := fnExactCountJoinsRow.holds Try.pinned (OpenSpec.ofChange fnExactCountJoinsSpec)

/-- ITS FALSE NEIGHBOUR: 'it returns false'. Refute it at one input. -/
def fnExactCountJoinsWrong : ChangeSpec := { name := "fnExactCountJoins", fn := fun _ => fun
  | [d1, d2, d3, d4] => { results := [.lit (.bool false)], args := [d1, d2, d3, d4] }
  | _ => none }
def FnExactCountJoinsWrongFalsely : Prop := fnExactCountJoinsRow.holds Try.pinned (OpenSpec.ofChange fnExactCountJoinsWrong)

/-- 'laws.FnExactIsFarPainting': WHATEVER THE INPUT: true; the input reads as it did. -/
def fnExactIsFarPaintingSpec : ChangeSpec := { name := "fnExactIsFarPainting", fn := fun _ => fun
  | [d1, d2, d3] => { results := [.lit (.bool true)], args := [d1, d2, d3] }
  | _ => none }
def fnExactIsFarPaintingRow : OpenClaim := { program := "ytbecdckdbeoomaa", sum := "f359f76e6cbe294426c15615e64e487ad7fbd1315568367adeea0dff6c6ed781", func := "loop.example/g01239/laws.FnExactIsFarPainting", spec := "fnExactIsFarPainting", recurses := true, apart := false }
def FnExactIsFarPaintingSaid : Prop := fnExactIsFarPaintingRow.holds Try.pinned (OpenSpec.ofChange fnExactIsFarPaintingSpec)

/-- ITS FALSE NEIGHBOUR: 'it returns false'. Refute it at one input. -/
def fnExactIsFarPaintingWrong : ChangeSpec := { name := "fnExactIsFarPainting", fn := fun _ => fun
  | [d1, d2, d3] => { results := [.lit (.bool false)], args := [d1, d2, d3] }
  | _ => none }
def FnExactIsFarPaintingWrongFalsely : Prop := fnExactIsFarPaintingRow.holds Try.pinned (OpenSpec.ofChange fnExactIsFarPaintingWrong)

/-- 'laws.FnExactChainWalks': WHATEVER THE INPUT: true; the input reads as it did. -/
def fnExactChainWalksSpec : ChangeSpec := { name := "fnExactChainWalks", fn := fun _ => fun
  | [d1, d2, d3, d4] => { results := [.lit (.bool true)], args := [d1, d2, d3, d4] }
  | _ => none }
def fnExactChainWalksRow : OpenClaim := { program := "ytbecdckdbeoomaa", sum := "f359f76e6cbe294426c15615e64e487ad7fbd1315568367adeea0dff6c6ed781", func := "loop.example/g01239/laws.FnExactChainWalks", spec := "fnExactChainWalks", recurses := true, apart := false }
def FnExactChainWalksSaid : Prop := fnExactChainWalksRow.holds Try.pinned (OpenSpec.ofChange fnExactChainWalksSpec)

/-- ITS FALSE NEIGHBOUR: 'it returns false'. Refute it at one input. -/
def fnExactChainWalksWrong : ChangeSpec := { name := "fnExactChainWalks", fn := fun _ => fun
  | [d1, d2, d3, d4] => { results := [.lit (.bool false)], args := [d1, d2, d3, d4] }
  | _ => none }
def FnExactChainWalksWrongFalsely : Prop := fnExactChainWalksRow.holds Try.pinned (OpenSpec.ofChange fnExactChainWalksWrong)

/-- 'laws.FnExactWalkOfSteps': WHATEVER THE INPUT: true; the input reads as it did. -/
def fnExactWalkOfStepsSpec : ChangeSpec := { name := "fnExactWalkOfSteps", fn := fun _ => fun
  | [d1, d2, d3, d4] => { results := [.lit (.bool true)], args := [d1, d2, d3, d4] }
  | _ => none }
def fnExactWalkOfStepsRow : OpenClaim := { program := "ytbecdckdbeoomaa", sum := "f359f76e6cbe294426c15615e64e487ad7fbd1315568367adeea0dff6c6ed781", func := "loop.example/g01239/laws.FnExactWalkOfSteps", spec := "fnExactWalkOfSteps", recurses := true, apart := false }
def FnExactWalkOfStepsSaid : Prop := fnExactWalkOfStepsRow.holds Try.pinned (OpenSpec.ofChange fnExactWalkOfStepsSpec)

/-- ITS FALSE NEIGHBOUR: 'it returns false'. Refute it at one input. -/
def fnExactWalkOfStepsWrong : ChangeSpec := { name := "fnExactWalkOfSteps", fn := fun _ => fun
  | [d1, d2, d3, d4] => { results := [.lit (.bool false)], args := [d1, d2, d3, d4] }
  | _ => none }
def FnExactWalkOfStepsWrongFalsely : Prop := fnExactWalkOfStepsRow.holds Try.pinned (OpenSpec.ofChange fnExactWalkOfStepsWrong)

/-- 'laws.FnExactIsRoute': WHATEVER THE INPUT: true; the input reads as it did. -/
def fnExactIsRouteSpec : ChangeSpec := { name := "fnExactIsRoute", fn := fun _ => fun
  | [d1, d2, d3] => { results := [.lit (.bool true)], args := [d1, d2, d3] }
  | _ => none }
def fnExactIsRouteRow : OpenClaim := { program := "ytbecdckdbeoomaa", sum := "f359f76e6cbe294426c15615e64e487ad7fbd1315568367adeea0dff6c6ed781", func := "loop.example/g01239/laws.FnExactIsRoute", spec := "fnExactIsRoute", recurses := true, apart := false }
def FnExactIsRouteSaid : Prop := fnExactIsRouteRow.holds Try.pinned (OpenSpec.ofChange fnExactIsRouteSpec)

/-- ITS FALSE NEIGHBOUR: 'it returns false'. Refute it at one input. -/
def fnExactIsRouteWrong : ChangeSpec := { name := "fnExactIsRoute", fn := fun _ => fun
  | [d1, d2, d3] => { results := [.lit (.bool false)], args := [d1, d2, d3] }
  | _ => none }
def FnExactIsRouteWrongFalsely : Prop := fnExactIsRouteRow.holds Try.pinned (OpenSpec.ofChange fnExactIsRouteWrong)

/-- 'laws.FnExactDoLeapsCross': WHATEVER THE INPUT: true; the input reads as it did. -/
def fnExactDoLeapsCrossSpec : ChangeSpec := { name := "fnExactDoLeapsCross", fn := fun _ => fun
  | [d1, d2, d3, d4] => { results := [.lit (.bool true)], args := [d1, d2, d3, d4] }
  | _ => none }
def fnExactDoLeapsCrossRow : OpenClaim := { program := "ytbecdckdbeoomaa", sum := "f359f76e6cbe294426c15615e64e487ad7fbd1315568367adeea0dff6c6ed781", func := "loop.example/g01239/laws.FnExactDoLeapsCross", spec := "fnExactDoLeapsCross", unfollowed := true, recurses := true, apart := false }
def FnExactDoLeapsCrossSaid : Prop := fnExactDoLeapsCrossRow.holds Try.pinned (OpenSpec.ofChange fnExactDoLeapsCrossSpec)

/-- ITS FALSE NEIGHBOUR: 'it returns false'. Refute it at one input. -/
def fnExactDoLeapsCrossWrong : ChangeSpec := { name := "fnExactDoLeapsCross", fn := fun _ => fun
  | [d1, d2, d3, d4] => { results := [.lit (.bool false)], args := [d1, d2, d3, d4] }
  | _ => none }
def FnExactDoLeapsCrossWrongFalsely : Prop := fnExactDoLeapsCrossRow.holds Try.pinned (OpenSpec.ofChange fnExactDoLeapsCrossWrong)

/-- 'laws.FnExactCountCrossings': WHATEVER THE INPUT: true; the input reads as it did. -/
def fnExactCountCrossingsSpec : ChangeSpec := { name := "fnExactCountCrossings", fn := fun _ => fun
  | [d1, d2, d3] => { results := [.lit (.bool true)], args := [d1, d2, d3] }
  | _ => none }
def fnExactCountCrossingsRow : OpenClaim := { program := "ytbecdckdbeoomaa", sum := "f359f76e6cbe294426c15615e64e487ad7fbd1315568367adeea0dff6c6ed781", func := "loop.example/g01239/laws.FnExactCountCrossings", spec := "fnExactCountCrossings", unfollowed := true, recurses := true, apart := false }
def FnExactCountCrossingsSaid : Prop := fnExactCountCrossingsRow.holds Try.pinned (OpenSpec.ofChange fnExactCountCrossingsSpec)

/-- ITS FALSE NEIGHBOUR: 'it returns false'. Refute it at one input. -/
def fnExactCountCrossingsWrong : ChangeSpec := { name := "fnExactCountCrossings", fn := fun _ => fun
  | [d1, d2, d3] => { results := [.lit (.bool false)], args := [d1, d2, d3] }
  | _ => none }
def FnExactCountCrossingsWrongFalsely : Prop := fnExactCountCrossingsRow.holds Try.pinned (OpenSpec.ofChange fnExactCountCrossingsWrong)

/- THE SECOND FORM. 'bulk': how many values and letters a reading holds, each counted each time it is reached (what is shared counts as often as it is met; a slice's spare places count too). A statement '..UptoSaid' is the law's where the arguments, and the package variables that the reading takes, are together of bulk at most 1048576: NARROWER than '..Said'. Prove '..Said' where nothing that the law and all that it calls make is longer than what came in: it says more and counts as full. Else prove '..UptoSaid'. A law counts once. -/
mutual
def uptoBulk {H : Type} : DataW H → Nat
  | .lit (.string bytes) => bytes.length + 1
  | .lit _ => 1
  | .nil => 1
  | .ptr d => uptoBulk d + 1
  | .slice elems spare => uptoBulkAll elems + uptoBulkAll spare + 1
  | .agg parts => uptoBulkAll parts + 1
  | .iface _ d => uptoBulk d + 1
  | .map entries => uptoBulkEntries entries + 1
  | .held _ => 1
def uptoBulkAll {H : Type} : List (DataW H) → Nat
  | [] => 0
  | d :: r => uptoBulk d + uptoBulkAll r
def uptoBulkEntries {H : Type} : List (Lit × DataW H) → Nat
  | [] => 0
  | x :: r => uptoBulkEntry x + uptoBulkEntries r
def uptoBulkEntry {H : Type} : Lit × DataW H → Nat
  | (.string bytes, d) => bytes.length + uptoBulk d + 1
  | (_, d) => uptoBulk d + 1
 end
def uptoSmall : (H : Type) → List (DataW H) → Bool := fun _ ds => decide (uptoBulkAll ds ≤ 1048576)
def OpenSpec.upto (s : _root_.Go.ChangeSpec) : _root_.Go.OpenSpec := { _root_.Go.OpenSpec.ofChange s with cond := some uptoSmall }

/-- 'laws.FnExactStepsOfWalk', WHERE WHAT IT READS IS OF BULK AT MOST 1048576: true; the input reads as it did. -/
def fnExactStepsOfWalkUptoRow : OpenClaim := { program := "ytbecdckdbeoomaa", sum := "f359f76e6cbe294426c15615e64e487ad7fbd1315568367adeea0dff6c6ed781", func := "loop.example/g01239/laws.FnExactStepsOfWalk", spec := "fnExactStepsOfWalk", recurses := true, apart := false, narrowed := true }
def FnExactStepsOfWalkUptoSaid : Prop := fnExactStepsOfWalkUptoRow.holds Try.pinned (OpenSpec.upto fnExactStepsOfWalkSpec)

/-- 'laws.FnExactTurnTail', WHERE WHAT IT READS IS OF BULK AT MOST 1048576: true; the input reads as it did. -/
def fnExactTurnTailUptoRow : OpenClaim := { program := "ytbecdckdbeoomaa", sum := "f359f76e6cbe294426c15615e64e487ad7fbd1315568367adeea0dff6c6ed781", func := "loop.example/g01239/laws.FnExactTurnTail", spec := "fnExactTurnTail", recurses := true, apart := false, narrowed := true }
def FnExactTurnTailUptoSaid : Prop := fnExactTurnTailUptoRow.holds Try.pinned (OpenSpec.upto fnExactTurnTailSpec)

/-- 'laws.FnExactCountJoins', WHERE WHAT IT READS IS OF BULK AT MOST 1048576: true; the input reads as it did. -/
def fnExactCountJoinsUptoRow : OpenClaim := { program := "ytbecdckdbeoomaa", sum := "f359f76e6cbe294426c15615e64e487ad7fbd1315568367adeea0dff6c6ed781", func := "loop.example/g01239/laws.FnExactCountJoins", spec := "fnExactCountJoins", recurses := true, apart := false, narrowed := true }
def FnExactCountJoinsUptoSaid : Prop := fnExactCountJoinsUptoRow.holds Try.pinned (OpenSpec.upto fnExactCountJoinsSpec)

/-- 'laws.FnExactIsFarPainting', WHERE WHAT IT READS IS OF BULK AT MOST 1048576: true; the input reads as it did. -/
def fnExactIsFarPaintingUptoRow : OpenClaim := { program := "ytbecdckdbeoomaa", sum := "f359f76e6cbe294426c15615e64e487ad7fbd1315568367adeea0dff6c6ed781", func := "loop.example/g01239/laws.FnExactIsFarPainting", spec := "fnExactIsFarPainting", recurses := true, apart := false, narrowed := true }
def FnExactIsFarPaintingUptoSaid : Prop := fnExactIsFarPaintingUptoRow.holds Try.pinned (OpenSpec.upto fnExactIsFarPaintingSpec)

/-- 'laws.FnExactChainWalks', WHERE WHAT IT READS IS OF BULK AT MOST 1048576: true; the input reads as it did. -/
def fnExactChainWalksUptoRow : OpenClaim := { program := "ytbecdckdbeoomaa", sum := "f359f76e6cbe294426c15615e64e487ad7fbd1315568367adeea0dff6c6ed781", func := "loop.example/g01239/laws.FnExactChainWalks", spec := "fnExactChainWalks", recurses := true, apart := false, narrowed := true }
def FnExactChainWalksUptoSaid : Prop := fnExactChainWalksUptoRow.holds Try.pinned (OpenSpec.upto fnExactChainWalksSpec)

/-- 'laws.FnExactWalkOfSteps', WHERE WHAT IT READS IS OF BULK AT MOST 1048576: true; the input reads as it did. -/
def fnExactWalkOfStepsUptoRow : OpenClaim := { program := "ytbecdckdbeoomaa", sum := "f359f76e6cbe294426c15615e64e487ad7fbd1315568367adeea0dff6c6ed781", func := "loop.example/g01239/laws.FnExactWalkOfSteps", spec := "fnExactWalkOfSteps", recurses := true, apart := false, narrowed := true }
def FnExactWalkOfStepsUptoSaid : Prop := fnExactWalkOfStepsUptoRow.holds Try.pinned (OpenSpec.upto fnExactWalkOfStepsSpec)

/-- 'laws.FnExactIsRoute', WHERE WHAT IT READS IS OF BULK AT MOST 1048576: true; the input reads as it did. -/
def fnExactIsRouteUptoRow : OpenClaim := { program := "ytbecdckdbeoomaa", sum := "f359f76e6cbe294426c15615e64e487ad7fbd1315568367adeea0dff6c6ed781", func := "loop.example/g01239/laws.FnExactIsRoute", spec := "fnExactIsRoute", recurses := true, apart := false, narrowed := true }
def FnExactIsRouteUptoSaid : Prop := fnExactIsRouteUptoRow.holds Try.pinned (OpenSpec.upto fnExactIsRouteSpec)

/-- 'laws.FnExactDoLeapsCross', WHERE WHAT IT READS IS OF BULK AT MOST 1048576: true; the input reads as it did. -/
def fnExactDoLeapsCrossUptoRow : OpenClaim := { program := "ytbecdckdbeoomaa", sum := "f359f76e6cbe294426c15615e64e487ad7fbd1315568367adeea0dff6c6ed781", func := "loop.example/g01239/laws.FnExactDoLeapsCross", spec := "fnExactDoLeapsCross", unfollowed := true, recurses := true, apart := false, narrowed := true }
def FnExactDoLeapsCrossUptoSaid : Prop := fnExactDoLeapsCrossUptoRow.holds Try.pinned (OpenSpec.upto fnExactDoLeapsCrossSpec)

/-- 'laws.FnExactCountCrossings', WHERE WHAT IT READS IS OF BULK AT MOST 1048576: true; the input reads as it did. -/
def fnExactCountCrossingsUptoRow : OpenClaim := { program := "ytbecdckdbeoomaa", sum := "f359f76e6cbe294426c15615e64e487ad7fbd1315568367adeea0dff6c6ed781", func := "loop.example/g01239/laws.FnExactCountCrossings", spec := "fnExactCountCrossings", unfollowed := true, recurses := true, apart := false, narrowed := true }
def FnExactCountCrossingsUptoSaid : Prop := fnExactCountCrossingsUptoRow.holds Try.pinned (OpenSpec.upto fnExactCountCrossingsSpec)

end Rows
end Go.Proofs.Ytbecdckdbeoomaa

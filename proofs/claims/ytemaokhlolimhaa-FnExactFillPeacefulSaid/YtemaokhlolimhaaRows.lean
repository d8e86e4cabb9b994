/-
  No cell of these rows narrows 'for every input' (looked for: loops, veiled, ifaces, maps, wideKeys, modest, calm, conditions, laid).
  DERIVED. THE GIVEN ROWS OF THIS SEAT. 4 by the template 'for every input the law returns true; each argument reads behind the call as it read before'; 0 by the template 'total and deterministic' (their statements: YtemaokhlolimhaaTotals.lean).
  GIVEN WITH THE SEED: the statements are not yours to turn. If you find one false, say at which input.
  Laid BY PROGRAM, IN A SANDBOX (cutbox-rows.mjs): the forced cells as the released guide's own fill.sh prints them over the translation f129f6cbb9081994… (all of the seat's roots in one cut). By AI agents, Wed Nov 11 2026. No macro, syntax, notation, axiom, sorry.
-/
import Derived.Test.YtemaokhlolimhaaChecked
import GoSem.Claim
import GoSem.ClaimJoined
import GoSem.ClaimMapViews
import Derived.JoinedTies
import Derived.KernelRfl
namespace Go.Proofs.Ytemaokhlolimhaa
/- THE CELL 'sum', in the pinned program and in every row, IS THE sha256 OF THE DUMP (.gsa) THAT YtemaokhlolimhaaProg.lean LOADS. Nothing in Lean hashes anything: it is a label: what it is worth is what the hold of that sum in a sandbox is worth. -/
noncomputable def Try.pinned : Pinned := { name := "ytemaokhlolimhaa", sum := "f129f6cbb9081994ef36818146f9c8dab9bdaa9364bbeab0ee9c825a34f641df", checked := Try.checked }
namespace Rows
def none {H : Type} : Left H := { results := [], args := [] }

/-- 'laws.FnExactForcedLeaps': WHATEVER THE INPUT: true; the input reads as it did. -/
def fnExactForcedLeapsSpec : ChangeSpec := { name := "fnExactForcedLeaps", fn := fun _ => fun
  | [d1, d2] => { results := [.lit (.bool true)], args := [d1, d2] }
  | _ => none }
def fnExactForcedLeapsRow : OpenClaim := { program := "ytemaokhlolimhaa", sum := "f129f6cbb9081994ef36818146f9c8dab9bdaa9364bbeab0ee9c825a34f641df", func := "loop.example/g01239/laws.FnExactForcedLeaps", spec := "fnExactForcedLeaps", recurses := true, apart := false }
def FnExactForcedLeapsSaid : Prop := fnExactForcedLeapsRow.holds Try.pinned (OpenSpec.ofChange fnExactForcedLeapsSpec)

/-- ITS FALSE NEIGHBOUR: 'it returns false'. Refute it at one input. -/
def fnExactForcedLeapsWrong : ChangeSpec := { name := "fnExactForcedLeaps", fn := fun _ => fun
  | [d1, d2] => { results := [.lit (.bool false)], args := [d1, d2] }
  | _ => none }
def FnExactForcedLeapsWrongFalsely : Prop := fnExactForcedLeapsRow.holds Try.pinned (OpenSpec.ofChange fnExactForcedLeapsWrong)

/-- 'laws.FnExactFillPeaceful': WHATEVER THE INPUT: true; the input reads as it did. -/
def fnExactFillPeacefulSpec : ChangeSpec := { name := "fnExactFillPeaceful", fn := fun _ => fun
  | [d1, d2, d3] => { results := [.lit (.bool true)], args := [d1, d2, d3] }
  | _ => none }
def fnExactFillPeacefulRow : OpenClaim := { program := "ytemaokhlolimhaa", sum := "f129f6cbb9081994ef36818146f9c8dab9bdaa9364bbeab0ee9c825a34f641df", func := "loop.example/g01239/laws.FnExactFillPeaceful", spec := "fnExactFillPeaceful", recurses := true, apart := false }
def FnExactFillPeacefulSaid : Prop := fnExactFillPeacefulRow.holds Try.pinned (OpenSpec.ofChange fnExactFillPeacefulSpec)

/-- ITS FALSE NEIGHBOUR: 'it returns false'. Refute it at one input. -/
def fnExactFillPeacefulWrong : ChangeSpec := { name := "fnExactFillPeaceful", fn := fun _ => fun
  | [d1, d2, d3] => { results := [.lit (.bool false)], args := [d1, d2, d3] }
  | _ => none }
def FnExactFillPeacefulWrongFalsely : Prop := fnExactFillPeacefulRow.holds Try.pinned (OpenSpec.ofChange fnExactFillPeacefulWrong)

/-- 'laws.FnExactDoLeapsCross': WHATEVER THE INPUT: true; the input reads as it did. -/
def fnExactDoLeapsCrossSpec : ChangeSpec := { name := "fnExactDoLeapsCross", fn := fun _ => fun
  | [d1, d2, d3, d4] => { results := [.lit (.bool true)], args := [d1, d2, d3, d4] }
  | _ => none }
def fnExactDoLeapsCrossRow : OpenClaim := { program := "ytemaokhlolimhaa", sum := "f129f6cbb9081994ef36818146f9c8dab9bdaa9364bbeab0ee9c825a34f641df", func := "loop.example/g01239/laws.FnExactDoLeapsCross", spec := "fnExactDoLeapsCross", unfollowed := true, recurses := true, apart := false }
def FnExactDoLeapsCrossSaid : Prop := fnExactDoLeapsCrossRow.holds Try.pinned (OpenSpec.ofChange fnExactDoLeapsCrossSpec)

/-- ITS FALSE NEIGHBOUR: 'it returns false'. Refute it at one input. -/
def fnExactDoLeapsCrossWrong : ChangeSpec := { name := "fnExactDoLeapsCross", fn := fun _ => fun
  | [d1, d2, d3, d4] => { results := [.lit (.bool false)], args := [d1, d2, d3, d4] }
  | _ => none }
def FnExactDoLeapsCrossWrongFalsely : Prop := fnExactDoLeapsCrossRow.holds Try.pinned (OpenSpec.ofChange fnExactDoLeapsCrossWrong)

/-- 'laws.FnExactCountCrossings': WHATEVER THE INPUT: true; the input reads as it did. -/
def fnExactCountCrossingsSpec : ChangeSpec := { name := "fnExactCountCrossings", fn := fun _ => fun
  | [d1, d2, d3] => { results := [.lit (.bool true)], args := [d1, d2, d3] }
  | _ => none }
def fnExactCountCrossingsRow : OpenClaim := { program := "ytemaokhlolimhaa", sum := "f129f6cbb9081994ef36818146f9c8dab9bdaa9364bbeab0ee9c825a34f641df", func := "loop.example/g01239/laws.FnExactCountCrossings", spec := "fnExactCountCrossings", unfollowed := true, recurses := true, apart := false }
def FnExactCountCrossingsSaid : Prop := fnExactCountCrossingsRow.holds Try.pinned (OpenSpec.ofChange fnExactCountCrossingsSpec)

/-- ITS FALSE NEIGHBOUR: 'it returns false'. Refute it at one input. -/
def fnExactCountCrossingsWrong : ChangeSpec := { name := "fnExactCountCrossings", fn := fun _ => fun
  | [d1, d2, d3] => { results := [.lit (.bool false)], args := [d1, d2, d3] }
  | _ => none }
def FnExactCountCrossingsWrongFalsely : Prop := fnExactCountCrossingsRow.holds Try.pinned (OpenSpec.ofChange fnExactCountCrossingsWrong)

/- THE SECOND FORM. 'bulk': how many values and letters a reading holds, each counted each time it is reached (what is shared counts as often as it is met; a slice's spare places count too). A statement '..UptoSaid' is the law's where the arguments, and the package variables that the reading takes, are together of bulk at most 1048576: NARROWER than '..Said'. Prove '..Said' where nothing that the law and all that it calls make is longer than what came in: it says more and counts as full. Else prove '..UptoSaid'. A law counts once. -/
mutual
def uptoBulk {H : Type} : DataW H → Nat
  | .lit (.string bytes) => bytes.length + 1
  | .lit _ => 1
  | .nil => 1
  | .ptr d => uptoBulk d + 1
  | .slice elems spare => uptoBulkAll elems + uptoBulkAll spare + 1
  | .agg parts => uptoBulkAll parts + 1
  | .iface _ d => uptoBulk d + 1
  | .map entries => uptoBulkEntries entries + 1
  | .held _ => 1
def uptoBulkAll {H : Type} : List (DataW H) → Nat
  | [] => 0
  | d :: r => uptoBulk d + uptoBulkAll r
def uptoBulkEntries {H : Type} : List (Lit × DataW H) → Nat
  | [] => 0
  | x :: r => uptoBulkEntry x + uptoBulkEntries r
def uptoBulkEntry {H : Type} : Lit × DataW H → Nat
  | (.string bytes, d) => bytes.length + uptoBulk d + 1
  | (_, d) => uptoBulk d + 1
 end
def uptoSmall : (H : Type) → List (DataW H) → Bool := fun _ ds => decide (uptoBulkAll ds ≤ 1048576)
def OpenSpec.upto (s : _root_.Go.ChangeSpec) : _root_.Go.OpenSpec := { _root_.Go.OpenSpec.ofChange s with cond := some uptoSmall }

/-- 'laws.FnExactForcedLeaps', WHERE WHAT IT READS IS OF BULK AT MOST 1048576: true; the input reads as it did. -/
def fnExactForcedLeapsUptoRow : OpenClaim := { program := "ytemaokhlolimhaa", sum := "f129f6cbb9081994ef36818146f9c8dab9bdaa9364bbeab0ee9c825a34f641df", func := "loop.example/g01239/laws.FnExactForcedLeaps", spec := "fnExactForcedLeaps", recurses := true, apart := false, narrowed := true }
def FnExactForcedLeapsUptoSaid : Prop := fnExactForcedLeapsUptoRow.holds Try.pinned (OpenSpec.upto fnExactForcedLeapsSpec)

/-- 'laws.FnExactFillPeaceful', WHERE WHAT IT READS IS OF BULK AT MOST 1048576: true; the input reads as it did. -/
def fnExactFillPeacefulUptoRow : OpenClaim := { program := "ytemaokhlolimhaa", sum := "f129f6cbb9081994ef36818146f9c8dab9bdaa9364bbeab0ee9c825a34f641df", func := "loop.example/g01239/laws.FnExactFillPeaceful", spec := "fnExactFillPeaceful", recurses := true, apart := false, narrowed := true }
def FnExactFillPeacefulUptoSaid : Prop := fnExactFillPeacefulUptoRow.holds Try.pinned (OpenSpec.upto fnExactFillPeacefulSpec)

/-- 'laws.FnExactDoLeapsCross', WHERE WHAT IT READS IS OF BULK AT MOST 1048576: true; the input reads as it did. -/
def fnExactDoLeapsCrossUptoRow : OpenClaim := { program := "ytemaokhlolimhaa", sum := "f129f6cbb9081994ef36818146f9c8dab9bdaa9364bbeab0ee9c825a34f641df", func := "loop.example/g01239/laws.FnExactDoLeapsCross", spec := "fnExactDoLeapsCross", unfollowed := true, recurses := true, apart := false, narrowed := true }
def FnExactDoLeapsCrossUptoSaid : Prop := fnExactDoLeapsCrossUptoRow.holds Try.pinned (OpenSpec.upto fnExactDoLeapsCrossSpec)

/-- 'laws.FnExactCountCrossings', WHERE WHAT IT READS IS OF BULK AT MOST 1048576: true; the input reads as it did. -/
def fnExactCountCrossingsUptoRow : OpenClaim := { program := "ytemaokhlolimhaa", sum := "f129f6cbb9081994ef36818146f9c8dab9bdaa9364bbeab0ee9c825a34f641df", func := "loop.example/g01239/laws.FnExactCountCrossings", spec := "fnExactCountCrossings", unfollowed := true, recurses := true, apart := false, narrowed := true }
def FnExactCountCrossingsUptoSaid : Prop := fnExactCountCrossingsUptoRow.holds Try.pinned (OpenSpec.upto fnExactCountCrossingsSpec)

end Rows
end Go.Proofs.Ytemaokhlolimhaa

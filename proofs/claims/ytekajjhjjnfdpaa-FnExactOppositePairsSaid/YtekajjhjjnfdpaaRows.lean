/-
  No cell of these rows narrows 'for every input' (looked for: loops, veiled, ifaces, maps, wideKeys, modest, calm, conditions, laid).
  DERIVED. THE GIVEN ROWS OF THIS SEAT. 12 by the template 'for every input the law returns true; each argument reads behind the call as it read before'; 0 by the template 'total and deterministic' (their statements: YtekajjhjjnfdpaaTotals.lean).
  GIVEN WITH THE SEED: the statements are not yours to turn. If you find one false, say at which input.
  Laid BY PROGRAM, IN A SANDBOX (cutbox-rows.mjs): the forced cells as the released guide's own fill.sh prints them over the translation cfa8c2bd2c6f8a88… (all of the seat's roots in one cut). By AI agents, Wed Nov 11 2026. No macro, syntax, notation, axiom, sorry.
-/
import Derived.Test.YtekajjhjjnfdpaaChecked
import GoSem.Claim
import GoSem.ClaimJoined
import GoSem.ClaimMapViews
import Derived.JoinedTies
import Derived.KernelRfl
namespace Go.Proofs.Ytekajjhjjnfdpaa
/- THE CELL 'sum', in the pinned program and in every row, IS THE sha256 OF THE DUMP (.gsa) THAT YtekajjhjjnfdpaaProg.lean LOADS. Nothing in Lean hashes anything: it is a label: what it is worth is what the hold of that sum in a sandbox is worth. -/
noncomputable def Try.pinned : Pinned := { name := "ytekajjhjjnfdpaa", sum := "cfa8c2bd2c6f8a883f309d7c3f57f63aa5e11d90360c2ad740c0754604fbaf2a", checked := Try.checked }
namespace Rows
def none {H : Type} : Left H := { results := [], args := [] }

/-- 'laws.FnExactLeapsFrom': WHATEVER THE INPUT: true; the input reads as it did. -/
def fnExactLeapsFromSpec : ChangeSpec := { name := "fnExactLeapsFrom", fn := fun _ => fun
  | [d1, d2, d3] => { results := [.lit (.bool true)], args := [d1, d2, d3] }
  | _ => none }
def fnExactLeapsFromRow : OpenClaim := { program := "ytekajjhjjnfdpaa", sum := "cfa8c2bd2c6f8a883f309d7c3f57f63aa5e11d90360c2ad740c0754604fbaf2a", func := "loop.example/g01239/laws.FnExactLeapsFrom", spec := "fnExactLeapsFrom", recurses := true, apart := false }
def FnExactLeapsFromSaid : Prop := fnExactLeapsFromRow.holds Try.pinned (OpenSpec.ofChange fnExactLeapsFromSpec)

/-- ITS FALSE NEIGHBOUR: 'it returns false'. Refute it at one input. -/
def fnExactLeapsFromWrong : ChangeSpec := { name := "fnExactLeapsFrom", fn := fun _ => fun
  | [d1, d2, d3] => { results := [.lit (.bool false)], args := [d1, d2, d3] }
  | _ => none }
def FnExactLeapsFromWrongFalsely : Prop := fnExactLeapsFromRow.holds Try.pinned (OpenSpec.ofChange fnExactLeapsFromWrong)

/-- 'laws.FnExactArePeaceful': WHATEVER THE INPUT: true; the input reads as it did. -/
def fnExactArePeacefulSpec : ChangeSpec := { name := "fnExactArePeaceful", fn := fun _ => fun
  | [d1, d2, d3] => { results := [.lit (.bool true)], args := [d1, d2, d3] }
  | _ => none }
def fnExactArePeacefulRow : OpenClaim := { program := "ytekajjhjjnfdpaa", sum := "cfa8c2bd2c6f8a883f309d7c3f57f63aa5e11d90360c2ad740c0754604fbaf2a", func := "loop.example/g01239/laws.FnExactArePeaceful", spec := "fnExactArePeaceful", recurses := true, apart := false }
def FnExactArePeacefulSaid : Prop := fnExactArePeacefulRow.holds Try.pinned (OpenSpec.ofChange fnExactArePeacefulSpec)

/-- ITS FALSE NEIGHBOUR: 'it returns false'. Refute it at one input. -/
def fnExactArePeacefulWrong : ChangeSpec := { name := "fnExactArePeaceful", fn := fun _ => fun
  | [d1, d2, d3] => { results := [.lit (.bool false)], args := [d1, d2, d3] }
  | _ => none }
def FnExactArePeacefulWrongFalsely : Prop := fnExactArePeacefulRow.holds Try.pinned (OpenSpec.ofChange fnExactArePeacefulWrong)

/-- 'laws.FnExactDegreesOf': WHATEVER THE INPUT: true; the input reads as it did. -/
def fnExactDegreesOfSpec : ChangeSpec := { name := "fnExactDegreesOf", fn := fun _ => fun
  | [d1, d2] => { results := [.lit (.bool true)], args := [d1, d2] }
  | _ => none }
def fnExactDegreesOfRow : OpenClaim := { program := "ytekajjhjjnfdpaa", sum := "cfa8c2bd2c6f8a883f309d7c3f57f63aa5e11d90360c2ad740c0754604fbaf2a", func := "loop.example/g01239/laws.FnExactDegreesOf", spec := "fnExactDegreesOf", recurses := true, apart := false }
def FnExactDegreesOfSaid : Prop := fnExactDegreesOfRow.holds Try.pinned (OpenSpec.ofChange fnExactDegreesOfSpec)

/-- ITS FALSE NEIGHBOUR: 'it returns false'. Refute it at one input. -/
def fnExactDegreesOfWrong : ChangeSpec := { name := "fnExactDegreesOf", fn := fun _ => fun
  | [d1, d2] => { results := [.lit (.bool false)], args := [d1, d2] }
  | _ => none }
def FnExactDegreesOfWrongFalsely : Prop := fnExactDegreesOfRow.holds Try.pinned (OpenSpec.ofChange fnExactDegreesOfWrong)

/-- 'laws.FnExactDeadEnds': WHATEVER THE INPUT: true; the input reads as it did. -/
def fnExactDeadEndsSpec : ChangeSpec := { name := "fnExactDeadEnds", fn := fun _ => fun
  | [d1, d2] => { results := [.lit (.bool true)], args := [d1, d2] }
  | _ => none }
def fnExactDeadEndsRow : OpenClaim := { program := "ytekajjhjjnfdpaa", sum := "cfa8c2bd2c6f8a883f309d7c3f57f63aa5e11d90360c2ad740c0754604fbaf2a", func := "loop.example/g01239/laws.FnExactDeadEnds", spec := "fnExactDeadEnds", recurses := true, apart := false }
def FnExactDeadEndsSaid : Prop := fnExactDeadEndsRow.holds Try.pinned (OpenSpec.ofChange fnExactDeadEndsSpec)

/-- ITS FALSE NEIGHBOUR: 'it returns false'. Refute it at one input. -/
def fnExactDeadEndsWrong : ChangeSpec := { name := "fnExactDeadEnds", fn := fun _ => fun
  | [d1, d2] => { results := [.lit (.bool false)], args := [d1, d2] }
  | _ => none }
def FnExactDeadEndsWrongFalsely : Prop := fnExactDeadEndsRow.holds Try.pinned (OpenSpec.ofChange fnExactDeadEndsWrong)

/-- 'laws.FnExactCountPaths': WHATEVER THE INPUT: true; the input reads as it did. -/
def fnExactCountPathsSpec : ChangeSpec := { name := "fnExactCountPaths", fn := fun _ => fun
  | [d1, d2, d3, d4, d5] => { results := [.lit (.bool true)], args := [d1, d2, d3, d4, d5] }
  | _ => none }
def fnExactCountPathsRow : OpenClaim := { program := "ytekajjhjjnfdpaa", sum := "cfa8c2bd2c6f8a883f309d7c3f57f63aa5e11d90360c2ad740c0754604fbaf2a", func := "loop.example/g01239/laws.FnExactCountPaths", spec := "fnExactCountPaths", recurses := true, apart := false }
def FnExactCountPathsSaid : Prop := fnExactCountPathsRow.holds Try.pinned (OpenSpec.ofChange fnExactCountPathsSpec)

/-- ITS FALSE NEIGHBOUR: 'it returns false'. Refute it at one input. -/
def fnExactCountPathsWrong : ChangeSpec := { name := "fnExactCountPaths", fn := fun _ => fun
  | [d1, d2, d3, d4, d5] => { results := [.lit (.bool false)], args := [d1, d2, d3, d4, d5] }
  | _ => none }
def FnExactCountPathsWrongFalsely : Prop := fnExactCountPathsRow.holds Try.pinned (OpenSpec.ofChange fnExactCountPathsWrong)

/-- 'laws.FnExactIsFarPainting': WHATEVER THE INPUT: true; the input reads as it did. -/
def fnExactIsFarPaintingSpec : ChangeSpec := { name := "fnExactIsFarPainting", fn := fun _ => fun
  | [d1, d2, d3] => { results := [.lit (.bool true)], args := [d1, d2, d3] }
  | _ => none }
def fnExactIsFarPaintingRow : OpenClaim := { program := "ytekajjhjjnfdpaa", sum := "cfa8c2bd2c6f8a883f309d7c3f57f63aa5e11d90360c2ad740c0754604fbaf2a", func := "loop.example/g01239/laws.FnExactIsFarPainting", spec := "fnExactIsFarPainting", recurses := true, apart := false }
def FnExactIsFarPaintingSaid : Prop := fnExactIsFarPaintingRow.holds Try.pinned (OpenSpec.ofChange fnExactIsFarPaintingSpec)

/-- ITS FALSE NEIGHBOUR: 'it returns false'. Refute it at one input. -/
def fnExactIsFarPaintingWrong : ChangeSpec := { name := "fnExactIsFarPainting", fn := fun _ => fun
  | [d1, d2, d3] => { results := [.lit (.bool false)], args := [d1, d2, d3] }
  | _ => none }
def FnExactIsFarPaintingWrongFalsely : Prop := fnExactIsFarPaintingRow.holds Try.pinned (OpenSpec.ofChange fnExactIsFarPaintingWrong)

/-- 'laws.FnExactIsClosedWalk': WHATEVER THE INPUT: true; the input reads as it did. -/
def fnExactIsClosedWalkSpec : ChangeSpec := { name := "fnExactIsClosedWalk", fn := fun _ => fun
  | [d1, d2, d3] => { results := [.lit (.bool true)], args := [d1, d2, d3] }
  | _ => none }
def fnExactIsClosedWalkRow : OpenClaim := { program := "ytekajjhjjnfdpaa", sum := "cfa8c2bd2c6f8a883f309d7c3f57f63aa5e11d90360c2ad740c0754604fbaf2a", func := "loop.example/g01239/laws.FnExactIsClosedWalk", spec := "fnExactIsClosedWalk", recurses := true, apart := false }
def FnExactIsClosedWalkSaid : Prop := fnExactIsClosedWalkRow.holds Try.pinned (OpenSpec.ofChange fnExactIsClosedWalkSpec)

/-- ITS FALSE NEIGHBOUR: 'it returns false'. Refute it at one input. -/
def fnExactIsClosedWalkWrong : ChangeSpec := { name := "fnExactIsClosedWalk", fn := fun _ => fun
  | [d1, d2, d3] => { results := [.lit (.bool false)], args := [d1, d2, d3] }
  | _ => none }
def FnExactIsClosedWalkWrongFalsely : Prop := fnExactIsClosedWalkRow.holds Try.pinned (OpenSpec.ofChange fnExactIsClosedWalkWrong)

/-- 'laws.FnExactIsTour': WHATEVER THE INPUT: true; the input reads as it did. -/
def fnExactIsTourSpec : ChangeSpec := { name := "fnExactIsTour", fn := fun _ => fun
  | [d1, d2, d3] => { results := [.lit (.bool true)], args := [d1, d2, d3] }
  | _ => none }
def fnExactIsTourRow : OpenClaim := { program := "ytekajjhjjnfdpaa", sum := "cfa8c2bd2c6f8a883f309d7c3f57f63aa5e11d90360c2ad740c0754604fbaf2a", func := "loop.example/g01239/laws.FnExactIsTour", spec := "fnExactIsTour", recurses := true, apart := false }
def FnExactIsTourSaid : Prop := fnExactIsTourRow.holds Try.pinned (OpenSpec.ofChange fnExactIsTourSpec)

/-- ITS FALSE NEIGHBOUR: 'it returns false'. Refute it at one input. -/
def fnExactIsTourWrong : ChangeSpec := { name := "fnExactIsTour", fn := fun _ => fun
  | [d1, d2, d3] => { results := [.lit (.bool false)], args := [d1, d2, d3] }
  | _ => none }
def FnExactIsTourWrongFalsely : Prop := fnExactIsTourRow.holds Try.pinned (OpenSpec.ofChange fnExactIsTourWrong)

/-- 'laws.FnExactCountByAround': WHATEVER THE INPUT: true; the input reads as it did. -/
def fnExactCountByAroundSpec : ChangeSpec := { name := "fnExactCountByAround", fn := fun _ => fun
  | [d1, d2, d3] => { results := [.lit (.bool true)], args := [d1, d2, d3] }
  | _ => none }
def fnExactCountByAroundRow : OpenClaim := { program := "ytekajjhjjnfdpaa", sum := "cfa8c2bd2c6f8a883f309d7c3f57f63aa5e11d90360c2ad740c0754604fbaf2a", func := "loop.example/g01239/laws.FnExactCountByAround", spec := "fnExactCountByAround", recurses := true, apart := false }
def FnExactCountByAroundSaid : Prop := fnExactCountByAroundRow.holds Try.pinned (OpenSpec.ofChange fnExactCountByAroundSpec)

/-- ITS FALSE NEIGHBOUR: 'it returns false'. Refute it at one input. -/
def fnExactCountByAroundWrong : ChangeSpec := { name := "fnExactCountByAround", fn := fun _ => fun
  | [d1, d2, d3] => { results := [.lit (.bool false)], args := [d1, d2, d3] }
  | _ => none }
def FnExactCountByAroundWrongFalsely : Prop := fnExactCountByAroundRow.holds Try.pinned (OpenSpec.ofChange fnExactCountByAroundWrong)

/-- 'laws.FnExactIsClosedTour': WHATEVER THE INPUT: true; the input reads as it did. -/
def fnExactIsClosedTourSpec : ChangeSpec := { name := "fnExactIsClosedTour", fn := fun _ => fun
  | [d1, d2, d3] => { results := [.lit (.bool true)], args := [d1, d2, d3] }
  | _ => none }
def fnExactIsClosedTourRow : OpenClaim := { program := "ytekajjhjjnfdpaa", sum := "cfa8c2bd2c6f8a883f309d7c3f57f63aa5e11d90360c2ad740c0754604fbaf2a", func := "loop.example/g01239/laws.FnExactIsClosedTour", spec := "fnExactIsClosedTour", recurses := true, apart := false }
def FnExactIsClosedTourSaid : Prop := fnExactIsClosedTourRow.holds Try.pinned (OpenSpec.ofChange fnExactIsClosedTourSpec)

/-- ITS FALSE NEIGHBOUR: 'it returns false'. Refute it at one input. -/
def fnExactIsClosedTourWrong : ChangeSpec := { name := "fnExactIsClosedTour", fn := fun _ => fun
  | [d1, d2, d3] => { results := [.lit (.bool false)], args := [d1, d2, d3] }
  | _ => none }
def FnExactIsClosedTourWrongFalsely : Prop := fnExactIsClosedTourRow.holds Try.pinned (OpenSpec.ofChange fnExactIsClosedTourWrong)

/-- 'laws.FnExactOppositePairs': WHATEVER THE INPUT: true; the input reads as it did. -/
def fnExactOppositePairsSpec : ChangeSpec := { name := "fnExactOppositePairs", fn := fun _ => fun
  | [d1, d2, d3] => { results := [.lit (.bool true)], args := [d1, d2, d3] }
  | _ => none }
def fnExactOppositePairsRow : OpenClaim := { program := "ytekajjhjjnfdpaa", sum := "cfa8c2bd2c6f8a883f309d7c3f57f63aa5e11d90360c2ad740c0754604fbaf2a", func := "loop.example/g01239/laws.FnExactOppositePairs", spec := "fnExactOppositePairs", recurses := true, apart := false }
def FnExactOppositePairsSaid : Prop := fnExactOppositePairsRow.holds Try.pinned (OpenSpec.ofChange fnExactOppositePairsSpec)

/-- ITS FALSE NEIGHBOUR: 'it returns false'. Refute it at one input. -/
def fnExactOppositePairsWrong : ChangeSpec := { name := "fnExactOppositePairs", fn := fun _ => fun
  | [d1, d2, d3] => { results := [.lit (.bool false)], args := [d1, d2, d3] }
  | _ => none }
def FnExactOppositePairsWrongFalsely : Prop := fnExactOppositePairsRow.holds Try.pinned (OpenSpec.ofChange fnExactOppositePairsWrong)

/-- 'laws.FnExactMostPairs': WHATEVER THE INPUT: true; the input reads as it did. -/
def fnExactMostPairsSpec : ChangeSpec := { name := "fnExactMostPairs", fn := fun _ => fun
  | [d1, d2] => { results := [.lit (.bool true)], args := [d1, d2] }
  | _ => none }
def fnExactMostPairsRow : OpenClaim := { program := "ytekajjhjjnfdpaa", sum := "cfa8c2bd2c6f8a883f309d7c3f57f63aa5e11d90360c2ad740c0754604fbaf2a", func := "loop.example/g01239/laws.FnExactMostPairs", spec := "fnExactMostPairs", recurses := true, apart := false }
def FnExactMostPairsSaid : Prop := fnExactMostPairsRow.holds Try.pinned (OpenSpec.ofChange fnExactMostPairsSpec)

/-- ITS FALSE NEIGHBOUR: 'it returns false'. Refute it at one input. -/
def fnExactMostPairsWrong : ChangeSpec := { name := "fnExactMostPairs", fn := fun _ => fun
  | [d1, d2] => { results := [.lit (.bool false)], args := [d1, d2] }
  | _ => none }
def FnExactMostPairsWrongFalsely : Prop := fnExactMostPairsRow.holds Try.pinned (OpenSpec.ofChange fnExactMostPairsWrong)

/- THE SECOND FORM. 'bulk': how many values and letters a reading holds, each counted each time it is reached (what is shared counts as often as it is met; a slice's spare places count too). A statement '..UptoSaid' is the law's where the arguments, and the package variables that the reading takes, are together of bulk at most 1048576: NARROWER than '..Said'. Prove '..Said' where nothing that the law and all that it calls make is longer than what came in: it says more and counts as full. Else prove '..UptoSaid'. A law counts once. -/
mutual
def uptoBulk {H : Type} : DataW H → Nat
  | .lit (.string bytes) => bytes.length + 1
  | .lit _ => 1
  | .nil => 1
  | .ptr d => uptoBulk d + 1
  | .slice elems spare => uptoBulkAll elems + uptoBulkAll spare + 1
  | .agg parts => uptoBulkAll parts + 1
  | .iface _ d => uptoBulk d + 1
  | .map entries => uptoBulkEntries entries + 1
  | .held _ => 1
def uptoBulkAll {H : Type} : List (DataW H) → Nat
  | [] => 0
  | d :: r => uptoBulk d + uptoBulkAll r
def uptoBulkEntries {H : Type} : List (Lit × DataW H) → Nat
  | [] => 0
  | x :: r => uptoBulkEntry x + uptoBulkEntries r
def uptoBulkEntry {H : Type} : Lit × DataW H → Nat
  | (.string bytes, d) => bytes.length + uptoBulk d + 1
  | (_, d) => uptoBulk d + 1
 end
def uptoSmall : (H : Type) → List (DataW H) → Bool := fun _ ds => decide (uptoBulkAll ds ≤ 1048576)
def OpenSpec.upto (s : _root_.Go.ChangeSpec) : _root_.Go.OpenSpec := { _root_.Go.OpenSpec.ofChange s with cond := some uptoSmall }

/-- 'laws.FnExactLeapsFrom', WHERE WHAT IT READS IS OF BULK AT MOST 1048576: true; the input reads as it did. -/
def fnExactLeapsFromUptoRow : OpenClaim := { program := "ytekajjhjjnfdpaa", sum := "cfa8c2bd2c6f8a883f309d7c3f57f63aa5e11d90360c2ad740c0754604fbaf2a", func := "loop.example/g01239/laws.FnExactLeapsFrom", spec := "fnExactLeapsFrom", recurses := true, apart := false, narrowed := true }
def FnExactLeapsFromUptoSaid : Prop := fnExactLeapsFromUptoRow.holds Try.pinned (OpenSpec.upto fnExactLeapsFromSpec)

/-- 'laws.FnExactArePeaceful', WHERE WHAT IT READS IS OF BULK AT MOST 1048576: true; the input reads as it did. -/
def fnExactArePeacefulUptoRow : OpenClaim := { program := "ytekajjhjjnfdpaa", sum := "cfa8c2bd2c6f8a883f309d7c3f57f63aa5e11d90360c2ad740c0754604fbaf2a", func := "loop.example/g01239/laws.FnExactArePeaceful", spec := "fnExactArePeaceful", recurses := true, apart := false, narrowed := true }
def FnExactArePeacefulUptoSaid : Prop := fnExactArePeacefulUptoRow.holds Try.pinned (OpenSpec.upto fnExactArePeacefulSpec)

/-- 'laws.FnExactDegreesOf', WHERE WHAT IT READS IS OF BULK AT MOST 1048576: true; the input reads as it did. -/
def fnExactDegreesOfUptoRow : OpenClaim := { program := "ytekajjhjjnfdpaa", sum := "cfa8c2bd2c6f8a883f309d7c3f57f63aa5e11d90360c2ad740c0754604fbaf2a", func := "loop.example/g01239/laws.FnExactDegreesOf", spec := "fnExactDegreesOf", recurses := true, apart := false, narrowed := true }
def FnExactDegreesOfUptoSaid : Prop := fnExactDegreesOfUptoRow.holds Try.pinned (OpenSpec.upto fnExactDegreesOfSpec)

/-- 'laws.FnExactDeadEnds', WHERE WHAT IT READS IS OF BULK AT MOST 1048576: true; the input reads as it did. -/
def fnExactDeadEndsUptoRow : OpenClaim := { program := "ytekajjhjjnfdpaa", sum := "cfa8c2bd2c6f8a883f309d7c3f57f63aa5e11d90360c2ad740c0754604fbaf2a", func := "loop.example/g01239/laws.FnExactDeadEnds", spec := "fnExactDeadEnds", recurses := true, apart := false, narrowed := true }
def FnExactDeadEndsUptoSaid : Prop := fnExactDeadEndsUptoRow.holds Try.pinned (OpenSpec.upto fnExactDeadEndsSpec)

/-- 'laws.FnExactCountPaths', WHERE WHAT IT READS IS OF BULK AT MOST 1048576: true; the input reads as it did. -/
def fnExactCountPathsUptoRow : OpenClaim := { program := "ytekajjhjjnfdpaa", sum := "cfa8c2bd2c6f8a883f309d7c3f57f63aa5e11d90360c2ad740c0754604fbaf2a", func := "loop.example/g01239/laws.FnExactCountPaths", spec := "fnExactCountPaths", recurses := true, apart := false, narrowed := true }
def FnExactCountPathsUptoSaid : Prop := fnExactCountPathsUptoRow.holds Try.pinned (OpenSpec.upto fnExactCountPathsSpec)

/-- 'laws.FnExactIsFarPainting', WHERE WHAT IT READS IS OF BULK AT MOST 1048576: true; the input reads as it did. -/
def fnExactIsFarPaintingUptoRow : OpenClaim := { program := "ytekajjhjjnfdpaa", sum := "cfa8c2bd2c6f8a883f309d7c3f57f63aa5e11d90360c2ad740c0754604fbaf2a", func := "loop.example/g01239/laws.FnExactIsFarPainting", spec := "fnExactIsFarPainting", recurses := true, apart := false, narrowed := true }
def FnExactIsFarPaintingUptoSaid : Prop := fnExactIsFarPaintingUptoRow.holds Try.pinned (OpenSpec.upto fnExactIsFarPaintingSpec)

/-- 'laws.FnExactIsClosedWalk', WHERE WHAT IT READS IS OF BULK AT MOST 1048576: true; the input reads as it did. -/
def fnExactIsClosedWalkUptoRow : OpenClaim := { program := "ytekajjhjjnfdpaa", sum := "cfa8c2bd2c6f8a883f309d7c3f57f63aa5e11d90360c2ad740c0754604fbaf2a", func := "loop.example/g01239/laws.FnExactIsClosedWalk", spec := "fnExactIsClosedWalk", recurses := true, apart := false, narrowed := true }
def FnExactIsClosedWalkUptoSaid : Prop := fnExactIsClosedWalkUptoRow.holds Try.pinned (OpenSpec.upto fnExactIsClosedWalkSpec)

/-- 'laws.FnExactIsTour', WHERE WHAT IT READS IS OF BULK AT MOST 1048576: true; the input reads as it did. -/
def fnExactIsTourUptoRow : OpenClaim := { program := "ytekajjhjjnfdpaa", sum := "cfa8c2bd2c6f8a883f309d7c3f57f63aa5e11d90360c2ad740c0754604fbaf2a", func := "loop.example/g01239/laws.FnExactIsTour", spec := "fnExactIsTour", recurses := true, apart := false, narrowed := true }
def FnExactIsTourUptoSaid : Prop := fnExactIsTourUptoRow.holds Try.pinned (OpenSpec.upto fnExactIsTourSpec)

/-- 'laws.FnExactCountByAround', WHERE WHAT IT READS IS OF BULK AT MOST 1048576: true; the input reads as it did. -/
def fnExactCountByAroundUptoRow : OpenClaim := { program := "ytekajjhjjnfdpaa", sum := "cfa8c2bd2c6f8a883f309d7c3f57f63aa5e11d90360c2ad740c0754604fbaf2a", func := "loop.example/g01239/laws.FnExactCountByAround", spec := "fnExactCountByAround", recurses := true, apart := false, narrowed := true }
def FnExactCountByAroundUptoSaid : Prop := fnExactCountByAroundUptoRow.holds Try.pinned (OpenSpec.upto fnExactCountByAroundSpec)

/-- 'laws.FnExactIsClosedTour', WHERE WHAT IT READS IS OF BULK AT MOST 1048576: true; the input reads as it did. -/
def fnExactIsClosedTourUptoRow : OpenClaim := { program := "ytekajjhjjnfdpaa", sum := "cfa8c2bd2c6f8a883f309d7c3f57f63aa5e11d90360c2ad740c0754604fbaf2a", func := "loop.example/g01239/laws.FnExactIsClosedTour", spec := "fnExactIsClosedTour", recurses := true, apart := false, narrowed := true }
def FnExactIsClosedTourUptoSaid : Prop := fnExactIsClosedTourUptoRow.holds Try.pinned (OpenSpec.upto fnExactIsClosedTourSpec)

/-- 'laws.FnExactOppositePairs', WHERE WHAT IT READS IS OF BULK AT MOST 1048576: true; the input reads as it did. -/
def fnExactOppositePairsUptoRow : OpenClaim := { program := "ytekajjhjjnfdpaa", sum := "cfa8c2bd2c6f8a883f309d7c3f57f63aa5e11d90360c2ad740c0754604fbaf2a", func := "loop.example/g01239/laws.FnExactOppositePairs", spec := "fnExactOppositePairs", recurses := true, apart := false, narrowed := true }
def FnExactOppositePairsUptoSaid : Prop := fnExactOppositePairsUptoRow.holds Try.pinned (OpenSpec.upto fnExactOppositePairsSpec)

/-- 'laws.FnExactMostPairs', WHERE WHAT IT READS IS OF BULK AT MOST 1048576: true; the input reads as it did. -/
def fnExactMostPairsUptoRow : OpenClaim := { program := "ytekajjhjjnfdpaa", sum := "cfa8c2bd2c6f8a883f309d7c3f57f63aa5e11d90360c2ad740c0754604fbaf2a", func := "loop.example/g01239/laws.FnExactMostPairs", spec := "fnExactMostPairs", recurses := true, apart := false, narrowed := true }
def FnExactMostPairsUptoSaid : Prop := fnExactMostPairsUptoRow.holds Try.pinned (OpenSpec.upto fnExactMostPairsSpec)

end Rows
end Go.Proofs.Ytekajjhjjnfdpaa

/-
  No cell of these rows narrows 'for every input' (looked for: loops, veiled, ifaces, maps, wideKeys, modest, calm, conditions, laid).
  DERIVED. THE GIVEN ROWS OF THIS SEAT. 12 by the template 'for every input the law returns true; each argument reads behind the call as it read before'; 0 by the template 'total and deterministic' (their statements: YthoklbeenjppbaaTotals.lean).
  GIVEN WITH THE SEED: the statements are not yours to turn. If you find one false, say at which input.
  Laid BY PROGRAM, IN A SANDBOX (cutbox-rows.mjs): the forced cells as the released guide's own fill.sh prints them over the translation ddd1a1d00a692ea4… (all of the seat's roots in one cut). By AI agents, Wed Nov 11 2026. No macro, syntax, notation, axiom, sorry.
-/
import Derived.Test.YthoklbeenjppbaaChecked
import GoSem.Claim
import GoSem.ClaimJoined
import GoSem.ClaimMapViews
import Derived.JoinedTies
import Derived.KernelRfl
namespace Go.Proofs.Ythoklbeenjppbaa
/- THE CELL 'sum', in the pinned program and in every row, IS THE sha256 OF THE DUMP (.gsa) THAT YthoklbeenjppbaaProg.lean LOADS. Nothing in Lean hashes anything: it is a label: what it is worth is what the hold of that sum in a sandbox is worth. -/
noncomputable def Try.pinned : Pinned := { name := "ythoklbeenjppbaa", sum := "ddd1a1d00a692ea4f562dd70eec5b25140486e3326fd76620a0bb54ef7e160be", checked := Try.checked }
namespace Rows
def none {H : Type} : Left H := { results := [], args := [] }

/-- 'laws.FnExactAreGuards': WHATEVER THE INPUT: true; the input reads as it did. -/
def fnExactAreGuardsSpec : ChangeSpec := { name := "fnExactAreGuards", fn := fun _ => fun
  | [d1, d2, d3] => { results := [.lit (.bool true)], args := [d1, d2, d3] }
  | _ => none }
def fnExactAreGuardsRow : OpenClaim := { program := "ythoklbeenjppbaa", sum := "ddd1a1d00a692ea4f562dd70eec5b25140486e3326fd76620a0bb54ef7e160be", func := "loop.example/g01239/laws.FnExactAreGuards", spec := "fnExactAreGuards", recurses := true, apart := false }
def FnExactAreGuardsSaid : Prop := fnExactAreGuardsRow.holds Try.pinned (OpenSpec.ofChange fnExactAreGuardsSpec)

/-- ITS FALSE NEIGHBOUR: 'it returns false'. Refute it at one input. -/
def fnExactAreGuardsWrong : ChangeSpec := { name := "fnExactAreGuards", fn := fun _ => fun
  | [d1, d2, d3] => { results := [.lit (.bool false)], args := [d1, d2, d3] }
  | _ => none }
def FnExactAreGuardsWrongFalsely : Prop := fnExactAreGuardsRow.holds Try.pinned (OpenSpec.ofChange fnExactAreGuardsWrong)

/-- 'laws.FnExactDistanceBetween': WHATEVER THE INPUT: true; the input reads as it did. -/
def fnExactDistanceBetweenSpec : ChangeSpec := { name := "fnExactDistanceBetween", fn := fun _ => fun
  | [d1, d2, d3, d4] => { results := [.lit (.bool true)], args := [d1, d2, d3, d4] }
  | _ => none }
def fnExactDistanceBetweenRow : OpenClaim := { program := "ythoklbeenjppbaa", sum := "ddd1a1d00a692ea4f562dd70eec5b25140486e3326fd76620a0bb54ef7e160be", func := "loop.example/g01239/laws.FnExactDistanceBetween", spec := "fnExactDistanceBetween", recurses := true, apart := false }
def FnExactDistanceBetweenSaid : Prop := fnExactDistanceBetweenRow.holds Try.pinned (OpenSpec.ofChange fnExactDistanceBetweenSpec)

/-- ITS FALSE NEIGHBOUR: 'it returns false'. Refute it at one input. -/
def fnExactDistanceBetweenWrong : ChangeSpec := { name := "fnExactDistanceBetween", fn := fun _ => fun
  | [d1, d2, d3, d4] => { results := [.lit (.bool false)], args := [d1, d2, d3, d4] }
  | _ => none }
def FnExactDistanceBetweenWrongFalsely : Prop := fnExactDistanceBetweenRow.holds Try.pinned (OpenSpec.ofChange fnExactDistanceBetweenWrong)

/-- 'laws.FnExactIsPainting': WHATEVER THE INPUT: true; the input reads as it did. -/
def fnExactIsPaintingSpec : ChangeSpec := { name := "fnExactIsPainting", fn := fun _ => fun
  | [d1, d2, d3] => { results := [.lit (.bool true)], args := [d1, d2, d3] }
  | _ => none }
def fnExactIsPaintingRow : OpenClaim := { program := "ythoklbeenjppbaa", sum := "ddd1a1d00a692ea4f562dd70eec5b25140486e3326fd76620a0bb54ef7e160be", func := "loop.example/g01239/laws.FnExactIsPainting", spec := "fnExactIsPainting", recurses := true, apart := false }
def FnExactIsPaintingSaid : Prop := fnExactIsPaintingRow.holds Try.pinned (OpenSpec.ofChange fnExactIsPaintingSpec)

/-- ITS FALSE NEIGHBOUR: 'it returns false'. Refute it at one input. -/
def fnExactIsPaintingWrong : ChangeSpec := { name := "fnExactIsPainting", fn := fun _ => fun
  | [d1, d2, d3] => { results := [.lit (.bool false)], args := [d1, d2, d3] }
  | _ => none }
def FnExactIsPaintingWrongFalsely : Prop := fnExactIsPaintingRow.holds Try.pinned (OpenSpec.ofChange fnExactIsPaintingWrong)

/-- 'laws.FnExactTurnsOfPath': WHATEVER THE INPUT: true; the input reads as it did. -/
def fnExactTurnsOfPathSpec : ChangeSpec := { name := "fnExactTurnsOfPath", fn := fun _ => fun
  | [d1, d2, d3] => { results := [.lit (.bool true)], args := [d1, d2, d3] }
  | _ => none }
def fnExactTurnsOfPathRow : OpenClaim := { program := "ythoklbeenjppbaa", sum := "ddd1a1d00a692ea4f562dd70eec5b25140486e3326fd76620a0bb54ef7e160be", func := "loop.example/g01239/laws.FnExactTurnsOfPath", spec := "fnExactTurnsOfPath", recurses := true, apart := false }
def FnExactTurnsOfPathSaid : Prop := fnExactTurnsOfPathRow.holds Try.pinned (OpenSpec.ofChange fnExactTurnsOfPathSpec)

/-- ITS FALSE NEIGHBOUR: 'it returns false'. Refute it at one input. -/
def fnExactTurnsOfPathWrong : ChangeSpec := { name := "fnExactTurnsOfPath", fn := fun _ => fun
  | [d1, d2, d3] => { results := [.lit (.bool false)], args := [d1, d2, d3] }
  | _ => none }
def FnExactTurnsOfPathWrongFalsely : Prop := fnExactTurnsOfPathRow.holds Try.pinned (OpenSpec.ofChange fnExactTurnsOfPathWrong)

/-- 'laws.FnExactNumbersOfWalk': WHATEVER THE INPUT: true; the input reads as it did. -/
def fnExactNumbersOfWalkSpec : ChangeSpec := { name := "fnExactNumbersOfWalk", fn := fun _ => fun
  | [d1, d2, d3] => { results := [.lit (.bool true)], args := [d1, d2, d3] }
  | _ => none }
def fnExactNumbersOfWalkRow : OpenClaim := { program := "ythoklbeenjppbaa", sum := "ddd1a1d00a692ea4f562dd70eec5b25140486e3326fd76620a0bb54ef7e160be", func := "loop.example/g01239/laws.FnExactNumbersOfWalk", spec := "fnExactNumbersOfWalk", recurses := true, apart := false }
def FnExactNumbersOfWalkSaid : Prop := fnExactNumbersOfWalkRow.holds Try.pinned (OpenSpec.ofChange fnExactNumbersOfWalkSpec)

/-- ITS FALSE NEIGHBOUR: 'it returns false'. Refute it at one input. -/
def fnExactNumbersOfWalkWrong : ChangeSpec := { name := "fnExactNumbersOfWalk", fn := fun _ => fun
  | [d1, d2, d3] => { results := [.lit (.bool false)], args := [d1, d2, d3] }
  | _ => none }
def FnExactNumbersOfWalkWrongFalsely : Prop := fnExactNumbersOfWalkRow.holds Try.pinned (OpenSpec.ofChange fnExactNumbersOfWalkWrong)

/-- 'laws.FnExactDistancesFrom': WHATEVER THE INPUT: true; the input reads as it did. -/
def fnExactDistancesFromSpec : ChangeSpec := { name := "fnExactDistancesFrom", fn := fun _ => fun
  | [d1, d2, d3] => { results := [.lit (.bool true)], args := [d1, d2, d3] }
  | _ => none }
def fnExactDistancesFromRow : OpenClaim := { program := "ythoklbeenjppbaa", sum := "ddd1a1d00a692ea4f562dd70eec5b25140486e3326fd76620a0bb54ef7e160be", func := "loop.example/g01239/laws.FnExactDistancesFrom", spec := "fnExactDistancesFrom", recurses := true, apart := false }
def FnExactDistancesFromSaid : Prop := fnExactDistancesFromRow.holds Try.pinned (OpenSpec.ofChange fnExactDistancesFromSpec)

/-- ITS FALSE NEIGHBOUR: 'it returns false'. Refute it at one input. -/
def fnExactDistancesFromWrong : ChangeSpec := { name := "fnExactDistancesFrom", fn := fun _ => fun
  | [d1, d2, d3] => { results := [.lit (.bool false)], args := [d1, d2, d3] }
  | _ => none }
def FnExactDistancesFromWrongFalsely : Prop := fnExactDistancesFromRow.holds Try.pinned (OpenSpec.ofChange fnExactDistancesFromWrong)

/-- 'laws.FnExactFarthestFrom': WHATEVER THE INPUT: true; the input reads as it did. -/
def fnExactFarthestFromSpec : ChangeSpec := { name := "fnExactFarthestFrom", fn := fun _ => fun
  | [d1, d2, d3] => { results := [.lit (.bool true)], args := [d1, d2, d3] }
  | _ => none }
def fnExactFarthestFromRow : OpenClaim := { program := "ythoklbeenjppbaa", sum := "ddd1a1d00a692ea4f562dd70eec5b25140486e3326fd76620a0bb54ef7e160be", func := "loop.example/g01239/laws.FnExactFarthestFrom", spec := "fnExactFarthestFrom", recurses := true, apart := false }
def FnExactFarthestFromSaid : Prop := fnExactFarthestFromRow.holds Try.pinned (OpenSpec.ofChange fnExactFarthestFromSpec)

/-- ITS FALSE NEIGHBOUR: 'it returns false'. Refute it at one input. -/
def fnExactFarthestFromWrong : ChangeSpec := { name := "fnExactFarthestFrom", fn := fun _ => fun
  | [d1, d2, d3] => { results := [.lit (.bool false)], args := [d1, d2, d3] }
  | _ => none }
def FnExactFarthestFromWrongFalsely : Prop := fnExactFarthestFromRow.holds Try.pinned (OpenSpec.ofChange fnExactFarthestFromWrong)

/-- 'laws.FnExactGuardedBy': WHATEVER THE INPUT: true; the input reads as it did. -/
def fnExactGuardedBySpec : ChangeSpec := { name := "fnExactGuardedBy", fn := fun _ => fun
  | [d1, d2, d3] => { results := [.lit (.bool true)], args := [d1, d2, d3] }
  | _ => none }
def fnExactGuardedByRow : OpenClaim := { program := "ythoklbeenjppbaa", sum := "ddd1a1d00a692ea4f562dd70eec5b25140486e3326fd76620a0bb54ef7e160be", func := "loop.example/g01239/laws.FnExactGuardedBy", spec := "fnExactGuardedBy", recurses := true, apart := false }
def FnExactGuardedBySaid : Prop := fnExactGuardedByRow.holds Try.pinned (OpenSpec.ofChange fnExactGuardedBySpec)

/-- ITS FALSE NEIGHBOUR: 'it returns false'. Refute it at one input. -/
def fnExactGuardedByWrong : ChangeSpec := { name := "fnExactGuardedBy", fn := fun _ => fun
  | [d1, d2, d3] => { results := [.lit (.bool false)], args := [d1, d2, d3] }
  | _ => none }
def FnExactGuardedByWrongFalsely : Prop := fnExactGuardedByRow.holds Try.pinned (OpenSpec.ofChange fnExactGuardedByWrong)

/-- 'laws.FnExactIsWhole': WHATEVER THE INPUT: true; the input reads as it did. -/
def fnExactIsWholeSpec : ChangeSpec := { name := "fnExactIsWhole", fn := fun _ => fun
  | [d1, d2] => { results := [.lit (.bool true)], args := [d1, d2] }
  | _ => none }
def fnExactIsWholeRow : OpenClaim := { program := "ythoklbeenjppbaa", sum := "ddd1a1d00a692ea4f562dd70eec5b25140486e3326fd76620a0bb54ef7e160be", func := "loop.example/g01239/laws.FnExactIsWhole", spec := "fnExactIsWhole", recurses := true, apart := false }
def FnExactIsWholeSaid : Prop := fnExactIsWholeRow.holds Try.pinned (OpenSpec.ofChange fnExactIsWholeSpec)

/-- ITS FALSE NEIGHBOUR: 'it returns false'. Refute it at one input. -/
def fnExactIsWholeWrong : ChangeSpec := { name := "fnExactIsWhole", fn := fun _ => fun
  | [d1, d2] => { results := [.lit (.bool false)], args := [d1, d2] }
  | _ => none }
def FnExactIsWholeWrongFalsely : Prop := fnExactIsWholeRow.holds Try.pinned (OpenSpec.ofChange fnExactIsWholeWrong)

/-- 'laws.FnExactColumnSumsOf': WHATEVER THE INPUT: true; the input reads as it did. -/
def fnExactColumnSumsOfSpec : ChangeSpec := { name := "fnExactColumnSumsOf", fn := fun _ => fun
  | [d1, d2, d3] => { results := [.lit (.bool true)], args := [d1, d2, d3] }
  | _ => none }
def fnExactColumnSumsOfRow : OpenClaim := { program := "ythoklbeenjppbaa", sum := "ddd1a1d00a692ea4f562dd70eec5b25140486e3326fd76620a0bb54ef7e160be", func := "loop.example/g01239/laws.FnExactColumnSumsOf", spec := "fnExactColumnSumsOf", recurses := true, apart := false }
def FnExactColumnSumsOfSaid : Prop := fnExactColumnSumsOfRow.holds Try.pinned (OpenSpec.ofChange fnExactColumnSumsOfSpec)

/-- ITS FALSE NEIGHBOUR: 'it returns false'. Refute it at one input. -/
def fnExactColumnSumsOfWrong : ChangeSpec := { name := "fnExactColumnSumsOf", fn := fun _ => fun
  | [d1, d2, d3] => { results := [.lit (.bool false)], args := [d1, d2, d3] }
  | _ => none }
def FnExactColumnSumsOfWrongFalsely : Prop := fnExactColumnSumsOfRow.holds Try.pinned (OpenSpec.ofChange fnExactColumnSumsOfWrong)

/-- 'laws.FnExactRowSumsOf': WHATEVER THE INPUT: true; the input reads as it did. -/
def fnExactRowSumsOfSpec : ChangeSpec := { name := "fnExactRowSumsOf", fn := fun _ => fun
  | [d1, d2, d3] => { results := [.lit (.bool true)], args := [d1, d2, d3] }
  | _ => none }
def fnExactRowSumsOfRow : OpenClaim := { program := "ythoklbeenjppbaa", sum := "ddd1a1d00a692ea4f562dd70eec5b25140486e3326fd76620a0bb54ef7e160be", func := "loop.example/g01239/laws.FnExactRowSumsOf", spec := "fnExactRowSumsOf", recurses := true, apart := false }
def FnExactRowSumsOfSaid : Prop := fnExactRowSumsOfRow.holds Try.pinned (OpenSpec.ofChange fnExactRowSumsOfSpec)

/-- ITS FALSE NEIGHBOUR: 'it returns false'. Refute it at one input. -/
def fnExactRowSumsOfWrong : ChangeSpec := { name := "fnExactRowSumsOf", fn := fun _ => fun
  | [d1, d2, d3] => { results := [.lit (.bool false)], args := [d1, d2, d3] }
  | _ => none }
def FnExactRowSumsOfWrongFalsely : Prop := fnExactRowSumsOfRow.holds Try.pinned (OpenSpec.ofChange fnExactRowSumsOfWrong)

/-- 'laws.FnExactCellsWithin': WHATEVER THE INPUT: true; the input reads as it did. -/
def fnExactCellsWithinSpec : ChangeSpec := { name := "fnExactCellsWithin", fn := fun _ => fun
  | [d1, d2, d3, d4] => { results := [.lit (.bool true)], args := [d1, d2, d3, d4] }
  | _ => none }
def fnExactCellsWithinRow : OpenClaim := { program := "ythoklbeenjppbaa", sum := "ddd1a1d00a692ea4f562dd70eec5b25140486e3326fd76620a0bb54ef7e160be", func := "loop.example/g01239/laws.FnExactCellsWithin", spec := "fnExactCellsWithin", recurses := true, apart := false }
def FnExactCellsWithinSaid : Prop := fnExactCellsWithinRow.holds Try.pinned (OpenSpec.ofChange fnExactCellsWithinSpec)

/-- ITS FALSE NEIGHBOUR: 'it returns false'. Refute it at one input. -/
def fnExactCellsWithinWrong : ChangeSpec := { name := "fnExactCellsWithin", fn := fun _ => fun
  | [d1, d2, d3, d4] => { results := [.lit (.bool false)], args := [d1, d2, d3, d4] }
  | _ => none }
def FnExactCellsWithinWrongFalsely : Prop := fnExactCellsWithinRow.holds Try.pinned (OpenSpec.ofChange fnExactCellsWithinWrong)

/- THE SECOND FORM. 'bulk': how many values and letters a reading holds, each counted each time it is reached (what is shared counts as often as it is met; a slice's spare places count too). A statement '..UptoSaid' is the law's where the arguments, and the package variables that the reading takes, are together of bulk at most 1048576: NARROWER than '..Said'. Prove '..Said' where nothing that the law and all that it calls make is longer than what came in: it says more and counts as full. Else prove '..UptoSaid'. A law counts once. -/
mutual
def uptoBulk {H : Type} : DataW H → Nat
  | .lit (.string bytes) => bytes.length + 1
  | .lit _ => 1
  | .nil => 1
  | .ptr d => uptoBulk d + 1
  | .slice elems spare => uptoBulkAll elems + uptoBulkAll spare + 1
  | .agg parts => uptoBulkAll parts + 1
  | .iface _ d => uptoBulk d + 1
  | .map entries => uptoBulkEntries entries + 1
  | .held _ => 1
def uptoBulkAll {H : Type} : List (DataW H) → Nat
  | [] => 0
  | d :: r => uptoBulk d + uptoBulkAll r
def uptoBulkEntries {H : Type} : List (Lit × DataW H) → Nat
  | [] => 0
  | x :: r => uptoBulkEntry x + uptoBulkEntries r
def uptoBulkEntry {H : Type} : Lit × DataW H → Nat
  | (.string bytes, d) => bytes.length + uptoBulk d + 1
  | (_, d) => uptoBulk d + 1
 end
def uptoSmall : (H : Type) → List (DataW H) → Bool := fun _ ds => decide (uptoBulkAll ds ≤ 1048576)
def OpenSpec.upto (s : _root_.Go.ChangeSpec) : _root_.Go.OpenSpec := { _root_.Go.OpenSpec.ofChange s with cond := some uptoSmall }

/-- 'laws.FnExactAreGuards', WHERE WHAT IT READS IS OF BULK AT MOST 1048576: true; the input reads as it did. -/
def fnExactAreGuardsUptoRow : OpenClaim := { program := "ythoklbeenjppbaa", sum := "ddd1a1d00a692ea4f562dd70eec5b25140486e3326fd76620a0bb54ef7e160be", func := "loop.example/g01239/laws.FnExactAreGuards", spec := "fnExactAreGuards", recurses := true, apart := false, narrowed := true }
def FnExactAreGuardsUptoSaid : Prop := fnExactAreGuardsUptoRow.holds Try.pinned (OpenSpec.upto fnExactAreGuardsSpec)

/-- 'laws.FnExactDistanceBetween', WHERE WHAT IT READS IS OF BULK AT MOST 1048576: true; the input reads as it did. -/
def fnExactDistanceBetweenUptoRow : OpenClaim := { program := "ythoklbeenjppbaa", sum := "ddd1a1d00a692ea4f562dd70eec5b25140486e3326fd76620a0bb54ef7e160be", func := "loop.example/g01239/laws.FnExactDistanceBetween", spec := "fnExactDistanceBetween", recurses := true, apart := false, narrowed := true }
def FnExactDistanceBetweenUptoSaid : Prop := fnExactDistanceBetweenUptoRow.holds Try.pinned (OpenSpec.upto fnExactDistanceBetweenSpec)

/-- 'laws.FnExactIsPainting', WHERE WHAT IT READS IS OF BULK AT MOST 1048576: true; the input reads as it did. -/
def fnExactIsPaintingUptoRow : OpenClaim := { program := "ythoklbeenjppbaa", sum := "ddd1a1d00a692ea4f562dd70eec5b25140486e3326fd76620a0bb54ef7e160be", func := "loop.example/g01239/laws.FnExactIsPainting", spec := "fnExactIsPainting", recurses := true, apart := false, narrowed := true }
def FnExactIsPaintingUptoSaid : Prop := fnExactIsPaintingUptoRow.holds Try.pinned (OpenSpec.upto fnExactIsPaintingSpec)

/-- 'laws.FnExactTurnsOfPath', WHERE WHAT IT READS IS OF BULK AT MOST 1048576: true; the input reads as it did. -/
def fnExactTurnsOfPathUptoRow : OpenClaim := { program := "ythoklbeenjppbaa", sum := "ddd1a1d00a692ea4f562dd70eec5b25140486e3326fd76620a0bb54ef7e160be", func := "loop.example/g01239/laws.FnExactTurnsOfPath", spec := "fnExactTurnsOfPath", recurses := true, apart := false, narrowed := true }
def FnExactTurnsOfPathUptoSaid : Prop := fnExactTurnsOfPathUptoRow.holds Try.pinned (OpenSpec.upto fnExactTurnsOfPathSpec)

/-- 'laws.FnExactNumbersOfWalk', WHERE WHAT IT READS IS OF BULK AT MOST 1048576: true; the input reads as it did. -/
def fnExactNumbersOfWalkUptoRow : OpenClaim := { program := "ythoklbeenjppbaa", sum := "ddd1a1d00a692ea4f562dd70eec5b25140486e3326fd76620a0bb54ef7e160be", func := "loop.example/g01239/laws.FnExactNumbersOfWalk", spec := "fnExactNumbersOfWalk", recurses := true, apart := false, narrowed := true }
def FnExactNumbersOfWalkUptoSaid : Prop := fnExactNumbersOfWalkUptoRow.holds Try.pinned (OpenSpec.upto fnExactNumbersOfWalkSpec)

/-- 'laws.FnExactDistancesFrom', WHERE WHAT IT READS IS OF BULK AT MOST 1048576: true; the input reads as it did. -/
def fnExactDistancesFromUptoRow : OpenClaim := { program := "ythoklbeenjppbaa", sum := "ddd1a1d00a692ea4f562dd70eec5b25140486e3326fd76620a0bb54ef7e160be", func := "loop.example/g01239/laws.FnExactDistancesFrom", spec := "fnExactDistancesFrom", recurses := true, apart := false, narrowed := true }
def FnExactDistancesFromUptoSaid : Prop := fnExactDistancesFromUptoRow.holds Try.pinned (OpenSpec.upto fnExactDistancesFromSpec)

/-- 'laws.FnExactFarthestFrom', WHERE WHAT IT READS IS OF BULK AT MOST 1048576: true; the input reads as it did. -/
def fnExactFarthestFromUptoRow : OpenClaim := { program := "ythoklbeenjppbaa", sum := "ddd1a1d00a692ea4f562dd70eec5b25140486e3326fd76620a0bb54ef7e160be", func := "loop.example/g01239/laws.FnExactFarthestFrom", spec := "fnExactFarthestFrom", recurses := true, apart := false, narrowed := true }
def FnExactFarthestFromUptoSaid : Prop := fnExactFarthestFromUptoRow.holds Try.pinned (OpenSpec.upto fnExactFarthestFromSpec)

/-- 'laws.FnExactGuardedBy', WHERE WHAT IT READS IS OF BULK AT MOST 1048576: true; the input reads as it did. -/
def fnExactGuardedByUptoRow : OpenClaim := { program := "ythoklbeenjppbaa", sum := "ddd1a1d00a692ea4f562dd70eec5b25140486e3326fd76620a0bb54ef7e160be", func := "loop.example/g01239/laws.FnExactGuardedBy", spec := "fnExactGuardedBy", recurses := true, apart := false, narrowed := true }
def FnExactGuardedByUptoSaid : Prop := fnExactGuardedByUptoRow.holds Try.pinned (OpenSpec.upto fnExactGuardedBySpec)

/-- 'laws.FnExactIsWhole', WHERE WHAT IT READS IS OF BULK AT MOST 1048576: true; the input reads as it did. -/
def fnExactIsWholeUptoRow : OpenClaim := { program := "ythoklbeenjppbaa", sum := "ddd1a1d00a692ea4f562dd70eec5b25140486e3326fd76620a0bb54ef7e160be", func := "loop.example/g01239/laws.FnExactIsWhole", spec := "fnExactIsWhole", recurses := true, apart := false, narrowed := true }
def FnExactIsWholeUptoSaid : Prop := fnExactIsWholeUptoRow.holds Try.pinned (OpenSpec.upto fnExactIsWholeSpec)

/-- 'laws.FnExactColumnSumsOf', WHERE WHAT IT READS IS OF BULK AT MOST 1048576: true; the input reads as it did. -/
def fnExactColumnSumsOfUptoRow : OpenClaim := { program := "ythoklbeenjppbaa", sum := "ddd1a1d00a692ea4f562dd70eec5b25140486e3326fd76620a0bb54ef7e160be", func := "loop.example/g01239/laws.FnExactColumnSumsOf", spec := "fnExactColumnSumsOf", recurses := true, apart := false, narrowed := true }
def FnExactColumnSumsOfUptoSaid : Prop := fnExactColumnSumsOfUptoRow.holds Try.pinned (OpenSpec.upto fnExactColumnSumsOfSpec)

/-- 'laws.FnExactRowSumsOf', WHERE WHAT IT READS IS OF BULK AT MOST 1048576: true; the input reads as it did. -/
def fnExactRowSumsOfUptoRow : OpenClaim := { program := "ythoklbeenjppbaa", sum := "ddd1a1d00a692ea4f562dd70eec5b25140486e3326fd76620a0bb54ef7e160be", func := "loop.example/g01239/laws.FnExactRowSumsOf", spec := "fnExactRowSumsOf", recurses := true, apart := false, narrowed := true }
def FnExactRowSumsOfUptoSaid : Prop := fnExactRowSumsOfUptoRow.holds Try.pinned (OpenSpec.upto fnExactRowSumsOfSpec)

/-- 'laws.FnExactCellsWithin', WHERE WHAT IT READS IS OF BULK AT MOST 1048576: true; the input reads as it did. -/
def fnExactCellsWithinUptoRow : OpenClaim := { program := "ythoklbeenjppbaa", sum := "ddd1a1d00a692ea4f562dd70eec5b25140486e3326fd76620a0bb54ef7e160be", func := "loop.example/g01239/laws.FnExactCellsWithin", spec := "fnExactCellsWithin", recurses := true, apart := false, narrowed := true }
def FnExactCellsWithinUptoSaid : Prop := fnExactCellsWithinUptoRow.holds Try.pinned (OpenSpec.upto fnExactCellsWithinSpec)

end Rows
end Go.Proofs.Ythoklbeenjppbaa

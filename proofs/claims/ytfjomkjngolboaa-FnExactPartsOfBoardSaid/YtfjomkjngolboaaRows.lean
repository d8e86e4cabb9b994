/-
  No cell of these rows narrows 'for every input' (looked for: loops, veiled, ifaces, maps, wideKeys, modest, calm, conditions, laid).
  DERIVED. THE GIVEN ROWS OF THIS SEAT. 2 by the template 'for every input the law returns true; each argument reads behind the call as it read before'; 0 by the template 'total and deterministic' (their statements: YtfjomkjngolboaaTotals.lean).
  GIVEN WITH THE SEED: the statements are not yours to turn. If you find one false, say at which input.
  Laid BY PROGRAM, IN A SANDBOX (cutbox-rows.mjs): the forced cells as the released guide's own fill.sh prints them over the translation 62975f947124414c… (all of the seat's roots in one cut). By AI agents, Wed Nov 11 2026. No macro, syntax, notation, axiom, sorry.
-/
import Derived.Test.YtfjomkjngolboaaChecked
import GoSem.Claim
import GoSem.ClaimJoined
import GoSem.ClaimMapViews
import Derived.JoinedTies
import Derived.KernelRfl
namespace Go.Proofs.Ytfjomkjngolboaa
/- THE CELL 'sum', in the pinned program and in every row, IS THE sha256 OF THE DUMP (.gsa) THAT YtfjomkjngolboaaProg.lean LOADS. Nothing in Lean hashes anything: it is a label: what it is worth is what the hold of that sum in a sandbox is worth. -/
noncomputable def Try.pinned : Pinned := { name := "ytfjomkjngolboaa", sum := "62975f947124414cbb480dafcf4412d0e08588265d8a30be800a4fe7ff025ed8", checked := Try.checked }
namespace Rows
def none {H : Type} : Left H := { results := [], args := [] }

/-- 'laws.FnExactMostPairs': WHATEVER THE INPUT: true; the input reads as it did. -/
def fnExactMostPairsSpec : ChangeSpec := { name := "fnExactMostPairs", fn := fun _ => fun
  | [d1, d2] => { results := [.lit (.bool true)], args := [d1, d2] }
  | _ => none }
def fnExactMostPairsRow : OpenClaim := { program := "ytfjomkjngolboaa", sum := "62975f947124414cbb480dafcf4412d0e08588265d8a30be800a4fe7ff025ed8", func := "loop.example/g01239/laws.FnExactMostPairs", spec := "fnExactMostPairs", recurses := true, apart := false }
def FnExactMostPairsSaid : Prop := fnExactMostPairsRow.holds Try.pinned (OpenSpec.ofChange fnExactMostPairsSpec)

/-- ITS FALSE NEIGHBOUR: 'it returns false'. Refute it at one input. -/
def fnExactMostPairsWrong : ChangeSpec := { name := "fnExactMostPairs", fn := fun _ => fun
  | [d1, d2] => { results := [.lit (.bool false)], args := [d1, d2] }
  | _ => none }
def FnExactMostPairsWrongFalsely : Prop := fnExactMostPairsRow.holds Try.pinned (OpenSpec.ofChange fnExactMostPairsWrong)

/-- 'laws.FnExactPartsOfBoard': WHATEVER THE INPUT: true; the input reads as it did. -/
def fnExactPartsOfBoardSpec : ChangeSpec := { name := "fnExactPartsOfBoard", fn := fun _ => fun
  | [d1, d2] => { results := [.lit (.bool true)], args := [d1, d2] }
  | _ => none }
def fnExactPartsOfBoardRow : OpenClaim := { program := "ytfjomkjngolboaa", sum := "62975f947124414cbb480dafcf4412d0e08588265d8a30be800a4fe7ff025ed8", func := "loop.example/g01239/laws.FnExactPartsOfBoard", spec := "fnExactPartsOfBoard", recurses := true, apart := false }
def FnExactPartsOfBoardSaid : Prop := fnExactPartsOfBoardRow.holds Try.pinned (OpenSpec.ofChange fnExactPartsOfBoardSpec)

/-- ITS FALSE NEIGHBOUR: 'it returns false'. Refute it at one input. -/
def fnExactPartsOfBoardWrong : ChangeSpec := { name := "fnExactPartsOfBoard", fn := fun _ => fun
  | [d1, d2] => { results := [.lit (.bool false)], args := [d1, d2] }
  | _ => none }
def FnExactPartsOfBoardWrongFalsely : Prop := fnExactPartsOfBoardRow.holds Try.pinned (OpenSpec.ofChange fnExactPartsOfBoardWrong)

/- THE SECOND FORM. 'bulk': how many values and letters a reading holds, each counted each time it is reached (what is shared counts as often as it is met; a slice's spare places count too). A statement '..UptoSaid' is the law's where the arguments, and the package variables that the reading takes, are together of bulk at most 1048576: NARROWER than '..Said'. Prove '..Said' where nothing that the law and all that it calls make is longer than what came in: it says more and counts as full. Else prove '..UptoSaid'. A law counts once. -/
mutual
def uptoBulk {H : Type} : DataW H → Nat
  | .lit (.string bytes) => bytes.length + 1
  | .lit _ => 1
  | .nil => 1
  | .ptr d => uptoBulk d + 1
  | .slice elems spare => uptoBulkAll elems + uptoBulkAll spare + 1
  | .agg parts => uptoBulkAll parts + 1
  | .iface _ d => uptoBulk d + 1
  | .map entries => uptoBulkEntries entries + 1
  | .held _ => 1
def uptoBulkAll {H : Type} : List (DataW H) → Nat
  | [] => 0
  | d :: r => uptoBulk d + uptoBulkAll r
def uptoBulkEntries {H : Type} : List (Lit × DataW H) → Nat
  | [] => 0
  | x :: r => uptoBulkEntry x + uptoBulkEntries r
def uptoBulkEntry {H : Type} : Lit × DataW H → Nat
  | (.string bytes, d) => bytes.length + uptoBulk d + 1
  | (_, d) => uptoBulk d + 1
 end
def uptoSmall : (H : Type) → List (DataW H) → Bool := fun _ ds => decide (uptoBulkAll ds ≤ 1048576)
def OpenSpec.upto (s : _root_.Go.ChangeSpec) : _root_.Go.OpenSpec := { _root_.Go.OpenSpec.ofChange s with cond := some uptoSmall }

/-- 'laws.FnExactMostPairs', WHERE WHAT IT READS IS OF BULK AT MOST 1048576: true; the input reads as it did. -/
def fnExactMostPairsUptoRow : OpenClaim := { program := "ytfjomkjngolboaa", sum := "62975f947124414cbb480dafcf4412d0e08588265d8a30be800a4fe7ff025ed8", func := "loop.example/g01239/laws.FnExactMostPairs", spec := "fnExactMostPairs", recurses := true, apart := false, narrowed := true }
def FnExactMostPairsUptoSaid : Prop := fnExactMostPairsUptoRow.holds Try.pinned (OpenSpec.upto fnExactMostPairsSpec)

/-- 'laws.FnExactPartsOfBoard', WHERE WHAT IT READS IS OF BULK AT MOST 1048576: true; the input reads as it did. -/
def fnExactPartsOfBoardUptoRow : OpenClaim := { program := "ytfjomkjngolboaa", sum := "62975f947124414cbb480dafcf4412d0e08588265d8a30be800a4fe7ff025ed8", func := "loop.example/g01239/laws.FnExactPartsOfBoard", spec := "fnExactPartsOfBoard", recurses := true, apart := false, narrowed := true }
def FnExactPartsOfBoardUptoSaid : Prop := fnExactPartsOfBoardUptoRow.holds Try.pinned (OpenSpec.upto fnExactPartsOfBoardSpec)

end Rows
end Go.Proofs.Ytfjomkjngolboaa

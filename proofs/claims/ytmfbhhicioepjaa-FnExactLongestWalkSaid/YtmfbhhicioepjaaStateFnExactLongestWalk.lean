/- The plain law of FnExactLongestWalk as a sentence: for all arguments, with their lengths and whole numbers within 64 bits, the printed law's function answers true after some number of rounds. -/
import Derived.Test.YtmfbhhicioepjaaHLaw
import Derived.Test.YtmfbhhicioepjaaQ8
namespace Go.Proofs.Ytmfbhhicioepjaa.Pure
open Go.Proofs.Ytmfbhhicioepjaa.H
def FnExactLongestWalkSaid : Prop := ∀ (a0_0 : Int) (a0_1 : Int) (l0_2 : List Int) (a1_0 : Int) (a1_1 : Int), I64 a0_0 → I64 a0_1 → l0_2.length ≤ 9223372036854775807 → (∀ n ∈ l0_2, I64 n) → I64 a1_0 → I64 a1_1 → ∃ k : Nat, Q.laws_FnExactLongestWalk.f k a0_0 a0_1 l0_2 a1_0 a1_1 = some true
end Go.Proofs.Ytmfbhhicioepjaa.Pure

/- The plain law of FnExactCountByAround as a sentence: for all arguments, with their lengths and whole numbers within 64 bits, the printed law's function answers true after some number of rounds. -/
import Derived.Test.YtekajjhjjnfdpaaHLaw
import Derived.Test.YtekajjhjjnfdpaaQ46
namespace Go.Proofs.Ytekajjhjjnfdpaa.Pure
open Go.Proofs.Ytekajjhjjnfdpaa.H
def FnExactCountByAroundSaid : Prop := ∀ (a0_0 : Int) (a0_1 : Int) (a0_2 : Bool) (a0_3 : Bool) (a1_0 : Int) (a1_1 : Int) (a2 : Int), I64 a0_0 → I64 a0_1 → I64 a1_0 → I64 a1_1 → I64 a2 → ∃ k : Nat, Q.laws_FnExactCountByAround.f k a0_0 a0_1 a0_2 a0_3 a1_0 a1_1 a2 = some true
end Go.Proofs.Ytekajjhjjnfdpaa.Pure

/- The plain law of FnExactWalkOfSteps as a sentence: for all arguments, with their lengths and whole numbers within 64 bits, the printed law's function answers true after some number of rounds. -/
import Derived.Test.YtbecdckdbeoomaaHLaw
import Derived.Test.YtbecdckdbeoomaaQ39
namespace Go.Proofs.Ytbecdckdbeoomaa.Pure
open Go.Proofs.Ytbecdckdbeoomaa.H
def FnExactWalkOfStepsSaid : Prop := ∀ (a0_0 : Int) (a0_1 : Int) (l0_2 : List Int) (a1_0 : Int) (a1_1 : Int) (a2 : Int) (l3 : List Int), I64 a0_0 → I64 a0_1 → l0_2.length ≤ 9223372036854775807 → (∀ n ∈ l0_2, I64 n) → I64 a1_0 → I64 a1_1 → I64 a2 → l3.length ≤ 9223372036854775807 → (∀ n ∈ l3, I64 n) → ∃ k : Nat, Q.laws_FnExactWalkOfSteps.f k a0_0 a0_1 l0_2 a1_0 a1_1 a2 l3 = some true
end Go.Proofs.Ytbecdckdbeoomaa.Pure

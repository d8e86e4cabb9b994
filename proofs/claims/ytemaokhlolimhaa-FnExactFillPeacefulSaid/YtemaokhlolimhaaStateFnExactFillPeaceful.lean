/- The plain law of FnExactFillPeaceful as a sentence: for all arguments, with their lengths and whole numbers within 64 bits, the printed law's function answers true after some number of rounds. -/
import Derived.Test.YtemaokhlolimhaaHLaw
import Derived.Test.YtemaokhlolimhaaQ10
namespace Go.Proofs.Ytemaokhlolimhaa.Pure
open Go.Proofs.Ytemaokhlolimhaa.H
def FnExactFillPeacefulSaid : Prop := ∀ (a0_0 : Int) (a0_1 : Int) (l0_2 : List Int) (a1_0 : Int) (a1_1 : Int) (l2 : List Int), I64 a0_0 → I64 a0_1 → l0_2.length ≤ 9223372036854775807 → (∀ n ∈ l0_2, I64 n) → I64 a1_0 → I64 a1_1 → l2.length ≤ 9223372036854775807 → (∀ n ∈ l2, I64 n) → ∃ k : Nat, Q.laws_FnExactFillPeaceful.f k a0_0 a0_1 l0_2 a1_0 a1_1 l2 = some true
end Go.Proofs.Ytemaokhlolimhaa.Pure

/- The plain law of FnBoardsTurnedOfAll as a sentence: for all arguments, with their lengths and whole numbers within 64 bits, the printed law's function answers true after some number of rounds. -/
import Derived.Test.YtmfbhhicioepjaaHLaw
import Derived.Test.YtmfbhhicioepjaaQ13
namespace Go.Proofs.Ytmfbhhicioepjaa.Pure
open Go.Proofs.Ytmfbhhicioepjaa.H
def FnBoardsTurnedOfAllSaid : Prop := ∀ (a0_0 : Int) (a0_1 : Int) (l0_2 : List Int) (a1_0 : Int) (a1_1 : Int) (l1_2 : List Int) (a2 : Int) (a3_0 : Int) (a3_1 : Int) (l3_2 : List Int) (a4 : ByteArray) (a5 : Int) (a6 : Int), I64 a0_0 → I64 a0_1 → l0_2.length ≤ 9223372036854775807 → (∀ n ∈ l0_2, I64 n) → I64 a1_0 → I64 a1_1 → l1_2.length ≤ 9223372036854775807 → (∀ n ∈ l1_2, I64 n) → I64 a2 → I64 a3_0 → I64 a3_1 → l3_2.length ≤ 9223372036854775807 → (∀ n ∈ l3_2, I64 n) → I64 a5 → I64 a6 → ∃ k : Nat, Q.laws_FnBoardsTurnedOfAll.f k a0_0 a0_1 l0_2 a1_0 a1_1 l1_2 a2 a3_0 a3_1 l3_2 a4 a5 a6 = some true
end Go.Proofs.Ytmfbhhicioepjaa.Pure

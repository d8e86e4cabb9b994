/- The printer's words, those of them that this claim's texts name; what each says stands in its theorem. -/
import Derived.Test.YtekajjhjjnfdpaaWInv
import Derived.Test.YtekajjhjjnfdpaaWFootNe
namespace Go.Proofs.YtekajjhjjnfdpaaW.PrintWords
open Go.RowKit
end Go.Proofs.YtekajjhjjnfdpaaW.PrintWords
namespace Go.Proofs.YtekajjhjjnfdpaaW.PrintLast
section
variable {ops : Array Oper} {a : Act} {o og : Oper} {g : Nat} {t : Tmp} {u : Bool}
end
end Go.Proofs.YtekajjhjjnfdpaaW.PrintLast

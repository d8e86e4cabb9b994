/- The printer's words, those of them that this claim's texts name; what each says stands in its theorem. -/
import Derived.Test.YtjeongckkfkehaaWInv
import Derived.Test.YtjeongckkfkehaaWFootNe
namespace Go.Proofs.YtjeongckkfkehaaW.PrintWords
open Go.RowKit
end Go.Proofs.YtjeongckkfkehaaW.PrintWords
namespace Go.Proofs.YtjeongckkfkehaaW.PrintLast
section
variable {ops : Array Oper} {a : Act} {o og : Oper} {g : Nat} {t : Tmp} {u : Bool}
end
end Go.Proofs.YtjeongckkfkehaaW.PrintLast

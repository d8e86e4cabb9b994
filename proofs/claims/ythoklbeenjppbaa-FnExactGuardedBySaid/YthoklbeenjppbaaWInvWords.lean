/- The printer's words, those of them that this claim's texts name; what each says stands in its theorem. -/
import Derived.Test.YthoklbeenjppbaaWInv
import Derived.Test.YthoklbeenjppbaaWFootNe
namespace Go.Proofs.YthoklbeenjppbaaW.PrintWords
open Go.RowKit
end Go.Proofs.YthoklbeenjppbaaW.PrintWords
namespace Go.Proofs.YthoklbeenjppbaaW.PrintLast
section
variable {ops : Array Oper} {a : Act} {o og : Oper} {g : Nat} {t : Tmp} {u : Bool}
end
end Go.Proofs.YthoklbeenjppbaaW.PrintLast

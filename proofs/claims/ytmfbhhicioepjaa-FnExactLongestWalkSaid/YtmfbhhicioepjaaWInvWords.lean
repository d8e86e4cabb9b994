/- The printer's words, those of them that this claim's texts name; what each says stands in its theorem. -/
import Derived.Test.YtmfbhhicioepjaaWInv
import Derived.Test.YtmfbhhicioepjaaWFootNe
namespace Go.Proofs.YtmfbhhicioepjaaW.PrintWords
open Go.RowKit
end Go.Proofs.YtmfbhhicioepjaaW.PrintWords
namespace Go.Proofs.YtmfbhhicioepjaaW.PrintLast
section
variable {ops : Array Oper} {a : Act} {o og : Oper} {g : Nat} {t : Tmp} {u : Bool}
end
end Go.Proofs.YtmfbhhicioepjaaW.PrintLast

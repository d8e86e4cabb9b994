/- The printer's words, those of them that this claim's texts name; what each says stands in its theorem. -/
import Derived.Test.YtfjomkjngolboaaWInv
import Derived.Test.YtfjomkjngolboaaWFootNe
namespace Go.Proofs.YtfjomkjngolboaaW.PrintWords
open Go.RowKit
end Go.Proofs.YtfjomkjngolboaaW.PrintWords
namespace Go.Proofs.YtfjomkjngolboaaW.PrintLast
section
variable {ops : Array Oper} {a : Act} {o og : Oper} {g : Nat} {t : Tmp} {u : Bool}
end
end Go.Proofs.YtfjomkjngolboaaW.PrintLast

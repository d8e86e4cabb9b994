/- The printer's words, those of them that this claim's texts name; what each says stands in its theorem. -/
import Derived.Test.YtemaokhlolimhaaWInv
import Derived.Test.YtemaokhlolimhaaWFootNe
namespace Go.Proofs.YtemaokhlolimhaaW.PrintWords
open Go.RowKit
end Go.Proofs.YtemaokhlolimhaaW.PrintWords
namespace Go.Proofs.YtemaokhlolimhaaW.PrintLast
section
variable {ops : Array Oper} {a : Act} {o og : Oper} {g : Nat} {t : Tmp} {u : Bool}
end
end Go.Proofs.YtemaokhlolimhaaW.PrintLast

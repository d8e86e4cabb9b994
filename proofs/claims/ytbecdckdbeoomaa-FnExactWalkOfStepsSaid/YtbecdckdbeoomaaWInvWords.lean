/- The printer's words, those of them that this claim's texts name; what each says stands in its theorem. -/
import Derived.Test.YtbecdckdbeoomaaWInv
import Derived.Test.YtbecdckdbeoomaaWFootNe
namespace Go.Proofs.YtbecdckdbeoomaaW.PrintWords
open Go.RowKit
end Go.Proofs.YtbecdckdbeoomaaW.PrintWords
namespace Go.Proofs.YtbecdckdbeoomaaW.PrintLast
section
variable {ops : Array Oper} {a : Act} {o og : Oper} {g : Nat} {t : Tmp} {u : Bool}
end
end Go.Proofs.YtbecdckdbeoomaaW.PrintLast

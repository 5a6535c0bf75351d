/- Words of the kit's print, as it writes them for this seat; what the claims at hand do not reach is left out by a program of this session. Lean checks them. -/
import Derived.Test.YtfleephpcomimaaWInv
import Derived.Test.YtfleephpcomimaaWFootNe
namespace Go.Proofs.YtfleephpcomimaaW.PrintWords
open Go.RowKit
end Go.Proofs.YtfleephpcomimaaW.PrintWords
namespace Go.Proofs.YtfleephpcomimaaW.PrintLast
section
variable {ops : Array Oper} {a : Act} {o og : Oper} {g : Nat} {t : Tmp} {u : Bool}
end
end Go.Proofs.YtfleephpcomimaaW.PrintLast

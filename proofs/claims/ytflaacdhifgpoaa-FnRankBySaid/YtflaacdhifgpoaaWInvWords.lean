/- Words of the kit's print, as it writes them for this seat; what the claims at hand do not reach is left out by a program of this session. Lean checks them. -/
import Derived.Test.YtflaacdhifgpoaaWInv
import Derived.Test.YtflaacdhifgpoaaWFootNe
namespace Go.Proofs.YtflaacdhifgpoaaW.PrintWords
open Go.RowKit
end Go.Proofs.YtflaacdhifgpoaaW.PrintWords
namespace Go.Proofs.YtflaacdhifgpoaaW.PrintLast
section
variable {ops : Array Oper} {a : Act} {o og : Oper} {g : Nat} {t : Tmp} {u : Bool}
end
end Go.Proofs.YtflaacdhifgpoaaW.PrintLast

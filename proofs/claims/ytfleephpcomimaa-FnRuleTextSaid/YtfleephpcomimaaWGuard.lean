/- Words of the kit's print, as it writes them for this seat; what the claims at hand do not reach is left out by a program of this session. Lean checks them. -/
import Derived.Test.YtfleephpcomimaaWWords
namespace Go.Proofs.YtfleephpcomimaaW.PrintWords
open Go.RowKit
section
variable {P : Program} {ops : Array Oper} {rest : List Oper} {o : Oper} {a : Act} {Q : Exit → Act → World → Prop} {W : World}
end
end Go.Proofs.YtfleephpcomimaaW.PrintWords

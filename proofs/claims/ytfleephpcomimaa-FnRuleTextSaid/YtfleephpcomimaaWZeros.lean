/- Words of the kit's print, as it writes them for this seat; what the claims at hand do not reach is left out by a program of this session. Lean checks them. -/
import Derived.Test.YtfleephpcomimaaWApart
import Derived.Test.YtfleephpcomimaaWArr
namespace Go.Proofs.YtfleephpcomimaaW.PrintWords
open Go.RowKit
section
variable {P : Program}
end
namespace Kd
section
variable {P : Program} {ops : Array Oper} {rest : List Oper} {o : Oper} {a : Act} {Q : Exit → Act → World → Prop} {Kc : Act → World → Prop} {α : Type}
end
section
variable {α : Type} {d : Kd α} {e : Nat} {w : World} {base : Nat} {ok : Nat → Prop} {v : Value} {xs : List α}
end
section
variable {P : Program} {ops : Array Oper} {rest : List Oper} {o : Oper} {a : Act} {Q : Exit → Act → World → Prop} {Kc : Act → World → Prop} {α : Type}
end
end Kd
end Go.Proofs.YtfleephpcomimaaW.PrintWords

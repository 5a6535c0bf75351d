/- Words of the kit's print, as it writes them for this seat; what the claims at hand do not reach is left out by a program of this session. Lean checks them. -/
import Derived.Test.YtfleephpcomimaaWN
namespace Go.Proofs.YtfleephpcomimaaW.PrintWords
open Go.RowKit
namespace Kd
section
variable {α : Type} {d : Kd α} {e base n cap g : Nat} {ok ok' okp : Nat → Prop} {w w1 W : World} {v v1 : Value} {xs ys : List α}
end
section
variable {P : Program} {ops : Array Oper} {rest : List Oper} {o : Oper} {a : Act} {Q : Exit → Act → World → Prop} {Kc : Act → World → Prop} {α : Type}
end
end Kd
end Go.Proofs.YtfleephpcomimaaW.PrintWords

/- Words of the kit's print, as it writes them for this seat; what the claims at hand do not reach is left out by a program of this session. Lean checks them. -/
import Derived.Test.YtfleephpcomimaaWN
namespace Go.Proofs.YtfleephpcomimaaW.PrintWords
open Go.RowKit
namespace Kd
section
variable {α : Type} {d : Kd α} {W : World} {g n : Nat} {S ok : Nat → Prop} {A : Option Addr} {ad : Addr} {xs : List α}
end
end Kd
end Go.Proofs.YtfleephpcomimaaW.PrintWords

/- Contracts of functions of the program: whatever a function's pure reading answers, the call returns. Printed by a program of this session (the kit's print, with contracts by hand beside it). Conditions: those of each theorem. -/
import Derived.Test.YtfleephpcomimaaProg
import Derived.Below
import Derived.Deep.Draws
import Derived.Deep.AppendLies
import Derived.Maps.AppendAt
import Derived.OwnWalk
import Derived.Laws.BytesArg
import Derived.Laws.MakeOwn
import Derived.Laws.OwnMore
import Derived.Deep.OwnRows
import Derived.Tactics
import Derived.Lib.ConvBytes
import Derived.Laws.Slices
import Derived.WalkKit
import Derived.KernelRfl
import Derived.RowKit3
import Derived.Deep.LoopGhost
import Derived.Deep.QuietTactic
import Derived.BigQuiet
import Derived.WideLaws
import Derived.Deep.DeepCutAuto
import Derived.Deep.CutBlock
import Derived.Deep.RegionHeld3
import Derived.Laws.Rows
import Derived.Lib.AppendStr
import Derived.ArgAppend
import Derived.Laws.IdiomCopy
import Derived.OrdersHeld
import Derived.Laws.BitsLemmas
import Derived.RowKit
import Derived.Test.YtfleephpcomimaaHand
import Derived.Shelf.Strings.Cut
import Derived.Lib.IndexMore
import Derived.Shelf.Vars
import Derived.Test.YtfleephpcomimaaWWords
import Derived.Test.YtfleephpcomimaaWLast
import Derived.Test.YtfleephpcomimaaWTab
import Derived.Test.YtfleephpcomimaaWFour
import Derived.Test.YtfleephpcomimaaWQPut
import Derived.Test.YtfleephpcomimaaWApart
import Derived.Test.YtfleephpcomimaaWArr
import Derived.Test.YtfleephpcomimaaWZeros
import Derived.Test.YtfleephpcomimaaWFoot
import Derived.Test.YtfleephpcomimaaWKept
import Derived.Test.YtfleephpcomimaaWShare
import Derived.Test.YtfleephpcomimaaWN
import Derived.Test.YtfleephpcomimaaWFootNe
import Derived.Test.YtfleephpcomimaaWAt
import Derived.Test.YtfleephpcomimaaWEqStruct
import Derived.Test.YtfleephpcomimaaWRepsOne
import Derived.Test.YtfleephpcomimaaWInv
import Derived.Test.YtfleephpcomimaaWInvWords
import Derived.Test.YtfleephpcomimaaWGuard
import Derived.Test.YtfleephpcomimaaWNEv
import Derived.Test.YtfleephpcomimaaWMore
namespace Go.Proofs.Ytfleephpcomimaa.V
open Go.Proofs.BelM
open Go.RowKit Go.Proofs.YtfleephpcomimaaW.PrintWords Go.Proofs.YtfleephpcomimaaW.PrintLast Go.Proofs.YtfleephpcomimaaW.PrintMore
attribute [local go_sem] max2_int min2_int max_two min_two max_three min_three max_four min_four   -- for this text's walks alone
set_option linter.unusedVariables false
set_option linter.unusedSimpArgs false



def errW : Option Int → Value
  | none => .nilIface
  | some c => .iface 0 (.int .i64 c)
theorem errW_none : errW none = .nilIface := rfl
theorem errW_some (c : Int) : errW (some c) = .iface 0 (.int .i64 c) := rfl

theorem info3 : (Try.prog.info? 3).map (fun i => (i.zero, i.size, i.bytes)) = some (some (.int .i64 0), 1, 8) := by kernel_rfl
theorem info5 : (Try.prog.info? 5).map (fun i => (i.zero, i.size, i.bytes)) = some (some (.int .u8 0), 1, 1) := by kernel_rfl
theorem info9 : (Try.prog.info? 9).map (fun i => (i.zero, i.size, i.bytes)) = some (some (.string ⟨#[]⟩), 1, 16) := by kernel_rfl
-- the values' own types

end Go.Proofs.Ytfleephpcomimaa.V

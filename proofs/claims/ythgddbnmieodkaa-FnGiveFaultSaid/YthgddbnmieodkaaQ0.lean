/- Contracts of functions of the program: whatever a function's pure reading answers, the call returns. Printed by a program of this session (the kit's print, with contracts by hand beside it). Conditions: those of each theorem. -/
import Derived.Test.YthgddbnmieodkaaProg
import Derived.Below
import Derived.Deep.Draws
import Derived.Deep.AppendLies
import Derived.Maps.AppendAt
import Derived.OwnWalk
import Derived.Laws.BytesArg
import Derived.Laws.MakeOwn
import Derived.Laws.OwnMore
import Derived.Deep.OwnRows
import Derived.Tactics
import Derived.Lib.ConvBytes
import Derived.Laws.Slices
import Derived.WalkKit
import Derived.KernelRfl
import Derived.RowKit3
import Derived.Deep.LoopGhost
import Derived.Deep.QuietTactic
import Derived.BigQuiet
import Derived.WideLaws
import Derived.Deep.DeepCutAuto
import Derived.Deep.CutBlock
import Derived.Deep.RegionHeld3
import Derived.Laws.Rows
import Derived.Lib.AppendStr
import Derived.ArgAppend
import Derived.Laws.IdiomCopy
import Derived.OrdersHeld
import Derived.Laws.BitsLemmas
import Derived.RowKit
import Derived.Test.YthgddbnmieodkaaHand
import Derived.Test.YthgddbnmieodkaaWWords
import Derived.Test.YthgddbnmieodkaaWLast
import Derived.Test.YthgddbnmieodkaaWTab
import Derived.Test.YthgddbnmieodkaaWFour
import Derived.Test.YthgddbnmieodkaaWQPut
import Derived.Test.YthgddbnmieodkaaWApart
import Derived.Test.YthgddbnmieodkaaWArr
import Derived.Test.YthgddbnmieodkaaWZeros
import Derived.Test.YthgddbnmieodkaaWFoot
import Derived.Test.YthgddbnmieodkaaWKept
import Derived.Test.YthgddbnmieodkaaWShare
import Derived.Test.YthgddbnmieodkaaWN
import Derived.Test.YthgddbnmieodkaaWFootNe
import Derived.Test.YthgddbnmieodkaaWAt
import Derived.Test.YthgddbnmieodkaaWEqStruct
import Derived.Test.YthgddbnmieodkaaWRepsOne
import Derived.Test.YthgddbnmieodkaaWInv
import Derived.Test.YthgddbnmieodkaaWInvWords
import Derived.Test.YthgddbnmieodkaaWGuard
import Derived.Test.YthgddbnmieodkaaWNEv
import Derived.Test.YthgddbnmieodkaaWMore
namespace Go.Proofs.Ythgddbnmieodkaa.Q
open Go.Proofs.BelM
open Go.RowKit Go.Proofs.YthgddbnmieodkaaW.PrintWords Go.Proofs.YthgddbnmieodkaaW.PrintLast Go.Proofs.YthgddbnmieodkaaW.PrintMore
attribute [local go_sem] max2_int min2_int max_two min_two max_three min_three max_four min_four   -- for this text's walks alone
set_option linter.unusedVariables false
set_option linter.unusedSimpArgs false



def errW : Option Int → Value
  | none => .nilIface
  | some c => .iface 0 (.int .i64 c)
theorem errW_none : errW none = .nilIface := rfl
theorem errW_some (c : Int) : errW (some c) = .iface 0 (.int .i64 c) := rfl

theorem info3 : (Try.prog.info? 3).map (fun i => (i.zero, i.size, i.bytes)) = some (some (.int .i64 0), 1, 8) := by kernel_rfl
theorem info5 : (Try.prog.info? 5).map (fun i => (i.zero, i.size, i.bytes)) = some (some (.int .u8 0), 1, 1) := by kernel_rfl
-- the values' own types

end Go.Proofs.Ythgddbnmieodkaa.Q

/- Plain facts about what the printed functions answer (several pieces in one text). Conditions: those of each theorem. -/
import Derived.Test.YtflaacdhifgpoaaS4
import Derived.Test.YtflaacdhifgpoaaSLibA
import Derived.Test.YtflaacdhifgpoaaSets
set_option linter.unusedVariables false
set_option linter.unusedSimpArgs false
namespace Go.Proofs.Ytflaacdhifgpoaa.LS
open Go.RowKit Go.Proofs.YtflaacdhifgpoaaW.PrintWords Go.Proofs.YtflaacdhifgpoaaW.PrintLast Go.Proofs.YtflaacdhifgpoaaW.PrintMore Go.Proofs.BelM Go.Proofs.Ytflaacdhifgpoaa.S
/-! #### FLawAlive -/
theorem alive_eq : laws_alive.f = some true := by decide +kernel
end Go.Proofs.Ytflaacdhifgpoaa.LS

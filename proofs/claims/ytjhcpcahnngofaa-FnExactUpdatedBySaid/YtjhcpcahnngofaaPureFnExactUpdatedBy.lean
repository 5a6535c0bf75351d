/- UpdatedBy of the program returns what the reference's returns, for all arguments. Conditions: none beyond the statement's own. -/
import Derived.Test.YtjhcpcahnngofaaP11
import Derived.Test.YtjhcpcahnngofaaFUpd
import Derived.Test.YtjhcpcahnngofaaSets
set_option linter.unusedVariables false
set_option linter.unusedSimpArgs false
namespace Go.Proofs.Ytjhcpcahnngofaa.Pure
open Go.RowKit Go.Proofs.YtjhcpcahnngofaaW.PrintWords Go.Proofs.YtjhcpcahnngofaaW.PrintLast Go.Proofs.YtjhcpcahnngofaaW.PrintMore Go.Proofs.BelM Go.Proofs.Ytjhcpcahnngofaa.P Go.Proofs.Ytjhcpcahnngofaa.L

theorem FnExactUpdatedBy : laws_FnExactUpdatedBy.Pure := by
  intro a0 a1 a2 w0 w1 w2
  refine ⟨200, ?_⟩
  unfold laws_FnExactUpdatedBy.f
  rw [spec_UpdatedBy_eq _ _ _ (by omega), impl_UpdatedBy_eq _ _ _ (by omega)]
  simp only [Option.bind_some]
  rw [if_pos trivial]

end Go.Proofs.Ytjhcpcahnngofaa.Pure

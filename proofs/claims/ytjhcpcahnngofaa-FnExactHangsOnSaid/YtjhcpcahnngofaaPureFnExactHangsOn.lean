/- HangsOn of the program returns what the reference's returns, for all arguments. Conditions: none beyond the statement's own. -/
import Derived.Test.YtjhcpcahnngofaaP4
import Derived.Test.YtjhcpcahnngofaaFUpd
import Derived.Test.YtjhcpcahnngofaaSets
set_option linter.unusedVariables false
set_option linter.unusedSimpArgs false
namespace Go.Proofs.Ytjhcpcahnngofaa.Pure
open Go.RowKit Go.Proofs.YtjhcpcahnngofaaW.PrintWords Go.Proofs.YtjhcpcahnngofaaW.PrintLast Go.Proofs.YtjhcpcahnngofaaW.PrintMore Go.Proofs.BelM Go.Proofs.Ytjhcpcahnngofaa.P Go.Proofs.Ytjhcpcahnngofaa.L

theorem FnExactHangsOn : laws_FnExactHangsOn.Pure := by
  intro a0 a1 a2 w0 w1 w2
  refine ⟨20, ?_⟩
  unfold laws_FnExactHangsOn.f
  rw [spec_HangsOn_eq _ _ _ (by omega), impl_HangsOn_eq]
  simp only [Option.bind_some]
  rw [if_neg (by simp)]

end Go.Proofs.Ytjhcpcahnngofaa.Pure

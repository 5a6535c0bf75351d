/- RuleOk of the program returns what the reference's returns, for all arguments. Conditions: none beyond the statement's own. -/
import Derived.Test.YtflaacdhifgpoaaP1
import Derived.Test.YtflaacdhifgpoaaLibA
import Derived.Test.YtflaacdhifgpoaaSets
set_option linter.unusedVariables false
set_option linter.unusedSimpArgs false
namespace Go.Proofs.Ytflaacdhifgpoaa.Pure
open Go.RowKit Go.Proofs.YtflaacdhifgpoaaW.PrintWords Go.Proofs.YtflaacdhifgpoaaW.PrintLast Go.Proofs.YtflaacdhifgpoaaW.PrintMore Go.Proofs.BelM Go.Proofs.Ytflaacdhifgpoaa.P Go.Proofs.Ytflaacdhifgpoaa.L

theorem FnExactRuleOk : laws_FnExactRuleOk.Pure := by
  intro a0 a1 a2 w0 w1 w2
  unfold laws_FnExactRuleOk.f laws_toRule.f
  simp only [Option.bind_some]
  rw [spec_RuleOk_eq, impl_RuleOk_eq]
  simp only [Option.bind_some]
  rw [if_neg (by simp)]

end Go.Proofs.Ytflaacdhifgpoaa.Pure

/- RuleText of the program returns what the reference's returns, for all arguments. Conditions: none beyond the statement's own. -/
import Derived.Test.YtfleephpcomimaaR4
import Derived.Test.YtfleephpcomimaaR5
import Derived.Test.YtfleephpcomimaaRLibA
import Derived.Test.YtfleephpcomimaaSets
set_option linter.unusedVariables false
set_option linter.unusedSimpArgs false
namespace Go.Proofs.Ytfleephpcomimaa.Pure
open Go.RowKit Go.Proofs.YtfleephpcomimaaW.PrintWords Go.Proofs.YtfleephpcomimaaW.PrintLast Go.Proofs.YtfleephpcomimaaW.PrintMore Go.Proofs.BelM Go.Proofs.Ytfleephpcomimaa.R Go.Proofs.Ytfleephpcomimaa.LR

theorem FnExactRuleText : laws_FnExactRuleText.Pure := by
  intro t x y w0 w1 w2
  refine ⟨100, ?_⟩
  unfold laws_FnExactRuleText.f laws_toRule.f
  simp only [Option.bind_some]
  rw [spec_RuleText_eq _ _ _ (by omega), impl_RuleText_eq _ _ _ (by omega)]
  simp only [Option.bind_some]
  rw [if_pos trivial]

end Go.Proofs.Ytfleephpcomimaa.Pure

/- RulesOk of the program returns what the reference's returns, for all arguments. Conditions: none beyond the statement's own. -/
import Derived.Test.YtflaacdhifgpoaaS4
import Derived.Test.YtflaacdhifgpoaaSLibA
import Derived.Test.YtflaacdhifgpoaaSets
set_option linter.unusedVariables false
set_option linter.unusedSimpArgs false
namespace Go.Proofs.Ytflaacdhifgpoaa.Pure
open Go.RowKit Go.Proofs.YtflaacdhifgpoaaW.PrintWords Go.Proofs.YtflaacdhifgpoaaW.PrintLast Go.Proofs.YtflaacdhifgpoaaW.PrintMore Go.Proofs.BelM Go.Proofs.Ytflaacdhifgpoaa.S Go.Proofs.Ytflaacdhifgpoaa.LS

theorem FnExactRulesOk : laws_FnExactRulesOk.Pure := by
  intro a0 l1 h0 h1 h2 h3
  refine ⟨l1.length + 100, ?_⟩
  unfold laws_FnExactRulesOk.f
  rw [szRuleS_eq l1 (by omega)]
  simp only [Option.bind_some]
  by_cases hl : l1.length ≤ 1048576
  · have hc : (conv l1).length ≤ 17592186044416 := by rw [conv_len]; omega
    rw [if_pos hl, if_neg (by omega), toRuleS_eq (by omega) (by omega)]
    simp only [Option.bind_some]
    rw [spec_RulesOk_eq _ _ hc (by rw [conv_len]; omega), impl_RulesOk_eq]
    simp only [Option.bind_some]
    rw [if_neg (by simp), eqRuleS_self hc (by rw [conv_len]; omega)]
    rfl
  · rw [if_neg hl, if_pos (by omega)]

end Go.Proofs.Ytflaacdhifgpoaa.Pure

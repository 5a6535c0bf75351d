/- RuleHolds of the program returns what the reference's returns, for all arguments. Conditions: none beyond the statement's own. -/
import Derived.Test.YtfleephpcomimaaQ12
import Derived.Test.YtfleephpcomimaaQLibB
import Derived.Test.YtfleephpcomimaaQLibD
import Derived.Test.YtfleephpcomimaaSets
set_option linter.unusedVariables false
set_option linter.unusedSimpArgs false
namespace Go.Proofs.Ytfleephpcomimaa.Pure
open Go.RowKit Go.Proofs.YtfleephpcomimaaW.PrintWords Go.Proofs.YtfleephpcomimaaW.PrintLast Go.Proofs.YtfleephpcomimaaW.PrintMore Go.Proofs.BelM Go.Proofs.Ytfleephpcomimaa.Q Go.Proofs.Ytfleephpcomimaa.LQ

open Classical in
theorem FnExactRuleHolds : laws_FnExactRuleHolds.Pure := by
  intro a0 a1 l2 l3 a4 w0 w1 g1 g2 g3 h1 h2 h3 w4
  refine ⟨l2.length + l3.length + 400, ?_⟩
  unfold laws_FnExactRuleHolds.f
  by_cases hl : (l2.length : Int) > 1048576
  · rw [if_pos hl]
  · rw [if_neg hl]
    by_cases hl3 : (l3.length : Int) > 1048576
    · rw [if_pos hl3]
    · rw [if_neg hl3, toIntS_eq (l := l2) (by omega) (by omega), toIntS_eq (l := l3) (by omega) (by omega)]
      simp only [Option.bind_some]
      rw [spec_RuleHolds_eq _ _ _ _ _ (by omega) (by omega) (by omega), impl_RuleHolds_eq _ _ _ _ _ (by omega)]
      simp only [Option.bind_some]
      rw [if_neg (by simp), eqIntS_self (l := l2) (by omega) (by omega), eqIntS_self (l := l3) (by omega) (by omega)]
      simp only [Option.bind_some]
      rw [if_pos trivial, if_pos trivial]

end Go.Proofs.Ytfleephpcomimaa.Pure

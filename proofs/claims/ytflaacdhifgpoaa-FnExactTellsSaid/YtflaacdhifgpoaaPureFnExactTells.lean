/- Tells of the program returns what the reference's returns, for all arguments. Conditions: none beyond the statement's own. -/
import Derived.Test.YtflaacdhifgpoaaQ1
import Derived.Test.YtflaacdhifgpoaaQ16
import Derived.Test.YtflaacdhifgpoaaQLibD
import Derived.Test.YtflaacdhifgpoaaQLibA
import Derived.Test.YtflaacdhifgpoaaSets
set_option linter.unusedVariables false
set_option linter.unusedSimpArgs false
namespace Go.Proofs.Ytflaacdhifgpoaa.Pure
open Go.RowKit Go.Proofs.YtflaacdhifgpoaaW.PrintWords Go.Proofs.YtflaacdhifgpoaaW.PrintLast Go.Proofs.YtflaacdhifgpoaaW.PrintMore Go.Proofs.BelM Go.Proofs.Ytflaacdhifgpoaa.Q Go.Proofs.Ytflaacdhifgpoaa.LQ

theorem FnExactTells : laws_FnExactTells.Pure := by
  intro a0 l1 x y h0 h1 h2 h3 w2 w3
  obtain ⟨m, hm⟩ : ∃ m, m = l1.length + 5000 := ⟨_, rfl⟩
  refine ⟨m, ?_⟩
  unfold laws_FnExactTells.f laws_toRule.f
  rw [szRuleS_eq l1 (by omega)]
  simp only [Option.bind_some]
  by_cases hl : l1.length ≤ 1048576
  · have hc : (conv l1).length = l1.length := conv_len l1
    rw [if_pos hl, if_neg (by omega), toRuleS_eq (by omega) (by omega)]
    simp only [Option.bind_some]
    rw [spec_Tells_eq _ _ _ _ (by omega) (by omega), impl_Tells_eq _ _ _ _ (by omega)]
    simp only [Option.bind_some]
    rw [if_neg (by simp), eqRuleS_self (by omega) (by omega)]
    rfl
  · rw [if_neg hl, if_pos (by omega)]

end Go.Proofs.Ytflaacdhifgpoaa.Pure

/- Accepts of the program returns what the reference's returns, for all arguments. Conditions: none beyond the statement's own. -/
import Derived.Test.YtflaacdhifgpoaaP1
import Derived.Test.YtflaacdhifgpoaaP10
import Derived.Test.YtflaacdhifgpoaaLibA
import Derived.Test.YtflaacdhifgpoaaLibB
import Derived.Test.YtflaacdhifgpoaaSets
set_option linter.unusedVariables false
set_option linter.unusedSimpArgs false
namespace Go.Proofs.Ytflaacdhifgpoaa.Pure
open Go.RowKit Go.Proofs.YtflaacdhifgpoaaW.PrintWords Go.Proofs.YtflaacdhifgpoaaW.PrintLast Go.Proofs.YtflaacdhifgpoaaW.PrintMore Go.Proofs.BelM Go.Proofs.Ytflaacdhifgpoaa.P Go.Proofs.Ytflaacdhifgpoaa.L

open Classical in
theorem FnExactAccepts : laws_FnExactAccepts.Pure := by
  intro a0 l1 a2 a3 w0 h1 h2 h3 w2 w3
  refine ⟨l1.length + 100, ?_⟩
  unfold laws_FnExactAccepts.f laws_toRule.f
  by_cases hl : (l1.length : Int) > 1048576
  · rw [if_pos hl]
  · rw [if_neg hl, toIntS_eq (by omega) (by omega)]
    simp only [Option.bind_some]
    rw [spec_Accepts_eq _ _ _ _ (by omega) (by omega), impl_Accepts_eq _ _ _ _ (by omega)]
    simp only [Option.bind_some]
    rw [if_neg (by simp), eqIntS_self (by omega) (by omega)]
    simp only [Option.bind_some]
    rw [if_pos trivial]

end Go.Proofs.Ytflaacdhifgpoaa.Pure

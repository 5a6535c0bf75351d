/- With the same set twice, if it is not empty, it is a rule, whatever is drawn. Conditions: none beyond the statement's own. -/
import Derived.Test.YtflaacdhifgpoaaP4
import Derived.Test.YtflaacdhifgpoaaP5
import Derived.Test.YtflaacdhifgpoaaLibA
import Derived.Test.YtflaacdhifgpoaaLibC
import Derived.Test.YtflaacdhifgpoaaLibB
import Derived.Test.YtflaacdhifgpoaaSets
set_option linter.unusedVariables false
set_option linter.unusedSimpArgs false
namespace Go.Proofs.Ytflaacdhifgpoaa.Pure
open Go.RowKit Go.Proofs.YtflaacdhifgpoaaW.PrintWords Go.Proofs.YtflaacdhifgpoaaW.PrintLast Go.Proofs.YtflaacdhifgpoaaW.PrintMore Go.Proofs.BelM Go.Proofs.Ytflaacdhifgpoaa.P Go.Proofs.Ytflaacdhifgpoaa.L

theorem FnRuleOk : laws_FnRuleOk.Pure := by
  intro l0 h1 h2 h3
  refine ⟨100, ?_⟩
  unfold laws_FnRuleOk.f
  by_cases hl : (l0.length : Int) > 1048576
  · rw [if_pos hl]
  · rw [if_neg hl]
    obtain ⟨t, x, y, e⟩ := drawRule_ok h3 (k := 100) (by omega)
    rw [e]
    simp only [Option.bind_some]
    rw [impl_RuleOk_eq, spec_RuleOk_eq, impl_RuleOk_eq]
    unfold impl_SetOk.f
    rw [isSet_eq]
    simp only [Option.bind_some]
    rw [if_neg (by simp)]
    by_cases hx : SetP t x
    · rw [if_pos (by simp [hx]), if_pos (by
        rw [beq_iff_eq]
        by_cases h0 : x = 0
        · simp [RuleP, h0]
        · simp [RuleP, h0, hx]), alive_eq]
      rfl
    · rw [if_neg (by simp [hx]), if_pos (by simp [RuleP, hx]), alive_eq]
      rfl

end Go.Proofs.Ytflaacdhifgpoaa.Pure

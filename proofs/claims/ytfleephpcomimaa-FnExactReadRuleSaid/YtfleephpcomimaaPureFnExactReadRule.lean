/- ReadRule of the program returns what the reference's returns, for all arguments. Conditions: none beyond the statement's own. -/
import Derived.Test.YtfleephpcomimaaV7
import Derived.Test.YtfleephpcomimaaVLibA
import Derived.Test.YtfleephpcomimaaSets
set_option linter.unusedVariables false
set_option linter.unusedSimpArgs false
namespace Go.Proofs.Ytfleephpcomimaa.Pure
open Go.RowKit Go.Proofs.YtfleephpcomimaaW.PrintWords Go.Proofs.YtfleephpcomimaaW.PrintLast Go.Proofs.YtfleephpcomimaaW.PrintMore Go.Proofs.BelM Go.Proofs.Ytfleephpcomimaa.V Go.Proofs.Ytfleephpcomimaa.LV

theorem FnExactReadRule : laws_FnExactReadRule.Pure := by
  intro t s w0 w1
  refine ⟨3000000, ?_⟩
  unfold laws_FnExactReadRule.f
  by_cases hl : (s.size : Int) > 1048576
  · rw [if_pos hl]
  · rw [if_neg hl]
    obtain ⟨r, e1, e2⟩ := ReadRule_same (s := s) t (by omega) (k := 3000000) (by omega)
    rw [e1, e2]
    simp only [Option.bind_some]
    unfold laws_eqRule.f
    rw [if_pos rfl, if_pos rfl]
    simp only [Option.bind_some]
    rw [if_pos trivial, if_neg (by simp)]

end Go.Proofs.Ytfleephpcomimaa.Pure

/- TakenIn of the program returns what the reference's returns, for all arguments. Conditions: none beyond the statement's own. -/
import Derived.Test.YthgddbnmieodkaaP6
import Derived.Test.YthgddbnmieodkaaLibE
import Derived.Test.YthgddbnmieodkaaLibF
import Derived.Test.YthgddbnmieodkaaSets
set_option linter.unusedVariables false
set_option linter.unusedSimpArgs false
namespace Go.Proofs.Ythgddbnmieodkaa.Pure
open Go.RowKit Go.Proofs.YthgddbnmieodkaaW.PrintWords Go.Proofs.YthgddbnmieodkaaW.PrintLast Go.Proofs.YthgddbnmieodkaaW.PrintMore Go.Proofs.BelM Go.Proofs.Ythgddbnmieodkaa.P Go.Proofs.Ythgddbnmieodkaa.L

theorem FnExactTakenIn : laws_FnExactTakenIn.Pure := by
  intro a0 l1 a2 w0 h1 h2 h3 w2
  refine ⟨l1.length + 100, ?_⟩
  unfold laws_FnExactTakenIn.f
  by_cases hl : (l1.length : Int) > 1048576
  · rw [if_pos hl]
  · rw [if_neg hl, toIntS_eq (by omega) (by omega)]
    simp only [Option.bind_some]
    rw [spec_TakenIn_eq _ _ _ (by omega) (by omega), impl_TakenIn_eq _ _ _ (by omega), eqIntS_self (by omega) (by omega)]
    simp only [Option.bind_some]
    rw [if_pos trivial, if_pos trivial]

end Go.Proofs.Ythgddbnmieodkaa.Pure

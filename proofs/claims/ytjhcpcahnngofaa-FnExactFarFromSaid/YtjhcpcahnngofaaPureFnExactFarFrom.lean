/- FarFrom of the program returns what the reference's returns, for all arguments, in new memory. Conditions: none beyond the statement's own. -/
import Derived.Test.YtjhcpcahnngofaaP7
import Derived.Test.YtjhcpcahnngofaaFUpd
import Derived.Test.YtjhcpcahnngofaaFLists
import Derived.Test.YtjhcpcahnngofaaSets
set_option linter.unusedVariables false
set_option linter.unusedSimpArgs false
namespace Go.Proofs.Ytjhcpcahnngofaa.Pure
open Go.RowKit Go.Proofs.YtjhcpcahnngofaaW.PrintWords Go.Proofs.YtjhcpcahnngofaaW.PrintLast Go.Proofs.YtjhcpcahnngofaaW.PrintMore Go.Proofs.BelM Go.Proofs.Ytjhcpcahnngofaa.P Go.Proofs.Ytjhcpcahnngofaa.L

theorem far_len {t s : Int} : (if SetP t s ∧ s ≠ 0 then far (2 ^ t.toNat) s else []).length ≤ 8 := by
  split
  · rename_i h
    rw [far_length]; exact worlds_le h.1.1
  · simp
theorem FnExactFarFrom : laws_FnExactFarFrom.Pure := by
  intro a0 a1 w0 w1
  refine ⟨200, ?_⟩
  unfold laws_FnExactFarFrom.f
  have hl := far_len (t := a0) (s := a1)
  rw [spec_FarFrom_eq _ _ (by omega), impl_FarFrom_eq _ _ (by omega)]
  simp only [Option.bind_some]
  generalize (if SetP a0 a1 ∧ a1 ≠ 0 then far (2 ^ a0.toNat) a1 else []) = l at hl
  rw [eqIntS_self (by omega) (by omega), markIntS_eq (by omega) (by omega)]
  simp only [Option.bind_some]
  rw [if_pos trivial, heldIntS_eq (by omega) (by omega)]
  simp only [Option.bind_some]
  rw [if_neg (by omega), if_pos trivial, if_pos trivial, if_neg (by omega), if_pos trivial]

end Go.Proofs.Ytjhcpcahnngofaa.Pure

/- ChangedBy of the program returns what the reference's returns, for all arguments. Conditions: none beyond the statement's own. -/
import Derived.Test.YtfleephpcomimaaP16
import Derived.Test.YtfleephpcomimaaLibB
import Derived.Test.YtfleephpcomimaaLibC
import Derived.Test.YtfleephpcomimaaSets
set_option linter.unusedVariables false
set_option linter.unusedSimpArgs false
namespace Go.Proofs.Ytfleephpcomimaa.Pure
open Go.RowKit Go.Proofs.YtfleephpcomimaaW.PrintWords Go.Proofs.YtfleephpcomimaaW.PrintLast Go.Proofs.YtfleephpcomimaaW.PrintMore Go.Proofs.BelM Go.Proofs.Ytfleephpcomimaa.P Go.Proofs.Ytfleephpcomimaa.L

open Classical in
theorem FnExactChangedBy : laws_FnExactChangedBy.Pure := by
  intro a0 l1 a2 a3 w0 h1 h2 h3 w2 w3
  obtain ⟨m, hm⟩ : ∃ m, m = l1.length + 2500 := ⟨_, rfl⟩
  refine ⟨m + 3, ?_⟩
  unfold laws_FnExactChangedBy.f
  by_cases hl : (l1.length : Int) > 1048576
  · rw [if_pos hl]
  · rw [if_neg hl, toIntS_eq (by omega) (by omega)]
    simp only [Option.bind_some]
    rw [spec_ChangedBy_eq _ _ _ _ (by omega) (by omega), impl_ChangedBy_eq _ _ _ _ (by omega)]
    simp only [Option.bind_some]
    obtain ⟨z, hz⟩ : ∃ z, (if ChgP a0 l1 a2 a3 then (changedL a0 l1 a2 a3, true) else ([], false)) = z := ⟨_, rfl⟩
    have hlen : z.1.length ≤ 8 := by
      by_cases h : ChgP a0 l1 a2 a3
      · rw [if_pos h] at hz
        rw [← hz]
        show (changedL a0 l1 a2 a3).length ≤ 8
        unfold changedL tidyL
        rw [tab_len, riseL_len]
        exact h.1.len
      · rw [if_neg h] at hz
        rw [← hz]
        simp
    rw [hz, eqIntS_self (l := z.1) (by omega) (by omega)]
    simp only [Option.bind_some]
    rw [if_pos trivial, bne_self_eq_false]
    simp only [laws_FnExactChangedBy.j0]
    rw [if_neg (by decide), toIntS_eq (by omega) (by omega)]
    simp only [Option.bind_some]
    rw [eqIntS_self (l := l1) (by omega) (by omega)]
    simp only [Option.bind_some]
    rw [if_pos trivial, markIntS_eq (by omega) (by omega)]
    simp only [Option.bind_some]
    rw [if_neg (by omega), eqIntS_self (l := z.1) (by omega) (by omega)]
    simp only [Option.bind_some]
    rw [if_pos trivial, bne_self_eq_false]
    simp only [laws_FnExactChangedBy.j1]
    rw [if_neg (by decide), markIntS_eq (by omega) (by omega)]
    simp only [Option.bind_some]
    rw [heldIntS_eq (by omega) (by omega)]
    simp only [Option.bind_some]
    rw [if_neg (by omega), if_pos trivial, toIntS_eq (by omega) (by omega)]
    simp only [Option.bind_some]
    rw [impl_ChangedBy_eq _ _ _ _ (by omega), hz]
    simp only [Option.bind_some]
    rw [eqIntS_self (l := z.1) (by omega) (by omega)]
    simp only [Option.bind_some]
    rw [if_pos trivial, bne_self_eq_false]
    simp only [laws_FnExactChangedBy.j2]
    rw [if_neg (by decide), heldIntS_eq (by omega) (by omega)]
    simp only [Option.bind_some]
    rw [if_neg (by omega), if_pos trivial]

end Go.Proofs.Ytfleephpcomimaa.Pure

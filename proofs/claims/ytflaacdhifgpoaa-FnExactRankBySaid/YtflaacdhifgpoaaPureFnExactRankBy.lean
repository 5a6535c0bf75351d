/- RankBy of the program returns what the reference's returns, for all arguments. Conditions: none beyond the statement's own. -/
import Derived.Test.YtflaacdhifgpoaaQ12
import Derived.Test.YtflaacdhifgpoaaQLibD
import Derived.Test.YtflaacdhifgpoaaQLibA
import Derived.Test.YtflaacdhifgpoaaQLibE
import Derived.Test.YtflaacdhifgpoaaSets
set_option linter.unusedVariables false
set_option linter.unusedSimpArgs false
namespace Go.Proofs.Ytflaacdhifgpoaa.Pure
open Go.RowKit Go.Proofs.YtflaacdhifgpoaaW.PrintWords Go.Proofs.YtflaacdhifgpoaaW.PrintLast Go.Proofs.YtflaacdhifgpoaaW.PrintMore Go.Proofs.BelM Go.Proofs.Ytflaacdhifgpoaa.Q Go.Proofs.Ytflaacdhifgpoaa.LQ

open Classical in
theorem FnExactRankBy : laws_FnExactRankBy.Pure := by
  intro a0 l1 h0 h1 h2 h3
  obtain ⟨m, hm⟩ : ∃ m, m = l1.length + 5000 := ⟨_, rfl⟩
  refine ⟨m + 3, ?_⟩
  unfold laws_FnExactRankBy.f
  rw [szRuleS_eq l1 (by omega)]
  simp only [Option.bind_some]
  by_cases hl : l1.length ≤ 1048576
  · have hc : (conv l1).length = l1.length := conv_len l1
    rw [if_pos hl, if_neg (by omega), toRuleS_eq (by omega) (by omega)]
    simp only [Option.bind_some]
    rw [spec_RankBy_eq _ _ (by omega) (by omega), impl_RankBy_eq _ _ (by omega)]
    simp only [Option.bind_some]
    obtain ⟨z, hz⟩ : ∃ z, (if RulesP a0 (conv l1) then rres a0 (conv l1) else ([], false)) = z := ⟨_, rfl⟩
    have hlen : z.1.length ≤ 8 := by
      by_cases h : RulesP a0 (conv l1)
      · rw [if_pos h] at hz
        rw [← hz]
        have h6 := h.2.1
        have h8 := worlds_le h.1
        unfold rres
        split
        · show (zrk a0 (conv l1)).length ≤ 8; unfold zrk; rw [tab_len]; exact h8
        · simp
      · rw [if_neg h] at hz
        rw [← hz]
        simp
    rw [hz, eqIntS_self (l := z.1) (by omega) (by omega)]
    simp only [Option.bind_some]
    rw [if_pos trivial, bne_self_eq_false]
    simp only [laws_FnExactRankBy.j0]
    rw [if_neg (by decide), toRuleS_eq (by omega) (by omega)]
    simp only [Option.bind_some]
    rw [eqRuleS_self (by omega) (by omega)]
    simp only [Option.bind_some]
    obtain ⟨c, mk, em, hc0⟩ := markRuleS_ok (l := conv l1) (k := m + 2) (by omega) (by omega)
    rw [if_pos trivial, em]
    simp only [Option.bind_some]
    rw [if_neg (by omega), eqIntS_self (l := z.1) (by omega) (by omega)]
    simp only [Option.bind_some]
    rw [if_pos trivial, bne_self_eq_false]
    simp only [laws_FnExactRankBy.j1]
    rw [if_neg (by decide), markIntS_eq (by omega) (by omega)]
    simp only [Option.bind_some]
    rw [heldIntS_eq (by omega) (by omega)]
    simp only [Option.bind_some]
    rw [if_neg (by omega), if_pos trivial, toRuleS_eq (by omega) (by omega)]
    simp only [Option.bind_some]
    rw [impl_RankBy_eq _ _ (by omega), hz]
    simp only [Option.bind_some]
    rw [eqIntS_self (l := z.1) (by omega) (by omega)]
    simp only [Option.bind_some]
    rw [if_pos trivial, bne_self_eq_false]
    simp only [laws_FnExactRankBy.j2]
    rw [if_neg (by decide), heldIntS_eq (by omega) (by omega)]
    simp only [Option.bind_some]
    rw [if_neg (by omega), if_pos trivial]
  · rw [if_neg hl, if_pos (by omega)]

end Go.Proofs.Ytflaacdhifgpoaa.Pure

/- GiveTable of the program returns what the reference's returns, for all arguments. Conditions: none beyond the statement's own. -/
import Derived.Test.YthgddbnmieodkaaQ7
import Derived.Test.YthgddbnmieodkaaQLibB
import Derived.Test.YthgddbnmieodkaaQLibC
import Derived.Test.YthgddbnmieodkaaSets
set_option linter.unusedVariables false
set_option linter.unusedSimpArgs false
namespace Go.Proofs.Ythgddbnmieodkaa.Pure
open Go.RowKit Go.Proofs.YthgddbnmieodkaaW.PrintWords Go.Proofs.YthgddbnmieodkaaW.PrintLast Go.Proofs.YthgddbnmieodkaaW.PrintMore Go.Proofs.BelM Go.Proofs.Ythgddbnmieodkaa.Q Go.Proofs.Ythgddbnmieodkaa.LQ

open Classical in
theorem FnExactGiveTable : laws_FnExactGiveTable.Pure := by
  intro a0 l1 w0 h1 h2 h3
  obtain ⟨m, hm⟩ : ∃ m, m = l1.length + 200 := ⟨_, rfl⟩
  refine ⟨m + 1, ?_⟩
  unfold laws_FnExactGiveTable.f
  by_cases hl : (l1.length : Int) > 1048576
  · rw [if_pos hl]
  · rw [if_neg hl, toIntS_eq (by omega) (by omega)]
    simp only [Option.bind_some]
    rw [spec_GiveTable_eq _ _ (by omega) (by omega), impl_GiveTable_eq _ _ (by omega)]
    simp only [Option.bind_some]
    obtain ⟨z, hz⟩ : ∃ z, (if a0 ≤ 2 ∧ RankP a0 l1 then giveT a0 l1 else []) = z := ⟨_, rfl⟩
    have hlen : z.length ≤ 16 := by
      by_cases h : a0 ≤ 2 ∧ RankP a0 l1
      · rw [if_pos h] at hz
        rw [← hz, giveT_len]
        exact sets_le ⟨h.2.1.1, h.1⟩
      · rw [if_neg h] at hz
        rw [← hz]
        simp
    rw [hz, eqIntS_self (l := z) (by omega) (by omega)]
    simp only [Option.bind_some]
    rw [if_pos trivial, eqIntS_self (l := l1) (by omega) (by omega)]
    simp only [Option.bind_some]
    rw [if_pos trivial, markIntS_eq (by omega) (by omega)]
    simp only [Option.bind_some]
    rw [if_neg (by omega)]
    simp only [Bool.not_true, laws_FnExactGiveTable.j0]
    rw [if_neg (by decide), markIntS_eq (by omega) (by omega)]
    simp only [Option.bind_some]
    rw [heldIntS_eq (by omega) (by omega)]
    simp only [Option.bind_some]
    rw [if_neg (by omega), if_pos trivial, toIntS_eq (by omega) (by omega)]
    simp only [Option.bind_some]
    rw [impl_GiveTable_eq _ _ (by omega), hz]
    simp only [Option.bind_some]
    rw [eqIntS_self (l := z) (by omega) (by omega)]
    simp only [Option.bind_some]
    rw [if_pos trivial, if_neg (by omega), if_pos trivial]

end Go.Proofs.Ythgddbnmieodkaa.Pure

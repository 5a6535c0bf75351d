/- Doing nothing fulfils all rules, whatever is drawn. Conditions: none beyond the statement's own. -/
import Derived.Test.YtfleephpcomimaaU17
import Derived.Test.YtfleephpcomimaaULibB
import Derived.Test.YtfleephpcomimaaULibE
import Derived.Test.YtfleephpcomimaaULibD
import Derived.Test.YtfleephpcomimaaSets
set_option linter.unusedVariables false
set_option linter.unusedSimpArgs false
namespace Go.Proofs.Ytfleephpcomimaa.Pure
open Go.RowKit Go.Proofs.YtfleephpcomimaaW.PrintWords Go.Proofs.YtfleephpcomimaaW.PrintLast Go.Proofs.YtfleephpcomimaaW.PrintMore Go.Proofs.BelM Go.Proofs.Ytfleephpcomimaa.U Go.Proofs.Ytfleephpcomimaa.LU

theorem nothing_holds (rule : Int) (b : List Int) (s : Int) : holdsP rule b b s := by
  intro v _ w _
  unfold ruleB
  by_cases r1 : rule = 1
  · rw [if_pos r1]; simp
  · by_cases r2 : rule = 2
    · rw [if_neg r1, if_pos r2]; simp
    · by_cases r3 : rule = 3
      · rw [if_neg r1, if_neg r2, if_pos r3]
        cases decide (rk b v < rk b w) <;> simp
      · rw [if_neg r1, if_neg r2, if_neg r3]
        by_cases h : rk b w < rk b v
        · simp [h]
        · simp [Int.not_lt.mp h]
open Classical in
theorem rules_loop (t : Int) (b : List Int) (s : Int) : ∀ (d k j : Nat), j + d = 5 → 1 ≤ j → d + 111 ≤ k → laws_FnRuleHolds.l0 k t b s (decide (RankP t b ∧ SetP t s)) j = some true
  | 0, k, j, hj, h1, hk => by
    obtain ⟨k, rfl⟩ : ∃ m, k = m + 1 := ⟨k - 1, by omega⟩
    simp only [laws_FnRuleHolds.l0]
    rw [if_neg (by omega), alive_eq]
    rfl
  | d + 1, k, j, hj, h1, hk => by
    obtain ⟨k, rfl⟩ : ∃ m, k = m + 1 := ⟨k - 1, by omega⟩
    simp only [laws_FnRuleHolds.l0]
    rw [if_pos (by omega), impl_RuleHolds_eq _ _ _ _ _ (by omega)]
    simp only [Option.bind_some]
    have e : (decide ((1 ≤ (j : Int) ∧ (j : Int) ≤ 4) ∧ RankP t b ∧ RankP t b ∧ SetP t s ∧ holdsP (j : Int) b b s)) = decide (RankP t b ∧ SetP t s) := by
      apply decide_eq_decide.mpr
      exact ⟨fun h => ⟨h.2.1, h.2.2.2.1⟩, fun h => ⟨by omega, h.1, h.1, h.2, nothing_holds _ _ _⟩⟩
    rw [e, if_neg (by simp), w64s (by omega)]
    exact rules_loop t b s d k (j + 1) (by omega) (by omega) (by omega)
open Classical in
theorem FnRuleHolds : laws_FnRuleHolds.Pure := by
  intro l0 h1 h2 h3
  refine ⟨2001, ?_⟩
  unfold laws_FnRuleHolds.f
  by_cases hl : (l0.length : Int) > 1048576
  · rw [if_pos hl]
  · rw [if_neg hl]
    obtain ⟨t, rule, b, a, s, e, hb, ha⟩ := drawHolds_ok h3 (k := 2001) (by omega)
    rw [e]
    simp only [Option.bind_some]
    rw [impl_RuleHolds_eq _ _ _ _ _ (by omega), spec_RuleHolds_eq _ _ _ _ _ (by omega) (by omega) (by omega)]
    simp only [Option.bind_some]
    rw [if_neg (by simp), spec_RankOk_eq _ _ (by omega) (by omega), SetOk_eq]
    simp only [Option.bind_some]
    have e1 := rules_loop t b s 4 2000 1 (by omega) (by omega) (by omega)
    rw [show ((1 : Nat) : Int) = 1 from rfl] at e1
    by_cases hr : RankP t b
    · rw [if_pos (by simp [hr])]
      simp only [laws_FnRuleHolds.j0]
      rw [show decide (SetP t s) = decide (RankP t b ∧ SetP t s) by simp [hr]]
      exact e1
    · rw [if_neg (by simp [hr])]
      simp only [laws_FnRuleHolds.j0]
      rw [show false = decide (RankP t b ∧ SetP t s) by simp [hr]]
      exact e1

end Go.Proofs.Ytfleephpcomimaa.Pure

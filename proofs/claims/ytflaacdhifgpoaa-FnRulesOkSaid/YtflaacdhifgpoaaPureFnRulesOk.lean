/- Without the last one a list of rules is one, whatever is drawn. Conditions: none beyond the statement's own. -/
import Derived.Test.YtflaacdhifgpoaaS0
import Derived.Test.YtflaacdhifgpoaaS11
import Derived.Test.YtflaacdhifgpoaaSLibA
import Derived.Test.YtflaacdhifgpoaaSLibC
import Derived.Test.YtflaacdhifgpoaaSLibB
import Derived.Test.YtflaacdhifgpoaaSets
set_option linter.unusedVariables false
set_option linter.unusedSimpArgs false
namespace Go.Proofs.Ytflaacdhifgpoaa.Pure
open Go.RowKit Go.Proofs.YtflaacdhifgpoaaW.PrintWords Go.Proofs.YtflaacdhifgpoaaW.PrintLast Go.Proofs.YtflaacdhifgpoaaW.PrintMore Go.Proofs.BelM Go.Proofs.Ytflaacdhifgpoaa.S Go.Proofs.Ytflaacdhifgpoaa.LS

theorem rules_take {t : Int} {l : List S25} (h : RulesP t l) (m : Nat) : RulesP t (l.take m) := by
  refine ⟨h.1, by rw [List.length_take]; have := h.2.1; omega, fun j hj => ?_⟩
  rw [List.length_take] at hj
  have := h.2.2 j (by omega)
  have e : ∀ i : Nat, i < min m l.length → rd_T25 (l.take m) i = rd_T25 l i := by
    intro i hi
    unfold rd_T25
    rw [Int.toNat_natCast, List.getD_eq_getElem?_getD, List.getD_eq_getElem?_getD, List.getElem?_take, if_pos (by omega)]
  unfold rx ry at *
  rw [e j hj]
  exact this
theorem FnRulesOk : laws_FnRulesOk.Pure := by
  intro l0 h1 h2 h3
  refine ⟨200, ?_⟩
  unfold laws_FnRulesOk.f
  by_cases hl : (l0.length : Int) > 1048576
  · rw [if_pos hl]
  · rw [if_neg hl]
    obtain ⟨t, l, e, hn⟩ := drawRules_ok h3 (k := 200) (by omega)
    rw [e]
    simp only [Option.bind_some]
    rw [impl_RulesOk_eq, spec_RulesOk_eq _ _ (by omega) (by omega)]
    simp only [Option.bind_some]
    rw [if_neg (by simp), alive_eq]
    by_cases hr : RulesP t l
    · rw [if_pos (by exact decide_eq_true hr)]
      by_cases h0 : (l.length : Int) = 0
      · rw [if_pos h0]
        rfl
      · rw [if_neg h0, w64 (by omega) (by omega), if_pos (by omega), if_pos (by omega), impl_RulesOk_eq]
        simp only [Option.bind_some]
        rw [if_pos (by exact decide_eq_true (rules_take hr _))]
    · rw [if_neg (by intro h; exact hr (of_decide_eq_true h))]
      rfl

end Go.Proofs.Ytflaacdhifgpoaa.Pure

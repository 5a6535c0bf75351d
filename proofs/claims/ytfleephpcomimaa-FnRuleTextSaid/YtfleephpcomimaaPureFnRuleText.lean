/- ReadRule of the text of a rule is the rule, whatever is drawn. Conditions: none beyond the statement's own. -/
import Derived.Test.YtfleephpcomimaaV14
import Derived.Test.YtfleephpcomimaaV15
import Derived.Test.YtfleephpcomimaaVLibB
import Derived.Test.YtfleephpcomimaaVLibA
import Derived.Test.YtfleephpcomimaaVLibC
import Derived.Test.YtfleephpcomimaaSets
set_option linter.unusedVariables false
set_option linter.unusedSimpArgs false
namespace Go.Proofs.Ytfleephpcomimaa.Pure
open Go.RowKit Go.Proofs.YtfleephpcomimaaW.PrintWords Go.Proofs.YtfleephpcomimaaW.PrintLast Go.Proofs.YtfleephpcomimaaW.PrintMore Go.Proofs.BelM Go.Proofs.Ytfleephpcomimaa.V Go.Proofs.Ytfleephpcomimaa.LV

theorem FnRuleText : laws_FnRuleText.Pure := by
  intro l0 h1 h2 h3
  refine ⟨1000, ?_⟩
  unfold laws_FnRuleText.f
  by_cases hl : (l0.length : Int) > 1048576
  · rw [if_pos hl]
  · rw [if_neg hl]
    obtain ⟨t, x, y, e⟩ := drawRule_ok h3 (k := 1000) (by omega)
    unfold spec_DrawRuleText.f
    rw [e]
    simp only [Option.bind_some]
    rw [impl_RuleText_eq _ _ _ (by omega), spec_RuleText_eq _ _ _ (by omega)]
    simp only [Option.bind_some]
    rw [if_pos trivial]
    by_cases hr : RuleP t x y
    · rw [if_pos hr]
      obtain ⟨hg, hv⟩ := RT_good hr
      have hz : (RT t x y).size = (SO t x).size + 2 + (SO t y).size := by
        unfold RT
        rw [ByteArray.size_append, ByteArray.size_append]
        rfl
      have n1 := SO_size (s := x) hr.1.1
      have n2 := SO_size (s := y) hr.1.1
      rw [if_neg (by
        intro h
        have h' : (RT t x y).toList.length = 0 := by rw [h]; rfl
        have hn := hg.1.1
        rw [Go.ByteArray.toList_eq, ← Go.Lib.size_eq] at h'
        omega), impl_good (by omega) hg (by omega), hv]
      simp only [Option.bind_some]
      rw [if_pos trivial]
      simp
    · rw [if_neg hr, if_pos (show (⟨#[]⟩ : ByteArray).toList = [] by rw [Go.ByteArray.toList_eq]), impl_RuleOk_eq]
      simp only [Option.bind_some]
      rw [if_neg (by simpa using hr), alive_eq]
      rfl

end Go.Proofs.Ytfleephpcomimaa.Pure

/- NearestOf: the nearest are a revision, whatever is drawn. Conditions: none beyond the statement's own. -/
import Derived.Test.YtjhcpcahnngofaaP19
import Derived.Test.YtjhcpcahnngofaaLibA
import Derived.Test.YtjhcpcahnngofaaLibC
import Derived.Test.YtjhcpcahnngofaaLibB
import Derived.Test.YtjhcpcahnngofaaSets
set_option linter.unusedVariables false
set_option linter.unusedSimpArgs false
namespace Go.Proofs.Ytjhcpcahnngofaa.Pure
open Go.RowKit Go.Proofs.YtjhcpcahnngofaaW.PrintWords Go.Proofs.YtjhcpcahnngofaaW.PrintLast Go.Proofs.YtjhcpcahnngofaaW.PrintMore Go.Proofs.BelM Go.Proofs.Ytjhcpcahnngofaa.P Go.Proofs.Ytjhcpcahnngofaa.L

theorem near_revised {t p c : Int} (h0 : p ≠ 0) : nearS t p c = rev (2 ^ t.toNat) (rk (far (2 ^ t.toNat) p)) c := by
  unfold nearS
  rw [if_neg h0]
  exact rev_congr (fun w hw => (far_get hw).symm)
theorem FnNearestOf : laws_FnNearestOf.Pure := by
  intro l0 h1 h2 h3
  refine ⟨200, ?_⟩
  unfold laws_FnNearestOf.f
  by_cases hl : (l0.length : Int) > 1048576
  · rw [if_pos hl]
  · rw [if_neg hl]
    obtain ⟨t, p, c, e⟩ := drawNear_ok h3 (k := 200) (by omega)
    rw [e]
    simp only [Option.bind_some]
    rw [impl_NearestOf_eq _ _ _ (by omega), spec_NearestOf_eq _ _ _ (by omega)]
    simp only [Option.bind_some]
    rw [if_pos trivial]
    by_cases hg : SetP t p ∧ SetP t c
    · have hn := nearS_nonneg (t := t) (p := p) hg.2.2.1
      rw [if_pos hg, if_neg (by omega)]
      by_cases h0 : p = 0
      · rw [if_pos h0]
        unfold nearS
        rw [if_pos h0]
        simp
      · rw [if_neg h0, impl_FarFrom_eq _ _ (by omega), if_pos ⟨hg.1, h0⟩]
        simp only [Option.bind_some]
        rw [impl_RevisedBy_eq _ _ _ (by omega), if_pos ⟨far_RankP hg.1 h0, hg.2⟩]
        simp only [Option.bind_some]
        rw [if_pos (near_revised h0), both_eq hg.1.2.1 hg.2.2.1 (by omega)]
        simp only [Option.bind_some]
        by_cases hb : andS p c = 0
        · rw [if_pos hb]
        · rw [if_neg hb, nearS_both hg.1 hg.2 hb]
          simp
    · rw [if_neg hg, if_pos (by decide), if_pos rfl, alive_eq]
      rfl

end Go.Proofs.Ytjhcpcahnngofaa.Pure

/- FarFrom: distances are ranks, whatever is drawn. Conditions: none beyond the statement's own. -/
import Derived.Test.YtjhcpcahnngofaaP17
import Derived.Test.YtjhcpcahnngofaaP18
import Derived.Test.YtjhcpcahnngofaaLibA
import Derived.Test.YtjhcpcahnngofaaLibC
import Derived.Test.YtjhcpcahnngofaaLibB
import Derived.Test.YtjhcpcahnngofaaSets
set_option linter.unusedVariables false
set_option linter.unusedSimpArgs false
namespace Go.Proofs.Ytjhcpcahnngofaa.Pure
open Go.RowKit Go.Proofs.YtjhcpcahnngofaaW.PrintWords Go.Proofs.YtjhcpcahnngofaaW.PrintLast Go.Proofs.YtjhcpcahnngofaaW.PrintMore Go.Proofs.BelM Go.Proofs.Ytjhcpcahnngofaa.P Go.Proofs.Ytjhcpcahnngofaa.L

theorem far_core {t s : Int} (h : SetP t s) : coreS t (far (2 ^ t.toNat) s) = s := by
  unfold coreS
  refine ext (n := 2 ^ t.toNat) (mk_nonneg _ _) (mk_lt _ _) h.2.1 h.2.2 (fun w hw => ?_)
  rw [mem_mk_lt _ hw, far_get hw, Bool.eq_iff_iff, decide_eq_true_eq, near_zero (worlds_le h.1) hw]
theorem FnFarFrom : laws_FnFarFrom.Pure := by
  intro l0 h1 h2 h3
  refine ⟨200, ?_⟩
  unfold laws_FnFarFrom.f
  by_cases hl : (l0.length : Int) > 1048576
  · rw [if_pos hl]
  · rw [if_neg hl]
    obtain ⟨t, s, e⟩ := drawFar_ok h3 (k := 200) (by omega)
    rw [e]
    simp only [Option.bind_some]
    rw [impl_FarFrom_eq _ _ (by omega), spec_FarFrom_eq _ _ (by omega)]
    simp only [Option.bind_some]
    by_cases hg : SetP t s ∧ s ≠ 0
    · have h8 := worlds_le hg.1.1
      have h2 := worlds_ge hg.1.1
      have hlen := far_length (2 ^ t.toNat) s
      rw [if_pos hg, same_self (by omega) (by omega)]
      simp only [Option.bind_some]
      unfold impl_RankOk.f
      rw [if_pos trivial, if_neg (by omega), isRank_eq _ _ (by omega)]
      simp only [Option.bind_some]
      rw [if_pos (by simpa using far_RankP hg.1 hg.2), impl_CoreOf_eq _ _ (by omega), if_pos (far_RankP hg.1 hg.2), far_core hg.1]
      simp
    · rw [if_neg hg, same_self (by simp) (by simp)]
      simp only [Option.bind_some]
      rw [if_pos trivial, if_pos (by rfl)]
      by_cases h0 : s ≤ 0
      · rw [if_pos h0, alive_eq]; rfl
      · rw [if_neg h0]
        unfold impl_SetOk.f
        rw [isSet_eq]
        simp only [Option.bind_some]
        rw [if_neg (by simp; exact fun x => hg ⟨x, by omega⟩), alive_eq]
        rfl

end Go.Proofs.Ytjhcpcahnngofaa.Pure

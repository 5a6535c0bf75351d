/- What comes is believed, and the order is kept, whatever is drawn. Conditions: none beyond the statement's own. -/
import Derived.Test.YtfleephpcomimaaP24
import Derived.Test.YtfleephpcomimaaLibD
import Derived.Test.YtfleephpcomimaaLibE
import Derived.Test.YtfleephpcomimaaSets
set_option linter.unusedVariables false
set_option linter.unusedSimpArgs false
namespace Go.Proofs.Ytfleephpcomimaa.Pure
open Go.RowKit Go.Proofs.YtfleephpcomimaaW.PrintWords Go.Proofs.YtfleephpcomimaaW.PrintLast Go.Proofs.YtfleephpcomimaaW.PrintMore Go.Proofs.BelM Go.Proofs.Ytfleephpcomimaa.P Go.Proofs.Ytfleephpcomimaa.L

open Classical in
theorem FnChangedBy : laws_FnChangedBy.Pure := by
  intro l0 h1 h2 h3
  obtain ⟨m, hm⟩ : ∃ m, m = 3000 := ⟨_, rfl⟩
  refine ⟨m + 6, ?_⟩
  unfold laws_FnChangedBy.f
  by_cases hl : (l0.length : Int) > 1048576
  · rw [if_pos hl]
  · rw [if_neg hl]
    obtain ⟨t, l, way, s, e, hn⟩ := drawChanged_ok h3 (k := m + 6) (by omega)
    rw [e]
    simp only [Option.bind_some]
    rw [impl_ChangedBy_eq _ _ _ _ (by omega), spec_ChangedBy_eq _ _ _ _ (by omega) (by omega)]
    simp only [Option.bind_some]
    by_cases h : ChgP t l way s
    · have h8 := h.1.len
      have hlen : (changedL t l way s).length = l.length := by unfold changedL; rw [tidyL_len, riseL_len]
      have hrx : RankP t (changedL t l way s) := rankP_changed h.1
      rw [if_pos h]
      simp only
      rw [same_self (by omega) (by omega)]
      simp only [Option.bind_some]
      rw [if_pos trivial]
      simp only [bne_self_eq_false, laws_FnChangedBy.j0]
      rw [if_neg (by decide), if_pos trivial]
      have step : ∀ (k : Nat) (r : Int), 1 ≤ r → r ≤ 4 → 110 ≤ k → laws_FnChangedBy.l0 (k + 1) t l s (changedL t l way s) r = laws_FnChangedBy.l0 k t l s (changedL t l way s) (r + 1) := by
        intro k r r1 r2 hk
        simp only [laws_FnChangedBy.l0]
        rw [if_pos r2, impl_RuleHolds_eq _ _ _ _ _ hk]
        simp only [Option.bind_some]
        rw [if_pos (by exact decide_eq_true ⟨⟨r1, r2⟩, h.1, hrx, h.2.1, holds_changed h⟩), w64 (by omega) (by omega)]
      rw [step (m + 4) 1 (by omega) (by omega) (by omega), step (m + 3) (1 + 1) (by omega) (by omega) (by omega), step (m + 2) (1 + 1 + 1) (by omega) (by omega) (by omega), step (m + 1) (1 + 1 + 1 + 1) (by omega) (by omega) (by omega)]
      simp only [laws_FnChangedBy.l0]
      rw [if_neg (by omega), impl_CoreOf_eq _ _ (by omega), impl_RevisedBy_eq _ _ _ (by omega)]
      simp only [Option.bind_some]
      have e1 : (if RankP t l ∧ SetP t s then rev (2 ^ t.toNat) (rk l) s else -1) = rev (2 ^ t.toNat) (rk l) s := if_pos ⟨h.1, h.2.1⟩
      rw [if_pos hrx, e1, if_pos (core_changed h), impl_TidyRank_eq _ _ (by omega), if_pos hrx, changed_idem h.1]
      simp only [Option.bind_some]
      rw [same_self (by omega) (by omega)]
      rfl
    · rw [if_neg h]
      simp only
      rw [same_self (by simp) (by simp)]
      simp only [Option.bind_some]
      rw [if_pos trivial]
      simp only [bne_self_eq_false, laws_FnChangedBy.j0]
      rw [if_neg (by decide), if_neg (by decide), if_pos (by rfl), alive_eq]
      rfl

end Go.Proofs.Ytfleephpcomimaa.Pure

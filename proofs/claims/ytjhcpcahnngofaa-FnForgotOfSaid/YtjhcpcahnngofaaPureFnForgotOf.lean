/- ForgotOf: forgotten twice is forgotten once, whatever is drawn. Conditions: none beyond the statement's own. -/
import Derived.Test.YtjhcpcahnngofaaP16
import Derived.Test.YtjhcpcahnngofaaLibA
import Derived.Test.YtjhcpcahnngofaaLibC
import Derived.Test.YtjhcpcahnngofaaLibB
import Derived.Test.YtjhcpcahnngofaaSets
set_option linter.unusedVariables false
set_option linter.unusedSimpArgs false
namespace Go.Proofs.Ytjhcpcahnngofaa.Pure
open Go.RowKit Go.Proofs.YtjhcpcahnngofaaW.PrintWords Go.Proofs.YtjhcpcahnngofaaW.PrintLast Go.Proofs.YtjhcpcahnngofaaW.PrintMore Go.Proofs.BelM Go.Proofs.Ytjhcpcahnngofaa.P Go.Proofs.Ytjhcpcahnngofaa.L

theorem forg_two {t s h o : Int} (hf : ForgP t s h) (ho : 0 ≤ o ∧ o < t) : forgS t (forgS t s h) o = forgS t (forgS t s o) h := by
  have g := (forg_good hf).2.1 o.toNat (by omega)
  rw [forgS_nat t (forgS t s h) o, forgS_nat t s h, Int.toNat_natCast, g, forgS_nat t (forgS t s o) h, forgS_nat t s o, Int.toNat_natCast]
theorem forg_once {t s h : Int} (hf : ForgP t s h) : forgS t (forgS t s h) h = forgS t s h := by
  have g := (forg_good hf).1
  rw [forgS_nat t (forgS t s h) h, forgS_nat t s h, Int.toNat_natCast, g]
theorem others {t s h : Int} (hf : ForgP t s h) : ∀ (d k j : Nat), j + d = t.toNat → d + 20 < k → laws_FnForgotOf.l0 k t s h (forgS t s h) j = some true
  | 0, k, j, hj, hk => by
    obtain ⟨k, rfl⟩ : ∃ m, k = m + 1 := ⟨k - 1, by omega⟩
    have ht := hf.1.1
    have hx := forgS_SetP (t := t) (s := s) (h := h) ht
    simp only [laws_FnForgotOf.l0]
    rw [if_neg (by omega), within_eq hf.1.2.1 hx.2.1 (by omega)]
    simp only [Option.bind_some]
    rw [if_pos ((within_iffS (worlds_le ht) hf.1.2.1 hf.1.2.2).mpr (forgS_within hf.1)), impl_ForgotOf_eq, if_pos ⟨hx, hf.2⟩, forg_once hf]
    simp only [Option.bind_some]
    rw [if_pos trivial, impl_HangsOn_eq]
    simp only [Option.bind_some]
    unfold hangB
    rw [forg_once hf]
    simp
  | d + 1, k, j, hj, hk => by
    obtain ⟨k, rfl⟩ : ∃ m, k = m + 1 := ⟨k - 1, by omega⟩
    have ht := hf.1.1
    have ih := others hf d k (j + 1) (by omega) (by omega)
    have ho : 0 ≤ (j : Int) ∧ (j : Int) < t := by omega
    simp only [laws_FnForgotOf.l0]
    rw [if_pos (by omega), impl_ForgotOf_eq, if_pos ⟨forgS_SetP ht, ho⟩, impl_ForgotOf_eq, if_pos ⟨hf.1, ho⟩]
    simp only [Option.bind_some]
    rw [impl_ForgotOf_eq, if_pos ⟨forgS_SetP ht, hf.2⟩]
    simp only [Option.bind_some]
    rw [if_pos (forg_two hf ho), w64s (by omega)]
    exact ih
theorem FnForgotOf : laws_FnForgotOf.Pure := by
  intro l0 h1 h2 h3
  refine ⟨40, ?_⟩
  unfold laws_FnForgotOf.f
  by_cases hl : (l0.length : Int) > 1048576
  · rw [if_pos hl]
  · rw [if_neg hl]
    obtain ⟨t, s, h, e⟩ := drawForgot_ok h3 (k := 40) (by omega)
    rw [e]
    simp only [Option.bind_some]
    rw [impl_ForgotOf_eq, spec_ForgotOf_eq _ _ _ (by omega)]
    simp only [Option.bind_some]
    rw [if_pos trivial]
    by_cases hf : ForgP t s h
    · have := forgS_nonneg t s h
      rw [if_pos hf, if_neg (by omega)]
      have := hf.1.1
      exact others hf t.toNat 40 0 (by omega) (by omega)
    · rw [if_neg hf, if_pos (by decide), if_pos rfl, alive_eq]
      rfl

end Go.Proofs.Ytjhcpcahnngofaa.Pure

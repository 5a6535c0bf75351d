/- ApartOf: ways over a third world are no shorter, whatever is drawn. Conditions: none beyond the statement's own. -/
import Derived.Test.YtjhcpcahnngofaaP13
import Derived.Test.YtjhcpcahnngofaaLibA
import Derived.Test.YtjhcpcahnngofaaLibC
import Derived.Test.YtjhcpcahnngofaaLibB
import Derived.Test.YtjhcpcahnngofaaSets
set_option linter.unusedVariables false
set_option linter.unusedSimpArgs false
namespace Go.Proofs.Ytjhcpcahnngofaa.Pure
open Go.RowKit Go.Proofs.YtjhcpcahnngofaaW.PrintWords Go.Proofs.YtjhcpcahnngofaaW.PrintLast Go.Proofs.YtjhcpcahnngofaaW.PrintMore Go.Proofs.BelM Go.Proofs.Ytjhcpcahnngofaa.P Go.Proofs.Ytjhcpcahnngofaa.L

theorem worldsOf_eq {t : Int} (ht : 1 ≤ t ∧ t ≤ 3) : spec_WorldsOf.f t = some ((2 ^ t.toNat : Nat) : Int) := by
  unfold spec_WorldsOf.f
  rw [l1In_eq]
  simp only [Option.bind_some]
  rw [if_pos (by simp [ht]), if_pos (by omega), shl_things ht]
theorem third {t v w : Int} (hv : WorldP t v) (hw : WorldP t w) : ∀ (d k j : Nat), j + d = 2 ^ t.toNat → d < k → laws_FnApartOf.l0 k t v w (apartS t v w) j = some true
  | 0, k, j, hj, hk => by
    obtain ⟨k, rfl⟩ : ∃ m, k = m + 1 := ⟨k - 1, by omega⟩
    obtain rfl : j = 2 ^ t.toNat := by omega
    simp only [laws_FnApartOf.l0]
    rw [worldsOf_eq hv.1]
    simp only [Option.bind_some]
    have e : apartS t v w = dist v.toNat w.toNat := by unfold apartS; rw [if_pos ⟨hv, hw⟩]
    have e2 : apartS t w v = dist v.toNat w.toNat := by unfold apartS; rw [if_pos ⟨hw, hv⟩, dist_comm]
    have h3 := dist_le_things hv.1 (v := v.toNat) (w := w.toNat) (by have := hv.2; omega) (by have := hw.2; omega)
    rw [if_neg (by omega), if_pos, impl_ApartOf_eq]
    · simp only [Option.bind_some]
      rw [e, e2, if_pos rfl]
      simp [h3]
    · rw [e]
      by_cases h : v = w
      · subst h
        rw [dist_self]; simp
      · have hd : dist v.toNat w.toNat ≠ 0 := fun h0 => h (by have := dist_zero _ hv.lt8 _ hw.lt8 h0; have := hv.2; have := hw.2; omega)
        rw [beq_eq_false_iff_ne.mpr hd, beq_eq_false_iff_ne.mpr h]; rfl
  | d + 1, k, j, hj, hk => by
    obtain ⟨k, rfl⟩ : ∃ m, k = m + 1 := ⟨k - 1, by omega⟩
    have ih := third hv hw d k (j + 1) (by omega) (by omega)
    have h8 := worlds_le hv.1
    simp only [laws_FnApartOf.l0]
    rw [worldsOf_eq hv.1]
    simp only [Option.bind_some]
    have hu : WorldP t (j : Int) := ⟨hv.1, by omega, by omega⟩
    rw [if_pos (by omega), impl_ApartOf_eq, impl_ApartOf_eq]
    simp only [Option.bind_some]
    have e1 : apartS t v j = dist v.toNat j := by unfold apartS; rw [if_pos ⟨hv, hu⟩, Int.toNat_natCast]
    have e2 : apartS t j w = dist j w.toNat := by unfold apartS; rw [if_pos ⟨hu, hw⟩, Int.toNat_natCast]
    have e : apartS t v w = dist v.toNat w.toNat := by unfold apartS; rw [if_pos ⟨hv, hw⟩]
    have htri := dist_tri _ hv.lt8 _ hw.lt8 j (by omega)
    have b1 := dist_le3 v.toNat j
    have b2 := dist_le3 j w.toNat
    have c1 := dist_nonneg v.toNat j
    have c2 := dist_nonneg j w.toNat
    rw [e1, e2, w64 (x := dist v.toNat j + dist j w.toNat) (by omega) (by omega), if_neg (by rw [e]; omega), w64s (by omega)]
    exact ih
theorem FnApartOf : laws_FnApartOf.Pure := by
  intro l0 h1 h2 h3
  refine ⟨20, ?_⟩
  unfold laws_FnApartOf.f
  by_cases hl : (l0.length : Int) > 1048576
  · rw [if_pos hl]
  · rw [if_neg hl]
    obtain ⟨t, v, w, e⟩ := drawApart_ok h3 (k := 20) (by omega)
    rw [e]
    simp only [Option.bind_some]
    rw [impl_ApartOf_eq, spec_ApartOf_eq _ _ _ (by omega)]
    simp only [Option.bind_some]
    rw [if_pos trivial]
    by_cases hg : WorldP t v ∧ WorldP t w
    · have e1 : apartS t v w = dist v.toNat w.toNat := by unfold apartS; rw [if_pos hg]
      have := dist_nonneg v.toNat w.toNat
      rw [if_neg (by omega)]
      have := worlds_le hg.1.1
      exact third hg.1 hg.2 (2 ^ t.toNat) 20 0 (by omega) (by omega)
    · have e1 : apartS t v w = -1 := by unfold apartS; rw [if_neg hg]
      rw [e1, if_pos (by decide), if_pos rfl, alive_eq]
      rfl

end Go.Proofs.Ytjhcpcahnngofaa.Pure

/- HangsOn: contraries hang on the same, whatever is drawn. Conditions: none beyond the statement's own. -/
import Derived.Test.YtjhcpcahnngofaaP15
import Derived.Test.YtjhcpcahnngofaaLibA
import Derived.Test.YtjhcpcahnngofaaLibC
import Derived.Test.YtjhcpcahnngofaaLibB
import Derived.Test.YtjhcpcahnngofaaSets
set_option linter.unusedVariables false
set_option linter.unusedSimpArgs false
namespace Go.Proofs.Ytjhcpcahnngofaa.Pure
open Go.RowKit Go.Proofs.YtjhcpcahnngofaaW.PrintWords Go.Proofs.YtjhcpcahnngofaaW.PrintLast Go.Proofs.YtjhcpcahnngofaaW.PrintMore Go.Proofs.BelM Go.Proofs.Ytjhcpcahnngofaa.P Go.Proofs.Ytjhcpcahnngofaa.L

theorem zero_SetP {t : Int} (ht : 1 ≤ t ∧ t ≤ 3) : SetP t 0 := ⟨ht, Int.le_refl _, pow_pos _⟩
theorem all_SetP {t : Int} (ht : 1 ≤ t ∧ t ≤ 3) : SetP t (2 ^ 2 ^ t.toNat - 1) := by
  have := pow_pos (2 ^ t.toNat)
  exact ⟨ht, by omega, by omega⟩
theorem rest_SetP {t s : Int} (h : SetP t s) : SetP t (2 ^ 2 ^ t.toNat - 1 - s) := ⟨h.1, by have := h.2; omega, by have := h.2; omega⟩
theorem allN (n : Nat) : ((2 : Int) ^ n - 1).toNat = 2 ^ n - 1 := by
  have h4 : ((2 ^ n : Nat) : Int) = 2 ^ n := by simp
  have h5 : 0 < 2 ^ n := Nat.two_pow_pos n
  omega
theorem restN {n : Nat} {s : Int} (h0 : 0 ≤ s) (h : s < 2 ^ n) : ((2 : Int) ^ n - 1 - s).toNat = 2 ^ n - 1 - s.toNat := by
  have h4 : ((2 ^ n : Nat) : Int) = 2 ^ n := by simp
  omega
theorem hang_eq {t s h : Int} (hs : SetP t s) (hh : 0 ≤ h ∧ h < t) : hangB t s h = !decide (forgN (2 ^ t.toNat) s.toNat h.toNat = s.toNat) := by
  unfold hangB
  rw [forgS_nat]
  have hf : ForgP t s h := ⟨hs, hh⟩
  have h0 := hs.2.1
  rw [decide_eq_true hf, Bool.true_and, bne, Bool.not_eq_eq_eq_not, Bool.not_not, Bool.eq_iff_iff, beq_iff_eq, decide_eq_true_eq]
  omega
theorem hang_bad {t s h : Int} (hh : ¬ (0 ≤ h ∧ h < t)) : hangB t s h = false := by
  unfold hangB
  rw [decide_eq_false (fun hf : ForgP t s h => hh hf.2), Bool.false_and]
theorem FnHangsOn : laws_FnHangsOn.Pure := by
  intro l0 h1 h2 h3
  refine ⟨20, ?_⟩
  unfold laws_FnHangsOn.f
  by_cases hl : (l0.length : Int) > 1048576
  · rw [if_pos hl]
  · rw [if_neg hl]
    obtain ⟨t, s, h, e⟩ := drawHangs_ok h3 (k := 20) (by omega)
    rw [e]
    simp only [Option.bind_some]
    rw [impl_HangsOn_eq, spec_HangsOn_eq _ _ _ (by omega), SetOk_eq]
    simp only [Option.bind_some]
    rw [if_neg (by simp)]
    by_cases hs : SetP t s
    · have hp := pow_pos (2 ^ t.toNat)
      have hle := all_le hs.1
      have hs2 := hs.2
      rw [if_pos (by simp [hs]), whole_eq hs.1]
      simp only [Option.bind_some]
      rw [w64 (by omega) (by omega), impl_HangsOn_eq, impl_HangsOn_eq, impl_HangsOn_eq]
      simp only [Option.bind_some]
      by_cases hh : 0 ≤ h ∧ h < t
      · have g := forg_good (t := t) (s := s) (h := h) ⟨hs, hh⟩
        rw [hang_eq (rest_SetP hs) hh, hang_eq hs hh, hang_eq (zero_SetP hs.1) hh, hang_eq (all_SetP hs.1) hh, restN hs2.1 hs2.2, allN, show (0 : Int).toNat = 0 from rfl, g.2.2.1, g.2.2.2.1, g.2.2.2.2]
        simp
      · rw [hang_bad hh, hang_bad hh, hang_bad hh, hang_bad hh]
        simp
    · have hb : hangB t s h = false := by unfold hangB; rw [decide_eq_false (fun hf : ForgP t s h => hs hf.1), Bool.false_and]
      rw [if_neg (by simp [hs]), hb, if_neg (by decide), alive_eq]
      rfl

end Go.Proofs.Ytjhcpcahnngofaa.Pure

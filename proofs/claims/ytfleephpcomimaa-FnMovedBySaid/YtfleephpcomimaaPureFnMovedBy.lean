/- What is moved can be moved back, whatever is drawn. Conditions: none beyond the statement's own. -/
import Derived.Test.YtfleephpcomimaaT12
import Derived.Test.YtfleephpcomimaaT13
import Derived.Test.YtfleephpcomimaaTLibC
import Derived.Test.YtfleephpcomimaaTLibB
import Derived.Test.YtfleephpcomimaaTLibE
import Derived.Test.YtfleephpcomimaaTLibD
import Derived.Test.YtfleephpcomimaaSets
set_option linter.unusedVariables false
set_option linter.unusedSimpArgs false
namespace Go.Proofs.Ytfleephpcomimaa.Pure
open Go.RowKit Go.Proofs.YtfleephpcomimaaW.PrintWords Go.Proofs.YtfleephpcomimaaW.PrintLast Go.Proofs.YtfleephpcomimaaW.PrintMore Go.Proofs.BelM Go.Proofs.Ytfleephpcomimaa.T Go.Proofs.Ytfleephpcomimaa.LT

theorem moved_rk {t : Int} {l : List Int} {s firm : Int} {w : Nat} (hw : w < 2 ^ t.toNat) : rk (movedL t l s firm) w = movedAt l s (surpS t l s) (firmS t l s) firm w := tab_rk hw
theorem moved_in {t : Int} {l : List Int} {s firm : Int} {w : Nat} (hw : w < 2 ^ t.toNat) (hm : mem s w = true) : rk (movedL t l s firm) w = rk l w - surpS t l s := by
  rw [moved_rk hw]; unfold movedAt; rw [if_pos hm]
theorem moved_out {t : Int} {l : List Int} {s firm : Int} {w : Nat} (hw : w < 2 ^ t.toNat) (hm : ¬ mem s w = true) : rk (movedL t l s firm) w = rk l w - firmS t l s + firm := by
  rw [moved_rk hw]; unfold movedAt; rw [if_neg hm]
theorem surp_at {t : Int} {l : List Int} {s : Int} (hr : RankP t l) (hs : SetP t s) (h0 : s ≠ 0) : ∃ w, w < 2 ^ t.toNat ∧ mem s w = true ∧ rk l w = surpS t l s := by
  obtain ⟨v, hv, hm⟩ := exists_mem hs.2.1 hs.2.2 h0
  exact least_attained ⟨v, hv, hm, by have := hr.hi hv; omega⟩
theorem firm_at {t : Int} {l : List Int} {s : Int} (hr : RankP t l) (hs : SetP t s) (h : s ≠ 2 ^ 2 ^ t.toNat - 1) : ∃ w, w < 2 ^ t.toNat ∧ mem s w = false ∧ rk l w = firmS t l s := by
  have h2 := rest_SetP hs
  obtain ⟨v, hv, hm⟩ := exists_mem h2.2.1 h2.2.2 (by omega)
  rw [rest_mem hs hv] at hm
  obtain ⟨w, hw, h1, h3⟩ := least_attained (c := 10) (r := rk l) (p := fun v => !mem s v) (n := 2 ^ t.toNat) ⟨v, hv, hm, by have := hr.hi hv; omega⟩
  exact ⟨w, hw, by simpa using h1, h3⟩
theorem surp_le {t : Int} {l : List Int} {s : Int} {w : Nat} (hw : w < 2 ^ t.toNat) (hm : mem s w = true) : surpS t l s ≤ rk l w := least_le 10 (rk l) (mem s) (2 ^ t.toNat) w hw hm
theorem firm_le {t : Int} {l : List Int} {s : Int} {w : Nat} (hw : w < 2 ^ t.toNat) (hm : ¬ mem s w = true) : firmS t l s ≤ rk l w := least_le 10 (rk l) (fun v => !mem s v) (2 ^ t.toNat) w hw (by simp [hm])
theorem moved_len (t : Int) (l : List Int) (s firm : Int) : (movedL t l s firm).length = 2 ^ t.toNat := tab_len _ _
theorem moved_RankP {t : Int} {l : List Int} {s firm : Int} (h : MovedP t l s firm) : RankP t (movedL t l s firm) := by
  obtain ⟨hr, hs, h0, ha, hf, h9⟩ := h
  refine ⟨hr.1, moved_len _ _ _ _, fun w hw => ?_, ?_⟩
  · rw [moved_len] at hw
    refine ⟨?_, ?_⟩
    · by_cases hm : mem s w = true
      · rw [moved_in hw hm]; have := surp_le (l := l) hw hm; omega
      · rw [moved_out hw hm]; have := firm_le (l := l) hw hm; omega
    · rw [moved_rk hw]; exact h9 w hw
  · obtain ⟨w, hw, hm, e⟩ := surp_at hr hs h0
    exact ⟨w, by rw [moved_len]; exact hw, by rw [moved_in hw hm]; omega⟩
/-- Afterwards the least one of the set is 0, and the least one of the others the firmness. -/
theorem moved_surp {t : Int} {l : List Int} {s firm : Int} (h : MovedP t l s firm) : surpS t (movedL t l s firm) s = 0 := by
  obtain ⟨hr, hs, h0, ha, hf, h9⟩ := h
  obtain ⟨w, hw, hm, e⟩ := surp_at hr hs h0
  exact least_is (by decide) (fun u hu hmu => by rw [moved_in hu hmu]; have := surp_le (l := l) hu hmu; omega) (.inr ⟨w, hw, hm, by rw [moved_in hw hm]; omega⟩)
theorem moved_firm {t : Int} {l : List Int} {s firm : Int} (h : MovedP t l s firm) : firmS t (movedL t l s firm) s = firm := by
  obtain ⟨hr, hs, h0, ha, hf, h9⟩ := h
  obtain ⟨w, hw, hm, e⟩ := firm_at hr hs ha
  have hm' : ¬ mem s w = true := by rw [hm]; decide
  refine least_is (by omega) (fun u hu hmu => ?_) (.inr ⟨w, hw, by rw [hm]; rfl, by rw [moved_out hw hm']; omega⟩)
  have hmu' : ¬ mem s u = true := by simpa using hmu
  rw [moved_out hu hmu']; have := firm_le (l := l) hu hmu'; omega
theorem moved_rules {t : Int} {l : List Int} {s firm : Int} (h : MovedP t l s firm) {rule : Int} (hrule : rule = 1 ∨ rule = 2) : holdsP rule l (movedL t l s firm) s := by
  obtain ⟨hr, hs, h0, ha, hf, h9⟩ := h
  intro v hv w hw
  rw [hr.2.1] at hv hw
  unfold ruleB
  rcases hrule with rfl | rfl
  · rw [if_pos rfl]
    by_cases hmv : mem s v = true
    · by_cases hmw : mem s w = true
      · rw [hmv, hmw, moved_in hv hmv, moved_in hw hmw, Bool.not_true, Bool.false_or, Bool.false_or, beq_iff_eq]
        apply decide_eq_decide.mpr
        omega
      · simp [hmw]
    · simp [hmv]
  · rw [if_neg (by decide), if_pos rfl]
    by_cases hmv : mem s v = true
    · simp [hmv]
    · by_cases hmw : mem s w = true
      · simp [hmw]
      · rw [moved_out hv hmv, moved_out hw hmw, Bool.eq_false_iff.mpr hmv, Bool.eq_false_iff.mpr hmw, Bool.false_or, Bool.false_or, beq_iff_eq]
        apply decide_eq_decide.mpr
        omega
/-- Moved back by its firmness of before, if this was more than 0. -/
theorem moved_back1 {t : Int} {l : List Int} {s firm : Int} (h : MovedP t l s firm) (hp : firmS t l s ≠ 0) : MovedP t (movedL t l s firm) s (firmS t l s) ∧ movedL t (movedL t l s firm) s (firmS t l s) = l := by
  have hR := moved_RankP h
  have h1 := moved_surp h
  have h2 := moved_firm h
  obtain ⟨hr, hs, h0, ha, hf, h9⟩ := h
  obtain ⟨u, hu, hmu, eu⟩ := firm_at hr hs ha
  have hnn := firmS_nonneg hr s
  have hs0 : surpS t l s = 0 := by
    obtain ⟨z, hz, ez⟩ := hr.zero
    have hmz : mem s z = true := by
      cases hm : mem s z
      · have := firm_le (l := l) (s := s) hz (by rw [hm]; decide)
        omega
      · rfl
    have := surp_le (l := l) hz hmz
    have := (surpS_range hr s).1
    omega
  have e : ∀ w, w < 2 ^ t.toNat → movedAt (movedL t l s firm) s (surpS t (movedL t l s firm) s) (firmS t (movedL t l s firm) s) (firmS t l s) w = rk l w := by
    intro w hw
    rw [h1, h2]
    unfold movedAt
    by_cases hm : mem s w = true
    · rw [if_pos hm, moved_in hw hm]; omega
    · rw [if_neg hm, moved_out hw hm]; omega
  refine ⟨⟨hR, hs, h0, ha, ⟨hnn, by have := hr.hi hu; omega⟩, fun w hw => by rw [e w hw]; exact hr.hi hw⟩, ?_⟩
  exact tab_eq hr.2.1 e
/-- Or its contrary by its own. -/
theorem moved_back2 {t : Int} {l : List Int} {s firm : Int} (h : MovedP t l s firm) (hp : firmS t l s = 0) :
    MovedP t (movedL t l s firm) (2 ^ 2 ^ t.toNat - 1 - s) (firmS t l (2 ^ 2 ^ t.toNat - 1 - s)) ∧ movedL t (movedL t l s firm) (2 ^ 2 ^ t.toNat - 1 - s) (firmS t l (2 ^ 2 ^ t.toNat - 1 - s)) = l := by
  have hR := moved_RankP h
  have h1 := moved_surp h
  have h2 := moved_firm h
  obtain ⟨hr, hs, h0, ha, hf, h9⟩ := h
  have hs2 := rest_SetP hs
  obtain ⟨u, hu, hmu, eu⟩ := surp_at hr hs h0
  have q1 : ∀ x : List Int, surpS t x (2 ^ 2 ^ t.toNat - 1 - s) = firmS t x s := fun x => least_rest hs
  have q2 : ∀ x : List Int, firmS t x (2 ^ 2 ^ t.toNat - 1 - s) = surpS t x s := fun x => least_congr (fun v hv => by rw [rest_mem hs hv, Bool.not_not]) (fun _ _ _ => rfl)
  have e : ∀ w, w < 2 ^ t.toNat → movedAt (movedL t l s firm) (2 ^ 2 ^ t.toNat - 1 - s) (surpS t (movedL t l s firm) (2 ^ 2 ^ t.toNat - 1 - s)) (firmS t (movedL t l s firm) (2 ^ 2 ^ t.toNat - 1 - s)) (firmS t l (2 ^ 2 ^ t.toNat - 1 - s)) w = rk l w := by
    intro w hw
    rw [q1, q2, q2, h1, h2]
    unfold movedAt
    rw [rest_mem hs hw]
    by_cases hm : mem s w = true
    · rw [hm, if_neg (by decide), moved_in hw hm]; omega
    · rw [Bool.eq_false_iff.mpr hm, if_pos (show (!false) = true from rfl), moved_out hw hm]; omega
  refine ⟨⟨hR, hs2, by omega, by omega, ⟨by rw [q2]; exact (surpS_range hr s).1, by rw [q2]; have := hr.hi hu; omega⟩, fun w hw => by rw [e w hw]; exact hr.hi hw⟩, ?_⟩
  exact tab_eq hr.2.1 e
open Classical in
theorem FnMovedBy : laws_FnMovedBy.Pure := by
  intro l0 h1 h2 h3
  refine ⟨303, ?_⟩
  unfold laws_FnMovedBy.f
  by_cases hl : (l0.length : Int) > 1048576
  · rw [if_pos hl]
  · rw [if_neg hl]
    obtain ⟨t, r, s, m, e, hlen⟩ := drawMoved_ok h3 (k := 303) (by omega)
    rw [e]
    simp only [Option.bind_some]
    rw [impl_MovedBy_eq _ _ _ _ (by omega), spec_MovedBy_eq _ _ _ _ (by omega) (by omega)]
    simp only [Option.bind_some]
    by_cases h : MovedP t r s m
    · have hr := h.1
      have hs := h.2.1
      have h8 := worlds_le hr.1
      have hx := moved_RankP h
      have hlt := all_le hs.1
      have hs2 := hs.2
      rw [show (if MovedP t r s m then (movedL t r s m, true) else ([], false)) = (movedL t r s m, true) from if_pos h]
      rw [same_self (l := movedL t r s m) (by rw [moved_len]; omega) (by rw [moved_len]; omega)]
      simp only [Option.bind_some]
      rw [if_pos trivial, bne_self_eq_false]
      simp only [laws_FnMovedBy.j0]
      rw [if_neg (by decide), if_pos trivial, whole_eq hr.1, impl_FirmnessOf_eq _ _ _ (by omega), show (if RankP t r ∧ SetP t s then firmS t r s else -1) = firmS t r s from if_pos ⟨hr, hs⟩]
      simp only [Option.bind_some]
      rw [impl_MovedBy_eq _ _ _ _ (by omega)]
      simp only [Option.bind_some]
      have fin : ∀ k, 120 ≤ k → laws_FnMovedBy.j1 (k + 1) t r s m (movedL t r s m) r true = some true := by
        intro k hk
        simp only [laws_FnMovedBy.j1]
        unfold impl_RankOk.f
        rw [isRank_eq _ _ (by omega)]
        simp only [Option.bind_some]
        rw [if_pos (by simp [hx]), impl_FirmnessOf_eq _ _ _ (by omega), show (if RankP t (movedL t r s m) ∧ SetP t s then firmS t (movedL t r s m) s else -1) = firmS t (movedL t r s m) s from if_pos ⟨hx, hs⟩, moved_firm h]
        rw [impl_RuleHolds_eq _ _ _ _ _ (by omega), impl_RuleHolds_eq _ _ _ _ _ (by omega), decide_eq_true (show (1 ≤ (1 : Int) ∧ (1 : Int) ≤ 4) ∧ RankP t r ∧ RankP t (movedL t r s m) ∧ SetP t s ∧ holdsP 1 r (movedL t r s m) s from ⟨by decide, hr, hx, hs, moved_rules h (.inl rfl)⟩), decide_eq_true (show (1 ≤ (2 : Int) ∧ (2 : Int) ≤ 4) ∧ RankP t r ∧ RankP t (movedL t r s m) ∧ SetP t s ∧ holdsP 2 r (movedL t r s m) s from ⟨by decide, hr, hx, hs, moved_rules h (.inr rfl)⟩), same_self (l := r) (by omega) (by omega)]
        simp only [Option.bind_some]
        rw [if_pos trivial, if_pos trivial, if_pos trivial, if_pos trivial]
        split <;> rfl
      by_cases hp : firmS t r s = 0
      · obtain ⟨b1, b2⟩ := moved_back2 h hp
        rw [if_pos hp, w64 (by omega) (by omega), impl_FirmnessOf_eq _ _ _ (by omega), show (if RankP t r ∧ SetP t (2 ^ 2 ^ t.toNat - 1 - s) then firmS t r (2 ^ 2 ^ t.toNat - 1 - s) else -1) = firmS t r (2 ^ 2 ^ t.toNat - 1 - s) from if_pos ⟨hr, rest_SetP hs⟩]
        simp only [Option.bind_some]
        rw [impl_MovedBy_eq _ _ _ _ (by omega), if_pos b1, b2]
        simp only [Option.bind_some]
        exact fin _ (by omega)
      · obtain ⟨b1, b2⟩ := moved_back1 h hp
        rw [if_neg hp, if_pos b1, b2]
        exact fin _ (by omega)
    · rw [show (if MovedP t r s m then (movedL t r s m, true) else ([], false)) = ([], false) from if_neg h, same_self (l := []) (by simp) (by simp)]
      simp only [Option.bind_some]
      rw [if_pos trivial, bne_self_eq_false]
      simp only [laws_FnMovedBy.j0]
      rw [if_neg (by decide), if_neg (by decide), if_pos (by rfl), alive_eq]
      rfl

end Go.Proofs.Ytfleephpcomimaa.Pure

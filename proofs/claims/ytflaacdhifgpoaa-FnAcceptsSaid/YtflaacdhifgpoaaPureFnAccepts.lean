/- Accepted rules go together, whatever is drawn. Conditions: none beyond the statement's own. -/
import Derived.Test.YtflaacdhifgpoaaP13
import Derived.Test.YtflaacdhifgpoaaLibA
import Derived.Test.YtflaacdhifgpoaaLibC
import Derived.Test.YtflaacdhifgpoaaLibB
import Derived.Test.YtflaacdhifgpoaaSets
set_option linter.unusedVariables false
set_option linter.unusedSimpArgs false
namespace Go.Proofs.Ytflaacdhifgpoaa.Pure
open Go.RowKit Go.Proofs.YtflaacdhifgpoaaW.PrintWords Go.Proofs.YtflaacdhifgpoaaW.PrintLast Go.Proofs.YtflaacdhifgpoaaW.PrintMore Go.Proofs.BelM Go.Proofs.Ytflaacdhifgpoaa.P Go.Proofs.Ytflaacdhifgpoaa.L

theorem least_sub {t : Int} {l : List Int} {x y : Int} (h : ∀ w, w < 2 ^ t.toNat → mem x w = true → mem y w = true) : least 10 (rk l) (mem y) (2 ^ t.toNat) ≤ least 10 (rk l) (mem x) (2 ^ t.toNat) := least_mono h
theorem acc_both {t : Int} {l : List Int} {x y o : Int} (hy : SetP t y) (h : AccP t l x y) : AccP t l x o ↔ AccP t l x (andS y o) := by
  constructor
  · intro h2 w hw h3 h4
    rw [mem_andS hy.2.1 hy.lt8, h w hw h3 h4, h2 w hw h3 h4]; rfl
  · intro h2 w hw h3 h4
    have := h2 w hw h3 h4
    rw [mem_andS hy.2.1 hy.lt8, Bool.and_eq_true] at this
    exact this.2
theorem acc_either {t : Int} {l : List Int} {x y o : Int} (hx : SetP t x) (ho : SetP t o) (h : AccP t l x y) (h2 : AccP t l o y) : AccP t l (orS x o) y := by
  have hm : ∀ w, mem (orS x o) w = (mem x w || mem o w) := fun w => mem_orS hx.2.1 hx.lt8 ho.2.1 ho.lt8
  intro w hw h3 h4
  have e : least 10 (rk l) (mem (orS x o)) (2 ^ t.toNat) = min (least 10 (rk l) (mem x) (2 ^ t.toNat)) (least 10 (rk l) (mem o) (2 ^ t.toNat)) := by
    rw [← least_or]
    exact least_congr (fun w _ => hm w) (fun _ _ _ => rfl)
  rw [hm, Bool.or_eq_true] at h3
  rcases h3 with h3 | h3
  · have := least_le 10 (rk l) (mem x) (2 ^ t.toNat) w hw h3
    exact h w hw h3 (by omega)
  · have := least_le 10 (rk l) (mem o) (2 ^ t.toNat) w hw h3
    exact h2 w hw h3 (by omega)
theorem acc_third {t : Int} {l : List Int} {x y o : Int} (hx : SetP t x) (ho : SetP t o) (h : AccP t l x y) (h2 : ¬ AccP t l x (2 ^ 2 ^ t.toNat - 1 - o)) : andS x o ≠ 0 ∧ AccP t l (andS x o) y := by
  have hm : ∀ w, mem (andS x o) w = (mem x w && mem o w) := fun w => mem_andS hx.2.1 hx.lt8
  have h3 : ∃ v, v < 2 ^ t.toNat ∧ mem x v = true ∧ rk l v = least 10 (rk l) (mem x) (2 ^ t.toNat) ∧ mem o v = true := by
    apply Classical.byContradiction
    intro hn
    apply h2
    intro w hw h4 h5
    rw [rest_eq ho.2.1 ho.2.2, mem_mk_lt _ hw]
    cases e : mem o w
    · rfl
    · exact (hn ⟨w, hw, h4, h5, e⟩).elim
  obtain ⟨v, hv, h4, h5, h6⟩ := h3
  have hmv : mem (andS x o) v = true := by rw [hm, h4, h6]; rfl
  refine ⟨fun h0 => (by rw [h0, mem_zero] at hmv; cases hmv), ?_⟩
  intro w hw h7 h8
  have h9 := least_le 10 (rk l) (mem (andS x o)) (2 ^ t.toNat) v hv hmv
  have h10 : least 10 (rk l) (mem x) (2 ^ t.toNat) ≤ least 10 (rk l) (mem (andS x o)) (2 ^ t.toNat) := least_mono (fun w _ h => by rw [hm, Bool.and_eq_true] at h; exact h.1)
  rw [hm, Bool.and_eq_true] at h7
  exact h w hw h7.1 (by omega)
open Classical in
theorem FnAccepts : laws_FnAccepts.Pure := by
  intro l0 l1 h1 h2 h3 h4 h5 h6
  refine ⟨202, ?_⟩
  unfold laws_FnAccepts.f
  by_cases hl : (l0.length : Int) > 1048576
  · rw [if_pos hl]
    simp only [laws_FnAccepts.j0]
    rw [if_pos trivial]
  · rw [if_neg hl]
    by_cases hl1 : (l1.length : Int) > 1048576
    · rw [decide_eq_true hl1]
      simp only [laws_FnAccepts.j0]
      rw [if_pos trivial]
    · rw [decide_eq_false hl1]
      simp only [laws_FnAccepts.j0]
      obtain ⟨t, r, x, y, e, hlen⟩ := drawAcc_ok h3 (k := 201) (by omega)
      rw [if_neg (by decide), e]
      simp only [Option.bind_some]
      rw [impl_Accepts_eq _ _ _ _ (by omega), spec_Accepts_eq _ _ _ _ (by omega) (by omega)]
      simp only [Option.bind_some]
      rw [if_neg (by simp)]
      by_cases h : RankP t r ∧ RuleP t x y ∧ AccP t r x y
      · obtain ⟨hr, hxy, ha⟩ := h
        obtain ⟨hx, hy, h0⟩ := hxy
        have hle := all_le hr.1
        have hge := all_ge hr.1
        rw [if_pos (decide_eq_true ⟨hr, ⟨hx, hy, h0⟩, ha⟩), whole_eq hr.1]
        simp only [Option.bind_some]
        rw [show wrap64 (2 ^ 2 ^ t.toNat - 1 + 1) = 2 ^ 2 ^ t.toNat by rw [w64 (by omega) (by omega)]; omega, if_neg (by omega), w64 (x := (l1.length : Int) * 37) (by omega) (by omega)]
        obtain ⟨o, ho⟩ : ∃ o, Int.tmod ((l1.length : Int) * 37) (2 ^ 2 ^ t.toNat) = o := ⟨_, rfl⟩
        have hso : SetP t o := by
          rw [← ho, Int.tmod_eq_emod_of_nonneg (by omega)]
          exact ⟨hr.1, Int.emod_nonneg _ (by omega), Int.emod_lt_of_pos _ (by omega)⟩
        have hyo : SetP t (andS y o) := ⟨hr.1, andS_nonneg _ _, andS_lt (worlds_le hr.1) hy.2.1 hy.2.2⟩
        have hxo : SetP t (andS x o) := ⟨hr.1, andS_nonneg _ _, andS_lt (worlds_le hr.1) hx.2.1 hx.2.2⟩
        have hro : SetP t (2 ^ 2 ^ t.toNat - 1 - o) := ⟨hr.1, by have := hso.2; omega, by have := hso.2; omega⟩
        have hor : SetP t (orS x o) := ⟨hr.1, orS_nonneg _ _, orS_lt (worlds_le hr.1) hx.2.1 hx.2.2 hso.2.1 hso.2.2⟩
        rw [ho, impl_Accepts_eq _ _ _ _ (by omega), both_eq hy.2.1 hso.2.1 (by omega)]
        simp only [Option.bind_some]
        rw [impl_Accepts_eq _ _ _ _ (by omega)]
        simp only [Option.bind_some]
        have e1 : decide (RankP t r ∧ RuleP t x o ∧ AccP t r x o) = decide (RankP t r ∧ RuleP t x (andS y o) ∧ AccP t r x (andS y o)) := by
          apply decide_eq_decide.mpr
          rw [acc_both (o := o) hy ha]
          exact ⟨fun h => ⟨hr, ⟨hx, hyo, h0⟩, h.2.2⟩, fun h => ⟨hr, ⟨hx, hso, h0⟩, h.2.2⟩⟩
        have fin : laws_FnAccepts.j1 201 t r o false x y = some true := by
          simp only [laws_FnAccepts.j1]
          have hso2 := hso.2
          rw [if_neg (by decide), whole_eq hr.1]
          simp only [Option.bind_some]
          rw [w64 (x := 2 ^ 2 ^ t.toNat - 1 - o) (by omega) (by omega), impl_Accepts_eq _ _ _ _ (by omega), both_eq hx.2.1 hso.2.1 (by omega)]
          simp only [Option.bind_some]
          by_cases h7 : AccP t r x (2 ^ 2 ^ t.toNat - 1 - o)
          · rw [if_pos (decide_eq_true ⟨hr, ⟨hx, hro, h0⟩, h7⟩)]
          · rw [if_neg (by rw [decide_eq_true_eq]; exact fun h => h7 h.2.2), impl_Accepts_eq _ _ _ _ (by omega)]
            obtain ⟨h8, h9⟩ := acc_third hx hso ha h7
            rw [decide_eq_true (show RankP t r ∧ RuleP t (andS x o) y ∧ AccP t r (andS x o) y from ⟨hr, ⟨hxo, hy, h8⟩, h9⟩)]
            rfl
        rw [e1, if_neg (by simp)]
        by_cases ho0 : o = 0
        · rw [if_pos ho0]
          exact fin
        · rw [if_neg ho0, impl_Accepts_eq _ _ _ _ (by omega)]
          simp only [Option.bind_some]
          by_cases h7 : AccP t r o y
          · rw [if_pos (decide_eq_true ⟨hr, ⟨hso, hy, ho0⟩, h7⟩), either_eq hx.2.1 hx.lt8 hso.2.1 hso.lt8 (by omega)]
            simp only [Option.bind_some]
            have hne : orS x o ≠ 0 := by
              intro hz
              obtain ⟨v, hv, hm⟩ := exists_mem hx.2.1 hx.2.2 h0
              have h8 : mem (orS x o) v = true := by rw [mem_orS hx.2.1 hx.lt8 hso.2.1 hso.lt8, hm]; rfl
              rw [hz, mem_zero] at h8
              cases h8
            rw [impl_Accepts_eq _ _ _ _ (by omega), decide_eq_true (show RankP t r ∧ RuleP t (orS x o) y ∧ AccP t r (orS x o) y from ⟨hr, ⟨hor, hy, hne⟩, acc_either hx hso ha h7⟩)]
            simp only [Option.bind_some]
            exact fin
          · rw [if_neg (by rw [decide_eq_true_eq]; exact fun h => h7 h.2.2)]
            exact fin
      · rw [if_neg (by rw [decide_eq_true_eq]; exact h), alive_eq]
        rfl

end Go.Proofs.Ytflaacdhifgpoaa.Pure

/- Rules that can be accepted have levels, whatever is drawn. Conditions: none beyond the statement's own. -/
import Derived.Test.YtflaacdhifgpoaaU0
import Derived.Test.YtflaacdhifgpoaaU17
import Derived.Test.YtflaacdhifgpoaaULibD
import Derived.Test.YtflaacdhifgpoaaULibF
import Derived.Test.YtflaacdhifgpoaaSets
set_option linter.unusedVariables false
set_option linter.unusedSimpArgs false
namespace Go.Proofs.Ytflaacdhifgpoaa.Pure
open Go.RowKit Go.Proofs.YtflaacdhifgpoaaW.PrintWords Go.Proofs.YtflaacdhifgpoaaW.PrintLast Go.Proofs.YtflaacdhifgpoaaW.PrintMore Go.Proofs.BelM Go.Proofs.Ytflaacdhifgpoaa.U Go.Proofs.Ytflaacdhifgpoaa.LU

open Classical in
theorem lv_loop0 {t : Int} {l : List S25} (h7 : l.length ≤ 7) {lv : List Int} {ok : Bool} {r : List Int} {K : Nat}
    (next : ∀ k, K ≤ k → laws_FnLevelsOf.j3 k t l lv ok false = some true) {b0 : Bool} (hok : b0 = true → (∀ i, i < l.length → AccP t r (rx l i) (ry l i)) → ok = true) :
    ∀ (d k j : Nat) (b : Bool), j + d = l.length → K + d + 40 ≤ k → (b = true → b0 = true ∧ ∀ i, i < j → AccP t r (rx l i) (ry l i)) → laws_FnLevelsOf.l0 k t l lv ok r b j = some true
  | 0, k, j, b, hj, hk, hb => by
    obtain ⟨k, rfl⟩ : ∃ m, k = m + 1 := ⟨k - 1, by omega⟩
    simp only [laws_FnLevelsOf.l0]
    rw [if_neg (by omega)]
    have nx := next k (by omega)
    cases b
    · rw [if_neg (by decide)]; exact nx
    · rw [if_pos rfl]
      obtain ⟨h1, h2⟩ := hb rfl
      rw [hok h1 (fun i hi => h2 i (by omega))] at nx ⊢
      exact nx
  | d + 1, k, j, b, hj, hk, hb => by
    obtain ⟨k, rfl⟩ : ∃ m, k = m + 1 := ⟨k - 1, by omega⟩
    simp only [laws_FnLevelsOf.l0]
    rw [if_pos (by omega), w64s (by omega)]
    cases b
    · rw [if_neg (by decide)]
      exact lv_loop0 h7 next hok d k (j + 1) false (by omega) (by omega) (fun h => absurd h (by decide))
    · rw [if_pos rfl, if_pos (by omega), impl_Accepts_eq _ _ _ _ (by omega)]
      simp only [Option.bind_some]
      obtain ⟨h1, h2⟩ := hb rfl
      refine lv_loop0 h7 next hok d k (j + 1) _ (by omega) (by omega) fun h => ⟨h1, fun i hi => ?_⟩
      have h3 := of_decide_eq_true h
      by_cases e : i = j
      · subst e; exact h3.2.2
      · exact h2 i (by omega)
open Classical in
theorem lv_loop1 {t : Int} {l : List S25} (hr : RulesP t l) (hL : LevP t l) (lv : List Int) : ∀ (d k j : Nat), j + d = l.length → 2 * d + 40 ≤ k → laws_FnLevelsOf.l1 k t l lv true (zrk t l) true j = some true
  | 0, k, j, hj, hk => by
    obtain ⟨k, rfl⟩ : ∃ m, k = m + 2 := ⟨k - 2, by omega⟩
    simp only [laws_FnLevelsOf.l1]
    rw [if_neg (by omega)]
    simp only [laws_FnLevelsOf.j5]
    rw [if_neg (by decide), if_pos (by rfl), if_pos trivial, alive_eq]
    rfl
  | d + 1, k, j, hj, hk => by
    obtain ⟨k, rfl⟩ : ∃ m, k = m + 2 := ⟨k - 2, by omega⟩
    have h6 := hr.2.1
    simp only [laws_FnLevelsOf.l1]
    rw [if_pos (by omega)]
    simp only [laws_FnLevelsOf.j5]
    rw [if_pos trivial, if_pos (by omega), if_pos (by omega), impl_Accepts_eq _ _ _ _ (by omega)]
    simp only [Option.bind_some]
    rw [if_pos (by exact decide_eq_true ⟨rankP_zrk hr hL, hr.2.2 j (by omega), zrk_accepts hr hL (by omega)⟩), w64s (by omega)]
    exact lv_loop1 hr hL lv d k (j + 1) (by omega) (by omega)
open Classical in
theorem FnLevelsOf : laws_FnLevelsOf.Pure := by
  intro l0 h1 h2 h3
  obtain ⟨m, hm⟩ : ∃ m, m = 5000 := ⟨_, rfl⟩
  refine ⟨m + 3, ?_⟩
  unfold laws_FnLevelsOf.f
  by_cases hl : (l0.length : Int) > 1048576
  · rw [if_pos hl]
  · rw [if_neg hl]
    obtain ⟨t, l, e, hn⟩ := drawLevels_ok h3 (k := m + 3) (by omega)
    rw [e]
    simp only [Option.bind_some]
    rw [impl_LevelsOf_eq _ _ (by omega), spec_LevelsOf_eq _ _ (by omega) (by omega)]
    simp only [Option.bind_some]
    -- the levels, and the ranks
    obtain ⟨ok, lv, ez, hok, hlv⟩ : ∃ (ok : Bool) (lv : List Int), (if RulesP t l then zres t l else ([], false)) = (lv, ok) ∧ (ok = true ↔ RulesP t l ∧ LevP t l) ∧ (lv.length ≤ 7 ∧ (ok = false → lv = [])) := by
      by_cases hr : RulesP t l
      · by_cases hL : LevP t l
        · refine ⟨true, tab (zl t l l.length) l.length, ?_, ?_, ?_, ?_⟩
          · rw [if_pos hr, zres_eq, if_pos hL]
          · exact ⟨fun _ => ⟨hr, hL⟩, fun _ => rfl⟩
          · rw [tab_len]; omega
          · intro h; exact absurd h (by decide)
        · refine ⟨false, [], ?_, ?_, ?_, ?_⟩
          · rw [if_pos hr, zres_eq, if_neg hL]
          · exact ⟨fun h => absurd h (by decide), fun h => absurd h.2 hL⟩
          · simp
          · intro _; rfl
      · refine ⟨false, [], ?_, ?_, ?_, ?_⟩
        · rw [if_neg hr]
        · exact ⟨fun h => absurd h (by decide), fun h => absurd h.1 hr⟩
        · simp
        · intro _; rfl
    rw [ez]
    simp only
    rw [same_self (by omega) (by omega)]
    simp only [Option.bind_some]
    rw [if_pos trivial, bne_self_eq_false]
    have fin : ∀ k, 100 ≤ k → 400 ≤ k → laws_FnLevelsOf.j3 k t l lv ok false = some true := by
      intro k _ hk
      obtain ⟨k, rfl⟩ : ∃ m, k = m + 3 := ⟨k - 3, by omega⟩
      simp only [laws_FnLevelsOf.j3]
      rw [if_neg (by decide), impl_RankBy_eq _ _ (by omega)]
      simp only [Option.bind_some]
      cases ok
      · have hno : ¬ (RulesP t l ∧ LevP t l) := fun h => absurd (hok.2 h) (by decide)
        have e2 : (if RulesP t l then rres t l else ([], false)) = ([], false) := by
          by_cases hr : RulesP t l
          · rw [if_pos hr]
            unfold rres
            rw [if_neg (fun hL => hno ⟨hr, hL⟩)]
          · rw [if_neg hr]
        rw [e2, hlv.2 rfl]
        simp only [laws_FnLevelsOf.l1]
        by_cases h0 : (0 : Int) < (l.length : Int)
        · rw [if_pos h0]
          simp only [laws_FnLevelsOf.j5]
          rw [if_neg (by decide), if_pos (by rfl), if_neg (by decide), if_pos (by rfl), alive_eq]
          rfl
        · rw [if_neg h0]
          simp only [laws_FnLevelsOf.j5]
          rw [if_neg (by decide), if_pos (by rfl), if_neg (by decide), if_pos (by rfl), alive_eq]
          rfl
      · obtain ⟨hr, hL⟩ := hok.1 rfl
        rw [if_pos hr]
        unfold rres
        rw [if_pos hL]
        exact lv_loop1 hr hL lv l.length (k + 2) 0 (by omega) (by omega)
    simp only [laws_FnLevelsOf.j0]
    rw [if_neg (by decide)]
    obtain ⟨t2, r, x, y, e3, hr9⟩ := drawAcc_ok h3 (k := m + 2) (by omega)
    rw [e3]
    simp only [Option.bind_some]
    have go : ∀ (k : Nat) (b : Bool), 1000 ≤ k → (b = true → RankP t r ∧ RulesP t l) → laws_FnLevelsOf.j1 k t l lv ok r b = some true := by
      intro k b hk hb
      obtain ⟨k, rfl⟩ : ∃ m, k = m + 1 := ⟨k - 1, by omega⟩
      simp only [laws_FnLevelsOf.j1]
      exact lv_loop0 hn (K := 400) (fun k hk => fin k (by omega) hk) (b0 := b) (fun hb0 hall => hok.2 ⟨(hb hb0).2, lev_of_acc (hb hb0).2 (hb hb0).1 hall⟩) l.length k 0 b (by omega) (by omega) (fun h => ⟨h, fun i hi => by omega⟩)
    by_cases ht : t2 = t
    · rw [if_pos ht, spec_RankOk_eq _ _ (by omega) (by omega)]
      simp only [Option.bind_some]
      by_cases hrk : RankP t r
      · rw [if_pos (by simp [hrk]), spec_RulesOk_eq _ _ (by omega) (by omega)]
        simp only [Option.bind_some]
        exact go _ _ (by omega) (fun h => ⟨hrk, of_decide_eq_true h⟩)
      · rw [if_neg (by simp [hrk])]
        exact go _ _ (by omega) (fun h => absurd h (by decide))
    · rw [if_neg ht]
      exact go _ _ (by omega) (fun h => absurd h (by decide))

end Go.Proofs.Ytflaacdhifgpoaa.Pure

/- Rules tell themselves, whatever is drawn. Conditions: none beyond the statement's own. -/
import Derived.Test.YtflaacdhifgpoaaT0
import Derived.Test.YtflaacdhifgpoaaT15
import Derived.Test.YtflaacdhifgpoaaTLibD
import Derived.Test.YtflaacdhifgpoaaTLibF
import Derived.Test.YtflaacdhifgpoaaSets
set_option linter.unusedVariables false
set_option linter.unusedSimpArgs false
namespace Go.Proofs.Ytflaacdhifgpoaa.Pure
open Go.RowKit Go.Proofs.YtflaacdhifgpoaaW.PrintWords Go.Proofs.YtflaacdhifgpoaaW.PrintLast Go.Proofs.YtflaacdhifgpoaaW.PrintMore Go.Proofs.BelM Go.Proofs.Ytflaacdhifgpoaa.T Go.Proofs.Ytflaacdhifgpoaa.LT

theorem rx_snoc {l : List S25} {r : S25} {j : Nat} (hj : j < l.length) : rx (l ++ [r]) j = rx l j ∧ ry (l ++ [r]) j = ry l j := by
  unfold rx ry rd_T25
  rw [Int.toNat_natCast, List.getD_eq_getElem?_getD, List.getD_eq_getElem?_getD, List.getElem?_append_left hj]
  exact ⟨rfl, rfl⟩
theorem rx_last {l : List S25} {r : S25} : rx (l ++ [r]) l.length = r.f0 ∧ ry (l ++ [r]) l.length = r.f1 := by
  unfold rx ry rd_T25
  rw [Int.toNat_natCast, List.getD_eq_getElem?_getD, List.getElem?_append_right (Nat.le_refl _), Nat.sub_self]
  exact ⟨rfl, rfl⟩
/-- A list with what it tells has the same ranks. -/
theorem tell_more {t : Int} {l : List S25} {r : S25} (h : TellP t l r.f0 r.f1) (h6 : l.length < 6) : RulesP t (l ++ [r]) ∧ LevP t (l ++ [r]) ∧ zrk t (l ++ [r]) = zrk t l := by
  obtain ⟨hr, hL, hx, ha⟩ := h
  have hlen : (l ++ [r]).length = l.length + 1 := by rw [List.length_append, List.length_singleton]
  have hr2 : RulesP t (l ++ [r]) := by
    refine ⟨hr.1, by omega, fun j hj => ?_⟩
    rw [hlen] at hj
    by_cases e : j < l.length
    · rw [(rx_snoc e).1, (rx_snoc e).2]; exact hr.2.2 j e
    · have : j = l.length := by omega
      subst this
      rw [rx_last.1, rx_last.2]; exact hx
  have hz := rankP_zrk hr hL
  have hall : ∀ k, k < (l ++ [r]).length → AccP t (zrk t l) (rx (l ++ [r]) k) (ry (l ++ [r]) k) := by
    intro j hj
    rw [hlen] at hj
    by_cases e : j < l.length
    · rw [(rx_snoc e).1, (rx_snoc e).2]; exact zrk_accepts hr hL e
    · have : j = l.length := by omega
      subst this
      rw [rx_last.1, rx_last.2]; exact ha
  have hL2 := lev_of_acc hr2 hz hall
  have hz2 := rankP_zrk hr2 hL2
  have hall2 : ∀ k, k < l.length → AccP t (zrk t (l ++ [r])) (rx l k) (ry l k) := by
    intro j hj
    have := zrk_accepts hr2 hL2 (k := j) (by omega)
    rw [(rx_snoc hj).1, (rx_snoc hj).2] at this
    exact this
  refine ⟨hr2, hL2, tab_congr fun w hw => ?_⟩
  have h1 := zrk_least hr2 hz hall hw
  have h2 := zrk_least hr hz2 hall2 hw
  rw [zrk_rk hw, zrk_rk hw] at h1 h2
  omega
open Classical in
theorem tells_self {t : Int} {l : List S25} (hr : RulesP t l) (hL : LevP t l) {told : Bool} {x y : Int} {K : Nat} {R : Option Bool}
    (next : ∀ k, K ≤ k → laws_FnTells.j1 k t l told true l.length false x y = R) : ∀ (d k j : Nat), j + d = l.length → K + 2 * d + 310 ≤ k → laws_FnTells.l0 k t l told true j x y = R
  | 0, k, j, hj, hk => by
    obtain ⟨k, rfl⟩ : ∃ m, k = m + 1 := ⟨k - 1, by omega⟩
    have : j = l.length := by omega
    subst this
    simp only [laws_FnTells.l0]
    rw [if_neg (by omega)]
    exact next k (by omega)
  | d + 1, k, j, hj, hk => by
    obtain ⟨k, rfl⟩ : ∃ m, k = m + 2 := ⟨k - 2, by omega⟩
    have h6 := hr.2.1
    simp only [laws_FnTells.l0]
    rw [if_pos (by omega)]
    simp only [laws_FnTells.j1]
    rw [if_pos trivial, if_pos (by omega), if_pos (by omega), impl_Tells_eq _ _ _ _ (by omega)]
    simp only [Option.bind_some]
    rw [if_pos (by exact decide_eq_true ⟨hr, hL, hr.2.2 j (by omega), zrk_accepts hr hL (by omega)⟩), w64s (by omega)]
    exact tells_self hr hL next d k (j + 1) (by omega) (by omega)
open Classical in
theorem tells_fin {t : Int} {l : List S25} {x y : Int} (hn : l.length ≤ 7) {k : Nat} {b : Bool} (hk : 400 ≤ k) : laws_FnTells.j1 k t l (decide (TellP t l x y)) b l.length false x y = some true := by
  obtain ⟨k, rfl⟩ : ∃ m, k = m + 2 := ⟨k - 2, by omega⟩
  simp only [laws_FnTells.j1]
  rw [if_neg (by decide)]
  simp only [laws_FnTells.j2]
  by_cases hT : TellP t l x y
  · rw [if_pos (by exact decide_eq_true hT)]
    by_cases h6 : l.length < 6
    · rw [if_neg (by simp; omega), impl_RankBy_eq _ _ (by omega)]
      simp only [Option.bind_some, List.nil_append, List.length_nil, List.length_singleton]
      rw [if_pos (by omega), if_pos (by omega), impl_RankBy_eq _ _ (by omega)]
      simp only [Option.bind_some]
      obtain ⟨hr2, hL2, hz⟩ := tell_more (r := ⟨x, y⟩) hT h6
      have hzl : (zrk t l).length ≤ 8 := by unfold zrk; rw [tab_len]; exact worlds_le hT.1.1
      rw [if_pos hT.1, if_pos hr2]
      unfold rres
      rw [if_pos hT.2.1, if_pos hL2, hz]
      simp only
      rw [if_pos trivial, same_self (by omega) (by omega)]
      rfl
    · rw [if_pos (by simp; omega), alive_eq]
      rfl
  · rw [if_neg (by intro h; exact hT (of_decide_eq_true h)), if_pos trivial, alive_eq]
    rfl
theorem tells_none {t : Int} {l : List S25} {told : Bool} {x y : Int} {k : Nat} {j : Int} : laws_FnTells.l0 (k + 2) t l told false j x y = laws_FnTells.j1 (k + 1) t l told false l.length false x y := by
  simp only [laws_FnTells.l0]
  by_cases h0 : j < (l.length : Int)
  · rw [if_pos h0]
    simp only [laws_FnTells.j1, Bool.false_eq_true, if_false]
  · rw [if_neg h0]
    simp only [laws_FnTells.j1, Bool.false_eq_true, if_false]
open Classical in
theorem FnTells : laws_FnTells.Pure := by
  intro l0 h1 h2 h3
  obtain ⟨m, hm⟩ : ∃ m, m = 5000 := ⟨_, rfl⟩
  refine ⟨m + 3, ?_⟩
  unfold laws_FnTells.f
  by_cases hl : (l0.length : Int) > 1048576
  · rw [if_pos hl]
  · rw [if_neg hl]
    obtain ⟨t, l, x, y, e, hn⟩ := drawTells_ok h3 (k := m + 3) (by omega)
    rw [e]
    simp only [Option.bind_some]
    rw [impl_Tells_eq _ _ _ _ (by omega), spec_Tells_eq _ _ _ _ (by omega) (by omega), impl_RankBy_eq _ _ (by omega)]
    simp only [Option.bind_some]
    rw [if_neg (by simp)]
    have fin := fun k b hk => tells_fin (t := t) (l := l) (x := x) (y := y) hn (k := k) (b := b) hk
    by_cases hr : RulesP t l
    · rw [if_pos hr]
      unfold rres
      by_cases hL : LevP t l
      · rw [if_pos hL]
        have := tells_self hr hL (told := decide (TellP t l x y)) (x := x) (y := y) (K := 400) (fun k hk => fin k true hk) l.length (m + 3) 0 (by omega) (by omega)
        rw [show ((0 : Nat) : Int) = 0 from rfl] at this
        exact this
      · rw [if_neg hL]
        show laws_FnTells.l0 (m + 3) t l (decide (TellP t l x y)) false 0 x y = some true
        rw [tells_none]
        exact fin (m + 2) false (by omega)
    · rw [if_neg hr]
      show laws_FnTells.l0 (m + 3) t l (decide (TellP t l x y)) false 0 x y = some true
      rw [tells_none]
      exact fin (m + 2) false (by omega)

end Go.Proofs.Ytflaacdhifgpoaa.Pure

/- They are the least ranks, whatever is drawn. Conditions: none beyond the statement's own. -/
import Derived.Test.YtflaacdhifgpoaaV0
import Derived.Test.YtflaacdhifgpoaaV15
import Derived.Test.YtflaacdhifgpoaaV16
import Derived.Test.YtflaacdhifgpoaaVLibD
import Derived.Test.YtflaacdhifgpoaaVLibF
import Derived.Test.YtflaacdhifgpoaaSets
set_option linter.unusedVariables false
set_option linter.unusedSimpArgs false
namespace Go.Proofs.Ytflaacdhifgpoaa.Pure
open Go.RowKit Go.Proofs.YtflaacdhifgpoaaW.PrintWords Go.Proofs.YtflaacdhifgpoaaW.PrintLast Go.Proofs.YtflaacdhifgpoaaW.PrintMore Go.Proofs.BelM Go.Proofs.Ytflaacdhifgpoaa.V Go.Proofs.Ytflaacdhifgpoaa.LV

section
variable {t : Int} {l : List S25}
theorem rk_loop4 (hr : RulesP t l) (n : Int) {K : Nat} {R : Option Bool} (next : ∀ k x, K ≤ k → x.length ≤ 9 → laws_FnRankBy.l1 k t l (zrk t l) x (wrap64 (n + 1)) = R) :
    ∀ (d k j : Nat) (x : List Int), x.length = j → j + d = 2 ^ t.toNat → K + d + 1 ≤ k → laws_FnRankBy.l4 k t l (zrk t l) n x j = R
  | 0, k, j, x, hx, hj, hk => by
    obtain ⟨k, rfl⟩ : ∃ m, k = m + 1 := ⟨k - 1, by omega⟩
    have h8 := worlds_le hr.1
    have hz : (zrk t l).length = 2 ^ t.toNat := tab_len _ _
    simp only [laws_FnRankBy.l4]
    rw [if_neg (by omega)]
    exact next k x (by omega) (by omega)
  | d + 1, k, j, x, hx, hj, hk => by
    obtain ⟨k, rfl⟩ : ∃ m, k = m + 1 := ⟨k - 1, by omega⟩
    have h8 := worlds_le hr.1
    have hz : (zrk t l).length = 2 ^ t.toNat := tab_len _ _
    simp only [laws_FnRankBy.l4]
    rw [if_pos (by omega), if_pos (by omega), if_pos (by omega), w64s (by omega)]
    exact rk_loop4 hr n next d k (j + 1) _ (by rw [List.length_append, List.length_singleton]; omega) (by omega) (by omega)
theorem rk_loop3 (hr : RulesP t l) {other : List Int} (n : Int) {b : Bool} (hb : b = true → other.length = 2 ^ t.toNat ∧ ∀ w, w < 2 ^ t.toNat → rk (zrk t l) w ≤ rk other w) {K : Nat} {R : Option Bool}
    (next : ∀ k, K ≤ k → laws_FnRankBy.l4 k t l (zrk t l) n [] 0 = R) : ∀ (d k j : Nat), j + d = 2 ^ t.toNat → K + 2 * d + 2 ≤ k → laws_FnRankBy.l3 k t l (zrk t l) other n b j = R
  | 0, k, j, hj, hk => by
    obtain ⟨k, rfl⟩ : ∃ m, k = m + 2 := ⟨k - 2, by omega⟩
    have hz : (zrk t l).length = 2 ^ t.toNat := tab_len _ _
    simp only [laws_FnRankBy.l3]
    rw [if_neg (by omega)]
    simp only [laws_FnRankBy.j6]
    rw [if_neg (by decide)]
    exact next k (by omega)
  | d + 1, k, j, hj, hk => by
    obtain ⟨k, rfl⟩ : ∃ m, k = m + 2 := ⟨k - 2, by omega⟩
    have h8 := worlds_le hr.1
    have hz : (zrk t l).length = 2 ^ t.toNat := tab_len _ _
    simp only [laws_FnRankBy.l3]
    rw [if_pos (by omega)]
    simp only [laws_FnRankBy.j6]
    cases b
    · rw [if_neg (by decide)]
      exact next k (by omega)
    · obtain ⟨h1, h2⟩ := hb rfl
      have h3 := h2 j (by omega)
      rw [if_pos rfl, if_neg (by omega), if_pos (by omega), if_pos (by omega), if_pos (by omega), if_neg (by show ¬ rk (zrk t l) j > rk other j; omega), w64s (by omega)]
      exact rk_loop3 hr n hb next d k (j + 1) (by omega) (by omega)
open Classical in
theorem rk_loop2 (hr : RulesP t l) {other : List Int} (n : Int) {b0 : Bool} {K : Nat} {R : Option Bool}
    (next : ∀ k b, K ≤ k → (b = true → b0 = true ∧ ∀ i, i < l.length → AccP t other (rx l i) (ry l i)) → laws_FnRankBy.l3 k t l (zrk t l) other n b 0 = R) :
    ∀ (d k j : Nat) (b : Bool), j + d = l.length → K + d + 40 ≤ k → (b = true → b0 = true ∧ ∀ i, i < j → AccP t other (rx l i) (ry l i)) → laws_FnRankBy.l2 k t l (zrk t l) other n b j = R
  | 0, k, j, b, hj, hk, hb => by
    obtain ⟨k, rfl⟩ : ∃ m, k = m + 1 := ⟨k - 1, by omega⟩
    simp only [laws_FnRankBy.l2]
    rw [if_neg (by omega)]
    exact next k b (by omega) (fun h => ⟨(hb h).1, fun i hi => (hb h).2 i (by omega)⟩)
  | d + 1, k, j, b, hj, hk, hb => by
    obtain ⟨k, rfl⟩ : ∃ m, k = m + 1 := ⟨k - 1, by omega⟩
    have h6 := hr.2.1
    simp only [laws_FnRankBy.l2]
    rw [if_pos (by omega), w64s (by omega)]
    cases b
    · rw [if_neg (by decide)]
      exact rk_loop2 hr n next d k (j + 1) false (by omega) (by omega) (fun h => absurd h (by decide))
    · rw [if_pos rfl, if_pos (by omega), impl_Accepts_eq _ _ _ _ (by omega)]
      simp only [Option.bind_some]
      obtain ⟨h1, h2⟩ := hb rfl
      refine rk_loop2 hr n next d k (j + 1) _ (by omega) (by omega) fun h => ⟨h1, fun i hi => ?_⟩
      have h3 := of_decide_eq_true h
      by_cases e : i = j
      · subst e; exact h3.2.2
      · exact h2 i (by omega)
open Classical in
theorem rk_step1 (hr : RulesP t l) (hL : LevP t l) {other : List Int} (ho : other.length ≤ 9) {n : Int} (hn : n < 2) {K : Nat} {R : Option Bool} (next : ∀ k x, K ≤ k → x.length ≤ 9 → laws_FnRankBy.l1 k t l (zrk t l) x (wrap64 (n + 1)) = R) {k : Nat} (hk : K + 200 ≤ k) :
    laws_FnRankBy.l1 k t l (zrk t l) other n = R := by
  obtain ⟨k, rfl⟩ : ∃ m, k = m + 1 := ⟨k - 1, by omega⟩
  have h6 := hr.2.1
  have h8 := worlds_le hr.1
  simp only [laws_FnRankBy.l1]
  rw [if_pos hn, spec_RankOk_eq _ _ (by omega) (by omega)]
  simp only [Option.bind_some]
  refine rk_loop2 hr n (b0 := decide (RankP t other)) (K := K + 50) (fun k b hk hb => ?_) l.length k 0 _ (by omega) (by omega) (fun h => ⟨h, fun i hi => by omega⟩)
  refine rk_loop3 hr n (fun h => ?_) (K := K + 20) (fun k hk => rk_loop4 hr n next (2 ^ t.toNat) k 0 [] rfl (by omega) (by omega)) (2 ^ t.toNat) k 0 (by omega) (by omega)
  obtain ⟨h1, h2⟩ := hb h
  have hrk : RankP t other := of_decide_eq_true h1
  exact ⟨hrk.2.1, fun w hw => zrk_least hr hrk h2 hw⟩
open Classical in
theorem rk_all (hr : RulesP t l) (hL : LevP t l) {other : List Int} (ho : other.length ≤ 9) {k : Nat} (hk : 600 ≤ k) : laws_FnRankBy.l1 k t l (zrk t l) other 0 = some true := by
  refine rk_step1 hr hL ho (by omega) (K := 400) (fun k x hk hx => ?_) (by omega)
  rw [w64 (by omega) (by omega)]
  refine rk_step1 hr hL hx (by omega) (K := 100) (fun k x hk hx => ?_) (by omega)
  rw [w64 (by omega) (by omega)]
  obtain ⟨k, rfl⟩ : ∃ m, k = m + 1 := ⟨k - 1, by omega⟩
  simp only [laws_FnRankBy.l1]
  rw [if_neg (by omega)]
  unfold impl_RankOk.f
  rw [isRank_eq _ _ (by omega)]
  simp only [Option.bind_some]
  rw [decide_eq_true (rankP_zrk hr hL)]
open Classical in
theorem rk_loop0 (hr : RulesP t l) (hL : LevP t l) {code : List Int} (hc : ∀ x ∈ code, (Lit.int .u8 x).wf = true) : ∀ (d k j : Nat), j + d = l.length → d + 700 ≤ k → laws_FnRankBy.l0 k code t l (zrk t l) j = some true := by
  intro d
  have h6 := hr.2.1
  induction d with
  | zero =>
    intro k j hj hk
    obtain ⟨k, rfl⟩ : ∃ m, k = m + 1 := ⟨k - 1, by omega⟩
    simp only [laws_FnRankBy.l0]
    rw [if_neg (by omega)]
    obtain ⟨t2, r, x, y, e3, hr9⟩ := drawAcc_ok hc (k := k) (by omega)
    rw [e3]
    exact rk_all hr hL hr9 (by omega)
  | succ d ih =>
    intro k j hj hk
    obtain ⟨k, rfl⟩ : ∃ m, k = m + 1 := ⟨k - 1, by omega⟩
    simp only [laws_FnRankBy.l0]
    rw [if_pos (by omega), if_pos (by omega), impl_Accepts_eq _ _ _ _ (by omega)]
    simp only [Option.bind_some]
    rw [if_pos (by exact decide_eq_true ⟨rankP_zrk hr hL, hr.2.2 j (by omega), zrk_accepts hr hL (by omega)⟩), w64s (by omega)]
    exact ih k (j + 1) (by omega) (by omega)
end
open Classical in
theorem FnRankBy : laws_FnRankBy.Pure := by
  intro l0 l1 h1 h2 h3 h4 h5 h6
  obtain ⟨m, hm⟩ : ∃ m, m = 5000 := ⟨_, rfl⟩
  refine ⟨m + 3, ?_⟩
  unfold laws_FnRankBy.f
  have big : laws_FnRankBy.j0 (m + 3) l0 l1 true = some true := by
    simp only [laws_FnRankBy.j0]
    rw [if_pos trivial]
  by_cases hl : (l0.length : Int) > 1048576
  · rw [if_pos hl]; exact big
  rw [if_neg hl]
  by_cases hl1 : (l1.length : Int) > 1048576
  · rw [decide_eq_true hl1]; exact big
  rw [decide_eq_false hl1]
  simp only [laws_FnRankBy.j0]
  rw [if_neg (by decide)]
  obtain ⟨t, l, e, hn⟩ := drawRankBy_ok h3 (k := m + 2) (by omega)
  rw [e]
  simp only [Option.bind_some]
  rw [impl_RankBy_eq _ _ (by omega), spec_RankBy_eq _ _ (by omega) (by omega)]
  simp only [Option.bind_some]
  by_cases hok : RulesP t l ∧ LevP t l
  · obtain ⟨hr, hL⟩ := hok
    have hzl : (zrk t l).length ≤ 8 := by unfold zrk; rw [tab_len]; exact worlds_le hr.1
    rw [if_pos hr]
    unfold rres
    rw [if_pos hL]
    simp only
    rw [same_self (by omega) (by omega)]
    simp only [Option.bind_some]
    rw [if_pos trivial, bne_self_eq_false]
    simp only [laws_FnRankBy.j1]
    rw [if_neg (by decide), if_pos trivial]
    exact rk_loop0 hr hL h6 l.length (m + 1) 0 (by omega) (by omega)
  · have e2 : (if RulesP t l then rres t l else ([], false)) = ([], false) := by
      by_cases hr : RulesP t l
      · rw [if_pos hr]
        unfold rres
        rw [if_neg (fun hL => hok ⟨hr, hL⟩)]
      · rw [if_neg hr]
    rw [e2]
    simp only
    rw [same_self (by simp) (by simp)]
    simp only [Option.bind_some]
    rw [if_pos trivial, bne_self_eq_false]
    simp only [laws_FnRankBy.j1]
    rw [if_neg (by decide), if_neg (by decide), if_pos (by rfl), alive_eq]
    rfl

end Go.Proofs.Ytflaacdhifgpoaa.Pure

/- Plain facts about what the printed functions answer (several pieces in one text). Conditions: those of each theorem. -/
import Derived.Test.YtflaacdhifgpoaaV0
import Derived.Test.YtflaacdhifgpoaaV9
import Derived.Test.YtflaacdhifgpoaaV11
import Derived.Test.YtflaacdhifgpoaaVLibC
import Derived.Test.YtflaacdhifgpoaaVLibA
import Derived.Test.YtflaacdhifgpoaaSets
set_option linter.unusedVariables false
set_option linter.unusedSimpArgs false
namespace Go.Proofs.Ytflaacdhifgpoaa.LV
open Go.RowKit Go.Proofs.YtflaacdhifgpoaaW.PrintWords Go.Proofs.YtflaacdhifgpoaaW.PrintLast Go.Proofs.YtflaacdhifgpoaaW.PrintMore Go.Proofs.BelM Go.Proofs.Ytflaacdhifgpoaa.V
/-! #### ZRank -/
/-- The rank of a world. -/
def zr (t : Int) (l : List S25) (w : Nat) : Int := zrank l.length (ff l) (zl t l l.length) w
/-- .. by the first i rules. -/
def zacu (t : Int) (l : List S25) (w i : Nat) : Int := zrank i (ff l) (zl t l l.length) w
theorem zacu_succ (t : Int) (l : List S25) (w i : Nat) : zacu t l w (i + 1) = if ff l i w = true then max (zacu t l w i) (zl t l l.length i + 1) else zacu t l w i := by
  unfold zacu zrank
  rw [List.range_succ, List.foldl_append]
  rfl
def zrk (t : Int) (l : List S25) : List Int := tab (zr t l) (2 ^ t.toNat)
def LevP (t : Int) (l : List S25) : Prop := ∀ k, k < l.length → 0 ≤ zl t l l.length k
open Classical in
noncomputable def rres (t : Int) (l : List S25) : List Int × Bool := if LevP t l then (zrk t l, true) else ([], false)
open Classical in
theorem zres_eq (t : Int) (l : List S25) : zres t l = if LevP t l then (tab (zl t l l.length) l.length, true) else ([], false) := by
  unfold zres
  by_cases h : LevP t l
  · rw [if_pos h]
    exact if_pos h
  · rw [if_neg h]
    exact if_neg h
theorem zl_bound (t : Int) (l : List S25) (h6 : l.length ≤ 6) (k : Nat) : -1 ≤ zl t l l.length k ∧ zl t l l.length k ≤ 6 := by
  have := zit_range (n := l.length) (W := 2 ^ t.toNat) (v := vv l) (f := ff l) l.length k
  unfold zl
  omega
theorem broken_bit {t : Int} {l : List S25} (hr : RulesP t l) {i w : Nat} (hi : i < l.length) (hw : w < 8) : bits .and .i64 (shr .i64 (bits .andNot .i64 (rx l i) (ry l i)) w) 1 = if ff l i w = true then 1 else 0 := by
  obtain ⟨x0, x1⟩ := rx_ok hr hi
  obtain ⟨y0, y1⟩ := ry_ok hr hi
  have hm := mk_lt (fun v => mem (rx l i) v && !mem (ry l i) v) 8
  rw [bits_andNot8 x0 x1 y0 y1, and_bit (mk_nonneg _ _) hm (by omega), mem_mk_lt _ hw]
  rfl
theorem rb_loop1 {t : Int} {l : List S25} (hr : RulesP t l) {w : Nat} (hw : w < 2 ^ t.toNat) {x : List Int} (hx : x.length ≤ 8) {K : Nat} {R : Option (List Int × Bool)}
    (next : ∀ k, K ≤ k → impl_rankBy.l0 k l (tab (zl t l l.length) l.length) (x ++ [zr t l w]) ((2 ^ t.toNat : Nat) : Int) ((w + 1 : Nat) : Int) = R) :
    ∀ (d k i : Nat), i + d = l.length → K + d + 1 ≤ k → impl_rankBy.l1 k l (tab (zl t l l.length) l.length) x w (zacu t l w i) ((2 ^ t.toNat : Nat) : Int) w l l.length i = R
  | 0, k, i, hi, hk => by
    obtain ⟨k, rfl⟩ : ∃ m, k = m + 1 := ⟨k - 1, by omega⟩
    have h8 := worlds_le hr.1
    have : i = l.length := by omega
    subst this
    simp only [impl_rankBy.l1]
    rw [if_neg (by omega), if_pos (by omega), w64s (by omega)]
    exact next k (by omega)
  | d + 1, k, i, hi, hk => by
    obtain ⟨k, rfl⟩ : ∃ m, k = m + 1 := ⟨k - 1, by omega⟩
    have h6 := hr.2.1
    have h8 := worlds_le hr.1
    have hb := zl_bound t l h6 i
    have ih := rb_loop1 hr hw hx next d k (i + 1) (by omega) (by omega)
    rw [zacu_succ] at ih
    have e := broken_bit hr (i := i) (w := w) (by omega) (by omega)
    unfold rx ry at e
    simp only [impl_rankBy.l1]
    rw [if_pos (by omega), if_pos (by omega), if_pos (by omega), if_pos (by omega), e, w64s (by omega)]
    by_cases hf : ff l i w = true
    · rw [if_pos hf] at ih
      have er : rd (tab (zl t l l.length) l.length) (i : Int) = zl t l l.length i := by
        show rk _ _ = _
        rw [tab_rk (by omega)]
      rw [if_pos hf, if_pos rfl, if_pos (by rw [tab_len]; omega), er, w64 (by omega) (by omega), mx_eq]
      exact ih
    · rw [if_neg hf] at ih
      rw [if_neg hf, if_neg (by decide)]
      exact ih
theorem rb_loop0 {t : Int} {l : List S25} (hr : RulesP t l) : ∀ (d k w : Nat), w + d = 2 ^ t.toNat → d * 10 + 1 ≤ k →
    impl_rankBy.l0 k l (tab (zl t l l.length) l.length) (tab (zr t l) w) ((2 ^ t.toNat : Nat) : Int) w = some (zrk t l, true)
  | 0, k, w, hw, hk => by
    obtain ⟨k, rfl⟩ : ∃ m, k = m + 1 := ⟨k - 1, by omega⟩
    have : w = 2 ^ t.toNat := by omega
    subst this
    simp only [impl_rankBy.l0]
    rw [if_neg (by omega)]
    rfl
  | d + 1, k, w, hw, hk => by
    obtain ⟨k, rfl⟩ : ∃ m, k = m + 1 := ⟨k - 1, by omega⟩
    have h6 := hr.2.1
    have h8 := worlds_le hr.1
    simp only [impl_rankBy.l0]
    rw [if_pos (by omega)]
    exact rb_loop1 hr (by omega) (by rw [tab_len]; omega) (K := d * 10 + 1) (fun k hk => by rw [tab_snoc]; exact rb_loop0 hr d k (w + 1) (by omega) hk) l.length k 0 (by omega) (by omega)
theorem rankBy_eq {t : Int} {l : List S25} (hr : RulesP t l) {k : Nat} (hk : 300 ≤ k) : impl_rankBy.f k t l = some (rres t l) := by
  have ht := hr.1
  have h8 := worlds_le ht
  unfold impl_rankBy.f
  rw [levelsOf_eq hr hk, zres_eq]
  simp only [Option.bind_some]
  unfold rres
  by_cases hL : LevP t l
  · rw [if_pos hL, if_pos hL]
    simp only
    rw [if_pos trivial, if_pos (by omega), shl_things ht]
    exact rb_loop0 hr (2 ^ t.toNat) k 0 (by omega) (by omega)
  · rw [if_neg hL, if_neg hL]
    simp only
    rw [if_neg (by decide)]
open Classical in
theorem impl_RankBy_eq (t : Int) (l : List S25) {k : Nat} (hk : 300 ≤ k) : impl_RankBy.f k t l = some (if RulesP t l then rres t l else ([], false)) := by
  unfold impl_RankBy.f
  rw [impl_areRules_eq]
  simp only [Option.bind_some]
  by_cases hr : RulesP t l
  · rw [if_pos (by exact decide_eq_true hr), if_pos hr, rankBy_eq hr hk]
    rfl
  · rw [if_neg (by intro h; exact hr (of_decide_eq_true h)), if_neg hr]
theorem sb_loop1 {t : Int} {l : List S25} (hr : RulesP t l) {w : Nat} (hw : w < 2 ^ t.toNat) {x : List Int} (hx : x.length ≤ 8) {K : Nat} {R : Option (List Int × Bool)}
    (next : ∀ k, K ≤ k → spec_RankBy.l0 k t l (tab (zl t l l.length) l.length) (x ++ [zr t l w]) ((w + 1 : Nat) : Int) = R) :
    ∀ (d k i : Nat), i + d = l.length → K + d + 1 ≤ k → spec_RankBy.l1 k t l (tab (zl t l l.length) l.length) x w (zacu t l w i) i = R
  | 0, k, i, hi, hk => by
    obtain ⟨k, rfl⟩ : ∃ m, k = m + 1 := ⟨k - 1, by omega⟩
    have h8 := worlds_le hr.1
    have : i = l.length := by omega
    subst this
    simp only [spec_RankBy.l1]
    rw [if_neg (by omega), if_pos (by omega), w64s (by omega)]
    exact next k (by omega)
  | d + 1, k, i, hi, hk => by
    obtain ⟨k, rfl⟩ : ∃ m, k = m + 1 := ⟨k - 1, by omega⟩
    have h6 := hr.2.1
    have h8 := worlds_le hr.1
    have hb := zl_bound t l h6 i
    have ih := sb_loop1 hr hw hx next d k (i + 1) (by omega) (by omega)
    rw [zacu_succ] at ih
    have e := breaks_eq (w := w) (rx_ok hr (j := i) (by omega)).1 (ry_ok hr (j := i) (by omega)).1 (by omega)
    have hff : ff l i w = (mem (rx l i) w && !mem (ry l i) w) := rfl
    rw [← hff] at e
    unfold rx ry at e
    simp only [spec_RankBy.l1]
    rw [if_pos (by omega), if_pos (by omega), e]
    simp only [Option.bind_some]
    rw [w64s (by omega)]
    by_cases hf : ff l i w = true
    · rw [if_pos hf] at ih
      have er : rd (tab (zl t l l.length) l.length) (i : Int) = zl t l l.length i := by
        show rk _ _ = _
        rw [tab_rk (by omega)]
      rw [if_pos hf, if_pos (by rw [tab_len]; omega), er, w64 (by omega) (by omega), mx_eq]
      exact ih
    · rw [if_neg hf] at ih
      rw [if_neg hf]
      exact ih
theorem sb_loop0 {t : Int} {l : List S25} (hr : RulesP t l) : ∀ (d k w : Nat), w + d = 2 ^ t.toNat → d * 10 + 1 ≤ k →
    spec_RankBy.l0 k t l (tab (zl t l l.length) l.length) (tab (zr t l) w) w = some (zrk t l, true)
  | 0, k, w, hw, hk => by
    obtain ⟨k, rfl⟩ : ∃ m, k = m + 1 := ⟨k - 1, by omega⟩
    have : w = 2 ^ t.toNat := by omega
    subst this
    have ht := hr.1
    simp only [spec_RankBy.l0]
    rw [if_pos (by omega), shl_things ht, if_neg (by omega)]
    rfl
  | d + 1, k, w, hw, hk => by
    obtain ⟨k, rfl⟩ : ∃ m, k = m + 1 := ⟨k - 1, by omega⟩
    have ht := hr.1
    have h6 := hr.2.1
    have h8 := worlds_le hr.1
    simp only [spec_RankBy.l0]
    rw [if_pos (by omega), shl_things ht, if_pos (by omega)]
    exact sb_loop1 hr (by omega) (by rw [tab_len]; omega) (K := d * 10 + 1) (fun k hk => by rw [tab_snoc]; exact sb_loop0 hr d k (w + 1) (by omega) hk) l.length k 0 (by omega) (by omega)
open Classical in
theorem spec_RankBy_eq (t : Int) (l : List S25) (hl : l.length ≤ 17592186044416) {k : Nat} (hk : l.length + 4500 ≤ k) : spec_RankBy.f k t l = some (if RulesP t l then rres t l else ([], false)) := by
  unfold spec_RankBy.f
  rw [spec_LevelsOf_eq _ _ hl hk]
  simp only [Option.bind_some]
  by_cases hr : RulesP t l
  · have h8 := worlds_le hr.1
    rw [if_pos hr, if_pos hr, zres_eq]
    unfold rres
    by_cases hL : LevP t l
    · rw [if_pos hL, if_pos hL]
      simp only
      rw [if_pos trivial]
      exact sb_loop0 hr (2 ^ t.toNat) k 0 (by omega) (by omega)
    · rw [if_neg hL, if_neg hL]
      simp only
      rw [if_neg (by decide)]
  · rw [if_neg hr, if_neg hr]
    simp only
    rw [if_neg (by decide)]
/-! ### What the ranks are -/
theorem zrk_rk {t : Int} {l : List S25} {w : Nat} (hw : w < 2 ^ t.toNat) : rk (zrk t l) w = zr t l w := tab_rk hw
theorem rankP_zrk {t : Int} {l : List S25} (hr : RulesP t l) (hL : LevP t l) : RankP t (zrk t l) := by
  have h2 := worlds_ge hr.1
  have h6 := hr.2.1
  refine ⟨hr.1, tab_len _ _, fun w hw => ?_, ?_⟩
  · unfold zrk at hw
    rw [tab_len] at hw
    rw [zrk_rk hw]
    have h1 : 0 ≤ zr t l w := zrank_nonneg
    have h3 : zr t l w ≤ l.length := zrank_max w
    omega
  · obtain ⟨w, hw, e⟩ := z_zero (n := l.length) (W := 2 ^ t.toNat) (v := vv l) (f := ff l) (by omega) hL
    exact ⟨w, by unfold zrk; rw [tab_len]; exact hw, by rw [zrk_rk hw]; exact e⟩
theorem zacc_congr {W : Nat} {v f : Nat → Nat → Bool} {r q : Nat → Int} {k : Nat} (h : ∀ w, w < W → r w = q w) : zacc W v f r k ↔ zacc W v f q k := by
  unfold zacc
  constructor
  · rintro ⟨h1, h2⟩
    refine ⟨h1, fun w hw hf => ?_⟩
    obtain ⟨u, hu, hv, hlt⟩ := h2 w hw hf
    exact ⟨u, hu, hv, by rw [← h u hu, ← h w hw]; exact hlt⟩
  · rintro ⟨h1, h2⟩
    refine ⟨h1, fun w hw hf => ?_⟩
    obtain ⟨u, hu, hv, hlt⟩ := h2 w hw hf
    exact ⟨u, hu, hv, by rw [h u hu, h w hw]; exact hlt⟩
theorem acc_rule {t : Int} {l : List S25} (hr : RulesP t l) {r : List Int} (hk : RankP t r) {k : Nat} (h : k < l.length) : AccP t r (rx l k) (ry l k) ↔ zacc (2 ^ t.toNat) (vv l) (ff l) (rk r) k :=
  acc_iff hk (hr.2.2 k h) (fun _ => rfl) (fun _ => rfl)
/-- The ranks of rules accept all of them. -/
theorem zrk_accepts {t : Int} {l : List S25} (hr : RulesP t l) (hL : LevP t l) {k : Nat} (hk : k < l.length) : AccP t (zrk t l) (rx l k) (ry l k) := by
  rw [acc_rule hr (rankP_zrk hr hL) hk, zacc_congr (q := zr t l) (fun w hw => zrk_rk hw)]
  exact z_accepts hL k hk
theorem lev_of_acc {t : Int} {l : List S25} (hr : RulesP t l) {r : List Int} (hk : RankP t r) (h : ∀ k, k < l.length → AccP t r (rx l k) (ry l k)) : LevP t l :=
  z_levels (r := rk r) (fun w hw => hk.lo hw) (fun k hkl => (acc_rule hr hk hkl).1 (h k hkl))
theorem zrk_least {t : Int} {l : List S25} (hr : RulesP t l) {r : List Int} (hk : RankP t r) (h : ∀ k, k < l.length → AccP t r (rx l k) (ry l k)) {w : Nat} (hw : w < 2 ^ t.toNat) : rk (zrk t l) w ≤ rk r w := by
  rw [zrk_rk hw]
  exact z_least (r := rk r) (fun w hw => hk.lo hw) (fun k hkl => (acc_rule hr hk hkl).1 (h k hkl)) w hw
/-- What a list of rules tells. -/
def TellP (t : Int) (l : List S25) (x y : Int) : Prop := RulesP t l ∧ LevP t l ∧ RuleP t x y ∧ AccP t (zrk t l) x y
end Go.Proofs.Ytflaacdhifgpoaa.LV

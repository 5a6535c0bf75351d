/- Plain facts about what the printed functions answer (several pieces in one text). Conditions: those of each theorem. -/
import Derived.Test.YtflaacdhifgpoaaP1
import Derived.Test.YtflaacdhifgpoaaP3
import Derived.Test.YtflaacdhifgpoaaP6
import Derived.Test.YtflaacdhifgpoaaP7
import Derived.Test.YtflaacdhifgpoaaP8
import Derived.Test.YtflaacdhifgpoaaP9
import Derived.Test.YtflaacdhifgpoaaSets
set_option linter.unusedVariables false
set_option linter.unusedSimpArgs false
namespace Go.Proofs.Ytflaacdhifgpoaa.L
open Go.RowKit Go.Proofs.YtflaacdhifgpoaaW.PrintWords Go.Proofs.YtflaacdhifgpoaaW.PrintLast Go.Proofs.YtflaacdhifgpoaaW.PrintMore Go.Proofs.BelM Go.Proofs.Ytflaacdhifgpoaa.P
/-! #### FBase -/

theorem w64 {x : Int} (h0 : -9223372036854775808 ≤ x) (h1 : x ≤ 9223372036854775807) : wrap64 x = x := by unfold wrap64; omega
theorem w64s {j : Nat} (h : j ≤ 281474976710656) : wrap64 ((j : Int) + 1) = ((j + 1 : Nat) : Int) := by rw [w64 (by omega) (by omega)]; omega
theorem wfb {a : Int} (h : (Lit.int .i64 a).wf = true) : -9223372036854775808 ≤ a ∧ a ≤ 9223372036854775807 := by
  have h2 : (decide (IntKind.min .i64 ≤ a) && decide (a ≤ IntKind.max .i64)) = true := h
  rw [Bool.and_eq_true, decide_eq_true_eq, decide_eq_true_eq] at h2
  exact h2
theorem wfu8 {a : Int} (h : (Lit.int .u8 a).wf = true) : 0 ≤ a ∧ a ≤ 255 := by
  have h2 : (decide (IntKind.min .u8 ≤ a) && decide (a ≤ IntKind.max .u8)) = true := h
  rw [Bool.and_eq_true, decide_eq_true_eq, decide_eq_true_eq] at h2
  exact h2
theorem mn_eq (a b : Int) : mn a b = min a b := by unfold mn; split <;> omega
theorem mx_eq (a b : Int) : mx a b = max a b := by unfold mx; split <;> omega
theorem pow_nat (j : Nat) : (2 : Int) ^ j = ((2 ^ j : Nat) : Int) := by simp
theorem pow_le128 {j : Nat} (hj : j < 8) : (2 : Int) ^ j ≤ 128 := by
  have : 2 ^ j ≤ 2 ^ 7 := Nat.pow_le_pow_right (by decide) (by omega)
  rw [pow_nat]; omega
theorem shl_small1 {j : Nat} (hj : j < 8) : shl .i64 1 j = 2 ^ j := by
  have h := pow_le128 hj
  have h0 := pow_pos j
  unfold shl
  rw [Int.toNat_natCast, Nat.min_eq_left (by show j ≤ 64; omega), Int.one_mul, IntKind.wrap_i64]
  omega
theorem shl_zero (j : Int) : shl .i64 0 j = 0 := by
  unfold shl
  rw [Int.zero_mul, IntKind.wrap_i64]; rfl
theorem toNat_le3 {t : Int} (ht : 1 ≤ t ∧ t ≤ 3) : 1 ≤ t.toNat ∧ t.toNat ≤ 3 := by omega
theorem worlds_le {t : Int} (ht : 1 ≤ t ∧ t ≤ 3) : 2 ^ t.toNat ≤ 8 := by
  have : 2 ^ t.toNat ≤ 2 ^ 3 := Nat.pow_le_pow_right (by decide) (by omega)
  omega
theorem worlds_ge {t : Int} (ht : 1 ≤ t ∧ t ≤ 3) : 2 ≤ 2 ^ t.toNat := by
  have : 2 ^ 1 ≤ 2 ^ t.toNat := Nat.pow_le_pow_right (by decide) (by omega)
  omega
theorem shl_things {t : Int} (ht : 1 ≤ t ∧ t ≤ 3) : shl .i64 1 t = ((2 ^ t.toNat : Nat) : Int) := by
  have h := shl_small1 (j := t.toNat) (by omega)
  rw [show ((t.toNat : Nat) : Int) = t by omega] at h
  rw [h, pow_nat]
theorem shr_nat {s : Int} {w : Nat} (hs : 0 ≤ s) (hw : w ≤ 64) : shr .i64 s w = s / 2 ^ w := by
  unfold shr
  rw [Int.toNat_natCast, Nat.min_eq_left (by show w ≤ 64; exact hw)]
theorem shr_val {s : Int} {w : Nat} (hs : 0 ≤ s) (hw : w ≤ 64) : shr .i64 s w = ((s.toNat / 2 ^ w : Nat) : Int) := by
  rw [shr_nat hs hw]
  have : s = (s.toNat : Int) := by omega
  rw [this, Int.toNat_natCast]; simp
theorem tmod_bit {s : Int} {w : Nat} (hs : 0 ≤ s) (hw : w ≤ 64) : Int.tmod (shr .i64 s w) 2 = if mem s w = true then 1 else 0 := by
  rw [shr_val hs hw]
  unfold mem
  rw [Nat.testBit_eq_decide_div_mod_eq]
  generalize s.toNat / 2 ^ w = m
  rw [Int.tmod_eq_emod_of_nonneg (Int.natCast_nonneg m)]
  by_cases h : m % 2 = 1
  · rw [if_pos (by simp [h])]; omega
  · rw [if_neg (by simp [h])]; omega
theorem and_bit {s : Int} {w : Nat} (hs : 0 ≤ s) (hs' : s < 256) (hw : w ≤ 64) : bits .and .i64 (shr .i64 s w) 1 = if mem s w = true then 1 else 0 := by
  rw [shr_nat hs hw]; exact and1 hs hs'

theorem l1In_eq (a b c : Int) : spec_l1In.f a b c = some (decide (b ≤ a ∧ a ≤ c)) := by
  unfold spec_l1In.f
  by_cases h : a ≥ b
  · rw [if_pos h]
    have h' : b ≤ a := h
    simp [h']
  · rw [if_neg h]
    have h' : ¬ b ≤ a := h
    simp [h']

/-- A set of worlds, for a number of things. -/
def SetP (t s : Int) : Prop := (1 ≤ t ∧ t ≤ 3) ∧ 0 ≤ s ∧ s < 2 ^ 2 ^ t.toNat
instance (t s : Int) : Decidable (SetP t s) := by unfold SetP; infer_instance
theorem SetP.lt8 {t s : Int} (h : SetP t s) : s < 2 ^ 8 := lt8of (worlds_le h.1) h.2.2
theorem SetP.lt256 {t s : Int} (h : SetP t s) : s < 256 := by
  have := h.lt8
  have : (2 : Int) ^ 8 = 256 := by decide
  omega
theorem SetP.mk {t : Int} (ht : 1 ≤ t ∧ t ≤ 3) (p : Nat → Bool) : SetP t (mk p (2 ^ t.toNat)) := ⟨ht, mk_nonneg _ _, mk_lt _ _⟩
theorem SetP.mem_lt {t s : Int} (h : SetP t s) {w : Nat} (hm : mem s w = true) : w < 2 ^ t.toNat := Go.Proofs.BelM.mem_lt h.2.1 h.2.2 hm

theorem all_spec {t : Int} (ht : 1 ≤ t ∧ t ≤ 3) : spec_l1All.f t = some (2 ^ 2 ^ t.toNat - 1) := by unfold spec_l1All.f; rw [if_pos ht]
theorem all_le {t : Int} (ht : 1 ≤ t ∧ t ≤ 3) : (2 : Int) ^ 2 ^ t.toNat ≤ 256 := le_pow8 (worlds_le ht)
theorem all_ge {t : Int} (ht : 1 ≤ t ∧ t ≤ 3) : (4 : Int) ≤ 2 ^ 2 ^ t.toNat := by
  have : 2 ^ 2 ≤ 2 ^ 2 ^ t.toNat := Nat.pow_le_pow_right (by decide) (worlds_ge ht)
  rw [pow_nat]; omega
theorem SetOk_eq (t s : Int) : spec_SetOk.f t s = some (decide (SetP t s)) := by
  unfold spec_SetOk.f
  rw [l1In_eq]
  simp only [Option.bind_some]
  by_cases ht : 1 ≤ t ∧ t ≤ 3
  · rw [if_pos (by simp [ht]), all_spec ht]
    simp only [Option.bind_some]
    rw [l1In_eq]
    simp only [Option.bind_some]
    congr 1
    apply decide_eq_decide.mpr
    unfold SetP
    generalize (2 : Int) ^ 2 ^ t.toNat = M
    omega
  · rw [if_neg (by simpa using ht)]
    congr 1
    symm
    apply decide_eq_false
    unfold SetP
    exact fun h => ht h.1

theorem l1Bit_eq {s : Int} {w : Nat} (hs : 0 ≤ s) (hw : w ≤ 64) : spec_l1Bit.f s w = some (if mem s w = true then 1 else 0) := by
  unfold spec_l1Bit.f
  rw [if_pos (by omega), tmod_bit hs hw]
/-- One more world of a sum. -/
theorem add_bit {p : Nat → Bool} {j : Nat} (hj : j < 8) (hp : p j = true) : wrap64 (mk p j + shl .i64 1 j) = mk p (j + 1) := by
  have h1 := mk_lt p j
  have h2 := mk_nonneg p j
  have h3 := pow_le128 hj
  rw [shl_small1 hj, mk_succ, if_pos hp, w64 (by omega) (by omega)]
theorem skip_bit {p : Nat → Bool} {j : Nat} (hp : p j = false) : mk p j = mk p (j + 1) := mk_skip hp
theorem step2 {a b : Int} {j : Nat} (hj : j < 8) : wrap64 (mk (fun w => mem a w && mem b w) j + shl .i64 (wrap64 ((if mem a j = true then 1 else 0) * (if mem b j = true then 1 else 0))) j) = mk (fun w => mem a w && mem b w) (j + 1) := by
  by_cases h : mem a j = true ∧ mem b j = true
  · rw [if_pos h.1, if_pos h.2, show wrap64 (1 * 1) = 1 by decide +kernel]
    exact add_bit hj (by simp [h.1, h.2])
  · have e : (if mem a j = true then (1 : Int) else 0) * (if mem b j = true then 1 else 0) = 0 := by
      by_cases ha : mem a j = true
      · rw [if_neg (fun hb => h ⟨ha, hb⟩), Int.mul_zero]
      · rw [if_neg ha, Int.zero_mul]
    have h2 := mk_nonneg (fun w => mem a w && mem b w) j
    have h1 := mk_lt (fun w => mem a w && mem b w) j
    have h3 := pow_le128 hj
    rw [e, show wrap64 0 = 0 by decide +kernel, shl_zero, Int.add_zero, w64 (by omega) (by omega)]
    exact skip_bit (by
      cases ha : mem a j
      · rfl
      · cases hb : mem b j
        · rfl
        · exact absurd ⟨ha, hb⟩ h)
theorem l1Both_loop {a b : Int} (ha : 0 ≤ a) (hb : 0 ≤ b) : ∀ (d k j : Nat), j + d = 8 → d < k → spec_l1Both.l0 k a b (mk (fun w => mem a w && mem b w) j) j = some (andS a b)
  | 0, k, j, hj, hk => by
    obtain ⟨k, rfl⟩ : ∃ m, k = m + 1 := ⟨k - 1, by omega⟩
    obtain rfl : j = 8 := by omega
    simp only [spec_l1Both.l0]
    rw [if_neg (by decide)]
    rfl
  | d + 1, k, j, hj, hk => by
    obtain ⟨k, rfl⟩ : ∃ m, k = m + 1 := ⟨k - 1, by omega⟩
    have ih := l1Both_loop ha hb d k (j + 1) (by omega) (by omega)
    simp only [spec_l1Both.l0]
    rw [if_pos (by omega), l1Bit_eq ha (by omega), l1Bit_eq hb (by omega)]
    simp only [Option.bind_some]
    rw [if_pos (by omega), w64s (by omega), step2 (by omega)]
    exact ih
theorem l1Both_eq {a b : Int} (ha : 0 ≤ a) (hb : 0 ≤ b) {k : Nat} (hk : 9 ≤ k) : spec_l1Both.f k a b = some (andS a b) := by
  unfold spec_l1Both.f
  exact l1Both_loop ha hb 8 k 0 (by omega) (by omega)
/-! #### FEither -/
/-! #### FSets -/

theorem areThings_eq (t : Int) : impl_areThings.f t = some (decide (1 ≤ t ∧ t ≤ 3)) := by
  unfold impl_areThings.f
  by_cases h : t ≥ 1
  · rw [if_pos h]
    have h' : 1 ≤ t := h
    simp [h']
  · rw [if_neg h]
    have h' : ¬ 1 ≤ t := h
    simp [h']
theorem isSet_eq (t s : Int) : impl_isSet.f t s = some (decide (SetP t s)) := by
  unfold impl_isSet.f
  rw [areThings_eq]
  simp only [Option.bind_some]
  by_cases ht : 1 ≤ t ∧ t ≤ 3
  · rw [if_pos (by simp [ht])]
    by_cases h0 : s ≥ 0
    · rw [if_pos h0]
      unfold impl_allWorlds.f
      rw [if_pos ht]
      simp only [Option.bind_some]
      congr 1
      apply decide_eq_decide.mpr
      unfold SetP
      generalize (2 : Int) ^ 2 ^ t.toNat = M
      omega
    · rw [if_neg h0]
      congr 1
      symm
      apply decide_eq_false
      exact fun h => h0 h.2.1
  · rw [if_neg (by simpa using ht)]
    congr 1
    symm
    apply decide_eq_false
    exact fun h => ht h.1
/-! #### FRule -/
/-- A rule, for a number of things. -/
def RuleP (t x y : Int) : Prop := SetP t x ∧ SetP t y ∧ x ≠ 0
instance (t x y : Int) : Decidable (RuleP t x y) := by unfold RuleP; infer_instance
theorem isRule_eq (t x y : Int) : impl_isRule.f t x y = some (decide (RuleP t x y)) := by
  unfold impl_isRule.f
  rw [isSet_eq, isSet_eq]
  simp only [Option.bind_some]
  by_cases hx : SetP t x
  · by_cases hy : SetP t y
    · by_cases h0 : x = 0
      · simp [hx, hy, h0, RuleP]
      · simp [hx, hy, h0, RuleP]
    · simp [hx, hy, RuleP]
  · simp [hx, RuleP]
theorem impl_RuleOk_eq (t x y : Int) : impl_RuleOk.f t x y = some (decide (RuleP t x y)) := by
  unfold impl_RuleOk.f
  rw [isRule_eq]
  rfl
theorem spec_RuleOk_eq (t x y : Int) : spec_RuleOk.f t x y = some (decide (RuleP t x y)) := by
  unfold spec_RuleOk.f
  rw [SetOk_eq, SetOk_eq]
  simp only [Option.bind_some]
  by_cases hx : SetP t x
  · by_cases hy : SetP t y
    · by_cases h0 : x = 0
      · simp [hx, hy, h0, RuleP]
      · simp [hx, hy, h0, RuleP]
    · simp [hx, hy, RuleP]
  · simp [hx, RuleP]
/-! #### FRank -/

/-- A row as a function of worlds. -/
def rk (l : List Int) (w : Nat) : Int := rd l (w : Int)
theorem rk_eq (l : List Int) (w : Nat) : rk l w = l.getD w 0 := by unfold rk rd; rw [Int.toNat_natCast]

theorem l2_loop1 {l : List Int} {s x : Int} (hs : 0 ≤ s) (hl : l.length ≤ 8) : ∀ (d k j : Nat), j + d = l.length → d < k →
    spec_l2Least.l1 k l s x (mk (fun w => mem s w && decide (rk l w = x)) j) j = some (mk (fun w => mem s w && decide (rk l w = x)) l.length)
  | 0, k, j, hj, hk => by
    obtain ⟨k, rfl⟩ : ∃ m, k = m + 1 := ⟨k - 1, by omega⟩
    obtain rfl : j = l.length := by omega
    simp only [spec_l2Least.l1]
    rw [if_neg (by omega)]
  | d + 1, k, j, hj, hk => by
    obtain ⟨k, rfl⟩ : ∃ m, k = m + 1 := ⟨k - 1, by omega⟩
    have ih := l2_loop1 (x := x) hs hl d k (j + 1) (by omega) (by omega)
    simp only [spec_l2Least.l1]
    rw [if_pos (by omega), l1Bit_eq hs (by omega)]
    simp only [Option.bind_some]
    by_cases hm : mem s j = true
    · rw [if_pos hm, if_pos rfl, if_pos (by omega)]
      by_cases hx : rd l (j : Int) = x
      · rw [if_pos hx, add_bit (by omega) (by show (mem s j && decide (rk l j = x)) = true; rw [hm]; simp [rk, hx]), w64s (by omega)]
        exact ih
      · rw [if_neg hx, w64s (by omega), skip_bit (j := j) (by show (mem s j && decide (rk l j = x)) = false; simp [rk, hx])]
        exact ih
    · rw [if_neg hm, if_neg (by decide), w64s (by omega), skip_bit (j := j) (by show (mem s j && decide (rk l j = x)) = false; simp [hm])]
      exact ih
theorem l2_loop0 {l : List Int} {s : Int} (hs : 0 ≤ s) (hl : l.length ≤ 8) : ∀ (d k j : Nat), j + d = l.length → d + l.length + 1 < k →
    spec_l2Least.l0 k l s (least 10 (rk l) (mem s) j) j = some (rev l.length (rk l) s)
  | 0, k, j, hj, hk => by
    obtain ⟨k, rfl⟩ : ∃ m, k = m + 1 := ⟨k - 1, by omega⟩
    obtain rfl : j = l.length := by omega
    simp only [spec_l2Least.l0]
    rw [if_neg (by omega)]
    exact l2_loop1 hs hl l.length k 0 (by omega) (by omega)
  | d + 1, k, j, hj, hk => by
    obtain ⟨k, rfl⟩ : ∃ m, k = m + 1 := ⟨k - 1, by omega⟩
    have ih := l2_loop0 hs hl d k (j + 1) (by omega) (by omega)
    simp only [spec_l2Least.l0]
    rw [if_pos (by omega), l1Bit_eq hs (by omega)]
    simp only [Option.bind_some]
    simp only [least] at ih
    by_cases hm : mem s j = true
    · rw [if_pos hm] at ih
      rw [if_pos hm, if_pos rfl, if_pos (by omega), w64s (by omega), mn_eq]
      exact ih
    · rw [if_neg hm] at ih
      rw [if_neg hm, if_neg (by decide), w64s (by omega)]
      exact ih
theorem l2Least_eq {l : List Int} {s : Int} (hs : 0 ≤ s) (hl : l.length ≤ 8) {k : Nat} (hk : 20 ≤ k) : spec_l2Least.f k l s = some (rev l.length (rk l) s) := by
  unfold spec_l2Least.f
  exact l2_loop0 hs hl l.length k 0 (by omega) (by omega)

theorem surprise_loop {l : List Int} {s : Int} (hs : 0 ≤ s) (hs' : s < 256) (hl : l.length ≤ 8) : ∀ (d k j : Nat), j + d = l.length → d < k →
    impl_surpriseOf.l0 k s (least 10 (rk l) (mem s) j) l (l.length : Int) j = some (least 10 (rk l) (mem s) l.length)
  | 0, k, j, hj, hk => by
    obtain ⟨k, rfl⟩ : ∃ m, k = m + 1 := ⟨k - 1, by omega⟩
    obtain rfl : j = l.length := by omega
    simp only [impl_surpriseOf.l0]
    rw [if_neg (by omega)]
  | d + 1, k, j, hj, hk => by
    obtain ⟨k, rfl⟩ : ∃ m, k = m + 1 := ⟨k - 1, by omega⟩
    have ih := surprise_loop hs hs' hl d k (j + 1) (by omega) (by omega)
    simp only [impl_surpriseOf.l0]
    rw [if_pos (by omega), if_pos (by omega), if_pos (by omega), and_bit hs hs' (by omega), w64s (by omega), mn_eq]
    simp only [least] at ih
    by_cases hm : mem s j = true
    · rw [if_pos hm] at ih
      rw [if_pos hm, if_pos rfl]
      exact ih
    · rw [if_neg hm] at ih
      rw [if_neg hm, if_neg (by decide)]
      exact ih
theorem surpriseOf_eq {l : List Int} {s : Int} (hs : 0 ≤ s) (hs' : s < 256) (hl : l.length ≤ 8) {k : Nat} (hk : 20 ≤ k) : impl_surpriseOf.f k l s = some (least 10 (rk l) (mem s) l.length) := by
  unfold impl_surpriseOf.f
  exact surprise_loop hs hs' hl l.length k 0 (by omega) (by omega)
/-! #### FRevBy -/
theorem revisedBy_eq {t : Int} {l : List Int} {s : Int} (ht : 1 ≤ t ∧ t ≤ 3) (hl : l.length = 2 ^ t.toNat) (hs : 0 ≤ s) (hs' : s < 256) {k : Nat} (hk : 20 ≤ k) : impl_revisedBy.f k t l s = some (rev (2 ^ t.toNat) (rk l) s) := by
  have h8 := worlds_le ht
  unfold impl_revisedBy.f
  rw [surpriseOf_eq hs hs' (by omega) hk]
  simp only [Option.bind_some]
  rw [if_pos ⟨ht, hl, hs, hs'⟩, hl]
  rfl
/-! #### FRanks2 -/

/-- A row of ranks, for a number of things. -/
def RankP (t : Int) (l : List Int) : Prop := (1 ≤ t ∧ t ≤ 3) ∧ l.length = 2 ^ t.toNat ∧ (∀ w, w < l.length → 0 ≤ rk l w ∧ rk l w ≤ 9) ∧ ∃ w, w < l.length ∧ rk l w = 0
open Classical in
theorem isRank_eq (t : Int) (l : List Int) {k : Nat} (hk : 1 ≤ k) : impl_isRank.f k t l = some (decide (RankP t l)) := by
  obtain ⟨k, rfl⟩ : ∃ m, k = m + 1 := ⟨k - 1, by omega⟩
  unfold impl_isRank.f
  rw [areThings_eq]
  simp only [Option.bind_some]
  by_cases ht : 1 ≤ t ∧ t ≤ 3
  · rw [if_pos (by simp [ht]), if_pos (by omega), shl_things ht]
    simp only [impl_isRank.j0]
    by_cases hl : l.length = 2 ^ t.toNat
    · have hp : 0 < l.length := by have := worlds_ge ht; omega
      rw [if_neg (by rw [hl]; simp)]
      unfold slices_Min_int_int.f slices_Max_int_int.f
      rw [if_pos hp, if_pos hp]
      simp only [Option.bind_some]
      obtain ⟨u, hu, eu⟩ := minTo_at (rk l) l.length hp
      obtain ⟨v, hv, ev⟩ := maxTo_at (rk l) l.length hp
      show (if minTo (rk l) l.length = 0 then some (decide (maxTo (rk l) l.length ≤ 9)) else some false) = _
      by_cases h0 : minTo (rk l) l.length = 0
      · rw [if_pos h0]
        congr 1
        apply decide_eq_decide.mpr
        constructor
        · intro h9
          refine ⟨ht, hl, fun w hw => ?_, u, hu, by omega⟩
          have := minTo_le (rk l) l.length w hw
          have := le_maxTo (rk l) l.length w hw
          omega
        · intro h
          have := (h.2.2.1 v hv).2
          omega
      · rw [if_neg h0]
        congr 1
        symm
        apply decide_eq_false
        intro h
        obtain ⟨w, hw, e⟩ := h.2.2.2
        have := minTo_le (rk l) l.length w hw
        have := (h.2.2.1 u hu).1
        omega
    · rw [if_pos (by simp; exact_mod_cast hl)]
      congr 1
      symm
      apply decide_eq_false
      exact fun h => hl h.2.1
  · rw [if_neg (by simpa using ht)]
    simp only [impl_isRank.j0]
    rw [if_pos trivial]
    congr 1
    symm
    apply decide_eq_false
    exact fun h => ht h.1
/-! #### FRankOk -/

open Classical in
theorem rankOk_loop (t : Int) (l : List Int) (hl : l.length ≤ 17592186044416) : ∀ (d k j : Nat), j + d = l.length → d < k → (∀ w, w < j → 0 ≤ rk l w ∧ rk l w ≤ 9) →
    spec_RankOk.l0 k t l (least 9 (rk l) (fun _ => true) j) j = some (decide (RankP t l))
  | 0, k, j, hj, hk, hr => by
    obtain ⟨k, rfl⟩ : ∃ m, k = m + 1 := ⟨k - 1, by omega⟩
    obtain rfl : j = l.length := by omega
    simp only [spec_RankOk.l0]
    rw [if_neg (by omega), l1In_eq]
    simp only [Option.bind_some]
    by_cases ht : 1 ≤ t ∧ t ≤ 3
    · rw [if_pos (by simp [ht]), if_pos (by omega), shl_things ht]
      by_cases h2 : l.length = 2 ^ t.toNat
      · rw [if_pos (by rw [h2])]
        congr 1
        rw [Bool.eq_iff_iff, beq_iff_eq, decide_eq_true_eq]
        constructor
        · intro h0
          refine ⟨ht, h2, hr, ?_⟩
          obtain ⟨w, hw, _, e⟩ := least_lt_c (c := 9) (r := rk l) (p := fun _ => true) (n := l.length) (by omega)
          exact ⟨w, hw, by omega⟩
        · rintro ⟨_, _, _, w, hw, e⟩
          have h1 := least_le 9 (rk l) (fun _ => true) l.length w hw rfl
          have h3 := least_nonneg (c := 9) (r := rk l) (p := fun _ => true) (n := l.length) (by decide) (fun w hw => (hr w hw).1)
          omega
      · rw [if_neg (by omega)]
        congr 1
        symm
        exact decide_eq_false (fun h => h2 h.2.1)
    · rw [if_neg (by simpa using ht)]
      congr 1
      symm
      exact decide_eq_false (fun h => ht h.1)
  | d + 1, k, j, hj, hk, hr => by
    obtain ⟨k, rfl⟩ : ∃ m, k = m + 1 := ⟨k - 1, by omega⟩
    simp only [spec_RankOk.l0]
    rw [if_pos (by omega), if_pos (by omega), l1In_eq]
    simp only [Option.bind_some]
    by_cases h : 0 ≤ rd l (j : Int) ∧ rd l (j : Int) ≤ 9
    · have ih := rankOk_loop t l hl d k (j + 1) (by omega) (by omega) (fun w hw => by
        by_cases e : w = j
        · subst e; exact h
        · exact hr w (by omega))
      rw [if_pos (by simpa using h), mn_eq, w64s (by omega)]
      exact ih
    · rw [if_neg (by simpa using h)]
      congr 1
      symm
      exact decide_eq_false (fun hp => h (hp.2.2.1 j (by omega)))
open Classical in
theorem spec_RankOk_eq (t : Int) (l : List Int) (hl : l.length ≤ 17592186044416) {k : Nat} (hk : l.length + 1 ≤ k) : spec_RankOk.f k t l = some (decide (RankP t l)) := by
  unfold spec_RankOk.f
  exact rankOk_loop t l hl l.length k 0 (by omega) (by omega) (fun w hw => by omega)
theorem RankP.len {t : Int} {l : List Int} (h : RankP t l) : l.length ≤ 8 := by
  have := worlds_le h.1
  have := h.2.1
  omega
theorem RankP.lo {t : Int} {l : List Int} (h : RankP t l) {w : Nat} (hw : w < 2 ^ t.toNat) : 0 ≤ rk l w := (h.2.2.1 w (by have := h.2.1; omega)).1
theorem RankP.hi {t : Int} {l : List Int} (h : RankP t l) {w : Nat} (hw : w < 2 ^ t.toNat) : rk l w ≤ 9 := (h.2.2.1 w (by have := h.2.1; omega)).2
theorem RankP.zero {t : Int} {l : List Int} (h : RankP t l) : ∃ w, w < 2 ^ t.toNat ∧ rk l w = 0 := by
  obtain ⟨w, hw, e⟩ := h.2.2.2
  exact ⟨w, by have := h.2.1; omega, e⟩
/-! #### FAcc -/
/-- All least surprising worlds of the first set are in the second one. -/
def AccP (t : Int) (l : List Int) (x y : Int) : Prop := ∀ w, w < 2 ^ t.toNat → mem x w = true → rk l w = least 10 (rk l) (mem x) (2 ^ t.toNat) → mem y w = true
theorem rev_sub {t : Int} {l : List Int} {x y : Int} (ht : 1 ≤ t ∧ t ≤ 3) : andS (rev (2 ^ t.toNat) (rk l) x) y = rev (2 ^ t.toNat) (rk l) x ↔ AccP t l x y := by
  rw [andS_self (worlds_le ht) (rev_nonneg _ _ _) (rev_lt _ _ _)]
  unfold AccP
  constructor
  · intro h w hw h1 h2
    exact h w hw (by rw [mem_rev hw, h1, decide_eq_true h2]; rfl)
  · intro h w hw hm
    rw [mem_rev hw, Bool.and_eq_true, decide_eq_true_eq] at hm
    exact h w hw hm.1 hm.2
theorem andNot_zero8 {a b : Int} (ha : 0 ≤ a) (ha' : a < 256) (hb : 0 ≤ b) (hb' : b < 256) : bits .andNot .i64 a b = 0 ↔ andS a b = a := by
  have e8 : (2 : Int) ^ 8 = 256 := by decide
  rw [bits_andNot8 ha ha' hb hb', mk_eq_zero, andS_self (Nat.le_refl 8) ha (by omega)]
  constructor
  · intro h w hw hm
    have := h w hw
    rw [hm] at this
    simpa using this
  · intro h w hw
    cases hm : mem a w
    · rfl
    · rw [h w hw hm]; rfl
open Classical in
theorem accepts_eq {t : Int} {l : List Int} {x y : Int} (hr : RankP t l) (hx : SetP t x) (hy : SetP t y) {k : Nat} (hk : 20 ≤ k) : impl_accepts.f k t l x y = some (decide (AccP t l x y)) := by
  have h8 := worlds_le hr.1
  unfold impl_accepts.f
  rw [revisedBy_eq hr.1 hr.2.1 hx.2.1 hx.lt256 hk]
  simp only [Option.bind_some]
  congr 1
  rw [Bool.eq_iff_iff, beq_iff_eq, decide_eq_true_eq, andNot_zero8 (rev_nonneg _ _ _) (lt256 h8 (rev_lt _ _ _)) hy.2.1 hy.lt256, rev_sub hr.1]
open Classical in
theorem impl_Accepts_eq (t : Int) (l : List Int) (x y : Int) {k : Nat} (hk : 20 ≤ k) : impl_Accepts.f k t l x y = some (decide (RankP t l ∧ RuleP t x y ∧ AccP t l x y)) := by
  unfold impl_Accepts.f
  rw [isRank_eq _ _ (by omega), isRule_eq]
  simp only [Option.bind_some]
  by_cases hr : RankP t l
  · rw [if_pos (by simp [hr])]
    by_cases hx : RuleP t x y
    · rw [if_pos (by simp [hx]), accepts_eq hr hx.1 hx.2.1 hk]
      simp only [Option.bind_some]
      congr 1
      apply decide_eq_decide.mpr
      exact ⟨fun h => ⟨hr, hx, h⟩, fun h => h.2.2⟩
    · rw [if_neg (by simp [hx])]
      exact congrArg some (decide_eq_false (fun h => hx h.2.1)).symm
  · rw [if_neg (by simp [hr])]
    exact congrArg some (decide_eq_false (fun h => hr h.1)).symm
open Classical in
theorem spec_Accepts_eq (t : Int) (l : List Int) (x y : Int) (hl : l.length ≤ 17592186044416) {k : Nat} (hk : l.length + 30 ≤ k) : spec_Accepts.f k t l x y = some (decide (RankP t l ∧ RuleP t x y ∧ AccP t l x y)) := by
  obtain ⟨k, rfl⟩ : ∃ m, k = m + 1 := ⟨k - 1, by omega⟩
  unfold spec_Accepts.f
  rw [spec_RankOk_eq _ _ hl (by omega), spec_RuleOk_eq]
  simp only [Option.bind_some]
  by_cases hr : RankP t l
  · rw [if_pos (by simp [hr])]
    by_cases hx : RuleP t x y
    · rw [show (!decide (RuleP t x y)) = false by simp [hx]]
      simp only [spec_Accepts.j0]
      rw [if_neg (by decide), l2Least_eq hx.1.2.1 hr.len (by omega)]
      simp only [Option.bind_some]
      rw [l1Both_eq (rev_nonneg _ _ _) hx.2.1.2.1 (by omega), hr.2.1]
      simp only [Option.bind_some]
      congr 1
      rw [Bool.eq_iff_iff, beq_iff_eq, decide_eq_true_eq, rev_sub hr.1]
      exact ⟨fun h => ⟨hr, hx, h⟩, fun h => h.2.2⟩
    · rw [show (!decide (RuleP t x y)) = true by simp [hx]]
      simp only [spec_Accepts.j0]
      rw [if_pos trivial]
      exact congrArg some (decide_eq_false (fun h => hx h.2.1)).symm
  · rw [if_neg (by simp [hr])]
    simp only [spec_Accepts.j0]
    rw [if_pos trivial]
    exact congrArg some (decide_eq_false (fun h => hr h.1)).symm
end Go.Proofs.Ytflaacdhifgpoaa.L

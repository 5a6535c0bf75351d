/- Plain facts about what the printed functions answer (several pieces in one text). Conditions: those of each theorem. -/
import Derived.Test.YtflaacdhifgpoaaV0
import Derived.Test.YtflaacdhifgpoaaV1
import Derived.Test.YtflaacdhifgpoaaV2
import Derived.Test.YtflaacdhifgpoaaV3
import Derived.Test.YtflaacdhifgpoaaV4
import Derived.Test.YtflaacdhifgpoaaV5
import Derived.Test.YtflaacdhifgpoaaV7
import Derived.Test.YtflaacdhifgpoaaV9
import Derived.Test.YtflaacdhifgpoaaV12
import Derived.Test.YtflaacdhifgpoaaV13
import Derived.Test.YtflaacdhifgpoaaSets
set_option linter.unusedVariables false
set_option linter.unusedSimpArgs false
namespace Go.Proofs.Ytflaacdhifgpoaa.LV
open Go.RowKit Go.Proofs.YtflaacdhifgpoaaW.PrintWords Go.Proofs.YtflaacdhifgpoaaW.PrintLast Go.Proofs.YtflaacdhifgpoaaW.PrintMore Go.Proofs.BelM Go.Proofs.Ytflaacdhifgpoaa.V
/-! #### FBase -/

theorem w64 {x : Int} (h0 : -9223372036854775808 ≤ x) (h1 : x ≤ 9223372036854775807) : wrap64 x = x := by unfold wrap64; omega
theorem w64s {j : Nat} (h : j ≤ 281474976710656) : wrap64 ((j : Int) + 1) = ((j + 1 : Nat) : Int) := by rw [w64 (by omega) (by omega)]; omega
theorem wfb {a : Int} (h : (Lit.int .i64 a).wf = true) : -9223372036854775808 ≤ a ∧ a ≤ 9223372036854775807 := by
  have h2 : (decide (IntKind.min .i64 ≤ a) && decide (a ≤ IntKind.max .i64)) = true := h
  rw [Bool.and_eq_true, decide_eq_true_eq, decide_eq_true_eq] at h2
  exact h2
theorem wfu8 {a : Int} (h : (Lit.int .u8 a).wf = true) : 0 ≤ a ∧ a ≤ 255 := by
  have h2 : (decide (IntKind.min .u8 ≤ a) && decide (a ≤ IntKind.max .u8)) = true := h
  rw [Bool.and_eq_true, decide_eq_true_eq, decide_eq_true_eq] at h2
  exact h2
theorem mn_eq (a b : Int) : mn a b = min a b := by unfold mn; split <;> omega
theorem mx_eq (a b : Int) : mx a b = max a b := by unfold mx; split <;> omega
theorem pow_nat (j : Nat) : (2 : Int) ^ j = ((2 ^ j : Nat) : Int) := by simp
theorem pow_le128 {j : Nat} (hj : j < 8) : (2 : Int) ^ j ≤ 128 := by
  have : 2 ^ j ≤ 2 ^ 7 := Nat.pow_le_pow_right (by decide) (by omega)
  rw [pow_nat]; omega
theorem shl_small1 {j : Nat} (hj : j < 8) : shl .i64 1 j = 2 ^ j := by
  have h := pow_le128 hj
  have h0 := pow_pos j
  unfold shl
  rw [Int.toNat_natCast, Nat.min_eq_left (by show j ≤ 64; omega), Int.one_mul, IntKind.wrap_i64]
  omega
theorem shl_zero (j : Int) : shl .i64 0 j = 0 := by
  unfold shl
  rw [Int.zero_mul, IntKind.wrap_i64]; rfl
theorem toNat_le3 {t : Int} (ht : 1 ≤ t ∧ t ≤ 3) : 1 ≤ t.toNat ∧ t.toNat ≤ 3 := by omega
theorem worlds_le {t : Int} (ht : 1 ≤ t ∧ t ≤ 3) : 2 ^ t.toNat ≤ 8 := by
  have : 2 ^ t.toNat ≤ 2 ^ 3 := Nat.pow_le_pow_right (by decide) (by omega)
  omega
theorem worlds_ge {t : Int} (ht : 1 ≤ t ∧ t ≤ 3) : 2 ≤ 2 ^ t.toNat := by
  have : 2 ^ 1 ≤ 2 ^ t.toNat := Nat.pow_le_pow_right (by decide) (by omega)
  omega
theorem shl_things {t : Int} (ht : 1 ≤ t ∧ t ≤ 3) : shl .i64 1 t = ((2 ^ t.toNat : Nat) : Int) := by
  have h := shl_small1 (j := t.toNat) (by omega)
  rw [show ((t.toNat : Nat) : Int) = t by omega] at h
  rw [h, pow_nat]
theorem shr_nat {s : Int} {w : Nat} (hs : 0 ≤ s) (hw : w ≤ 64) : shr .i64 s w = s / 2 ^ w := by
  unfold shr
  rw [Int.toNat_natCast, Nat.min_eq_left (by show w ≤ 64; exact hw)]
theorem shr_val {s : Int} {w : Nat} (hs : 0 ≤ s) (hw : w ≤ 64) : shr .i64 s w = ((s.toNat / 2 ^ w : Nat) : Int) := by
  rw [shr_nat hs hw]
  have : s = (s.toNat : Int) := by omega
  rw [this, Int.toNat_natCast]; simp
theorem tmod_bit {s : Int} {w : Nat} (hs : 0 ≤ s) (hw : w ≤ 64) : Int.tmod (shr .i64 s w) 2 = if mem s w = true then 1 else 0 := by
  rw [shr_val hs hw]
  unfold mem
  rw [Nat.testBit_eq_decide_div_mod_eq]
  generalize s.toNat / 2 ^ w = m
  rw [Int.tmod_eq_emod_of_nonneg (Int.natCast_nonneg m)]
  by_cases h : m % 2 = 1
  · rw [if_pos (by simp [h])]; omega
  · rw [if_neg (by simp [h])]; omega
theorem and_bit {s : Int} {w : Nat} (hs : 0 ≤ s) (hs' : s < 256) (hw : w ≤ 64) : bits .and .i64 (shr .i64 s w) 1 = if mem s w = true then 1 else 0 := by
  rw [shr_nat hs hw]; exact and1 hs hs'

theorem l1In_eq (a b c : Int) : spec_l1In.f a b c = some (decide (b ≤ a ∧ a ≤ c)) := by
  unfold spec_l1In.f
  by_cases h : a ≥ b
  · rw [if_pos h]
    have h' : b ≤ a := h
    simp [h']
  · rw [if_neg h]
    have h' : ¬ b ≤ a := h
    simp [h']

/-- A set of worlds, for a number of things. -/
def SetP (t s : Int) : Prop := (1 ≤ t ∧ t ≤ 3) ∧ 0 ≤ s ∧ s < 2 ^ 2 ^ t.toNat
instance (t s : Int) : Decidable (SetP t s) := by unfold SetP; infer_instance
theorem SetP.lt8 {t s : Int} (h : SetP t s) : s < 2 ^ 8 := lt8of (worlds_le h.1) h.2.2
theorem SetP.lt256 {t s : Int} (h : SetP t s) : s < 256 := by
  have := h.lt8
  have : (2 : Int) ^ 8 = 256 := by decide
  omega
theorem SetP.mk {t : Int} (ht : 1 ≤ t ∧ t ≤ 3) (p : Nat → Bool) : SetP t (mk p (2 ^ t.toNat)) := ⟨ht, mk_nonneg _ _, mk_lt _ _⟩
theorem SetP.mem_lt {t s : Int} (h : SetP t s) {w : Nat} (hm : mem s w = true) : w < 2 ^ t.toNat := Go.Proofs.BelM.mem_lt h.2.1 h.2.2 hm

theorem all_spec {t : Int} (ht : 1 ≤ t ∧ t ≤ 3) : spec_l1All.f t = some (2 ^ 2 ^ t.toNat - 1) := by unfold spec_l1All.f; rw [if_pos ht]
theorem all_le {t : Int} (ht : 1 ≤ t ∧ t ≤ 3) : (2 : Int) ^ 2 ^ t.toNat ≤ 256 := le_pow8 (worlds_le ht)
theorem all_ge {t : Int} (ht : 1 ≤ t ∧ t ≤ 3) : (4 : Int) ≤ 2 ^ 2 ^ t.toNat := by
  have : 2 ^ 2 ≤ 2 ^ 2 ^ t.toNat := Nat.pow_le_pow_right (by decide) (worlds_ge ht)
  rw [pow_nat]; omega
theorem SetOk_eq (t s : Int) : spec_SetOk.f t s = some (decide (SetP t s)) := by
  unfold spec_SetOk.f
  rw [l1In_eq]
  simp only [Option.bind_some]
  by_cases ht : 1 ≤ t ∧ t ≤ 3
  · rw [if_pos (by simp [ht]), all_spec ht]
    simp only [Option.bind_some]
    rw [l1In_eq]
    simp only [Option.bind_some]
    congr 1
    apply decide_eq_decide.mpr
    unfold SetP
    generalize (2 : Int) ^ 2 ^ t.toNat = M
    omega
  · rw [if_neg (by simpa using ht)]
    congr 1
    symm
    apply decide_eq_false
    unfold SetP
    exact fun h => ht h.1

theorem l1Bit_eq {s : Int} {w : Nat} (hs : 0 ≤ s) (hw : w ≤ 64) : spec_l1Bit.f s w = some (if mem s w = true then 1 else 0) := by
  unfold spec_l1Bit.f
  rw [if_pos (by omega), tmod_bit hs hw]
/-- One more world of a sum. -/
theorem add_bit {p : Nat → Bool} {j : Nat} (hj : j < 8) (hp : p j = true) : wrap64 (mk p j + shl .i64 1 j) = mk p (j + 1) := by
  have h1 := mk_lt p j
  have h2 := mk_nonneg p j
  have h3 := pow_le128 hj
  rw [shl_small1 hj, mk_succ, if_pos hp, w64 (by omega) (by omega)]
theorem skip_bit {p : Nat → Bool} {j : Nat} (hp : p j = false) : mk p j = mk p (j + 1) := mk_skip hp
theorem step2 {a b : Int} {j : Nat} (hj : j < 8) : wrap64 (mk (fun w => mem a w && mem b w) j + shl .i64 (wrap64 ((if mem a j = true then 1 else 0) * (if mem b j = true then 1 else 0))) j) = mk (fun w => mem a w && mem b w) (j + 1) := by
  by_cases h : mem a j = true ∧ mem b j = true
  · rw [if_pos h.1, if_pos h.2, show wrap64 (1 * 1) = 1 by decide +kernel]
    exact add_bit hj (by simp [h.1, h.2])
  · have e : (if mem a j = true then (1 : Int) else 0) * (if mem b j = true then 1 else 0) = 0 := by
      by_cases ha : mem a j = true
      · rw [if_neg (fun hb => h ⟨ha, hb⟩), Int.mul_zero]
      · rw [if_neg ha, Int.zero_mul]
    have h2 := mk_nonneg (fun w => mem a w && mem b w) j
    have h1 := mk_lt (fun w => mem a w && mem b w) j
    have h3 := pow_le128 hj
    rw [e, show wrap64 0 = 0 by decide +kernel, shl_zero, Int.add_zero, w64 (by omega) (by omega)]
    exact skip_bit (by
      cases ha : mem a j
      · rfl
      · cases hb : mem b j
        · rfl
        · exact absurd ⟨ha, hb⟩ h)
theorem l1Both_loop {a b : Int} (ha : 0 ≤ a) (hb : 0 ≤ b) : ∀ (d k j : Nat), j + d = 8 → d < k → spec_l1Both.l0 k a b (mk (fun w => mem a w && mem b w) j) j = some (andS a b)
  | 0, k, j, hj, hk => by
    obtain ⟨k, rfl⟩ : ∃ m, k = m + 1 := ⟨k - 1, by omega⟩
    obtain rfl : j = 8 := by omega
    simp only [spec_l1Both.l0]
    rw [if_neg (by decide)]
    rfl
  | d + 1, k, j, hj, hk => by
    obtain ⟨k, rfl⟩ : ∃ m, k = m + 1 := ⟨k - 1, by omega⟩
    have ih := l1Both_loop ha hb d k (j + 1) (by omega) (by omega)
    simp only [spec_l1Both.l0]
    rw [if_pos (by omega), l1Bit_eq ha (by omega), l1Bit_eq hb (by omega)]
    simp only [Option.bind_some]
    rw [if_pos (by omega), w64s (by omega), step2 (by omega)]
    exact ih
theorem l1Both_eq {a b : Int} (ha : 0 ≤ a) (hb : 0 ≤ b) {k : Nat} (hk : 9 ≤ k) : spec_l1Both.f k a b = some (andS a b) := by
  unfold spec_l1Both.f
  exact l1Both_loop ha hb 8 k 0 (by omega) (by omega)
/-! #### FEither -/
theorem l1Either_eq {a b : Int} (ha : 0 ≤ a) (ha' : a < 2 ^ 8) (hb : 0 ≤ b) (hb' : b < 2 ^ 8) {k : Nat} (hk : 9 ≤ k) : spec_l1Either.f k a b = some (orS a b) := by
  unfold spec_l1Either.f
  rw [l1Both_eq ha hb hk]
  simp only [Option.bind_some]
  have h1 := andS_nonneg a b
  have h2 := andS_lt8 a b
  have h3 : (2 : Int) ^ 8 = 256 := by decide
  rw [w64 (x := a + b) (by omega) (by omega), w64 (by omega) (by omega), add_sub_and ha ha' hb hb']
/-! #### FSets -/

theorem areThings_eq (t : Int) : impl_areThings.f t = some (decide (1 ≤ t ∧ t ≤ 3)) := by
  unfold impl_areThings.f
  by_cases h : t ≥ 1
  · rw [if_pos h]
    have h' : 1 ≤ t := h
    simp [h']
  · rw [if_neg h]
    have h' : ¬ 1 ≤ t := h
    simp [h']
theorem isSet_eq (t s : Int) : impl_isSet.f t s = some (decide (SetP t s)) := by
  unfold impl_isSet.f
  rw [areThings_eq]
  simp only [Option.bind_some]
  by_cases ht : 1 ≤ t ∧ t ≤ 3
  · rw [if_pos (by simp [ht])]
    by_cases h0 : s ≥ 0
    · rw [if_pos h0]
      unfold impl_allWorlds.f
      rw [if_pos ht]
      simp only [Option.bind_some]
      congr 1
      apply decide_eq_decide.mpr
      unfold SetP
      generalize (2 : Int) ^ 2 ^ t.toNat = M
      omega
    · rw [if_neg h0]
      congr 1
      symm
      apply decide_eq_false
      exact fun h => h0 h.2.1
  · rw [if_neg (by simpa using ht)]
    congr 1
    symm
    apply decide_eq_false
    exact fun h => ht h.1
/-! #### FRule -/
/-- A rule, for a number of things. -/
def RuleP (t x y : Int) : Prop := SetP t x ∧ SetP t y ∧ x ≠ 0
instance (t x y : Int) : Decidable (RuleP t x y) := by unfold RuleP; infer_instance
theorem isRule_eq (t x y : Int) : impl_isRule.f t x y = some (decide (RuleP t x y)) := by
  unfold impl_isRule.f
  rw [isSet_eq, isSet_eq]
  simp only [Option.bind_some]
  by_cases hx : SetP t x
  · by_cases hy : SetP t y
    · by_cases h0 : x = 0
      · simp [hx, hy, h0, RuleP]
      · simp [hx, hy, h0, RuleP]
    · simp [hx, hy, RuleP]
  · simp [hx, RuleP]
theorem spec_RuleOk_eq (t x y : Int) : spec_RuleOk.f t x y = some (decide (RuleP t x y)) := by
  unfold spec_RuleOk.f
  rw [SetOk_eq, SetOk_eq]
  simp only [Option.bind_some]
  by_cases hx : SetP t x
  · by_cases hy : SetP t y
    · by_cases h0 : x = 0
      · simp [hx, hy, h0, RuleP]
      · simp [hx, hy, h0, RuleP]
    · simp [hx, hy, RuleP]
  · simp [hx, RuleP]
/-! #### FRank -/

/-- A row as a function of worlds. -/
def rk (l : List Int) (w : Nat) : Int := rd l (w : Int)
theorem rk_eq (l : List Int) (w : Nat) : rk l w = l.getD w 0 := by unfold rk rd; rw [Int.toNat_natCast]

theorem l2_loop1 {l : List Int} {s x : Int} (hs : 0 ≤ s) (hl : l.length ≤ 8) : ∀ (d k j : Nat), j + d = l.length → d < k →
    spec_l2Least.l1 k l s x (mk (fun w => mem s w && decide (rk l w = x)) j) j = some (mk (fun w => mem s w && decide (rk l w = x)) l.length)
  | 0, k, j, hj, hk => by
    obtain ⟨k, rfl⟩ : ∃ m, k = m + 1 := ⟨k - 1, by omega⟩
    obtain rfl : j = l.length := by omega
    simp only [spec_l2Least.l1]
    rw [if_neg (by omega)]
  | d + 1, k, j, hj, hk => by
    obtain ⟨k, rfl⟩ : ∃ m, k = m + 1 := ⟨k - 1, by omega⟩
    have ih := l2_loop1 (x := x) hs hl d k (j + 1) (by omega) (by omega)
    simp only [spec_l2Least.l1]
    rw [if_pos (by omega), l1Bit_eq hs (by omega)]
    simp only [Option.bind_some]
    by_cases hm : mem s j = true
    · rw [if_pos hm, if_pos rfl, if_pos (by omega)]
      by_cases hx : rd l (j : Int) = x
      · rw [if_pos hx, add_bit (by omega) (by show (mem s j && decide (rk l j = x)) = true; rw [hm]; simp [rk, hx]), w64s (by omega)]
        exact ih
      · rw [if_neg hx, w64s (by omega), skip_bit (j := j) (by show (mem s j && decide (rk l j = x)) = false; simp [rk, hx])]
        exact ih
    · rw [if_neg hm, if_neg (by decide), w64s (by omega), skip_bit (j := j) (by show (mem s j && decide (rk l j = x)) = false; simp [hm])]
      exact ih
theorem l2_loop0 {l : List Int} {s : Int} (hs : 0 ≤ s) (hl : l.length ≤ 8) : ∀ (d k j : Nat), j + d = l.length → d + l.length + 1 < k →
    spec_l2Least.l0 k l s (least 10 (rk l) (mem s) j) j = some (rev l.length (rk l) s)
  | 0, k, j, hj, hk => by
    obtain ⟨k, rfl⟩ : ∃ m, k = m + 1 := ⟨k - 1, by omega⟩
    obtain rfl : j = l.length := by omega
    simp only [spec_l2Least.l0]
    rw [if_neg (by omega)]
    exact l2_loop1 hs hl l.length k 0 (by omega) (by omega)
  | d + 1, k, j, hj, hk => by
    obtain ⟨k, rfl⟩ : ∃ m, k = m + 1 := ⟨k - 1, by omega⟩
    have ih := l2_loop0 hs hl d k (j + 1) (by omega) (by omega)
    simp only [spec_l2Least.l0]
    rw [if_pos (by omega), l1Bit_eq hs (by omega)]
    simp only [Option.bind_some]
    simp only [least] at ih
    by_cases hm : mem s j = true
    · rw [if_pos hm] at ih
      rw [if_pos hm, if_pos rfl, if_pos (by omega), w64s (by omega), mn_eq]
      exact ih
    · rw [if_neg hm] at ih
      rw [if_neg hm, if_neg (by decide), w64s (by omega)]
      exact ih
theorem l2Least_eq {l : List Int} {s : Int} (hs : 0 ≤ s) (hl : l.length ≤ 8) {k : Nat} (hk : 20 ≤ k) : spec_l2Least.f k l s = some (rev l.length (rk l) s) := by
  unfold spec_l2Least.f
  exact l2_loop0 hs hl l.length k 0 (by omega) (by omega)

theorem surprise_loop {l : List Int} {s : Int} (hs : 0 ≤ s) (hs' : s < 256) (hl : l.length ≤ 8) : ∀ (d k j : Nat), j + d = l.length → d < k →
    impl_surpriseOf.l0 k s (least 10 (rk l) (mem s) j) l (l.length : Int) j = some (least 10 (rk l) (mem s) l.length)
  | 0, k, j, hj, hk => by
    obtain ⟨k, rfl⟩ : ∃ m, k = m + 1 := ⟨k - 1, by omega⟩
    obtain rfl : j = l.length := by omega
    simp only [impl_surpriseOf.l0]
    rw [if_neg (by omega)]
  | d + 1, k, j, hj, hk => by
    obtain ⟨k, rfl⟩ : ∃ m, k = m + 1 := ⟨k - 1, by omega⟩
    have ih := surprise_loop hs hs' hl d k (j + 1) (by omega) (by omega)
    simp only [impl_surpriseOf.l0]
    rw [if_pos (by omega), if_pos (by omega), if_pos (by omega), and_bit hs hs' (by omega), w64s (by omega), mn_eq]
    simp only [least] at ih
    by_cases hm : mem s j = true
    · rw [if_pos hm] at ih
      rw [if_pos hm, if_pos rfl]
      exact ih
    · rw [if_neg hm] at ih
      rw [if_neg hm, if_neg (by decide)]
      exact ih
theorem surpriseOf_eq {l : List Int} {s : Int} (hs : 0 ≤ s) (hs' : s < 256) (hl : l.length ≤ 8) {k : Nat} (hk : 20 ≤ k) : impl_surpriseOf.f k l s = some (least 10 (rk l) (mem s) l.length) := by
  unfold impl_surpriseOf.f
  exact surprise_loop hs hs' hl l.length k 0 (by omega) (by omega)
/-! #### FRevBy -/
theorem revisedBy_eq {t : Int} {l : List Int} {s : Int} (ht : 1 ≤ t ∧ t ≤ 3) (hl : l.length = 2 ^ t.toNat) (hs : 0 ≤ s) (hs' : s < 256) {k : Nat} (hk : 20 ≤ k) : impl_revisedBy.f k t l s = some (rev (2 ^ t.toNat) (rk l) s) := by
  have h8 := worlds_le ht
  unfold impl_revisedBy.f
  rw [surpriseOf_eq hs hs' (by omega) hk]
  simp only [Option.bind_some]
  rw [if_pos ⟨ht, hl, hs, hs'⟩, hl]
  rfl
/-! #### FRanks2 -/

/-- A row of ranks, for a number of things. -/
def RankP (t : Int) (l : List Int) : Prop := (1 ≤ t ∧ t ≤ 3) ∧ l.length = 2 ^ t.toNat ∧ (∀ w, w < l.length → 0 ≤ rk l w ∧ rk l w ≤ 9) ∧ ∃ w, w < l.length ∧ rk l w = 0
open Classical in
theorem isRank_eq (t : Int) (l : List Int) {k : Nat} (hk : 1 ≤ k) : impl_isRank.f k t l = some (decide (RankP t l)) := by
  obtain ⟨k, rfl⟩ : ∃ m, k = m + 1 := ⟨k - 1, by omega⟩
  unfold impl_isRank.f
  rw [areThings_eq]
  simp only [Option.bind_some]
  by_cases ht : 1 ≤ t ∧ t ≤ 3
  · rw [if_pos (by simp [ht]), if_pos (by omega), shl_things ht]
    simp only [impl_isRank.j0]
    by_cases hl : l.length = 2 ^ t.toNat
    · have hp : 0 < l.length := by have := worlds_ge ht; omega
      rw [if_neg (by rw [hl]; simp)]
      unfold slices_Min_int_int.f slices_Max_int_int.f
      rw [if_pos hp, if_pos hp]
      simp only [Option.bind_some]
      obtain ⟨u, hu, eu⟩ := minTo_at (rk l) l.length hp
      obtain ⟨v, hv, ev⟩ := maxTo_at (rk l) l.length hp
      show (if minTo (rk l) l.length = 0 then some (decide (maxTo (rk l) l.length ≤ 9)) else some false) = _
      by_cases h0 : minTo (rk l) l.length = 0
      · rw [if_pos h0]
        congr 1
        apply decide_eq_decide.mpr
        constructor
        · intro h9
          refine ⟨ht, hl, fun w hw => ?_, u, hu, by omega⟩
          have := minTo_le (rk l) l.length w hw
          have := le_maxTo (rk l) l.length w hw
          omega
        · intro h
          have := (h.2.2.1 v hv).2
          omega
      · rw [if_neg h0]
        congr 1
        symm
        apply decide_eq_false
        intro h
        obtain ⟨w, hw, e⟩ := h.2.2.2
        have := minTo_le (rk l) l.length w hw
        have := (h.2.2.1 u hu).1
        omega
    · rw [if_pos (by simp; exact_mod_cast hl)]
      congr 1
      symm
      apply decide_eq_false
      exact fun h => hl h.2.1
  · rw [if_neg (by simpa using ht)]
    simp only [impl_isRank.j0]
    rw [if_pos trivial]
    congr 1
    symm
    apply decide_eq_false
    exact fun h => ht h.1
/-! #### FRankOk -/

open Classical in
theorem rankOk_loop (t : Int) (l : List Int) (hl : l.length ≤ 17592186044416) : ∀ (d k j : Nat), j + d = l.length → d < k → (∀ w, w < j → 0 ≤ rk l w ∧ rk l w ≤ 9) →
    spec_RankOk.l0 k t l (least 9 (rk l) (fun _ => true) j) j = some (decide (RankP t l))
  | 0, k, j, hj, hk, hr => by
    obtain ⟨k, rfl⟩ : ∃ m, k = m + 1 := ⟨k - 1, by omega⟩
    obtain rfl : j = l.length := by omega
    simp only [spec_RankOk.l0]
    rw [if_neg (by omega), l1In_eq]
    simp only [Option.bind_some]
    by_cases ht : 1 ≤ t ∧ t ≤ 3
    · rw [if_pos (by simp [ht]), if_pos (by omega), shl_things ht]
      by_cases h2 : l.length = 2 ^ t.toNat
      · rw [if_pos (by rw [h2])]
        congr 1
        rw [Bool.eq_iff_iff, beq_iff_eq, decide_eq_true_eq]
        constructor
        · intro h0
          refine ⟨ht, h2, hr, ?_⟩
          obtain ⟨w, hw, _, e⟩ := least_lt_c (c := 9) (r := rk l) (p := fun _ => true) (n := l.length) (by omega)
          exact ⟨w, hw, by omega⟩
        · rintro ⟨_, _, _, w, hw, e⟩
          have h1 := least_le 9 (rk l) (fun _ => true) l.length w hw rfl
          have h3 := least_nonneg (c := 9) (r := rk l) (p := fun _ => true) (n := l.length) (by decide) (fun w hw => (hr w hw).1)
          omega
      · rw [if_neg (by omega)]
        congr 1
        symm
        exact decide_eq_false (fun h => h2 h.2.1)
    · rw [if_neg (by simpa using ht)]
      congr 1
      symm
      exact decide_eq_false (fun h => ht h.1)
  | d + 1, k, j, hj, hk, hr => by
    obtain ⟨k, rfl⟩ : ∃ m, k = m + 1 := ⟨k - 1, by omega⟩
    simp only [spec_RankOk.l0]
    rw [if_pos (by omega), if_pos (by omega), l1In_eq]
    simp only [Option.bind_some]
    by_cases h : 0 ≤ rd l (j : Int) ∧ rd l (j : Int) ≤ 9
    · have ih := rankOk_loop t l hl d k (j + 1) (by omega) (by omega) (fun w hw => by
        by_cases e : w = j
        · subst e; exact h
        · exact hr w (by omega))
      rw [if_pos (by simpa using h), mn_eq, w64s (by omega)]
      exact ih
    · rw [if_neg (by simpa using h)]
      congr 1
      symm
      exact decide_eq_false (fun hp => h (hp.2.2.1 j (by omega)))
open Classical in
theorem spec_RankOk_eq (t : Int) (l : List Int) (hl : l.length ≤ 17592186044416) {k : Nat} (hk : l.length + 1 ≤ k) : spec_RankOk.f k t l = some (decide (RankP t l)) := by
  unfold spec_RankOk.f
  exact rankOk_loop t l hl l.length k 0 (by omega) (by omega) (fun w hw => by omega)
theorem RankP.len {t : Int} {l : List Int} (h : RankP t l) : l.length ≤ 8 := by
  have := worlds_le h.1
  have := h.2.1
  omega
theorem RankP.lo {t : Int} {l : List Int} (h : RankP t l) {w : Nat} (hw : w < 2 ^ t.toNat) : 0 ≤ rk l w := (h.2.2.1 w (by have := h.2.1; omega)).1
theorem RankP.hi {t : Int} {l : List Int} (h : RankP t l) {w : Nat} (hw : w < 2 ^ t.toNat) : rk l w ≤ 9 := (h.2.2.1 w (by have := h.2.1; omega)).2
theorem RankP.zero {t : Int} {l : List Int} (h : RankP t l) : ∃ w, w < 2 ^ t.toNat ∧ rk l w = 0 := by
  obtain ⟨w, hw, e⟩ := h.2.2.2
  exact ⟨w, by have := h.2.1; omega, e⟩
/-! #### FAcc -/
/-- All least surprising worlds of the first set are in the second one. -/
def AccP (t : Int) (l : List Int) (x y : Int) : Prop := ∀ w, w < 2 ^ t.toNat → mem x w = true → rk l w = least 10 (rk l) (mem x) (2 ^ t.toNat) → mem y w = true
theorem rev_sub {t : Int} {l : List Int} {x y : Int} (ht : 1 ≤ t ∧ t ≤ 3) : andS (rev (2 ^ t.toNat) (rk l) x) y = rev (2 ^ t.toNat) (rk l) x ↔ AccP t l x y := by
  rw [andS_self (worlds_le ht) (rev_nonneg _ _ _) (rev_lt _ _ _)]
  unfold AccP
  constructor
  · intro h w hw h1 h2
    exact h w hw (by rw [mem_rev hw, h1, decide_eq_true h2]; rfl)
  · intro h w hw hm
    rw [mem_rev hw, Bool.and_eq_true, decide_eq_true_eq] at hm
    exact h w hw hm.1 hm.2
theorem andNot_zero8 {a b : Int} (ha : 0 ≤ a) (ha' : a < 256) (hb : 0 ≤ b) (hb' : b < 256) : bits .andNot .i64 a b = 0 ↔ andS a b = a := by
  have e8 : (2 : Int) ^ 8 = 256 := by decide
  rw [bits_andNot8 ha ha' hb hb', mk_eq_zero, andS_self (Nat.le_refl 8) ha (by omega)]
  constructor
  · intro h w hw hm
    have := h w hw
    rw [hm] at this
    simpa using this
  · intro h w hw
    cases hm : mem a w
    · rfl
    · rw [h w hw hm]; rfl
open Classical in
theorem accepts_eq {t : Int} {l : List Int} {x y : Int} (hr : RankP t l) (hx : SetP t x) (hy : SetP t y) {k : Nat} (hk : 20 ≤ k) : impl_accepts.f k t l x y = some (decide (AccP t l x y)) := by
  have h8 := worlds_le hr.1
  unfold impl_accepts.f
  rw [revisedBy_eq hr.1 hr.2.1 hx.2.1 hx.lt256 hk]
  simp only [Option.bind_some]
  congr 1
  rw [Bool.eq_iff_iff, beq_iff_eq, decide_eq_true_eq, andNot_zero8 (rev_nonneg _ _ _) (lt256 h8 (rev_lt _ _ _)) hy.2.1 hy.lt256, rev_sub hr.1]
open Classical in
theorem impl_Accepts_eq (t : Int) (l : List Int) (x y : Int) {k : Nat} (hk : 20 ≤ k) : impl_Accepts.f k t l x y = some (decide (RankP t l ∧ RuleP t x y ∧ AccP t l x y)) := by
  unfold impl_Accepts.f
  rw [isRank_eq _ _ (by omega), isRule_eq]
  simp only [Option.bind_some]
  by_cases hr : RankP t l
  · rw [if_pos (by simp [hr])]
    by_cases hx : RuleP t x y
    · rw [if_pos (by simp [hx]), accepts_eq hr hx.1 hx.2.1 hk]
      simp only [Option.bind_some]
      congr 1
      apply decide_eq_decide.mpr
      exact ⟨fun h => ⟨hr, hx, h⟩, fun h => h.2.2⟩
    · rw [if_neg (by simp [hx])]
      exact congrArg some (decide_eq_false (fun h => hx h.2.1)).symm
  · rw [if_neg (by simp [hr])]
    exact congrArg some (decide_eq_false (fun h => hr h.1)).symm
/-! #### FTab -/
/-- The row of a function of worlds. -/
def tab (f : Nat → Int) (n : Nat) : List Int := (List.range n).map f
theorem tab_len (f : Nat → Int) (n : Nat) : (tab f n).length = n := by unfold tab; rw [List.length_map, List.length_range]
theorem tab_rk {f : Nat → Int} {n w : Nat} (hw : w < n) : rk (tab f n) w = f w := by
  rw [rk_eq]
  unfold tab
  rw [List.getD_eq_getElem?_getD, List.getElem?_map, List.getElem?_range hw]
  rfl
theorem tab_snoc (f : Nat → Int) (j : Nat) : tab f j ++ [f j] = tab f (j + 1) := by
  unfold tab
  rw [List.range_succ, List.map_append]; rfl
theorem rk_get {l : List Int} {i : Nat} (h : i < l.length) : rk l i = l[i] := by
  rw [rk_eq, List.getD_eq_getElem?_getD, List.getElem?_eq_getElem h]; rfl
theorem tab_eq {f : Nat → Int} {n : Nat} {l : List Int} (hl : l.length = n) (h : ∀ w, w < n → f w = rk l w) : tab f n = l := by
  apply List.ext_getElem (by rw [tab_len, hl])
  intro i h1 h2
  rw [tab_len] at h1
  rw [← rk_get, ← rk_get, tab_rk h1, h i h1]
theorem tab_congr {f g : Nat → Int} {n : Nat} (h : ∀ w, w < n → f w = g w) : tab f n = tab g n :=
  tab_eq (tab_len g n) (fun w hw => by rw [tab_rk hw, h w hw])
theorem maxTo_congr {f g : Nat → Int} {n : Nat} (hn : 0 < n) (h : ∀ w, w < n → f w = g w) : maxTo f n = maxTo g n := by
  obtain ⟨u, hu, eu⟩ := maxTo_at f n hn
  obtain ⟨v, hv, ev⟩ := maxTo_at g n hn
  have h1 := le_maxTo g n u hu
  have h2 := le_maxTo f n v hv
  have h3 := h u hu
  have h4 := h v hv
  omega
/-! #### FList -/
/-- Rule number j: where it is so, and what is so there. -/
def rx (l : List S25) (j : Nat) : Int := (rd_T25 l j).f0
def ry (l : List S25) (j : Nat) : Int := (rd_T25 l j).f1
/-- A list of rules, for a number of things. -/
def RulesP (t : Int) (l : List S25) : Prop := (1 ≤ t ∧ t ≤ 3) ∧ l.length ≤ 6 ∧ ∀ j, j < l.length → RuleP t (rx l j) (ry l j)
instance (t : Int) (l : List S25) : Decidable (RulesP t l) := by unfold RulesP; infer_instance
theorem rule_iff {t : Int} (ht : 1 ≤ t ∧ t ≤ 3) (r : S25) : impl_areRules.rule t r = true ↔ RuleP t r.f0 r.f1 := by
  unfold impl_areRules.rule impl_areRules.set RuleP SetP
  simp only [Bool.and_eq_true, decide_eq_true_eq, bne_iff_ne, ne_eq, ht, and_self, true_and, and_assoc]
theorem impl_areRules_eq (t : Int) (l : List S25) : impl_areRules.f t l = some (decide (RulesP t l)) := by
  unfold impl_areRules.f
  by_cases ht : 1 ≤ t ∧ t ≤ 3
  · rw [if_pos ht]
    by_cases h6 : l.length ≤ 6
    · rw [if_pos (by omega)]
      congr 1
      rw [Bool.eq_iff_iff, decide_eq_true_eq, Bool.not_eq_true']
      unfold impl_areRules.bad RulesP
      rw [List.any_eq_false]
      constructor
      · intro h
        refine ⟨ht, h6, fun j hj => ?_⟩
        have := h j (List.mem_range.2 hj)
        rw [Bool.not_eq_true, Bool.not_eq_false'] at this
        exact (rule_iff ht _).1 this
      · rintro ⟨_, _, h⟩ j hj
        rw [Bool.not_eq_true, Bool.not_eq_false']
        exact (rule_iff ht _).2 (h j (List.mem_range.1 hj))
    · rw [if_neg (by omega)]
      exact congrArg some (decide_eq_false (fun h => h6 h.2.1)).symm
  · rw [if_neg ht]
    exact congrArg some (decide_eq_false (fun h => ht h.1)).symm
theorem spec_RulesOk_loop (t : Int) (l : List S25) (hl : l.length ≤ 17592186044416) : ∀ (d k j : Nat), j + d = l.length → d < k → (∀ i, i < j → RuleP t (rx l i) (ry l i)) →
    spec_RulesOk.l0 k t l j = some (decide (RulesP t l))
  | 0, k, j, hj, hk, hi => by
    obtain ⟨k, rfl⟩ : ∃ m, k = m + 1 := ⟨k - 1, by omega⟩
    simp only [spec_RulesOk.l0]
    rw [if_neg (by omega), l1In_eq]
    simp only [Option.bind_some]
    by_cases ht : 1 ≤ t ∧ t ≤ 3
    · rw [if_pos (by simp [ht])]
      congr 1
      apply decide_eq_decide.mpr
      exact ⟨fun h => ⟨ht, by omega, fun j2 hj2 => hi j2 (by omega)⟩, fun h => by have := h.2.1; omega⟩
    · rw [if_neg (by simpa using ht)]
      exact congrArg some (decide_eq_false (fun h => ht h.1)).symm
  | d + 1, k, j, hj, hk, hi => by
    obtain ⟨k, rfl⟩ : ∃ m, k = m + 1 := ⟨k - 1, by omega⟩
    simp only [spec_RulesOk.l0]
    rw [if_pos (by omega), if_pos (by omega), spec_RuleOk_eq]
    simp only [Option.bind_some]
    by_cases hr : RuleP t (rx l j) (ry l j)
    · rw [if_pos (by exact decide_eq_true hr), w64s (by omega)]
      refine spec_RulesOk_loop t l hl d k (j + 1) (by omega) (by omega) (fun i hi2 => ?_)
      by_cases e : i = j
      · subst e; exact hr
      · exact hi i (by omega)
    · rw [if_neg (by intro h; exact hr (of_decide_eq_true h))]
      exact congrArg some (decide_eq_false (fun h => hr (h.2.2 j (by omega)))).symm
theorem spec_RulesOk_eq (t : Int) (l : List S25) (hl : l.length ≤ 17592186044416) {k : Nat} (hk : l.length + 1 ≤ k) : spec_RulesOk.f k t l = some (decide (RulesP t l)) :=
  spec_RulesOk_loop t l hl l.length k 0 (by omega) (by omega) (fun i h => by omega)
/-! #### ZLev -/
/-! ### Levels, step by step. n rules, W worlds; v k w: world w verifies rule k; f k w: it breaks it. -/
/-- Some world verifies the rule and breaks none that has no level yet. -/
def zfit (n W : Nat) (v f : Nat → Nat → Bool) (l : Nat → Int) (k : Nat) : Bool := (List.range W).any fun w => v k w && (List.range n).all fun j => decide (0 ≤ l j) || !f j w
def zstep (n W : Nat) (v f : Nat → Nat → Bool) (L : Nat) (l : Nat → Int) : Nat → Int := fun k => if l k < 0 ∧ zfit n W v f l k = true then (L : Int) else l k
def zit (n W : Nat) (v f : Nat → Nat → Bool) : Nat → Nat → Int
  | 0 => fun _ => -1
  | L + 1 => zstep n W v f L (zit n W v f L)
section
variable {n W : Nat} {v f : Nat → Nat → Bool}
theorem zfit_iff {l : Nat → Int} {k : Nat} : zfit n W v f l k = true ↔ ∃ w, w < W ∧ v k w = true ∧ ∀ j, j < n → 0 ≤ l j ∨ f j w = false := by
  unfold zfit
  simp only [List.any_eq_true, List.mem_range, Bool.and_eq_true, List.all_eq_true, Bool.or_eq_true, decide_eq_true_eq, Bool.not_eq_true']
theorem zfit_congr {l l' : Nat → Int} {k : Nat} (h : ∀ j, j < n → (0 ≤ l j ↔ 0 ≤ l' j)) : zfit n W v f l k = zfit n W v f l' k := by
  rw [Bool.eq_iff_iff, zfit_iff, zfit_iff]
  constructor
  · rintro ⟨w, hw, hv, hj⟩
    exact ⟨w, hw, hv, fun j hjn => (hj j hjn).imp_left (h j hjn).1⟩
  · rintro ⟨w, hw, hv, hj⟩
    exact ⟨w, hw, hv, fun j hjn => (hj j hjn).imp_left (h j hjn).2⟩
theorem zstep_congr {l l' : Nat → Int} {L : Nat} (h : ∀ j, j < n → l j = l' j) : ∀ k, k < n → zstep n W v f L l k = zstep n W v f L l' k := by
  intro k hk
  unfold zstep
  rw [h k hk, zfit_congr (l := l) (l' := l') (fun j hj => by rw [h j hj])]
theorem zit_range (L k : Nat) : -1 ≤ zit n W v f L k ∧ zit n W v f L k < max 0 (L : Int) := by
  induction L with
  | zero => exact ⟨Int.le_refl _, by show (-1 : Int) < max 0 ((0 : Nat) : Int); omega⟩
  | succ L ih =>
    show -1 ≤ zstep n W v f L _ k ∧ zstep n W v f L _ k < _
    unfold zstep
    split
    · constructor <;> omega
    · constructor <;> omega
theorem zit_keep {L k : Nat} (h : 0 ≤ zit n W v f L k) : ∀ L', L ≤ L' → zit n W v f L' k = zit n W v f L k := by
  intro L' hL
  induction hL with
  | refl => rfl
  | step hL ih =>
    show zstep n W v f _ _ k = _
    unfold zstep
    rw [if_neg (by rw [ih]; omega), ih]
/-- Where one step tells nothing new, none does. -/
theorem zit_stuck {L : Nat} (h : ∀ k, k < n → zit n W v f L k < 0 → zfit n W v f (zit n W v f L) k = false) : ∀ L', L ≤ L' → ∀ k, k < n → zit n W v f L' k = zit n W v f L k := by
  intro L' hL
  induction hL with
  | refl => intro k _; rfl
  | @step m hL ih =>
    intro k hk
    show zstep n W v f m (zit n W v f m) k = _
    rw [zstep_congr ih k hk]
    unfold zstep
    rw [if_neg]
    rintro ⟨h1, h2⟩
    rw [h k hk h1] at h2
    exact absurd h2 (by decide)
/-- How many have none yet. -/
def zleft (n : Nat) (l : Nat → Int) : Nat := (List.range n).countP fun k => decide (l k < 0)
theorem zleft_zero {l : Nat → Int} (h : zleft n l = 0) : ∀ k, k < n → 0 ≤ l k := by
  intro k hk
  have := (List.countP_eq_zero.1 h) k (List.mem_range.2 hk)
  simp at this
  exact this
theorem countP_lt {α : Type} {p q : α → Bool} : ∀ {l : List α}, (∀ x ∈ l, p x = true → q x = true) → (∃ x ∈ l, p x = false ∧ q x = true) → l.countP p < l.countP q
  | [], _, h => by obtain ⟨x, hx, _⟩ := h; simp at hx
  | a :: l, h1, h2 => by
    have hle : l.countP p ≤ l.countP q := List.countP_mono_left fun x hx => h1 x (List.mem_cons_of_mem _ hx)
    rw [List.countP_cons, List.countP_cons]
    obtain ⟨x, hx, hp, hq⟩ := h2
    rcases List.mem_cons.1 hx with rfl | hx
    · rw [hp, hq]; simp; omega
    · have := countP_lt (fun y hy => h1 y (List.mem_cons_of_mem _ hy)) ⟨x, hx, hp, hq⟩
      have h3 := h1 a (List.mem_cons_self ..)
      cases hpa : p a
      · simp; omega
      · rw [h3 hpa]; simp; omega
theorem zleft_step {L : Nat} (h : ∃ k, k < n ∧ zit n W v f L k < 0 ∧ zfit n W v f (zit n W v f L) k = true) : zleft n (zit n W v f (L + 1)) < zleft n (zit n W v f L) := by
  unfold zleft
  refine countP_lt ?_ ?_
  · intro k hk h1
    simp only [decide_eq_true_eq] at h1 ⊢
    have h1 : zstep n W v f L (zit n W v f L) k < 0 := h1
    unfold zstep at h1
    split at h1
    · omega
    · exact h1
  · obtain ⟨k, hk, h1, h2⟩ := h
    refine ⟨k, List.mem_range.2 hk, ?_, ?_⟩
    · simp only [decide_eq_false_iff_not]
      show ¬ zstep n W v f L (zit n W v f L) k < 0
      unfold zstep
      rw [if_pos ⟨h1, h2⟩]
      omega
    · simpa using h1
theorem zleft_le (l : Nat → Int) : zleft n l ≤ n := by
  have := List.countP_le_length (p := fun k => decide (l k < 0)) (l := List.range n)
  simpa [zleft] using this
/-- After as many steps as there are rules, nothing more is told. -/
theorem zit_end : ∀ k, k < n → zit n W v f n k < 0 → zfit n W v f (zit n W v f n) k = false := by
  have key : ∀ L, (∃ M, M ≤ L ∧ ∀ k, k < n → zit n W v f M k < 0 → zfit n W v f (zit n W v f M) k = false) ∨ zleft n (zit n W v f L) + L ≤ n := by
    intro L
    induction L with
    | zero => exact .inr (by have := zleft_le (n := n) (zit n W v f 0); omega)
    | succ L ih =>
      rcases ih with ⟨M, hM, h⟩ | h
      · exact .inl ⟨M, by omega, h⟩
      · by_cases hs : ∃ k, k < n ∧ zit n W v f L k < 0 ∧ zfit n W v f (zit n W v f L) k = true
        · have := zleft_step hs
          exact .inr (by omega)
        · refine .inl ⟨L, by omega, fun k hk h1 => ?_⟩
          cases h2 : zfit n W v f (zit n W v f L) k
          · rfl
          · exact absurd ⟨k, hk, h1, h2⟩ hs
  intro k hk h1
  rcases key n with ⟨M, hM, h⟩ | h
  · have he := zit_stuck h n hM
    have := h k hk (by rw [← he k hk]; exact h1)
    rw [zfit_congr (l' := zit n W v f M) (fun j hj => by rw [he j hj])]
    exact this
  · have := zleft_zero (l := zit n W v f n) (n := n) (by omega) k hk
    omega
/-! ### Ranks that accept -/
/-- Each world that breaks the rule is behind one that verifies it; and there is one. -/
def zacc (W : Nat) (v f : Nat → Nat → Bool) (r : Nat → Int) (k : Nat) : Prop := (∃ w, w < W ∧ v k w = true) ∧ ∀ w, w < W → f k w = true → ∃ u, u < W ∧ v k u = true ∧ r u < r w
/-- Rules that some ranks accept have levels. -/
theorem z_levels {r : Nat → Int} (hr : ∀ w, w < W → 0 ≤ r w) (h : ∀ k, k < n → zacc W v f r k) : ∀ k, k < n → 0 ≤ zit n W v f n k := by
  have key : ∀ m : Nat, ∀ k w, k < n → zit n W v f n k < 0 → w < W → v k w = true → r w < m → False := by
    intro m
    induction m with
    | zero => intro k w _ _ hw _ hm; have := hr w hw; omega
    | succ m ih =>
      intro k w hk h1 hw hv hm
      have h2 := zit_end k hk h1
      have h3 : ¬ zfit n W v f (zit n W v f n) k = true := by rw [h2]; decide
      rw [zfit_iff] at h3
      have h4 : ∃ j, j < n ∧ zit n W v f n j < 0 ∧ f j w = true := by
        refine Classical.byContradiction fun hno => h3 ⟨w, hw, hv, fun j hj => ?_⟩
        by_cases h5 : 0 ≤ zit n W v f n j
        · exact .inl h5
        · refine .inr ?_
          cases h6 : f j w
          · rfl
          · exact absurd ⟨j, hj, by omega, h6⟩ hno
      obtain ⟨j, hj, hj1, hj2⟩ := h4
      obtain ⟨u, hu, hvu, hlt⟩ := (h j hj).2 w hw hj2
      exact ih j u hj hj1 hu hvu (by omega)
  intro k hk
  refine Classical.byContradiction fun hn => ?_
  obtain ⟨w, hw, hv⟩ := (h k hk).1
  exact key (r w + 1).toNat k w hk (by omega) hw hv (by have := hr w hw; omega)
/-! ### The ranks of levels -/
/-- The greatest level of the rules that a world breaks, and 1. -/
def zrank (n : Nat) (f : Nat → Nat → Bool) (l : Nat → Int) (w : Nat) : Int := (List.range n).foldl (fun a k => if f k w = true then max a (l k + 1) else a) 0
theorem zfold_le {g : Nat → Int} {p : Nat → Bool} : ∀ (ks : List Nat) (a b : Int), ks.foldl (fun a k => if p k = true then max a (g k) else a) a ≤ b ↔ a ≤ b ∧ ∀ k ∈ ks, p k = true → g k ≤ b
  | [], a, b => by simp
  | k :: ks, a, b => by
    rw [List.foldl_cons, zfold_le ks]
    simp only [List.mem_cons, forall_eq_or_imp]
    cases hp : p k
    · simp
    · simp only [if_true, forall_const]; constructor
      · rintro ⟨h1, h2⟩; exact ⟨by omega, by omega, h2⟩
      · rintro ⟨h1, h2, h3⟩; exact ⟨by omega, h3⟩
theorem zrank_le {l : Nat → Int} {w : Nat} {b : Int} : zrank n f l w ≤ b ↔ 0 ≤ b ∧ ∀ k, k < n → f k w = true → l k + 1 ≤ b := by
  unfold zrank
  rw [zfold_le]
  simp only [List.mem_range]
theorem zrank_nonneg {l : Nat → Int} {w : Nat} : 0 ≤ zrank n f l w := (zrank_le.1 (Int.le_refl _)).1
theorem zrank_ge {l : Nat → Int} {w k : Nat} (hk : k < n) (hf : f k w = true) : l k + 1 ≤ zrank n f l w := (zrank_le.1 (Int.le_refl _)).2 k hk hf
/-- What a level tells: a world that verifies, and breaks only rules of lesser levels. -/
theorem z_at {k : Nat} (hk : k < n) : ∀ {L : Nat}, 0 ≤ zit n W v f L k → ∃ w, w < W ∧ v k w = true ∧ ∀ j, j < n → f j w = true → 0 ≤ zit n W v f L j ∧ zit n W v f L j < zit n W v f L k := by
  intro L
  induction L with
  | zero => intro h; have h : 0 ≤ (-1 : Int) := h; exact absurd h (by decide)
  | succ L ih =>
    intro h
    by_cases h0 : 0 ≤ zit n W v f L k
    · obtain ⟨w, hw, hv, hj⟩ := ih h0
      refine ⟨w, hw, hv, fun j hjn hf => ?_⟩
      obtain ⟨h1, h2⟩ := hj j hjn hf
      rw [zit_keep h1 (L + 1) (by omega), zit_keep h0 (L + 1) (by omega)]
      exact ⟨h1, h2⟩
    · have hs : zit n W v f L k < 0 ∧ zfit n W v f (zit n W v f L) k = true := by
        refine Classical.byContradiction fun hn => ?_
        have : zit n W v f (L + 1) k = zit n W v f L k := by
          show zstep n W v f L _ k = _
          unfold zstep
          rw [if_neg hn]
        omega
      have hk1 : zit n W v f (L + 1) k = L := by
        show zstep n W v f L _ k = _
        unfold zstep
        rw [if_pos hs]
      obtain ⟨w, hw, hv, hj⟩ := zfit_iff.1 hs.2
      refine ⟨w, hw, hv, fun j hjn hf => ?_⟩
      have h1 : 0 ≤ zit n W v f L j := by
        rcases hj j hjn with h1 | h1
        · exact h1
        · rw [hf] at h1; exact absurd h1 (by decide)
      rw [hk1, zit_keep h1 (L + 1) (by omega)]
      have := (zit_range (n := n) (W := W) (v := v) (f := f) L j).2
      exact ⟨h1, by omega⟩
/-- The ranks of levels accept all rules. -/
theorem z_accepts (h : ∀ k, k < n → 0 ≤ zit n W v f n k) : ∀ k, k < n → zacc W v f (zrank n f (zit n W v f n)) k := by
  intro k hk
  obtain ⟨u, hu, hv, hj⟩ := z_at hk (h k hk)
  refine ⟨⟨u, hu, hv⟩, fun w hw hf => ⟨u, hu, hv, ?_⟩⟩
  have h1 : zrank n f (zit n W v f n) u ≤ zit n W v f n k := zrank_le.2 ⟨h k hk, fun j hjn hfj => by have := (hj j hjn hfj).2; omega⟩
  have h2 := zrank_ge (l := zit n W v f n) hk hf
  omega
/-- And they are the least that do. -/
theorem z_least {r : Nat → Int} (hr : ∀ w, w < W → 0 ≤ r w) (h : ∀ k, k < n → zacc W v f r k) : ∀ w, w < W → zrank n f (zit n W v f n) w ≤ r w := by
  have hl := z_levels hr h
  have key : ∀ m : Nat, ∀ k w, k < n → (m : Int) ≤ zit n W v f n k → w < W → f k w = true → (m : Int) + 1 ≤ r w := by
    intro m
    induction m with
    | zero =>
      intro k w hk _ hw hf
      obtain ⟨u, hu, _, hlt⟩ := (h k hk).2 w hw hf
      have := hr u hu
      omega
    | succ m ih =>
      intro k w hk hm hw hf
      obtain ⟨u, hu, hvu, hlt⟩ := (h k hk).2 w hw hf
      -- at step m the rule was not yet told
      have hmn : m ≤ n := by
        have := (zit_range (n := n) (W := W) (v := v) (f := f) n k).2
        omega
      have h1 : ¬ 0 ≤ zit n W v f m k := by
        intro h0
        have h2 := zit_keep h0 n hmn
        have := (zit_range (n := n) (W := W) (v := v) (f := f) m k).2
        omega
      have h3 : ¬ zfit n W v f (zit n W v f m) k = true := by
        intro hfit
        have h4 : zit n W v f (m + 1) k = m := by
          show zstep n W v f m _ k = _
          unfold zstep
          rw [if_pos ⟨by omega, hfit⟩]
        by_cases hm1 : m + 1 ≤ n
        · have := zit_keep (n := n) (W := W) (v := v) (f := f) (L := m + 1) (k := k) (by omega) n hm1
          omega
        · have hmn' : m = n := by omega
          have := hl k hk
          rw [hmn'] at h1
          exact h1 this
      rw [zfit_iff] at h3
      have h4 : ∃ j, j < n ∧ zit n W v f m j < 0 ∧ f j u = true := by
        refine Classical.byContradiction fun hno => h3 ⟨u, hu, hvu, fun j hj => ?_⟩
        by_cases h5 : 0 ≤ zit n W v f m j
        · exact .inl h5
        · refine .inr ?_
          cases h6 : f j u
          · rfl
          · exact absurd ⟨j, hj, by omega, h6⟩ hno
      obtain ⟨j, hj, hj1, hj2⟩ := h4
      have h5 : (m : Int) ≤ zit n W v f n j := by
        refine Classical.byContradiction fun hlt' => ?_
        -- its level is less than m, so it was told at step m
        have h6 := hl j hj
        obtain ⟨L, hL⟩ : ∃ L : Nat, zit n W v f n j = L := ⟨(zit n W v f n j).toNat, by omega⟩
        have h7 : ∀ M, zit n W v f M j = L → 0 ≤ zit n W v f (L + 1) j := by
          intro M
          induction M with
          | zero => intro e; have : zit n W v f 0 j = -1 := rfl; omega
          | succ M ihM =>
            intro e
            by_cases h8 : 0 ≤ zit n W v f M j
            · exact ihM (by rw [← zit_keep h8 (M + 1) (by omega)]; exact e)
            · have h9 : zit n W v f (M + 1) j = zstep n W v f M (zit n W v f M) j := rfl
              unfold zstep at h9
              split at h9
              · have : M = L := by omega
                subst this
                omega
              · omega
        have h10 := h7 n hL
        have := zit_keep h10 m (by omega)
        omega
      have := ih j u hj h5 hu hj2
      omega
  intro w hw
  refine zrank_le.2 ⟨hr w hw, fun k hk hf => ?_⟩
  have h0 := hl k hk
  have := key (zit n W v f n k).toNat k w hk (by omega) hw hf
  omega
/-- A world that breaks nothing, where there are levels. -/
theorem z_zero (hW : 0 < W) (h : ∀ k, k < n → 0 ≤ zit n W v f n k) : ∃ w, w < W ∧ zrank n f (zit n W v f n) w = 0 := by
  have key : ∀ m : Nat, ∀ k, k < n → zit n W v f n k < m → ∃ w, w < W ∧ zrank n f (zit n W v f n) w = 0 := by
    intro m
    induction m with
    | zero => intro k hk hm; have := h k hk; omega
    | succ m ih =>
      intro k hk hm
      obtain ⟨u, hu, hv, hj⟩ := z_at hk (h k hk)
      by_cases hx : ∃ j, j < n ∧ f j u = true
      · obtain ⟨j, hjn, hf⟩ := hx
        exact ih j hjn (by have := (hj j hjn hf).2; omega)
      · refine ⟨u, hu, Int.le_antisymm (zrank_le.2 ⟨Int.le_refl _, fun j hjn hf => absurd ⟨j, hjn, hf⟩ hx⟩) zrank_nonneg⟩
  by_cases hn : n = 0
  · subst hn
    exact ⟨0, hW, rfl⟩
  · exact key _ 0 (by omega) (Int.lt_of_lt_of_le (zit_range (n := n) (W := W) (v := v) (f := f) n 0).2 (b := max 0 (n : Int)) (c := ((n : Nat) : Int)) (by omega))
theorem zrank_max (w : Nat) : zrank n f (zit n W v f n) w ≤ n := by
  refine zrank_le.2 ⟨by omega, fun k hk _ => ?_⟩
  have := (zit_range (n := n) (W := W) (v := v) (f := f) n k).2
  omega
end
/-! #### ZAcc -/
theorem acc_iff {t : Int} {l : List Int} {x y : Int} {v f : Nat → Nat → Bool} {k : Nat} (hr : RankP t l) (hx : RuleP t x y) (hv : ∀ w, v k w = (mem x w && mem y w)) (hf : ∀ w, f k w = (mem x w && !mem y w)) :
    AccP t l x y ↔ zacc (2 ^ t.toNat) v f (rk l) k := by
  unfold AccP zacc
  constructor
  · intro h
    obtain ⟨w0, hw0, hm0⟩ := exists_mem hx.1.2.1 hx.1.2.2 hx.2.2
    obtain ⟨u, hu, hmu, hru⟩ := least_attained (c := 10) (r := rk l) (p := mem x) (n := 2 ^ t.toNat) ⟨w0, hw0, hm0, by have := hr.hi hw0; omega⟩
    have hyu := h u hu hmu hru
    refine ⟨⟨u, hu, by rw [hv, hmu, hyu]; rfl⟩, fun w hw hfw => ⟨u, hu, by rw [hv, hmu, hyu]; rfl, ?_⟩⟩
    rw [hf, Bool.and_eq_true, Bool.not_eq_true'] at hfw
    have h1 := least_le 10 (rk l) (mem x) (2 ^ t.toNat) w hw hfw.1
    refine Classical.byContradiction fun he => ?_
    have := h w hw hfw.1 (by omega)
    rw [this] at hfw
    exact absurd hfw.2 (by decide)
  · rintro ⟨_, h⟩ w hw hmw hrw
    cases hy : mem y w
    · obtain ⟨u, hu, hvu, hlt⟩ := h w hw (by rw [hf, hmw, hy]; rfl)
      rw [hv, Bool.and_eq_true] at hvu
      have := least_le 10 (rk l) (mem x) (2 ^ t.toNat) u hu hvu.1
      omega
    · rfl
end Go.Proofs.Ytflaacdhifgpoaa.LV

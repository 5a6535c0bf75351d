/- Plain facts about what the printed functions answer (several pieces in one text). Conditions: those of each theorem. -/
import Derived.Test.YtfleephpcomimaaS1
import Derived.Test.YtfleephpcomimaaS4
import Derived.Test.YtfleephpcomimaaS6
import Derived.Test.YtfleephpcomimaaS7
import Derived.Test.YtfleephpcomimaaS8
import Derived.Test.YtfleephpcomimaaS9
import Derived.Test.YtfleephpcomimaaS10
import Derived.Test.YtfleephpcomimaaS15
import Derived.Test.YtfleephpcomimaaSets
set_option linter.unusedVariables false
set_option linter.unusedSimpArgs false
namespace Go.Proofs.Ytfleephpcomimaa.LS
open Go.RowKit Go.Proofs.YtfleephpcomimaaW.PrintWords Go.Proofs.YtfleephpcomimaaW.PrintLast Go.Proofs.YtfleephpcomimaaW.PrintMore Go.Proofs.BelM Go.Proofs.Ytfleephpcomimaa.S
/-! #### FBase -/

theorem w64 {x : Int} (h0 : -9223372036854775808 ≤ x) (h1 : x ≤ 9223372036854775807) : wrap64 x = x := by unfold wrap64; omega
theorem w64s {j : Nat} (h : j ≤ 281474976710656) : wrap64 ((j : Int) + 1) = ((j + 1 : Nat) : Int) := by rw [w64 (by omega) (by omega)]; omega
theorem wfb {a : Int} (h : (Lit.int .i64 a).wf = true) : -9223372036854775808 ≤ a ∧ a ≤ 9223372036854775807 := by
  have h2 : (decide (IntKind.min .i64 ≤ a) && decide (a ≤ IntKind.max .i64)) = true := h
  rw [Bool.and_eq_true, decide_eq_true_eq, decide_eq_true_eq] at h2
  exact h2
theorem wfu8 {a : Int} (h : (Lit.int .u8 a).wf = true) : 0 ≤ a ∧ a ≤ 255 := by
  have h2 : (decide (IntKind.min .u8 ≤ a) && decide (a ≤ IntKind.max .u8)) = true := h
  rw [Bool.and_eq_true, decide_eq_true_eq, decide_eq_true_eq] at h2
  exact h2
theorem mn_eq (a b : Int) : mn a b = min a b := by unfold mn; split <;> omega
theorem mx_eq (a b : Int) : mx a b = max a b := by unfold mx; split <;> omega
theorem pow_nat (j : Nat) : (2 : Int) ^ j = ((2 ^ j : Nat) : Int) := by simp
theorem pow_le128 {j : Nat} (hj : j < 8) : (2 : Int) ^ j ≤ 128 := by
  have : 2 ^ j ≤ 2 ^ 7 := Nat.pow_le_pow_right (by decide) (by omega)
  rw [pow_nat]; omega
theorem shl_small1 {j : Nat} (hj : j < 8) : shl .i64 1 j = 2 ^ j := by
  have h := pow_le128 hj
  have h0 := pow_pos j
  unfold shl
  rw [Int.toNat_natCast, Nat.min_eq_left (by show j ≤ 64; omega), Int.one_mul, IntKind.wrap_i64]
  omega
theorem shl_zero (j : Int) : shl .i64 0 j = 0 := by
  unfold shl
  rw [Int.zero_mul, IntKind.wrap_i64]; rfl
theorem toNat_le3 {t : Int} (ht : 1 ≤ t ∧ t ≤ 3) : 1 ≤ t.toNat ∧ t.toNat ≤ 3 := by omega
theorem worlds_le {t : Int} (ht : 1 ≤ t ∧ t ≤ 3) : 2 ^ t.toNat ≤ 8 := by
  have : 2 ^ t.toNat ≤ 2 ^ 3 := Nat.pow_le_pow_right (by decide) (by omega)
  omega
theorem worlds_ge {t : Int} (ht : 1 ≤ t ∧ t ≤ 3) : 2 ≤ 2 ^ t.toNat := by
  have : 2 ^ 1 ≤ 2 ^ t.toNat := Nat.pow_le_pow_right (by decide) (by omega)
  omega
theorem shl_things {t : Int} (ht : 1 ≤ t ∧ t ≤ 3) : shl .i64 1 t = ((2 ^ t.toNat : Nat) : Int) := by
  have h := shl_small1 (j := t.toNat) (by omega)
  rw [show ((t.toNat : Nat) : Int) = t by omega] at h
  rw [h, pow_nat]
theorem shr_nat {s : Int} {w : Nat} (hs : 0 ≤ s) (hw : w ≤ 64) : shr .i64 s w = s / 2 ^ w := by
  unfold shr
  rw [Int.toNat_natCast, Nat.min_eq_left (by show w ≤ 64; exact hw)]
theorem shr_val {s : Int} {w : Nat} (hs : 0 ≤ s) (hw : w ≤ 64) : shr .i64 s w = ((s.toNat / 2 ^ w : Nat) : Int) := by
  rw [shr_nat hs hw]
  have : s = (s.toNat : Int) := by omega
  rw [this, Int.toNat_natCast]; simp
theorem tmod_bit {s : Int} {w : Nat} (hs : 0 ≤ s) (hw : w ≤ 64) : Int.tmod (shr .i64 s w) 2 = if mem s w = true then 1 else 0 := by
  rw [shr_val hs hw]
  unfold mem
  rw [Nat.testBit_eq_decide_div_mod_eq]
  generalize s.toNat / 2 ^ w = m
  rw [Int.tmod_eq_emod_of_nonneg (Int.natCast_nonneg m)]
  by_cases h : m % 2 = 1
  · rw [if_pos (by simp [h])]; omega
  · rw [if_neg (by simp [h])]; omega
theorem and_bit {s : Int} {w : Nat} (hs : 0 ≤ s) (hs' : s < 256) (hw : w ≤ 64) : bits .and .i64 (shr .i64 s w) 1 = if mem s w = true then 1 else 0 := by
  rw [shr_nat hs hw]; exact and1 hs hs'

theorem l1In_eq (a b c : Int) : spec_l1In.f a b c = some (decide (b ≤ a ∧ a ≤ c)) := by
  unfold spec_l1In.f
  by_cases h : a ≥ b
  · rw [if_pos h]
    have h' : b ≤ a := h
    simp [h']
  · rw [if_neg h]
    have h' : ¬ b ≤ a := h
    simp [h']

/-- A set of worlds, for a number of things. -/
def SetP (t s : Int) : Prop := (1 ≤ t ∧ t ≤ 3) ∧ 0 ≤ s ∧ s < 2 ^ 2 ^ t.toNat
instance (t s : Int) : Decidable (SetP t s) := by unfold SetP; infer_instance
theorem SetP.lt8 {t s : Int} (h : SetP t s) : s < 2 ^ 8 := lt8of (worlds_le h.1) h.2.2
theorem SetP.lt256 {t s : Int} (h : SetP t s) : s < 256 := by
  have := h.lt8
  have : (2 : Int) ^ 8 = 256 := by decide
  omega
theorem SetP.mk {t : Int} (ht : 1 ≤ t ∧ t ≤ 3) (p : Nat → Bool) : SetP t (mk p (2 ^ t.toNat)) := ⟨ht, mk_nonneg _ _, mk_lt _ _⟩
theorem SetP.mem_lt {t s : Int} (h : SetP t s) {w : Nat} (hm : mem s w = true) : w < 2 ^ t.toNat := Go.Proofs.BelM.mem_lt h.2.1 h.2.2 hm

theorem all_spec {t : Int} (ht : 1 ≤ t ∧ t ≤ 3) : spec_l1All.f t = some (2 ^ 2 ^ t.toNat - 1) := by unfold spec_l1All.f; rw [if_pos ht]
theorem all_le {t : Int} (ht : 1 ≤ t ∧ t ≤ 3) : (2 : Int) ^ 2 ^ t.toNat ≤ 256 := le_pow8 (worlds_le ht)
theorem all_ge {t : Int} (ht : 1 ≤ t ∧ t ≤ 3) : (4 : Int) ≤ 2 ^ 2 ^ t.toNat := by
  have : 2 ^ 2 ≤ 2 ^ 2 ^ t.toNat := Nat.pow_le_pow_right (by decide) (worlds_ge ht)
  rw [pow_nat]; omega
theorem SetOk_eq (t s : Int) : spec_SetOk.f t s = some (decide (SetP t s)) := by
  unfold spec_SetOk.f
  rw [l1In_eq]
  simp only [Option.bind_some]
  by_cases ht : 1 ≤ t ∧ t ≤ 3
  · rw [if_pos (by simp [ht]), all_spec ht]
    simp only [Option.bind_some]
    rw [l1In_eq]
    simp only [Option.bind_some]
    congr 1
    apply decide_eq_decide.mpr
    unfold SetP
    generalize (2 : Int) ^ 2 ^ t.toNat = M
    omega
  · rw [if_neg (by simpa using ht)]
    congr 1
    symm
    apply decide_eq_false
    unfold SetP
    exact fun h => ht h.1

theorem l1Bit_eq {s : Int} {w : Nat} (hs : 0 ≤ s) (hw : w ≤ 64) : spec_l1Bit.f s w = some (if mem s w = true then 1 else 0) := by
  unfold spec_l1Bit.f
  rw [if_pos (by omega), tmod_bit hs hw]
/-- One more world of a sum. -/
theorem add_bit {p : Nat → Bool} {j : Nat} (hj : j < 8) (hp : p j = true) : wrap64 (mk p j + shl .i64 1 j) = mk p (j + 1) := by
  have h1 := mk_lt p j
  have h2 := mk_nonneg p j
  have h3 := pow_le128 hj
  rw [shl_small1 hj, mk_succ, if_pos hp, w64 (by omega) (by omega)]
theorem skip_bit {p : Nat → Bool} {j : Nat} (hp : p j = false) : mk p j = mk p (j + 1) := mk_skip hp
theorem step2 {a b : Int} {j : Nat} (hj : j < 8) : wrap64 (mk (fun w => mem a w && mem b w) j + shl .i64 (wrap64 ((if mem a j = true then 1 else 0) * (if mem b j = true then 1 else 0))) j) = mk (fun w => mem a w && mem b w) (j + 1) := by
  by_cases h : mem a j = true ∧ mem b j = true
  · rw [if_pos h.1, if_pos h.2, show wrap64 (1 * 1) = 1 by decide +kernel]
    exact add_bit hj (by simp [h.1, h.2])
  · have e : (if mem a j = true then (1 : Int) else 0) * (if mem b j = true then 1 else 0) = 0 := by
      by_cases ha : mem a j = true
      · rw [if_neg (fun hb => h ⟨ha, hb⟩), Int.mul_zero]
      · rw [if_neg ha, Int.zero_mul]
    have h2 := mk_nonneg (fun w => mem a w && mem b w) j
    have h1 := mk_lt (fun w => mem a w && mem b w) j
    have h3 := pow_le128 hj
    rw [e, show wrap64 0 = 0 by decide +kernel, shl_zero, Int.add_zero, w64 (by omega) (by omega)]
    exact skip_bit (by
      cases ha : mem a j
      · rfl
      · cases hb : mem b j
        · rfl
        · exact absurd ⟨ha, hb⟩ h)
theorem l1Both_loop {a b : Int} (ha : 0 ≤ a) (hb : 0 ≤ b) : ∀ (d k j : Nat), j + d = 8 → d < k → spec_l1Both.l0 k a b (mk (fun w => mem a w && mem b w) j) j = some (andS a b)
  | 0, k, j, hj, hk => by
    obtain ⟨k, rfl⟩ : ∃ m, k = m + 1 := ⟨k - 1, by omega⟩
    obtain rfl : j = 8 := by omega
    simp only [spec_l1Both.l0]
    rw [if_neg (by decide)]
    rfl
  | d + 1, k, j, hj, hk => by
    obtain ⟨k, rfl⟩ : ∃ m, k = m + 1 := ⟨k - 1, by omega⟩
    have ih := l1Both_loop ha hb d k (j + 1) (by omega) (by omega)
    simp only [spec_l1Both.l0]
    rw [if_pos (by omega), l1Bit_eq ha (by omega), l1Bit_eq hb (by omega)]
    simp only [Option.bind_some]
    rw [if_pos (by omega), w64s (by omega), step2 (by omega)]
    exact ih
theorem l1Both_eq {a b : Int} (ha : 0 ≤ a) (hb : 0 ≤ b) {k : Nat} (hk : 9 ≤ k) : spec_l1Both.f k a b = some (andS a b) := by
  unfold spec_l1Both.f
  exact l1Both_loop ha hb 8 k 0 (by omega) (by omega)
/-! #### FEither -/
/-! #### FSets -/

theorem areThings_eq (t : Int) : impl_areThings.f t = some (decide (1 ≤ t ∧ t ≤ 3)) := by
  unfold impl_areThings.f
  by_cases h : t ≥ 1
  · rw [if_pos h]
    have h' : 1 ≤ t := h
    simp [h']
  · rw [if_neg h]
    have h' : ¬ 1 ≤ t := h
    simp [h']
theorem isSet_eq (t s : Int) : impl_isSet.f t s = some (decide (SetP t s)) := by
  unfold impl_isSet.f
  rw [areThings_eq]
  simp only [Option.bind_some]
  by_cases ht : 1 ≤ t ∧ t ≤ 3
  · rw [if_pos (by simp [ht])]
    by_cases h0 : s ≥ 0
    · rw [if_pos h0]
      unfold impl_allWorlds.f
      rw [if_pos ht]
      simp only [Option.bind_some]
      congr 1
      apply decide_eq_decide.mpr
      unfold SetP
      generalize (2 : Int) ^ 2 ^ t.toNat = M
      omega
    · rw [if_neg h0]
      congr 1
      symm
      apply decide_eq_false
      exact fun h => h0 h.2.1
  · rw [if_neg (by simpa using ht)]
    congr 1
    symm
    apply decide_eq_false
    exact fun h => ht h.1
/-! #### FRank -/

/-- A row as a function of worlds. -/
def rk (l : List Int) (w : Nat) : Int := rd l (w : Int)
theorem rk_eq (l : List Int) (w : Nat) : rk l w = l.getD w 0 := by unfold rk rd; rw [Int.toNat_natCast]

theorem l2_loop1 {l : List Int} {s x : Int} (hs : 0 ≤ s) (hl : l.length ≤ 8) : ∀ (d k j : Nat), j + d = l.length → d < k →
    spec_l2Least.l1 k l s x (mk (fun w => mem s w && decide (rk l w = x)) j) j = some (mk (fun w => mem s w && decide (rk l w = x)) l.length)
  | 0, k, j, hj, hk => by
    obtain ⟨k, rfl⟩ : ∃ m, k = m + 1 := ⟨k - 1, by omega⟩
    obtain rfl : j = l.length := by omega
    simp only [spec_l2Least.l1]
    rw [if_neg (by omega)]
  | d + 1, k, j, hj, hk => by
    obtain ⟨k, rfl⟩ : ∃ m, k = m + 1 := ⟨k - 1, by omega⟩
    have ih := l2_loop1 (x := x) hs hl d k (j + 1) (by omega) (by omega)
    simp only [spec_l2Least.l1]
    rw [if_pos (by omega), l1Bit_eq hs (by omega)]
    simp only [Option.bind_some]
    by_cases hm : mem s j = true
    · rw [if_pos hm, if_pos rfl, if_pos (by omega)]
      by_cases hx : rd l (j : Int) = x
      · rw [if_pos hx, add_bit (by omega) (by show (mem s j && decide (rk l j = x)) = true; rw [hm]; simp [rk, hx]), w64s (by omega)]
        exact ih
      · rw [if_neg hx, w64s (by omega), skip_bit (j := j) (by show (mem s j && decide (rk l j = x)) = false; simp [rk, hx])]
        exact ih
    · rw [if_neg hm, if_neg (by decide), w64s (by omega), skip_bit (j := j) (by show (mem s j && decide (rk l j = x)) = false; simp [hm])]
      exact ih
theorem l2_loop0 {l : List Int} {s : Int} (hs : 0 ≤ s) (hl : l.length ≤ 8) : ∀ (d k j : Nat), j + d = l.length → d + l.length + 1 < k →
    spec_l2Least.l0 k l s (least 10 (rk l) (mem s) j) j = some (rev l.length (rk l) s)
  | 0, k, j, hj, hk => by
    obtain ⟨k, rfl⟩ : ∃ m, k = m + 1 := ⟨k - 1, by omega⟩
    obtain rfl : j = l.length := by omega
    simp only [spec_l2Least.l0]
    rw [if_neg (by omega)]
    exact l2_loop1 hs hl l.length k 0 (by omega) (by omega)
  | d + 1, k, j, hj, hk => by
    obtain ⟨k, rfl⟩ : ∃ m, k = m + 1 := ⟨k - 1, by omega⟩
    have ih := l2_loop0 hs hl d k (j + 1) (by omega) (by omega)
    simp only [spec_l2Least.l0]
    rw [if_pos (by omega), l1Bit_eq hs (by omega)]
    simp only [Option.bind_some]
    simp only [least] at ih
    by_cases hm : mem s j = true
    · rw [if_pos hm] at ih
      rw [if_pos hm, if_pos rfl, if_pos (by omega), w64s (by omega), mn_eq]
      exact ih
    · rw [if_neg hm] at ih
      rw [if_neg hm, if_neg (by decide), w64s (by omega)]
      exact ih
theorem l2Least_eq {l : List Int} {s : Int} (hs : 0 ≤ s) (hl : l.length ≤ 8) {k : Nat} (hk : 20 ≤ k) : spec_l2Least.f k l s = some (rev l.length (rk l) s) := by
  unfold spec_l2Least.f
  exact l2_loop0 hs hl l.length k 0 (by omega) (by omega)

theorem surprise_loop {l : List Int} {s : Int} (hs : 0 ≤ s) (hs' : s < 256) (hl : l.length ≤ 8) : ∀ (d k j : Nat), j + d = l.length → d < k →
    impl_surpriseOf.l0 k s (least 10 (rk l) (mem s) j) l (l.length : Int) j = some (least 10 (rk l) (mem s) l.length)
  | 0, k, j, hj, hk => by
    obtain ⟨k, rfl⟩ : ∃ m, k = m + 1 := ⟨k - 1, by omega⟩
    obtain rfl : j = l.length := by omega
    simp only [impl_surpriseOf.l0]
    rw [if_neg (by omega)]
  | d + 1, k, j, hj, hk => by
    obtain ⟨k, rfl⟩ : ∃ m, k = m + 1 := ⟨k - 1, by omega⟩
    have ih := surprise_loop hs hs' hl d k (j + 1) (by omega) (by omega)
    simp only [impl_surpriseOf.l0]
    rw [if_pos (by omega), if_pos (by omega), if_pos (by omega), and_bit hs hs' (by omega), w64s (by omega), mn_eq]
    simp only [least] at ih
    by_cases hm : mem s j = true
    · rw [if_pos hm] at ih
      rw [if_pos hm, if_pos rfl]
      exact ih
    · rw [if_neg hm] at ih
      rw [if_neg hm, if_neg (by decide)]
      exact ih
theorem surpriseOf_eq {l : List Int} {s : Int} (hs : 0 ≤ s) (hs' : s < 256) (hl : l.length ≤ 8) {k : Nat} (hk : 20 ≤ k) : impl_surpriseOf.f k l s = some (least 10 (rk l) (mem s) l.length) := by
  unfold impl_surpriseOf.f
  exact surprise_loop hs hs' hl l.length k 0 (by omega) (by omega)
/-! #### FRevBy -/
theorem revisedBy_eq {t : Int} {l : List Int} {s : Int} (ht : 1 ≤ t ∧ t ≤ 3) (hl : l.length = 2 ^ t.toNat) (hs : 0 ≤ s) (hs' : s < 256) {k : Nat} (hk : 20 ≤ k) : impl_revisedBy.f k t l s = some (rev (2 ^ t.toNat) (rk l) s) := by
  have h8 := worlds_le ht
  unfold impl_revisedBy.f
  rw [surpriseOf_eq hs hs' (by omega) hk]
  simp only [Option.bind_some]
  rw [if_pos ⟨ht, hl, hs, hs'⟩, hl]
  rfl
/-! #### FRanks2 -/

/-- A row of ranks, for a number of things. -/
def RankP (t : Int) (l : List Int) : Prop := (1 ≤ t ∧ t ≤ 3) ∧ l.length = 2 ^ t.toNat ∧ (∀ w, w < l.length → 0 ≤ rk l w ∧ rk l w ≤ 9) ∧ ∃ w, w < l.length ∧ rk l w = 0
open Classical in
theorem isRank_eq (t : Int) (l : List Int) {k : Nat} (hk : 1 ≤ k) : impl_isRank.f k t l = some (decide (RankP t l)) := by
  obtain ⟨k, rfl⟩ : ∃ m, k = m + 1 := ⟨k - 1, by omega⟩
  unfold impl_isRank.f
  rw [areThings_eq]
  simp only [Option.bind_some]
  by_cases ht : 1 ≤ t ∧ t ≤ 3
  · rw [if_pos (by simp [ht]), if_pos (by omega), shl_things ht]
    simp only [impl_isRank.j0]
    by_cases hl : l.length = 2 ^ t.toNat
    · have hp : 0 < l.length := by have := worlds_ge ht; omega
      rw [if_neg (by rw [hl]; simp)]
      unfold slices_Min_int_int.f slices_Max_int_int.f
      rw [if_pos hp, if_pos hp]
      simp only [Option.bind_some]
      obtain ⟨u, hu, eu⟩ := minTo_at (rk l) l.length hp
      obtain ⟨v, hv, ev⟩ := maxTo_at (rk l) l.length hp
      show (if minTo (rk l) l.length = 0 then some (decide (maxTo (rk l) l.length ≤ 9)) else some false) = _
      by_cases h0 : minTo (rk l) l.length = 0
      · rw [if_pos h0]
        congr 1
        apply decide_eq_decide.mpr
        constructor
        · intro h9
          refine ⟨ht, hl, fun w hw => ?_, u, hu, by omega⟩
          have := minTo_le (rk l) l.length w hw
          have := le_maxTo (rk l) l.length w hw
          omega
        · intro h
          have := (h.2.2.1 v hv).2
          omega
      · rw [if_neg h0]
        congr 1
        symm
        apply decide_eq_false
        intro h
        obtain ⟨w, hw, e⟩ := h.2.2.2
        have := minTo_le (rk l) l.length w hw
        have := (h.2.2.1 u hu).1
        omega
    · rw [if_pos (by simp; exact_mod_cast hl)]
      congr 1
      symm
      apply decide_eq_false
      exact fun h => hl h.2.1
  · rw [if_neg (by simpa using ht)]
    simp only [impl_isRank.j0]
    rw [if_pos trivial]
    congr 1
    symm
    apply decide_eq_false
    exact fun h => ht h.1
/-! #### FRankOk -/

open Classical in
theorem rankOk_loop (t : Int) (l : List Int) (hl : l.length ≤ 17592186044416) : ∀ (d k j : Nat), j + d = l.length → d < k → (∀ w, w < j → 0 ≤ rk l w ∧ rk l w ≤ 9) →
    spec_RankOk.l0 k t l (least 9 (rk l) (fun _ => true) j) j = some (decide (RankP t l))
  | 0, k, j, hj, hk, hr => by
    obtain ⟨k, rfl⟩ : ∃ m, k = m + 1 := ⟨k - 1, by omega⟩
    obtain rfl : j = l.length := by omega
    simp only [spec_RankOk.l0]
    rw [if_neg (by omega), l1In_eq]
    simp only [Option.bind_some]
    by_cases ht : 1 ≤ t ∧ t ≤ 3
    · rw [if_pos (by simp [ht]), if_pos (by omega), shl_things ht]
      by_cases h2 : l.length = 2 ^ t.toNat
      · rw [if_pos (by rw [h2])]
        congr 1
        rw [Bool.eq_iff_iff, beq_iff_eq, decide_eq_true_eq]
        constructor
        · intro h0
          refine ⟨ht, h2, hr, ?_⟩
          obtain ⟨w, hw, _, e⟩ := least_lt_c (c := 9) (r := rk l) (p := fun _ => true) (n := l.length) (by omega)
          exact ⟨w, hw, by omega⟩
        · rintro ⟨_, _, _, w, hw, e⟩
          have h1 := least_le 9 (rk l) (fun _ => true) l.length w hw rfl
          have h3 := least_nonneg (c := 9) (r := rk l) (p := fun _ => true) (n := l.length) (by decide) (fun w hw => (hr w hw).1)
          omega
      · rw [if_neg (by omega)]
        congr 1
        symm
        exact decide_eq_false (fun h => h2 h.2.1)
    · rw [if_neg (by simpa using ht)]
      congr 1
      symm
      exact decide_eq_false (fun h => ht h.1)
  | d + 1, k, j, hj, hk, hr => by
    obtain ⟨k, rfl⟩ : ∃ m, k = m + 1 := ⟨k - 1, by omega⟩
    simp only [spec_RankOk.l0]
    rw [if_pos (by omega), if_pos (by omega), l1In_eq]
    simp only [Option.bind_some]
    by_cases h : 0 ≤ rd l (j : Int) ∧ rd l (j : Int) ≤ 9
    · have ih := rankOk_loop t l hl d k (j + 1) (by omega) (by omega) (fun w hw => by
        by_cases e : w = j
        · subst e; exact h
        · exact hr w (by omega))
      rw [if_pos (by simpa using h), mn_eq, w64s (by omega)]
      exact ih
    · rw [if_neg (by simpa using h)]
      congr 1
      symm
      exact decide_eq_false (fun hp => h (hp.2.2.1 j (by omega)))
open Classical in
theorem spec_RankOk_eq (t : Int) (l : List Int) (hl : l.length ≤ 17592186044416) {k : Nat} (hk : l.length + 1 ≤ k) : spec_RankOk.f k t l = some (decide (RankP t l)) := by
  unfold spec_RankOk.f
  exact rankOk_loop t l hl l.length k 0 (by omega) (by omega) (fun w hw => by omega)
theorem RankP.len {t : Int} {l : List Int} (h : RankP t l) : l.length ≤ 8 := by
  have := worlds_le h.1
  have := h.2.1
  omega
theorem RankP.lo {t : Int} {l : List Int} (h : RankP t l) {w : Nat} (hw : w < 2 ^ t.toNat) : 0 ≤ rk l w := (h.2.2.1 w (by have := h.2.1; omega)).1
theorem RankP.hi {t : Int} {l : List Int} (h : RankP t l) {w : Nat} (hw : w < 2 ^ t.toNat) : rk l w ≤ 9 := (h.2.2.1 w (by have := h.2.1; omega)).2
theorem RankP.zero {t : Int} {l : List Int} (h : RankP t l) : ∃ w, w < 2 ^ t.toNat ∧ rk l w = 0 := by
  obtain ⟨w, hw, e⟩ := h.2.2.2
  exact ⟨w, by have := h.2.1; omega, e⟩
/-! #### FTab -/
/-- The row of a function of worlds. -/
def tab (f : Nat → Int) (n : Nat) : List Int := (List.range n).map f
theorem tab_len (f : Nat → Int) (n : Nat) : (tab f n).length = n := by unfold tab; rw [List.length_map, List.length_range]
theorem tab_rk {f : Nat → Int} {n w : Nat} (hw : w < n) : rk (tab f n) w = f w := by
  rw [rk_eq]
  unfold tab
  rw [List.getD_eq_getElem?_getD, List.getElem?_map, List.getElem?_range hw]
  rfl
theorem tab_snoc (f : Nat → Int) (j : Nat) : tab f j ++ [f j] = tab f (j + 1) := by
  unfold tab
  rw [List.range_succ, List.map_append]; rfl
theorem rk_get {l : List Int} {i : Nat} (h : i < l.length) : rk l i = l[i] := by
  rw [rk_eq, List.getD_eq_getElem?_getD, List.getElem?_eq_getElem h]; rfl
theorem tab_eq {f : Nat → Int} {n : Nat} {l : List Int} (hl : l.length = n) (h : ∀ w, w < n → f w = rk l w) : tab f n = l := by
  apply List.ext_getElem (by rw [tab_len, hl])
  intro i h1 h2
  rw [tab_len] at h1
  rw [← rk_get, ← rk_get, tab_rk h1, h i h1]
theorem tab_congr {f g : Nat → Int} {n : Nat} (h : ∀ w, w < n → f w = g w) : tab f n = tab g n :=
  tab_eq (tab_len g n) (fun w hw => by rw [tab_rk hw, h w hw])
theorem maxTo_congr {f g : Nat → Int} {n : Nat} (hn : 0 < n) (h : ∀ w, w < n → f w = g w) : maxTo f n = maxTo g n := by
  obtain ⟨u, hu, eu⟩ := maxTo_at f n hn
  obtain ⟨v, hv, ev⟩ := maxTo_at g n hn
  have h1 := le_maxTo g n u hu
  have h2 := le_maxTo f n v hv
  have h3 := h u hu
  have h4 := h v hv
  omega
/-! #### GSort -/
/-- How many different numbers of a row are less than x (none of the row is negative). -/
def lo (l : List Int) (x : Int) : Nat := (List.range x.toNat).countP fun r : Nat => decide ((r : Int) ∈ l)
theorem len_le {α : Type} [DecidableEq α] : ∀ {s t : List α}, s.Nodup → (∀ x ∈ s, x ∈ t) → s.length ≤ t.length
  | [], _, _, _ => Nat.zero_le _
  | a :: s, t, nd, h => by
    have ha := h a (List.mem_cons_self ..)
    rw [List.nodup_cons] at nd
    have := len_le (s := s) (t := t.erase a) nd.2 (fun x hx => (List.mem_erase_of_ne (fun e => by subst e; exact nd.1 hx)).2 (h x (List.mem_cons_of_mem _ hx)))
    have h2 := List.length_erase_of_mem ha
    have h3 := List.length_pos_of_mem ha
    simp only [List.length_cons]
    omega
theorem lo_is {l s : List Int} {x : Int} (h0 : ∀ v ∈ l, 0 ≤ v) (nd : s.Nodup) (h : ∀ v, v ∈ s ↔ v ∈ l ∧ v < x) : s.length = lo l x := by
  have e : lo l x = (((List.range x.toNat).filter fun r : Nat => decide ((r : Int) ∈ l)).map fun r : Nat => (r : Int)).length := by
    unfold lo
    rw [List.length_map, List.countP_eq_length_filter]
  rw [e]
  apply Nat.le_antisymm
  · refine len_le nd fun v hv => ?_
    obtain ⟨h1, h2⟩ := (h v).1 hv
    have := h0 v h1
    exact List.mem_map.2 ⟨v.toNat, List.mem_filter.2 ⟨List.mem_range.2 (by omega), by rw [decide_eq_true_eq, Int.toNat_of_nonneg this]; exact h1⟩, Int.toNat_of_nonneg this⟩
  · refine len_le ?_ fun v hv => ?_
    · refine List.Pairwise.map _ ?_ (List.Pairwise.filter _ List.nodup_range)
      intro a b hab hc
      exact hab (by exact_mod_cast hc)
    · obtain ⟨r, hr, rfl⟩ := List.mem_map.1 hv
      obtain ⟨h1, h2⟩ := List.mem_filter.1 hr
      rw [List.mem_range] at h1
      rw [decide_eq_true_eq] at h2
      exact (h _).2 ⟨h2, by omega⟩
theorem lo_congr {l m : List Int} (h : ∀ v, v ∈ l ↔ v ∈ m) (x : Int) : lo l x = lo m x := by
  unfold lo
  congr 1
  funext r
  exact decide_eq_decide.2 (h _)
/-- In order, up to n. -/
def SortedTo (x : List Int) (n : Nat) : Prop := ∀ p q, p < q → q < n → rk x p ≤ rk x q
theorem rk_set {x : List Int} {p m : Nat} {v : Int} (hp : p < x.length) : rk (x.set p v) m = if m = p then v else rk x m := by
  rw [rk_eq, List.getD_eq_getElem?_getD, List.getElem?_set]
  by_cases e : m = p
  · subst e
    rw [if_pos rfl, if_pos hp, if_pos rfl]
    rfl
  · rw [if_neg (fun h => e h.symm), if_neg e, rk_eq, List.getD_eq_getElem?_getD]
theorem mem_rk {x : List Int} {v : Int} : v ∈ x ↔ ∃ p, p < x.length ∧ rk x p = v := by
  constructor
  · intro h
    obtain ⟨p, hp, e⟩ := List.mem_iff_getElem.1 h
    exact ⟨p, hp, by rw [rk_get hp]; exact e⟩
  · rintro ⟨p, hp, rfl⟩
    rw [rk_get hp]
    exact List.getElem_mem hp
theorem swap_rk {x : List Int} {p q : Nat} (hp : p < x.length) (hq : q < x.length) (m : Nat) : rk ((x.set p (rk x q)).set q (rk x p)) m = if m = q then rk x p else if m = p then rk x q else rk x m := by
  rw [rk_set (by rw [List.length_set]; exact hq), rk_set hp]
theorem swap_mem {x : List Int} {p q : Nat} (hp : p < x.length) (hq : q < x.length) (v : Int) : v ∈ (x.set p (rk x q)).set q (rk x p) ↔ v ∈ x := by
  rw [mem_rk, mem_rk]
  simp only [List.length_set]
  constructor
  · rintro ⟨m, hm, e⟩
    rw [swap_rk hp hq] at e
    by_cases h1 : m = q
    · rw [if_pos h1] at e; exact ⟨p, hp, e⟩
    · rw [if_neg h1] at e
      by_cases h2 : m = p
      · rw [if_pos h2] at e; exact ⟨q, hq, e⟩
      · rw [if_neg h2] at e; exact ⟨m, hm, e⟩
  · rintro ⟨m, hm, e⟩
    by_cases h1 : m = q
    · refine ⟨p, hp, ?_⟩
      rw [swap_rk hp hq]
      by_cases h2 : p = q
      · rw [if_pos h2, h2, ← h1]; exact e
      · rw [if_neg h2, if_pos rfl, ← h1]; exact e
    · by_cases h2 : m = p
      · refine ⟨q, hq, ?_⟩
        rw [swap_rk hp hq, if_pos rfl, ← h2]; exact e
      · exact ⟨m, hm, by rw [swap_rk hp hq, if_neg h1, if_neg h2]; exact e⟩
/-- A sorted row without repetition: in strict order, the same numbers. -/
theorem compact_keeps {l : List Int} {j : Nat} (hj : j < l.length) : Lib.keeps l.toArray j = true ↔ j = 0 ∨ rk l j ≠ rk l (j - 1) := by
  have e1 : (l.toArray)[j]! = rk l j := by rw [rk_get hj, getElem!_pos _ _ (by simpa using hj)]; simp
  have e2 : (l.toArray)[j - 1]! = rk l (j - 1) := by rw [rk_get (by omega), getElem!_pos _ _ (by simp; omega)]; simp
  unfold Lib.keeps
  rw [e1, e2]
  simp
theorem compact_mem {l : List Int} (v : Int) : v ∈ Lib.compact l ↔ v ∈ l := by
  have main : ∀ p, p < l.length → rk l p ∈ Lib.compact l := by
    intro p
    induction p with
    | zero =>
      intro hp
      refine List.mem_map.2 ⟨0, List.mem_filter.2 ⟨List.mem_range.2 hp, (compact_keeps hp).2 (.inl rfl)⟩, ?_⟩
      rw [rk_get hp, getElem!_pos _ _ (by simpa using hp)]
      simp
    | succ p ih =>
      intro hp
      by_cases e : rk l (p + 1) = rk l p
      · rw [e]; exact ih (by omega)
      · refine List.mem_map.2 ⟨p + 1, List.mem_filter.2 ⟨List.mem_range.2 hp, (compact_keeps hp).2 (.inr (by simpa using e))⟩, ?_⟩
        rw [rk_get hp, getElem!_pos _ _ (by simpa using hp)]
        simp
  constructor
  · intro h
    obtain ⟨j, hj, e⟩ := List.mem_map.1 h
    have hj := List.mem_range.1 (List.mem_filter.1 hj).1
    rw [getElem!_pos _ _ (by simpa using hj)] at e
    rw [← e]
    simp
  · intro h
    obtain ⟨p, hp, rfl⟩ := mem_rk.1 h
    exact main p hp
theorem compact_strict {l : List Int} (h : SortedTo l l.length) : (Lib.compact l).Pairwise (· < ·) := by
  unfold Lib.compact Lib.compactUpTo
  rw [List.pairwise_map]
  have hr : (List.range l.length).Pairwise (· < ·) := List.pairwise_lt_range
  refine List.Pairwise.imp_of_mem ?_ (List.Pairwise.filter _ hr)
  intro a b ha hb hab
  have hbl := List.mem_range.1 (List.mem_filter.1 hb).1
  have hal := List.mem_range.1 (List.mem_filter.1 ha).1
  have hk := (compact_keeps hbl).1 (List.mem_filter.1 hb).2
  have e1 : (l.toArray)[a]! = rk l a := by rw [rk_get hal, getElem!_pos _ _ (by simpa using hal)]; simp
  have e2 : (l.toArray)[b]! = rk l b := by rw [rk_get hbl, getElem!_pos _ _ (by simpa using hbl)]; simp
  rw [e1, e2]
  have hne : rk l b ≠ rk l (b - 1) := by
    rcases hk with h0 | h0
    · omega
    · exact h0
  have h1 := h (b - 1) b (by omega) hbl
  have h2 : rk l a ≤ rk l (b - 1) := by
    by_cases e : a = b - 1
    · rw [e]; exact Int.le_refl _
    · exact h a (b - 1) (by omega) (by omega)
  omega
/-- The place of a number in a row in strict order: how many are less. -/
theorem place_lo {l c : List Int} (h0 : ∀ v ∈ l, 0 ≤ v) (hs : c.Pairwise (· < ·)) (hm : ∀ v, v ∈ c ↔ v ∈ l) {i : Nat} (hi : i < c.length) : i = lo l (rk c i) := by
  have key : (c.take i).length = lo l (rk c i) := by
    have hp := List.pairwise_iff_getElem.1 hs
    refine lo_is h0 ?_ ?_
    · exact (List.Pairwise.sublist (List.take_sublist i c) hs).imp (fun h => by omega)
    · intro v
      constructor
      · intro hv
        obtain ⟨p, hpl, e⟩ := List.mem_iff_getElem.1 hv
        rw [List.length_take] at hpl
        rw [List.getElem_take] at e
        refine ⟨(hm v).1 (e ▸ List.getElem_mem _), ?_⟩
        rw [rk_get hi, ← e]
        exact hp p i (by omega) hi (by omega)
      · rintro ⟨hv, hlt⟩
        obtain ⟨p, hpl, e⟩ := List.mem_iff_getElem.1 ((hm v).2 hv)
        have hpi : p < i := by
          refine Classical.byContradiction fun hn => ?_
          rw [rk_get hi, ← e] at hlt
          by_cases h2 : p = i
          · subst h2; omega
          · have := hp i p hi hpl (by omega)
            omega
        exact List.mem_iff_getElem.2 ⟨p, by rw [List.length_take]; omega, by rw [List.getElem_take]; exact e⟩
  rw [← key, List.length_take]
  omega
/-! #### GIns -/
theorem less_eq (a b : Int) : cmp_Less_int.f a b = some (decide (a < b)) := by
  unfold cmp_Less_int.f cmp_isNaN_int.f
  simp
/-- In order up to i, but for what lies ahead of place j. -/
def InsP (x : List Int) (i j : Nat) : Prop := (∀ p q, p < q → q ≤ i → p ≠ j → q ≠ j → rk x p ≤ rk x q) ∧ ∀ q, j < q → q ≤ i → rk x j ≤ rk x q
theorem ins_loop1 {l : List Int} {n i : Nat} (hn : n ≤ 12) (hi : i < n) {K : Nat}
    (next : ∀ (k : Nat) (y : List Int), K ≤ k → y.length = n → (∀ v, v ∈ y ↔ v ∈ l) → SortedTo y (i + 1) → ∃ r, slices_insertionSortOrdered_int.l0 k y 0 n (wrap64 ((i : Int) + 1)) = some r ∧ r.length = n ∧ (∀ v, v ∈ r ↔ v ∈ l) ∧ SortedTo r n) :
    ∀ (j k : Nat) (x : List Int), j ≤ i → K + j + 1 ≤ k → x.length = n → (∀ v, v ∈ x ↔ v ∈ l) → InsP x i j →
      ∃ r, slices_insertionSortOrdered_int.l1 k x 0 n i j = some r ∧ r.length = n ∧ (∀ v, v ∈ r ↔ v ∈ l) ∧ SortedTo r n
  | 0, k, x, hj, hk, hx, hm, hp => by
    obtain ⟨k, rfl⟩ : ∃ m, k = m + 1 := ⟨k - 1, by omega⟩
    simp only [slices_insertionSortOrdered_int.l1]
    rw [if_neg (by omega)]
    refine next k x (by omega) hx hm fun p q hpq hq => ?_
    by_cases e : p = 0
    · subst e
      exact hp.2 q hpq (by omega)
    · exact hp.1 p q hpq (by omega) e (by omega)
  | j + 1, k, x, hj, hk, hx, hm, hp => by
    obtain ⟨k, rfl⟩ : ∃ m, k = m + 1 := ⟨k - 1, by omega⟩
    have hw : wrap64 (((j + 1 : Nat) : Int) - 1) = (j : Int) := by rw [w64 (by omega) (by omega)]; omega
    simp only [slices_insertionSortOrdered_int.l1]
    rw [hw, if_pos (by omega), if_pos (by omega), if_pos (by omega), if_pos (by omega), if_pos (by omega), less_eq]
    simp only [Option.bind_some]
    by_cases hlt : rd x ((j + 1 : Nat) : Int) < rd x (j : Int)
    · rw [if_pos (by exact decide_eq_true hlt), Int.toNat_natCast, Int.toNat_natCast]
      have hlt : rk x (j + 1) < rk x j := hlt
      have hjx : j + 1 < x.length := by omega
      have hjx0 : j < x.length := by omega
      refine ins_loop1 hn hi next j k _ (by omega) (by omega) (by rw [List.length_set, List.length_set, hx]) (fun v => (swap_mem hjx hjx0 v).trans (hm v)) ⟨fun p q hpq hq h1 h2 => ?_, fun q hjq hq => ?_⟩
      · show rk ((x.set (j + 1) (rk x j)).set j (rk x (j + 1))) p ≤ rk ((x.set (j + 1) (rk x j)).set j (rk x (j + 1))) q
        rw [swap_rk hjx hjx0, swap_rk hjx hjx0, if_neg h1, if_neg h2]
        by_cases e1 : p = j + 1
        · rw [if_pos e1, if_neg (by omega)]
          exact hp.1 j q (by omega) hq (by omega) (by omega)
        · rw [if_neg e1]
          by_cases e2 : q = j + 1
          · rw [if_pos e2]
            exact hp.1 p j (by omega) (by omega) (by omega) (by omega)
          · rw [if_neg e2]
            exact hp.1 p q hpq hq e1 e2
      · show rk ((x.set (j + 1) (rk x j)).set j (rk x (j + 1))) j ≤ rk ((x.set (j + 1) (rk x j)).set j (rk x (j + 1))) q
        rw [swap_rk hjx hjx0, swap_rk hjx hjx0, if_pos rfl, if_neg (by omega)]
        by_cases e1 : q = j + 1
        · rw [if_pos e1]; omega
        · rw [if_neg e1]
          exact hp.2 q (by omega) hq
    · rw [if_neg (by intro h; exact hlt (of_decide_eq_true h))]
      have hlt : rk x j ≤ rk x (j + 1) := Int.not_lt.1 hlt
      refine next k x (by omega) hx hm fun p q hpq hq => ?_
      by_cases e : p = j + 1
      · subst e
        exact hp.2 q hpq (by omega)
      · by_cases e2 : q = j + 1
        · subst e2
          refine Int.le_trans ?_ hlt
          by_cases e3 : p = j
          · rw [e3]; exact Int.le_refl _
          · exact hp.1 p j (by omega) (by omega) (by omega) (by omega)
        · exact hp.1 p q hpq (by omega) e e2
theorem ins_loop0 {l : List Int} {n : Nat} (hn : n ≤ 12) : ∀ (d k i : Nat) (x : List Int), i + d = n → d * 20 + 1 ≤ k → x.length = n → (∀ v, v ∈ x ↔ v ∈ l) → SortedTo x i →
    ∃ r, slices_insertionSortOrdered_int.l0 k x 0 n i = some r ∧ r.length = n ∧ (∀ v, v ∈ r ↔ v ∈ l) ∧ SortedTo r n
  | 0, k, i, x, hi, hk, hx, hm, hs => by
    obtain ⟨k, rfl⟩ : ∃ m, k = m + 1 := ⟨k - 1, by omega⟩
    simp only [slices_insertionSortOrdered_int.l0]
    rw [if_neg (by omega)]
    have : i = n := by omega
    subst this
    exact ⟨x, rfl, hx, hm, hs⟩
  | d + 1, k, i, x, hi, hk, hx, hm, hs => by
    obtain ⟨k, rfl⟩ : ∃ m, k = m + 1 := ⟨k - 1, by omega⟩
    simp only [slices_insertionSortOrdered_int.l0]
    rw [if_pos (by omega)]
    refine ins_loop1 hn (i := i) (by omega) (K := d * 20 + 1) (fun k y hk hy hm2 hs2 => ?_) i k x (Nat.le_refl _) (by omega) hx hm ⟨fun p q hpq hq h1 h2 => hs p q hpq (by omega), fun q h1 h2 => by omega⟩
    rw [w64s (by omega)]
    exact ins_loop0 hn d k (i + 1) y (by omega) hk hy hm2 hs2
theorem sort_ok {l : List Int} (hl : l.length ≤ 12) {k : Nat} (hk : 300 ≤ k) : ∃ r, slices_Sort_int_int.f k l = some r ∧ r.length = l.length ∧ (∀ v, v ∈ r ↔ v ∈ l) ∧ SortedTo r l.length := by
  unfold slices_Sort_int_int.f bits_Len.f
  have hu : IntKind.u64.wrap (l.length : Int) = (l.length : Int) := by
    unfold IntKind.wrap
    simp [IntKind.bits]
    omega
  rw [hu, if_pos (by omega)]
  simp only [Option.bind_some]
  unfold slices_pdqsortOrdered_int.f slices_insertionSortOrdered_int.f
  rw [if_pos (by omega)]
  have key : ∃ r, slices_insertionSortOrdered_int.l0 k l 0 (l.length : Int) (wrap64 (0 + 1)) = some r ∧ r.length = l.length ∧ (∀ v, v ∈ r ↔ v ∈ l) ∧ SortedTo r l.length := by
    have e1 : wrap64 (0 + 1) = ((1 : Nat) : Int) := by rw [w64 (by omega) (by omega)]; rfl
    rw [e1]
    by_cases h0 : l.length = 0
    · obtain ⟨k, rfl⟩ : ∃ m, k = m + 1 := ⟨k - 1, by omega⟩
      simp only [slices_insertionSortOrdered_int.l0]
      rw [if_neg (by omega)]
      exact ⟨l, rfl, rfl, fun v => Iff.rfl, fun p q _ hq => by omega⟩
    · exact ins_loop0 hl (l.length - 1) k 1 l (by omega) (by omega) rfl (fun v => Iff.rfl) (fun p q hpq hq => by omega)
  obtain ⟨r, e, h⟩ := key
  rw [e]
  exact ⟨r, rfl, h⟩
theorem index_loop {c : List Int} {v : Int} (hc : c.length ≤ 12) {p : Nat} (hp : p < c.length) (hpv : rk c p = v) : ∀ (d k j : Nat), j + d = p → d + 1 ≤ k → ∃ i : Nat, slices_Index_int_int.l0 k c v c.length j = some (i : Int) ∧ i < c.length ∧ rk c i = v
  | 0, k, j, hj, hk => by
    obtain ⟨k, rfl⟩ : ∃ m, k = m + 1 := ⟨k - 1, by omega⟩
    simp only [slices_Index_int_int.l0]
    have : j = p := by omega
    subst this
    rw [if_pos (by omega), if_pos (by omega), if_pos (by omega), if_pos (by exact hpv.symm)]
    exact ⟨j, rfl, hp, hpv⟩
  | d + 1, k, j, hj, hk => by
    obtain ⟨k, rfl⟩ : ∃ m, k = m + 1 := ⟨k - 1, by omega⟩
    simp only [slices_Index_int_int.l0]
    rw [if_pos (by omega), if_pos (by omega), if_pos (by omega)]
    by_cases e : v = rd c (j : Int)
    · rw [if_pos e]
      exact ⟨j, rfl, by omega, e.symm⟩
    · rw [if_neg e, w64s (by omega)]
      exact index_loop hc hp hpv d k (j + 1) (by omega) (by omega)
theorem index_eq {l c : List Int} (h0 : ∀ v ∈ l, 0 ≤ v) (hs : c.Pairwise (· < ·)) (hm : ∀ v, v ∈ c ↔ v ∈ l) (hc : c.length ≤ 12) {v : Int} (hv : v ∈ l) {k : Nat} (hk : 13 ≤ k) : slices_Index_int_int.f k c v = some (lo l v : Int) := by
  obtain ⟨p, hp, e⟩ := mem_rk.1 ((hm v).2 hv)
  unfold slices_Index_int_int.f
  obtain ⟨i, e2, hi, e3⟩ := index_loop hc hp e p k 0 (by omega) (by omega)
  rw [show ((0 : Nat) : Int) = 0 from rfl] at e2
  rw [e2, ← e3, ← place_lo h0 hs hm hi]
/-- Ranks without any left out. -/
def tidyL (l : List Int) : List Int := tab (fun w => (lo l (rk l w) : Int)) l.length
theorem tidy_loop {l c : List Int} (h0 : ∀ v ∈ l, 0 ≤ v) (hs : c.Pairwise (· < ·)) (hm : ∀ v, v ∈ c ↔ v ∈ l) (hc : c.length ≤ 12) (hl : l.length ≤ 12) : ∀ (d k j : Nat), j + d = l.length → d + 13 < k →
    impl_tidy.l0 k c (tab (fun w => (lo l (rk l w) : Int)) j) l l.length j = some (tidyL l)
  | 0, k, j, hj, hk => by
    obtain ⟨k, rfl⟩ : ∃ m, k = m + 1 := ⟨k - 1, by omega⟩
    simp only [impl_tidy.l0]
    have : j = l.length := by omega
    subst this
    rw [if_neg (by omega)]
    rfl
  | d + 1, k, j, hj, hk => by
    obtain ⟨k, rfl⟩ : ∃ m, k = m + 1 := ⟨k - 1, by omega⟩
    simp only [impl_tidy.l0]
    rw [if_pos (by omega), if_pos (by omega), if_pos (by omega), index_eq h0 hs hm hc (v := rd l j) (mem_rk.2 ⟨j, by omega, rfl⟩) (by omega)]
    simp only [Option.bind_some]
    rw [if_pos (by rw [tab_len]; omega), w64s (by omega), show rd l (j : Int) = rk l j from rfl, tab_snoc (fun w => (lo l (rk l w) : Int)) j]
    exact tidy_loop h0 hs hm hc hl d k (j + 1) (by omega) (by omega)
theorem tidy_eq {l : List Int} (h0 : ∀ v ∈ l, 0 ≤ v) (hl : l.length ≤ 12) {k : Nat} (hk : 300 ≤ k) : impl_tidy.f k l = some (tidyL l) := by
  unfold impl_tidy.f
  simp only [Option.bind_some, List.length_nil, List.nil_append]
  rw [if_pos (by omega)]
  obtain ⟨r, e, hr, hm, hs⟩ := sort_ok hl hk
  rw [e]
  simp only [Option.bind_some]
  unfold slices_Compact_int_int.f
  simp only [Option.bind_some]
  have hcl : (Lib.compact r).length ≤ r.length := by
    unfold Lib.compact Lib.compactUpTo
    rw [List.length_map]
    refine Nat.le_trans (List.length_filter_le _ _) ?_
    rw [List.length_range]
    exact Nat.le_refl _
  exact tidy_loop h0 (compact_strict (by rw [hr]; exact hs)) (fun v => (compact_mem v).trans (hm v)) (by omega) hl l.length k 0 (by omega) (by omega)
end Go.Proofs.Ytfleephpcomimaa.LS

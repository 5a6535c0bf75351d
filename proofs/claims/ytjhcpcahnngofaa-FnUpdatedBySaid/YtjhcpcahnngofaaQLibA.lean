/- Plain facts about what the printed functions answer (several pieces in one text). Conditions: those of each theorem. -/
import Derived.Test.YtjhcpcahnngofaaQ1
import Derived.Test.YtjhcpcahnngofaaQ2
import Derived.Test.YtjhcpcahnngofaaQ3
import Derived.Test.YtjhcpcahnngofaaQ4
import Derived.Test.YtjhcpcahnngofaaQ5
import Derived.Test.YtjhcpcahnngofaaQ6
import Derived.Test.YtjhcpcahnngofaaQ7
import Derived.Test.YtjhcpcahnngofaaSets
set_option linter.unusedVariables false
set_option linter.unusedSimpArgs false
namespace Go.Proofs.Ytjhcpcahnngofaa.LQ
open Go.RowKit Go.Proofs.YtjhcpcahnngofaaW.PrintWords Go.Proofs.YtjhcpcahnngofaaW.PrintLast Go.Proofs.YtjhcpcahnngofaaW.PrintMore Go.Proofs.BelM Go.Proofs.Ytjhcpcahnngofaa.Q
/-! #### FBase -/

theorem w64 {x : Int} (h0 : -9223372036854775808 ≤ x) (h1 : x ≤ 9223372036854775807) : wrap64 x = x := by unfold wrap64; omega
theorem w64s {j : Nat} (h : j ≤ 281474976710656) : wrap64 ((j : Int) + 1) = ((j + 1 : Nat) : Int) := by rw [w64 (by omega) (by omega)]; omega
theorem wfb {a : Int} (h : (Lit.int .i64 a).wf = true) : -9223372036854775808 ≤ a ∧ a ≤ 9223372036854775807 := by
  have h2 : (decide (IntKind.min .i64 ≤ a) && decide (a ≤ IntKind.max .i64)) = true := h
  rw [Bool.and_eq_true, decide_eq_true_eq, decide_eq_true_eq] at h2
  exact h2
theorem wfu8 {a : Int} (h : (Lit.int .u8 a).wf = true) : 0 ≤ a ∧ a ≤ 255 := by
  have h2 : (decide (IntKind.min .u8 ≤ a) && decide (a ≤ IntKind.max .u8)) = true := h
  rw [Bool.and_eq_true, decide_eq_true_eq, decide_eq_true_eq] at h2
  exact h2
theorem mn_eq (a b : Int) : mn a b = min a b := by unfold mn; split <;> omega
theorem mx_eq (a b : Int) : mx a b = max a b := by unfold mx; split <;> omega
theorem pow_nat (j : Nat) : (2 : Int) ^ j = ((2 ^ j : Nat) : Int) := by simp
theorem pow_le128 {j : Nat} (hj : j < 8) : (2 : Int) ^ j ≤ 128 := by
  have : 2 ^ j ≤ 2 ^ 7 := Nat.pow_le_pow_right (by decide) (by omega)
  rw [pow_nat]; omega
theorem shl_small1 {j : Nat} (hj : j < 8) : shl .i64 1 j = 2 ^ j := by
  have h := pow_le128 hj
  have h0 := pow_pos j
  unfold shl
  rw [Int.toNat_natCast, Nat.min_eq_left (by show j ≤ 64; omega), Int.one_mul, IntKind.wrap_i64]
  omega
theorem shl_zero (j : Int) : shl .i64 0 j = 0 := by
  unfold shl
  rw [Int.zero_mul, IntKind.wrap_i64]; rfl
theorem toNat_le3 {t : Int} (ht : 1 ≤ t ∧ t ≤ 3) : 1 ≤ t.toNat ∧ t.toNat ≤ 3 := by omega
theorem worlds_le {t : Int} (ht : 1 ≤ t ∧ t ≤ 3) : 2 ^ t.toNat ≤ 8 := by
  have : 2 ^ t.toNat ≤ 2 ^ 3 := Nat.pow_le_pow_right (by decide) (by omega)
  omega
theorem worlds_ge {t : Int} (ht : 1 ≤ t ∧ t ≤ 3) : 2 ≤ 2 ^ t.toNat := by
  have : 2 ^ 1 ≤ 2 ^ t.toNat := Nat.pow_le_pow_right (by decide) (by omega)
  omega
theorem shl_things {t : Int} (ht : 1 ≤ t ∧ t ≤ 3) : shl .i64 1 t = ((2 ^ t.toNat : Nat) : Int) := by
  have h := shl_small1 (j := t.toNat) (by omega)
  rw [show ((t.toNat : Nat) : Int) = t by omega] at h
  rw [h, pow_nat]
theorem shr_nat {s : Int} {w : Nat} (hs : 0 ≤ s) (hw : w ≤ 64) : shr .i64 s w = s / 2 ^ w := by
  unfold shr
  rw [Int.toNat_natCast, Nat.min_eq_left (by show w ≤ 64; exact hw)]
theorem shr_val {s : Int} {w : Nat} (hs : 0 ≤ s) (hw : w ≤ 64) : shr .i64 s w = ((s.toNat / 2 ^ w : Nat) : Int) := by
  rw [shr_nat hs hw]
  have : s = (s.toNat : Int) := by omega
  rw [this, Int.toNat_natCast]; simp
theorem tmod_bit {s : Int} {w : Nat} (hs : 0 ≤ s) (hw : w ≤ 64) : Int.tmod (shr .i64 s w) 2 = if mem s w = true then 1 else 0 := by
  rw [shr_val hs hw]
  unfold mem
  rw [Nat.testBit_eq_decide_div_mod_eq]
  generalize s.toNat / 2 ^ w = m
  rw [Int.tmod_eq_emod_of_nonneg (Int.natCast_nonneg m)]
  by_cases h : m % 2 = 1
  · rw [if_pos (by simp [h])]; omega
  · rw [if_neg (by simp [h])]; omega
theorem and_bit {s : Int} {w : Nat} (hs : 0 ≤ s) (hs' : s < 256) (hw : w ≤ 64) : bits .and .i64 (shr .i64 s w) 1 = if mem s w = true then 1 else 0 := by
  rw [shr_nat hs hw]; exact and1 hs hs'

theorem l1In_eq (a b c : Int) : spec_l1In.f a b c = some (decide (b ≤ a ∧ a ≤ c)) := by
  unfold spec_l1In.f
  by_cases h : a ≥ b
  · rw [if_pos h]
    have h' : b ≤ a := h
    simp [h']
  · rw [if_neg h]
    have h' : ¬ b ≤ a := h
    simp [h']

/-- A set of worlds, for a number of things. -/
def SetP (t s : Int) : Prop := (1 ≤ t ∧ t ≤ 3) ∧ 0 ≤ s ∧ s < 2 ^ 2 ^ t.toNat
instance (t s : Int) : Decidable (SetP t s) := by unfold SetP; infer_instance
theorem SetP.lt8 {t s : Int} (h : SetP t s) : s < 2 ^ 8 := lt8of (worlds_le h.1) h.2.2
theorem SetP.lt256 {t s : Int} (h : SetP t s) : s < 256 := by
  have := h.lt8
  have : (2 : Int) ^ 8 = 256 := by decide
  omega
theorem SetP.mk {t : Int} (ht : 1 ≤ t ∧ t ≤ 3) (p : Nat → Bool) : SetP t (mk p (2 ^ t.toNat)) := ⟨ht, mk_nonneg _ _, mk_lt _ _⟩
theorem SetP.mem_lt {t s : Int} (h : SetP t s) {w : Nat} (hm : mem s w = true) : w < 2 ^ t.toNat := Go.Proofs.BelM.mem_lt h.2.1 h.2.2 hm

theorem all_spec {t : Int} (ht : 1 ≤ t ∧ t ≤ 3) : spec_l1All.f t = some (2 ^ 2 ^ t.toNat - 1) := by unfold spec_l1All.f; rw [if_pos ht]
theorem all_le {t : Int} (ht : 1 ≤ t ∧ t ≤ 3) : (2 : Int) ^ 2 ^ t.toNat ≤ 256 := le_pow8 (worlds_le ht)
theorem all_ge {t : Int} (ht : 1 ≤ t ∧ t ≤ 3) : (4 : Int) ≤ 2 ^ 2 ^ t.toNat := by
  have : 2 ^ 2 ≤ 2 ^ 2 ^ t.toNat := Nat.pow_le_pow_right (by decide) (worlds_ge ht)
  rw [pow_nat]; omega
theorem SetOk_eq (t s : Int) : spec_SetOk.f t s = some (decide (SetP t s)) := by
  unfold spec_SetOk.f
  rw [l1In_eq]
  simp only [Option.bind_some]
  by_cases ht : 1 ≤ t ∧ t ≤ 3
  · rw [if_pos (by simp [ht]), all_spec ht]
    simp only [Option.bind_some]
    rw [l1In_eq]
    simp only [Option.bind_some]
    congr 1
    apply decide_eq_decide.mpr
    unfold SetP
    generalize (2 : Int) ^ 2 ^ t.toNat = M
    omega
  · rw [if_neg (by simpa using ht)]
    congr 1
    symm
    apply decide_eq_false
    unfold SetP
    exact fun h => ht h.1

theorem l1Bit_eq {s : Int} {w : Nat} (hs : 0 ≤ s) (hw : w ≤ 64) : spec_l1Bit.f s w = some (if mem s w = true then 1 else 0) := by
  unfold spec_l1Bit.f
  rw [if_pos (by omega), tmod_bit hs hw]
/-- One more world of a sum. -/
theorem add_bit {p : Nat → Bool} {j : Nat} (hj : j < 8) (hp : p j = true) : wrap64 (mk p j + shl .i64 1 j) = mk p (j + 1) := by
  have h1 := mk_lt p j
  have h2 := mk_nonneg p j
  have h3 := pow_le128 hj
  rw [shl_small1 hj, mk_succ, if_pos hp, w64 (by omega) (by omega)]
theorem skip_bit {p : Nat → Bool} {j : Nat} (hp : p j = false) : mk p j = mk p (j + 1) := mk_skip hp
theorem step2 {a b : Int} {j : Nat} (hj : j < 8) : wrap64 (mk (fun w => mem a w && mem b w) j + shl .i64 (wrap64 ((if mem a j = true then 1 else 0) * (if mem b j = true then 1 else 0))) j) = mk (fun w => mem a w && mem b w) (j + 1) := by
  by_cases h : mem a j = true ∧ mem b j = true
  · rw [if_pos h.1, if_pos h.2, show wrap64 (1 * 1) = 1 by decide +kernel]
    exact add_bit hj (by simp [h.1, h.2])
  · have e : (if mem a j = true then (1 : Int) else 0) * (if mem b j = true then 1 else 0) = 0 := by
      by_cases ha : mem a j = true
      · rw [if_neg (fun hb => h ⟨ha, hb⟩), Int.mul_zero]
      · rw [if_neg ha, Int.zero_mul]
    have h2 := mk_nonneg (fun w => mem a w && mem b w) j
    have h1 := mk_lt (fun w => mem a w && mem b w) j
    have h3 := pow_le128 hj
    rw [e, show wrap64 0 = 0 by decide +kernel, shl_zero, Int.add_zero, w64 (by omega) (by omega)]
    exact skip_bit (by
      cases ha : mem a j
      · rfl
      · cases hb : mem b j
        · rfl
        · exact absurd ⟨ha, hb⟩ h)
theorem l1Both_loop {a b : Int} (ha : 0 ≤ a) (hb : 0 ≤ b) : ∀ (d k j : Nat), j + d = 8 → d < k → spec_l1Both.l0 k a b (mk (fun w => mem a w && mem b w) j) j = some (andS a b)
  | 0, k, j, hj, hk => by
    obtain ⟨k, rfl⟩ : ∃ m, k = m + 1 := ⟨k - 1, by omega⟩
    obtain rfl : j = 8 := by omega
    simp only [spec_l1Both.l0]
    rw [if_neg (by decide)]
    rfl
  | d + 1, k, j, hj, hk => by
    obtain ⟨k, rfl⟩ : ∃ m, k = m + 1 := ⟨k - 1, by omega⟩
    have ih := l1Both_loop ha hb d k (j + 1) (by omega) (by omega)
    simp only [spec_l1Both.l0]
    rw [if_pos (by omega), l1Bit_eq ha (by omega), l1Bit_eq hb (by omega)]
    simp only [Option.bind_some]
    rw [if_pos (by omega), w64s (by omega), step2 (by omega)]
    exact ih
theorem l1Both_eq {a b : Int} (ha : 0 ≤ a) (hb : 0 ≤ b) {k : Nat} (hk : 9 ≤ k) : spec_l1Both.f k a b = some (andS a b) := by
  unfold spec_l1Both.f
  exact l1Both_loop ha hb 8 k 0 (by omega) (by omega)
theorem l1Either_eq {a b : Int} (ha : 0 ≤ a) (ha' : a < 2 ^ 8) (hb : 0 ≤ b) (hb' : b < 2 ^ 8) {k : Nat} (hk : 9 ≤ k) : spec_l1Either.f k a b = some (orS a b) := by
  unfold spec_l1Either.f
  rw [l1Both_eq ha hb hk]
  simp only [Option.bind_some]
  have h1 := andS_nonneg a b
  have h2 := andS_lt8 a b
  have h3 : (2 : Int) ^ 8 = 256 := by decide
  rw [w64 (x := a + b) (by omega) (by omega), w64 (by omega) (by omega), add_sub_and ha ha' hb hb']
/-! #### FSets -/

theorem areThings_eq (t : Int) : impl_areThings.f t = some (decide (1 ≤ t ∧ t ≤ 3)) := by
  unfold impl_areThings.f
  by_cases h : t ≥ 1
  · rw [if_pos h]
    have h' : 1 ≤ t := h
    simp [h']
  · rw [if_neg h]
    have h' : ¬ 1 ≤ t := h
    simp [h']
theorem isSet_eq (t s : Int) : impl_isSet.f t s = some (decide (SetP t s)) := by
  unfold impl_isSet.f
  rw [areThings_eq]
  simp only [Option.bind_some]
  by_cases ht : 1 ≤ t ∧ t ≤ 3
  · rw [if_pos (by simp [ht])]
    by_cases h0 : s ≥ 0
    · rw [if_pos h0]
      unfold impl_allWorlds.f
      rw [if_pos ht]
      simp only [Option.bind_some]
      congr 1
      apply decide_eq_decide.mpr
      unfold SetP
      generalize (2 : Int) ^ 2 ^ t.toNat = M
      omega
    · rw [if_neg h0]
      congr 1
      symm
      apply decide_eq_false
      exact fun h => h0 h.2.1
  · rw [if_neg (by simpa using ht)]
    congr 1
    symm
    apply decide_eq_false
    exact fun h => ht h.1
/-! #### FRank -/

/-- A row as a function of worlds. -/
def rk (l : List Int) (w : Nat) : Int := rd l (w : Int)
theorem rk_eq (l : List Int) (w : Nat) : rk l w = l.getD w 0 := by unfold rk rd; rw [Int.toNat_natCast]

theorem l2_loop1 {l : List Int} {s x : Int} (hs : 0 ≤ s) (hl : l.length ≤ 8) : ∀ (d k j : Nat), j + d = l.length → d < k →
    spec_l2Least.l1 k l s x (mk (fun w => mem s w && decide (rk l w = x)) j) j = some (mk (fun w => mem s w && decide (rk l w = x)) l.length)
  | 0, k, j, hj, hk => by
    obtain ⟨k, rfl⟩ : ∃ m, k = m + 1 := ⟨k - 1, by omega⟩
    obtain rfl : j = l.length := by omega
    simp only [spec_l2Least.l1]
    rw [if_neg (by omega)]
  | d + 1, k, j, hj, hk => by
    obtain ⟨k, rfl⟩ : ∃ m, k = m + 1 := ⟨k - 1, by omega⟩
    have ih := l2_loop1 (x := x) hs hl d k (j + 1) (by omega) (by omega)
    simp only [spec_l2Least.l1]
    rw [if_pos (by omega), l1Bit_eq hs (by omega)]
    simp only [Option.bind_some]
    by_cases hm : mem s j = true
    · rw [if_pos hm, if_pos rfl, if_pos (by omega)]
      by_cases hx : rd l (j : Int) = x
      · rw [if_pos hx, add_bit (by omega) (by show (mem s j && decide (rk l j = x)) = true; rw [hm]; simp [rk, hx]), w64s (by omega)]
        exact ih
      · rw [if_neg hx, w64s (by omega), skip_bit (j := j) (by show (mem s j && decide (rk l j = x)) = false; simp [rk, hx])]
        exact ih
    · rw [if_neg hm, if_neg (by decide), w64s (by omega), skip_bit (j := j) (by show (mem s j && decide (rk l j = x)) = false; simp [hm])]
      exact ih
theorem l2_loop0 {l : List Int} {s : Int} (hs : 0 ≤ s) (hl : l.length ≤ 8) : ∀ (d k j : Nat), j + d = l.length → d + l.length + 1 < k →
    spec_l2Least.l0 k l s (least 10 (rk l) (mem s) j) j = some (rev l.length (rk l) s)
  | 0, k, j, hj, hk => by
    obtain ⟨k, rfl⟩ : ∃ m, k = m + 1 := ⟨k - 1, by omega⟩
    obtain rfl : j = l.length := by omega
    simp only [spec_l2Least.l0]
    rw [if_neg (by omega)]
    exact l2_loop1 hs hl l.length k 0 (by omega) (by omega)
  | d + 1, k, j, hj, hk => by
    obtain ⟨k, rfl⟩ : ∃ m, k = m + 1 := ⟨k - 1, by omega⟩
    have ih := l2_loop0 hs hl d k (j + 1) (by omega) (by omega)
    simp only [spec_l2Least.l0]
    rw [if_pos (by omega), l1Bit_eq hs (by omega)]
    simp only [Option.bind_some]
    simp only [least] at ih
    by_cases hm : mem s j = true
    · rw [if_pos hm] at ih
      rw [if_pos hm, if_pos rfl, if_pos (by omega), w64s (by omega), mn_eq]
      exact ih
    · rw [if_neg hm] at ih
      rw [if_neg hm, if_neg (by decide), w64s (by omega)]
      exact ih
theorem l2Least_eq {l : List Int} {s : Int} (hs : 0 ≤ s) (hl : l.length ≤ 8) {k : Nat} (hk : 20 ≤ k) : spec_l2Least.f k l s = some (rev l.length (rk l) s) := by
  unfold spec_l2Least.f
  exact l2_loop0 hs hl l.length k 0 (by omega) (by omega)

theorem surprise_loop {l : List Int} {s : Int} (hs : 0 ≤ s) (hs' : s < 256) (hl : l.length ≤ 8) : ∀ (d k j : Nat), j + d = l.length → d < k →
    impl_surpriseOf.l0 k s (least 10 (rk l) (mem s) j) l (l.length : Int) j = some (least 10 (rk l) (mem s) l.length)
  | 0, k, j, hj, hk => by
    obtain ⟨k, rfl⟩ : ∃ m, k = m + 1 := ⟨k - 1, by omega⟩
    obtain rfl : j = l.length := by omega
    simp only [impl_surpriseOf.l0]
    rw [if_neg (by omega)]
  | d + 1, k, j, hj, hk => by
    obtain ⟨k, rfl⟩ : ∃ m, k = m + 1 := ⟨k - 1, by omega⟩
    have ih := surprise_loop hs hs' hl d k (j + 1) (by omega) (by omega)
    simp only [impl_surpriseOf.l0]
    rw [if_pos (by omega), if_pos (by omega), if_pos (by omega), and_bit hs hs' (by omega), w64s (by omega), mn_eq]
    simp only [least] at ih
    by_cases hm : mem s j = true
    · rw [if_pos hm] at ih
      rw [if_pos hm, if_pos rfl]
      exact ih
    · rw [if_neg hm] at ih
      rw [if_neg hm, if_neg (by decide)]
      exact ih
theorem surpriseOf_eq {l : List Int} {s : Int} (hs : 0 ≤ s) (hs' : s < 256) (hl : l.length ≤ 8) {k : Nat} (hk : 20 ≤ k) : impl_surpriseOf.f k l s = some (least 10 (rk l) (mem s) l.length) := by
  unfold impl_surpriseOf.f
  exact surprise_loop hs hs' hl l.length k 0 (by omega) (by omega)
theorem revisedBy_eq {t : Int} {l : List Int} {s : Int} (ht : 1 ≤ t ∧ t ≤ 3) (hl : l.length = 2 ^ t.toNat) (hs : 0 ≤ s) (hs' : s < 256) {k : Nat} (hk : 20 ≤ k) : impl_revisedBy.f k t l s = some (rev (2 ^ t.toNat) (rk l) s) := by
  have h8 := worlds_le ht
  unfold impl_revisedBy.f
  rw [surpriseOf_eq hs hs' (by omega) hk]
  simp only [Option.bind_some]
  rw [if_pos ⟨ht, hl, hs, hs'⟩, hl]
  rfl
/-! #### FFar2 -/

/-- In how many things two worlds differ. -/
def dist (v w : Nat) : Int := (((v ^^^ w) % 2 + (v ^^^ w) / 2 % 2 + (v ^^^ w) / 4 % 2 : Nat) : Int)
theorem dist_comm (v w : Nat) : dist v w = dist w v := by unfold dist; rw [Nat.xor_comm]
theorem dist_self (v : Nat) : dist v v = 0 := by unfold dist; rw [Nat.xor_self]; rfl
theorem dist_nonneg (v w : Nat) : 0 ≤ dist v w := by unfold dist; omega
theorem dist_le3 (v w : Nat) : dist v w ≤ 3 := by unfold dist; omega
theorem dist_zero : ∀ v, v < 8 → ∀ w, w < 8 → dist v w = 0 → v = w := by decide
theorem dist_tri : ∀ v, v < 8 → ∀ w, w < 8 → ∀ u, u < 8 → dist v w ≤ dist v u + dist u w := by decide
theorem dist_le_things {t : Int} (ht : 1 ≤ t ∧ t ≤ 3) {v w : Nat} (hv : v < 2 ^ t.toNat) (hw : w < 2 ^ t.toNat) : dist v w ≤ t := by
  obtain rfl | rfl | rfl : t = 1 ∨ t = 2 ∨ t = 3 := by omega
  · have : ∀ v, v < 2 → ∀ w, w < 2 → dist v w ≤ 1 := by decide
    exact this v hv w hw
  · have : ∀ v, v < 4 → ∀ w, w < 4 → dist v w ≤ 2 := by decide
    exact this v hv w hw
  · exact dist_le3 v w
theorem apart_dec : ∀ v, v < 8 → ∀ w, w < 8 → spec_l5Apart.f 4 (v : Nat) (w : Nat) = some (dist v w) := by decide +kernel
theorem l5Apart_eq {v w : Nat} (hv : v < 8) (hw : w < 8) {k : Nat} (hk : 4 ≤ k) : spec_l5Apart.f k v w = some (dist v w) :=
  at_rounds (fun k => spec_l5Apart.mono _ _ k) hk (apart_dec v hv w hw)
theorem apart_dec2 : ∀ v, v < 8 → ∀ w, w < 8 → impl_apart.f (v : Nat) (w : Nat) = some (dist v w) := by decide +kernel
theorem apart_eq {v w : Nat} (hv : v < 8) (hw : w < 8) : impl_apart.f v w = some (dist v w) := apart_dec2 v hv w hw

/-- How far each world is from the nearest of a set. -/
def near (n : Nat) (s : Int) (w : Nat) : Int := least 4 (fun v => dist v w) (mem s) n
def far (n : Nat) (s : Int) : List Int := (List.range n).map (near n s)
theorem far_length (n : Nat) (s : Int) : (far n s).length = n := by simp [far]
theorem far_get {n : Nat} {s : Int} {w : Nat} (hw : w < n) : rk (far n s) w = near n s w := by
  rw [rk_eq]
  unfold far
  rw [List.getD_eq_getElem?_getD, List.getElem?_map, List.getElem?_range hw]
  rfl
theorem far_snoc (n : Nat) (s : Int) (j : Nat) : (List.range j).map (near n s) ++ [near n s j] = (List.range (j + 1)).map (near n s) := by
  rw [List.range_succ, List.map_append]; rfl

theorem spec_far1 {t s : Int} (h : SetP t s) {w : Nat} (hw : w < 2 ^ t.toNat) (K : Nat) (xs : List Int) (hx : xs.length < 17592186044416) (hK : 4 ≤ K) : ∀ (d k j : Nat), j + d = 2 ^ t.toNat → K + d < k →
    ∃ k', K ≤ k' ∧ k ≤ k' + d + 1 ∧ spec_FarFrom.l1 k t s xs w (least 4 (fun v => dist v w) (mem s) j) j = spec_FarFrom.l0 k' t s (xs ++ [near (2 ^ t.toNat) s w]) ((w + 1 : Nat) : Int)
  | 0, k, j, hj, hk => by
    obtain ⟨k, rfl⟩ : ∃ m, k = m + 1 := ⟨k - 1, by omega⟩
    have h8 := worlds_le h.1
    obtain rfl : j = 2 ^ t.toNat := by omega
    refine ⟨k, by omega, by omega, ?_⟩
    simp only [spec_FarFrom.l1]
    rw [if_pos (by have := h.1; omega), shl_things h.1, if_neg (by omega), if_pos hx, w64s (by omega)]
    rfl
  | d + 1, k, j, hj, hk => by
    obtain ⟨k, rfl⟩ : ∃ m, k = m + 1 := ⟨k - 1, by omega⟩
    have h8 := worlds_le h.1
    obtain ⟨k', h1, h2, ih⟩ := spec_far1 h hw K xs hx hK d k (j + 1) (by omega) (by omega)
    refine ⟨k', h1, by omega, ?_⟩
    rw [← ih]
    simp only [spec_FarFrom.l1, least]
    rw [if_pos (by have := h.1; omega), shl_things h.1, if_pos (by omega), l1Bit_eq h.2.1 (by omega)]
    simp only [Option.bind_some]
    by_cases hm : mem s j = true
    · rw [if_pos hm, if_pos rfl, l5Apart_eq (by omega) (by omega) (by omega)]
      simp only [Option.bind_some]
      rw [if_pos hm, mn_eq, w64s (by omega)]
    · rw [if_neg hm, if_neg (by decide), if_neg hm, w64s (by omega)]
theorem spec_far0 {t s : Int} (h : SetP t s) : ∀ (d k j : Nat), j + d = 2 ^ t.toNat → 4 + d * 10 < k →
    spec_FarFrom.l0 k t s ((List.range j).map (near (2 ^ t.toNat) s)) j = some (far (2 ^ t.toNat) s)
  | 0, k, j, hj, hk => by
    obtain ⟨k, rfl⟩ : ∃ m, k = m + 1 := ⟨k - 1, by omega⟩
    obtain rfl : j = 2 ^ t.toNat := by omega
    simp only [spec_FarFrom.l0]
    rw [if_pos (by have := h.1; omega), shl_things h.1, if_neg (by omega)]
    rfl
  | d + 1, k, j, hj, hk => by
    obtain ⟨k, rfl⟩ : ∃ m, k = m + 1 := ⟨k - 1, by omega⟩
    have h8 := worlds_le h.1
    simp only [spec_FarFrom.l0]
    rw [if_pos (by have := h.1; omega), shl_things h.1, if_pos (by omega)]
    obtain ⟨k', h1, h2, e⟩ := spec_far1 h (w := j) (by omega) (4 + d * 10 + 1) ((List.range j).map (near (2 ^ t.toNat) s)) (by rw [List.length_map, List.length_range]; omega) (by omega) (2 ^ t.toNat) k 0 (by omega) (by omega)
    have e' : spec_FarFrom.l1 k t s ((List.range j).map (near (2 ^ t.toNat) s)) j 4 0 = _ := e
    rw [e', far_snoc]
    exact spec_far0 h d k' (j + 1) (by omega) (by omega)
theorem spec_FarFrom_eq (t s : Int) {k : Nat} (hk : 100 ≤ k) : spec_FarFrom.f k t s = some (if SetP t s ∧ s ≠ 0 then far (2 ^ t.toNat) s else []) := by
  obtain ⟨k, rfl⟩ : ∃ m, k = m + 1 := ⟨k - 1, by omega⟩
  unfold spec_FarFrom.f
  rw [SetOk_eq]
  simp only [Option.bind_some]
  by_cases h : SetP t s
  · have h8 := worlds_le h.1
    rw [if_pos (by simp [h])]
    simp only [spec_FarFrom.j0]
    by_cases h0 : s = 0
    · rw [if_pos (by simp [h0]), if_neg (by simp [h0])]
    · rw [if_neg (by simp [h0]), if_pos ⟨h, h0⟩]
      exact spec_far0 h (2 ^ t.toNat) k 0 (by omega) (by omega)
  · rw [if_neg (by simp [h]), if_neg (fun x => h x.1)]
    simp only [spec_FarFrom.j0]
    rw [if_pos trivial]

theorem impl_far1 {t s : Int} (h : SetP t s) {w : Nat} (hw : w < 2 ^ t.toNat) (c : Int) (K : Nat) (xs : List Int) (hx : xs.length < 17592186044416) : ∀ (d k j : Nat), j + d = 2 ^ t.toNat → K + d < k →
    ∃ k', K ≤ k' ∧ impl_farFrom.l1 k t s xs w (least c (fun v => dist v w) (mem s) j) ((2 ^ t.toNat : Nat) : Int) w ((2 ^ t.toNat : Nat) : Int) j = impl_farFrom.l0 k' t s (xs ++ [least c (fun v => dist v w) (mem s) (2 ^ t.toNat)]) ((2 ^ t.toNat : Nat) : Int) ((w + 1 : Nat) : Int)
  | 0, k, j, hj, hk => by
    obtain ⟨k, rfl⟩ : ∃ m, k = m + 1 := ⟨k - 1, by omega⟩
    have h8 := worlds_le h.1
    obtain rfl : j = 2 ^ t.toNat := by omega
    refine ⟨k, by omega, ?_⟩
    simp only [impl_farFrom.l1]
    rw [if_neg (by omega), if_pos hx, w64s (by omega)]
  | d + 1, k, j, hj, hk => by
    obtain ⟨k, rfl⟩ : ∃ m, k = m + 1 := ⟨k - 1, by omega⟩
    have h8 := worlds_le h.1
    obtain ⟨k', h1, ih⟩ := impl_far1 h hw c K xs hx d k (j + 1) (by omega) (by omega)
    refine ⟨k', h1, ?_⟩
    rw [← ih]
    simp only [impl_farFrom.l1, least]
    rw [if_pos (by omega), if_pos (by omega), and_bit h.2.1 h.lt256 (by omega)]
    by_cases hm : mem s j = true
    · rw [if_pos hm, if_pos rfl, apart_eq (by omega) (by omega)]
      simp only [Option.bind_some]
      rw [if_pos hm, mn_eq, w64s (by omega), dist_comm w j]
    · rw [if_neg hm, if_neg (by decide), if_neg hm, w64s (by omega)]
theorem near_start {t s : Int} (h : SetP t s) (h0 : s ≠ 0) {w : Nat} (hw : w < 2 ^ t.toNat) : least t (fun v => dist v w) (mem s) (2 ^ t.toNat) = near (2 ^ t.toNat) s w := by
  obtain ⟨v, hv, hm⟩ := exists_mem h.2.1 h.2.2 h0
  exact least_start ⟨v, hv, hm, dist_le_things h.1 hv hw⟩ ⟨v, hv, hm, by have := dist_le3 v w; omega⟩
theorem impl_far0 {t s : Int} (h : SetP t s) (h0 : s ≠ 0) : ∀ (d k j : Nat), j + d = 2 ^ t.toNat → d * 10 < k →
    impl_farFrom.l0 k t s ((List.range j).map (near (2 ^ t.toNat) s)) ((2 ^ t.toNat : Nat) : Int) j = some (far (2 ^ t.toNat) s)
  | 0, k, j, hj, hk => by
    obtain ⟨k, rfl⟩ : ∃ m, k = m + 1 := ⟨k - 1, by omega⟩
    obtain rfl : j = 2 ^ t.toNat := by omega
    simp only [impl_farFrom.l0]
    rw [if_neg (by omega)]
    rfl
  | d + 1, k, j, hj, hk => by
    obtain ⟨k, rfl⟩ : ∃ m, k = m + 1 := ⟨k - 1, by omega⟩
    have h8 := worlds_le h.1
    simp only [impl_farFrom.l0]
    rw [if_pos (by omega), if_pos (by have := h.1; omega), shl_things h.1]
    obtain ⟨k', h1, e⟩ := impl_far1 h (w := j) (by omega) t (d * 10 + 1) ((List.range j).map (near (2 ^ t.toNat) s)) (by rw [List.length_map, List.length_range]; omega) (2 ^ t.toNat) k 0 (by omega) (by omega)
    have e' : impl_farFrom.l1 k t s ((List.range j).map (near (2 ^ t.toNat) s)) j t ((2 ^ t.toNat : Nat) : Int) j ((2 ^ t.toNat : Nat) : Int) 0 = _ := e
    rw [e', near_start h h0 (by omega), far_snoc]
    exact impl_far0 h h0 d k' (j + 1) (by omega) (by omega)
theorem farFrom_eq {t s : Int} (h : SetP t s) (h0 : s ≠ 0) {k : Nat} (hk : 100 ≤ k) : impl_farFrom.f k t s = some (far (2 ^ t.toNat) s) := by
  have h8 := worlds_le h.1
  unfold impl_farFrom.f
  rw [if_pos (by have := h.1; omega), shl_things h.1]
  exact impl_far0 h h0 (2 ^ t.toNat) k 0 (by omega) (by omega)
/-! ### the nearest worlds -/
def nearS (t p c : Int) : Int := if p = 0 then c else rev (2 ^ t.toNat) (near (2 ^ t.toNat) p) c
theorem spec_NearestOf_eq (t p c : Int) {k : Nat} (hk : 101 ≤ k) : spec_NearestOf.f k t p c = some (if SetP t p ∧ SetP t c then nearS t p c else -1) := by
  obtain ⟨k, rfl⟩ : ∃ m, k = m + 1 := ⟨k - 1, by omega⟩
  unfold spec_NearestOf.f
  rw [SetOk_eq, SetOk_eq]
  simp only [Option.bind_some]
  by_cases hp : SetP t p
  · rw [if_pos (by simp [hp])]
    simp only [spec_NearestOf.j0]
    by_cases hc : SetP t c
    · have h8 := worlds_le hp.1
      rw [if_neg (by simp [hc]), show (if SetP t p ∧ SetP t c then nearS t p c else -1) = nearS t p c from if_pos ⟨hp, hc⟩]
      unfold nearS
      by_cases h0 : p = 0
      · rw [if_pos h0, if_pos h0]
      · rw [if_neg h0, if_neg h0, spec_FarFrom_eq _ _ (by omega), if_pos ⟨hp, h0⟩]
        simp only [Option.bind_some]
        rw [l2Least_eq hc.2.1 (by rw [far_length]; exact h8) (by omega), far_length]
        simp only [Option.bind_some]
        rw [rev_congr (fun w hw => far_get hw)]
    · rw [if_pos (by simp [hc]), if_neg (fun x => hc x.2)]
  · rw [if_neg (by simp [hp]), if_neg (fun x => hp x.1)]
    simp only [spec_NearestOf.j0]
    rw [if_pos trivial]
theorem impl_NearestOf_eq (t p c : Int) {k : Nat} (hk : 101 ≤ k) : impl_NearestOf.f k t p c = some (if SetP t p ∧ SetP t c then nearS t p c else -1) := by
  obtain ⟨k, rfl⟩ : ∃ m, k = m + 1 := ⟨k - 1, by omega⟩
  unfold impl_NearestOf.f
  rw [isSet_eq, isSet_eq]
  simp only [Option.bind_some]
  by_cases hp : SetP t p
  · rw [if_pos (by simp [hp])]
    simp only [impl_NearestOf.j0]
    by_cases hc : SetP t c
    · rw [if_neg (by simp [hc]), show (if SetP t p ∧ SetP t c then nearS t p c else -1) = nearS t p c from if_pos ⟨hp, hc⟩]
      unfold nearS
      by_cases h0 : p = 0
      · rw [if_pos h0, if_pos h0]
      · rw [if_neg h0, if_neg h0, farFrom_eq hp h0 (by omega)]
        simp only [Option.bind_some]
        rw [revisedBy_eq hp.1 (far_length _ _) hc.2.1 hc.lt256 (by omega)]
        simp only [Option.bind_some]
        rw [rev_congr (fun w hw => far_get hw)]
    · rw [if_pos (by simp [hc]), if_neg (fun x => hc x.2)]
  · rw [if_neg (by simp [hp]), if_neg (fun x => hp x.1)]
    simp only [impl_NearestOf.j0]
    rw [if_pos trivial]
theorem nearS_nonneg {t p c : Int} (hc : 0 ≤ c) : 0 ≤ nearS t p c := by unfold nearS; split; exact hc; exact rev_nonneg _ _ _
theorem nearS_lt {t p c : Int} (hc : c < 2 ^ 2 ^ t.toNat) : nearS t p c < 2 ^ 2 ^ t.toNat := by unfold nearS; split; exact hc; exact rev_lt _ _ _
/-! #### FUpdU -/

/-- The worlds of c that are nearest to one of the first j worlds of p. -/
def updP (t p c : Int) (j : Nat) (v : Nat) : Bool := (List.range j).any (fun w => mem p w && mem (nearS t (2 ^ w) c) v)
def updS (t p c : Int) : Int := mk (updP t p c (2 ^ t.toNat)) (2 ^ t.toNat)
theorem updP_succ (t p c : Int) (j v : Nat) : updP t p c (j + 1) v = (updP t p c j v || (mem p j && mem (nearS t (2 ^ j) c) v)) := by
  unfold updP
  rw [List.range_succ, List.any_append]
  simp
theorem updP_iff {t p c : Int} {j v : Nat} : updP t p c j v = true ↔ ∃ w, w < j ∧ mem p w = true ∧ mem (nearS t (2 ^ w) c) v = true := by
  unfold updP
  simp
theorem one_SetP {t : Int} (ht : 1 ≤ t ∧ t ≤ 3) {w : Nat} (hw : w < 2 ^ t.toNat) : SetP t (2 ^ w) := by
  refine ⟨ht, Int.le_of_lt (pow_pos w), ?_⟩
  have : 2 ^ w < 2 ^ 2 ^ t.toNat := Nat.pow_lt_pow_right (by decide) hw
  rw [pow_nat, pow_nat (2 ^ t.toNat)]
  omega
theorem one_ne (w : Nat) : (2 : Int) ^ w ≠ 0 := by have := pow_pos w; omega
theorem mk_or {n : Nat} {p q : Nat → Bool} (hn : n ≤ 8) : orS (mk p n) (mk q n) = mk (fun v => p v || q v) n := by
  rw [orS_eq hn (mk_nonneg _ _) (mk_lt _ _) (mk_nonneg _ _) (mk_lt _ _)]
  exact mk_congr (fun w hw => by rw [mem_mk_lt _ hw, mem_mk_lt _ hw])
theorem step_upd {t p c : Int} (ht : 1 ≤ t ∧ t ≤ 3) (hc : SetP t c) {j : Nat} (hm : mem p j = true) :
    orS (mk (updP t p c j) (2 ^ t.toNat)) (nearS t (2 ^ j) c) = mk (updP t p c (j + 1)) (2 ^ t.toNat) := by
  have h8 := worlds_le ht
  rw [orS_eq h8 (mk_nonneg _ _) (mk_lt _ _) (nearS_nonneg hc.2.1) (nearS_lt hc.2.2)]
  exact mk_congr (fun w hw => by rw [mem_mk_lt _ hw, updP_succ, hm, Bool.true_and])
theorem skip_upd {t p c : Int} {j : Nat} (hm : mem p j = false) : mk (updP t p c j) (2 ^ t.toNat) = mk (updP t p c (j + 1)) (2 ^ t.toNat) :=
  mk_congr (fun w hw => by rw [updP_succ, hm, Bool.false_and, Bool.or_false])
theorem spec_upd_loop {t p c : Int} (hp : SetP t p) (hc : SetP t c) : ∀ (d k j : Nat), j + d = 2 ^ t.toNat → 120 + d < k →
    spec_UpdatedBy.l0 k t p c (mk (updP t p c j) (2 ^ t.toNat)) j = some (updS t p c)
  | 0, k, j, hj, hk => by
    obtain ⟨k, rfl⟩ : ∃ m, k = m + 1 := ⟨k - 1, by omega⟩
    obtain rfl : j = 2 ^ t.toNat := by omega
    simp only [spec_UpdatedBy.l0]
    rw [if_pos (by have := hp.1; omega), shl_things hp.1, if_neg (by omega)]
    rfl
  | d + 1, k, j, hj, hk => by
    obtain ⟨k, rfl⟩ : ∃ m, k = m + 1 := ⟨k - 1, by omega⟩
    have h8 := worlds_le hp.1
    have ih := spec_upd_loop hp hc d k (j + 1) (by omega) (by omega)
    simp only [spec_UpdatedBy.l0]
    rw [if_pos (by have := hp.1; omega), shl_things hp.1, if_pos (by omega), l1Bit_eq hp.2.1 (by omega)]
    simp only [Option.bind_some]
    by_cases hm : mem p j = true
    · rw [if_pos hm, if_pos rfl, if_pos (by omega), shl_small1 (by omega), spec_NearestOf_eq _ _ _ (by omega), if_pos ⟨one_SetP hp.1 (by omega), hc⟩]
      simp only [Option.bind_some]
      rw [l1Either_eq (mk_nonneg _ _) (lt8of h8 (mk_lt _ _)) (nearS_nonneg hc.2.1) (lt8of h8 (nearS_lt hc.2.2)) (by omega)]
      simp only [Option.bind_some]
      rw [step_upd hp.1 hc hm, w64s (by omega)]
      exact ih
    · rw [if_neg hm, if_neg (by decide), w64s (by omega), skip_upd (by simpa using hm)]
      exact ih
theorem mk_none {n : Nat} {p : Nat → Bool} (h : ∀ w, w < n → p w = false) : mk p n = 0 := mk_eq_zero.mpr h
theorem upd_zero (t p c : Int) (n : Nat) : mk (updP t p c 0) n = 0 := mk_none (fun w hw => rfl)
theorem spec_UpdatedBy_eq (t p c : Int) {k : Nat} (hk : 130 ≤ k) : spec_UpdatedBy.f k t p c = some (if SetP t p ∧ SetP t c then updS t p c else -1) := by
  obtain ⟨k, rfl⟩ : ∃ m, k = m + 1 := ⟨k - 1, by omega⟩
  unfold spec_UpdatedBy.f
  rw [SetOk_eq, SetOk_eq]
  simp only [Option.bind_some]
  by_cases hp : SetP t p
  · rw [if_pos (by simp [hp])]
    simp only [spec_UpdatedBy.j0]
    by_cases hc : SetP t c
    · have h8 := worlds_le hp.1
      rw [if_neg (by simp [hc]), if_pos ⟨hp, hc⟩]
      have := spec_upd_loop hp hc (2 ^ t.toNat) k 0 (by omega) (by omega)
      rw [upd_zero] at this
      exact this
    · rw [if_pos (by simp [hc]), if_neg (fun x => hc x.2)]
  · rw [if_neg (by simp [hp]), if_neg (fun x => hp x.1)]
    simp only [spec_UpdatedBy.j0]
    rw [if_pos trivial]
theorem nearS_one {t c : Int} (w : Nat) : nearS t (2 ^ w) c = rev (2 ^ t.toNat) (near (2 ^ t.toNat) (2 ^ w)) c := by unfold nearS; rw [if_neg (one_ne w)]
theorem impl_upd_loop {t p c : Int} (hp : SetP t p) (hc : SetP t c) : ∀ (d k j : Nat), j + d = 2 ^ t.toNat → 120 + d < k →
    impl_UpdatedBy.l0 k t p c (mk (updP t p c j) (2 ^ t.toNat)) ((2 ^ t.toNat : Nat) : Int) j = some (updS t p c)
  | 0, k, j, hj, hk => by
    obtain ⟨k, rfl⟩ : ∃ m, k = m + 1 := ⟨k - 1, by omega⟩
    obtain rfl : j = 2 ^ t.toNat := by omega
    simp only [impl_UpdatedBy.l0]
    rw [if_neg (by omega)]
    rfl
  | d + 1, k, j, hj, hk => by
    obtain ⟨k, rfl⟩ : ∃ m, k = m + 1 := ⟨k - 1, by omega⟩
    have h8 := worlds_le hp.1
    have ih := impl_upd_loop hp hc d k (j + 1) (by omega) (by omega)
    simp only [impl_UpdatedBy.l0]
    rw [if_pos (by omega), if_pos (by omega), and_bit hp.2.1 hp.lt256 (by omega)]
    by_cases hm : mem p j = true
    · rw [if_pos hm, if_pos rfl, shl_small1 (by omega), farFrom_eq (one_SetP hp.1 (by omega)) (one_ne j) (by omega)]
      simp only [Option.bind_some]
      rw [revisedBy_eq hp.1 (far_length _ _) hc.2.1 hc.lt256 (by omega)]
      simp only [Option.bind_some]
      rw [rev_congr (fun w hw => far_get hw), ← nearS_one]
      have e : bits .or .i64 (mk (updP t p c j) (2 ^ t.toNat)) (nearS t (2 ^ j) c) = orS (mk (updP t p c j) (2 ^ t.toNat)) (nearS t (2 ^ j) c) :=
        bits_or8 (mk_nonneg _ _) (lt256 h8 (mk_lt _ _)) (nearS_nonneg hc.2.1) (lt256 h8 (nearS_lt hc.2.2))
      rw [e, step_upd hp.1 hc hm, w64s (by omega)]
      exact ih
    · rw [if_neg hm, if_neg (by decide), w64s (by omega), skip_upd (by simpa using hm)]
      exact ih
theorem impl_UpdatedBy_eq (t p c : Int) {k : Nat} (hk : 130 ≤ k) : impl_UpdatedBy.f k t p c = some (if SetP t p ∧ SetP t c then updS t p c else -1) := by
  obtain ⟨k, rfl⟩ : ∃ m, k = m + 1 := ⟨k - 1, by omega⟩
  unfold impl_UpdatedBy.f
  rw [isSet_eq, isSet_eq]
  simp only [Option.bind_some]
  by_cases hp : SetP t p
  · rw [if_pos (by simp [hp])]
    simp only [impl_UpdatedBy.j0]
    by_cases hc : SetP t c
    · have h8 := worlds_le hp.1
      rw [if_neg (by simp [hc]), if_pos (by have := hp.1; omega), shl_things hp.1, if_pos ⟨hp, hc⟩]
      have := impl_upd_loop hp hc (2 ^ t.toNat) k 0 (by omega) (by omega)
      rw [upd_zero] at this
      exact this
    · rw [if_pos (by simp [hc]), if_neg (fun x => hc x.2)]
  · rw [if_neg (by simp [hp]), if_neg (fun x => hp x.1)]
    simp only [impl_UpdatedBy.j0]
    rw [if_pos trivial]
/-! #### FLaws1U -/

/-! ### distances are ranks -/
theorem near_nonneg (n : Nat) (s : Int) (w : Nat) : 0 ≤ near n s w := least_nonneg (by decide) (fun v _ => dist_nonneg v w)
theorem near_le4 (n : Nat) (s : Int) (w : Nat) : near n s w ≤ 4 := least_le_c _ _ _ _
theorem near_self {n : Nat} {s : Int} {w : Nat} (hw : w < n) (hm : mem s w = true) : near n s w = 0 := by
  have h1 := near_nonneg n s w
  have h2 := least_le 4 (fun v => dist v w) (mem s) n w hw hm
  simp only [dist_self] at h2
  unfold near at h1 ⊢
  omega
theorem near_zero {n : Nat} (hn : n ≤ 8) {s : Int} {w : Nat} (hw : w < n) : near n s w = 0 ↔ mem s w = true := by
  constructor
  · intro h
    obtain ⟨v, hv, hm, e⟩ := least_lt_c (c := 4) (r := fun v => dist v w) (p := mem s) (n := n) (by unfold near at h; omega)
    have : dist v w = 0 := by
      unfold near at h
      rw [h] at e
      exact e
    have := dist_zero v (by omega) w (by omega) this
    subst this
    exact hm
  · exact near_self hw
theorem near_attained {t s : Int} (h : SetP t s) (h0 : s ≠ 0) (w : Nat) : ∃ v, v < 2 ^ t.toNat ∧ mem s v = true ∧ dist v w = near (2 ^ t.toNat) s w := by
  obtain ⟨v, hv, hm⟩ := exists_mem h.2.1 h.2.2 h0
  exact least_attained ⟨v, hv, hm, by have := dist_le3 v w; show dist v w ≤ 4; omega⟩
/-! ### the nearest, and updates -/
theorem mem_nearS {t p c : Int} (h0 : p ≠ 0) {v : Nat} (hv : v < 2 ^ t.toNat) : mem (nearS t p c) v = true ↔ mem c v = true ∧ near (2 ^ t.toNat) p v = least 10 (near (2 ^ t.toNat) p) (mem c) (2 ^ t.toNat) := by
  unfold nearS
  rw [if_neg h0, mem_rev hv]
  simp
theorem nearS_within {t p c : Int} (hc : SetP t c) {v : Nat} (hm : mem (nearS t p c) v = true) : v < 2 ^ t.toNat ∧ mem c v = true := by
  have hv : v < 2 ^ t.toNat := Go.Proofs.BelM.mem_lt (nearS_nonneg hc.2.1) (nearS_lt hc.2.2) hm
  refine ⟨hv, ?_⟩
  unfold nearS at hm
  split at hm
  · exact hm
  · rw [mem_rev hv] at hm
    simp at hm
    exact hm.1
theorem nearS_both {t p c : Int} (hp : SetP t p) (hc : SetP t c) (hb : andS p c ≠ 0) : nearS t p c = andS p c := by
  have h8 := worlds_le hp.1
  have hlt := andS_lt (b := c) h8 hp.2.1 hp.2.2
  obtain ⟨u, hu, hm⟩ := exists_mem (andS_nonneg p c) hlt hb
  rw [mem_andS hp.2.1 hp.lt8, Bool.and_eq_true] at hm
  have h0 : p ≠ 0 := by
    rintro rfl
    rw [mem_zero] at hm
    exact absurd hm.1 (by decide)
  have hl : least 10 (near (2 ^ t.toNat) p) (mem c) (2 ^ t.toNat) = 0 :=
    least_is (by decide) (fun w _ _ => near_nonneg _ _ w) (.inr ⟨u, hu, hm.2, near_self hu hm.1⟩)
  refine ext (n := 2 ^ t.toNat) (nearS_nonneg hc.2.1) (nearS_lt hc.2.2) (andS_nonneg _ _) hlt (fun w hw => ?_)
  rw [Bool.eq_iff_iff, mem_nearS h0 hw, hl, near_zero h8 hw, mem_andS hp.2.1 hp.lt8, Bool.and_eq_true]
  exact ⟨fun h => ⟨h.2, h.1⟩, fun h => ⟨h.2, h.1⟩⟩
theorem mem_updS {t p c : Int} {v : Nat} (hv : v < 2 ^ t.toNat) : mem (updS t p c) v = true ↔ ∃ w, w < 2 ^ t.toNat ∧ mem p w = true ∧ mem (nearS t (2 ^ w) c) v = true := by
  unfold updS
  rw [mem_mk_lt _ hv, updP_iff]
theorem updS_nonneg (t p c : Int) : 0 ≤ updS t p c := mk_nonneg _ _
theorem updS_lt (t p c : Int) : updS t p c < 2 ^ 2 ^ t.toNat := mk_lt _ _
theorem updS_or {t p o c : Int} (hp : SetP t p) (ho : SetP t o) : updS t (orS p o) c = orS (updS t p c) (updS t o c) := by
  have h8 := worlds_le hp.1
  refine ext (n := 2 ^ t.toNat) (updS_nonneg _ _ _) (updS_lt _ _ _) (orS_nonneg _ _) (orS_lt h8 (updS_nonneg _ _ _) (updS_lt _ _ _) (updS_nonneg _ _ _) (updS_lt _ _ _)) (fun v hv => ?_)
  rw [Bool.eq_iff_iff, mem_updS hv, mem_orS (updS_nonneg _ _ _) (lt8of h8 (updS_lt _ _ _)) (updS_nonneg _ _ _) (lt8of h8 (updS_lt _ _ _)), Bool.or_eq_true, mem_updS hv, mem_updS hv]
  constructor
  · rintro ⟨w, hw, hm, hn⟩
    rw [mem_orS hp.2.1 hp.lt8 ho.2.1 ho.lt8, Bool.or_eq_true] at hm
    rcases hm with hm | hm
    · exact .inl ⟨w, hw, hm, hn⟩
    · exact .inr ⟨w, hw, hm, hn⟩
  · rintro (⟨w, hw, hm, hn⟩ | ⟨w, hw, hm, hn⟩)
    · exact ⟨w, hw, by rw [mem_orS hp.2.1 hp.lt8 ho.2.1 ho.lt8, hm, Bool.true_or], hn⟩
    · exact ⟨w, hw, by rw [mem_orS hp.2.1 hp.lt8 ho.2.1 ho.lt8, hm, Bool.or_true], hn⟩
theorem near_one {n v w : Nat} (hw : w < n) : near n (2 ^ w) v = dist w v := by
  unfold near
  refine least_is (by have := dist_le3 w v; omega) (fun u hu hm => ?_) (.inr ⟨w, hw, by rw [mem_pow]; simp, rfl⟩)
  rw [mem_pow] at hm
  simp at hm
  rw [hm]
  exact Int.le_refl _
theorem mem_nearS_one {t c : Int} {w v : Nat} (hw : w < 2 ^ t.toNat) (hv : v < 2 ^ t.toNat) : mem (nearS t (2 ^ w) c) v = true ↔ mem c v = true ∧ ∀ u, u < 2 ^ t.toNat → mem c u = true → dist w v ≤ dist w u := by
  rw [mem_nearS (one_ne w) hv]
  have e : least 10 (near (2 ^ t.toNat) (2 ^ w)) (mem c) (2 ^ t.toNat) = least 10 (fun u => dist w u) (mem c) (2 ^ t.toNat) :=
    least_congr (fun _ _ => rfl) (fun u hu _ => near_one hw)
  rw [e, near_one hw]
  constructor
  · rintro ⟨h1, h2⟩
    exact ⟨h1, fun u hu hm => by rw [h2]; exact least_le _ _ _ _ u hu hm⟩
  · rintro ⟨h1, h2⟩
    refine ⟨h1, Eq.symm (least_is (by have := dist_le3 w v; omega) h2 (.inr ⟨v, hv, h1, rfl⟩))⟩
theorem updS_id {t p c : Int} (hp : SetP t p) (hw : ∀ w, w < 2 ^ t.toNat → mem p w = true → mem c w = true) : updS t p c = p := by
  have h8 := worlds_le hp.1
  refine ext (n := 2 ^ t.toNat) (updS_nonneg _ _ _) (updS_lt _ _ _) hp.2.1 hp.2.2 (fun v hv => ?_)
  rw [Bool.eq_iff_iff, mem_updS hv]
  constructor
  · rintro ⟨w, hw1, hm, hn⟩
    rw [mem_nearS_one hw1 hv] at hn
    have h1 := hn.2 w hw1 (hw w hw1 hm)
    rw [dist_self] at h1
    have h2 := dist_nonneg w v
    have := dist_zero w (by omega) v (by omega) (by omega)
    subst this
    exact hm
  · intro hm
    refine ⟨v, hv, hm, (mem_nearS_one hv hv).mpr ⟨hw v hv hm, fun u _ _ => by rw [dist_self]; exact dist_nonneg _ _⟩⟩
theorem updS_one {t c : Int} (hc : SetP t c) {w : Nat} (hw : w < 2 ^ t.toNat) : updS t (2 ^ w) c = nearS t (2 ^ w) c := by
  refine ext (n := 2 ^ t.toNat) (updS_nonneg _ _ _) (updS_lt _ _ _) (nearS_nonneg hc.2.1) (nearS_lt hc.2.2) (fun v hv => ?_)
  rw [Bool.eq_iff_iff, mem_updS hv]
  constructor
  · rintro ⟨u, hu, hm, hn⟩
    rw [mem_pow] at hm
    simp at hm
    subst hm
    exact hn
  · intro h
    exact ⟨w, hw, by rw [mem_pow]; simp, h⟩
theorem near_in_upd {t p c : Int} (hp : SetP t p) (hc : SetP t c) (h0 : p ≠ 0) {v : Nat} (hm : mem (nearS t p c) v = true) : mem (updS t p c) v = true := by
  have hv := (nearS_within hc hm).1
  rw [mem_nearS h0 hv] at hm
  obtain ⟨w, hw, hpw, e⟩ := near_attained hp h0 v
  rw [mem_updS hv]
  refine ⟨w, hw, hpw, (mem_nearS_one hw hv).mpr ⟨hm.1, fun u hu hcu => ?_⟩⟩
  have h1 := least_le 10 (near (2 ^ t.toNat) p) (mem c) (2 ^ t.toNat) u hu hcu
  have h2 := least_le 4 (fun x => dist x u) (mem p) (2 ^ t.toNat) w hw hpw
  rw [← hm.2] at h1
  have h3 : near (2 ^ t.toNat) p u ≤ dist w u := h2
  omega
theorem upd_within {t p c : Int} (hc : SetP t c) {v : Nat} (hm : mem (updS t p c) v = true) : mem c v = true := by
  have hv : v < 2 ^ t.toNat := Go.Proofs.BelM.mem_lt (updS_nonneg _ _ _) (updS_lt _ _ _) hm
  obtain ⟨w, hw, _, hn⟩ := (mem_updS hv).mp hm
  exact (nearS_within hc hn).2
end Go.Proofs.Ytjhcpcahnngofaa.LQ

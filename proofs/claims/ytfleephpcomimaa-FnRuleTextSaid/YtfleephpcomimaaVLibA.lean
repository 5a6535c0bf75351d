/- Plain facts about what the printed functions answer (several pieces in one text). Conditions: those of each theorem. -/
import Derived.Test.YtfleephpcomimaaV2
import Derived.Test.YtfleephpcomimaaV3
import Derived.Test.YtfleephpcomimaaV4
import Derived.Test.YtfleephpcomimaaV5
import Derived.Test.YtfleephpcomimaaV6
import Derived.Test.YtfleephpcomimaaV7
import Derived.Test.YtfleephpcomimaaV8
import Derived.Test.YtfleephpcomimaaV11
import Derived.Test.YtfleephpcomimaaSets
set_option linter.unusedVariables false
set_option linter.unusedSimpArgs false
namespace Go.Proofs.Ytfleephpcomimaa.LV
open Go.RowKit Go.Proofs.YtfleephpcomimaaW.PrintWords Go.Proofs.YtfleephpcomimaaW.PrintLast Go.Proofs.YtfleephpcomimaaW.PrintMore Go.Proofs.BelM Go.Proofs.Ytfleephpcomimaa.V
/-! #### FBase -/

theorem w64 {x : Int} (h0 : -9223372036854775808 ≤ x) (h1 : x ≤ 9223372036854775807) : wrap64 x = x := by unfold wrap64; omega
theorem w64s {j : Nat} (h : j ≤ 281474976710656) : wrap64 ((j : Int) + 1) = ((j + 1 : Nat) : Int) := by rw [w64 (by omega) (by omega)]; omega
theorem wfb {a : Int} (h : (Lit.int .i64 a).wf = true) : -9223372036854775808 ≤ a ∧ a ≤ 9223372036854775807 := by
  have h2 : (decide (IntKind.min .i64 ≤ a) && decide (a ≤ IntKind.max .i64)) = true := h
  rw [Bool.and_eq_true, decide_eq_true_eq, decide_eq_true_eq] at h2
  exact h2
theorem wfu8 {a : Int} (h : (Lit.int .u8 a).wf = true) : 0 ≤ a ∧ a ≤ 255 := by
  have h2 : (decide (IntKind.min .u8 ≤ a) && decide (a ≤ IntKind.max .u8)) = true := h
  rw [Bool.and_eq_true, decide_eq_true_eq, decide_eq_true_eq] at h2
  exact h2
theorem pow_nat (j : Nat) : (2 : Int) ^ j = ((2 ^ j : Nat) : Int) := by simp
theorem pow_le128 {j : Nat} (hj : j < 8) : (2 : Int) ^ j ≤ 128 := by
  have : 2 ^ j ≤ 2 ^ 7 := Nat.pow_le_pow_right (by decide) (by omega)
  rw [pow_nat]; omega
theorem shl_small1 {j : Nat} (hj : j < 8) : shl .i64 1 j = 2 ^ j := by
  have h := pow_le128 hj
  have h0 := pow_pos j
  unfold shl
  rw [Int.toNat_natCast, Nat.min_eq_left (by show j ≤ 64; omega), Int.one_mul, IntKind.wrap_i64]
  omega
theorem shl_zero (j : Int) : shl .i64 0 j = 0 := by
  unfold shl
  rw [Int.zero_mul, IntKind.wrap_i64]; rfl
theorem toNat_le3 {t : Int} (ht : 1 ≤ t ∧ t ≤ 3) : 1 ≤ t.toNat ∧ t.toNat ≤ 3 := by omega
theorem worlds_le {t : Int} (ht : 1 ≤ t ∧ t ≤ 3) : 2 ^ t.toNat ≤ 8 := by
  have : 2 ^ t.toNat ≤ 2 ^ 3 := Nat.pow_le_pow_right (by decide) (by omega)
  omega
theorem worlds_ge {t : Int} (ht : 1 ≤ t ∧ t ≤ 3) : 2 ≤ 2 ^ t.toNat := by
  have : 2 ^ 1 ≤ 2 ^ t.toNat := Nat.pow_le_pow_right (by decide) (by omega)
  omega
theorem shl_things {t : Int} (ht : 1 ≤ t ∧ t ≤ 3) : shl .i64 1 t = ((2 ^ t.toNat : Nat) : Int) := by
  have h := shl_small1 (j := t.toNat) (by omega)
  rw [show ((t.toNat : Nat) : Int) = t by omega] at h
  rw [h, pow_nat]
theorem shr_nat {s : Int} {w : Nat} (hs : 0 ≤ s) (hw : w ≤ 64) : shr .i64 s w = s / 2 ^ w := by
  unfold shr
  rw [Int.toNat_natCast, Nat.min_eq_left (by show w ≤ 64; exact hw)]
theorem shr_val {s : Int} {w : Nat} (hs : 0 ≤ s) (hw : w ≤ 64) : shr .i64 s w = ((s.toNat / 2 ^ w : Nat) : Int) := by
  rw [shr_nat hs hw]
  have : s = (s.toNat : Int) := by omega
  rw [this, Int.toNat_natCast]; simp
theorem tmod_bit {s : Int} {w : Nat} (hs : 0 ≤ s) (hw : w ≤ 64) : Int.tmod (shr .i64 s w) 2 = if mem s w = true then 1 else 0 := by
  rw [shr_val hs hw]
  unfold mem
  rw [Nat.testBit_eq_decide_div_mod_eq]
  generalize s.toNat / 2 ^ w = m
  rw [Int.tmod_eq_emod_of_nonneg (Int.natCast_nonneg m)]
  by_cases h : m % 2 = 1
  · rw [if_pos (by simp [h])]; omega
  · rw [if_neg (by simp [h])]; omega
theorem and_bit {s : Int} {w : Nat} (hs : 0 ≤ s) (hs' : s < 256) (hw : w ≤ 64) : bits .and .i64 (shr .i64 s w) 1 = if mem s w = true then 1 else 0 := by
  rw [shr_nat hs hw]; exact and1 hs hs'

theorem l1In_eq (a b c : Int) : spec_l1In.f a b c = some (decide (b ≤ a ∧ a ≤ c)) := by
  unfold spec_l1In.f
  by_cases h : a ≥ b
  · rw [if_pos h]
    have h' : b ≤ a := h
    simp [h']
  · rw [if_neg h]
    have h' : ¬ b ≤ a := h
    simp [h']

/-- A set of worlds, for a number of things. -/
def SetP (t s : Int) : Prop := (1 ≤ t ∧ t ≤ 3) ∧ 0 ≤ s ∧ s < 2 ^ 2 ^ t.toNat
instance (t s : Int) : Decidable (SetP t s) := by unfold SetP; infer_instance
theorem SetP.lt8 {t s : Int} (h : SetP t s) : s < 2 ^ 8 := lt8of (worlds_le h.1) h.2.2
theorem SetP.lt256 {t s : Int} (h : SetP t s) : s < 256 := by
  have := h.lt8
  have : (2 : Int) ^ 8 = 256 := by decide
  omega
theorem SetP.mk {t : Int} (ht : 1 ≤ t ∧ t ≤ 3) (p : Nat → Bool) : SetP t (mk p (2 ^ t.toNat)) := ⟨ht, mk_nonneg _ _, mk_lt _ _⟩
theorem SetP.mem_lt {t s : Int} (h : SetP t s) {w : Nat} (hm : mem s w = true) : w < 2 ^ t.toNat := Go.Proofs.BelM.mem_lt h.2.1 h.2.2 hm

theorem all_spec {t : Int} (ht : 1 ≤ t ∧ t ≤ 3) : spec_l1All.f t = some (2 ^ 2 ^ t.toNat - 1) := by unfold spec_l1All.f; rw [if_pos ht]
theorem all_le {t : Int} (ht : 1 ≤ t ∧ t ≤ 3) : (2 : Int) ^ 2 ^ t.toNat ≤ 256 := le_pow8 (worlds_le ht)
theorem all_ge {t : Int} (ht : 1 ≤ t ∧ t ≤ 3) : (4 : Int) ≤ 2 ^ 2 ^ t.toNat := by
  have : 2 ^ 2 ≤ 2 ^ 2 ^ t.toNat := Nat.pow_le_pow_right (by decide) (worlds_ge ht)
  rw [pow_nat]; omega
theorem SetOk_eq (t s : Int) : spec_SetOk.f t s = some (decide (SetP t s)) := by
  unfold spec_SetOk.f
  rw [l1In_eq]
  simp only [Option.bind_some]
  by_cases ht : 1 ≤ t ∧ t ≤ 3
  · rw [if_pos (by simp [ht]), all_spec ht]
    simp only [Option.bind_some]
    rw [l1In_eq]
    simp only [Option.bind_some]
    congr 1
    apply decide_eq_decide.mpr
    unfold SetP
    generalize (2 : Int) ^ 2 ^ t.toNat = M
    omega
  · rw [if_neg (by simpa using ht)]
    congr 1
    symm
    apply decide_eq_false
    unfold SetP
    exact fun h => ht h.1

theorem l1Bit_eq {s : Int} {w : Nat} (hs : 0 ≤ s) (hw : w ≤ 64) : spec_l1Bit.f s w = some (if mem s w = true then 1 else 0) := by
  unfold spec_l1Bit.f
  rw [if_pos (by omega), tmod_bit hs hw]
/-- One more world of a sum. -/
theorem add_bit {p : Nat → Bool} {j : Nat} (hj : j < 8) (hp : p j = true) : wrap64 (mk p j + shl .i64 1 j) = mk p (j + 1) := by
  have h1 := mk_lt p j
  have h2 := mk_nonneg p j
  have h3 := pow_le128 hj
  rw [shl_small1 hj, mk_succ, if_pos hp, w64 (by omega) (by omega)]
theorem skip_bit {p : Nat → Bool} {j : Nat} (hp : p j = false) : mk p j = mk p (j + 1) := mk_skip hp
theorem step2 {a b : Int} {j : Nat} (hj : j < 8) : wrap64 (mk (fun w => mem a w && mem b w) j + shl .i64 (wrap64 ((if mem a j = true then 1 else 0) * (if mem b j = true then 1 else 0))) j) = mk (fun w => mem a w && mem b w) (j + 1) := by
  by_cases h : mem a j = true ∧ mem b j = true
  · rw [if_pos h.1, if_pos h.2, show wrap64 (1 * 1) = 1 by decide +kernel]
    exact add_bit hj (by simp [h.1, h.2])
  · have e : (if mem a j = true then (1 : Int) else 0) * (if mem b j = true then 1 else 0) = 0 := by
      by_cases ha : mem a j = true
      · rw [if_neg (fun hb => h ⟨ha, hb⟩), Int.mul_zero]
      · rw [if_neg ha, Int.zero_mul]
    have h2 := mk_nonneg (fun w => mem a w && mem b w) j
    have h1 := mk_lt (fun w => mem a w && mem b w) j
    have h3 := pow_le128 hj
    rw [e, show wrap64 0 = 0 by decide +kernel, shl_zero, Int.add_zero, w64 (by omega) (by omega)]
    exact skip_bit (by
      cases ha : mem a j
      · rfl
      · cases hb : mem b j
        · rfl
        · exact absurd ⟨ha, hb⟩ h)
theorem l1Both_loop {a b : Int} (ha : 0 ≤ a) (hb : 0 ≤ b) : ∀ (d k j : Nat), j + d = 8 → d < k → spec_l1Both.l0 k a b (mk (fun w => mem a w && mem b w) j) j = some (andS a b)
  | 0, k, j, hj, hk => by
    obtain ⟨k, rfl⟩ : ∃ m, k = m + 1 := ⟨k - 1, by omega⟩
    obtain rfl : j = 8 := by omega
    simp only [spec_l1Both.l0]
    rw [if_neg (by decide)]
    rfl
  | d + 1, k, j, hj, hk => by
    obtain ⟨k, rfl⟩ : ∃ m, k = m + 1 := ⟨k - 1, by omega⟩
    have ih := l1Both_loop ha hb d k (j + 1) (by omega) (by omega)
    simp only [spec_l1Both.l0]
    rw [if_pos (by omega), l1Bit_eq ha (by omega), l1Bit_eq hb (by omega)]
    simp only [Option.bind_some]
    rw [if_pos (by omega), w64s (by omega), step2 (by omega)]
    exact ih
theorem l1Both_eq {a b : Int} (ha : 0 ≤ a) (hb : 0 ≤ b) {k : Nat} (hk : 9 ≤ k) : spec_l1Both.f k a b = some (andS a b) := by
  unfold spec_l1Both.f
  exact l1Both_loop ha hb 8 k 0 (by omega) (by omega)
/-! #### FSets -/

theorem areThings_eq (t : Int) : impl_areThings.f t = some (decide (1 ≤ t ∧ t ≤ 3)) := by
  unfold impl_areThings.f
  by_cases h : t ≥ 1
  · rw [if_pos h]
    have h' : 1 ≤ t := h
    simp [h']
  · rw [if_neg h]
    have h' : ¬ 1 ≤ t := h
    simp [h']
theorem isSet_eq (t s : Int) : impl_isSet.f t s = some (decide (SetP t s)) := by
  unfold impl_isSet.f
  rw [areThings_eq]
  simp only [Option.bind_some]
  by_cases ht : 1 ≤ t ∧ t ≤ 3
  · rw [if_pos (by simp [ht])]
    by_cases h0 : s ≥ 0
    · rw [if_pos h0]
      unfold impl_allWorlds.f
      rw [if_pos ht]
      simp only [Option.bind_some]
      congr 1
      apply decide_eq_decide.mpr
      unfold SetP
      generalize (2 : Int) ^ 2 ^ t.toNat = M
      omega
    · rw [if_neg h0]
      congr 1
      symm
      apply decide_eq_false
      exact fun h => h0 h.2.1
  · rw [if_neg (by simpa using ht)]
    congr 1
    symm
    apply decide_eq_false
    exact fun h => ht h.1
/-! #### FEither -/
theorem l1Either_eq {a b : Int} (ha : 0 ≤ a) (ha' : a < 2 ^ 8) (hb : 0 ≤ b) (hb' : b < 2 ^ 8) {k : Nat} (hk : 9 ≤ k) : spec_l1Either.f k a b = some (orS a b) := by
  unfold spec_l1Either.f
  rw [l1Both_eq ha hb hk]
  simp only [Option.bind_some]
  have h1 := andS_nonneg a b
  have h2 := andS_lt8 a b
  have h3 : (2 : Int) ^ 8 = 256 := by decide
  rw [w64 (x := a + b) (by omega) (by omega), w64 (by omega) (by omega), add_sub_and ha ha' hb hb']
/-! #### GParse -/
def AL (t : Int) : Int := 2 ^ 2 ^ t.toNat - 1
def LE (t b : Int) : Int := impl_sentenceReader_sentence.set t b
theorem bt_rng (s : ByteArray) (i : Int) : 0 ≤ bt s i ∧ bt s i ≤ 255 := by
  unfold bt
  split
  · rename_i h
    have := (s[i.toNat]'h).toNat_lt
    omega
  · omega
/-- The set of the sentence at a place, and where it ends. -/
def prs (t : Int) (s : ByteArray) : Nat → Nat → Option (Int × Nat)
  | 0, _ => none
  | n + 1, a => if s.size ≤ a then none else
    if bt s a = 49 then some (AL t, a + 1) else if bt s a = 48 then some (0, a + 1)
    else if 97 ≤ bt s a ∧ bt s a - 97 < t then some (LE t (bt s a), a + 1)
    else if bt s a = 33 then (prs t s n (a + 1)).bind fun p => some (AL t - p.1, p.2)
    else if bt s a = 40 then (prs t s n (a + 1)).bind fun p => (if s.size ≤ p.2 then none else (prs t s n (p.2 + 1)).bind fun q =>
      (if s.size ≤ q.2 ∨ bt s q.2 ≠ 41 then none else if bt s p.2 = 38 then some (andS p.1 q.1, q.2 + 1) else if bt s p.2 = 124 then some (orS p.1 q.1, q.2 + 1) else if bt s p.2 = 62 then some (orS (AL t - p.1) q.1, q.2 + 1) else none))
    else none
section
variable {t : Int} {s : ByteArray}
theorem SetP.rest {x : Int} (h : SetP t x) : SetP t (AL t - x) := by
  have h1 := h.2.1
  have h2 := h.2.2
  unfold AL
  exact ⟨h.1, by omega, by omega⟩
theorem SetP.all (ht : 1 ≤ t ∧ t ≤ 3) : SetP t (AL t) := by
  have h1 := all_ge ht
  unfold AL
  exact ⟨ht, by omega, by omega⟩
theorem SetP.nil (ht : 1 ≤ t ∧ t ≤ 3) : SetP t 0 := ⟨ht, Int.le_refl _, by have := all_ge ht; omega⟩
theorem SetP.and {x y : Int} (hx : SetP t x) (hy : SetP t y) : SetP t (andS x y) := ⟨hx.1, andS_nonneg _ _, andS_lt (worlds_le hx.1) hx.2.1 hx.2.2⟩
theorem SetP.or {x y : Int} (hx : SetP t x) (hy : SetP t y) : SetP t (orS x y) := ⟨hx.1, orS_nonneg _ _, orS_lt (worlds_le hx.1) hx.2.1 hx.2.2 hy.2.1 hy.2.2⟩
theorem prs_ok (ht : 1 ≤ t ∧ t ≤ 3) : ∀ (n a : Nat) (x : Int) (e : Nat), prs t s n a = some (x, e) → (a < e ∧ e ≤ s.size) ∧ SetP t x ∧ ∀ j, a ≤ j → j < e → bt s j ≠ 45
  | 0, a, x, e, h => by simp [prs] at h
  | n + 1, a, x, e, h => by
    simp only [prs] at h
    by_cases h0 : s.size ≤ a
    · rw [if_pos h0] at h; exact absurd h (by simp)
    rw [if_neg h0] at h
    have one : ∀ {v : Int}, v ≠ 45 → bt s a = v → ∀ j, a ≤ j → j < a + 1 → bt s j ≠ 45 := by
      intro v hv hb j h1 h2
      have : j = a := by omega
      subst this
      rw [hb]; exact hv
    by_cases c49 : bt s a = 49
    · rw [if_pos c49] at h
      simp only [Option.some.injEq, Prod.mk.injEq] at h
      obtain ⟨rfl, rfl⟩ := h
      exact ⟨⟨by omega, by omega⟩, SetP.all ht, one (by decide) c49⟩
    rw [if_neg c49] at h
    by_cases c48 : bt s a = 48
    · rw [if_pos c48] at h
      simp only [Option.some.injEq, Prod.mk.injEq] at h
      obtain ⟨rfl, rfl⟩ := h
      exact ⟨⟨by omega, by omega⟩, SetP.nil ht, one (by decide) c48⟩
    rw [if_neg c48] at h
    by_cases cl : 97 ≤ bt s a ∧ bt s a - 97 < t
    · rw [if_pos cl] at h
      simp only [Option.some.injEq, Prod.mk.injEq] at h
      obtain ⟨rfl, rfl⟩ := h
      exact ⟨⟨by omega, by omega⟩, SetP.mk ht _, one (v := bt s a) (by omega) rfl⟩
    rw [if_neg cl] at h
    by_cases c33 : bt s a = 33
    · rw [if_pos c33] at h
      obtain ⟨⟨p1, p2⟩, hp, h⟩ := Option.bind_eq_some_iff.mp h
      simp only [Option.some.injEq, Prod.mk.injEq] at h
      obtain ⟨rfl, rfl⟩ := h
      obtain ⟨i1, i2, i3⟩ := prs_ok ht n _ _ _ hp
      refine ⟨⟨by omega, by omega⟩, i2.rest, fun j h1 h2 => ?_⟩
      by_cases e : j = a
      · subst e; rw [c33]; decide
      · exact i3 j (by omega) h2
    rw [if_neg c33] at h
    by_cases c40 : bt s a = 40
    · rw [if_pos c40] at h
      obtain ⟨⟨p1, p2⟩, hp, h⟩ := Option.bind_eq_some_iff.mp h
      obtain ⟨i1, i2, i3⟩ := prs_ok ht n _ _ _ hp
      simp only at h
      by_cases h1 : s.size ≤ p2
      · rw [if_pos h1] at h; exact absurd h (by simp)
      rw [if_neg h1] at h
      obtain ⟨⟨q1, q2⟩, hq, h⟩ := Option.bind_eq_some_iff.mp h
      obtain ⟨j1, j2, j3⟩ := prs_ok ht n _ _ _ hq
      simp only at h
      by_cases h2 : s.size ≤ q2 ∨ bt s q2 ≠ 41
      · rw [if_pos h2] at h; exact absurd h (by simp)
      rw [if_neg h2] at h
      have h41 : bt s q2 = 41 := by
        refine Classical.byContradiction fun hn => h2 (.inr hn)
      have hq2 : ¬ s.size ≤ q2 := fun hn => h2 (.inl hn)
      have rest : bt s p2 ≠ 45 → ∀ j, a ≤ j → j < q2 + 1 → bt s j ≠ 45 := by
        intro hp2 j k1 k2
        by_cases e1 : j = a
        · subst e1; rw [c40]; decide
        by_cases e2 : j < p2
        · exact i3 j (by omega) e2
        by_cases e3 : j = p2
        · subst e3; exact hp2
        by_cases e4 : j = q2
        · subst e4; rw [h41]; decide
        exact j3 j (by omega) (by omega)
      by_cases c38 : bt s p2 = 38
      · rw [if_pos c38] at h
        simp only [Option.some.injEq, Prod.mk.injEq] at h
        obtain ⟨rfl, rfl⟩ := h
        exact ⟨⟨by omega, by omega⟩, i2.and j2, rest (by rw [c38]; decide)⟩
      rw [if_neg c38] at h
      by_cases c124 : bt s p2 = 124
      · rw [if_pos c124] at h
        simp only [Option.some.injEq, Prod.mk.injEq] at h
        obtain ⟨rfl, rfl⟩ := h
        exact ⟨⟨by omega, by omega⟩, i2.or j2, rest (by rw [c124]; decide)⟩
      rw [if_neg c124] at h
      by_cases c62 : bt s p2 = 62
      · rw [if_pos c62] at h
        simp only [Option.some.injEq, Prod.mk.injEq] at h
        obtain ⟨rfl, rfl⟩ := h
        exact ⟨⟨by omega, by omega⟩, i2.rest.or j2, rest (by rw [c62]; decide)⟩
      rw [if_neg c62] at h
      exact absurd h (by simp)
    rw [if_neg c40] at h
    exact absurd h (by simp)
/-! ### The reference reads so -/
def toldP : Option (Int × Nat) → Int × Int
  | some (x, e) => (x, (e : Int))
  | none => (-1, -1)
theorem letter_loop (ht : 1 ≤ t ∧ t ≤ 3) {a : Nat} (ha : a < s.size) (hs : s.size ≤ 1000) (hb : 97 ≤ bt s a ∧ bt s a - 97 < t) : ∀ (d k w : Nat), w + d = 2 ^ t.toNat → d < k →
    spec_l1Read.l0 k t s a (mk (fun w => w.testBit (bt s a - 97).toNat) w) w = some (LE t (bt s a), ((a + 1 : Nat) : Int))
  | 0, k, w, hw, hk => by
    obtain ⟨k, rfl⟩ : ∃ m, k = m + 1 := ⟨k - 1, by omega⟩
    have h8 := worlds_le ht
    simp only [spec_l1Read.l0]
    have : w = 2 ^ t.toNat := by omega
    subst this
    rw [if_pos (by omega), shl_things ht, if_neg (by omega), w64s (by omega)]
    rfl
  | d + 1, k, w, hw, hk => by
    obtain ⟨k, rfl⟩ : ∃ m, k = m + 1 := ⟨k - 1, by omega⟩
    have h8 := worlds_le ht
    obtain ⟨th, hth⟩ : ∃ th : Nat, bt s a - 97 = th := ⟨(bt s a - 97).toNat, by omega⟩
    have ih := letter_loop ht ha hs hb d k (w + 1) (by omega) (by omega)
    simp only [spec_l1Read.l0]
    rw [if_pos (by omega), shl_things ht, if_pos (by omega), if_pos (by omega), if_pos (by omega), if_pos (by omega), w64s (by omega)]
    have e : wrap64 (mk (fun w => w.testBit (bt s a - 97).toNat) w + shl .i64 (Int.tmod (shr .i64 (w : Int) ((bt s a - 97) % 256)) 2) w) = mk (fun w => w.testBit (bt s a - 97).toNat) (w + 1) := by
      rw [hth, show ((th : Nat) : Int) % 256 = (th : Int) by omega, tmod_bit (by omega) (by omega)]
      have hm : mem (w : Int) th = w.testBit th := by unfold mem; rw [Int.toNat_natCast]
      rw [hm, Int.toNat_natCast]
      by_cases hb : w.testBit th = true
      · rw [if_pos hb]
        exact add_bit (p := fun w => w.testBit th) (by omega) hb
      · have hb : w.testBit th = false := by simpa using hb
        rw [if_neg (by rw [hb]; decide), shl_zero, Int.add_zero]
        have h1 := mk_nonneg (fun w => w.testBit th) w
        have h2 := mk_lt (fun w => w.testBit th) w
        have h3 := pow_le128 (j := w) (by omega)
        rw [w64 (by omega) (by omega)]
        exact skip_bit (p := fun w => w.testBit th) hb
    rw [e]
    exact ih
theorem read_eq (ht : 1 ≤ t ∧ t ≤ 3) (hs : s.size ≤ 1000) : ∀ (n a k : Nat), s.size < a + n → a ≤ s.size → n * 6 + 40 ≤ k → spec_l1Read.f k t s a = some (toldP (prs t s n a))
  | 0, a, k, hn, ha, hk => by omega
  | n + 1, a, k, hn, ha, hk => by
    obtain ⟨k, rfl⟩ : ∃ m, k = m + 4 := ⟨k - 4, by omega⟩
    have h8 := worlds_le ht
    have hb := bt_rng s (a : Int)
    simp only [prs]
    rw [spec_l1Read.f]
    by_cases h0 : s.size ≤ a
    · rw [if_pos (by omega), if_pos h0]; rfl
    rw [if_neg (by omega), if_neg h0, all_spec ht]
    simp only [Option.bind_some]
    rw [if_pos (by omega), if_pos (by omega), w64s (by omega)]
    by_cases c49 : bt s a = 49
    · rw [if_pos c49, if_pos c49]; rfl
    rw [if_neg c49, if_neg c49]
    by_cases c48 : bt s a = 48
    · rw [if_pos c48, if_pos c48]; rfl
    rw [if_neg c48, if_neg c48]
    have other : ¬ (97 ≤ bt s a ∧ bt s a - 97 < t) → spec_l1Read.j0 (k + 3) t s a (2 ^ 2 ^ t.toNat - 1) false = some (toldP (if bt s a = 33 then (prs t s n (a + 1)).bind fun p => some (AL t - p.1, p.2)
      else if bt s a = 40 then (prs t s n (a + 1)).bind fun p => (if s.size ≤ p.2 then none else (prs t s n (p.2 + 1)).bind fun q =>
        (if s.size ≤ q.2 ∨ bt s q.2 ≠ 41 then none else if bt s p.2 = 38 then some (andS p.1 q.1, q.2 + 1) else if bt s p.2 = 124 then some (orS p.1 q.1, q.2 + 1) else if bt s p.2 = 62 then some (orS (AL t - p.1) q.1, q.2 + 1) else none))
      else none)) := by
      intro _
      rw [spec_l1Read.j0, if_neg (by decide), if_pos (by omega), if_pos (by omega), w64s (by omega)]
      by_cases c33 : bt s a = 33
      · rw [if_pos c33, if_pos c33, read_eq ht hs n (a + 1) (k + 2) (by omega) (by omega) (by omega)]
        simp only [Option.bind_some]
        cases hp : prs t s n (a + 1) with
        | none => rw [toldP]; rw [if_pos (by decide)]; rfl
        | some p =>
          obtain ⟨p1, p2⟩ := p
          obtain ⟨i1, i2, _⟩ := prs_ok ht n _ _ _ hp
          have i3 := i2.rest
          have h256 := all_le ht
          rw [toldP]
          simp only
          rw [if_neg (by omega), w64 (x := 2 ^ 2 ^ t.toNat - 1 - p1) (by have := i3.2.1; unfold AL at this; omega) (by have := i3.lt256; unfold AL at this; omega)]
          rfl
      rw [if_neg c33, if_neg c33]
      by_cases c40 : bt s a = 40
      · rw [if_pos c40, if_pos c40, read_eq ht hs n (a + 1) (k + 2) (by omega) (by omega) (by omega)]
        simp only [Option.bind_some]
        cases hp : prs t s n (a + 1) with
        | none => rw [toldP]; rw [if_pos (by decide), spec_l1Read.j2, if_pos rfl]; rfl
        | some p =>
          obtain ⟨p1, p2⟩ := p
          obtain ⟨i1, i2, _⟩ := prs_ok ht n _ _ _ hp
          rw [toldP]
          simp only [Option.bind_some]
          rw [if_neg (by omega), spec_l1Read.j2]
          by_cases h1 : s.size ≤ p2
          · rw [if_pos (by simp; omega), if_pos h1]; rfl
          rw [if_neg (by simp; omega), if_neg h1, w64s (by omega), read_eq ht hs n (p2 + 1) (k + 1) (by omega) (by omega) (by omega)]
          simp only [Option.bind_some]
          cases hq : prs t s n (p2 + 1) with
          | none => rw [toldP]; rw [if_pos (by decide), spec_l1Read.j3, if_pos rfl]; rfl
          | some q =>
            obtain ⟨q1, q2⟩ := q
            obtain ⟨j1, j2, _⟩ := prs_ok ht n _ _ _ hq
            rw [toldP]
            simp only [Option.bind_some]
            rw [if_neg (by omega)]
            by_cases h2 : s.size ≤ q2
            · rw [if_pos (by omega), if_pos (.inl h2), spec_l1Read.j3, if_pos rfl]; rfl
            rw [if_neg (by omega), if_pos (by omega), if_pos (by omega)]
            by_cases h41 : bt s q2 = 41
            · have e41 : (bt s q2 != 41) = false := by rw [h41]; rfl
              have n2 : ¬ (s.size ≤ q2 ∨ bt s q2 ≠ 41) := by
                rintro (h | h)
                · exact h2 h
                · exact h h41
              rw [if_neg n2, e41, spec_l1Read.j3, if_neg (by decide), if_pos (by omega), if_pos (by omega), w64s (by omega)]
              by_cases c38 : bt s p2 = 38
              · rw [if_pos c38, if_pos c38, l1Both_eq i2.2.1 j2.2.1 (by omega)]; rfl
              rw [if_neg c38, if_neg c38]
              by_cases c124 : bt s p2 = 124
              · rw [if_pos c124, if_pos c124, l1Either_eq i2.2.1 i2.lt8 j2.2.1 j2.lt8 (by omega)]; rfl
              rw [if_neg c124, if_neg c124]
              by_cases c62 : bt s p2 = 62
              · have i3 := i2.rest
                rw [if_pos c62, if_pos c62, w64 (x := 2 ^ 2 ^ t.toNat - 1 - p1) (by have := i3.2.1; unfold AL at this; omega) (by have := i3.lt256; unfold AL at this; omega), show (2 : Int) ^ 2 ^ t.toNat - 1 - p1 = AL t - p1 from rfl, l1Either_eq i3.2.1 i3.lt8 j2.2.1 j2.lt8 (by omega)]; rfl
              rw [if_neg c62, if_neg c62]; rfl
            · have e41 : (bt s q2 != 41) = true := bne_iff_ne.mpr h41
              rw [e41, spec_l1Read.j3, if_pos rfl, if_pos (.inr h41)]; rfl
      rw [if_neg c40, if_neg c40]; rfl
    by_cases c97 : bt s a ≥ 97
    · rw [if_pos c97, show (bt s (a : Int) - 97) % 256 = bt s a - 97 by omega]
      by_cases hlt : bt s a - 97 < t
      · rw [if_pos ⟨c97, hlt⟩, decide_eq_true hlt, spec_l1Read.j0, if_pos rfl]
        have := letter_loop ht (a := a) (by omega) hs ⟨c97, hlt⟩ (2 ^ t.toNat) (k + 2) 0 (by omega) (by omega)
        exact this
      · rw [if_neg (fun h => hlt h.2), decide_eq_false hlt]
        exact other (fun h => hlt h.2)
    · rw [if_neg c97, if_neg (fun h => c97 h.1)]
      exact other (fun h => c97 h.1)
end
/-! #### GParse2 -/
section
variable {t : Int} {s : ByteArray}
theorem xor_AL {x : Int} (h : SetP t x) : bits .xor .i64 (2 ^ 2 ^ t.toNat - 1) x = AL t - x := by
  have h8 := worlds_le h.1
  have ha := SetP.all h.1
  have hr := h.rest
  have e : (2 : Int) ^ 2 ^ t.toNat - 1 = AL t := rfl
  rw [e, bits_xor8 ha.2.1 ha.lt256 h.2.1 h.lt256]
  refine ext (n := 8) (mk_nonneg _ _) (mk_lt _ _) hr.2.1 hr.lt8 (fun w hw => ?_)
  have hx : mem (AL t - x) w = if w < 2 ^ t.toNat then !mem x w else false := by
    by_cases hn : w < 2 ^ t.toNat
    · rw [if_pos hn]
      unfold AL
      rw [rest_eq h.2.1 h.2.2, mem_mk_lt _ hn]
    · rw [if_neg hn, mem_high hr.2.1 hr.2.2 (by omega)]
  rw [mem_mk_lt _ hw, hx, ← e, mem_all]
  by_cases hn : w < 2 ^ t.toNat
  · simp [hn]
  · rw [mem_high h.2.1 h.2.2 (by omega)]; simp [hn]
theorem next_at {a : Nat} (ha : a < s.size) (hs : s.size ≤ 1000) : impl_sentenceReader_next.f t s a = some (bt s a, t, s, ((a + 1 : Nat) : Int)) := by
  have e : wrap64 (wrap64 ((a : Int) + 1) - 1) = a := by rw [w64s (by omega), w64 (by omega) (by omega)]; omega
  unfold impl_sentenceReader_next.f
  rw [e, if_neg (by omega), if_pos (by omega), if_pos (by omega), w64s (by omega)]
theorem next_end {a : Nat} (ha : s.size = a) : impl_sentenceReader_next.f t s a = some (0, t, s, (a : Int)) := by
  unfold impl_sentenceReader_next.f
  rw [if_pos (by omega)]
/-- The reader's answer, beside the sentence that stands there. -/
def Rd (t : Int) (s : ByteArray) : Option (Int × Nat) → Int × Bool × Int × ByteArray × Int → Prop
  | some (x, e), r => r = (x, true, t, s, (e : Int))
  | none, r => ∃ (y e : Int), r = (y, false, t, s, e)
theorem sent_rd (ht : 1 ≤ t ∧ t ≤ 3) (hs : s.size ≤ 1000) : ∀ (n a k : Nat), s.size < a + n → a ≤ s.size → n ≤ k → ∃ r, impl_sentenceReader_sentence.f k t s a = some r ∧ Rd t s (prs t s n a) r
  | 0, a, k, hn, ha, hk => by omega
  | n + 1, a, k, hn, ha, hk => by
    obtain ⟨k, rfl⟩ : ∃ m, k = m + 1 := ⟨k - 1, by omega⟩
    simp only [prs]
    rw [impl_sentenceReader_sentence.f, if_pos ht]
    by_cases h0 : s.size ≤ a
    · rw [if_pos h0, next_end (by omega)]
      simp only [Option.bind_some]
      rw [if_neg (by decide), if_neg (by decide), if_neg (by decide), if_neg (by decide), if_neg (by decide)]
      exact ⟨_, rfl, _, _, rfl⟩
    rw [if_neg h0, next_at (by omega) hs]
    simp only [Option.bind_some]
    by_cases c49 : bt s a = 49
    · rw [if_pos c49, if_neg (by omega), if_pos c49]
      exact ⟨_, rfl, rfl⟩
    by_cases c48 : bt s a = 48
    · rw [if_pos c48, if_neg c49, if_pos c48]
      exact ⟨_, rfl, rfl⟩
    rw [if_neg c48, if_neg c49, if_neg c49, if_neg c48]
    by_cases cl : bt s a = 97 ∨ bt s a = 98 ∨ bt s a = 99
    · rw [if_pos cl]
      by_cases hlt : bt s a - 97 < t
      · rw [if_pos ⟨by omega, hlt⟩, decide_eq_true hlt]
        exact ⟨_, rfl, rfl⟩
      · rw [if_neg (fun h => hlt h.2), if_neg (by omega), if_neg (by omega), decide_eq_false hlt]
        exact ⟨_, rfl, _, _, rfl⟩
    rw [if_neg cl, if_neg (show ¬ (97 ≤ bt s a ∧ bt s a - 97 < t) by omega)]
    by_cases c33 : bt s a = 33
    · rw [if_pos c33, if_pos c33]
      obtain ⟨r, hr, hrd⟩ := sent_rd ht hs n (a + 1) k (by omega) (by omega) (by omega)
      rw [hr]
      cases hp : prs t s n (a + 1) with
      | none =>
        rw [hp] at hrd
        obtain ⟨y, e, rfl⟩ := hrd
        exact ⟨_, rfl, _, _, rfl⟩
      | some p =>
        obtain ⟨p1, p2⟩ := p
        rw [hp] at hrd
        obtain ⟨i1, i2, _⟩ := prs_ok ht n _ _ _ hp
        have hrd : r = (p1, true, t, s, (p2 : Int)) := hrd
        subst hrd
        simp only [Option.bind_some]
        rw [xor_AL i2]
        exact ⟨_, rfl, rfl⟩
    rw [if_neg c33, if_neg c33]
    by_cases c40 : bt s a = 40
    · rw [if_pos c40, if_pos c40]
      obtain ⟨r, hr, hrd⟩ := sent_rd ht hs n (a + 1) k (by omega) (by omega) (by omega)
      rw [hr]
      cases hp : prs t s n (a + 1) with
      | none =>
        rw [hp] at hrd
        obtain ⟨y, e, rfl⟩ := hrd
        exact ⟨_, rfl, _, _, rfl⟩
      | some p =>
        obtain ⟨p1, p2⟩ := p
        rw [hp] at hrd
        obtain ⟨i1, i2, _⟩ := prs_ok ht n _ _ _ hp
        have hrd : r = (p1, true, t, s, (p2 : Int)) := hrd
        subst hrd
        simp only [Option.bind_some]
        rw [if_pos trivial]
        by_cases h1 : s.size ≤ p2
        · rw [if_pos h1, next_end (by omega)]
          simp only [Option.bind_some]
          obtain ⟨q, hq, hqd⟩ := sent_rd ht hs n p2 k (by omega) (by omega) (by omega)
          have hz : prs t s n p2 = none := by
            obtain ⟨m, rfl⟩ : ∃ m, n = m + 1 := ⟨n - 1, by omega⟩
            simp only [prs]
            rw [if_pos h1]
          rw [hz] at hqd
          obtain ⟨y, e, rfl⟩ := hqd
          rw [hq]
          exact ⟨_, rfl, _, _, rfl⟩
        rw [if_neg h1, next_at (by omega) hs]
        simp only [Option.bind_some]
        obtain ⟨q, hq, hqd⟩ := sent_rd ht hs n (p2 + 1) k (by omega) (by omega) (by omega)
        rw [hq]
        cases hq2 : prs t s n (p2 + 1) with
        | none =>
          rw [hq2] at hqd
          obtain ⟨y, e, rfl⟩ := hqd
          exact ⟨_, rfl, _, _, rfl⟩
        | some z =>
          obtain ⟨q1, q2⟩ := z
          rw [hq2] at hqd
          obtain ⟨j1, j2, _⟩ := prs_ok ht n _ _ _ hq2
          have hqd : q = (q1, true, t, s, (q2 : Int)) := hqd
          subst hqd
          simp only [Option.bind_some]
          rw [if_pos trivial]
          by_cases h2 : s.size ≤ q2
          · rw [if_pos (.inl h2), next_end (by omega)]
            exact ⟨_, rfl, _, _, rfl⟩
          rw [next_at (by omega) hs]
          simp only [Option.bind_some]
          by_cases h41 : bt s q2 = 41
          · have n2 : ¬ (s.size ≤ q2 ∨ bt s q2 ≠ 41) := by
              rintro (h | h)
              · exact h2 h
              · exact h h41
            rw [if_neg n2, if_pos h41]
            by_cases c38 : bt s p2 = 38
            · rw [if_pos c38, if_pos c38, bits_and8 i2.2.1 i2.lt256 j2.2.1 j2.lt256]
              exact ⟨_, rfl, rfl⟩
            rw [if_neg c38, if_neg c38]
            by_cases c124 : bt s p2 = 124
            · rw [if_pos c124, if_pos c124, bits_or8 i2.2.1 i2.lt256 j2.2.1 j2.lt256]
              exact ⟨_, rfl, rfl⟩
            rw [if_neg c124, if_neg c124]
            by_cases c62 : bt s p2 = 62
            · have i3 := i2.rest
              rw [if_pos c62, if_pos c62, xor_AL i2, bits_or8 i3.2.1 i3.lt256 j2.2.1 j2.lt256]
              exact ⟨_, rfl, rfl⟩
            rw [if_neg c62, if_neg c62]
            exact ⟨_, rfl, _, _, rfl⟩
          · rw [if_neg h41, if_pos (.inr h41)]
            exact ⟨_, rfl, _, _, rfl⟩
    rw [if_neg c40, if_neg c40]
    exact ⟨_, rfl, _, _, rfl⟩
/-- Where a sentence holds; -1 and false where it is none. -/
def HI (t : Int) (s : ByteArray) : Int × Bool :=
  if (1 ≤ t ∧ t ≤ 3) ∧ s.size ≤ 120 then (match prs t s (s.size + 1) 0 with
    | some (x, e) => if e = s.size then (x, true) else (-1, false)
    | none => (-1, false)) else (-1, false)
theorem spec_HoldsIn_eq (t : Int) (s : ByteArray) {k : Nat} (hk : 800 ≤ k) : spec_HoldsIn.f k t s = some (HI t s) := by
  obtain ⟨k, rfl⟩ : ∃ m, k = m + 1 := ⟨k - 1, by omega⟩
  unfold spec_HoldsIn.f HI
  rw [l1In_eq]
  simp only [Option.bind_some]
  by_cases ht : 1 ≤ t ∧ t ≤ 3
  · rw [if_pos (by exact decide_eq_true ht)]
    simp only [spec_HoldsIn.j0]
    by_cases hs : s.size ≤ 120
    · rw [if_neg (by simp; omega), if_pos ⟨ht, hs⟩]
      have hr := read_eq (s := s) ht (by omega) (s.size + 1) 0 k (by omega) (by omega) (by omega)
      rw [show ((0 : Nat) : Int) = 0 from rfl] at hr
      rw [hr]
      cases hp : prs t s (s.size + 1) 0 with
      | none => rw [toldP]; simp only [Option.bind_some]; rw [if_neg (by omega)]
      | some p =>
        obtain ⟨x, e⟩ := p
        rw [toldP]
        simp only [Option.bind_some]
        by_cases he : e = s.size
        · rw [if_pos (by omega), if_pos he]
        · rw [if_neg (by omega), if_neg he]
    · rw [if_pos (by simp; omega), if_neg (fun h => hs h.2)]
  · rw [if_neg (by simpa using ht), if_neg (fun h => ht h.1)]
    simp only [spec_HoldsIn.j0]
    rw [if_pos trivial]
theorem impl_HoldsIn_eq (t : Int) (s : ByteArray) {k : Nat} (hk : 800 ≤ k) : impl_HoldsIn.f k t s = some (HI t s) := by
  unfold impl_HoldsIn.f HI
  rw [areThings_eq]
  simp only [Option.bind_some]
  by_cases ht : 1 ≤ t ∧ t ≤ 3
  · rw [if_pos (by exact decide_eq_true ht)]
    by_cases hs : s.size ≤ 120
    · rw [if_neg (by omega), if_pos ⟨ht, hs⟩]
      obtain ⟨r, hr, hrd⟩ := sent_rd (s := s) ht (by omega) (s.size + 1) 0 k (by omega) (by omega) (by omega)
      rw [show ((0 : Nat) : Int) = 0 from rfl] at hr
      unfold impl_holdsIn.f
      rw [hr]
      cases hp : prs t s (s.size + 1) 0 with
      | none =>
        rw [hp] at hrd
        obtain ⟨y, e, rfl⟩ := hrd
        rfl
      | some p =>
        obtain ⟨x, e⟩ := p
        rw [hp] at hrd
        have hrd : r = (x, true, t, s, (e : Int)) := hrd
        subst hrd
        simp only [Option.bind_some]
        rw [if_pos trivial]
        by_cases he : e = s.size
        · rw [if_pos (by exact ⟨by omega, trivial⟩), if_pos he]; rfl
        · rw [if_neg (by rintro ⟨h, _⟩; omega), if_neg he, if_pos trivial]; rfl
    · rw [if_pos (by omega), if_neg (fun h => hs h.2)]
  · rw [if_neg (by simpa using ht), if_neg (fun h => ht h.1)]
theorem HI_no45 (h : (HI t s).2 = true) : ∀ j, j < s.size → bt s (j : Nat) ≠ 45 := by
  unfold HI at h
  by_cases ht : (1 ≤ t ∧ t ≤ 3) ∧ s.size ≤ 120
  · rw [if_pos ht] at h
    cases hp : prs t s (s.size + 1) 0 with
    | none => rw [hp] at h; exact absurd h (by simp)
    | some p =>
      obtain ⟨x, e⟩ := p
      rw [hp] at h
      by_cases he : e = s.size
      · obtain ⟨_, _, h3⟩ := prs_ok ht.1 _ _ _ _ hp
        intro j hj
        exact h3 j (by omega) (by omega)
      · simp only at h
        rw [if_neg he] at h
        exact absurd h (by simp)
  · rw [if_neg ht] at h
    exact absurd h (by simp)
end
/-! #### GRead -/
section
variable {t : Int} {s : ByteArray}
theorem bt_nat {i : Nat} (h : i < s.size) : bt s (i : Int) = ((s[i]'h).toNat : Int) := by
  unfold bt
  rw [dif_pos (by rw [Int.toNat_natCast]; exact h)]
  rfl
theorem bt_extract {i a b : Nat} (h : i < (s.extract a b).size) : bt (s.extract a b) (i : Int) = bt s ((a + i : Nat) : Int) := by
  have h2 := h
  rw [ByteArray.size_extract] at h2
  rw [bt_nat h, bt_nat (show a + i < s.size by omega), ByteArray.getElem_extract]
/-- The arrow stands there. -/
def occ (s : ByteArray) (j : Nat) : Prop := j + 1 < s.size ∧ bt s (j : Nat) = 45 ∧ bt s ((j + 1 : Nat) : Int) = 62
theorem occAt_iff (s : ByteArray) (j : Nat) : Lib.occAt s.data.toList (⟨#[45, 62]⟩ : ByteArray).data.toList j = true ↔ occ s j := by
  have hz := Lib.size_eq s
  show ([45, 62] : List UInt8).isPrefixOf (s.data.toList.drop j) = true ↔ _
  unfold occ
  by_cases h1 : j + 1 < s.size
  · have e : s.data.toList.drop j = s.data.toList[j]'(by omega) :: s.data.toList[j + 1]'(by omega) :: s.data.toList.drop (j + 2) := by
      rw [List.drop_eq_getElem_cons (by omega), List.drop_eq_getElem_cons (by omega)]
    rw [e, bt_nat (show j < s.size by omega), bt_nat h1]
    have g1 : s[j]'(by omega) = s.data.toList[j]'(by omega) := by rw [ByteArray.getElem_eq_getElem_data]; simp
    have g2 : s[j + 1]'h1 = s.data.toList[j + 1]'(by omega) := by rw [ByteArray.getElem_eq_getElem_data]; simp
    rw [g1, g2]
    generalize s.data.toList[j]'(by omega) = x
    generalize s.data.toList[j + 1]'(by omega) = y
    have k1 : ∀ (z : UInt8) (n : Nat) (hn : n < 256), ((z.toNat : Int) = n) ↔ (UInt8.ofNat n == z) = true := by
      intro z n hn
      rw [beq_iff_eq]
      constructor
      · intro h
        have h : z.toNat = n := by omega
        rw [← h]; simp
      · intro h
        rw [← h]
        simp
        omega
    have k45 := k1 x 45 (by decide)
    have k62 := k1 y 62 (by decide)
    rw [show ((45 : Nat) : Int) = 45 from rfl] at k45
    rw [show ((62 : Nat) : Int) = 62 from rfl] at k62
    rw [k45, k62]
    show ((45 : UInt8) == x && ((62 : UInt8) == y && true)) = true ↔ _
    rw [Bool.and_eq_true, Bool.and_true]
    exact ⟨fun h => ⟨h1, h.1, h.2⟩, fun h => ⟨h.2.1, h.2.2⟩⟩
  · refine ⟨fun h => ?_, fun h => absurd h.1 h1⟩
    have hl := (List.isPrefixOf_iff_prefix.1 h).length_le
    rw [List.length_drop] at hl
    simp only [List.length_cons, List.length_nil] at hl
    omega
/-- A rule is read with the arrow there. -/
def good (t : Int) (s : ByteArray) (j : Nat) : Prop := occ s j ∧ (HI t (s.extract 0 j)).2 = true ∧ (HI t (s.extract (j + 2) s.size)).2 = true ∧ (HI t (s.extract 0 j)).1 ≠ 0
def got (t : Int) (s : ByteArray) (j : Nat) : Int × Int × Bool := ((HI t (s.extract 0 j)).1, (HI t (s.extract (j + 2) s.size)).1, true)
theorem good_first {j i : Nat} (h : good t s j) (hi : i < j) : ¬ occ s i := by
  intro ho
  obtain ⟨h1, h2, _⟩ := h
  have hsz : (s.extract 0 j).size = j := by rw [ByteArray.size_extract]; have := h1.1; omega
  have := HI_no45 h2 i (by omega)
  rw [bt_extract (by omega), Nat.zero_add] at this
  exact this ho.2.1
theorem step_eq {k j : Nat} (hs : s.size ≤ 1048576) (hj : j + 1 < s.size) (hk : 800 ≤ k) : (good t s j → spec_ReadRule.l0 (k + 2) t s j = some (got t s j)) ∧ (¬ good t s j → spec_ReadRule.l0 (k + 2) t s j = spec_ReadRule.l0 (k + 1) t s ((j + 1 : Nat) : Int) ∨ spec_ReadRule.l0 (k + 2) t s j = spec_ReadRule.l0 k t s ((j + 1 : Nat) : Int)) := by
  have e1 : spec_ReadRule.l0 (k + 2) t s j = (if bt s j = 45 then spec_ReadRule.j1 (k + 1) t s j (bt s ((j + 1 : Nat) : Int) != 62) else spec_ReadRule.j1 (k + 1) t s j true) := by
    rw [spec_ReadRule.l0, w64s (by omega), if_pos (by omega), if_pos (by omega), if_pos (by omega)]
    by_cases o : bt s j = 45
    · rw [if_pos o, if_pos o, if_pos (by omega)]
    · rw [if_neg o, if_neg o]
  have e2 : spec_ReadRule.j1 (k + 1) t s j true = spec_ReadRule.l0 k t s ((j + 1 : Nat) : Int) := by
    rw [spec_ReadRule.j1, if_pos rfl, w64s (by omega)]
  have e4 : wrap64 ((j : Int) + 2) = ((j + 2 : Nat) : Int) := by rw [w64 (by omega) (by omega)]; omega
  have e3 : spec_ReadRule.j1 (k + 1) t s j false = (if (HI t (s.extract 0 j)).2 = true then (if (HI t (s.extract (j + 2) s.size)).2 = true then (if (HI t (s.extract 0 j)).1 = 0 then spec_ReadRule.l0 k t s ((j + 1 : Nat) : Int) else some (got t s j)) else spec_ReadRule.l0 k t s ((j + 1 : Nat) : Int)) else spec_ReadRule.l0 k t s ((j + 1 : Nat) : Int)) := by
    rw [spec_ReadRule.j1, if_neg (by decide), if_pos (by omega), if_pos (by omega), w64s (by omega), e4, Int.toNat_natCast, Int.toNat_natCast, spec_HoldsIn_eq _ _ hk, spec_HoldsIn_eq _ _ hk]
    simp only [Option.bind_some]
    rw [if_pos (by omega), if_pos (by omega)]
    rfl
  rw [e1]
  refine ⟨fun hg => ?_, fun hg => .inr ?_⟩
  · obtain ⟨⟨_, o1, o2⟩, g1, g2, g3⟩ := hg
    rw [if_pos o1, o2, show ((62 : Int) != 62) = false from rfl, e3, if_pos g1, if_pos g2, if_neg g3]
  · by_cases o1 : bt s j = 45
    · rw [if_pos o1]
      by_cases o2 : bt s ((j + 1 : Nat) : Int) = 62
      · rw [o2, show ((62 : Int) != 62) = false from rfl, e3]
        by_cases g1 : (HI t (s.extract 0 j)).2 = true
        · rw [if_pos g1]
          by_cases g2 : (HI t (s.extract (j + 2) s.size)).2 = true
          · rw [if_pos g2]
            by_cases g3 : (HI t (s.extract 0 j)).1 = 0
            · rw [if_pos g3]
            · exact absurd ⟨⟨hj, o1, o2⟩, g1, g2, g3⟩ hg
          · rw [if_neg g2]
        · rw [if_neg g1]
      · rw [show (bt s ((j + 1 : Nat) : Int) != 62) = true from bne_iff_ne.mpr o2, e2]
    · rw [if_neg o1, e2]
theorem stop_eq {k j : Nat} (hs : s.size ≤ 1048576) (hj : ¬ j + 1 < s.size) (hjs : j ≤ 1048577) : spec_ReadRule.l0 (k + 1) t s j = some (0, 0, false) := by
  rw [spec_ReadRule.l0, w64s (by omega), if_neg (by omega)]
theorem run_none (hs : s.size ≤ 1048576) : ∀ (d j k : Nat), s.size ≤ j + d → j ≤ s.size → 2 * d + 900 ≤ k → (∀ x, j ≤ x → ¬ good t s x) → spec_ReadRule.l0 k t s j = some (0, 0, false)
  | 0, j, k, hd, hj, hk, hg => by
    obtain ⟨k, rfl⟩ : ∃ m, k = m + 1 := ⟨k - 1, by omega⟩
    exact stop_eq hs (by omega) (by omega)
  | d + 1, j, k, hd, hj, hk, hg => by
    obtain ⟨k, rfl⟩ : ∃ m, k = m + 2 := ⟨k - 2, by omega⟩
    by_cases h1 : j + 1 < s.size
    · rcases (step_eq (t := t) hs h1 (show 800 ≤ k by omega)).2 (hg j (Nat.le_refl _)) with e | e
      · rw [e]; exact run_none hs d (j + 1) (k + 1) (by omega) (by omega) (by omega) (fun x hx => hg x (by omega))
      · rw [e]; exact run_none hs d (j + 1) k (by omega) (by omega) (by omega) (fun x hx => hg x (by omega))
    · exact stop_eq hs h1 (by omega)
theorem run_good (hs : s.size ≤ 1048576) {i : Nat} (hi : good t s i) : ∀ (d j k : Nat), i = j + d → 2 * d + 900 ≤ k → spec_ReadRule.l0 k t s j = some (got t s i)
  | 0, j, k, hd, hk => by
    obtain ⟨k, rfl⟩ : ∃ m, k = m + 2 := ⟨k - 2, by omega⟩
    have : i = j := by omega
    subst this
    exact (step_eq hs hi.1.1 (by omega)).1 hi
  | d + 1, j, k, hd, hk => by
    obtain ⟨k, rfl⟩ : ∃ m, k = m + 2 := ⟨k - 2, by omega⟩
    have h1 := hi.1.1
    rcases (step_eq (t := t) (j := j) hs (by omega) (show 800 ≤ k by omega)).2 (fun h => good_first hi (by omega) h.1) with e | e
    · rw [e]; exact run_good hs hi d (j + 1) (k + 1) (by omega) (by omega)
    · rw [e]; exact run_good hs hi d (j + 1) k (by omega) (by omega)
/-! ### The program's, by the library's Cut -/
theorem cut_hit {i : Nat} (hs : s.size ≤ 1048576) (ho : occ s i) (hf : ∀ j, j < i → ¬ occ s j) : strings_Cut.f s (⟨#[45, 62]⟩ : ByteArray) = some (s.extract 0 i, s.extract (i + 2) s.size, true) := by
  have hl := Lib.size_eq s
  have hx : Lib.indexB s (⟨#[45, 62]⟩ : ByteArray) = i :=
    Lib.index_first (by have := ho.1; omega) ((occAt_iff s i).mpr ho) (fun j hj => Bool.eq_false_iff.2 (fun h => hf j hj ((occAt_iff s j).mp h)))
  obtain ⟨c1, c2, c3⟩ := Lib.cutB_hit s (⟨#[45, 62]⟩ : ByteArray) i hx
  unfold strings_Cut.f
  rw [if_pos (by omega), c1, c2, c3]
  rfl
theorem cut_miss (hs : s.size ≤ 1048576) (hf : ∀ j, ¬ occ s j) : strings_Cut.f s (⟨#[45, 62]⟩ : ByteArray) = some (s, ByteArray.empty, false) := by
  have hx : Lib.indexB s (⟨#[45, 62]⟩ : ByteArray) = -1 :=
    Lib.index_none (fun j hj => Bool.eq_false_iff.2 (fun h => hf j ((occAt_iff s j).mp h)))
  obtain ⟨c1, c2, c3⟩ := Lib.cutB_miss s (⟨#[45, 62]⟩ : ByteArray) hx
  unfold strings_Cut.f
  rw [if_pos (by omega), c1, c2, c3]
theorem impl_good {i k : Nat} (hs : s.size ≤ 1048576) (hi : good t s i) (hk : 800 ≤ k) : impl_ReadRule.f k t s = some (got t s i) := by
  unfold impl_ReadRule.f
  rw [cut_hit hs hi.1 (fun j hj => good_first hi hj)]
  simp only [Option.bind_some]
  rw [impl_HoldsIn_eq _ _ hk, impl_HoldsIn_eq _ _ hk]
  simp only [Option.bind_some]
  obtain ⟨_, g1, g2, g3⟩ := hi
  rw [if_pos trivial, if_pos g1, if_pos g2, if_neg g3]
  rfl
theorem impl_none {k : Nat} (hs : s.size ≤ 1048576) (hg : ∀ x, ¬ good t s x) (hk : 800 ≤ k) : impl_ReadRule.f k t s = some (0, 0, false) := by
  unfold impl_ReadRule.f
  by_cases hf : ∀ j, ¬ occ s j
  · rw [cut_miss hs hf]
    simp only [Option.bind_some]
    rw [impl_HoldsIn_eq _ _ hk, impl_HoldsIn_eq _ _ hk]
    simp only [Option.bind_some]
    rw [if_neg (by decide)]
  · have hex : ∃ j, occ s j := Classical.byContradiction (fun h => hf (fun j hj => h ⟨j, hj⟩))
    obtain ⟨i, hi, hm⟩ : ∃ i, occ s i ∧ ∀ j, j < i → ¬ occ s j := by
      obtain ⟨j, hj⟩ := hex
      induction j using Nat.strongRecOn with
      | ind j ih =>
        by_cases h : ∃ m, m < j ∧ occ s m
        · obtain ⟨m, hm, ho⟩ := h
          exact ih m hm ho
        · exact ⟨j, hj, fun m hm ho => h ⟨m, hm, ho⟩⟩
    rw [cut_hit hs hi hm]
    simp only [Option.bind_some]
    rw [impl_HoldsIn_eq _ _ hk, impl_HoldsIn_eq _ _ hk]
    simp only [Option.bind_some]
    rw [if_pos trivial]
    by_cases g1 : (HI t (s.extract 0 i)).2 = true
    · rw [if_pos g1]
      by_cases g2 : (HI t (s.extract (i + 2) s.size)).2 = true
      · rw [if_pos g2]
        by_cases g3 : (HI t (s.extract 0 i)).1 = 0
        · rw [if_pos g3]
        · exact absurd ⟨hi, g1, g2, g3⟩ (hg i)
      · rw [if_neg g2]
    · rw [if_neg g1]
theorem ReadRule_same (t : Int) (hs : s.size ≤ 1048576) {k : Nat} (hk : 2098052 ≤ k) : ∃ r, spec_ReadRule.f k t s = some r ∧ impl_ReadRule.f k t s = some r := by
  unfold spec_ReadRule.f
  by_cases h : ∃ i, good t s i
  · obtain ⟨i, hi⟩ := h
    have h1 := hi.1.1
    have := run_good hs hi i 0 k (by omega) (by omega)
    exact ⟨_, this, impl_good hs hi (by omega)⟩
  · have hn : ∀ x, ¬ good t s x := fun x hx => h ⟨x, hx⟩
    have := run_none (t := t) hs s.size 0 k (by omega) (by omega) (by omega) (fun x _ => hn x)
    exact ⟨_, this, impl_none hs hn (by omega)⟩
end
end Go.Proofs.Ytfleephpcomimaa.LV

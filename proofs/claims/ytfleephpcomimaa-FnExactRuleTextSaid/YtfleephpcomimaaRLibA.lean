/- Plain facts about what the printed functions answer (several pieces in one text). Conditions: those of each theorem. -/
import Derived.Test.YtfleephpcomimaaR1
import Derived.Test.YtfleephpcomimaaR2
import Derived.Test.YtfleephpcomimaaR3
import Derived.Test.YtfleephpcomimaaR4
import Derived.Test.YtfleephpcomimaaR5
import Derived.Test.YtfleephpcomimaaSets
set_option linter.unusedVariables false
set_option linter.unusedSimpArgs false
namespace Go.Proofs.Ytfleephpcomimaa.LR
open Go.RowKit Go.Proofs.YtfleephpcomimaaW.PrintWords Go.Proofs.YtfleephpcomimaaW.PrintLast Go.Proofs.YtfleephpcomimaaW.PrintMore Go.Proofs.BelM Go.Proofs.Ytfleephpcomimaa.R
/-! #### FBase -/

theorem w64 {x : Int} (h0 : -9223372036854775808 ≤ x) (h1 : x ≤ 9223372036854775807) : wrap64 x = x := by unfold wrap64; omega
theorem w64s {j : Nat} (h : j ≤ 281474976710656) : wrap64 ((j : Int) + 1) = ((j + 1 : Nat) : Int) := by rw [w64 (by omega) (by omega)]; omega
theorem wfb {a : Int} (h : (Lit.int .i64 a).wf = true) : -9223372036854775808 ≤ a ∧ a ≤ 9223372036854775807 := by
  have h2 : (decide (IntKind.min .i64 ≤ a) && decide (a ≤ IntKind.max .i64)) = true := h
  rw [Bool.and_eq_true, decide_eq_true_eq, decide_eq_true_eq] at h2
  exact h2
theorem wfu8 {a : Int} (h : (Lit.int .u8 a).wf = true) : 0 ≤ a ∧ a ≤ 255 := by
  have h2 : (decide (IntKind.min .u8 ≤ a) && decide (a ≤ IntKind.max .u8)) = true := h
  rw [Bool.and_eq_true, decide_eq_true_eq, decide_eq_true_eq] at h2
  exact h2
theorem mn_eq (a b : Int) : mn a b = min a b := by unfold mn; split <;> omega
theorem mx_eq (a b : Int) : mx a b = max a b := by unfold mx; split <;> omega
theorem pow_nat (j : Nat) : (2 : Int) ^ j = ((2 ^ j : Nat) : Int) := by simp
theorem pow_le128 {j : Nat} (hj : j < 8) : (2 : Int) ^ j ≤ 128 := by
  have : 2 ^ j ≤ 2 ^ 7 := Nat.pow_le_pow_right (by decide) (by omega)
  rw [pow_nat]; omega
theorem shl_small1 {j : Nat} (hj : j < 8) : shl .i64 1 j = 2 ^ j := by
  have h := pow_le128 hj
  have h0 := pow_pos j
  unfold shl
  rw [Int.toNat_natCast, Nat.min_eq_left (by show j ≤ 64; omega), Int.one_mul, IntKind.wrap_i64]
  omega
theorem shl_zero (j : Int) : shl .i64 0 j = 0 := by
  unfold shl
  rw [Int.zero_mul, IntKind.wrap_i64]; rfl
theorem toNat_le3 {t : Int} (ht : 1 ≤ t ∧ t ≤ 3) : 1 ≤ t.toNat ∧ t.toNat ≤ 3 := by omega
theorem worlds_le {t : Int} (ht : 1 ≤ t ∧ t ≤ 3) : 2 ^ t.toNat ≤ 8 := by
  have : 2 ^ t.toNat ≤ 2 ^ 3 := Nat.pow_le_pow_right (by decide) (by omega)
  omega
theorem worlds_ge {t : Int} (ht : 1 ≤ t ∧ t ≤ 3) : 2 ≤ 2 ^ t.toNat := by
  have : 2 ^ 1 ≤ 2 ^ t.toNat := Nat.pow_le_pow_right (by decide) (by omega)
  omega
theorem shl_things {t : Int} (ht : 1 ≤ t ∧ t ≤ 3) : shl .i64 1 t = ((2 ^ t.toNat : Nat) : Int) := by
  have h := shl_small1 (j := t.toNat) (by omega)
  rw [show ((t.toNat : Nat) : Int) = t by omega] at h
  rw [h, pow_nat]
theorem shr_nat {s : Int} {w : Nat} (hs : 0 ≤ s) (hw : w ≤ 64) : shr .i64 s w = s / 2 ^ w := by
  unfold shr
  rw [Int.toNat_natCast, Nat.min_eq_left (by show w ≤ 64; exact hw)]
theorem shr_val {s : Int} {w : Nat} (hs : 0 ≤ s) (hw : w ≤ 64) : shr .i64 s w = ((s.toNat / 2 ^ w : Nat) : Int) := by
  rw [shr_nat hs hw]
  have : s = (s.toNat : Int) := by omega
  rw [this, Int.toNat_natCast]; simp
theorem tmod_bit {s : Int} {w : Nat} (hs : 0 ≤ s) (hw : w ≤ 64) : Int.tmod (shr .i64 s w) 2 = if mem s w = true then 1 else 0 := by
  rw [shr_val hs hw]
  unfold mem
  rw [Nat.testBit_eq_decide_div_mod_eq]
  generalize s.toNat / 2 ^ w = m
  rw [Int.tmod_eq_emod_of_nonneg (Int.natCast_nonneg m)]
  by_cases h : m % 2 = 1
  · rw [if_pos (by simp [h])]; omega
  · rw [if_neg (by simp [h])]; omega
theorem and_bit {s : Int} {w : Nat} (hs : 0 ≤ s) (hs' : s < 256) (hw : w ≤ 64) : bits .and .i64 (shr .i64 s w) 1 = if mem s w = true then 1 else 0 := by
  rw [shr_nat hs hw]; exact and1 hs hs'

theorem l1In_eq (a b c : Int) : spec_l1In.f a b c = some (decide (b ≤ a ∧ a ≤ c)) := by
  unfold spec_l1In.f
  by_cases h : a ≥ b
  · rw [if_pos h]
    have h' : b ≤ a := h
    simp [h']
  · rw [if_neg h]
    have h' : ¬ b ≤ a := h
    simp [h']

/-- A set of worlds, for a number of things. -/
def SetP (t s : Int) : Prop := (1 ≤ t ∧ t ≤ 3) ∧ 0 ≤ s ∧ s < 2 ^ 2 ^ t.toNat
instance (t s : Int) : Decidable (SetP t s) := by unfold SetP; infer_instance
theorem SetP.lt8 {t s : Int} (h : SetP t s) : s < 2 ^ 8 := lt8of (worlds_le h.1) h.2.2
theorem SetP.lt256 {t s : Int} (h : SetP t s) : s < 256 := by
  have := h.lt8
  have : (2 : Int) ^ 8 = 256 := by decide
  omega
theorem SetP.mk {t : Int} (ht : 1 ≤ t ∧ t ≤ 3) (p : Nat → Bool) : SetP t (mk p (2 ^ t.toNat)) := ⟨ht, mk_nonneg _ _, mk_lt _ _⟩
theorem SetP.mem_lt {t s : Int} (h : SetP t s) {w : Nat} (hm : mem s w = true) : w < 2 ^ t.toNat := Go.Proofs.BelM.mem_lt h.2.1 h.2.2 hm

theorem all_spec {t : Int} (ht : 1 ≤ t ∧ t ≤ 3) : spec_l1All.f t = some (2 ^ 2 ^ t.toNat - 1) := by unfold spec_l1All.f; rw [if_pos ht]
theorem all_le {t : Int} (ht : 1 ≤ t ∧ t ≤ 3) : (2 : Int) ^ 2 ^ t.toNat ≤ 256 := le_pow8 (worlds_le ht)
theorem all_ge {t : Int} (ht : 1 ≤ t ∧ t ≤ 3) : (4 : Int) ≤ 2 ^ 2 ^ t.toNat := by
  have : 2 ^ 2 ≤ 2 ^ 2 ^ t.toNat := Nat.pow_le_pow_right (by decide) (worlds_ge ht)
  rw [pow_nat]; omega
theorem SetOk_eq (t s : Int) : spec_SetOk.f t s = some (decide (SetP t s)) := by
  unfold spec_SetOk.f
  rw [l1In_eq]
  simp only [Option.bind_some]
  by_cases ht : 1 ≤ t ∧ t ≤ 3
  · rw [if_pos (by simp [ht]), all_spec ht]
    simp only [Option.bind_some]
    rw [l1In_eq]
    simp only [Option.bind_some]
    congr 1
    apply decide_eq_decide.mpr
    unfold SetP
    generalize (2 : Int) ^ 2 ^ t.toNat = M
    omega
  · rw [if_neg (by simpa using ht)]
    congr 1
    symm
    apply decide_eq_false
    unfold SetP
    exact fun h => ht h.1

theorem l1Bit_eq {s : Int} {w : Nat} (hs : 0 ≤ s) (hw : w ≤ 64) : spec_l1Bit.f s w = some (if mem s w = true then 1 else 0) := by
  unfold spec_l1Bit.f
  rw [if_pos (by omega), tmod_bit hs hw]
/-- One more world of a sum. -/
theorem add_bit {p : Nat → Bool} {j : Nat} (hj : j < 8) (hp : p j = true) : wrap64 (mk p j + shl .i64 1 j) = mk p (j + 1) := by
  have h1 := mk_lt p j
  have h2 := mk_nonneg p j
  have h3 := pow_le128 hj
  rw [shl_small1 hj, mk_succ, if_pos hp, w64 (by omega) (by omega)]
theorem skip_bit {p : Nat → Bool} {j : Nat} (hp : p j = false) : mk p j = mk p (j + 1) := mk_skip hp
theorem step2 {a b : Int} {j : Nat} (hj : j < 8) : wrap64 (mk (fun w => mem a w && mem b w) j + shl .i64 (wrap64 ((if mem a j = true then 1 else 0) * (if mem b j = true then 1 else 0))) j) = mk (fun w => mem a w && mem b w) (j + 1) := by
  by_cases h : mem a j = true ∧ mem b j = true
  · rw [if_pos h.1, if_pos h.2, show wrap64 (1 * 1) = 1 by decide +kernel]
    exact add_bit hj (by simp [h.1, h.2])
  · have e : (if mem a j = true then (1 : Int) else 0) * (if mem b j = true then 1 else 0) = 0 := by
      by_cases ha : mem a j = true
      · rw [if_neg (fun hb => h ⟨ha, hb⟩), Int.mul_zero]
      · rw [if_neg ha, Int.zero_mul]
    have h2 := mk_nonneg (fun w => mem a w && mem b w) j
    have h1 := mk_lt (fun w => mem a w && mem b w) j
    have h3 := pow_le128 hj
    rw [e, show wrap64 0 = 0 by decide +kernel, shl_zero, Int.add_zero, w64 (by omega) (by omega)]
    exact skip_bit (by
      cases ha : mem a j
      · rfl
      · cases hb : mem b j
        · rfl
        · exact absurd ⟨ha, hb⟩ h)
/-! #### FSets -/

theorem areThings_eq (t : Int) : impl_areThings.f t = some (decide (1 ≤ t ∧ t ≤ 3)) := by
  unfold impl_areThings.f
  by_cases h : t ≥ 1
  · rw [if_pos h]
    have h' : 1 ≤ t := h
    simp [h']
  · rw [if_neg h]
    have h' : ¬ 1 ≤ t := h
    simp [h']
theorem isSet_eq (t s : Int) : impl_isSet.f t s = some (decide (SetP t s)) := by
  unfold impl_isSet.f
  rw [areThings_eq]
  simp only [Option.bind_some]
  by_cases ht : 1 ≤ t ∧ t ≤ 3
  · rw [if_pos (by simp [ht])]
    by_cases h0 : s ≥ 0
    · rw [if_pos h0]
      unfold impl_allWorlds.f
      rw [if_pos ht]
      simp only [Option.bind_some]
      congr 1
      apply decide_eq_decide.mpr
      unfold SetP
      generalize (2 : Int) ^ 2 ^ t.toNat = M
      omega
    · rw [if_neg h0]
      congr 1
      symm
      apply decide_eq_false
      exact fun h => h0 h.2.1
  · rw [if_neg (by simpa using ht)]
    congr 1
    symm
    apply decide_eq_false
    exact fun h => ht h.1
/-! #### FRule -/
/-- A rule, for a number of things. -/
def RuleP (t x y : Int) : Prop := SetP t x ∧ SetP t y ∧ x ≠ 0
instance (t x y : Int) : Decidable (RuleP t x y) := by unfold RuleP; infer_instance
theorem isRule_eq (t x y : Int) : impl_isRule.f t x y = some (decide (RuleP t x y)) := by
  unfold impl_isRule.f
  rw [isSet_eq, isSet_eq]
  simp only [Option.bind_some]
  by_cases hx : SetP t x
  · by_cases hy : SetP t y
    · by_cases h0 : x = 0
      · simp [hx, hy, h0, RuleP]
      · simp [hx, hy, h0, RuleP]
    · simp [hx, hy, RuleP]
  · simp [hx, RuleP]
theorem spec_RuleOk_eq (t x y : Int) : spec_RuleOk.f t x y = some (decide (RuleP t x y)) := by
  unfold spec_RuleOk.f
  rw [SetOk_eq, SetOk_eq]
  simp only [Option.bind_some]
  by_cases hx : SetP t x
  · by_cases hy : SetP t y
    · by_cases h0 : x = 0
      · simp [hx, hy, h0, RuleP]
      · simp [hx, hy, h0, RuleP]
    · simp [hx, hy, RuleP]
  · simp [hx, RuleP]
/-! #### GText -/
theorem mono_from {α : Type} {g : Nat → Option α} (h : ∀ k, LeO (g k) (g (k + 1))) {m : Nat} {r : α} (e : g m = some r) : ∀ {k}, m ≤ k → g k = some r := by
  intro k hk
  induction hk with
  | refl => exact e
  | step _ ih => exact h _ r ih
/-- The sentence of a world. -/
def wtx (t w : Nat) : ByteArray := (impl_worldText.f 4 (t : Int) (w : Int) 0).getD (⟨#[]⟩ : ByteArray)
def wtxB (t w : Nat) : Bool := decide (impl_worldText.f 4 (t : Int) (w : Int) 0 = some (wtx t w)) && decide (spec_l1World.f 5 (t : Int) (w : Int) = some (wtx t w)) && decide ((wtx t w).toList ≠ []) && decide ((wtx t w).size ≤ 15)
theorem wtxB_ok : ((List.range 4).all fun t => (List.range 8).all fun w => !(decide (1 ≤ t)) || !(decide (w < 2 ^ t)) || wtxB t w) = true := by decide +kernel
theorem wtx_ok (t : Nat) (ht : t < 4) (w : Nat) (hw : w < 8) (h1 : 1 ≤ t) (h2 : w < 2 ^ t) : impl_worldText.f 4 (t : Int) (w : Int) 0 = some (wtx t w) ∧ spec_l1World.f 5 (t : Int) (w : Int) = some (wtx t w) ∧ (wtx t w).toList ≠ [] ∧ (wtx t w).size ≤ 15 := by
  have h := List.all_eq_true.1 (List.all_eq_true.1 wtxB_ok t (List.mem_range.2 ht)) w (List.mem_range.2 hw)
  simp only [h1, h2, decide_true, Bool.not_true, Bool.false_or, wtxB, Bool.and_eq_true, decide_eq_true_eq] at h
  exact ⟨h.1.1.1, h.1.1.2, h.1.2, h.2⟩
/-- Two sentences with a sign between them, in brackets. -/
def bra (b : UInt8) (x y : ByteArray) : ByteArray := ((((⟨#[40]⟩ : ByteArray) ++ x) ++ (⟨#[b]⟩ : ByteArray)) ++ y) ++ (⟨#[41]⟩ : ByteArray)
/-- The sentences of the first worlds ahead of what is there. -/
def sentF (t : Nat) (s : Int) : Nat → ByteArray → ByteArray
  | 0, out => out
  | w + 1, out => sentF t s w (if mem s w = true then (if out.toList = [] then wtx t w else bra 124 (wtx t w) out) else out)
def SO (t s : Int) : ByteArray := if s = 0 then (⟨#[48]⟩ : ByteArray) else if s = 2 ^ 2 ^ t.toNat - 1 then (⟨#[49]⟩ : ByteArray) else sentF t.toNat s (2 ^ t.toNat) (⟨#[]⟩ : ByteArray)
theorem bra_size (b : UInt8) (x y : ByteArray) : (bra b x y).size = x.size + y.size + 3 := by
  unfold bra
  rw [ByteArray.size_append, ByteArray.size_append, ByteArray.size_append, ByteArray.size_append]
  show 1 + x.size + 1 + y.size + 1 = _
  omega
theorem wtx_impl {t : Int} (ht : 1 ≤ t ∧ t ≤ 3) {w : Nat} (hw : w < 2 ^ t.toNat) {k : Nat} (hk : 4 ≤ k) : impl_worldText.f k t w 0 = some (wtx t.toNat w) := by
  obtain ⟨n, rfl⟩ : ∃ n : Nat, t = n := ⟨t.toNat, by omega⟩
  rw [Int.toNat_natCast] at *
  have h8 : w < 8 := Nat.lt_of_lt_of_le hw (by have := worlds_le (t := (n : Int)) ht; rwa [Int.toNat_natCast] at this)
  exact mono_from (g := fun k => impl_worldText.f k (n : Int) w 0) (fun k => impl_worldText.mono _ _ _ _) (wtx_ok n (by omega) w h8 (by omega) hw).1 hk
theorem wtx_spec {t : Int} (ht : 1 ≤ t ∧ t ≤ 3) {w : Nat} (hw : w < 2 ^ t.toNat) {k : Nat} (hk : 5 ≤ k) : spec_l1World.f k t w = some (wtx t.toNat w) := by
  obtain ⟨n, rfl⟩ : ∃ n : Nat, t = n := ⟨t.toNat, by omega⟩
  rw [Int.toNat_natCast] at *
  have h8 : w < 8 := Nat.lt_of_lt_of_le hw (by have := worlds_le (t := (n : Int)) ht; rwa [Int.toNat_natCast] at this)
  exact mono_from (g := fun k => spec_l1World.f k (n : Int) w) (fun k => spec_l1World.mono _ _ _) (wtx_ok n (by omega) w h8 (by omega) hw).2.1 hk
theorem wtx_size {t : Int} (ht : 1 ≤ t ∧ t ≤ 3) {w : Nat} (hw : w < 2 ^ t.toNat) : (wtx t.toNat w).size ≤ 15 := by
  have h8 : w < 8 := Nat.lt_of_lt_of_le hw (worlds_le ht)
  exact (wtx_ok t.toNat (by omega) w h8 (by omega) hw).2.2.2
/-- How long it gets. -/
theorem step_size {t : Int} (ht : 1 ≤ t ∧ t ≤ 3) {s : Int} {w : Nat} (hw : w < 2 ^ t.toNat) (out : ByteArray) : (if mem s w = true then (if out.toList = [] then wtx t.toNat w else bra 124 (wtx t.toNat w) out) else out).size ≤ out.size + 18 := by
  have := wtx_size ht hw
  split
  · split
    · omega
    · rw [bra_size]; omega
  · omega
theorem sent_loop {t s : Int} (hs : SetP t s) : ∀ (w k : Nat) (out : ByteArray), w ≤ 2 ^ t.toNat → out.size + 20 * w ≤ 400 → w + 6 ≤ k → impl_sentenceOf.l0 k t s out ((w : Int) - 1) = some (sentF t.toNat s w out)
  | 0, k, out, hw, ho, hk => by
    obtain ⟨k, rfl⟩ : ∃ m, k = m + 1 := ⟨k - 1, by omega⟩
    simp only [impl_sentenceOf.l0]
    rw [if_neg (by omega)]
    rfl
  | w + 1, k, out, hw, ho, hk => by
    obtain ⟨k, rfl⟩ : ∃ m, k = m + 1 := ⟨k - 1, by omega⟩
    have h8 := worlds_le hs.1
    have hws := wtx_size hs.1 (w := w) (by omega)
    have hst := step_size hs.1 (s := s) (w := w) (by omega) out
    have e1 : ((w + 1 : Nat) : Int) - 1 = (w : Int) := by omega
    simp only [impl_sentenceOf.l0]
    rw [e1, if_pos (by omega), if_pos (by omega), and_bit hs.2.1 hs.lt256 (by omega), w64 (x := (w : Int) - 1) (by omega) (by omega)]
    have ih := sent_loop hs w k (if mem s w = true then (if out.toList = [] then wtx t.toNat w else bra 124 (wtx t.toNat w) out) else out) (by omega) (by omega) (by omega)
    show _ = some (sentF t.toNat s w _)
    by_cases hm : mem s w = true
    · rw [if_pos hm] at ih
      rw [if_pos hm, if_neg (by decide), wtx_impl hs.1 (by omega) (by omega)]
      simp only [Option.bind_some, if_pos hm]
      by_cases h0 : out.toList = []
      · rw [if_pos h0] at ih
        rw [if_pos h0, if_pos h0]
        exact ih
      · rw [if_neg h0] at ih
        have z1 : ((⟨#[40]⟩ : ByteArray) ++ wtx t.toNat w).size = 1 + (wtx t.toNat w).size := by rw [ByteArray.size_append]; rfl
        have z2 : (((⟨#[40]⟩ : ByteArray) ++ wtx t.toNat w) ++ (⟨#[124]⟩ : ByteArray)).size = 1 + (wtx t.toNat w).size + 1 := by rw [ByteArray.size_append, z1]; rfl
        have z3 : ((((⟨#[40]⟩ : ByteArray) ++ wtx t.toNat w) ++ (⟨#[124]⟩ : ByteArray)) ++ out).size = 1 + (wtx t.toNat w).size + 1 + out.size := by rw [ByteArray.size_append, z2]
        rw [if_neg h0, if_pos (by omega), if_pos (by omega), if_pos (by omega), if_pos (by omega), if_neg h0]
        exact ih
    · rw [if_neg hm] at ih
      rw [if_neg hm, if_pos rfl]
      simp only [if_neg hm]
      exact ih
theorem spec_sent_loop {t s : Int} (hs : SetP t s) : ∀ (w k : Nat) (out : ByteArray), w ≤ 2 ^ t.toNat → out.size + 20 * w ≤ 400 → w + 6 ≤ k → spec_SentenceOf.l0 k t s out ((w : Int) - 1) = some (sentF t.toNat s w out)
  | 0, k, out, hw, ho, hk => by
    obtain ⟨k, rfl⟩ : ∃ m, k = m + 1 := ⟨k - 1, by omega⟩
    simp only [spec_SentenceOf.l0]
    rw [if_neg (by omega)]
    rfl
  | w + 1, k, out, hw, ho, hk => by
    obtain ⟨k, rfl⟩ : ∃ m, k = m + 1 := ⟨k - 1, by omega⟩
    have h8 := worlds_le hs.1
    have hws := wtx_size hs.1 (w := w) (by omega)
    have hst := step_size hs.1 (s := s) (w := w) (by omega) out
    have e1 : ((w + 1 : Nat) : Int) - 1 = (w : Int) := by omega
    simp only [spec_SentenceOf.l0]
    rw [e1, if_pos (by omega), l1Bit_eq hs.2.1 (by omega), w64 (x := (w : Int) - 1) (by omega) (by omega)]
    simp only [Option.bind_some]
    have ih := spec_sent_loop hs w k (if mem s w = true then (if out.toList = [] then wtx t.toNat w else bra 124 (wtx t.toNat w) out) else out) (by omega) (by omega) (by omega)
    show _ = some (sentF t.toNat s w _)
    by_cases hm : mem s w = true
    · rw [if_pos hm] at ih
      rw [if_pos hm, if_neg (by decide), wtx_spec hs.1 (by omega) (by omega)]
      simp only [Option.bind_some, if_pos hm]
      by_cases h0 : out.toList = []
      · rw [if_pos h0] at ih
        rw [if_pos h0, if_pos h0]
        exact ih
      · rw [if_neg h0] at ih
        have z1 : ((⟨#[40]⟩ : ByteArray) ++ wtx t.toNat w).size = 1 + (wtx t.toNat w).size := by rw [ByteArray.size_append]; rfl
        have z2 : (((⟨#[40]⟩ : ByteArray) ++ wtx t.toNat w) ++ (⟨#[124]⟩ : ByteArray)).size = 1 + (wtx t.toNat w).size + 1 := by rw [ByteArray.size_append, z1]; rfl
        have z3 : ((((⟨#[40]⟩ : ByteArray) ++ wtx t.toNat w) ++ (⟨#[124]⟩ : ByteArray)) ++ out).size = 1 + (wtx t.toNat w).size + 1 + out.size := by rw [ByteArray.size_append, z2]
        rw [if_neg h0, if_pos (by omega), if_pos (by omega), if_pos (by omega), if_pos (by omega), if_neg h0]
        exact ih
    · rw [if_neg hm] at ih
      rw [if_neg hm, if_pos rfl]
      simp only [if_neg hm]
      exact ih
theorem sentF_size {t : Int} (ht : 1 ≤ t ∧ t ≤ 3) {s : Int} : ∀ (w : Nat) (out : ByteArray), w ≤ 2 ^ t.toNat → (sentF t.toNat s w out).size ≤ out.size + 18 * w
  | 0, out, _ => Nat.le_refl _
  | w + 1, out, hw => by
    have h1 := step_size ht (s := s) (w := w) (by omega) out
    have h2 := sentF_size ht (s := s) w (if mem s w = true then (if out.toList = [] then wtx t.toNat w else bra 124 (wtx t.toNat w) out) else out) (by omega)
    show (sentF t.toNat s w _).size ≤ _
    omega
theorem SO_size {t s : Int} (ht : 1 ≤ t ∧ t ≤ 3) : (SO t s).size ≤ 144 := by
  unfold SO
  split
  · show 1 ≤ 144; omega
  · split
    · show 1 ≤ 144; omega
    · have h8 := worlds_le ht
      have := sentF_size ht (s := s) (2 ^ t.toNat) (⟨#[]⟩ : ByteArray) (Nat.le_refl _)
      have e : (⟨#[]⟩ : ByteArray).size = 0 := rfl
      omega
theorem sentenceOf_eq {t s : Int} (hs : SetP t s) {k : Nat} (hk : 20 ≤ k) : impl_sentenceOf.f k t s = some (SO t s) := by
  have ht := hs.1
  have h8 := worlds_le ht
  have h2 := worlds_ge ht
  unfold impl_sentenceOf.f SO
  by_cases h0 : s = 0
  · rw [if_pos h0, if_pos h0]
  · rw [if_neg h0, if_neg h0]
    unfold impl_allWorlds.f
    rw [if_pos ht]
    simp only [Option.bind_some]
    by_cases h1 : s = 2 ^ 2 ^ t.toNat - 1
    · rw [if_pos h1, if_pos h1]
    · rw [if_neg h1, if_neg h1, if_pos (by omega), shl_things ht, w64 (by omega) (by omega)]
      exact sent_loop hs (2 ^ t.toNat) k _ (Nat.le_refl _) (by show 0 + _ ≤ _; omega) (by omega)
theorem spec_SentenceOf_eq {t s : Int} (hs : SetP t s) {k : Nat} (hk : 20 ≤ k) : spec_SentenceOf.f k t s = some (SO t s) := by
  have ht := hs.1
  have h8 := worlds_le ht
  have h2 := worlds_ge ht
  unfold spec_SentenceOf.f SO
  rw [SetOk_eq]
  simp only [Option.bind_some]
  rw [if_pos (by simp [hs])]
  by_cases h0 : s = 0
  · rw [if_pos h0, if_pos h0]
  · rw [if_neg h0, if_neg h0, all_spec ht]
    simp only [Option.bind_some]
    by_cases h1 : s = 2 ^ 2 ^ t.toNat - 1
    · rw [if_pos h1, if_pos h1]
    · rw [if_neg h1, if_neg h1, if_pos (by omega), shl_things ht, w64 (by omega) (by omega)]
      exact spec_sent_loop hs (2 ^ t.toNat) k _ (Nat.le_refl _) (by show 0 + _ ≤ _; omega) (by omega)
/-- The text of a rule. -/
def RT (t x y : Int) : ByteArray := (SO t x ++ (⟨#[45, 62]⟩ : ByteArray)) ++ SO t y
theorem RT_sizes {t x y : Int} (ht : 1 ≤ t ∧ t ≤ 3) : (SO t x).size + 2 ≤ 9223372036854775807 ∧ (SO t x ++ (⟨#[45, 62]⟩ : ByteArray)).size + (SO t y).size ≤ 9223372036854775807 := by
  have h1 := SO_size ht (s := x)
  have h2 := SO_size ht (s := y)
  rw [ByteArray.size_append]
  have e : (⟨#[45, 62]⟩ : ByteArray).size = 2 := rfl
  omega
theorem impl_RuleText_eq (t x y : Int) {k : Nat} (hk : 20 ≤ k) : impl_RuleText.f k t x y = some (if RuleP t x y then RT t x y else (⟨#[]⟩ : ByteArray)) := by
  unfold impl_RuleText.f
  rw [isRule_eq]
  simp only [Option.bind_some]
  by_cases h : RuleP t x y
  · obtain ⟨z1, z2⟩ := RT_sizes (x := x) (y := y) h.1.1
    rw [if_pos (by exact decide_eq_true h), if_pos h, sentenceOf_eq h.1 hk]
    simp only [Option.bind_some]
    rw [if_pos z1, sentenceOf_eq h.2.1 hk]
    simp only [Option.bind_some]
    rw [if_pos z2]
    rfl
  · rw [if_neg (by intro h2; exact h (of_decide_eq_true h2)), if_neg h]
theorem spec_RuleText_eq (t x y : Int) {k : Nat} (hk : 20 ≤ k) : spec_RuleText.f k t x y = some (if RuleP t x y then RT t x y else (⟨#[]⟩ : ByteArray)) := by
  unfold spec_RuleText.f
  rw [spec_RuleOk_eq]
  simp only [Option.bind_some]
  by_cases h : RuleP t x y
  · obtain ⟨z1, z2⟩ := RT_sizes (x := x) (y := y) h.1.1
    rw [if_pos (by exact decide_eq_true h), if_pos h, spec_SentenceOf_eq h.1 hk]
    simp only [Option.bind_some]
    rw [if_pos z1, spec_SentenceOf_eq h.2.1 hk]
    simp only [Option.bind_some]
    rw [if_pos z2]
    rfl
  · rw [if_neg (by intro h2; exact h (of_decide_eq_true h2)), if_neg h]
end Go.Proofs.Ytfleephpcomimaa.LR

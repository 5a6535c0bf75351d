/- Plain facts about what the printed functions answer (several pieces in one text). Conditions: those of each theorem. -/
import Derived.Test.YthgddbnmieodkaaQ4
import Derived.Test.YthgddbnmieodkaaQ10
import Derived.Test.YthgddbnmieodkaaQ11
import Derived.Test.YthgddbnmieodkaaQ12
import Derived.Test.YthgddbnmieodkaaQ15
import Derived.Test.YthgddbnmieodkaaQ16
import Derived.Test.YthgddbnmieodkaaQLibA
import Derived.Test.YthgddbnmieodkaaSets
set_option linter.unusedVariables false
set_option linter.unusedSimpArgs false
namespace Go.Proofs.Ythgddbnmieodkaa.LQ
open Go.RowKit Go.Proofs.YthgddbnmieodkaaW.PrintWords Go.Proofs.YthgddbnmieodkaaW.PrintLast Go.Proofs.YthgddbnmieodkaaW.PrintMore Go.Proofs.BelM Go.Proofs.Ythgddbnmieodkaa.Q
/-! #### FTable -/
/-- A row of sets, one for each set. -/
def TableP (t : Int) (l : List Int) : Prop := (1 ≤ t ∧ t ≤ 2) ∧ l.length = 2 ^ 2 ^ t.toNat ∧ ∀ w, w < l.length → SetP t (rk l w)
theorem sets_le {t : Int} (ht : 1 ≤ t ∧ t ≤ 2) : 2 ^ 2 ^ t.toNat ≤ 16 := by
  obtain rfl | rfl : t = 1 ∨ t = 2 := by omega
  all_goals decide
theorem sets_ge {t : Int} (ht : 1 ≤ t ∧ t ≤ 2) : 4 ≤ 2 ^ 2 ^ t.toNat := by
  obtain rfl | rfl : t = 1 ∨ t = 2 := by omega
  all_goals decide
theorem sets_cast (n : Nat) : ((2 ^ n : Nat) : Int) = 2 ^ n := by simp
open Classical in
theorem isTable_eq (t : Int) (l : List Int) : impl_isTable.f t l = some (decide (TableP t l)) := by
  unfold impl_isTable.f
  by_cases ht : 1 ≤ t ∧ t ≤ 2
  · rw [if_pos ht]
    by_cases hl : l.length = 2 ^ 2 ^ t.toNat
    · rw [if_pos (by rw [hl, sets_cast])]
      congr 1
      unfold impl_isTable.bad
      rw [Bool.eq_iff_iff, decide_eq_true_eq, Bool.not_eq_true', List.any_eq_false]
      constructor
      · intro h
        refine ⟨ht, hl, fun w hw => ?_⟩
        have h1 := h w (List.mem_range.mpr hw)
        unfold impl_isTable.set at h1
        simp only [Bool.not_eq_true', decide_eq_false_iff_not, Classical.not_not] at h1
        exact ⟨by omega, h1.1, h1.2⟩
      · intro h w hw
        have h1 := h.2.2 w (List.mem_range.mp hw)
        unfold impl_isTable.set
        simp only [Bool.not_eq_true', decide_eq_false_iff_not, Classical.not_not]
        exact ⟨h1.2.1, h1.2.2⟩
    · rw [if_neg (by rw [← sets_cast]; omega)]
      exact congrArg some (decide_eq_false (fun h => hl h.2.1)).symm
  · rw [if_neg ht]
    exact congrArg some (decide_eq_false (fun h => ht h.1)).symm
open Classical in
theorem tableOk_loop (t : Int) (l : List Int) (hl : l.length ≤ 17592186044416) : ∀ (d k j : Nat), j + d = l.length → d < k → (∀ w, w < j → SetP t (rk l w)) →
    spec_TableOk.l0 k t l j = some (decide (TableP t l))
  | 0, k, j, hj, hk, hr => by
    obtain ⟨k, rfl⟩ : ∃ m, k = m + 1 := ⟨k - 1, by omega⟩
    obtain rfl : j = l.length := by omega
    simp only [spec_TableOk.l0]
    rw [if_neg (by omega), l1In_eq]
    simp only [Option.bind_some]
    by_cases ht : 1 ≤ t ∧ t ≤ 2
    · have h1 := all_le (t := t) (by omega)
      have h2 := all_ge (t := t) (by omega)
      rw [if_pos (by simp [ht]), all_spec (by omega)]
      simp only [Option.bind_some]
      rw [w64 (by omega) (by omega)]
      congr 1
      rw [Bool.eq_iff_iff, beq_iff_eq, decide_eq_true_eq]
      constructor
      · intro h
        refine ⟨ht, ?_, hr⟩
        have := sets_cast (2 ^ t.toNat)
        omega
      · intro h
        have := sets_cast (2 ^ t.toNat)
        have := h.2.1
        omega
    · rw [if_neg (by simpa using ht)]
      exact congrArg some (decide_eq_false (fun h => ht h.1)).symm
  | d + 1, k, j, hj, hk, hr => by
    obtain ⟨k, rfl⟩ : ∃ m, k = m + 1 := ⟨k - 1, by omega⟩
    simp only [spec_TableOk.l0]
    rw [if_pos (by omega), if_pos (by omega), SetOk_eq]
    simp only [Option.bind_some]
    by_cases h : SetP t (rd l (j : Int))
    · rw [if_pos (by simp [h]), w64s (by omega)]
      exact tableOk_loop t l hl d k (j + 1) (by omega) (by omega) (fun w hw => by
        by_cases e : w = j
        · subst e; exact h
        · exact hr w (by omega))
    · rw [if_neg (by simp [h])]
      exact congrArg some (decide_eq_false (fun hp => h (hp.2.2 j (by omega)))).symm
open Classical in
theorem spec_TableOk_eq (t : Int) (l : List Int) (hl : l.length ≤ 17592186044416) {k : Nat} (hk : l.length + 1 ≤ k) : spec_TableOk.f k t l = some (decide (TableP t l)) := by
  unfold spec_TableOk.f
  exact tableOk_loop t l hl l.length k 0 (by omega) (by omega) (fun w hw => by omega)
/-- The table of giving up. -/
def giveT (t : Int) (l : List Int) : List Int := tab (fun w => giveS t l (w : Int)) (2 ^ 2 ^ t.toNat)
theorem set_nat {t : Int} (ht : 1 ≤ t ∧ t ≤ 2) {w : Nat} (hw : w < 2 ^ 2 ^ t.toNat) : SetP t (w : Int) := ⟨by omega, by omega, by rw [← sets_cast]; omega⟩
open Classical in
theorem spec_giveT {t : Int} {l : List Int} (hr : RankP t l) (ht : t ≤ 2) : ∀ (d k j : Nat), j + d = 2 ^ 2 ^ t.toNat → d + 60 ≤ k → spec_GiveTable.l0 k t l (tab (fun w => giveS t l (w : Int)) j) j = some (giveT t l)
  | 0, k, j, hj, hk => by
    obtain ⟨k, rfl⟩ : ∃ m, k = m + 1 := ⟨k - 1, by omega⟩
    obtain rfl : j = 2 ^ 2 ^ t.toNat := by omega
    have := hr.len
    simp only [spec_GiveTable.l0]
    rw [l1In_eq, spec_RankOk_eq _ _ (by omega) (by omega), all_spec hr.1]
    simp only [Option.bind_some]
    rw [if_pos (by simp [hr.1.1, ht]), if_pos (by simp [hr]), if_neg (by rw [sets_cast]; omega)]
    rfl
  | d + 1, k, j, hj, hk => by
    obtain ⟨k, rfl⟩ : ∃ m, k = m + 1 := ⟨k - 1, by omega⟩
    have h8 := hr.len
    have ht2 : 1 ≤ t ∧ t ≤ 2 := ⟨hr.1.1, ht⟩
    have h16 := sets_le ht2
    have ih := spec_giveT hr ht d k (j + 1) (by omega) (by omega)
    rw [← tab_snoc] at ih
    simp only [spec_GiveTable.l0]
    rw [l1In_eq, spec_RankOk_eq _ _ (by omega) (by omega), all_spec hr.1]
    simp only [Option.bind_some]
    rw [if_pos (by simp [hr.1.1, ht]), if_pos (by simp [hr]), if_pos (by rw [← sets_cast]; omega), spec_GivenUp_eq _ _ _ (by omega) (by omega), show (if RankP t l ∧ SetP t (j : Int) then giveS t l (j : Int) else -1) = giveS t l (j : Int) from if_pos ⟨hr, set_nat ht2 (by omega)⟩]
    simp only [Option.bind_some]
    rw [if_pos (by rw [tab_len]; omega), w64s (by omega)]
    exact ih
open Classical in
theorem spec_GiveTable_eq (t : Int) (l : List Int) (hl : l.length ≤ 17592186044416) {k : Nat} (hk : l.length + 100 ≤ k) : spec_GiveTable.f k t l = some (if t ≤ 2 ∧ RankP t l then giveT t l else []) := by
  unfold spec_GiveTable.f
  by_cases h : t ≤ 2 ∧ RankP t l
  · have ht2 : 1 ≤ t ∧ t ≤ 2 := ⟨h.2.1.1, h.1⟩
    have := sets_le ht2
    rw [if_pos h]
    have e := spec_giveT h.2 h.1 (2 ^ 2 ^ t.toNat) k 0 (by omega) (by omega)
    rw [show ((0 : Nat) : Int) = 0 from rfl] at e
    exact e
  · rw [if_neg h]
    obtain ⟨k, rfl⟩ : ∃ m, k = m + 1 := ⟨k - 1, by omega⟩
    simp only [spec_GiveTable.l0]
    rw [l1In_eq]
    simp only [Option.bind_some]
    by_cases ht : 1 ≤ t ∧ t ≤ 2
    · rw [if_pos (by simp [ht]), spec_RankOk_eq _ _ hl (by omega)]
      simp only [Option.bind_some]
      rw [if_neg (by simp; exact fun x => h ⟨ht.2, x⟩)]
    · rw [if_neg (by simpa using ht)]
theorem giveT_len (t : Int) (l : List Int) : (giveT t l).length = 2 ^ 2 ^ t.toNat := tab_len _ _
theorem giveT_TableP {t : Int} {l : List Int} (ht : t ≤ 2) (hr : RankP t l) : TableP t (giveT t l) := by
  refine ⟨⟨hr.1.1, ht⟩, giveT_len _ _, fun w hw => ?_⟩
  rw [giveT_len] at hw
  unfold giveT
  rw [tab_rk hw]
  exact giveS_SetP hr.1 _ _
/-! #### FFault -/
/-- The first that is so, or else what comes after. -/
def firstOf (p : Nat → Bool) (c : Int) (R : Int) (n j : Nat) : Int := if (List.range n).any (fun w => decide (j ≤ w) && p w) = true then c else R
theorem firstOf_end {p : Nat → Bool} {c R : Int} {n j : Nat} (h : n ≤ j) : firstOf p c R n j = R := by
  unfold firstOf
  rw [if_neg]
  simp only [Bool.not_eq_true, List.any_eq_false, List.mem_range]
  intro w hw
  simp; omega
theorem firstOf_stop {p : Nat → Bool} {c R : Int} {n j : Nat} (h : j < n) (hp : p j = true) : firstOf p c R n j = c := by
  unfold firstOf
  rw [if_pos]
  rw [List.any_eq_true]
  exact ⟨j, List.mem_range.mpr h, by simp [hp]⟩
theorem firstOf_step {p : Nat → Bool} {c R : Int} {n j : Nat} (h : j < n) (hp : p j = false) : firstOf p c R n (j + 1) = firstOf p c R n j := by
  unfold firstOf
  have e : (List.range n).any (fun w => decide (j + 1 ≤ w) && p w) = (List.range n).any (fun w => decide (j ≤ w) && p w) := by
    rw [Bool.eq_iff_iff, List.any_eq_true, List.any_eq_true]
    constructor
    · rintro ⟨w, h1, h2⟩
      refine ⟨w, h1, ?_⟩
      simp at h2 ⊢
      exact ⟨by omega, h2.2⟩
    · rintro ⟨w, h1, h2⟩
      refine ⟨w, h1, ?_⟩
      simp at h2 ⊢
      refine ⟨?_, h2.2⟩
      by_cases e : w = j
      · subst e; rw [hp] at h2; exact absurd h2.2 (by decide)
      · omega
  rw [e]
theorem firstOf_no {p : Nat → Bool} {c R : Int} {n : Nat} : firstOf p c R n 0 = (if (∃ w, w < n ∧ p w = true) then c else R) := by
  unfold firstOf
  by_cases h : ∃ w, w < n ∧ p w = true
  · rw [if_pos h, if_pos]
    obtain ⟨w, h1, h2⟩ := h
    rw [List.any_eq_true]
    exact ⟨w, List.mem_range.mpr h1, by simp [h2]⟩
  · rw [if_neg h, if_neg]
    simp only [Bool.not_eq_true, List.any_eq_false, List.mem_range]
    intro w hw
    rw [Bool.eq_false_iff]
    intro h2
    simp at h2
    exact h ⟨w, hw, h2⟩
theorem lt8_of256 {a : Int} (h : a < 256) : a < 2 ^ 8 := by
  have : (2 : Int) ^ 8 = 256 := by decide
  omega
theorem sub_iff {a b : Int} (ha : 0 ≤ a) (ha' : a < 256) : andS a b = a ↔ ∀ w, w < 8 → mem a w = true → mem b w = true := andS_self (Nat.le_refl 8) ha (lt8_of256 ha')
theorem andNot_zero {a b : Int} (ha : 0 ≤ a) (ha' : a < 256) (hb : 0 ≤ b) (hb' : b < 256) : bits .andNot .i64 a b = 0 ↔ andS a b = a := by
  rw [bits_andNot8 ha ha' hb hb', mk_eq_zero, sub_iff ha ha']
  constructor
  · intro h w hw hm
    have := h w hw
    rw [hm] at this
    simpa using this
  · intro h w hw
    cases hm : mem a w
    · rfl
    · rw [h w hw hm]; rfl
/-- What is in one, but not in another within it. -/
theorem minus_eq {a c : Int} (ha : 0 ≤ a) (ha' : a < 256) (hc : 0 ≤ c) (hc' : c < 256) (h : andS c a = c) : a - c = bits .andNot .i64 a c := by
  rw [bits_andNot8 ha ha' hc hc']
  have h1 := mk_add (fun v => mem a v && !mem c v) (mem c) 8
  have h2 : mk (fun w => (mem a w && !mem c w) && mem c w) 8 = 0 := by
    rw [mk_eq_zero]
    intro w hw
    cases mem c w <;> simp
  have h3 : mk (fun w => (mem a w && !mem c w) || mem c w) 8 = a := by
    rw [← mk_mem ha (lt8_of256 ha')]
    apply mk_congr
    intro w hw
    rw [mk_mem ha (lt8_of256 ha')]
    cases hm : mem c w
    · simp
    · have := (sub_iff hc hc').mp h w hw hm
      rw [this]; rfl
  rw [h2, h3, mk_mem hc (lt8_of256 hc')] at h1
  omega
def f1 (l : List Int) (c : Int) (w : Nat) : Bool := decide (c = 0) || !decide (andS c (rk l w) = c)
def f2 (l : List Int) (c : Int) (w : Nat) : Bool := !decide (andS c (w : Int) = c) && !decide (rk l w = c)
def f3 (l : List Int) (w : Nat) : Bool := decide (andS (rk l w) (w : Int) = rk l w)
def f4 (l : List Int) (c : Int) (w : Nat) : Bool := !decide (andS (bits .andNot .i64 (rk l w) c) (w : Int) = 0)
/-- The least number of a postulate that is not fulfilled. -/
def faultS (l : List Int) (c : Int) (n : Nat) : Int := firstOf (f1 l c) 1 (firstOf (f2 l c) 2 (firstOf (f3 l) 3 (firstOf (f4 l c) 4 0 n 0) (n - 1) 0) n 0) n 0
section
variable {l : List Int} {c : Int} {n : Nat} (hn : l.length = n) (h16 : n ≤ 16) (hc : 0 ≤ c ∧ c < 256) (hv : ∀ w, w < n → 0 ≤ rk l w ∧ rk l w < 256)
include hn h16 hc hv
theorem impl_f4 {j : Nat} : ∀ (d k j : Nat), j + d = n → d < k → impl_giveFault.l3 k c l (n : Int) j = some (firstOf (f4 l c) 4 0 n j)
  | 0, k, j, hj, hk => by
    obtain ⟨k, rfl⟩ : ∃ m, k = m + 1 := ⟨k - 1, by omega⟩
    simp only [impl_giveFault.l3]
    rw [if_neg (by omega), firstOf_end (by omega)]
  | d + 1, k, j, hj, hk => by
    obtain ⟨k, rfl⟩ : ∃ m, k = m + 1 := ⟨k - 1, by omega⟩
    have ih := impl_f4 (j := 0) d k (j + 1) (by omega) (by omega)
    have hj2 := hv j (by omega)
    have hb : 0 ≤ bits .andNot .i64 (rk l j) c ∧ bits .andNot .i64 (rk l j) c < 256 := by
      rw [bits_andNot8 hj2.1 hj2.2 hc.1 hc.2]
      exact ⟨mk_nonneg _ _, by have := mk_lt (fun v => mem (rk l j) v && !mem c v) 8; have e : (2 : Int) ^ 8 = 256 := by decide
                               omega⟩
    simp only [impl_giveFault.l3]
    rw [if_pos (by omega), if_pos (by omega), if_pos (by omega), w64s (by omega)]
    have e : bits .and .i64 (bits .andNot .i64 (rd l (j : Int)) c) (j : Int) = andS (bits .andNot .i64 (rk l j) c) (j : Int) := bits_and8 hb.1 hb.2 (by omega) (by omega)
    rw [e]
    by_cases h : andS (bits .andNot .i64 (rk l j) c) (j : Int) = 0
    · rw [if_pos h, ih, firstOf_step (by omega) (by unfold f4; simp [h])]
    · rw [if_neg h, firstOf_stop (by omega) (by unfold f4; simp [h])]
theorem impl_f3 {j : Nat} : ∀ (d k j : Nat), j + d = n → d + n + 1 < k → impl_giveFault.l2 k l ((n : Int) - 1) c l (n : Int) j = some (firstOf (f3 l) 3 (firstOf (f4 l c) 4 0 n 0) (n - 1) j)
  | 0, k, j, hj, hk => by
    obtain ⟨k, rfl⟩ : ∃ m, k = m + 1 := ⟨k - 1, by omega⟩
    simp only [impl_giveFault.l2]
    rw [if_neg (by omega), firstOf_end (p := f3 l) (n := n - 1) (by omega), hn]
    exact impl_f4 hn h16 hc hv (j := 0) n k 0 (by omega) (by omega)
  | d + 1, k, j, hj, hk => by
    obtain ⟨k, rfl⟩ : ∃ m, k = m + 1 := ⟨k - 1, by omega⟩
    have ih := impl_f3 (j := 0) d k (j + 1) (by omega) (by omega)
    have hj2 := hv j (by omega)
    simp only [impl_giveFault.l2]
    rw [if_pos (by omega), if_pos (by omega), if_pos (by omega), w64s (by omega)]
    by_cases ha : (j : Int) = (n : Int) - 1
    · rw [if_pos ha, ih, firstOf_end (p := f3 l) (n := n - 1) (j := j + 1) (by omega), firstOf_end (p := f3 l) (n := n - 1) (j := j) (by omega)]
    · rw [if_neg ha]
      by_cases h : bits .andNot .i64 (rd l (j : Int)) (j : Int) = 0
      · rw [if_pos h, firstOf_stop (by omega) (by unfold f3; exact decide_eq_true ((andNot_zero hj2.1 hj2.2 (by omega) (by omega)).mp h))]
      · rw [if_neg h, ih, firstOf_step (by omega) (by unfold f3; exact decide_eq_false (fun x => h ((andNot_zero hj2.1 hj2.2 (by omega) (by omega)).mpr x)))]
theorem impl_f2 {j : Nat} : ∀ (d k j : Nat), j + d = n → d + n + n + 2 < k → impl_giveFault.l1 k l ((n : Int) - 1) c l (n : Int) j = some (firstOf (f2 l c) 2 (firstOf (f3 l) 3 (firstOf (f4 l c) 4 0 n 0) (n - 1) 0) n j)
  | 0, k, j, hj, hk => by
    obtain ⟨k, rfl⟩ : ∃ m, k = m + 1 := ⟨k - 1, by omega⟩
    simp only [impl_giveFault.l1]
    rw [if_neg (by omega), firstOf_end (p := f2 l c) (by omega), hn]
    exact impl_f3 hn h16 hc hv (j := 0) n k 0 (by omega) (by omega)
  | d + 1, k, j, hj, hk => by
    obtain ⟨k, rfl⟩ : ∃ m, k = m + 1 := ⟨k - 1, by omega⟩
    have ih := impl_f2 (j := 0) d k (j + 1) (by omega) (by omega)
    simp only [impl_giveFault.l1]
    rw [if_pos (by omega), if_pos (by omega), if_pos (by omega), w64s (by omega)]
    have e := andNot_zero hc.1 hc.2 (b := (j : Int)) (by omega) (by omega)
    by_cases h : bits .andNot .i64 c (j : Int) = 0
    · rw [if_pos h, ih, firstOf_step (by omega) (by unfold f2; rw [decide_eq_true (e.mp h)]; rfl)]
    · rw [if_neg h]
      by_cases h2 : rd l (j : Int) = c
      · rw [if_pos h2, ih, firstOf_step (by omega) (by unfold f2; rw [decide_eq_true (show rk l j = c from h2)]; simp)]
      · rw [if_neg h2, firstOf_stop (by omega) (by unfold f2; rw [decide_eq_false (show ¬ rk l j = c from h2), decide_eq_false (fun x => h (e.mpr x))]; rfl)]
theorem impl_f1 {j : Nat} : ∀ (d k j : Nat), j + d = n → d + n + n + n + 3 < k → impl_giveFault.l0 k l ((n : Int) - 1) c l (n : Int) j = some (firstOf (f1 l c) 1 (firstOf (f2 l c) 2 (firstOf (f3 l) 3 (firstOf (f4 l c) 4 0 n 0) (n - 1) 0) n 0) n j)
  | 0, k, j, hj, hk => by
    obtain ⟨k, rfl⟩ : ∃ m, k = m + 1 := ⟨k - 1, by omega⟩
    simp only [impl_giveFault.l0]
    rw [if_neg (by omega), firstOf_end (p := f1 l c) (by omega), hn]
    exact impl_f2 hn h16 hc hv (j := 0) n k 0 (by omega) (by omega)
  | d + 1, k, j, hj, hk => by
    obtain ⟨k, rfl⟩ : ∃ m, k = m + 1 := ⟨k - 1, by omega⟩
    have ih := impl_f1 (j := 0) d k (j + 1) (by omega) (by omega)
    have hj2 := hv j (by omega)
    simp only [impl_giveFault.l0]
    rw [if_pos (by omega), if_pos (by omega), if_pos (by omega), w64s (by omega)]
    have e := andNot_zero hc.1 hc.2 hj2.1 hj2.2
    by_cases h0 : c = 0
    · rw [if_pos h0, firstOf_stop (by omega) (by unfold f1; rw [decide_eq_true h0]; rfl)]
    · rw [if_neg h0]
      by_cases h : bits .andNot .i64 c (rd l (j : Int)) = 0
      · rw [if_pos h, ih, firstOf_step (by omega) (by unfold f1; rw [decide_eq_false h0, decide_eq_true (e.mp h)]; rfl)]
      · rw [if_neg h, firstOf_stop (by omega) (by unfold f1; rw [decide_eq_false (fun x => h (e.mpr x))]; simp)]
theorem spec_f4 {j : Nat} (hsub : ∀ w, w < n → andS c (rk l w) = c) : ∀ (d k j : Nat), j + d = n → d + 10 < k → spec_GiveFault.l3 k l c j = some (firstOf (f4 l c) 4 0 n j)
  | 0, k, j, hj, hk => by
    obtain ⟨k, rfl⟩ : ∃ m, k = m + 1 := ⟨k - 1, by omega⟩
    simp only [spec_GiveFault.l3]
    rw [if_neg (by omega), firstOf_end (by omega)]
  | d + 1, k, j, hj, hk => by
    obtain ⟨k, rfl⟩ : ∃ m, k = m + 1 := ⟨k - 1, by omega⟩
    have ih := spec_f4 (j := 0) hsub d k (j + 1) (by omega) (by omega)
    have hj2 := hv j (by omega)
    have hm := minus_eq hj2.1 hj2.2 hc.1 hc.2 (hsub j (by omega))
    have hb : 0 ≤ bits .andNot .i64 (rk l j) c := by
      rw [bits_andNot8 hj2.1 hj2.2 hc.1 hc.2]
      exact mk_nonneg _ _
    simp only [spec_GiveFault.l3]
    rw [if_pos (by omega), if_pos (by omega), w64s (by omega)]
    have e : wrap64 (rd l (j : Int) - c) = bits .andNot .i64 (rk l j) c := by
      rw [← hm]
      exact w64 (by show _ ≤ rk l j - c; omega) (by show rk l j - c ≤ _; omega)
    rw [e, l1Both_eq hb (by omega) (by omega)]
    simp only [Option.bind_some]
    by_cases h : andS (bits .andNot .i64 (rk l j) c) (j : Int) = 0
    · rw [if_pos h, ih, firstOf_step (by omega) (by unfold f4; simp [h])]
    · rw [if_neg h, firstOf_stop (by omega) (by unfold f4; simp [h])]
theorem spec_f3 {j : Nat} (hsub : ∀ w, w < n → andS c (rk l w) = c) : ∀ (d k j : Nat), j + d = n - 1 → d + n + 12 < k → spec_GiveFault.l2 k l ((n : Int) - 1) c j = some (firstOf (f3 l) 3 (firstOf (f4 l c) 4 0 n 0) (n - 1) j)
  | 0, k, j, hj, hk => by
    obtain ⟨k, rfl⟩ : ∃ m, k = m + 1 := ⟨k - 1, by omega⟩
    simp only [spec_GiveFault.l2]
    rw [if_neg (by omega), firstOf_end (p := f3 l) (n := n - 1) (by omega)]
    exact spec_f4 hn h16 hc hv (j := 0) hsub n k 0 (by omega) (by omega)
  | d + 1, k, j, hj, hk => by
    obtain ⟨k, rfl⟩ : ∃ m, k = m + 1 := ⟨k - 1, by omega⟩
    have ih := spec_f3 (j := 0) hsub d k (j + 1) (by omega) (by omega)
    have hj2 := hv j (by omega)
    simp only [spec_GiveFault.l2]
    rw [if_pos (by omega), if_pos (by omega), if_pos (by omega), l1Both_eq (by exact hj2.1) (by omega) (by omega), w64s (by omega)]
    simp only [Option.bind_some]
    by_cases h : andS (rd l (j : Int)) (j : Int) = rd l (j : Int)
    · rw [if_pos h, firstOf_stop (by omega) (by unfold f3; exact decide_eq_true h)]
    · rw [if_neg h, ih, firstOf_step (by omega) (by unfold f3; exact decide_eq_false h)]
theorem spec_f2 {j : Nat} (hsub : ∀ w, w < n → andS c (rk l w) = c) : ∀ (d k j : Nat), j + d = n → d + n + n + 14 < k → spec_GiveFault.l1 k l ((n : Int) - 1) c j = some (firstOf (f2 l c) 2 (firstOf (f3 l) 3 (firstOf (f4 l c) 4 0 n 0) (n - 1) 0) n j)
  | 0, k, j, hj, hk => by
    obtain ⟨k, rfl⟩ : ∃ m, k = m + 1 := ⟨k - 1, by omega⟩
    simp only [spec_GiveFault.l1]
    rw [if_neg (by omega), firstOf_end (p := f2 l c) (by omega)]
    exact spec_f3 hn h16 hc hv (j := 0) hsub (n - 1) k 0 (by omega) (by omega)
  | d + 1, k, j, hj, hk => by
    obtain ⟨k, rfl⟩ : ∃ m, k = m + 1 := ⟨k - 1, by omega⟩
    have ih := spec_f2 (j := 0) hsub d k (j + 1) (by omega) (by omega)
    simp only [spec_GiveFault.l1]
    rw [if_pos (by omega), l1Both_eq hc.1 (by omega) (by omega), w64s (by omega)]
    simp only [Option.bind_some]
    by_cases h : andS c (j : Int) = c
    · rw [if_pos h, ih, firstOf_step (by omega) (by unfold f2; rw [decide_eq_true h]; rfl)]
    · rw [if_neg h, if_pos (by omega)]
      by_cases h2 : rd l (j : Int) = c
      · rw [if_pos h2, ih, firstOf_step (by omega) (by unfold f2; rw [decide_eq_true (show rk l j = c from h2)]; simp)]
      · rw [if_neg h2, firstOf_stop (by omega) (by unfold f2; rw [decide_eq_false (show ¬ rk l j = c from h2), decide_eq_false h]; rfl)]
theorem spec_f1 {j : Nat} : ∀ (d k j : Nat), j + d = n → d + n + n + n + 16 < k → (∀ w, w < j → andS c (rk l w) = c) → spec_GiveFault.l0 k l ((n : Int) - 1) c j = some (firstOf (f1 l c) 1 (firstOf (f2 l c) 2 (firstOf (f3 l) 3 (firstOf (f4 l c) 4 0 n 0) (n - 1) 0) n 0) n j)
  | 0, k, j, hj, hk, hs => by
    obtain ⟨k, rfl⟩ : ∃ m, k = m + 1 := ⟨k - 1, by omega⟩
    obtain rfl : j = n := by omega
    simp only [spec_GiveFault.l0]
    rw [if_neg (by omega), firstOf_end (p := f1 l c) (j := j) (by omega)]
    exact spec_f2 hn h16 hc hv (j := 0) hs j k 0 (by omega) (by omega)
  | d + 1, k, j, hj, hk, hs => by
    obtain ⟨k, rfl⟩ : ∃ m, k = m + 1 := ⟨k - 1, by omega⟩
    have ih := spec_f1 (j := 0) d k (j + 1) (by omega) (by omega)
    have hj2 := hv j (by omega)
    simp only [spec_GiveFault.l0]
    rw [if_pos (by omega), if_pos (by omega), l1Both_eq hc.1 (by exact hj2.1) (by omega), w64s (by omega)]
    simp only [Option.bind_some]
    by_cases h : andS c (rd l (j : Int)) = c
    · rw [if_pos h]
      by_cases h0 : c = 0
      · rw [if_pos h0, firstOf_stop (by omega) (by unfold f1; rw [decide_eq_true h0]; rfl)]
      · rw [if_neg h0, ih (fun w hw => by
          by_cases e : w = j
          · subst e; exact h
          · exact hs w (by omega)), firstOf_step (by omega) (by unfold f1; rw [decide_eq_false h0, decide_eq_true (show andS c (rk l j) = c from h)]; rfl)]
    · rw [if_neg h, firstOf_stop (by omega) (by unfold f1; rw [decide_eq_false (show ¬ andS c (rk l j) = c from h)]; simp)]
end
theorem TableP.val {t : Int} {l : List Int} (h : TableP t l) : ∀ w, w < 2 ^ 2 ^ t.toNat → 0 ≤ rk l w ∧ rk l w < 256 := fun w hw => by
  have := h.2.2 w (by rw [h.2.1]; exact hw)
  exact ⟨this.2.1, this.lt256⟩
/-- The entry of all worlds. -/
def coreT (t : Int) (l : List Int) : Int := rk l (2 ^ 2 ^ t.toNat - 1)
open Classical in
theorem impl_GiveFault_eq (t : Int) (l : List Int) {k : Nat} (hk : 80 ≤ k) : impl_GiveFault.f k t l = some (if TableP t l then faultS l (coreT t l) (2 ^ 2 ^ t.toNat) else -1) := by
  unfold impl_GiveFault.f
  rw [isTable_eq]
  simp only [Option.bind_some]
  by_cases h : TableP t l
  · have h16 := sets_le h.1
    have h4 := sets_ge h.1
    have hl := h.2.1
    have hv := h.val
    rw [if_pos (by simp [h]), if_pos h]
    unfold impl_giveFault.f
    have e1 : wrap64 ((l.length : Int) - 1) = (l.length : Int) - 1 := w64 (by omega) (by omega)
    have e2 : rd l ((l.length : Int) - 1) = coreT t l := by
      unfold coreT rk
      congr 1
      omega
    rw [e1, if_pos (by omega), if_pos (by omega), e2, hl]
    have e := impl_f1 (c := coreT t l) hl h16 (hv _ (by omega)) hv (j := 0) (2 ^ 2 ^ t.toNat) k 0 (by omega) (by omega)
    rw [show ((0 : Nat) : Int) = 0 from rfl] at e
    rw [e]
    rfl
  · rw [if_neg (by simp [h]), if_neg h]
open Classical in
theorem spec_GiveFault_eq (t : Int) (l : List Int) (hl : l.length ≤ 17592186044416) {k : Nat} (hk : l.length + 100 ≤ k) : spec_GiveFault.f k t l = some (if TableP t l then faultS l (coreT t l) (2 ^ 2 ^ t.toNat) else -1) := by
  unfold spec_GiveFault.f
  rw [spec_TableOk_eq _ _ hl (by omega)]
  simp only [Option.bind_some]
  by_cases h : TableP t l
  · have h16 := sets_le h.1
    have h4 := sets_ge h.1
    have hl := h.2.1
    have hv := h.val
    have hp := sets_cast (2 ^ t.toNat)
    rw [if_pos (by simp [h]), if_pos h, all_spec (by have := h.1; omega)]
    simp only [Option.bind_some]
    have e2 : rd l (2 ^ 2 ^ t.toNat - 1) = coreT t l := by
      unfold coreT rk
      congr 1
      omega
    rw [if_pos (by omega), if_pos (by omega), e2, ← hp]
    have e := spec_f1 (c := coreT t l) hl h16 (hv _ (by omega)) hv (j := 0) (2 ^ 2 ^ t.toNat) k 0 (by omega) (by omega) (fun w hw => by omega)
    rw [show ((0 : Nat) : Int) = 0 from rfl] at e
    rw [e]
    rfl
  · rw [if_neg (by simp [h]), if_neg h]
end Go.Proofs.Ythgddbnmieodkaa.LQ

/- Plain facts about what the printed functions answer (several pieces in one text). Conditions: those of each theorem. -/
import Derived.Test.YthgddbnmieodkaaQ12
import Derived.Test.YthgddbnmieodkaaQ17
import Derived.Test.YthgddbnmieodkaaQ18
import Derived.Test.YthgddbnmieodkaaQLibB
import Derived.Test.YthgddbnmieodkaaQLibA
import Derived.Test.YthgddbnmieodkaaSets
set_option linter.unusedVariables false
set_option linter.unusedSimpArgs false
namespace Go.Proofs.Ythgddbnmieodkaa.LQ
open Go.RowKit Go.Proofs.YthgddbnmieodkaaW.PrintWords Go.Proofs.YthgddbnmieodkaaW.PrintLast Go.Proofs.YthgddbnmieodkaaW.PrintMore Go.Proofs.BelM Go.Proofs.Ythgddbnmieodkaa.Q
/-! #### FFirst -/
section
variable {t : Int} {l : List Int} (ht : 1 ≤ t ∧ t ≤ 2) (hn : l.length = 2 ^ 2 ^ t.toNat) (hv : ∀ w, w < 2 ^ 2 ^ t.toNat → 0 ≤ rk l w ∧ rk l w < 256)
include ht hn hv
theorem first3 {a : Nat} (ha : a < 2 ^ 2 ^ t.toNat) {K : Nat} (hc : ∀ k, K ≤ k → impl_firstFault.l2 k l l (l.length : Int) ((a + 1 : Nat) : Int) = some 0 ∨ impl_firstFault.l2 k l l (l.length : Int) ((a + 1 : Nat) : Int) = some 3) : ∀ (d k j : Nat), j + d = 2 ^ 2 ^ t.toNat → d + K < k →
    impl_firstFault.l3 k l (a : Int) (rk l a) l (l.length : Int) (a : Int) (l.length : Int) j = some 0 ∨ impl_firstFault.l3 k l (a : Int) (rk l a) l (l.length : Int) (a : Int) (l.length : Int) j = some 3
  | 0, k, j, hj, hk => by
    obtain ⟨k, rfl⟩ : ∃ m, k = m + 1 := ⟨k - 1, by omega⟩
    simp only [impl_firstFault.l3]
    rw [if_neg (by omega), w64s (by have := sets_le ht; omega)]
    exact hc k (by omega)
  | d + 1, k, j, hj, hk => by
    obtain ⟨k, rfl⟩ : ∃ m, k = m + 1 := ⟨k - 1, by omega⟩
    have h16 := sets_le ht
    have ih := first3 ha hc d k (j + 1) (by omega) (by omega)
    have hva := hv a ha
    have e1 : bits .and .i64 (a : Int) (j : Int) = andS (a : Int) (j : Int) := bits_and8 (by omega) (by omega) (by omega) (by omega)
    have h1 := andS_nonneg (a : Int) (j : Int)
    have h2 : andS (a : Int) (j : Int) < 2 ^ 2 ^ t.toNat := andS_lt (worlds_le (t := t) (by omega)) (by omega) (by rw [← sets_cast]; omega)
    have hp := sets_cast (2 ^ t.toNat)
    simp only [impl_firstFault.l3]
    rw [if_pos (by omega), e1, w64s (by omega)]
    by_cases c1 : bits .and .i64 (rk l a) (j : Int) = 0
    · rw [if_pos c1]
      exact ih
    · rw [if_neg c1, if_pos h1, if_pos (by omega)]
      by_cases c2 : bits .and .i64 (rk l a) (j : Int) = rd l (andS (a : Int) (j : Int))
      · rw [if_pos c2]
        exact ih
      · rw [if_neg c2]
        exact .inr rfl
theorem first2 : ∀ (d k a : Nat), a + d = 2 ^ 2 ^ t.toNat → d * 20 + 1 ≤ k →
    impl_firstFault.l2 k l l (l.length : Int) (a : Int) = some 0 ∨ impl_firstFault.l2 k l l (l.length : Int) (a : Int) = some 3
  | 0, k, a, hj, hk => by
    obtain ⟨k, rfl⟩ : ∃ m, k = m + 1 := ⟨k - 1, by omega⟩
    simp only [impl_firstFault.l2]
    rw [if_neg (by omega)]
    exact .inl rfl
  | d + 1, k, a, hj, hk => by
    obtain ⟨k, rfl⟩ : ∃ m, k = m + 1 := ⟨k - 1, by omega⟩
    have h16 := sets_le ht
    simp only [impl_firstFault.l2]
    rw [if_pos (by omega), if_pos (by omega), if_pos (by omega)]
    exact first3 ht hn hv (by omega) (K := d * 20 + 1) (fun k hk => first2 d k (a + 1) (by omega) hk) (2 ^ 2 ^ t.toNat) k 0 (by omega) (by omega)
theorem first1 (h2 : ∀ w, w < 2 ^ 2 ^ t.toNat → (rk l w = 0 ↔ w = 0)) : ∀ (d k j : Nat), j + d = 2 ^ 2 ^ t.toNat → d + 350 ≤ k →
    impl_firstFault.l1 k l l (l.length : Int) (j : Int) = some 0 ∨ impl_firstFault.l1 k l l (l.length : Int) (j : Int) = some 3
  | 0, k, j, hj, hk => by
    obtain ⟨k, rfl⟩ : ∃ m, k = m + 1 := ⟨k - 1, by omega⟩
    have h16 := sets_le ht
    simp only [impl_firstFault.l1]
    rw [if_neg (by omega)]
    exact first2 ht hn hv (2 ^ 2 ^ t.toNat) k 0 (by omega) (by omega)
  | d + 1, k, j, hj, hk => by
    obtain ⟨k, rfl⟩ : ∃ m, k = m + 1 := ⟨k - 1, by omega⟩
    have h16 := sets_le ht
    have ih := first1 h2 d k (j + 1) (by omega) (by omega)
    have e : (rd l (j : Int) == 0) = ((j : Int) == 0) := by
      rw [Bool.eq_iff_iff, beq_iff_eq, beq_iff_eq]
      have := h2 j (by omega)
      constructor
      · intro h
        have := this.mp h
        omega
      · intro h
        exact this.mpr (by omega)
    simp only [impl_firstFault.l1]
    rw [if_pos (by omega), if_pos (by omega), if_pos (by omega), e, if_neg (by simp), w64s (by omega)]
    exact ih
theorem first0 (h1 : ∀ w, w < 2 ^ 2 ^ t.toNat → andS (rk l w) (w : Int) = rk l w) (h2 : ∀ w, w < 2 ^ 2 ^ t.toNat → (rk l w = 0 ↔ w = 0)) : ∀ (d k j : Nat), j + d = 2 ^ 2 ^ t.toNat → d + 370 ≤ k →
    impl_firstFault.l0 k l l (l.length : Int) (j : Int) = some 0 ∨ impl_firstFault.l0 k l l (l.length : Int) (j : Int) = some 3
  | 0, k, j, hj, hk => by
    obtain ⟨k, rfl⟩ : ∃ m, k = m + 1 := ⟨k - 1, by omega⟩
    have h16 := sets_le ht
    simp only [impl_firstFault.l0]
    rw [if_neg (by omega)]
    exact first1 ht hn hv h2 (2 ^ 2 ^ t.toNat) k 0 (by omega) (by omega)
  | d + 1, k, j, hj, hk => by
    obtain ⟨k, rfl⟩ : ∃ m, k = m + 1 := ⟨k - 1, by omega⟩
    have h16 := sets_le ht
    have ih := first0 h1 h2 d k (j + 1) (by omega) (by omega)
    have hvj := hv j (by omega)
    simp only [impl_firstFault.l0]
    have e0 : bits .andNot .i64 (rd l (j : Int)) (j : Int) = 0 := (andNot_zero hvj.1 hvj.2 (by omega) (by omega)).mpr (h1 j (by omega))
    rw [if_pos (by omega), if_pos (by omega), if_pos (by omega), if_pos e0, w64s (by omega)]
    exact ih
end
open Classical in
theorem firstFault_ok {t : Int} {l : List Int} (h : TableP t l) (h1 : ∀ w, w < 2 ^ 2 ^ t.toNat → andS (rk l w) (w : Int) = rk l w) (h2 : ∀ w, w < 2 ^ 2 ^ t.toNat → (rk l w = 0 ↔ w = 0)) {k : Nat} (hk : 400 ≤ k) :
    impl_FirstFault.f k t l = some 0 ∨ impl_FirstFault.f k t l = some 3 := by
  have h16 := sets_le h.1
  have e := first0 h.1 h.2.1 h.val h1 h2 (2 ^ 2 ^ t.toNat) k 0 (by omega) (by omega)
  rw [show ((0 : Nat) : Int) = 0 from rfl] at e
  unfold impl_FirstFault.f impl_firstFault.f
  rw [isTable_eq]
  simp only [Option.bind_some]
  rw [if_pos (by simp [h])]
  rcases e with e | e
  · rw [e]; exact .inl rfl
  · rw [e]; exact .inr rfl
/-- Nothing fails: what the postulates say. -/
theorem firstOf_is {p : Nat → Bool} {c R : Int} {n j : Nat} : firstOf p c R n j = c ∨ firstOf p c R n j = R := by
  unfold firstOf
  split
  · exact .inl rfl
  · exact .inr rfl
theorem fault_range (l : List Int) (c : Int) (n : Nat) : 0 ≤ faultS l c n ∧ faultS l c n ≤ 4 := by
  unfold faultS
  rcases firstOf_is (p := f1 l c) (c := 1) (R := firstOf (f2 l c) 2 (firstOf (f3 l) 3 (firstOf (f4 l c) 4 0 n 0) (n - 1) 0) n 0) (n := n) (j := 0) with e | e
  · omega
  · rw [e]
    rcases firstOf_is (p := f2 l c) (c := 2) (R := firstOf (f3 l) 3 (firstOf (f4 l c) 4 0 n 0) (n - 1) 0) (n := n) (j := 0) with e | e
    · omega
    · rw [e]
      rcases firstOf_is (p := f3 l) (c := 3) (R := firstOf (f4 l c) 4 0 n 0) (n := n - 1) (j := 0) with e | e
      · omega
      · rw [e]
        rcases firstOf_is (p := f4 l c) (c := 4) (R := 0) (n := n) (j := 0) with e | e
        · omega
        · omega
/-- If nothing fails, no entry is within its set, but that of all worlds. -/
theorem fault3 {l : List Int} {c : Int} {n : Nat} (h : faultS l c n = 0) : ∀ w, w < n - 1 → ¬ andS (rk l w) (w : Int) = rk l w := by
  intro w hw hx
  unfold faultS at h
  rcases firstOf_is (p := f1 l c) (c := 1) (R := firstOf (f2 l c) 2 (firstOf (f3 l) 3 (firstOf (f4 l c) 4 0 n 0) (n - 1) 0) n 0) (n := n) (j := 0) with e | e
  · omega
  · rw [e] at h
    rcases firstOf_is (p := f2 l c) (c := 2) (R := firstOf (f3 l) 3 (firstOf (f4 l c) 4 0 n 0) (n - 1) 0) (n := n) (j := 0) with e | e
    · omega
    · rw [e] at h
      rw [firstOf_no, if_pos ⟨w, hw, by unfold f3; exact decide_eq_true hx⟩] at h
      omega
/-! #### FLawWords -/

theorem both_loop {a b : Int} (ha : 0 ≤ a) (hb : 0 ≤ b) : ∀ (d k j : Nat), j + d = 8 → d < k → laws_both.l0 k a b (mk (fun w => mem a w && mem b w) j) j = some (andS a b)
  | 0, k, j, hj, hk => by
    obtain ⟨k, rfl⟩ : ∃ m, k = m + 1 := ⟨k - 1, by omega⟩
    obtain rfl : j = 8 := by omega
    simp only [laws_both.l0]
    rw [if_neg (by decide)]
    rfl
  | d + 1, k, j, hj, hk => by
    obtain ⟨k, rfl⟩ : ∃ m, k = m + 1 := ⟨k - 1, by omega⟩
    have ih := both_loop ha hb d k (j + 1) (by omega) (by omega)
    simp only [laws_both.l0]
    rw [if_pos (by omega), if_pos (by omega), tmod_bit ha (by omega), tmod_bit hb (by omega), w64s (by omega)]
    by_cases h1 : mem a j = true
    · rw [if_pos h1, if_pos rfl]
      by_cases h2 : mem b j = true
      · rw [if_pos h2, if_pos rfl, add_bit (by omega) (by show (mem a j && mem b j) = true; rw [h1, h2]; rfl)]
        exact ih
      · rw [if_neg h2, if_neg (by decide), skip_bit (j := j) (by show (mem a j && mem b j) = false; simp [h2])]
        exact ih
    · rw [if_neg h1, if_neg (by decide), skip_bit (j := j) (by show (mem a j && mem b j) = false; simp [h1])]
      exact ih
theorem both_eq {a b : Int} (ha : 0 ≤ a) (hb : 0 ≤ b) {k : Nat} (hk : 9 ≤ k) : laws_both.f k a b = some (andS a b) := by
  unfold laws_both.f
  exact both_loop ha hb 8 k 0 (by omega) (by omega)
end Go.Proofs.Ythgddbnmieodkaa.LQ

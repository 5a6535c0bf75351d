/- Sets of worlds as numbers, least ranks: plain facts about whole numbers, with no program in sight. No condition. -/
set_option linter.unusedVariables false
namespace Go.Proofs.BelM

/-- Is world w in the set s? -/
def mem (s : Int) (w : Nat) : Bool := s.toNat.testBit w

def mkN (p : Nat → Bool) : Nat → Nat
  | 0 => 0
  | n + 1 => mkN p n + if p n = true then 2 ^ n else 0

theorem mkN_lt (p : Nat → Bool) : ∀ n, mkN p n < 2 ^ n
  | 0 => by simp [mkN]
  | n + 1 => by
    have := mkN_lt p n
    simp only [mkN, Nat.pow_succ]
    split <;> omega

theorem testBit_mkN (p : Nat → Bool) : ∀ n w, (mkN p n).testBit w = (decide (w < n) && p w)
  | 0, w => by simp [mkN]
  | n + 1, w => by
    have hlt := mkN_lt p n
    have ih := testBit_mkN p n w
    simp only [mkN]
    rcases Nat.lt_trichotomy w n with h | h | h
    · by_cases hp : p n = true
      · rw [if_pos hp, Nat.add_comm, Nat.testBit_two_pow_add_gt h, ih]
        simp [h, Nat.lt_succ_of_lt h]
      · rw [if_neg hp, Nat.add_zero, ih]
        simp [h, Nat.lt_succ_of_lt h]
    · subst h
      by_cases hp : p w = true
      · rw [if_pos hp, Nat.add_comm, Nat.testBit_two_pow_add_eq, ih]
        simp [hp]
      · rw [if_neg hp, Nat.add_zero, ih]
        simp [hp]
    · have h2 : mkN p (n + 1) < 2 ^ (n + 1) := mkN_lt p (n + 1)
      have h3 : 2 ^ (n + 1) ≤ 2 ^ w := Nat.pow_le_pow_right (by decide) h
      have h4 : (mkN p (n + 1)).testBit w = false := Nat.testBit_lt_two_pow (by omega)
      simp only [mkN] at h4
      rw [h4]
      simp; omega

def mk (p : Nat → Bool) (n : Nat) : Int := (mkN p n : Int)

theorem mk_zero (p : Nat → Bool) : mk p 0 = 0 := rfl
theorem mk_succ (p : Nat → Bool) (n : Nat) : mk p (n + 1) = mk p n + if p n = true then 2 ^ n else 0 := by
  simp only [mk, mkN]
  split <;> simp
theorem mk_nonneg (p : Nat → Bool) (n : Nat) : 0 ≤ mk p n := by simp [mk]
theorem mk_lt (p : Nat → Bool) (n : Nat) : mk p n < 2 ^ n := by
  have := mkN_lt p n
  simp only [mk]
  exact_mod_cast this
theorem mem_mk (p : Nat → Bool) (n w : Nat) : mem (mk p n) w = (decide (w < n) && p w) := by
  simp [mem, mk, testBit_mkN]
theorem mem_mk_lt (p : Nat → Bool) {n w : Nat} (h : w < n) : mem (mk p n) w = p w := by
  simp [mem_mk, h]
theorem mem_high {s : Int} {n w : Nat} (_h0 : 0 ≤ s) (h : s < 2 ^ n) (hw : n ≤ w) : mem s w = false := by
  unfold mem
  apply Nat.testBit_lt_two_pow
  have h3 : 2 ^ n ≤ 2 ^ w := Nat.pow_le_pow_right (by decide) hw
  have h4 : ((2 ^ n : Nat) : Int) = 2 ^ n := by simp
  omega
theorem mem_lt {s : Int} {n w : Nat} (h0 : 0 ≤ s) (h : s < 2 ^ n) (hm : mem s w = true) : w < n := by
  apply Nat.lt_of_not_le
  intro hw
  rw [mem_high h0 h hw] at hm
  cases hm
theorem ext {n : Nat} {a b : Int} (ha0 : 0 ≤ a) (ha : a < 2 ^ n) (hb0 : 0 ≤ b) (hb : b < 2 ^ n) (h : ∀ w, w < n → mem a w = mem b w) : a = b := by
  have : a.toNat = b.toNat := by
    apply Nat.eq_of_testBit_eq
    intro w
    by_cases hw : w < n
    · exact h w hw
    · have h1 := mem_high ha0 ha (Nat.le_of_not_lt hw)
      have h2 := mem_high hb0 hb (Nat.le_of_not_lt hw)
      unfold mem at h1 h2
      rw [h1, h2]
  omega
theorem mk_mem {n : Nat} {a : Int} (ha0 : 0 ≤ a) (ha : a < 2 ^ n) : mk (mem a) n = a :=
  ext (mk_nonneg _ _) (mk_lt _ _) ha0 ha (fun w hw => mem_mk_lt _ hw)
theorem mk_congr {p q : Nat → Bool} {n : Nat} (h : ∀ w, w < n → p w = q w) : mk p n = mk q n :=
  ext (mk_nonneg _ _) (mk_lt _ _) (mk_nonneg _ _) (mk_lt _ _) (fun w hw => by rw [mem_mk_lt _ hw, mem_mk_lt _ hw, h w hw])
theorem mk_inj {p q : Nat → Bool} {n : Nat} (h : mk p n = mk q n) : ∀ w, w < n → p w = q w := fun w hw => by
  rw [← mem_mk_lt p hw, h, mem_mk_lt q hw]
theorem mk_eq_iff {p q : Nat → Bool} {n : Nat} : mk p n = mk q n ↔ ∀ w, w < n → p w = q w := ⟨mk_inj, mk_congr⟩
theorem mem_zero (w : Nat) : mem 0 w = false := by simp [mem]
/-- All worlds. -/
theorem mem_all {n w : Nat} : mem (2 ^ n - 1) w = decide (w < n) := by
  have h : ((2 : Int) ^ n - 1).toNat = 2 ^ n - 1 := by
    have h4 : ((2 ^ n : Nat) : Int) = 2 ^ n := by simp
    have h5 : 0 < 2 ^ n := Nat.two_pow_pos n
    omega
  unfold mem
  rw [h, Nat.testBit_two_pow_sub_one]
theorem pow_pos (n : Nat) : (0 : Int) < 2 ^ n := by
  have h4 : ((2 ^ n : Nat) : Int) = 2 ^ n := by simp
  have h5 : 0 < 2 ^ n := Nat.two_pow_pos n
  omega
theorem all_eq (n : Nat) : (2 : Int) ^ n - 1 = mk (fun _ => true) n := by
  have h5 := pow_pos n
  refine ext (n := n) (by omega) (by omega) (mk_nonneg _ _) (mk_lt _ _) (fun w hw => ?_)
  rw [mem_all, mem_mk_lt _ hw]
  simp [hw]
theorem rest_eq {n : Nat} {a : Int} (ha0 : 0 ≤ a) (ha : a < 2 ^ n) : 2 ^ n - 1 - a = mk (fun w => !mem a w) n := by
  have h4 : ((2 ^ n : Nat) : Int) = 2 ^ n := by simp
  refine ext (n := n) (by omega) (by omega) (mk_nonneg _ _) (mk_lt _ _) (fun w hw => ?_)
  rw [mem_mk_lt _ hw]
  have h : ((2 : Int) ^ n - 1 - a).toNat = 2 ^ n - (a.toNat + 1) := by omega
  unfold mem
  rw [h, Nat.testBit_two_pow_sub_succ (by omega)]
  simp [hw]
theorem mem_pow (v w : Nat) : mem (2 ^ v) w = decide (v = w) := by
  have h : ((2 : Int) ^ v).toNat = 2 ^ v := by
    have h4 : ((2 ^ v : Nat) : Int) = 2 ^ v := by simp
    rw [← h4, Int.toNat_natCast]
  unfold mem
  rw [h, Nat.testBit_two_pow]
/-! ### the least and the greatest number of a row -/
def minTo (r : Nat → Int) : Nat → Int
  | 0 => r 0
  | n + 1 => min (minTo r n) (r n)
def maxTo (r : Nat → Int) : Nat → Int
  | 0 => r 0
  | n + 1 => max (maxTo r n) (r n)

end Go.Proofs.BelM

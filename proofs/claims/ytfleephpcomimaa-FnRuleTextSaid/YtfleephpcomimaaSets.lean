/- Sets of worlds as numbers, least ranks: more plain facts. No condition. -/
import Derived.Test.YtfleephpcomimaaMath
set_option linter.unusedVariables false
namespace Go.Proofs.BelM
theorem mk_eq_zero {p : Nat → Bool} {n : Nat} : mk p n = 0 ↔ ∀ w, w < n → p w = false := by
  constructor
  · intro h w hw
    rw [← mem_mk_lt p hw, h, mem_zero]
  · intro h
    refine ext (n := n) (mk_nonneg _ _) (mk_lt _ _) (Int.le_refl _) (pow_pos n) (fun w hw => ?_)
    rw [mem_mk_lt _ hw, h w hw, mem_zero]
theorem exists_mem {s : Int} {n : Nat} (h0 : 0 ≤ s) (h : s < 2 ^ n) (hs : s ≠ 0) : ∃ w, w < n ∧ mem s w = true := by
  apply Classical.byContradiction
  intro hn
  apply hs
  rw [← mk_mem h0 h, mk_eq_zero]
  intro w hw
  cases e : mem s w
  · rfl
  · exact absurd ⟨w, hw, e⟩ hn
theorem mk_of_le {p : Nat → Bool} {n m : Nat} (hn : n ≤ m) (h : ∀ w, n ≤ w → w < m → p w = false) : mk p m = mk p n := by
  have h1 : (2 : Int) ^ n ≤ 2 ^ m := by
    have : 2 ^ n ≤ 2 ^ m := Nat.pow_le_pow_right (by decide) hn
    exact_mod_cast this
  refine ext (n := m) (mk_nonneg _ _) (mk_lt _ _) (mk_nonneg _ _) (Int.lt_of_lt_of_le (mk_lt p n) h1) (fun w hw => ?_)
  rw [mem_mk, mem_mk]
  by_cases hwn : w < n
  · simp [hw, hwn]
  · simp [hwn, h w (by omega) hw]
theorem mk_add (p q : Nat → Bool) : ∀ n, mk p n + mk q n = mk (fun w => p w && q w) n + mk (fun w => p w || q w) n
  | 0 => rfl
  | n + 1 => by
    have ih := mk_add p q n
    simp only [mk_succ]
    cases p n <;> cases q n <;> simp <;> omega

/-! ### what is in both, in one of both -/
def andS (a b : Int) : Int := mk (fun w => mem a w && mem b w) 8
def orS (a b : Int) : Int := mk (fun w => mem a w || mem b w) 8
theorem le_pow8 {n : Nat} (hn : n ≤ 8) : (2 : Int) ^ n ≤ 256 := by
  have : 2 ^ n ≤ 2 ^ 8 := Nat.pow_le_pow_right (by decide) hn
  have h2 : ((2 ^ n : Nat) : Int) = 2 ^ n := by simp
  omega
theorem lt8of {s : Int} {n : Nat} (hn : n ≤ 8) (h : s < 2 ^ n) : s < 2 ^ 8 := by
  have := le_pow8 hn
  have : (2 : Int) ^ 8 = 256 := by decide
  omega
theorem mem_andS {a b : Int} {w : Nat} (h0 : 0 ≤ a) (h : a < 2 ^ 8) : mem (andS a b) w = (mem a w && mem b w) := by
  unfold andS
  rw [mem_mk]
  by_cases hw : w < 8
  · simp [hw]
  · simp [hw, mem_high h0 h (by omega : 8 ≤ w)]
theorem mem_orS {a b : Int} {w : Nat} (h0 : 0 ≤ a) (h : a < 2 ^ 8) (k0 : 0 ≤ b) (k : b < 2 ^ 8) : mem (orS a b) w = (mem a w || mem b w) := by
  unfold orS
  rw [mem_mk]
  by_cases hw : w < 8
  · simp [hw]
  · simp [hw, mem_high h0 h (by omega : 8 ≤ w), mem_high k0 k (by omega : 8 ≤ w)]
theorem add_sub_and {a b : Int} (h0 : 0 ≤ a) (h : a < 2 ^ 8) (k0 : 0 ≤ b) (k : b < 2 ^ 8) : a + b - andS a b = orS a b := by
  have e := mk_add (mem a) (mem b) 8
  rw [mk_mem h0 h, mk_mem k0 k] at e
  unfold andS orS
  omega
theorem andS_nonneg (a b : Int) : 0 ≤ andS a b := mk_nonneg _ _
theorem orS_nonneg (a b : Int) : 0 ≤ orS a b := mk_nonneg _ _
theorem andS_lt8 (a b : Int) : andS a b < 2 ^ 8 := mk_lt _ _
theorem orS_lt8 (a b : Int) : orS a b < 2 ^ 8 := mk_lt _ _
theorem andS_eq {a b : Int} {n : Nat} (hn : n ≤ 8) (h0 : 0 ≤ a) (h : a < 2 ^ n) : andS a b = mk (fun w => mem a w && mem b w) n :=
  mk_of_le hn (fun w hw _ => by rw [mem_high h0 h hw, Bool.false_and])
theorem orS_eq {a b : Int} {n : Nat} (hn : n ≤ 8) (h0 : 0 ≤ a) (h : a < 2 ^ n) (k0 : 0 ≤ b) (k : b < 2 ^ n) : orS a b = mk (fun w => mem a w || mem b w) n :=
  mk_of_le hn (fun w hw _ => by rw [mem_high h0 h hw, mem_high k0 k hw, Bool.false_or])
theorem andS_lt {a b : Int} {n : Nat} (hn : n ≤ 8) (h0 : 0 ≤ a) (h : a < 2 ^ n) : andS a b < 2 ^ n := by rw [andS_eq hn h0 h]; exact mk_lt _ _
theorem orS_lt {a b : Int} {n : Nat} (hn : n ≤ 8) (h0 : 0 ≤ a) (h : a < 2 ^ n) (k0 : 0 ≤ b) (k : b < 2 ^ n) : orS a b < 2 ^ n := by rw [orS_eq hn h0 h k0 k]; exact mk_lt _ _
/-- Within: both are the first. -/
theorem andS_self {a b : Int} {n : Nat} (hn : n ≤ 8) (h0 : 0 ≤ a) (h : a < 2 ^ n) : andS a b = a ↔ ∀ w, w < n → mem a w = true → mem b w = true := by
  rw [andS_eq hn h0 h]
  constructor
  · intro e w hw hm
    have e2 : mem (mk (fun w => mem a w && mem b w) n) w = mem a w := by rw [e]
    rw [mem_mk_lt _ hw, hm] at e2
    simpa using e2
  · intro k
    refine ext (n := n) (mk_nonneg _ _) (mk_lt _ _) h0 h (fun w hw => ?_)
    rw [mem_mk_lt _ hw]
    have := k w hw
    cases e : mem a w
    · rfl
    · rw [this e]; rfl

/-! ### least ranks, from c down -/
def least (c : Int) (r : Nat → Int) (p : Nat → Bool) : Nat → Int
  | 0 => c
  | n + 1 => if p n = true then min (least c r p n) (r n) else least c r p n

theorem least_le_c (c : Int) (r : Nat → Int) (p : Nat → Bool) : ∀ n, least c r p n ≤ c
  | 0 => by simp [least]
  | n + 1 => by
    have := least_le_c c r p n
    simp only [least]
    split <;> omega
theorem least_le (c : Int) (r : Nat → Int) (p : Nat → Bool) : ∀ n w, w < n → p w = true → least c r p n ≤ r w
  | 0, w, h, _ => by omega
  | n + 1, w, h, hp => by
    simp only [least]
    by_cases e : w = n
    · subst e
      rw [if_pos hp]; omega
    · have := least_le c r p n w (by omega) hp
      split <;> omega
theorem least_at (c : Int) (r : Nat → Int) (p : Nat → Bool) : ∀ n, least c r p n = c ∨ ∃ w, w < n ∧ p w = true ∧ r w = least c r p n
  | 0 => .inl rfl
  | n + 1 => by
    have ih := least_at c r p n
    simp only [least]
    by_cases hp : p n = true
    · rw [if_pos hp]
      by_cases hl : r n < least c r p n
      · exact .inr ⟨n, by omega, hp, by omega⟩
      · rcases ih with ih | ⟨w, hw, hq, hr⟩
        · exact .inl (by omega)
        · exact .inr ⟨w, by omega, hq, by omega⟩
    · rw [if_neg hp]
      rcases ih with ih | ⟨w, hw, hq, hr⟩
      · exact .inl ih
      · exact .inr ⟨w, by omega, hq, hr⟩
theorem least_congr {c : Int} {r s : Nat → Int} {p q : Nat → Bool} : ∀ {n : Nat}, (∀ w, w < n → p w = q w) → (∀ w, w < n → p w = true → r w = s w) → least c r p n = least c s q n
  | 0, _, _ => rfl
  | n + 1, h, k => by
    have ih := least_congr (c := c) (n := n) (fun w hw => h w (by omega)) (fun w hw => k w (by omega))
    have h1 := h n (by omega)
    simp only [least]
    rw [← h1, ih]
    by_cases hp : p n = true
    · rw [if_pos hp, if_pos hp, k n (by omega) hp]
    · rw [if_neg hp, if_neg hp]
/-- The characterisation. -/
theorem least_is {c : Int} {r : Nat → Int} {p : Nat → Bool} {n : Nat} {m : Int} (hc : m ≤ c) (hle : ∀ w, w < n → p w = true → m ≤ r w) (hat : m = c ∨ ∃ w, w < n ∧ p w = true ∧ r w = m) : least c r p n = m := by
  have h1 := least_le_c c r p n
  rcases least_at c r p n with h | ⟨w, hw, hp, he⟩
  · rcases hat with h2 | ⟨v, hv, hq, hf⟩
    · omega
    · have := least_le c r p n v hv hq; omega
  · have h2 := hle w hw hp
    rcases hat with h3 | ⟨v, hv, hq, hf⟩
    · omega
    · have := least_le c r p n v hv hq; omega
theorem least_mono {c : Int} {r : Nat → Int} {p q : Nat → Bool} {n : Nat} (h : ∀ w, w < n → p w = true → q w = true) : least c r q n ≤ least c r p n := by
  rcases least_at c r p n with e | ⟨w, hw, hp, he⟩
  · rw [e]; exact least_le_c _ _ _ _
  · have := least_le c r q n w hw (h w hw hp); omega
theorem least_or {c : Int} {r : Nat → Int} {p q : Nat → Bool} {n : Nat} : least c r (fun w => p w || q w) n = min (least c r p n) (least c r q n) := by
  have h1 := least_le_c c r p n
  have h2 := least_le_c c r q n
  refine least_is (by omega) (fun w hw hpq => ?_) ?_
  · simp only [Bool.or_eq_true] at hpq
    rcases hpq with h | h
    · have := least_le c r p n w hw h; omega
    · have := least_le c r q n w hw h; omega
  · by_cases hl : least c r p n ≤ least c r q n
    · rcases least_at c r p n with e | ⟨w, hw, hp, he⟩
      · exact .inl (by omega)
      · exact .inr ⟨w, hw, by simp [hp], by omega⟩
    · rcases least_at c r q n with e | ⟨w, hw, hp, he⟩
      · exact .inl (by omega)
      · exact .inr ⟨w, hw, by simp [hp], by omega⟩
/-- Where something is in the set and below both starts, the start does not matter. -/
theorem least_start {c d : Int} {r : Nat → Int} {p : Nat → Bool} {n : Nat} (hc : ∃ w, w < n ∧ p w = true ∧ r w ≤ c) (hd : ∃ w, w < n ∧ p w = true ∧ r w ≤ d) : least c r p n = least d r p n := by
  obtain ⟨v, hv, hp, hvd⟩ := hd
  obtain ⟨u, hu, hq, huc⟩ := hc
  have a1 := least_le d r p n u hu hq
  have a2 := least_le c r p n v hv hp
  refine least_is (by omega) (fun w hw h => least_le d r p n w hw h) ?_
  rcases least_at d r p n with e | ⟨w, hw, h1, h2⟩
  · exact .inr ⟨v, hv, hp, by have := least_le d r p n v hv hp; omega⟩
  · exact .inr ⟨w, hw, h1, h2⟩
theorem least_attained {c : Int} {r : Nat → Int} {p : Nat → Bool} {n : Nat} (hc : ∃ w, w < n ∧ p w = true ∧ r w ≤ c) : ∃ w, w < n ∧ p w = true ∧ r w = least c r p n := by
  obtain ⟨v, hv, hp, hvd⟩ := hc
  have := least_le c r p n v hv hp
  rcases least_at c r p n with e | h
  · exact ⟨v, hv, hp, by omega⟩
  · exact h
theorem least_lt_c {c : Int} {r : Nat → Int} {p : Nat → Bool} {n : Nat} (h : least c r p n < c) : ∃ w, w < n ∧ p w = true ∧ r w = least c r p n := by
  rcases least_at c r p n with e | h2
  · omega
  · exact h2
theorem least_nonneg {c : Int} {r : Nat → Int} {p : Nat → Bool} {n : Nat} (hc : 0 ≤ c) (h : ∀ w, w < n → 0 ≤ r w) : 0 ≤ least c r p n := by
  rcases least_at c r p n with e | ⟨w, hw, _, he⟩
  · omega
  · have := h w hw; omega
/-- The worlds of a set with the least rank. -/
def rev (n : Nat) (r : Nat → Int) (s : Int) : Int := mk (fun w => mem s w && decide (r w = least 10 r (mem s) n)) n
theorem rev_nonneg (n : Nat) (r : Nat → Int) (s : Int) : 0 ≤ rev n r s := mk_nonneg _ _
theorem rev_lt (n : Nat) (r : Nat → Int) (s : Int) : rev n r s < 2 ^ n := mk_lt _ _
theorem mem_rev {n : Nat} {r : Nat → Int} {s : Int} {w : Nat} (hw : w < n) : mem (rev n r s) w = (mem s w && decide (r w = least 10 r (mem s) n)) := mem_mk_lt _ hw
theorem rev_congr {n : Nat} {r q : Nat → Int} {s : Int} (h : ∀ w, w < n → r w = q w) : rev n r s = rev n q s := by
  unfold rev
  rw [least_congr (c := 10) (n := n) (r := r) (s := q) (p := mem s) (fun _ _ => rfl) (fun w hw _ => h w hw)]
  exact mk_congr (fun w hw => by rw [h w hw])
theorem minTo_le (r : Nat → Int) : ∀ n w, w < n → minTo r n ≤ r w
  | 0, w, h => by omega
  | n + 1, w, h => by
    simp only [minTo]
    by_cases e : w = n
    · subst e; omega
    · have := minTo_le r n w (by omega); omega
theorem minTo_at (r : Nat → Int) : ∀ n, 0 < n → ∃ w, w < n ∧ r w = minTo r n
  | 0, h => by omega
  | n + 1, _ => by
    simp only [minTo]
    by_cases h0 : n = 0
    · subst h0; exact ⟨0, by omega, by simp only [minTo]; omega⟩
    · obtain ⟨w, hw, e⟩ := minTo_at r n (by omega)
      by_cases hl : r n < minTo r n
      · exact ⟨n, by omega, by omega⟩
      · exact ⟨w, by omega, by omega⟩
theorem le_maxTo (r : Nat → Int) : ∀ n w, w < n → r w ≤ maxTo r n
  | 0, w, h => by omega
  | n + 1, w, h => by
    simp only [maxTo]
    by_cases e : w = n
    · subst e; omega
    · have := le_maxTo r n w (by omega); omega
theorem maxTo_at (r : Nat → Int) : ∀ n, 0 < n → ∃ w, w < n ∧ r w = maxTo r n
  | 0, h => by omega
  | n + 1, _ => by
    simp only [maxTo]
    by_cases h0 : n = 0
    · subst h0; exact ⟨0, by omega, by simp only [maxTo]; omega⟩
    · obtain ⟨w, hw, e⟩ := maxTo_at r n (by omega)
      by_cases hl : maxTo r n < r n
      · exact ⟨n, by omega, by omega⟩
      · exact ⟨w, by omega, by omega⟩

end Go.Proofs.BelM

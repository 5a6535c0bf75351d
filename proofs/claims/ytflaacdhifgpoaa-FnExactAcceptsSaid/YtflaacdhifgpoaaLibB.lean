/- Plain facts about what the printed functions answer (several pieces in one text). Conditions: those of each theorem. -/
import Derived.Test.YtflaacdhifgpoaaP4
import Derived.Test.YtflaacdhifgpoaaP7
import Derived.Test.YtflaacdhifgpoaaP9
import Derived.Test.YtflaacdhifgpoaaP12
import Derived.Test.YtflaacdhifgpoaaLibA
import Derived.Test.YtflaacdhifgpoaaSets
set_option linter.unusedVariables false
set_option linter.unusedSimpArgs false
namespace Go.Proofs.Ytflaacdhifgpoaa.L
open Go.RowKit Go.Proofs.YtflaacdhifgpoaaW.PrintWords Go.Proofs.YtflaacdhifgpoaaW.PrintLast Go.Proofs.YtflaacdhifgpoaaW.PrintMore Go.Proofs.BelM Go.Proofs.Ytflaacdhifgpoaa.P
/-! #### FLawAlive -/
theorem alive_eq : laws_alive.f = some true := by decide +kernel
/-! #### FLawWhole -/
theorem whole_eq {t : Int} (ht : 1 ≤ t ∧ t ≤ 3) : laws_whole.f t = some (2 ^ 2 ^ t.toNat - 1) := by
  obtain rfl | rfl | rfl : t = 1 ∨ t = 2 ∨ t = 3 := by omega
  all_goals decide +kernel
/-! #### FLawWords -/

theorem both_loop {a b : Int} (ha : 0 ≤ a) (hb : 0 ≤ b) : ∀ (d k j : Nat), j + d = 8 → d < k → laws_both.l0 k a b (mk (fun w => mem a w && mem b w) j) j = some (andS a b)
  | 0, k, j, hj, hk => by
    obtain ⟨k, rfl⟩ : ∃ m, k = m + 1 := ⟨k - 1, by omega⟩
    obtain rfl : j = 8 := by omega
    simp only [laws_both.l0]
    rw [if_neg (by decide)]
    rfl
  | d + 1, k, j, hj, hk => by
    obtain ⟨k, rfl⟩ : ∃ m, k = m + 1 := ⟨k - 1, by omega⟩
    have ih := both_loop ha hb d k (j + 1) (by omega) (by omega)
    simp only [laws_both.l0]
    rw [if_pos (by omega), if_pos (by omega), tmod_bit ha (by omega), tmod_bit hb (by omega), w64s (by omega)]
    by_cases h1 : mem a j = true
    · rw [if_pos h1, if_pos rfl]
      by_cases h2 : mem b j = true
      · rw [if_pos h2, if_pos rfl, add_bit (by omega) (by show (mem a j && mem b j) = true; rw [h1, h2]; rfl)]
        exact ih
      · rw [if_neg h2, if_neg (by decide), skip_bit (j := j) (by show (mem a j && mem b j) = false; simp [h2])]
        exact ih
    · rw [if_neg h1, if_neg (by decide), skip_bit (j := j) (by show (mem a j && mem b j) = false; simp [h1])]
      exact ih
theorem both_eq {a b : Int} (ha : 0 ≤ a) (hb : 0 ≤ b) {k : Nat} (hk : 9 ≤ k) : laws_both.f k a b = some (andS a b) := by
  unfold laws_both.f
  exact both_loop ha hb 8 k 0 (by omega) (by omega)
/-! #### FLawWithin -/
theorem within_iffS {a b : Int} {n : Nat} (hn : n ≤ 8) (ha : 0 ≤ a) (ha' : a < 2 ^ n) : (andS a b == a) = true ↔ ∀ w, w < n → mem a w = true → mem b w = true := by
  rw [beq_iff_eq]
  exact andS_self hn ha ha'
/-! #### FLawEither -/
theorem either_eq {a b : Int} (ha : 0 ≤ a) (ha' : a < 2 ^ 8) (hb : 0 ≤ b) (hb' : b < 2 ^ 8) {k : Nat} (hk : 9 ≤ k) : laws_either.f k a b = some (orS a b) := by
  unfold laws_either.f
  rw [both_eq ha hb hk]
  simp only [Option.bind_some]
  have h1 := andS_nonneg a b
  have h2 := andS_lt8 a b
  have h3 : (2 : Int) ^ 8 = 256 := by decide
  rw [w64 (x := a + b) (by omega) (by omega), w64 (by omega) (by omega), add_sub_and ha ha' hb hb']
/-! #### FToInt -/
theorem toInt_loop (l : List Int) (hl : l.length ≤ 17592186044416) : ∀ (d k j : Nat) (x : List Int), x.length = l.length → j + d = l.length → d < k → (∀ i, i < j → x.getD i 0 = l.getD i 0) →
    laws_toIntS.l0 k l x j = some l
  | 0, k, j, x, he, hj, hk, hi => by
    obtain ⟨k, rfl⟩ : ∃ m, k = m + 1 := ⟨k - 1, by omega⟩
    simp only [laws_toIntS.l0]
    rw [if_neg (by omega)]
    congr 1
    apply List.ext_getElem he
    intro i h1 h2
    have a1 := hi i (by omega)
    rw [List.getD_eq_getElem?_getD, List.getElem?_eq_getElem h1, List.getD_eq_getElem?_getD, List.getElem?_eq_getElem h2] at a1
    simpa using a1
  | d + 1, k, j, x, he, hj, hk, hi => by
    obtain ⟨k, rfl⟩ : ∃ m, k = m + 1 := ⟨k - 1, by omega⟩
    simp only [laws_toIntS.l0]
    rw [if_pos (by omega), if_pos (by omega), if_pos (by omega), w64s (by omega), show (((j : Nat) : Int)).toNat = j from Int.toNat_natCast j]
    refine toInt_loop l hl d k (j + 1) _ (by rw [List.length_set, he]) (by omega) (by omega) (fun i hi2 => ?_)
    rw [List.getD_eq_getElem?_getD, List.getElem?_set]
    by_cases e : j = i
    · subst e
      rw [if_pos rfl, if_pos (by omega)]
      unfold rd
      rw [Int.toNat_natCast]
      rfl
    · rw [if_neg e, ← List.getD_eq_getElem?_getD]
      exact hi i (by omega)
theorem toIntS_eq {l : List Int} (hl : l.length ≤ 17592186044416) {k : Nat} (hk : l.length + 1 ≤ k) : laws_toIntS.f k l = some l := by
  unfold laws_toIntS.f
  rw [if_pos (by omega), if_pos (by rw [Int.toNat_natCast]; omega)]
  exact toInt_loop l hl l.length k 0 _ (by simp) (by omega) (by omega) (fun i h => by omega)
/-! #### FEqInt -/
theorem rd_nat (l : List Int) (j : Nat) : rd l (j : Int) = l.getD j 0 := by unfold rd; rw [Int.toNat_natCast]
theorem eq_loop {l : List Int} (hl : l.length ≤ 17592186044416) : ∀ (d k j : Nat), j + d = l.length → d < k → laws_eqIntS.l0 k l l j = some true
  | 0, k, j, hj, hk => by
    obtain ⟨k, rfl⟩ : ∃ m, k = m + 1 := ⟨k - 1, by omega⟩
    simp only [laws_eqIntS.l0]
    rw [if_neg (by omega)]
  | d + 1, k, j, hj, hk => by
    obtain ⟨k, rfl⟩ : ∃ m, k = m + 1 := ⟨k - 1, by omega⟩
    simp only [laws_eqIntS.l0]
    rw [if_pos (by omega), if_pos (by omega), if_pos (by omega), if_pos trivial, w64s (by omega)]
    exact eq_loop hl d k (j + 1) (by omega) (by omega)
theorem eqIntS_self {l : List Int} (hl : l.length ≤ 17592186044416) {k : Nat} (hk : l.length + 1 ≤ k) : laws_eqIntS.f k l l = some true := by
  unfold laws_eqIntS.f
  rw [if_pos rfl]
  exact eq_loop hl l.length k 0 (by omega) (by omega)
end Go.Proofs.Ytflaacdhifgpoaa.L

/- Plain facts about what the printed functions answer (several pieces in one text). Conditions: those of each theorem. -/
import Derived.Test.YthgddbnmieodkaaP10
import Derived.Test.YthgddbnmieodkaaP11
import Derived.Test.YthgddbnmieodkaaP12
import Derived.Test.YthgddbnmieodkaaLibA
import Derived.Test.YthgddbnmieodkaaSets
set_option linter.unusedVariables false
set_option linter.unusedSimpArgs false
namespace Go.Proofs.Ythgddbnmieodkaa.L
open Go.RowKit Go.Proofs.YthgddbnmieodkaaW.PrintWords Go.Proofs.YthgddbnmieodkaaW.PrintLast Go.Proofs.YthgddbnmieodkaaW.PrintMore Go.Proofs.BelM Go.Proofs.Ythgddbnmieodkaa.P
/-! #### FLawAlive -/
theorem alive_eq : laws_alive.f = some true := by decide +kernel
/-! #### FLawWhole -/
theorem whole_eq {t : Int} (ht : 1 ≤ t ∧ t ≤ 3) : laws_whole.f t = some (2 ^ 2 ^ t.toNat - 1) := by
  obtain rfl | rfl | rfl : t = 1 ∨ t = 2 ∨ t = 3 := by omega
  all_goals decide +kernel
/-! #### FLawWords -/

theorem both_loop {a b : Int} (ha : 0 ≤ a) (hb : 0 ≤ b) : ∀ (d k j : Nat), j + d = 8 → d < k → laws_both.l0 k a b (mk (fun w => mem a w && mem b w) j) j = some (andS a b)
  | 0, k, j, hj, hk => by
    obtain ⟨k, rfl⟩ : ∃ m, k = m + 1 := ⟨k - 1, by omega⟩
    obtain rfl : j = 8 := by omega
    simp only [laws_both.l0]
    rw [if_neg (by decide)]
    rfl
  | d + 1, k, j, hj, hk => by
    obtain ⟨k, rfl⟩ : ∃ m, k = m + 1 := ⟨k - 1, by omega⟩
    have ih := both_loop ha hb d k (j + 1) (by omega) (by omega)
    simp only [laws_both.l0]
    rw [if_pos (by omega), if_pos (by omega), tmod_bit ha (by omega), tmod_bit hb (by omega), w64s (by omega)]
    by_cases h1 : mem a j = true
    · rw [if_pos h1, if_pos rfl]
      by_cases h2 : mem b j = true
      · rw [if_pos h2, if_pos rfl, add_bit (by omega) (by show (mem a j && mem b j) = true; rw [h1, h2]; rfl)]
        exact ih
      · rw [if_neg h2, if_neg (by decide), skip_bit (j := j) (by show (mem a j && mem b j) = false; simp [h2])]
        exact ih
    · rw [if_neg h1, if_neg (by decide), skip_bit (j := j) (by show (mem a j && mem b j) = false; simp [h1])]
      exact ih
theorem both_eq {a b : Int} (ha : 0 ≤ a) (hb : 0 ≤ b) {k : Nat} (hk : 9 ≤ k) : laws_both.f k a b = some (andS a b) := by
  unfold laws_both.f
  exact both_loop ha hb 8 k 0 (by omega) (by omega)
/-! #### FLawWithin -/
theorem within_eq {a b : Int} (ha : 0 ≤ a) (hb : 0 ≤ b) {k : Nat} (hk : 9 ≤ k) : laws_within.f k a b = some (andS a b == a) := by
  unfold laws_within.f
  rw [both_eq ha hb hk]
  rfl
theorem within_iffS {a b : Int} {n : Nat} (hn : n ≤ 8) (ha : 0 ≤ a) (ha' : a < 2 ^ n) : (andS a b == a) = true ↔ ∀ w, w < n → mem a w = true → mem b w = true := by
  rw [beq_iff_eq]
  exact andS_self hn ha ha'
/-! #### FLawEither -/
theorem either_eq {a b : Int} (ha : 0 ≤ a) (ha' : a < 2 ^ 8) (hb : 0 ≤ b) (hb' : b < 2 ^ 8) {k : Nat} (hk : 9 ≤ k) : laws_either.f k a b = some (orS a b) := by
  unfold laws_either.f
  rw [both_eq ha hb hk]
  simp only [Option.bind_some]
  have h1 := andS_nonneg a b
  have h2 := andS_lt8 a b
  have h3 : (2 : Int) ^ 8 = 256 := by decide
  rw [w64 (x := a + b) (by omega) (by omega), w64 (by omega) (by omega), add_sub_and ha ha' hb hb']
end Go.Proofs.Ythgddbnmieodkaa.L

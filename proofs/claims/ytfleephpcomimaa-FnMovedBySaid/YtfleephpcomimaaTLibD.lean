/- Plain facts about what the printed functions answer (several pieces in one text). Conditions: those of each theorem. -/
import Derived.Test.YtfleephpcomimaaT1
import Derived.Test.YtfleephpcomimaaT11
import Derived.Test.YtfleephpcomimaaTLibA
import Derived.Test.YtfleephpcomimaaSets
set_option linter.unusedVariables false
set_option linter.unusedSimpArgs false
namespace Go.Proofs.Ytfleephpcomimaa.LT
open Go.RowKit Go.Proofs.YtfleephpcomimaaW.PrintWords Go.Proofs.YtfleephpcomimaaW.PrintLast Go.Proofs.YtfleephpcomimaaW.PrintMore Go.Proofs.BelM Go.Proofs.Ytfleephpcomimaa.T
/-! #### FLawAlive -/
theorem alive_eq : laws_alive.f = some true := by decide +kernel
/-! #### FLawWhole -/
theorem whole_eq {t : Int} (ht : 1 ≤ t ∧ t ≤ 3) : laws_whole.f t = some (2 ^ 2 ^ t.toNat - 1) := by
  obtain rfl | rfl | rfl : t = 1 ∨ t = 2 ∨ t = 3 := by omega
  all_goals decide +kernel
/-! #### FSame -/
theorem same_loop {l : List Int} (hl : l.length ≤ 17592186044416) : ∀ (d k j : Nat), j + d = l.length → d < k → laws_sameInts.l0 k l l j = some true
  | 0, k, j, hj, hk => by
    obtain ⟨k, rfl⟩ : ∃ m, k = m + 1 := ⟨k - 1, by omega⟩
    simp only [laws_sameInts.l0]
    rw [if_neg (by omega)]
  | d + 1, k, j, hj, hk => by
    obtain ⟨k, rfl⟩ : ∃ m, k = m + 1 := ⟨k - 1, by omega⟩
    simp only [laws_sameInts.l0]
    rw [if_pos (by omega), if_pos (by omega), if_pos (by omega), if_pos trivial, w64s (by omega)]
    exact same_loop hl d k (j + 1) (by omega) (by omega)
theorem same_self {l : List Int} (hl : l.length ≤ 17592186044416) {k : Nat} (hk : l.length + 1 ≤ k) : laws_sameInts.f k l l = some true := by
  unfold laws_sameInts.f
  rw [if_pos rfl]
  exact same_loop hl l.length k 0 (by omega) (by omega)
end Go.Proofs.Ytfleephpcomimaa.LT

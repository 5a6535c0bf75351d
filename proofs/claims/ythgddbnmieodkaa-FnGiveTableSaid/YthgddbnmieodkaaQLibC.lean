/- Plain facts about what the printed functions answer (several pieces in one text). Conditions: those of each theorem. -/
import Derived.Test.YthgddbnmieodkaaQ7
import Derived.Test.YthgddbnmieodkaaQ10
import Derived.Test.YthgddbnmieodkaaQLibA
import Derived.Test.YthgddbnmieodkaaSets
set_option linter.unusedVariables false
set_option linter.unusedSimpArgs false
namespace Go.Proofs.Ythgddbnmieodkaa.LQ
open Go.RowKit Go.Proofs.YthgddbnmieodkaaW.PrintWords Go.Proofs.YthgddbnmieodkaaW.PrintLast Go.Proofs.YthgddbnmieodkaaW.PrintMore Go.Proofs.BelM Go.Proofs.Ythgddbnmieodkaa.Q
/-! #### FLawAlive -/
theorem alive_eq : laws_alive.f = some true := by decide +kernel
/-! #### FSame -/
theorem same_loop {l : List Int} (hl : l.length ≤ 17592186044416) : ∀ (d k j : Nat), j + d = l.length → d < k → laws_sameInts.l0 k l l j = some true
  | 0, k, j, hj, hk => by
    obtain ⟨k, rfl⟩ : ∃ m, k = m + 1 := ⟨k - 1, by omega⟩
    simp only [laws_sameInts.l0]
    rw [if_neg (by omega)]
  | d + 1, k, j, hj, hk => by
    obtain ⟨k, rfl⟩ : ∃ m, k = m + 1 := ⟨k - 1, by omega⟩
    simp only [laws_sameInts.l0]
    rw [if_pos (by omega), if_pos (by omega), if_pos (by omega), if_pos trivial, w64s (by omega)]
    exact same_loop hl d k (j + 1) (by omega) (by omega)
theorem same_self {l : List Int} (hl : l.length ≤ 17592186044416) {k : Nat} (hk : l.length + 1 ≤ k) : laws_sameInts.f k l l = some true := by
  unfold laws_sameInts.f
  rw [if_pos rfl]
  exact same_loop hl l.length k 0 (by omega) (by omega)
end Go.Proofs.Ythgddbnmieodkaa.LQ

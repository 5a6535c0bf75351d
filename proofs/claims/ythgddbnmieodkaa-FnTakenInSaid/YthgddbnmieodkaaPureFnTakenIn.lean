/- TakenIn: revision is giving up, and taking in, whatever is drawn. Conditions: none beyond the statement's own. -/
import Derived.Test.YthgddbnmieodkaaP16
import Derived.Test.YthgddbnmieodkaaLibE
import Derived.Test.YthgddbnmieodkaaLibC
import Derived.Test.YthgddbnmieodkaaLibB
import Derived.Test.YthgddbnmieodkaaSets
set_option linter.unusedVariables false
set_option linter.unusedSimpArgs false
namespace Go.Proofs.Ythgddbnmieodkaa.Pure
open Go.RowKit Go.Proofs.YthgddbnmieodkaaW.PrintWords Go.Proofs.YthgddbnmieodkaaW.PrintLast Go.Proofs.YthgddbnmieodkaaW.PrintMore Go.Proofs.BelM Go.Proofs.Ythgddbnmieodkaa.P Go.Proofs.Ythgddbnmieodkaa.L

open Classical in
theorem FnTakenIn : laws_FnTakenIn.Pure := by
  intro l0 h1 h2 h3
  refine ⟨200, ?_⟩
  unfold laws_FnTakenIn.f
  by_cases hl : (l0.length : Int) > 1048576
  · rw [if_pos hl]
  · rw [if_neg hl]
    obtain ⟨t, r, s, e, hlen⟩ := drawTake_ok h3 (k := 200) (by omega)
    rw [e]
    simp only [Option.bind_some]
    rw [impl_TakenIn_eq _ _ _ (by omega), spec_TakenIn_eq _ _ _ (by omega) (by omega)]
    simp only [Option.bind_some]
    rw [if_pos trivial]
    by_cases hg : RankP t r ∧ SetP t s
    · obtain ⟨hr, hs⟩ := hg
      have h8 := worlds_le hs.1
      have hlt := all_le hs.1
      have hs2 := hs.2
      have hn := rev_nonneg (2 ^ t.toNat) (rk r) s
      rw [show (if RankP t r ∧ SetP t s then rev (2 ^ t.toNat) (rk r) s else -1) = rev (2 ^ t.toNat) (rk r) s from if_pos ⟨hr, hs⟩, if_neg (by omega), impl_CoreOf_eq _ _ (by omega), if_pos hr, impl_RevisedBy_eq _ _ _ (by omega), if_pos ⟨hr, hs⟩]
      simp only [Option.bind_some]
      rw [if_pos trivial, impl_GivenUp_eq _ _ _ (by omega), if_pos ⟨hr, hs⟩, whole_eq hs.1]
      simp only [Option.bind_some]
      rw [w64 (by omega) (by omega), impl_RevisedBy_eq _ _ _ (by omega), if_pos ⟨hr, rest_SetP hs⟩]
      simp only [Option.bind_some]
      rw [either_eq (coreS_nonneg _ _) (lt8of h8 (coreS_lt _ _)) (rev_nonneg _ _ _) (lt8of h8 (rev_lt _ _ _)) (by omega)]
      simp only [Option.bind_some]
      unfold giveS
      simp
    · rw [if_neg hg, if_pos (by decide), if_pos rfl, alive_eq]
      rfl

end Go.Proofs.Ythgddbnmieodkaa.Pure

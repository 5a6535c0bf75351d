/- FirmnessOf: both are held as firmly as the less firm one, whatever is drawn. Conditions: none beyond the statement's own. -/
import Derived.Test.YthgddbnmieodkaaP12
import Derived.Test.YthgddbnmieodkaaLibD
import Derived.Test.YthgddbnmieodkaaLibA
import Derived.Test.YthgddbnmieodkaaLibC
import Derived.Test.YthgddbnmieodkaaLibB
import Derived.Test.YthgddbnmieodkaaSets
set_option linter.unusedVariables false
set_option linter.unusedSimpArgs false
namespace Go.Proofs.Ythgddbnmieodkaa.Pure
open Go.RowKit Go.Proofs.YthgddbnmieodkaaW.PrintWords Go.Proofs.YthgddbnmieodkaaW.PrintLast Go.Proofs.YthgddbnmieodkaaW.PrintMore Go.Proofs.BelM Go.Proofs.Ythgddbnmieodkaa.P Go.Proofs.Ythgddbnmieodkaa.L

open Classical in
theorem FnFirmnessOf : laws_FnFirmnessOf.Pure := by
  intro l0 l1 h1 h2 h3 k1 k2 k3
  refine ⟨201, ?_⟩
  unfold laws_FnFirmnessOf.f
  have key : laws_FnFirmnessOf.j0 201 l0 l1 (decide ((l1.length : Int) > 1048576)) = some true := by
    simp only [laws_FnFirmnessOf.j0]
    by_cases hl : (l1.length : Int) > 1048576
    · rw [if_pos (by simpa using hl)]
    · rw [if_neg (by simpa using hl)]
      obtain ⟨t, r, s, e, hlen⟩ := drawFirm_ok h3 (k := 200) (by omega)
      rw [e]
      simp only [Option.bind_some]
      rw [impl_FirmnessOf_eq _ _ _ (by omega), spec_FirmnessOf_eq _ _ _ (by omega) (by omega)]
      simp only [Option.bind_some]
      rw [if_pos trivial]
      by_cases hg : RankP t r ∧ SetP t s
      · obtain ⟨hr, hs⟩ := hg
        have ht := hs.1
        have h8 := worlds_le ht
        have hle := all_le ht
        have hge := all_ge ht
        have hn := firmS_nonneg hr s
        rw [show (if RankP t r ∧ SetP t s then firmS t r s else -1) = firmS t r s from if_pos ⟨hr, hs⟩, if_neg (by omega), whole_eq ht]
        simp only [Option.bind_some]
        have e1 : wrap64 ((2 : Int) ^ 2 ^ t.toNat - 1 + 1) = 2 ^ 2 ^ t.toNat := by rw [w64 (by omega) (by omega)]; omega
        have e2 : wrap64 ((l1.length : Int) * 37) = (l1.length : Int) * 37 := w64 (by omega) (by omega)
        rw [e1, if_neg (by omega), e2]
        have ho := other_set ht (x := (l1.length : Int) * 37) (by omega)
        generalize Int.tmod ((l1.length : Int) * 37) (2 ^ 2 ^ t.toNat) = o at ho
        rw [both_eq hs.2.1 ho.2.1 (by omega)]
        simp only [Option.bind_some]
        rw [impl_FirmnessOf_eq _ _ _ (by omega), if_pos ⟨hr, and_SetP hs⟩, impl_FirmnessOf_eq _ _ _ (by omega), if_pos ⟨hr, ho⟩]
        simp only [Option.bind_some]
        rw [mn_eq, if_pos (firm_and hs), impl_CoreOf_eq _ _ (by omega), if_pos hr]
        simp only [Option.bind_some]
        rw [within_eq (coreS_nonneg _ _) hs.2.1 (by omega), impl_FirmnessOf_eq _ _ _ (by omega), if_pos ⟨hr, all_SetP ht⟩, firm_all]
        simp only [Option.bind_some]
        rw [if_pos]
        · rfl
        · rw [beq_iff_eq, Bool.eq_iff_iff, decide_eq_true_eq, within_iffS h8 (coreS_nonneg _ _) (coreS_lt _ _)]
          show 0 < firmS t r s ↔ _
          rw [firm_pos hr]
          exact ⟨fun h w hw hm => h w hw (by rw [mem_coreS hw, decide_eq_true_eq] at hm; exact hm), fun h w hw hm => h w hw (by rw [mem_coreS hw, decide_eq_true_eq]; exact hm)⟩
      · rw [if_neg hg, if_pos (by decide), if_pos rfl, alive_eq]
        rfl
  by_cases hl : (l0.length : Int) > 1048576
  · rw [if_pos hl]
    simp only [laws_FnFirmnessOf.j0]
    rw [if_pos trivial]
  · rw [if_neg hl, key]

end Go.Proofs.Ythgddbnmieodkaa.Pure

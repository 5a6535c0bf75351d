/- The table of giving up is one, and fulfils all postulates, whatever is drawn. Conditions: none beyond the statement's own. -/
import Derived.Test.YthgddbnmieodkaaQ10
import Derived.Test.YthgddbnmieodkaaQ12
import Derived.Test.YthgddbnmieodkaaQLibB
import Derived.Test.YthgddbnmieodkaaQLibG
import Derived.Test.YthgddbnmieodkaaQLibD
import Derived.Test.YthgddbnmieodkaaQLibC
import Derived.Test.YthgddbnmieodkaaSets
set_option linter.unusedVariables false
set_option linter.unusedSimpArgs false
namespace Go.Proofs.Ythgddbnmieodkaa.Pure
open Go.RowKit Go.Proofs.YthgddbnmieodkaaW.PrintWords Go.Proofs.YthgddbnmieodkaaW.PrintLast Go.Proofs.YthgddbnmieodkaaW.PrintMore Go.Proofs.BelM Go.Proofs.Ythgddbnmieodkaa.Q Go.Proofs.Ythgddbnmieodkaa.LQ

theorem giveT_rk {t : Int} {l : List Int} {w : Nat} (hw : w < 2 ^ 2 ^ t.toNat) : rk (giveT t l) w = giveS t l (w : Int) := tab_rk hw
/-- Giving up what is always so is doing nothing. -/
theorem give_all {t : Int} {l : List Int} (hr : RankP t l) : giveS t l (2 ^ 2 ^ t.toNat - 1) = coreS t l := by
  have ha := all_SetP hr.1
  refine ext (n := 2 ^ t.toNat) (giveS_nonneg _ _ _) (giveS_lt hr.1 _ _) (coreS_nonneg _ _) (coreS_lt _ _) (fun w hw => ?_)
  rw [Bool.eq_iff_iff, mem_giveS ha hw, mem_coreS hw, decide_eq_true_eq, mem_all]
  simp [hw]
theorem give_core {t : Int} {l : List Int} (hr : RankP t l) (ht : t ≤ 2) : coreT t (giveT t l) = coreS t l := by
  have h4 := sets_ge ⟨hr.1.1, ht⟩
  unfold coreT
  rw [giveT_rk (by omega)]
  have e : ((2 ^ 2 ^ t.toNat - 1 : Nat) : Int) = 2 ^ 2 ^ t.toNat - 1 := by
    have := sets_cast (2 ^ t.toNat)
    omega
  rw [e, give_all hr]
theorem sub_mem {t a b : Int} (ha : SetP t a) : andS a b = a ↔ ∀ w, w < 2 ^ t.toNat → mem a w = true → mem b w = true := andS_self (worlds_le ha.1) ha.2.1 ha.2.2
theorem give_fault {t : Int} {l : List Int} (hr : RankP t l) (ht : t ≤ 2) : faultS (giveT t l) (coreT t (giveT t l)) (2 ^ 2 ^ t.toNat) = 0 := by
  have ht2 : 1 ≤ t ∧ t ≤ 2 := ⟨hr.1.1, ht⟩
  have h4 := sets_ge ht2
  have hcs : SetP t (coreS t l) := ⟨hr.1, coreS_nonneg _ _, coreS_lt _ _⟩
  rw [give_core hr ht]
  unfold faultS
  rw [firstOf_no, if_neg, firstOf_no, if_neg, firstOf_no, if_neg, firstOf_no, if_neg]
  · rintro ⟨w, hw, h⟩
    have hs := set_nat ht2 hw
    have hg := giveS_SetP hr.1 l (w : Int)
    unfold f4 at h
    rw [giveT_rk hw] at h
    simp only [Bool.not_eq_true, Bool.not_eq_true', decide_eq_false_iff_not] at h
    apply h
    have hd : 0 ≤ bits .andNot .i64 (giveS t l (w : Int)) (coreS t l) := by
      rw [bits_andNot8 hg.2.1 hg.lt256 hcs.2.1 hcs.lt256]; exact mk_nonneg _ _
    unfold andS
    rw [mk_eq_zero]
    intro v hv
    rw [bits_andNot8 hg.2.1 hg.lt256 hcs.2.1 hcs.lt256, mem_mk_lt _ hv]
    by_cases hvn : v < 2 ^ t.toNat
    · cases hm : mem (giveS t l (w : Int)) v
      · rfl
      · rcases (mem_giveS hs hvn).mp hm with h0 | h1
        · rw [mem_coreS hvn, decide_eq_true h0]; rfl
        · rw [h1.1]; simp
    · rw [mem_high hg.2.1 hg.2.2 (by omega)]; rfl
  · rintro ⟨w, hw, h⟩
    have hw2 : w < 2 ^ 2 ^ t.toNat := by omega
    have hs := set_nat ht2 hw2
    have hg := giveS_SetP hr.1 l (w : Int)
    unfold f3 at h
    rw [giveT_rk hw2, decide_eq_true_eq, sub_mem hg] at h
    have hp := sets_cast (2 ^ t.toNat)
    exact give_not_in hr hs (by omega) h
  · rintro ⟨w, hw, h⟩
    have hs := set_nat ht2 hw
    unfold f2 at h
    rw [giveT_rk hw, Bool.and_eq_true] at h
    simp only [Bool.not_eq_true', decide_eq_false_iff_not] at h
    apply h.2
    apply give_nothing hr hs
    intro x
    exact h.1 ((sub_mem hcs).mpr x)
  · rintro ⟨w, hw, h⟩
    have hs := set_nat ht2 hw
    unfold f1 at h
    rw [giveT_rk hw, Bool.or_eq_true] at h
    simp only [decide_eq_true_eq, Bool.not_eq_true', decide_eq_false_iff_not] at h
    rcases h with h | h
    · obtain ⟨z, hz, ez⟩ := hr.zero
      have h1 : mem (coreS t l) z = true := by rw [mem_coreS hz]; exact decide_eq_true ez
      rw [h, mem_zero] at h1
      cases h1
    · exact h ((sub_mem hcs).mpr (core_in_give hs))
open Classical in
theorem FnGiveTable : laws_FnGiveTable.Pure := by
  intro l0 h1 h2 h3
  refine ⟨300, ?_⟩
  unfold laws_FnGiveTable.f
  by_cases hl : (l0.length : Int) > 1048576
  · rw [if_pos hl]
  · rw [if_neg hl]
    obtain ⟨t, r, e, hlen⟩ := drawGiveT_ok h3 (k := 300) (by omega)
    rw [e]
    simp only [Option.bind_some]
    rw [impl_GiveTable_eq _ _ (by omega), spec_GiveTable_eq _ _ (by omega) (by omega)]
    simp only [Option.bind_some]
    by_cases h : t ≤ 2 ∧ RankP t r
    · have ht2 : 1 ≤ t ∧ t ≤ 2 := ⟨h.2.1.1, h.1⟩
      have h4 := sets_ge ht2
      have h16 := sets_le ht2
      rw [if_pos h, same_self (by rw [giveT_len]; omega) (by rw [giveT_len]; omega)]
      simp only [Option.bind_some]
      rw [if_pos trivial, if_neg (by rw [giveT_len]; omega)]
      unfold impl_TableOk.f
      rw [isTable_eq]
      simp only [Option.bind_some]
      rw [if_pos (by simp [giveT_TableP h.1 h.2]), impl_GiveFault_eq _ _ (by omega), if_pos (giveT_TableP h.1 h.2), give_fault h.2 h.1]
      rfl
    · rw [if_neg h, same_self (by simp) (by simp)]
      simp only [Option.bind_some]
      rw [if_pos trivial, if_pos (by rfl), alive_eq]
      rfl

end Go.Proofs.Ythgddbnmieodkaa.Pure

/- GivenUp: what is given up is not believed, whatever is drawn. Conditions: none beyond the statement's own. -/
import Derived.Test.YthgddbnmieodkaaP13
import Derived.Test.YthgddbnmieodkaaLibE
import Derived.Test.YthgddbnmieodkaaLibA
import Derived.Test.YthgddbnmieodkaaLibC
import Derived.Test.YthgddbnmieodkaaLibB
import Derived.Test.YthgddbnmieodkaaSets
set_option linter.unusedVariables false
set_option linter.unusedSimpArgs false
namespace Go.Proofs.Ythgddbnmieodkaa.Pure
open Go.RowKit Go.Proofs.YthgddbnmieodkaaW.PrintWords Go.Proofs.YthgddbnmieodkaaW.PrintLast Go.Proofs.YthgddbnmieodkaaW.PrintMore Go.Proofs.BelM Go.Proofs.Ythgddbnmieodkaa.P Go.Proofs.Ythgddbnmieodkaa.L

theorem last {t : Int} {r : List Int} {s : Int} (hr : RankP t r) (hs : SetP t s) (l1 : List Int) (hl : (l1.length : Int) ≤ 1048576) {k : Nat} (hk : 100 ≤ k) :
    laws_FnGivenUp.j1 k l1 t r s (giveS t r s) (2 ^ 2 ^ t.toNat - 1) false = some true := by
  obtain ⟨k, rfl⟩ : ∃ m, k = m + 1 := ⟨k - 1, by omega⟩
  have ht := hs.1
  have h8 := worlds_le ht
  have hle := all_le ht
  have hge := all_ge ht
  simp only [laws_FnGivenUp.j1]
  have e1 : wrap64 ((2 : Int) ^ 2 ^ t.toNat - 1 + 1) = 2 ^ 2 ^ t.toNat := by rw [w64 (by omega) (by omega)]; omega
  have e2 : wrap64 ((l1.length : Int) * 37) = (l1.length : Int) * 37 := w64 (by omega) (by omega)
  rw [if_neg (by decide), e1, if_neg (by omega), e2]
  have ho := other_set ht (x := (l1.length : Int) * 37) (by omega)
  generalize Int.tmod ((l1.length : Int) * 37) (2 ^ 2 ^ t.toNat) = o at ho
  rw [impl_GivenUp_eq _ _ _ (by omega), if_pos ⟨hr, ho⟩, both_eq hs.2.1 ho.2.1 (by omega)]
  simp only [Option.bind_some]
  rw [impl_GivenUp_eq _ _ _ (by omega), if_pos ⟨hr, and_SetP hs⟩, either_eq (giveS_nonneg _ _ _) (lt8of h8 (giveS_lt ht _ _)) (giveS_nonneg _ _ _) (lt8of h8 (giveS_lt ht _ _)) (by omega)]
  simp only [Option.bind_some]
  rcases give_both hr hs ho with h | h | h
  · rw [if_pos h]
  · by_cases h2 : giveS t r (andS s o) = giveS t r s
    · rw [if_pos h2]
    · rw [if_neg h2, if_pos h]
  · by_cases h2 : giveS t r (andS s o) = giveS t r s
    · rw [if_pos h2]
    · rw [if_neg h2]
      by_cases h3 : giveS t r (andS s o) = giveS t r o
      · rw [if_pos h3]
      · rw [if_neg h3, h]; simp
open Classical in
theorem FnGivenUp : laws_FnGivenUp.Pure := by
  intro l0 l1 h1 h2 h3 k1 k2 k3
  refine ⟨201, ?_⟩
  unfold laws_FnGivenUp.f
  have key : laws_FnGivenUp.j0 201 l0 l1 (decide ((l1.length : Int) > 1048576)) = some true := by
    simp only [laws_FnGivenUp.j0]
    by_cases hl : (l1.length : Int) > 1048576
    · rw [if_pos (by simpa using hl)]
    · rw [if_neg (by simpa using hl)]
      obtain ⟨t, r, s, e, hlen⟩ := drawGive_ok h3 (k := 200) (by omega)
      rw [e]
      simp only [Option.bind_some]
      rw [impl_GivenUp_eq _ _ _ (by omega), spec_GivenUp_eq _ _ _ (by omega) (by omega)]
      simp only [Option.bind_some]
      rw [if_pos trivial]
      by_cases hg : RankP t r ∧ SetP t s
      · obtain ⟨hr, hs⟩ := hg
        have ht := hs.1
        have h8 := worlds_le ht
        have hn := giveS_nonneg t r s
        have hx := giveS_SetP ht r s
        have hfin := last hr hs l1 (by omega) (k := 200) (by omega)
        rw [show (if RankP t r ∧ SetP t s then giveS t r s else -1) = giveS t r s from if_pos ⟨hr, hs⟩, if_neg (by omega), impl_CoreOf_eq _ _ (by omega), if_pos hr, whole_eq ht]
        simp only [Option.bind_some]
        rw [within_eq (coreS_nonneg _ _) hn (by omega), within_eq (coreS_nonneg _ _) hs.2.1 (by omega), within_eq hn hs.2.1 (by omega), both_eq hn hs.2.1 (by omega)]
        simp only [Option.bind_some]
        rw [if_pos ((within_iffS h8 (coreS_nonneg _ _) (coreS_lt _ _)).mpr (core_in_give hs))]
        have inner : (if (andS (coreS t r) s == coreS t r) = true then laws_FnGivenUp.j1 200 l1 t r s (giveS t r s) (2 ^ 2 ^ t.toNat - 1) (andS (giveS t r s) s != coreS t r) else if giveS t r s = coreS t r then laws_FnGivenUp.j1 200 l1 t r s (giveS t r s) (2 ^ 2 ^ t.toNat - 1) false else laws_FnGivenUp.j1 200 l1 t r s (giveS t r s) (2 ^ 2 ^ t.toNat - 1) true) = some true := by
          by_cases hin : (andS (coreS t r) s == coreS t r) = true
          · have h5 := give_take hr hs ((within_iffS h8 (coreS_nonneg _ _) (coreS_lt _ _)).mp hin)
            rw [if_pos hin, h5, show (coreS t r != coreS t r) = false by simp]
            exact hfin
          · have h5 := give_nothing hr hs (fun x => hin ((within_iffS h8 (coreS_nonneg _ _) (coreS_lt _ _)).mpr x))
            rw [if_neg hin, if_pos h5]
            exact hfin
        by_cases hall : s = 2 ^ 2 ^ t.toNat - 1
        · rw [if_pos hall]
          exact inner
        · rw [if_neg hall, if_neg (fun x => give_not_in hr hs hall ((within_iffS h8 hn hx.2.2).mp x))]
          exact inner
      · rw [if_neg hg, if_pos (by decide), if_pos rfl, alive_eq]
        rfl
  by_cases hl : (l0.length : Int) > 1048576
  · rw [if_pos hl]
    simp only [laws_FnGivenUp.j0]
    rw [if_pos trivial]
  · rw [if_neg hl, key]

end Go.Proofs.Ythgddbnmieodkaa.Pure

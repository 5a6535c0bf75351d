/- Plain facts about what the printed functions answer (several pieces in one text). Conditions: those of each theorem. -/
import Derived.Test.YthgddbnmieodkaaP3
import Derived.Test.YthgddbnmieodkaaP4
import Derived.Test.YthgddbnmieodkaaP5
import Derived.Test.YthgddbnmieodkaaP12
import Derived.Test.YthgddbnmieodkaaP16
import Derived.Test.YthgddbnmieodkaaLibA
import Derived.Test.YthgddbnmieodkaaSets
set_option linter.unusedVariables false
set_option linter.unusedSimpArgs false
namespace Go.Proofs.Ythgddbnmieodkaa.L
open Go.RowKit Go.Proofs.YthgddbnmieodkaaW.PrintWords Go.Proofs.YthgddbnmieodkaaW.PrintLast Go.Proofs.YthgddbnmieodkaaW.PrintMore Go.Proofs.BelM Go.Proofs.Ythgddbnmieodkaa.P
/-! #### FGiveU -/
open Classical in
theorem impl_GivenUp_eq (t : Int) (l : List Int) (s : Int) {k : Nat} (hk : 20 ≤ k) : impl_GivenUp.f k t l s = some (if RankP t l ∧ SetP t s then giveS t l s else -1) := by
  unfold impl_GivenUp.f
  rw [isRank_eq _ _ (by omega), isSet_eq]
  simp only [Option.bind_some]
  by_cases hr : RankP t l
  · rw [if_pos (by simp [hr])]
    by_cases hs : SetP t s
    · rw [if_pos (by simp [hs]), if_pos ⟨hr, hs⟩, givenUp_eq hr hs hk]
      rfl
    · rw [if_neg (by simp [hs]), if_neg (fun x => hs x.2)]
  · rw [if_neg (by simp [hr]), if_neg (fun x => hr x.1)]
/-- Taken in: revision by way of giving up. -/
theorem take_rev {t : Int} {l : List Int} {s : Int} (hr : RankP t l) (hs : SetP t s) : andS (giveS t l (2 ^ 2 ^ t.toNat - 1 - s)) s = rev (2 ^ t.toNat) (rk l) s := by
  have h8 := worlds_le hs.1
  refine ext (n := 2 ^ t.toNat) (andS_nonneg _ _) (andS_lt h8 (giveS_nonneg _ _ _) (giveS_lt hs.1 _ _)) (rev_nonneg _ _ _) (rev_lt _ _ _) (fun w hw => ?_)
  rw [mem_andS (giveS_nonneg _ _ _) (lt8of h8 (giveS_lt hs.1 _ _)), Bool.eq_iff_iff, Bool.and_eq_true, mem_giveS (rest_SetP hs) hw, mem_rev hw, Bool.and_eq_true, decide_eq_true_eq, rest_mem hs hw]
  have e : least 10 (rk l) (fun v => !mem (2 ^ 2 ^ t.toNat - 1 - s) v) (2 ^ t.toNat) = least 10 (rk l) (mem s) (2 ^ t.toNat) :=
    least_congr (fun v hv => by rw [rest_mem hs hv, Bool.not_not]) (fun _ _ _ => rfl)
  rw [e]
  constructor
  · rintro ⟨h1 | h1, h2⟩
    · refine ⟨h2, ?_⟩
      have h3 := least_le 10 (rk l) (mem s) (2 ^ t.toNat) w hw h2
      have h4 := least_nonneg (c := 10) (r := rk l) (p := mem s) (n := 2 ^ t.toNat) (by decide) (fun v hv => hr.lo hv)
      omega
    · exact ⟨h2, h1.2⟩
  · rintro ⟨h1, h2⟩
    exact ⟨.inr ⟨by rw [h1]; rfl, h2⟩, h1⟩
open Classical in
theorem impl_TakenIn_eq (t : Int) (l : List Int) (s : Int) {k : Nat} (hk : 30 ≤ k) : impl_TakenIn.f k t l s = some (if RankP t l ∧ SetP t s then rev (2 ^ t.toNat) (rk l) s else -1) := by
  obtain ⟨k, rfl⟩ : ∃ m, k = m + 1 := ⟨k - 1, by omega⟩
  unfold impl_TakenIn.f
  rw [isRank_eq _ _ (by omega), isSet_eq]
  simp only [Option.bind_some]
  by_cases hr : RankP t l
  · rw [if_pos (by simp [hr])]
    simp only [impl_TakenIn.j0]
    by_cases hs : SetP t s
    · have h8 := worlds_le hs.1
      have hr2 := rest_SetP hs
      have hg := giveS_SetP hs.1 l (2 ^ 2 ^ t.toNat - 1 - s)
      rw [if_neg (by simp [hs]), show (if RankP t l ∧ SetP t s then rev (2 ^ t.toNat) (rk l) s else -1) = rev (2 ^ t.toNat) (rk l) s from if_pos ⟨hr, hs⟩]
      unfold impl_allWorlds.f
      rw [if_pos hs.1]
      simp only [Option.bind_some]
      rw [xor_rest hs, givenUp_eq hr hr2 (by omega)]
      simp only [Option.bind_some]
      rw [bits_and8 hg.2.1 hg.lt256 hs.2.1 hs.lt256]
      exact congrArg some (take_rev hr hs)
    · rw [if_pos (by simp [hs]), if_neg (fun x => hs x.2)]
  · rw [if_neg (by simp [hr]), if_neg (fun x => hr x.1)]
    simp only [impl_TakenIn.j0]
    rw [if_pos trivial]
open Classical in
theorem spec_TakenIn_eq (t : Int) (l : List Int) (s : Int) (hl : l.length ≤ 17592186044416) {k : Nat} (hk : l.length + 40 ≤ k) : spec_TakenIn.f k t l s = some (if RankP t l ∧ SetP t s then rev (2 ^ t.toNat) (rk l) s else -1) := by
  obtain ⟨k, rfl⟩ : ∃ m, k = m + 1 := ⟨k - 1, by omega⟩
  unfold spec_TakenIn.f
  rw [spec_RankOk_eq _ _ hl (by omega), SetOk_eq]
  simp only [Option.bind_some]
  by_cases hr : RankP t l
  · rw [if_pos (by simp [hr])]
    simp only [spec_TakenIn.j0]
    by_cases hs : SetP t s
    · have h8 := worlds_le hs.1
      have hr2 := rest_SetP hs
      have hlt := all_le hs.1
      have hs2 := hs.2
      have hg := giveS_SetP hs.1 l (2 ^ 2 ^ t.toNat - 1 - s)
      rw [if_neg (by simp [hs]), show (if RankP t l ∧ SetP t s then rev (2 ^ t.toNat) (rk l) s else -1) = rev (2 ^ t.toNat) (rk l) s from if_pos ⟨hr, hs⟩, all_spec hs.1]
      simp only [Option.bind_some]
      rw [w64 (by omega) (by omega), spec_GivenUp_eq _ _ _ hl (by omega), if_pos ⟨hr, hr2⟩]
      simp only [Option.bind_some]
      rw [l1Both_eq hg.2.1 hs.2.1 (by omega), take_rev hr hs]
      rfl
    · rw [if_pos (by simp [hs]), if_neg (fun x => hs x.2)]
  · rw [if_neg (by simp [hr]), if_neg (fun x => hr x.1)]
    simp only [spec_TakenIn.j0]
    rw [if_pos trivial]
/-! #### FRevN -/
open Classical in
theorem impl_RevisedBy_eq (t : Int) (l : List Int) (s : Int) {k : Nat} (hk : 20 ≤ k) : impl_RevisedBy.f k t l s = some (if RankP t l ∧ SetP t s then rev (2 ^ t.toNat) (rk l) s else -1) := by
  unfold impl_RevisedBy.f
  rw [isRank_eq _ _ (by omega), isSet_eq]
  simp only [Option.bind_some]
  by_cases h : RankP t l
  · rw [if_pos (by simp [h])]
    by_cases hs : SetP t s
    · rw [if_pos (by simp [hs]), if_pos ⟨h, hs⟩, revisedBy_eq h.1 h.2.1 hs.2.1 hs.lt256 hk]
      rfl
    · rw [if_neg (by simp [hs]), if_neg (fun x => hs x.2)]
  · rw [if_neg (by simp [h]), if_neg (fun x => h x.1)]
end Go.Proofs.Ythgddbnmieodkaa.L

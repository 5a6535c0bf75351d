/- KeptBy: firmness tells what is kept, whatever is drawn. Conditions: none beyond the statement's own. -/
import Derived.Test.YthgddbnmieodkaaP15
import Derived.Test.YthgddbnmieodkaaLibD
import Derived.Test.YthgddbnmieodkaaLibE
import Derived.Test.YthgddbnmieodkaaLibA
import Derived.Test.YthgddbnmieodkaaLibC
import Derived.Test.YthgddbnmieodkaaLibB
import Derived.Test.YthgddbnmieodkaaSets
set_option linter.unusedVariables false
set_option linter.unusedSimpArgs false
namespace Go.Proofs.Ythgddbnmieodkaa.Pure
open Go.RowKit Go.Proofs.YthgddbnmieodkaaW.PrintWords Go.Proofs.YthgddbnmieodkaaW.PrintLast Go.Proofs.YthgddbnmieodkaaW.PrintMore Go.Proofs.BelM Go.Proofs.Ythgddbnmieodkaa.P Go.Proofs.Ythgddbnmieodkaa.L

theorem kept_iff {t : Int} {l : List Int} {g s : Int} (hr : RankP t l) (hg : SetP t g) (hs : SetP t s) : keptB t l g s = true ↔ ∀ w, w < 2 ^ t.toNat → mem (giveS t l g) w = true → mem s w = true := by
  have h8 := worlds_le hg.1
  unfold keptB
  rw [Bool.and_eq_true, Bool.or_eq_true, Bool.or_eq_true, decide_eq_true_eq, decide_eq_true_eq, decide_eq_true_eq, decide_eq_true_eq, firm_pos hr]
  have hog : ∀ w, mem (orS g s) w = (mem g w || mem s w) := fun w => mem_orS hg.2.1 hg.lt8 hs.2.1 hs.lt8
  constructor
  · rintro ⟨h1, h2⟩ w hw hm
    rw [mem_giveS hg hw] at hm
    rcases hm with h0 | ⟨h3, h4⟩
    · exact h1 w hw h0
    · rcases h2 with (h2 | h2) | h2
      · rw [h2, mem_all] at h3
        simp [hw] at h3
      · refine h1 w hw ?_
        rw [h4]; exact h2
      · cases e : mem s w
        · have h5 := least_le 10 (rk l) (fun v => !mem (orS g s) v) (2 ^ t.toNat) w hw (by rw [hog, h3, e]; rfl)
          unfold firmS at h2
          omega
        · rfl
  · intro h
    refine ⟨fun w hw h0 => h w hw ((mem_giveS hg hw).mpr (.inl h0)), ?_⟩
    by_cases hall : g = 2 ^ 2 ^ t.toNat - 1
    · exact .inl (.inl hall)
    · by_cases h0 : firmS t l g = 0
      · exact .inl (.inr h0)
      · refine .inr ?_
        obtain ⟨w0, hw0, _, e0⟩ := rest_least hr hg hall
        have hb := hr.hi hw0
        have hle := least_le_c 10 (rk l) (fun v => !mem (orS g s) v) (2 ^ t.toNat)
        have hmono : firmS t l g ≤ firmS t l (orS g s) := least_mono (fun w hw hm => by
          rw [hog] at hm
          simp at hm
          simp [hm.1])
        apply Classical.byContradiction
        intro hnl
        have heq : firmS t l (orS g s) = firmS t l g := by omega
        obtain ⟨w, hw, hm, e⟩ := least_lt_c (c := 10) (r := rk l) (p := fun v => !mem (orS g s) v) (n := 2 ^ t.toNat) (by
          unfold firmS at heq
          omega)
        rw [hog] at hm
        simp at hm
        have := h w hw ((mem_giveS hg hw).mpr (.inr ⟨hm.1, by rw [e]; exact heq⟩))
        rw [hm.2] at this
        cases this
open Classical in
theorem FnKeptBy : laws_FnKeptBy.Pure := by
  intro l0 h1 h2 h3
  refine ⟨201, ?_⟩
  unfold laws_FnKeptBy.f
  by_cases hl : (l0.length : Int) > 1048576
  · rw [if_pos hl]
  · rw [if_neg hl]
    obtain ⟨t, r, g, s, e, hlen⟩ := drawKept_ok h3 (k := 201) (by omega)
    rw [e]
    simp only [Option.bind_some]
    rw [impl_KeptBy_eq _ _ _ _ (by omega), spec_KeptBy_eq _ _ _ _ (by omega) (by omega)]
    simp only [Option.bind_some]
    rw [if_neg (by simp), impl_GivenUp_eq _ _ _ (by omega), SetOk_eq]
    simp only [Option.bind_some]
    by_cases hg : RankP t r ∧ SetP t g
    · have hn := giveS_nonneg t r g
      rw [show (if RankP t r ∧ SetP t g then giveS t r g else -1) = giveS t r g from if_pos hg, if_neg (by omega)]
      simp only [laws_FnKeptBy.j0]
      by_cases hs : SetP t s
      · rw [if_neg (by simp [hs]), within_eq hn hs.2.1 (by omega), if_pos ⟨hg.1, hg.2, hs⟩]
        simp only [Option.bind_some]
        congr 1
        rw [beq_iff_eq, Bool.eq_iff_iff, kept_iff hg.1 hg.2 hs, within_iffS (worlds_le hs.1) hn (giveS_lt hs.1 _ _)]
      · rw [if_pos (by simp [hs]), if_neg (by rw [if_neg (fun x => hs x.2.2)]; decide), alive_eq]
        rfl
    · rw [show (if RankP t r ∧ SetP t g then giveS t r g else -1) = -1 from if_neg hg, if_pos (by decide)]
      simp only [laws_FnKeptBy.j0]
      rw [if_pos trivial, if_neg (by rw [if_neg (fun x => hg ⟨x.1, x.2.1⟩)]; decide), alive_eq]
      rfl

end Go.Proofs.Ythgddbnmieodkaa.Pure

/- Plain facts about what the printed functions answer (several pieces in one text). Conditions: those of each theorem. -/
import Derived.Test.YthgddbnmieodkaaP4
import Derived.Test.YthgddbnmieodkaaP9
import Derived.Test.YthgddbnmieodkaaP10
import Derived.Test.YthgddbnmieodkaaP14
import Derived.Test.YthgddbnmieodkaaP15
import Derived.Test.YthgddbnmieodkaaLibA
import Derived.Test.YthgddbnmieodkaaSets
set_option linter.unusedVariables false
set_option linter.unusedSimpArgs false
namespace Go.Proofs.Ythgddbnmieodkaa.L
open Go.RowKit Go.Proofs.YthgddbnmieodkaaW.PrintWords Go.Proofs.YthgddbnmieodkaaW.PrintLast Go.Proofs.YthgddbnmieodkaaW.PrintMore Go.Proofs.BelM Go.Proofs.Ythgddbnmieodkaa.P
/-! #### FFirm -/
theorem spec_surprise_loop {l : List Int} {s : Int} (hs : 0 ≤ s) (hl : l.length ≤ 8) : ∀ (d k j : Nat), j + d = l.length → d < k →
    spec_SurpriseOf.l0 k l s (least 10 (rk l) (mem s) j) j = some (least 10 (rk l) (mem s) l.length)
  | 0, k, j, hj, hk => by
    obtain ⟨k, rfl⟩ : ∃ m, k = m + 1 := ⟨k - 1, by omega⟩
    obtain rfl : j = l.length := by omega
    simp only [spec_SurpriseOf.l0]
    rw [if_neg (by omega)]
  | d + 1, k, j, hj, hk => by
    obtain ⟨k, rfl⟩ : ∃ m, k = m + 1 := ⟨k - 1, by omega⟩
    have ih := spec_surprise_loop hs hl d k (j + 1) (by omega) (by omega)
    simp only [spec_SurpriseOf.l0]
    rw [if_pos (by omega), l1Bit_eq hs (by omega)]
    simp only [Option.bind_some]
    simp only [least] at ih
    by_cases hm : mem s j = true
    · rw [if_pos hm] at ih
      rw [if_pos hm, if_pos rfl, if_pos (by omega), w64s (by omega), mn_eq]
      exact ih
    · rw [if_neg hm] at ih
      rw [if_neg hm, if_neg (by decide), w64s (by omega)]
      exact ih
open Classical in
theorem spec_SurpriseOf_eq (t : Int) (l : List Int) (s : Int) (hl : l.length ≤ 17592186044416) {k : Nat} (hk : l.length + 20 ≤ k) : spec_SurpriseOf.f k t l s = some (if RankP t l ∧ SetP t s then least 10 (rk l) (mem s) (2 ^ t.toNat) else -1) := by
  obtain ⟨k, rfl⟩ : ∃ m, k = m + 1 := ⟨k - 1, by omega⟩
  unfold spec_SurpriseOf.f
  rw [spec_RankOk_eq _ _ hl (by omega), SetOk_eq]
  simp only [Option.bind_some]
  by_cases hr : RankP t l
  · rw [if_pos (by simp [hr])]
    simp only [spec_SurpriseOf.j0]
    by_cases hs : SetP t s
    · rw [if_neg (by simp [hs]), if_pos ⟨hr, hs⟩, ← hr.2.1]
      exact spec_surprise_loop hs.2.1 hr.len l.length k 0 (by omega) (by omega)
    · rw [if_pos (by simp [hs]), if_neg (fun x => hs x.2)]
  · rw [if_neg (by simp [hr]), if_neg (fun x => hr x.1)]
    simp only [spec_SurpriseOf.j0]
    rw [if_pos trivial]
open Classical in
theorem spec_FirmnessOf_eq (t : Int) (l : List Int) (s : Int) (hl : l.length ≤ 17592186044416) {k : Nat} (hk : l.length + 30 ≤ k) : spec_FirmnessOf.f k t l s = some (if RankP t l ∧ SetP t s then firmS t l s else -1) := by
  obtain ⟨k, rfl⟩ : ∃ m, k = m + 1 := ⟨k - 1, by omega⟩
  unfold spec_FirmnessOf.f
  rw [spec_RankOk_eq _ _ hl (by omega), SetOk_eq]
  simp only [Option.bind_some]
  by_cases hr : RankP t l
  · rw [if_pos (by simp [hr])]
    simp only [spec_FirmnessOf.j0]
    by_cases hs : SetP t s
    · have hlt := all_le hs.1
      have hs2 := hs.2
      rw [if_neg (by simp [hs]), show (if RankP t l ∧ SetP t s then firmS t l s else -1) = firmS t l s from if_pos ⟨hr, hs⟩, all_spec hs.1]
      simp only [Option.bind_some]
      rw [w64 (by omega) (by omega), spec_SurpriseOf_eq _ _ _ hl (by omega), if_pos ⟨hr, rest_SetP hs⟩, least_rest hs]
      rfl
    · rw [if_pos (by simp [hs]), if_neg (fun x => hs x.2)]
  · rw [if_neg (by simp [hr]), if_neg (fun x => hr x.1)]
    simp only [spec_FirmnessOf.j0]
    rw [if_pos trivial]
theorem firmness_eq {t : Int} {l : List Int} {s : Int} (hr : RankP t l) (hs : SetP t s) {k : Nat} (hk : 20 ≤ k) : impl_firmness.f k t l s = some (firmS t l s) := by
  have hr2 := rest_SetP hs
  unfold impl_firmness.f impl_allWorlds.f
  rw [if_pos hs.1]
  simp only [Option.bind_some]
  rw [xor_rest hs, surpriseOf_eq hr2.2.1 hr2.lt256 hr.len hk, hr.2.1, least_rest hs]
  rfl
theorem firmS_le (t : Int) (l : List Int) (s : Int) : firmS t l s ≤ 10 := least_le_c _ _ _ _
theorem firmS_nonneg {t : Int} {l : List Int} (hr : RankP t l) (s : Int) : 0 ≤ firmS t l s := least_nonneg (by decide) (fun w hw => hr.lo hw)
/-- Of what is in both it is the lesser one. -/
theorem firm_and {t : Int} {l : List Int} {a b : Int} (ha : SetP t a) : firmS t l (andS a b) = min (firmS t l a) (firmS t l b) := by
  unfold firmS
  rw [← least_or]
  exact least_congr (fun w hw => by rw [mem_andS ha.2.1 ha.lt8, Bool.not_and]) (fun _ _ _ => rfl)
/-- More than 0 exactly if it is believed. -/
theorem firm_pos {t : Int} {l : List Int} (hr : RankP t l) {s : Int} : 0 < firmS t l s ↔ ∀ w, w < 2 ^ t.toNat → rk l w = 0 → mem s w = true := by
  constructor
  · intro h w hw h0
    cases e : mem s w
    · have := least_le 10 (rk l) (fun w => !mem s w) (2 ^ t.toNat) w hw (by simp [e])
      unfold firmS at h
      omega
    · rfl
  · intro h
    have h1 := firmS_nonneg hr s
    rcases least_at 10 (rk l) (fun w => !mem s w) (2 ^ t.toNat) with e | ⟨w, hw, hm, e⟩
    · unfold firmS; omega
    · have h2 : firmS t l s ≠ 0 := by
        intro h0
        unfold firmS at h0
        rw [h0] at e
        have := h w hw e
        simp [this] at hm
      omega
theorem firm_all {t : Int} {l : List Int} : firmS t l (2 ^ 2 ^ t.toNat - 1) = 10 := by
  unfold firmS
  refine least_is (Int.le_refl _) (fun w hw hm => ?_) (.inl rfl)
  rw [mem_all] at hm
  simp [hw] at hm
/-! #### FFirmI -/
open Classical in
theorem impl_FirmnessOf_eq (t : Int) (l : List Int) (s : Int) {k : Nat} (hk : 20 ≤ k) : impl_FirmnessOf.f k t l s = some (if RankP t l ∧ SetP t s then firmS t l s else -1) := by
  unfold impl_FirmnessOf.f
  rw [isRank_eq _ _ (by omega), isSet_eq]
  simp only [Option.bind_some]
  by_cases hr : RankP t l
  · rw [if_pos (by simp [hr])]
    by_cases hs : SetP t s
    · rw [if_pos (by simp [hs]), if_pos ⟨hr, hs⟩, firmness_eq hr hs hk]
      rfl
    · rw [if_neg (by simp [hs]), if_neg (fun x => hs x.2)]
  · rw [if_neg (by simp [hr]), if_neg (fun x => hr x.1)]
/-! #### FKept -/
def keptB (t : Int) (l : List Int) (g s : Int) : Bool := decide (0 < firmS t l s) && (decide (g = 2 ^ 2 ^ t.toNat - 1) || decide (firmS t l g = 0) || decide (firmS t l g < firmS t l (orS g s)))
theorem or_SetP {t a b : Int} (ha : SetP t a) (hb : SetP t b) : SetP t (orS a b) := ⟨ha.1, orS_nonneg _ _, orS_lt (worlds_le ha.1) ha.2.1 ha.2.2 hb.2.1 hb.2.2⟩
open Classical in
theorem spec_KeptBy_eq (t : Int) (l : List Int) (g s : Int) (hl : l.length ≤ 17592186044416) {k : Nat} (hk : l.length + 40 ≤ k) : spec_KeptBy.f k t l g s = some (if RankP t l ∧ SetP t g ∧ SetP t s then keptB t l g s else false) := by
  obtain ⟨k, rfl⟩ : ∃ m, k = m + 1 := ⟨k - 1, by omega⟩
  unfold spec_KeptBy.f
  rw [spec_RankOk_eq _ _ hl (by omega), SetOk_eq, SetOk_eq]
  simp only [Option.bind_some]
  by_cases hr : RankP t l
  · rw [if_pos (by simp [hr])]
    by_cases hg : SetP t g
    · rw [if_pos (by simp [hg])]
      simp only [spec_KeptBy.j0]
      by_cases hs : SetP t s
      · rw [if_neg (by simp [hs]), show (if RankP t l ∧ SetP t g ∧ SetP t s then keptB t l g s else false) = keptB t l g s from if_pos ⟨hr, hg, hs⟩]
        rw [spec_FirmnessOf_eq _ _ _ hl (by omega), spec_FirmnessOf_eq _ _ _ hl (by omega), if_pos ⟨hr, hg⟩, if_pos ⟨hr, hs⟩, l1Either_eq hg.2.1 hg.lt8 hs.2.1 hs.lt8 (by omega)]
        simp only [Option.bind_some]
        rw [spec_FirmnessOf_eq _ _ _ hl (by omega), if_pos ⟨hr, or_SetP hg hs⟩, all_spec hs.1]
        simp only [Option.bind_some]
        unfold keptB
        by_cases h1 : firmS t l s > 0
        · rw [if_pos h1, decide_eq_true (show 0 < firmS t l s from h1), Bool.true_and]
          by_cases h2 : g = 2 ^ 2 ^ t.toNat - 1
          · rw [if_pos h2]; simp [h2]
          · rw [if_neg h2]
            by_cases h3 : firmS t l g = 0
            · rw [if_pos h3]; simp [h3]
            · rw [if_neg h3]; simp [h2, h3]
        · rw [if_neg h1, decide_eq_false (show ¬ 0 < firmS t l s from h1), Bool.false_and]
      · rw [if_pos (by simp [hs]), if_neg (fun x => hs x.2.2)]
    · rw [if_neg (by simp [hg]), if_neg (fun x => hg x.2.1)]
      simp only [spec_KeptBy.j0]
      rw [if_pos trivial]
  · rw [if_neg (by simp [hr]), if_neg (fun x => hr x.1)]
    simp only [spec_KeptBy.j0]
    rw [if_pos trivial]
theorem orS_comm (a b : Int) : orS a b = orS b a := mk_congr (fun w _ => Bool.or_comm _ _)
open Classical in
theorem impl_KeptBy_eq (t : Int) (l : List Int) (g s : Int) {k : Nat} (hk : 30 ≤ k) : impl_KeptBy.f k t l g s = some (if RankP t l ∧ SetP t g ∧ SetP t s then keptB t l g s else false) := by
  obtain ⟨k, rfl⟩ : ∃ m, k = m + 1 := ⟨k - 1, by omega⟩
  unfold impl_KeptBy.f
  rw [isRank_eq _ _ (by omega), isSet_eq, isSet_eq]
  simp only [Option.bind_some]
  by_cases hr : RankP t l
  · rw [if_pos (by simp [hr])]
    by_cases hg : SetP t g
    · rw [if_pos (by simp [hg])]
      by_cases hs : SetP t s
      · rw [if_pos (by simp [hs]), show (if RankP t l ∧ SetP t g ∧ SetP t s then keptB t l g s else false) = keptB t l g s from if_pos ⟨hr, hg, hs⟩, firmness_eq hr hs (by omega)]
        simp only [Option.bind_some, impl_KeptBy.j0]
        unfold keptB
        have hn := firmS_nonneg hr s
        by_cases h1 : firmS t l s = 0
        · rw [if_pos (by simp [h1]), decide_eq_false (show ¬ 0 < firmS t l s by omega), Bool.false_and]
        · rw [if_neg (by simp [h1]), decide_eq_true (show 0 < firmS t l s by omega), Bool.true_and, firmness_eq hr hg (by omega)]
          unfold impl_allWorlds.f
          rw [if_pos hs.1]
          simp only [Option.bind_some]
          by_cases h2 : g = 2 ^ 2 ^ t.toNat - 1
          · rw [if_pos h2]; simp [h2]
          · rw [if_neg h2]
            by_cases h3 : firmS t l g = 0
            · rw [if_pos h3]; simp [h3]
            · rw [if_neg h3, bits_or8 hs.2.1 hs.lt256 hg.2.1 hg.lt256]
              rw [show mk (fun v => mem s v || mem g v) 8 = orS g s from orS_comm s g, firmness_eq hr (or_SetP hg hs) (by omega)]
              simp [h2, h3]
      · rw [if_neg (by simp [hs]), if_neg (fun x => hs x.2.2)]
        simp only [impl_KeptBy.j0]
        rw [if_pos trivial]
    · rw [if_neg (by simp [hg]), if_neg (fun x => hg x.2.1)]
      simp only [impl_KeptBy.j0]
      rw [if_pos trivial]
  · rw [if_neg (by simp [hr]), if_neg (fun x => hr x.1)]
    simp only [impl_KeptBy.j0]
    rw [if_pos trivial]
end Go.Proofs.Ythgddbnmieodkaa.L

/- Plain facts about what the printed functions answer (several pieces in one text). Conditions: those of each theorem. -/
import Derived.Test.YtfleephpcomimaaU9
import Derived.Test.YtfleephpcomimaaU10
import Derived.Test.YtfleephpcomimaaULibA
import Derived.Test.YtfleephpcomimaaSets
set_option linter.unusedVariables false
set_option linter.unusedSimpArgs false
namespace Go.Proofs.Ytfleephpcomimaa.LU
open Go.RowKit Go.Proofs.YtfleephpcomimaaW.PrintWords Go.Proofs.YtfleephpcomimaaW.PrintLast Go.Proofs.YtfleephpcomimaaW.PrintMore Go.Proofs.BelM Go.Proofs.Ytfleephpcomimaa.U
/-! #### FFirmM -/
theorem spec_surprise_loop {l : List Int} {s : Int} (hs : 0 ≤ s) (hl : l.length ≤ 8) : ∀ (d k j : Nat), j + d = l.length → d < k →
    spec_SurpriseOf.l0 k l s (least 10 (rk l) (mem s) j) j = some (least 10 (rk l) (mem s) l.length)
  | 0, k, j, hj, hk => by
    obtain ⟨k, rfl⟩ : ∃ m, k = m + 1 := ⟨k - 1, by omega⟩
    obtain rfl : j = l.length := by omega
    simp only [spec_SurpriseOf.l0]
    rw [if_neg (by omega)]
  | d + 1, k, j, hj, hk => by
    obtain ⟨k, rfl⟩ : ∃ m, k = m + 1 := ⟨k - 1, by omega⟩
    have ih := spec_surprise_loop hs hl d k (j + 1) (by omega) (by omega)
    simp only [spec_SurpriseOf.l0]
    rw [if_pos (by omega), l1Bit_eq hs (by omega)]
    simp only [Option.bind_some]
    simp only [least] at ih
    by_cases hm : mem s j = true
    · rw [if_pos hm] at ih
      rw [if_pos hm, if_pos rfl, if_pos (by omega), w64s (by omega), mn_eq]
      exact ih
    · rw [if_neg hm] at ih
      rw [if_neg hm, if_neg (by decide), w64s (by omega)]
      exact ih
open Classical in
theorem spec_SurpriseOf_eq (t : Int) (l : List Int) (s : Int) (hl : l.length ≤ 17592186044416) {k : Nat} (hk : l.length + 20 ≤ k) : spec_SurpriseOf.f k t l s = some (if RankP t l ∧ SetP t s then least 10 (rk l) (mem s) (2 ^ t.toNat) else -1) := by
  obtain ⟨k, rfl⟩ : ∃ m, k = m + 1 := ⟨k - 1, by omega⟩
  unfold spec_SurpriseOf.f
  rw [spec_RankOk_eq _ _ hl (by omega), SetOk_eq]
  simp only [Option.bind_some]
  by_cases hr : RankP t l
  · rw [if_pos (by simp [hr])]
    simp only [spec_SurpriseOf.j0]
    by_cases hs : SetP t s
    · rw [if_neg (by simp [hs]), if_pos ⟨hr, hs⟩, ← hr.2.1]
      exact spec_surprise_loop hs.2.1 hr.len l.length k 0 (by omega) (by omega)
    · rw [if_pos (by simp [hs]), if_neg (fun x => hs x.2)]
  · rw [if_neg (by simp [hr]), if_neg (fun x => hr x.1)]
    simp only [spec_SurpriseOf.j0]
    rw [if_pos trivial]
theorem firmS_le (t : Int) (l : List Int) (s : Int) : firmS t l s ≤ 10 := least_le_c _ _ _ _
theorem firmS_nonneg {t : Int} {l : List Int} (hr : RankP t l) (s : Int) : 0 ≤ firmS t l s := least_nonneg (by decide) (fun w hw => hr.lo hw)
/-- Of what is in both it is the lesser one. -/
theorem firm_and {t : Int} {l : List Int} {a b : Int} (ha : SetP t a) : firmS t l (andS a b) = min (firmS t l a) (firmS t l b) := by
  unfold firmS
  rw [← least_or]
  exact least_congr (fun w hw => by rw [mem_andS ha.2.1 ha.lt8, Bool.not_and]) (fun _ _ _ => rfl)
/-- More than 0 exactly if it is believed. -/
theorem firm_pos {t : Int} {l : List Int} (hr : RankP t l) {s : Int} : 0 < firmS t l s ↔ ∀ w, w < 2 ^ t.toNat → rk l w = 0 → mem s w = true := by
  constructor
  · intro h w hw h0
    cases e : mem s w
    · have := least_le 10 (rk l) (fun w => !mem s w) (2 ^ t.toNat) w hw (by simp [e])
      unfold firmS at h
      omega
    · rfl
  · intro h
    have h1 := firmS_nonneg hr s
    rcases least_at 10 (rk l) (fun w => !mem s w) (2 ^ t.toNat) with e | ⟨w, hw, hm, e⟩
    · unfold firmS; omega
    · have h2 : firmS t l s ≠ 0 := by
        intro h0
        unfold firmS at h0
        rw [h0] at e
        have := h w hw e
        simp [this] at hm
      omega
theorem firm_all {t : Int} {l : List Int} : firmS t l (2 ^ 2 ^ t.toNat - 1) = 10 := by
  unfold firmS
  refine least_is (Int.le_refl _) (fun w hw hm => ?_) (.inl rfl)
  rw [mem_all] at hm
  simp [hw] at hm
/-! #### FMoved -/
/-- The new rank of a world. -/
def movedAt (l : List Int) (s a b firm : Int) (w : Nat) : Int := if mem s w = true then rk l w - a else rk l w - b + firm
def surpS (t : Int) (l : List Int) (s : Int) : Int := least 10 (rk l) (mem s) (2 ^ t.toNat)
def movedL (t : Int) (l : List Int) (s firm : Int) : List Int := tab (movedAt l s (surpS t l s) (firmS t l s) firm) (2 ^ t.toNat)
def MovedP (t : Int) (l : List Int) (s firm : Int) : Prop := RankP t l ∧ SetP t s ∧ s ≠ 0 ∧ s ≠ 2 ^ 2 ^ t.toNat - 1 ∧ (0 ≤ firm ∧ firm ≤ 9) ∧ ∀ w, w < 2 ^ t.toNat → movedAt l s (surpS t l s) (firmS t l s) firm w ≤ 9
theorem surpS_range {t : Int} {l : List Int} (hr : RankP t l) (s : Int) : 0 ≤ surpS t l s ∧ surpS t l s ≤ 10 := ⟨least_nonneg (by decide) (fun w hw => hr.lo hw), least_le_c _ _ _ _⟩
/-- One more of a run of bounds. -/
theorem all_end {p : Nat → Prop} {n : Nat} (h : ∀ w, w < n → p w) : (∀ w, w < n → p w) = True := eq_true h
open Classical in
theorem spec_moved0 {t : Int} {l : List Int} {s firm : Int} (hr : RankP t l) (hs : SetP t s) (hf : 0 ≤ firm ∧ firm ≤ 9) : ∀ (d k j : Nat), j + d = 2 ^ t.toNat → d + 1 ≤ k → (∀ w, w < j → movedAt l s (surpS t l s) (firmS t l s) firm w ≤ 9) →
    spec_MovedBy.l0 k l s firm (surpS t l s) (firmS t l s) (tab (movedAt l s (surpS t l s) (firmS t l s) firm) j) j = some (if ∀ w, w < 2 ^ t.toNat → movedAt l s (surpS t l s) (firmS t l s) firm w ≤ 9 then (movedL t l s firm, true) else ([], false))
  | 0, k, j, hj, hk, hb => by
    obtain ⟨k, rfl⟩ : ∃ m, k = m + 1 := ⟨k - 1, by omega⟩
    obtain rfl : j = 2 ^ t.toNat := by omega
    simp only [spec_MovedBy.l0]
    rw [if_neg (by have := hr.2.1; omega), if_pos hb]
    rfl
  | d + 1, k, j, hj, hk, hb => by
    have h8 := worlds_le hr.1
    obtain ⟨k, rfl⟩ : ∃ m, k = m + 1 := ⟨k - 1, by omega⟩
    have ih := spec_moved0 hr hs hf d k (j + 1) (by omega) (by omega)
    have hl := hr.2.1
    have h0 := hr.lo (w := j) (by omega)
    have h9 := hr.hi (w := j) (by omega)
    have a1 := surpS_range hr s
    have b1 := firmS_le t l s
    have b2 := firmS_nonneg hr s
    have e1 : wrap64 (rd l (j : Int) - surpS t l s) = rk l j - surpS t l s := w64 (by show _ ≤ rk l j - surpS t l s; omega) (by show rk l j - surpS t l s ≤ _; omega)
    have e2 : wrap64 (wrap64 (rd l (j : Int) - firmS t l s) + firm) = rk l j - firmS t l s + firm := by
      rw [w64 (x := rd l (j : Int) - firmS t l s) (by show _ ≤ rk l j - firmS t l s; omega) (by show rk l j - firmS t l s ≤ _; omega)]
      exact w64 (by show _ ≤ rk l j - firmS t l s + firm; omega) (by show rk l j - firmS t l s + firm ≤ _; omega)
    simp only [spec_MovedBy.l0]
    rw [if_pos (by omega), if_pos (by omega), l1Bit_eq hs.2.1 (by omega), e1, e2]
    simp only [Option.bind_some]
    rw [← tab_snoc] at ih
    have hx : movedAt l s (surpS t l s) (firmS t l s) firm j = if mem s j = true then rk l j - surpS t l s else rk l j - firmS t l s + firm := rfl
    by_cases hm : mem s j = true
    · rw [if_pos hm] at hx
      rw [if_pos hm, if_neg (by decide), ← hx]
      by_cases h : movedAt l s (surpS t l s) (firmS t l s) firm j > 9
      · rw [if_pos h, if_neg (fun x => by have := x j (by omega); omega)]
      · rw [if_neg h, if_pos (by rw [tab_len]; omega), w64s (by omega)]
        exact ih (fun w hw => by
          by_cases e : w = j
          · subst e; omega
          · exact hb w (by omega))
    · rw [if_neg hm] at hx
      rw [if_neg hm, if_pos rfl, ← hx]
      by_cases h : movedAt l s (surpS t l s) (firmS t l s) firm j > 9
      · rw [if_pos h, if_neg (fun x => by have := x j (by omega); omega)]
      · rw [if_neg h, if_pos (by rw [tab_len]; omega), w64s (by omega)]
        exact ih (fun w hw => by
          by_cases e : w = j
          · subst e; omega
          · exact hb w (by omega))
open Classical in
theorem spec_MovedBy_eq (t : Int) (l : List Int) (s firm : Int) (hl : l.length ≤ 17592186044416) {k : Nat} (hk : l.length + 40 ≤ k) : spec_MovedBy.f k t l s firm = some (if MovedP t l s firm then (movedL t l s firm, true) else ([], false)) := by
  obtain ⟨k, rfl⟩ : ∃ m, k = m + 1 := ⟨k - 1, by omega⟩
  have bad : (∀ x : MovedP t l s firm, False) → spec_MovedBy.j0 (k + 1) t l s firm true = some (if MovedP t l s firm then (movedL t l s firm, true) else ([], false)) := fun h => by
    simp only [spec_MovedBy.j0]
    rw [if_pos trivial, if_neg h]
  unfold spec_MovedBy.f
  rw [spec_RankOk_eq _ _ hl (by omega), SetOk_eq, l1In_eq]
  simp only [Option.bind_some]
  by_cases hr : RankP t l
  · rw [if_pos (by simp [hr])]
    by_cases hs : SetP t s
    · rw [if_pos (by simp [hs])]
      by_cases hf : 0 ≤ firm ∧ firm ≤ 9
      · rw [if_pos (by simp [hf])]
        by_cases h0 : s = 0
        · rw [if_pos h0]; exact bad (fun x => x.2.2.1 h0)
        · rw [if_neg h0, all_spec hs.1]
          simp only [Option.bind_some]
          by_cases ha : s = 2 ^ 2 ^ t.toNat - 1
          · rw [show (s == 2 ^ 2 ^ t.toNat - 1) = true from beq_iff_eq.mpr ha]; exact bad (fun x => x.2.2.2.1 ha)
          · rw [show (s == 2 ^ 2 ^ t.toNat - 1) = false from beq_eq_false_iff_ne.mpr ha]
            have hlt := all_le hs.1
            have hs2 := hs.2
            simp only [spec_MovedBy.j0]
            rw [if_neg (by decide), spec_SurpriseOf_eq _ _ _ hl (by omega), if_pos ⟨hr, hs⟩, all_spec hs.1]
            simp only [Option.bind_some]
            rw [w64 (by omega) (by omega), spec_SurpriseOf_eq _ _ _ hl (by omega), if_pos ⟨hr, rest_SetP hs⟩, least_rest hs]
            simp only [Option.bind_some]
            have e := spec_moved0 hr hs hf (2 ^ t.toNat) k 0 (by omega) (by have := hr.2.1; omega) (fun w hw => by omega)
            rw [show ((0 : Nat) : Int) = 0 from rfl] at e
            refine e.trans ?_
            congr 1
            by_cases hw : ∀ w, w < 2 ^ t.toNat → movedAt l s (surpS t l s) (firmS t l s) firm w ≤ 9
            · rw [if_pos hw, if_pos ⟨hr, hs, h0, ha, hf, hw⟩]
            · rw [if_neg hw, if_neg (fun x => hw x.2.2.2.2.2)]
      · rw [if_neg (by simpa using hf)]; exact bad (fun x => hf x.2.2.2.2.1)
    · rw [if_neg (by simp [hs])]; exact bad (fun x => hs x.2.1)
  · rw [if_neg (by simp [hr])]; exact bad (fun x => hr x.1)
end Go.Proofs.Ytfleephpcomimaa.LU

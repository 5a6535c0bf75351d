/- Plain facts about what the printed functions answer (several pieces in one text). Conditions: those of each theorem. -/
import Derived.Test.YthgddbnmieodkaaQLibA
import Derived.Test.YthgddbnmieodkaaSets
set_option linter.unusedVariables false
set_option linter.unusedSimpArgs false
namespace Go.Proofs.Ythgddbnmieodkaa.LQ
open Go.RowKit Go.Proofs.YthgddbnmieodkaaW.PrintWords Go.Proofs.YthgddbnmieodkaaW.PrintLast Go.Proofs.YthgddbnmieodkaaW.PrintMore Go.Proofs.BelM Go.Proofs.Ythgddbnmieodkaa.Q
/-! #### FGiveL -/
theorem other_set {t : Int} (ht : 1 ≤ t ∧ t ≤ 3) {x : Int} (hx : 0 ≤ x) : SetP t (Int.tmod x (2 ^ 2 ^ t.toNat)) := by
  have h2 := all_ge ht
  rw [Int.tmod_eq_emod_of_nonneg hx]
  exact ⟨ht, Int.emod_nonneg _ (by omega), Int.emod_lt_of_pos _ (by omega)⟩
/-- What was possible is so. -/
theorem core_in_give {t : Int} {l : List Int} {s : Int} (hs : SetP t s) : ∀ w, w < 2 ^ t.toNat → mem (coreS t l) w = true → mem (giveS t l s) w = true := by
  intro w hw hm
  rw [mem_coreS hw, decide_eq_true_eq] at hm
  exact (mem_giveS hs hw).mpr (.inl hm)
theorem rest_least {t : Int} {l : List Int} {s : Int} (hr : RankP t l) (hs : SetP t s) (h : s ≠ 2 ^ 2 ^ t.toNat - 1) : ∃ w, w < 2 ^ t.toNat ∧ mem s w = false ∧ rk l w = least 10 (rk l) (fun v => !mem s v) (2 ^ t.toNat) := by
  have h2 := rest_SetP hs
  obtain ⟨v, hv, hm⟩ := exists_mem h2.2.1 h2.2.2 (by omega)
  rw [rest_mem hs hv] at hm
  obtain ⟨w, hw, h1, h3⟩ := least_attained (c := 10) (r := rk l) (p := fun v => !mem s v) (n := 2 ^ t.toNat) ⟨v, hv, hm, by have := hr.hi hv; omega⟩
  exact ⟨w, hw, by simpa using h1, h3⟩
/-- The set is not believed then, but if it is always so. -/
theorem give_not_in {t : Int} {l : List Int} {s : Int} (hr : RankP t l) (hs : SetP t s) (h : s ≠ 2 ^ 2 ^ t.toNat - 1) : ¬ ∀ w, w < 2 ^ t.toNat → mem (giveS t l s) w = true → mem s w = true := by
  intro hall
  obtain ⟨w, hw, h1, h2⟩ := rest_least hr hs h
  have := hall w hw ((mem_giveS hs hw).mpr (.inr ⟨h1, h2⟩))
  rw [h1] at this
  cases this
/-- What was not believed is given up by doing nothing. -/
theorem give_nothing {t : Int} {l : List Int} {s : Int} (hr : RankP t l) (hs : SetP t s) (h : ¬ ∀ w, w < 2 ^ t.toNat → mem (coreS t l) w = true → mem s w = true) : giveS t l s = coreS t l := by
  have hz : least 10 (rk l) (fun v => !mem s v) (2 ^ t.toNat) = 0 := by
    apply Classical.byContradiction
    intro hne
    apply h
    intro w hw hm
    rw [mem_coreS hw, decide_eq_true_eq] at hm
    cases e : mem s w
    · have h1 := least_le 10 (rk l) (fun v => !mem s v) (2 ^ t.toNat) w hw (by simp [e])
      have h2 := least_nonneg (c := 10) (r := rk l) (p := fun v => !mem s v) (n := 2 ^ t.toNat) (by decide) (fun v hv => hr.lo hv)
      omega
    · rfl
  refine ext (n := 2 ^ t.toNat) (giveS_nonneg _ _ _) (giveS_lt hs.1 _ _) (coreS_nonneg _ _) (coreS_lt _ _) (fun w hw => ?_)
  rw [Bool.eq_iff_iff, mem_giveS hs hw, mem_coreS hw, decide_eq_true_eq, hz]
  exact ⟨fun h => h.elim id (fun x => x.2), .inl⟩
/-- Who takes it in again believes what was believed. -/
theorem give_take {t : Int} {l : List Int} {s : Int} (hr : RankP t l) (hs : SetP t s) (h : ∀ w, w < 2 ^ t.toNat → mem (coreS t l) w = true → mem s w = true) : andS (giveS t l s) s = coreS t l := by
  have h8 := worlds_le hs.1
  refine ext (n := 2 ^ t.toNat) (andS_nonneg _ _) (andS_lt h8 (giveS_nonneg _ _ _) (giveS_lt hs.1 _ _)) (coreS_nonneg _ _) (coreS_lt _ _) (fun w hw => ?_)
  rw [mem_andS (giveS_nonneg _ _ _) (lt8of h8 (giveS_lt hs.1 _ _)), Bool.eq_iff_iff, Bool.and_eq_true, mem_giveS hs hw, mem_coreS hw, decide_eq_true_eq]
  constructor
  · rintro ⟨h1 | h1, h2⟩
    · exact h1
    · rw [h1.1] at h2; cases h2
  · intro h1
    exact ⟨.inl h1, h w hw (by rw [mem_coreS hw, decide_eq_true_eq]; exact h1)⟩
/-- Both are given up by giving up one of them, or both. -/
theorem give_both {t : Int} {l : List Int} {s o : Int} (hr : RankP t l) (hs : SetP t s) (ho : SetP t o) :
    giveS t l (andS s o) = giveS t l s ∨ giveS t l (andS s o) = giveS t l o ∨ giveS t l (andS s o) = orS (giveS t l s) (giveS t l o) := by
  have h8 := worlds_le hs.1
  have ha := and_SetP (b := o) hs
  obtain ⟨ms, hms⟩ : ∃ m, least 10 (rk l) (fun v => !mem s v) (2 ^ t.toNat) = m := ⟨_, rfl⟩
  obtain ⟨mo, hmo⟩ : ∃ m, least 10 (rk l) (fun v => !mem o v) (2 ^ t.toNat) = m := ⟨_, rfl⟩
  have hma : least 10 (rk l) (fun v => !mem (andS s o) v) (2 ^ t.toNat) = min ms mo := by
    rw [← hms, ← hmo, ← least_or]
    exact least_congr (fun w hw => by rw [mem_andS hs.2.1 hs.lt8, Bool.not_and]) (fun _ _ _ => rfl)
  have is_s : ∀ w, w < 2 ^ t.toNat → mem s w = false → ms ≤ rk l w := fun w hw e => by rw [← hms]; exact least_le 10 (rk l) (fun v => !mem s v) (2 ^ t.toNat) w hw (by simp [e])
  have is_o : ∀ w, w < 2 ^ t.toNat → mem o w = false → mo ≤ rk l w := fun w hw e => by rw [← hmo]; exact least_le 10 (rk l) (fun v => !mem o v) (2 ^ t.toNat) w hw (by simp [e])
  have gs : ∀ w, w < 2 ^ t.toNat → (mem (giveS t l s) w = true ↔ rk l w = 0 ∨ mem s w = false ∧ rk l w = ms) := fun w hw => by rw [← hms]; exact mem_giveS hs hw
  have go : ∀ w, w < 2 ^ t.toNat → (mem (giveS t l o) w = true ↔ rk l w = 0 ∨ mem o w = false ∧ rk l w = mo) := fun w hw => by rw [← hmo]; exact mem_giveS ho hw
  have ga : ∀ w, w < 2 ^ t.toNat → (mem (giveS t l (andS s o)) w = true ↔ rk l w = 0 ∨ (mem s w = false ∨ mem o w = false) ∧ rk l w = min ms mo) := fun w hw => by
    rw [mem_giveS ha hw, hma, mem_andS hs.2.1 hs.lt8, Bool.and_eq_false_iff]
  have fin : ∀ {b : Int}, SetP t b → (∀ w, w < 2 ^ t.toNat → (mem (giveS t l (andS s o)) w = true ↔ mem b w = true)) → giveS t l (andS s o) = b := fun hb h =>
    ext (n := 2 ^ t.toNat) (giveS_nonneg _ _ _) (giveS_lt hs.1 _ _) hb.2.1 hb.2.2 (fun w hw => by rw [Bool.eq_iff_iff]; exact h w hw)
  rcases Int.lt_trichotomy ms mo with h | h | h
  · refine .inl (fin (giveS_SetP hs.1 _ _) (fun w hw => ?_))
    rw [ga w hw, gs w hw]
    constructor
    · rintro (h1 | ⟨h1 | h1, h2⟩)
      · exact .inl h1
      · exact .inr ⟨h1, by omega⟩
      · have := is_o w hw h1; omega
    · rintro (h1 | ⟨h1, h2⟩)
      · exact .inl h1
      · exact .inr ⟨.inl h1, by omega⟩
  · refine .inr (.inr (fin ⟨hs.1, orS_nonneg _ _, orS_lt h8 (giveS_nonneg _ _ _) (giveS_lt hs.1 _ _) (giveS_nonneg _ _ _) (giveS_lt hs.1 _ _)⟩ (fun w hw => ?_)))
    rw [ga w hw, mem_orS (giveS_nonneg _ _ _) (lt8of h8 (giveS_lt hs.1 _ _)) (giveS_nonneg _ _ _) (lt8of h8 (giveS_lt hs.1 _ _)), Bool.or_eq_true, gs w hw, go w hw]
    constructor
    · rintro (h1 | ⟨h1 | h1, h2⟩)
      · exact .inl (.inl h1)
      · exact .inl (.inr ⟨h1, by omega⟩)
      · exact .inr (.inr ⟨h1, by omega⟩)
    · rintro ((h1 | ⟨h1, h2⟩) | (h1 | ⟨h1, h2⟩))
      · exact .inl h1
      · exact .inr ⟨.inl h1, by omega⟩
      · exact .inl h1
      · exact .inr ⟨.inr h1, by omega⟩
  · refine .inr (.inl (fin (giveS_SetP hs.1 _ _) (fun w hw => ?_)))
    rw [ga w hw, go w hw]
    constructor
    · rintro (h1 | ⟨h1 | h1, h2⟩)
      · exact .inl h1
      · have := is_s w hw h1; omega
      · exact .inr ⟨h1, by omega⟩
    · rintro (h1 | ⟨h1, h2⟩)
      · exact .inl h1
      · exact .inr ⟨.inr h1, by omega⟩
end Go.Proofs.Ythgddbnmieodkaa.LQ

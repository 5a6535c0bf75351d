/- Which rows are ranks, and what the exported functions on ranks answer. Conditions: those of each theorem. -/
import Derived.Test.YtjhcpcahnngofaaP2
import Derived.Test.YtjhcpcahnngofaaP3
import Derived.Test.YtjhcpcahnngofaaP17
import Derived.Test.YtjhcpcahnngofaaFRank
import Derived.Test.YtjhcpcahnngofaaSets
set_option linter.unusedVariables false
set_option linter.unusedSimpArgs false
namespace Go.Proofs.Ytjhcpcahnngofaa.L
open Go.RowKit Go.Proofs.YtjhcpcahnngofaaW.PrintWords Go.Proofs.YtjhcpcahnngofaaW.PrintLast Go.Proofs.YtjhcpcahnngofaaW.PrintMore Go.Proofs.BelM Go.Proofs.Ytjhcpcahnngofaa.P

/-- A row of ranks, for a number of things. -/
def RankP (t : Int) (l : List Int) : Prop := (1 ≤ t ∧ t ≤ 3) ∧ l.length = 2 ^ t.toNat ∧ (∀ w, w < l.length → 0 ≤ rk l w ∧ rk l w ≤ 9) ∧ ∃ w, w < l.length ∧ rk l w = 0
theorem areThings_eq (t : Int) : impl_areThings.f t = some (decide (1 ≤ t ∧ t ≤ 3)) := by
  unfold impl_areThings.f
  by_cases h : t ≥ 1
  · rw [if_pos h]
    have h' : 1 ≤ t := h
    simp [h']
  · rw [if_neg h]
    have h' : ¬ 1 ≤ t := h
    simp [h']
theorem isSet_eq (t s : Int) : impl_isSet.f t s = some (decide (SetP t s)) := by
  unfold impl_isSet.f
  rw [areThings_eq]
  simp only [Option.bind_some]
  by_cases ht : 1 ≤ t ∧ t ≤ 3
  · rw [if_pos (by simp [ht])]
    by_cases h0 : s ≥ 0
    · rw [if_pos h0]
      unfold impl_allWorlds.f
      rw [if_pos ht]
      simp only [Option.bind_some]
      congr 1
      apply decide_eq_decide.mpr
      unfold SetP
      generalize (2 : Int) ^ 2 ^ t.toNat = M
      omega
    · rw [if_neg h0]
      congr 1
      symm
      apply decide_eq_false
      exact fun h => h0 h.2.1
  · rw [if_neg (by simpa using ht)]
    congr 1
    symm
    apply decide_eq_false
    exact fun h => ht h.1
open Classical in
theorem isRank_eq (t : Int) (l : List Int) {k : Nat} (hk : 1 ≤ k) : impl_isRank.f k t l = some (decide (RankP t l)) := by
  obtain ⟨k, rfl⟩ : ∃ m, k = m + 1 := ⟨k - 1, by omega⟩
  unfold impl_isRank.f
  rw [areThings_eq]
  simp only [Option.bind_some]
  by_cases ht : 1 ≤ t ∧ t ≤ 3
  · rw [if_pos (by simp [ht]), if_pos (by omega), shl_things ht]
    simp only [impl_isRank.j0]
    by_cases hl : l.length = 2 ^ t.toNat
    · have hp : 0 < l.length := by have := worlds_ge ht; omega
      rw [if_neg (by rw [hl]; simp)]
      unfold slices_Min_int_int.f slices_Max_int_int.f
      rw [if_pos hp, if_pos hp]
      simp only [Option.bind_some]
      obtain ⟨u, hu, eu⟩ := minTo_at (rk l) l.length hp
      obtain ⟨v, hv, ev⟩ := maxTo_at (rk l) l.length hp
      show (if minTo (rk l) l.length = 0 then some (decide (maxTo (rk l) l.length ≤ 9)) else some false) = _
      by_cases h0 : minTo (rk l) l.length = 0
      · rw [if_pos h0]
        congr 1
        apply decide_eq_decide.mpr
        constructor
        · intro h9
          refine ⟨ht, hl, fun w hw => ?_, u, hu, by omega⟩
          have := minTo_le (rk l) l.length w hw
          have := le_maxTo (rk l) l.length w hw
          omega
        · intro h
          have := (h.2.2.1 v hv).2
          omega
      · rw [if_neg h0]
        congr 1
        symm
        apply decide_eq_false
        intro h
        obtain ⟨w, hw, e⟩ := h.2.2.2
        have := minTo_le (rk l) l.length w hw
        have := (h.2.2.1 u hu).1
        omega
    · rw [if_pos (by simp; exact_mod_cast hl)]
      congr 1
      symm
      apply decide_eq_false
      exact fun h => hl h.2.1
  · rw [if_neg (by simpa using ht)]
    simp only [impl_isRank.j0]
    rw [if_pos trivial]
    congr 1
    symm
    apply decide_eq_false
    exact fun h => ht h.1
end Go.Proofs.Ytjhcpcahnngofaa.L

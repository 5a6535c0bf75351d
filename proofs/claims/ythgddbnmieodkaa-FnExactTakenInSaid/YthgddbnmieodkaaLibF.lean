/- Plain facts about what the printed functions answer (several pieces in one text). Conditions: those of each theorem. -/
import Derived.Test.YthgddbnmieodkaaP3
import Derived.Test.YthgddbnmieodkaaP5
import Derived.Test.YthgddbnmieodkaaLibA
import Derived.Test.YthgddbnmieodkaaSets
set_option linter.unusedVariables false
set_option linter.unusedSimpArgs false
namespace Go.Proofs.Ythgddbnmieodkaa.L
open Go.RowKit Go.Proofs.YthgddbnmieodkaaW.PrintWords Go.Proofs.YthgddbnmieodkaaW.PrintLast Go.Proofs.YthgddbnmieodkaaW.PrintMore Go.Proofs.BelM Go.Proofs.Ythgddbnmieodkaa.P
/-! #### FToInt -/
theorem toInt_loop (l : List Int) (hl : l.length ≤ 17592186044416) : ∀ (d k j : Nat) (x : List Int), x.length = l.length → j + d = l.length → d < k → (∀ i, i < j → x.getD i 0 = l.getD i 0) →
    laws_toIntS.l0 k l x j = some l
  | 0, k, j, x, he, hj, hk, hi => by
    obtain ⟨k, rfl⟩ : ∃ m, k = m + 1 := ⟨k - 1, by omega⟩
    simp only [laws_toIntS.l0]
    rw [if_neg (by omega)]
    congr 1
    apply List.ext_getElem he
    intro i h1 h2
    have a1 := hi i (by omega)
    rw [List.getD_eq_getElem?_getD, List.getElem?_eq_getElem h1, List.getD_eq_getElem?_getD, List.getElem?_eq_getElem h2] at a1
    simpa using a1
  | d + 1, k, j, x, he, hj, hk, hi => by
    obtain ⟨k, rfl⟩ : ∃ m, k = m + 1 := ⟨k - 1, by omega⟩
    simp only [laws_toIntS.l0]
    rw [if_pos (by omega), if_pos (by omega), if_pos (by omega), w64s (by omega), show (((j : Nat) : Int)).toNat = j from Int.toNat_natCast j]
    refine toInt_loop l hl d k (j + 1) _ (by rw [List.length_set, he]) (by omega) (by omega) (fun i hi2 => ?_)
    rw [List.getD_eq_getElem?_getD, List.getElem?_set]
    by_cases e : j = i
    · subst e
      rw [if_pos rfl, if_pos (by omega)]
      unfold rd
      rw [Int.toNat_natCast]
      rfl
    · rw [if_neg e, ← List.getD_eq_getElem?_getD]
      exact hi i (by omega)
theorem toIntS_eq {l : List Int} (hl : l.length ≤ 17592186044416) {k : Nat} (hk : l.length + 1 ≤ k) : laws_toIntS.f k l = some l := by
  unfold laws_toIntS.f
  rw [if_pos (by omega), if_pos (by rw [Int.toNat_natCast]; omega)]
  exact toInt_loop l hl l.length k 0 _ (by simp) (by omega) (by omega) (fun i h => by omega)
/-! #### FEqInt -/
theorem rd_nat (l : List Int) (j : Nat) : rd l (j : Int) = l.getD j 0 := by unfold rd; rw [Int.toNat_natCast]
theorem eq_loop {l : List Int} (hl : l.length ≤ 17592186044416) : ∀ (d k j : Nat), j + d = l.length → d < k → laws_eqIntS.l0 k l l j = some true
  | 0, k, j, hj, hk => by
    obtain ⟨k, rfl⟩ : ∃ m, k = m + 1 := ⟨k - 1, by omega⟩
    simp only [laws_eqIntS.l0]
    rw [if_neg (by omega)]
  | d + 1, k, j, hj, hk => by
    obtain ⟨k, rfl⟩ : ∃ m, k = m + 1 := ⟨k - 1, by omega⟩
    simp only [laws_eqIntS.l0]
    rw [if_pos (by omega), if_pos (by omega), if_pos (by omega), if_pos trivial, w64s (by omega)]
    exact eq_loop hl d k (j + 1) (by omega) (by omega)
theorem eqIntS_self {l : List Int} (hl : l.length ≤ 17592186044416) {k : Nat} (hk : l.length + 1 ≤ k) : laws_eqIntS.f k l l = some true := by
  unfold laws_eqIntS.f
  rw [if_pos rfl]
  exact eq_loop hl l.length k 0 (by omega) (by omega)
end Go.Proofs.Ythgddbnmieodkaa.L

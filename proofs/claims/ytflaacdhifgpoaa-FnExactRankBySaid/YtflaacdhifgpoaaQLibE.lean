/- Plain facts about what the printed functions answer (several pieces in one text). Conditions: those of each theorem. -/
import Derived.Test.YtflaacdhifgpoaaQ0
import Derived.Test.YtflaacdhifgpoaaQ3
import Derived.Test.YtflaacdhifgpoaaQ8
import Derived.Test.YtflaacdhifgpoaaQLibA
import Derived.Test.YtflaacdhifgpoaaSets
set_option linter.unusedVariables false
set_option linter.unusedSimpArgs false
namespace Go.Proofs.Ytflaacdhifgpoaa.LQ
open Go.RowKit Go.Proofs.YtflaacdhifgpoaaW.PrintWords Go.Proofs.YtflaacdhifgpoaaW.PrintLast Go.Proofs.YtflaacdhifgpoaaW.PrintMore Go.Proofs.BelM Go.Proofs.Ytflaacdhifgpoaa.Q
/-! #### FEqInt -/
theorem rd_nat (l : List Int) (j : Nat) : rd l (j : Int) = l.getD j 0 := by unfold rd; rw [Int.toNat_natCast]
theorem eq_loop {l : List Int} (hl : l.length ≤ 17592186044416) : ∀ (d k j : Nat), j + d = l.length → d < k → laws_eqIntS.l0 k l l j = some true
  | 0, k, j, hj, hk => by
    obtain ⟨k, rfl⟩ : ∃ m, k = m + 1 := ⟨k - 1, by omega⟩
    simp only [laws_eqIntS.l0]
    rw [if_neg (by omega)]
  | d + 1, k, j, hj, hk => by
    obtain ⟨k, rfl⟩ : ∃ m, k = m + 1 := ⟨k - 1, by omega⟩
    simp only [laws_eqIntS.l0]
    rw [if_pos (by omega), if_pos (by omega), if_pos (by omega), if_pos trivial, w64s (by omega)]
    exact eq_loop hl d k (j + 1) (by omega) (by omega)
theorem eqIntS_self {l : List Int} (hl : l.length ≤ 17592186044416) {k : Nat} (hk : l.length + 1 ≤ k) : laws_eqIntS.f k l l = some true := by
  unfold laws_eqIntS.f
  rw [if_pos rfl]
  exact eq_loop hl l.length k 0 (by omega) (by omega)
/-! #### FMark -/

/-- The numbers from a on, as many as there are places from j on, put into a row. -/
def marked (l : List Int) (a : Int) : List Int := (List.range l.length).map (fun (i : Nat) => a + (i : Int))
theorem marked_length (l : List Int) (a : Int) : (marked l a).length = l.length := by simp [marked]
theorem marked_get {l : List Int} {a : Int} {j : Nat} (hj : j < l.length) : (marked l a).getD j 0 = a + (j : Int) := by
  unfold marked
  rw [List.getD_eq_getElem?_getD, List.getElem?_map, List.getElem?_range hj]
  rfl
theorem mark_loop (l0 : List Int) (hl : l0.length ≤ 17592186044416) : ∀ (d k j : Nat) (l : List Int), l.length = l0.length → j + d = l0.length → d < k → (∀ i, i < j → l.getD i 0 = 1 + (i : Int)) →
    laws_markIntS.l0 k l ((j : Int) + 1) j = some ((l0.length : Int) + 1, marked l0 1)
  | 0, k, j, l, he, hj, hk, hi => by
    obtain ⟨k, rfl⟩ : ∃ m, k = m + 1 := ⟨k - 1, by omega⟩
    simp only [laws_markIntS.l0]
    rw [if_neg (by omega)]
    have e : l = marked l0 1 := by
      apply List.ext_getElem (by rw [marked_length, he])
      intro i h1 h2
      have a1 := hi i (by omega)
      have a2 := marked_get (l := l0) (a := 1) (j := i) (by omega)
      rw [List.getD_eq_getElem?_getD, List.getElem?_eq_getElem h1] at a1
      rw [List.getD_eq_getElem?_getD, List.getElem?_eq_getElem h2] at a2
      simp only [Option.getD_some] at a1 a2
      rw [a1, a2]
    rw [e, show (j : Int) = (l0.length : Int) by omega]
  | d + 1, k, j, l, he, hj, hk, hi => by
    obtain ⟨k, rfl⟩ : ∃ m, k = m + 1 := ⟨k - 1, by omega⟩
    simp only [laws_markIntS.l0]
    rw [if_pos (by omega), if_pos (by omega), w64s (j := j) (by omega), show (((j : Nat) : Int)).toNat = j from Int.toNat_natCast j]
    have w2 : wrap64 ((j : Int) + 1 + 1) = ((j + 1 : Nat) : Int) + 1 := by rw [w64 (by omega) (by omega)]; omega
    rw [w2]
    refine mark_loop l0 hl d k (j + 1) _ (by rw [List.length_set, he]) (by omega) (by omega) (fun i hi2 => ?_)
    rw [List.getD_eq_getElem?_getD, List.getElem?_set]
    by_cases e : j = i
    · subst e
      rw [if_pos rfl, if_pos (by omega)]
      simp; omega
    · rw [if_neg e, ← List.getD_eq_getElem?_getD]
      exact hi i (by omega)
theorem markIntS_eq {l : List Int} (hl : l.length ≤ 17592186044416) {k : Nat} (hk : l.length + 1 ≤ k) : laws_markIntS.f k l 1 = some ((l.length : Int) + 1, marked l 1) := by
  unfold laws_markIntS.f
  exact mark_loop l hl l.length k 0 l rfl (by omega) (by omega) (fun i h => by omega)
theorem held_loop (l : List Int) (hl : l.length ≤ 17592186044416) : ∀ (d k j : Nat), j + d = l.length → d < k → laws_heldIntS.l0 k (marked l 1) ((j : Int) + 1) j = some ((l.length : Int) + 1)
  | 0, k, j, hj, hk => by
    obtain ⟨k, rfl⟩ : ∃ m, k = m + 1 := ⟨k - 1, by omega⟩
    simp only [laws_heldIntS.l0]
    rw [if_neg (by rw [marked_length]; omega), show (j : Int) = (l.length : Int) by omega]
  | d + 1, k, j, hj, hk => by
    obtain ⟨k, rfl⟩ : ∃ m, k = m + 1 := ⟨k - 1, by omega⟩
    simp only [laws_heldIntS.l0]
    rw [if_pos (by rw [marked_length]; omega), if_pos (by omega), rd_nat, marked_get (by omega), if_pos (by omega), w64s (by omega)]
    have w2 : wrap64 ((j : Int) + 1 + 1) = ((j + 1 : Nat) : Int) + 1 := by rw [w64 (by omega) (by omega)]; omega
    rw [w2]
    exact held_loop l hl d k (j + 1) (by omega) (by omega)
theorem heldIntS_eq {l : List Int} (hl : l.length ≤ 17592186044416) {k : Nat} (hk : l.length + 1 ≤ k) : laws_heldIntS.f k (marked l 1) 1 = some ((l.length : Int) + 1) := by
  unfold laws_heldIntS.f
  exact held_loop l hl l.length k 0 (by omega) (by omega)
/-! #### FMarkR -/
theorem markR_loop : ∀ (d k j : Nat) (l : List S25) (c : Int), l.length ≤ 17592186044416 → j + d = l.length → d < k → 0 ≤ c → c + 2 * (d : Int) ≤ 17592186044416 → ∃ m, laws_markRuleS.l0 k l c j = some (c + 2 * (d : Int), m)
  | 0, k, j, l, c, hl, hj, hk, hc, hc' => by
    obtain ⟨k, rfl⟩ : ∃ m, k = m + 1 := ⟨k - 1, by omega⟩
    simp only [laws_markRuleS.l0]
    rw [if_neg (by omega)]
    exact ⟨l, by simp⟩
  | d + 1, k, j, l, c, hl, hj, hk, hc, hc' => by
    obtain ⟨k, rfl⟩ : ∃ m, k = m + 1 := ⟨k - 1, by omega⟩
    simp only [laws_markRuleS.l0]
    rw [if_pos (by omega), if_pos (by omega), w64s (j := j) (by omega), w64 (x := c + 1) (by omega) (by omega), w64 (x := c + 1 + 1) (by omega) (by omega)]
    simp only [Option.bind_some]
    have step : ∀ L : List S25, L.length = l.length → ∃ m, laws_markRuleS.l0 k L (c + 1 + 1) ((j + 1 : Nat) : Int) = some (c + 2 * ((d + 1 : Nat) : Int), m) := by
      intro L hL
      obtain ⟨m, e⟩ := markR_loop d k (j + 1) L (c + 1 + 1) (by omega) (by omega) (by omega) (by omega) (by omega)
      exact ⟨m, by rw [e, show c + 1 + 1 + 2 * (d : Int) = c + 2 * ((d + 1 : Nat) : Int) by omega]⟩
    exact step _ (by rw [List.length_set, List.length_set])
theorem markRuleS_ok {l : List S25} (hl : l.length ≤ 1048576) {k : Nat} (hk : l.length + 1 ≤ k) : ∃ c m, laws_markRuleS.f k l 1 = some (c, m) ∧ 0 ≤ c := by
  obtain ⟨m, e⟩ := markR_loop l.length k 0 l 1 (by omega) (by omega) (by omega) (by omega) (by omega)
  exact ⟨_, m, e, by omega⟩
end Go.Proofs.Ytflaacdhifgpoaa.LQ

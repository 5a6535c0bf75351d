/- Reasonable giving up makes reasonable first steps of revision, whatever is drawn. Conditions: none beyond the statement's own. -/
import Derived.Test.YthgddbnmieodkaaQ18
import Derived.Test.YthgddbnmieodkaaQLibF
import Derived.Test.YthgddbnmieodkaaQLibD
import Derived.Test.YthgddbnmieodkaaQLibC
import Derived.Test.YthgddbnmieodkaaSets
set_option linter.unusedVariables false
set_option linter.unusedSimpArgs false
namespace Go.Proofs.Ythgddbnmieodkaa.Pure
open Go.RowKit Go.Proofs.YthgddbnmieodkaaW.PrintWords Go.Proofs.YthgddbnmieodkaaW.PrintLast Go.Proofs.YthgddbnmieodkaaW.PrintMore Go.Proofs.BelM Go.Proofs.Ythgddbnmieodkaa.Q Go.Proofs.Ythgddbnmieodkaa.LQ

/-- The table of revision, from that of giving up. -/
def revAt (l : List Int) (n w : Nat) : Int := andS (rk l (n - 1 - w)) (w : Int)
theorem revise_loop {t : Int} {l : List Int} (h : TableP t l) (h0 : faultS l (coreT t l) (2 ^ 2 ^ t.toNat) = 0) : ∀ (d k j : Nat), j + d = 2 ^ 2 ^ t.toNat → d + 401 ≤ k → laws_FnGiveFault.l0 k t l (tab (revAt l (2 ^ 2 ^ t.toNat)) j) j = some true
  | 0, k, j, hj, hk => by
    obtain ⟨k, rfl⟩ : ∃ m, k = m + 1 := ⟨k - 1, by omega⟩
    obtain rfl : j = 2 ^ 2 ^ t.toNat := by omega
    have h16 := sets_le h.1
    have h4 := sets_ge h.1
    have ht3 : 1 ≤ t ∧ t ≤ 3 := by have := h.1; omega
    have hr : ∀ w, w < 2 ^ 2 ^ t.toNat → rk (tab (revAt l (2 ^ 2 ^ t.toNat)) (2 ^ 2 ^ t.toNat)) w = revAt l (2 ^ 2 ^ t.toNat) w := fun w hw => tab_rk hw
    have hs : ∀ w, w < 2 ^ 2 ^ t.toNat → SetP t (rk l w) := fun w hw => h.2.2 w (by rw [h.2.1]; exact hw)
    have hT : TableP t (tab (revAt l (2 ^ 2 ^ t.toNat)) (2 ^ 2 ^ t.toNat)) := by
      refine ⟨h.1, tab_len _ _, fun w hw => ?_⟩
      rw [tab_len] at hw
      rw [hr w hw]
      exact and_SetP (hs _ (by omega))
    have hm : ∀ w v, w < 2 ^ 2 ^ t.toNat → mem (revAt l (2 ^ 2 ^ t.toNat) w) v = (mem (rk l (2 ^ 2 ^ t.toNat - 1 - w)) v && mem (w : Int) v) := fun w v hw =>
      mem_andS (hs _ (by omega)).2.1 (hs _ (by omega)).lt8
    have e := firstFault_ok hT (k := k) (fun w hw => by
      rw [hr w hw]
      have hx : SetP t (revAt l (2 ^ 2 ^ t.toNat) w) := and_SetP (hs _ (by omega))
      rw [andS_self (worlds_le ht3) hx.2.1 hx.2.2]
      intro v _ hmv
      rw [hm w v hw, Bool.and_eq_true] at hmv
      exact hmv.2) (fun w hw => by
      rw [hr w hw]
      constructor
      · intro hz
        apply Classical.byContradiction
        intro hw0
        have hc := fault3 h0 (2 ^ 2 ^ t.toNat - 1 - w) (by omega)
        have hsc := hs (2 ^ 2 ^ t.toNat - 1 - w) (by omega)
        apply hc
        rw [andS_self (worlds_le ht3) hsc.2.1 hsc.2.2]
        intro v hv hmv
        have hws : SetP t (w : Int) := set_nat h.1 hw
        have hcv : ((2 ^ 2 ^ t.toNat - 1 - w : Nat) : Int) = 2 ^ 2 ^ t.toNat - 1 - (w : Int) := by
          have := sets_cast (2 ^ t.toNat)
          omega
        rw [hcv, rest_mem hws hv]
        have h5 := hm w v hw
        rw [hz, mem_zero, hmv, Bool.true_and] at h5
        rw [← h5]; rfl
      · intro hw0
        subst hw0
        unfold revAt andS
        rw [mk_eq_zero]
        intro v _
        rw [show ((0 : Nat) : Int) = 0 from rfl, mem_zero, Bool.and_false]) (by omega)
    simp only [laws_FnGiveFault.l0]
    rw [if_neg (by have := h.2.1; omega)]
    rcases e with e | e
    · rw [e]; rfl
    · rw [e]; rfl
  | d + 1, k, j, hj, hk => by
    obtain ⟨k, rfl⟩ : ∃ m, k = m + 1 := ⟨k - 1, by omega⟩
    have h16 := sets_le h.1
    have hl := h.2.1
    have ih := revise_loop h h0 d k (j + 1) (by omega) (by omega)
    rw [← tab_snoc] at ih
    have e1 : wrap64 (wrap64 ((l.length : Int) - 1) - (j : Int)) = ((2 ^ 2 ^ t.toNat - 1 - j : Nat) : Int) := by
      rw [w64 (x := (l.length : Int) - 1) (by omega) (by omega), w64 (by omega) (by omega)]
      omega
    have hv := h.val (2 ^ 2 ^ t.toNat - 1 - j) (by omega)
    simp only [laws_FnGiveFault.l0]
    rw [if_pos (by omega), e1, if_pos (by omega), if_pos (by omega), both_eq (by exact hv.1) (by omega) (by omega)]
    simp only [Option.bind_some]
    rw [if_pos (by rw [tab_len]; omega), w64s (by omega)]
    exact ih
open Classical in
theorem FnGiveFault : laws_FnGiveFault.Pure := by
  intro l0 h1 h2 h3
  refine ⟨600, ?_⟩
  unfold laws_FnGiveFault.f
  by_cases hl : (l0.length : Int) > 1048576
  · rw [if_pos hl]
  · rw [if_neg hl]
    obtain ⟨t, r, e, hlen⟩ := drawGiveF_ok h3 (k := 600) (by omega)
    rw [e]
    simp only [Option.bind_some]
    rw [impl_GiveFault_eq _ _ (by omega), spec_GiveFault_eq _ _ (by omega) (by omega)]
    simp only [Option.bind_some]
    rw [if_pos trivial]
    by_cases h : TableP t r
    · have hf := fault_range r (coreT t r) (2 ^ 2 ^ t.toNat)
      rw [if_pos h, if_neg (by omega)]
      by_cases h0 : faultS r (coreT t r) (2 ^ 2 ^ t.toNat) > 0
      · rw [if_pos h0, decide_eq_true hf.2]
      · rw [if_neg h0]
        have h16 := sets_le h.1
        have e2 := revise_loop h (by omega) (2 ^ 2 ^ t.toNat) 600 0 (by omega) (by omega)
        exact e2
    · rw [if_neg h, if_pos (by decide), if_pos rfl, alive_eq]
      rfl

end Go.Proofs.Ythgddbnmieodkaa.Pure

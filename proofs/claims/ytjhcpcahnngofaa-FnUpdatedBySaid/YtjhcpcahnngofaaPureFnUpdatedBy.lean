/- UpdatedBy: updates are done world by world, whatever is drawn. Conditions: none beyond the statement's own. -/
import Derived.Test.YtjhcpcahnngofaaQ7
import Derived.Test.YtjhcpcahnngofaaQ11
import Derived.Test.YtjhcpcahnngofaaQLibA
import Derived.Test.YtjhcpcahnngofaaQLibC
import Derived.Test.YtjhcpcahnngofaaQLibB
import Derived.Test.YtjhcpcahnngofaaSets
set_option linter.unusedVariables false
set_option linter.unusedSimpArgs false
namespace Go.Proofs.Ytjhcpcahnngofaa.Pure
open Go.RowKit Go.Proofs.YtjhcpcahnngofaaW.PrintWords Go.Proofs.YtjhcpcahnngofaaW.PrintLast Go.Proofs.YtjhcpcahnngofaaW.PrintMore Go.Proofs.BelM Go.Proofs.Ytjhcpcahnngofaa.Q Go.Proofs.Ytjhcpcahnngofaa.LQ

theorem worldsOf_eq {t : Int} (ht : 1 ≤ t ∧ t ≤ 3) : spec_WorldsOf.f t = some ((2 ^ t.toNat : Nat) : Int) := by
  unfold spec_WorldsOf.f
  rw [l1In_eq]
  simp only [Option.bind_some]
  rw [if_pos (by simp [ht]), if_pos (by omega), shl_things ht]
theorem mod_world {t : Int} (ht : 1 ≤ t ∧ t ≤ 3) (n : Nat) : ∃ w : Nat, w < 2 ^ t.toNat ∧ (n : Int) % ((2 ^ t.toNat : Nat) : Int) = w := by
  have h2 := worlds_ge ht
  have h0 := Int.emod_nonneg (n : Int) (b := ((2 ^ t.toNat : Nat) : Int)) (by omega)
  have h1 := Int.emod_lt_of_pos (n : Int) (b := ((2 ^ t.toNat : Nat) : Int)) (by omega)
  exact ⟨((n : Int) % ((2 ^ t.toNat : Nat) : Int)).toNat, by omega, by omega⟩
theorem other_set {t : Int} (ht : 1 ≤ t ∧ t ≤ 3) {x : Int} (hx : 0 ≤ x) : SetP t (Int.tmod x (2 ^ 2 ^ t.toNat)) := by
  have h2 := all_ge ht
  rw [Int.tmod_eq_emod_of_nonneg hx]
  exact ⟨ht, Int.emod_nonneg _ (by omega), Int.emod_lt_of_pos _ (by omega)⟩
theorem FnUpdatedBy : laws_FnUpdatedBy.Pure := by
  intro l0 l1 h1 h2 h3 k1 k2 k3
  refine ⟨201, ?_⟩
  unfold laws_FnUpdatedBy.f
  have key : laws_FnUpdatedBy.j0 201 l0 l1 (decide ((l1.length : Int) > 1048576)) = some true := by
    simp only [laws_FnUpdatedBy.j0]
    by_cases hl : (l1.length : Int) > 1048576
    · rw [if_pos (by simpa using hl)]
    · rw [if_neg (by simpa using hl)]
      obtain ⟨t, p, c, e⟩ := drawUpd_ok h3 (k := 200) (by omega)
      rw [e]
      simp only [Option.bind_some]
      rw [impl_UpdatedBy_eq _ _ _ (by omega), spec_UpdatedBy_eq _ _ _ (by omega)]
      simp only [Option.bind_some]
      rw [if_pos trivial]
      by_cases hg : SetP t p ∧ SetP t c
      · obtain ⟨hp, hc⟩ := hg
        have ht := hp.1
        have h8 := worlds_le ht
        have hn := updS_nonneg t p c
        have hlt := lt8of h8 (updS_lt t p c)
        have hle := all_le ht
        have hge := all_ge ht
        have hw2 := worlds_ge ht
        rw [show (if SetP t p ∧ SetP t c then updS t p c else -1) = updS t p c from if_pos ⟨hp, hc⟩, if_neg (by omega), whole_eq ht]
        simp only [Option.bind_some]
        have e1 : wrap64 ((2 : Int) ^ 2 ^ t.toNat - 1 + 1) = 2 ^ 2 ^ t.toNat := by rw [w64 (by omega) (by omega)]; omega
        have e2 : wrap64 ((l1.length : Int) * 37) = (l1.length : Int) * 37 := w64 (by omega) (by omega)
        rw [e1, if_neg (by omega), impl_NearestOf_eq _ _ _ (by omega), show (if SetP t p ∧ SetP t c then nearS t p c else -1) = nearS t p c from if_pos ⟨hp, hc⟩, worldsOf_eq ht]
        simp only [Option.bind_some]
        rw [if_neg (by omega), e2]
        have ho := other_set ht (x := (l1.length : Int) * 37) (by omega)
        generalize Int.tmod ((l1.length : Int) * 37) (2 ^ 2 ^ t.toNat) = o at ho
        have hpo : SetP t (orS p o) := ⟨ht, orS_nonneg _ _, orS_lt h8 hp.2.1 hp.2.2 ho.2.1 ho.2.2⟩
        rw [either_eq hp.2.1 hp.lt8 ho.2.1 ho.lt8 (by omega)]
        simp only [Option.bind_some]
        rw [impl_UpdatedBy_eq _ _ _ (by omega), show (if SetP t (orS p o) ∧ SetP t c then updS t (orS p o) c else -1) = updS t (orS p o) c from if_pos ⟨hpo, hc⟩, impl_UpdatedBy_eq _ _ _ (by omega), show (if SetP t o ∧ SetP t c then updS t o c else -1) = updS t o c from if_pos ⟨ho, hc⟩]
        simp only [Option.bind_some]
        rw [either_eq hn hlt (updS_nonneg _ _ _) (lt8of h8 (updS_lt _ _ _)) (by omega)]
        simp only [Option.bind_some]
        rw [if_pos (updS_or hp ho), within_eq hp.2.1 hc.2.1 (by omega)]
        simp only [Option.bind_some]
        obtain ⟨w, hw, ew⟩ := mod_world ht l1.length
        have h1w := one_SetP ht hw
        rw [ew, shl_small1 (by omega), impl_UpdatedBy_eq _ _ _ (by omega), show (if SetP t (2 ^ w) ∧ SetP t c then updS t (2 ^ w) c else -1) = updS t (2 ^ w) c from if_pos ⟨h1w, hc⟩, impl_NearestOf_eq _ _ _ (by omega), show (if SetP t (2 ^ w) ∧ SetP t c then nearS t (2 ^ w) c else -1) = nearS t (2 ^ w) c from if_pos ⟨h1w, hc⟩]
        simp only [Option.bind_some]
        rw [if_pos (updS_one hc hw), within_eq hn hc.2.1 (by omega), within_eq (nearS_nonneg hc.2.1) hn (by omega)]
        simp only [Option.bind_some]
        have f1 : (andS (updS t p c) c == updS t p c) = true := (within_iffS h8 hn (updS_lt _ _ _)).mpr (fun v _ hm => upd_within hc hm)
        have f2 : p ≠ 0 → (andS (nearS t p c) (updS t p c) == nearS t p c) = true := fun h0 => (within_iffS h8 (nearS_nonneg hc.2.1) (nearS_lt hc.2.2)).mpr (fun v _ hm => near_in_upd hp hc h0 hm)
        have tail : (if p = 0 then some (andS (updS t p c) c == updS t p c) else if (andS (nearS t p c) (updS t p c) == nearS t p c) = true then some (andS (updS t p c) c == updS t p c) else some false) = some true := by
          by_cases h0 : p = 0
          · rw [if_pos h0, f1]
          · rw [if_neg h0, if_pos (f2 h0), f1]
        rw [tail]
        by_cases hin : (andS p c == p) = true
        · rw [if_pos hin, if_pos (updS_id hp ((within_iffS h8 hp.2.1 hp.2.2).mp hin))]
        · rw [if_neg hin]
      · rw [if_neg hg, if_pos (by decide), if_pos rfl, alive_eq]
        rfl
  by_cases hl : (l0.length : Int) > 1048576
  · rw [if_pos hl]
    simp only [laws_FnUpdatedBy.j0]
    rw [if_pos trivial]
  · rw [if_neg hl, key]

end Go.Proofs.Ytjhcpcahnngofaa.Pure

/- AfterAll of the program returns what the reference's returns, for all arguments. Conditions: none beyond the statement's own. -/
import Derived.Test.YtfleephpcomimaaP13
import Derived.Test.YtfleephpcomimaaP14
import Derived.Test.YtfleephpcomimaaLibB
import Derived.Test.YtfleephpcomimaaLibC
import Derived.Test.YtfleephpcomimaaSets
set_option linter.unusedVariables false
set_option linter.unusedSimpArgs false
namespace Go.Proofs.Ytfleephpcomimaa.Pure
open Go.RowKit Go.Proofs.YtfleephpcomimaaW.PrintWords Go.Proofs.YtfleephpcomimaaW.PrintLast Go.Proofs.YtfleephpcomimaaW.PrintMore Go.Proofs.BelM Go.Proofs.Ytfleephpcomimaa.P Go.Proofs.Ytfleephpcomimaa.L

open Classical in
theorem after_len {t way : Int} : ∀ (ss now x : List Int), afterL t way now ss = some x → x.length = now.length
  | [], now, x, h => by simp only [afterL] at h; obtain rfl := Option.some.inj h; rfl
  | s :: ss, now, x, h => by
    simp only [afterL] at h
    by_cases hs : SetP t s ∧ s ≠ 0
    · rw [if_pos hs] at h
      rw [after_len ss _ x h]
      unfold changedL
      rw [tidyL_len, riseL_len]
    · rw [if_neg hs] at h
      exact absurd h (by simp)
theorem mark_any : ∀ (d k j : Nat) (l : List Int) (c : Int), l.length ≤ 17592186044416 → j + d = l.length → d < k → 0 ≤ c → c + (d : Int) ≤ 17592186044416 → ∃ m, laws_markIntS.l0 k l c j = some (c + (d : Int), m)
  | 0, k, j, l, c, hl, hj, hk, hc, hc' => by
    obtain ⟨k, rfl⟩ : ∃ m, k = m + 1 := ⟨k - 1, by omega⟩
    simp only [laws_markIntS.l0]
    rw [if_neg (by omega)]
    exact ⟨l, by simp⟩
  | d + 1, k, j, l, c, hl, hj, hk, hc, hc' => by
    obtain ⟨k, rfl⟩ : ∃ m, k = m + 1 := ⟨k - 1, by omega⟩
    simp only [laws_markIntS.l0]
    rw [if_pos (by omega), if_pos (by omega), w64s (j := j) (by omega), w64 (x := c + 1) (by omega) (by omega)]
    obtain ⟨m, e⟩ := mark_any d k (j + 1) (l.set ((j : Int)).toNat c) (c + 1) (by rw [List.length_set]; exact hl) (by rw [List.length_set]; omega) (by omega) (by omega) (by omega)
    exact ⟨m, by rw [e]; congr 2; omega⟩
open Classical in
theorem FnExactAfterAll : laws_FnExactAfterAll.Pure := by
  intro a0 l1 a2 l3 w0 h1 h2 h3 w2 h4 h5 h6
  obtain ⟨m, hm⟩ : ∃ m, m = l1.length + l3.length + 3000 := ⟨_, rfl⟩
  refine ⟨m + 3, ?_⟩
  unfold laws_FnExactAfterAll.f
  by_cases hl : (l1.length : Int) > 1048576
  · rw [if_pos hl]
  rw [if_neg hl]
  by_cases hl3 : (l3.length : Int) > 1048576
  · rw [if_pos hl3]
  rw [if_neg hl3, toIntS_eq (by omega) (by omega)]
  simp only [Option.bind_some]
  rw [toIntS_eq (l := l3) (by omega) (by omega)]
  simp only [Option.bind_some]
  rw [spec_AfterAll_eq _ _ _ _ (by omega) (by omega), impl_AfterAll_eq _ _ _ _ (by omega)]
  simp only [Option.bind_some]
  obtain ⟨z, hz⟩ : ∃ z, (if AftP a0 l1 a2 l3 then told (afterL a0 a2 (tidyL l1) l3) else ([], false)) = z := ⟨_, rfl⟩
  have hlen : z.1.length ≤ 8 := by
    by_cases h : AftP a0 l1 a2 l3
    · rw [if_pos h] at hz
      rw [← hz]
      cases ha : afterL a0 a2 (tidyL l1) l3 with
      | none => simp [told]
      | some x =>
        have := after_len l3 _ x ha
        rw [tidyL_len] at this
        have h8 := h.1.len
        show x.length ≤ 8
        omega
    · rw [if_neg h] at hz
      rw [← hz]
      simp
  rw [hz, eqIntS_self (l := z.1) (by omega) (by omega)]
  simp only [Option.bind_some]
  rw [if_pos trivial, bne_self_eq_false]
  simp only [laws_FnExactAfterAll.j0]
  rw [if_neg (by decide), toIntS_eq (by omega) (by omega)]
  simp only [Option.bind_some]
  rw [eqIntS_self (l := l1) (by omega) (by omega)]
  simp only [Option.bind_some]
  rw [if_pos trivial, toIntS_eq (l := l3) (by omega) (by omega)]
  simp only [Option.bind_some]
  rw [eqIntS_self (l := l3) (by omega) (by omega)]
  simp only [Option.bind_some]
  rw [if_pos trivial, markIntS_eq (by omega) (by omega)]
  simp only [Option.bind_some]
  obtain ⟨mk2, emk⟩ := mark_any l3.length (m + 2) 0 l3 ((l1.length : Int) + 1) (by omega) (by omega) (by omega) (by omega) (by omega)
  unfold laws_markIntS.f
  rw [show ((0 : Nat) : Int) = 0 from rfl] at emk
  rw [emk]
  simp only [Option.bind_some]
  rw [if_neg (by omega), eqIntS_self (l := z.1) (by omega) (by omega)]
  simp only [Option.bind_some]
  rw [if_pos trivial, bne_self_eq_false]
  simp only [laws_FnExactAfterAll.j1]
  rw [if_neg (by decide), markIntS_eq (by omega) (by omega)]
  simp only [Option.bind_some]
  rw [heldIntS_eq (by omega) (by omega)]
  simp only [Option.bind_some]
  rw [if_neg (by omega), if_pos trivial, toIntS_eq (by omega) (by omega)]
  simp only [Option.bind_some]
  rw [toIntS_eq (l := l3) (by omega) (by omega)]
  simp only [Option.bind_some]
  rw [impl_AfterAll_eq _ _ _ _ (by omega), hz]
  simp only [Option.bind_some]
  rw [eqIntS_self (l := z.1) (by omega) (by omega)]
  simp only [Option.bind_some]
  rw [if_pos trivial, bne_self_eq_false]
  simp only [laws_FnExactAfterAll.j2]
  rw [if_neg (by decide), heldIntS_eq (by omega) (by omega)]
  simp only [Option.bind_some]
  rw [if_neg (by omega), if_pos trivial]

end Go.Proofs.Ytfleephpcomimaa.Pure

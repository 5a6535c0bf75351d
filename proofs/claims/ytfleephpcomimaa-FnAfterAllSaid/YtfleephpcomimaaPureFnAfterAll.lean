/- The last one is believed, whatever is drawn. Conditions: none beyond the statement's own. -/
import Derived.Test.YtfleephpcomimaaS12
import Derived.Test.YtfleephpcomimaaS18
import Derived.Test.YtfleephpcomimaaS19
import Derived.Test.YtfleephpcomimaaSLibD
import Derived.Test.YtfleephpcomimaaSLibE
import Derived.Test.YtfleephpcomimaaSets
set_option linter.unusedVariables false
set_option linter.unusedSimpArgs false
namespace Go.Proofs.Ytfleephpcomimaa.Pure
open Go.RowKit Go.Proofs.YtfleephpcomimaaW.PrintWords Go.Proofs.YtfleephpcomimaaW.PrintLast Go.Proofs.YtfleephpcomimaaW.PrintMore Go.Proofs.BelM Go.Proofs.Ytfleephpcomimaa.S Go.Proofs.Ytfleephpcomimaa.LS

theorem aft_no {t way : Int} {l ss : List Int} {k : Nat} (hk : 1 ≤ k) : laws_FnAfterAll.j0 k t l way ss [] false false = some true := by
  obtain ⟨k, rfl⟩ : ∃ m, k = m + 1 := ⟨k - 1, by omega⟩
  simp only [laws_FnAfterAll.j0]
  rw [if_neg (by decide), if_neg (by decide), if_pos (by rfl), alive_eq]
  rfl
open Classical in
/-- The last one. -/
theorem aft_last {t way : Int} {l ss x : List Int} (hr : RankP t l) (hway : way = 0 ∨ way = 1) (h8 : ss.length ≤ 9) (hx : afterL t way (tidyL l) ss = some x) {k : Nat} (hk : 20 ≤ k) : laws_FnAfterAll.j1 (k + 1) t way ss x false = some true := by
  have hr0 : RankP t (tidyL l) := rankP_tidy hr.1 hr.2.1 hr.nonneg
  have hi0 : tidyL (tidyL l) = tidyL l := tidyL_idem hr.nonneg
  obtain ⟨hrx, hix, hall⟩ := after_props ss _ x hr0 hi0 hx
  simp only [laws_FnAfterAll.j1]
  rw [if_neg (by decide), impl_CoreOf_eq _ _ (by omega), if_pos hrx]
  simp only [Option.bind_some]
  obtain hn0 | ⟨j, hj⟩ : ss.length = 0 ∨ ∃ j, ss.length = j + 1 := by
    cases hc : ss.length with
    | zero => exact .inl rfl
    | succ j => exact .inr ⟨j, rfl⟩
  · have hw0 : wrap64 ((ss.length : Int) - 1) = -1 := by rw [w64 (by omega) (by omega)]; omega
    rw [hw0, if_neg (by decide), if_pos (by decide)]
  · have hw1 : wrap64 ((ss.length : Int) - 1) = (j : Int) := by rw [w64 (by omega) (by omega)]; omega
    obtain ⟨y, hy, hs, hne, hxy⟩ := after_last hj hx
    obtain ⟨hry, _, _⟩ := after_props _ _ y hr0 hi0 hy
    have hcore : coreS t x = rev (2 ^ t.toNat) (rk y) (rk ss j) := by
      rw [hxy]
      exact core_changed ⟨hry, hs, hne, hway⟩
    have hin : laws_within.f k (coreS t x) (rd ss (j : Int)) = some true := by
      rw [hcore]
      show laws_within.f k _ (rk ss j) = _
      rw [within_eq (rev_nonneg _ _ _) hs.2.1 (by omega), rev_within hs]
    rw [hw1]
    generalize hcz : coreS t x = cz at hin hcore ⊢
    by_cases hj1 : (j : Int) ≥ 1
    · rw [if_pos hj1]
      by_cases hway1 : way = 1
      · obtain ⟨i, hi⟩ : ∃ i, j = i + 1 := ⟨j - 1, by omega⟩
        have hw2 : wrap64 ((j : Int) - 1) = (i : Int) := by rw [w64 (by omega) (by omega)]; omega
        rw [if_pos hway1, if_pos (by omega), if_pos (by omega), hw2, if_pos (by omega), if_pos (by omega)]
        have htl : (ss.take j).length = i + 1 := by rw [List.length_take]; omega
        obtain ⟨y2, hy2, hs2, hne2, hyy⟩ := after_last htl hy
        obtain ⟨hry2, _, _⟩ := after_props _ _ y2 hr0 hi0 hy2
        have e1 : rk (ss.take j) i = rk ss i := by
          rw [rk_eq, rk_eq, List.getD_eq_getElem?_getD, List.getD_eq_getElem?_getD, List.getElem?_take, if_pos (by omega)]
        rw [e1] at hs2 hne2 hyy
        have hb : laws_both.f k (rd ss (j : Int)) (rd ss (i : Int)) = some (andS (rk ss j) (rk ss i)) := both_eq hs.2.1 hs2.2.1 (by omega)
        rw [hb]
        simp only [Option.bind_some]
        by_cases h0 : andS (rk ss j) (rk ss i) = 0
        · rw [if_pos h0, if_neg (by omega), hin]
          rfl
        · have hlt := last_two hry2 hs2 hs h0
          rw [hway1] at hyy
          rw [← hyy, ← hcore] at hlt
          rw [if_neg h0, within_eq (by rw [hcore]; exact rev_nonneg _ _ _) (andS_nonneg _ _) (by omega)]
          simp only [Option.bind_some]
          rw [if_pos hlt, if_neg (by omega), hin]
          rfl
      · rw [if_neg hway1, if_neg (by omega), if_pos (by omega), if_pos (by omega), hin]
        rfl
    · rw [if_neg hj1, if_neg (by omega), if_pos (by omega), if_pos (by omega), hin]
      rfl
open Classical in
/-- What was done. -/
theorem aft_yes {t way : Int} {l ss x : List Int} (hA : AftP t l way ss) (hx : afterL t way (tidyL l) ss = some x) {k : Nat} (hk : 1002 ≤ k) : laws_FnAfterAll.j0 k t l way ss x true false = some true := by
  obtain ⟨k, rfl⟩ : ∃ m, k = m + 2 := ⟨k - 2, by omega⟩
  have hr := hA.1
  have hr0 : RankP t (tidyL l) := rankP_tidy hr.1 hr.2.1 hr.nonneg
  have hi0 : tidyL (tidyL l) = tidyL l := tidyL_idem hr.nonneg
  obtain ⟨hrx, hix, hall⟩ := after_props ss _ x hr0 hi0 hx
  have hx8 := hrx.len
  have h8 := hA.2.2
  have hw : wrap64 ((ss.length : Int) / 2) = ((ss.length / 2 : Nat) : Int) := by rw [w64 (by omega) (by omega)]; omega
  have happ := after_append (t := t) (way := way) (ss.take (ss.length / 2)) (ss.drop (ss.length / 2)) (tidyL l)
  rw [List.take_append_drop, hx] at happ
  obtain ⟨mid, hmid, hend⟩ := Option.bind_eq_some_iff.mp happ.symm
  obtain ⟨hrm, him, _⟩ := after_props _ _ mid hr0 hi0 hmid
  have hA1 : AftP t l way (ss.take (ss.length / 2)) := ⟨hr, hA.2.1, by rw [List.length_take]; omega⟩
  have hA2 : AftP t mid way (ss.drop (ss.length / 2)) := ⟨hrm, hA.2.1, by rw [List.length_drop]; omega⟩
  have e1 : impl_AfterAll.f (k + 1) t l way (ss.take (ss.length / 2)) = some (mid, true) := by
    rw [impl_AfterAll_eq _ _ _ _ (by omega), if_pos hA1, hmid]
    rfl
  have e2 : impl_AfterAll.f (k + 1) t mid way (ss.drop (ss.length / 2)) = some (x, true) := by
    rw [impl_AfterAll_eq _ _ _ _ (by omega), if_pos hA2, him, hend]
    rfl
  simp only [laws_FnAfterAll.j0]
  rw [if_neg (by decide), if_pos trivial, hw, if_pos (by omega), if_pos (by omega), Int.toNat_natCast, e1]
  simp only [Option.bind_some]
  rw [e2]
  simp only [Option.bind_some]
  rw [if_pos trivial, if_pos trivial, same_self (by omega) (by omega)]
  simp only [Option.bind_some]
  exact aft_last hr hA.2.1 (by omega) hx (by omega)
open Classical in
/-- Both answers are the same. -/
theorem aft_same {t way : Int} {l ss : List Int} {k : Nat} (hk : 1002 ≤ k) {z : List Int × Bool} (hz : (if AftP t l way ss then told (afterL t way (tidyL l) ss) else ([], false)) = z) :
    z.1.length ≤ 8 ∧ laws_FnAfterAll.j0 k t l way ss z.1 z.2 false = some true := by
  by_cases hA : AftP t l way ss
  · rw [if_pos hA] at hz
    cases hx : afterL t way (tidyL l) ss with
    | none =>
      rw [hx] at hz
      obtain rfl : ([], false) = z := hz
      exact ⟨Nat.zero_le _, aft_no (by omega)⟩
    | some x =>
      rw [hx] at hz
      obtain rfl : (x, true) = z := hz
      have hr := hA.1
      obtain ⟨hrx, _, _⟩ := after_props ss _ x (rankP_tidy hr.1 hr.2.1 hr.nonneg) (tidyL_idem hr.nonneg) hx
      exact ⟨hrx.len, aft_yes hA hx hk⟩
  · rw [if_neg hA] at hz
    obtain rfl : ([], false) = z := hz
    exact ⟨Nat.zero_le _, aft_no (by omega)⟩
open Classical in
theorem FnAfterAll : laws_FnAfterAll.Pure := by
  intro l0 h1 h2 h3
  obtain ⟨m, hm⟩ : ∃ m, m = 3000 := ⟨_, rfl⟩
  refine ⟨m, ?_⟩
  unfold laws_FnAfterAll.f
  by_cases hl : (l0.length : Int) > 1048576
  · rw [if_pos hl]
  rw [if_neg hl]
  obtain ⟨t, l, way, ss, e, hn, hss⟩ := drawAfter_ok h3 (k := m) (by omega)
  rw [e]
  simp only [Option.bind_some]
  rw [impl_AfterAll_eq _ _ _ _ (by omega), spec_AfterAll_eq _ _ _ _ (by omega) (by omega)]
  obtain ⟨z, hz⟩ : ∃ z, (if AftP t l way ss then told (afterL t way (tidyL l) ss) else ([], false)) = z := ⟨_, rfl⟩
  obtain ⟨h8, hj⟩ := aft_same (k := m) (by omega) hz
  rw [hz]
  simp only [Option.bind_some]
  rw [same_self (by omega) (by omega)]
  simp only [Option.bind_some]
  rw [if_pos trivial, bne_self_eq_false]
  exact hj

end Go.Proofs.Ytfleephpcomimaa.Pure

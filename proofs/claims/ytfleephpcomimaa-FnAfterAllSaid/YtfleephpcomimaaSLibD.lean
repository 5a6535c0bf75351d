/- Plain facts about what the printed functions answer (several pieces in one text). Conditions: those of each theorem. -/
import Derived.Test.YtfleephpcomimaaS13
import Derived.Test.YtfleephpcomimaaSLibA
import Derived.Test.YtfleephpcomimaaSLibB
import Derived.Test.YtfleephpcomimaaSets
set_option linter.unusedVariables false
set_option linter.unusedSimpArgs false
namespace Go.Proofs.Ytfleephpcomimaa.LS
open Go.RowKit Go.Proofs.YtfleephpcomimaaW.PrintWords Go.Proofs.YtfleephpcomimaaW.PrintLast Go.Proofs.YtfleephpcomimaaW.PrintMore Go.Proofs.BelM Go.Proofs.Ytfleephpcomimaa.S
/-! #### FCore2 -/
/-- The worlds of rank 0. -/
def coreS (t : Int) (l : List Int) : Int := mk (fun w => decide (rk l w = 0)) (2 ^ t.toNat)
open Classical in
theorem impl_CoreOf_eq (t : Int) (l : List Int) {k : Nat} (hk : 1 ≤ k) : impl_CoreOf.f k t l = some (if RankP t l then coreS t l else -1) := by
  unfold impl_CoreOf.f
  rw [isRank_eq _ _ hk]
  simp only [Option.bind_some]
  by_cases h : RankP t l
  · rw [if_pos (by simp [h]), if_pos h]
    unfold impl_coreOf.f
    rw [if_pos ⟨h.1, h.2.1⟩]
    rfl
  · rw [if_neg (by simp [h]), if_neg h]
/-! #### GLaws -/
section
variable {t way s : Int} {l : List Int}
theorem front_sub (hr : RankP t l) (hs : SetP t s) {w : Nat} (hw : w < 2 ^ t.toNat) (h : mem (frontS t l way s) w = true) : mem s w = true := by
  unfold frontS at h
  by_cases h0 : way = 0
  · rw [if_pos h0, mem_rev hw, Bool.and_eq_true] at h
    exact h.1
  · rw [if_neg h0] at h
    exact h
theorem front_has (hr : RankP t l) (hs : SetP t s) {w : Nat} (hw : w < 2 ^ t.toNat) (h : mem s w = true) (hl : rk l w = least 10 (rk l) (mem s) (2 ^ t.toNat)) : mem (frontS t l way s) w = true := by
  unfold frontS
  by_cases h0 : way = 0
  · rw [if_pos h0, mem_rev hw, h, decide_eq_true hl]; rfl
  · rw [if_neg h0]; exact h
theorem front_lt (hr : RankP t l) (hs : SetP t s) {v w : Nat} (hv : v < 2 ^ t.toNat) (hw : w < 2 ^ t.toNat) (h1 : mem (frontS t l way s) v = true) (h2 : ¬ mem (frontS t l way s) w = true) (h3 : mem s w = true) : rk l v < rk l w := by
  unfold frontS at h1 h2
  by_cases h0 : way = 0
  · rw [if_pos h0, mem_rev hv, Bool.and_eq_true, decide_eq_true_eq] at h1
    rw [if_pos h0, mem_rev hw, h3, Bool.true_and, decide_eq_true_eq] at h2
    have := least_le 10 (rk l) (mem s) (2 ^ t.toNat) w hw h3
    omega
  · rw [if_neg h0] at h2
    exact absurd h3 h2
theorem changed_lt (hr : RankP t l) (hs : SetP t s) {v w : Nat} (hv : v < 2 ^ t.toNat) (hw : w < 2 ^ t.toNat) :
    rk (changedL t l way s) v < rk (changedL t l way s) w ↔ rk (riseL l (frontS t l way s)) v < rk (riseL l (frontS t l way s)) w :=
  tidyL_lt (riseL_nonneg hr.nonneg) (by rw [riseL_len, hr.2.1]; exact hv) (by rw [riseL_len, hr.2.1]; exact hw)
theorem rise_at (hr : RankP t l) {v : Nat} (hv : v < 2 ^ t.toNat) (F : Int) : rk (riseL l F) v = if mem F v = true then rk l v else rk l v + 10 := riseL_rk (by rw [hr.2.1]; exact hv)
/-- What is believed afterwards is what revision says. -/
theorem core_changed (h : ChgP t l way s) : coreS t (changedL t l way s) = rev (2 ^ t.toNat) (rk l) s := by
  obtain ⟨hr, hs, hne, hw01⟩ := h
  unfold coreS rev
  refine mk_congr fun w hw => ?_
  rw [Bool.eq_iff_iff, decide_eq_true_eq, Bool.and_eq_true, decide_eq_true_eq]
  have hz := tidyL_zero (l := riseL l (frontS t l way s)) (riseL_nonneg hr.nonneg) (w := w) (by rw [riseL_len, hr.2.1]; exact hw)
  show rk (tidyL (riseL l (frontS t l way s))) w = 0 ↔ _
  rw [hz, riseL_len, hr.2.1]
  obtain ⟨w0, hw0, hm0⟩ := exists_mem hs.2.1 hs.2.2 hne
  obtain ⟨u, hu, hmu, hru⟩ := least_attained (c := 10) (r := rk l) (p := mem s) (n := 2 ^ t.toNat) ⟨w0, hw0, hm0, by have := hr.hi hw0; omega⟩
  have hfu : mem (frontS t l way s) u = true := front_has hr hs hu hmu hru
  have hu9 := hr.hi hu
  constructor
  · intro h
    have h1 := h u hu
    rw [rise_at hr hw, rise_at hr hu, if_pos hfu] at h1
    have hfw : mem (frontS t l way s) w = true := by
      cases hc : mem (frontS t l way s) w
      · rw [hc, if_neg (by decide)] at h1
        have := hr.lo hw
        omega
      · rfl
    rw [if_pos hfw] at h1
    have hsw := front_sub hr hs hw hfw
    have := least_le 10 (rk l) (mem s) (2 ^ t.toNat) w hw hsw
    exact ⟨hsw, by omega⟩
  · rintro ⟨h1, h2⟩ v hv
    rw [rise_at hr hw, rise_at hr hv, if_pos (front_has hr hs hw h1 h2)]
    by_cases hfv : mem (frontS t l way s) v = true
    · rw [if_pos hfv]
      have := least_le 10 (rk l) (mem s) (2 ^ t.toNat) v hv (front_sub hr hs hv hfv)
      omega
    · rw [if_neg hfv]
      have := hr.lo hv
      have := hr.hi hw
      omega
theorem changed_idem (hr : RankP t l) : tidyL (changedL t l way s) = changedL t l way s := tidyL_idem (riseL_nonneg hr.nonneg)
end
/-! #### GAfter -/
open Classical in
theorem after_append {t way : Int} : ∀ (a b now : List Int), afterL t way now (a ++ b) = (afterL t way now a).bind fun m => afterL t way m b
  | [], b, now => rfl
  | s :: a, b, now => by
    simp only [List.cons_append, afterL]
    by_cases hs : SetP t s ∧ s ≠ 0
    · rw [if_pos hs, if_pos hs, after_append a b]
    · rw [if_neg hs, if_neg hs]
      rfl
open Classical in
theorem after_props {t way : Int} : ∀ (ss now x : List Int), RankP t now → tidyL now = now → afterL t way now ss = some x → RankP t x ∧ tidyL x = x ∧ ∀ s ∈ ss, SetP t s ∧ s ≠ 0
  | [], now, x, hr, hi, h => by
    simp only [afterL] at h
    obtain rfl := Option.some.inj h
    exact ⟨hr, hi, fun s hs => absurd hs (by simp)⟩
  | s :: ss, now, x, hr, hi, h => by
    simp only [afterL] at h
    by_cases hs : SetP t s ∧ s ≠ 0
    · rw [if_pos hs] at h
      obtain ⟨h1, h2, h3⟩ := after_props ss _ x (rankP_changed hr) (changed_idem hr) h
      exact ⟨h1, h2, fun u hu => (List.mem_cons.1 hu).elim (fun e => e ▸ hs) (h3 u)⟩
    · rw [if_neg hs] at h
      exact absurd h (by simp)
theorem split_last {ss : List Int} {m : Nat} (h : ss.length = m + 1) : ss.take m ++ [rk ss m] = ss := by
  rw [rk_get (show m < ss.length by omega), ← List.take_succ_eq_append_getElem (by omega), ← h, List.take_length]
open Classical in
theorem after_last {t way : Int} {ss now x : List Int} {m : Nat} (h : ss.length = m + 1) (hx : afterL t way now ss = some x) : ∃ y, afterL t way now (ss.take m) = some y ∧ SetP t (rk ss m) ∧ rk ss m ≠ 0 ∧ x = changedL t y way (rk ss m) := by
  have e := after_append (t := t) (way := way) (ss.take m) [rk ss m] now
  rw [split_last h, hx] at e
  obtain ⟨y, hy, h2⟩ := Option.bind_eq_some_iff.mp e.symm
  simp only [afterL] at h2
  by_cases hs : SetP t (rk ss m) ∧ rk ss m ≠ 0
  · rw [if_pos hs] at h2
    exact ⟨y, hy, hs.1, hs.2, (Option.some.inj h2).symm⟩
  · rw [if_neg hs] at h2
    exact absurd h2 (by simp)
theorem rev_within {t : Int} {y : List Int} {s : Int} (hs : SetP t s) : (andS (rev (2 ^ t.toNat) (rk y) s) s == rev (2 ^ t.toNat) (rk y) s) = true := by
  rw [beq_iff_eq, andS_self (worlds_le hs.1) (rev_nonneg _ _ _) (rev_lt _ _ _)]
  intro w hw hm
  rw [mem_rev hw, Bool.and_eq_true] at hm
  exact hm.1
/-- By WayAll, what the last two have in common is believed. -/
theorem last_two {t : Int} {y : List Int} {s1 s2 : Int} (hr : RankP t y) (h1 : SetP t s1) (h2 : SetP t s2) (hne : andS s2 s1 ≠ 0) :
    (andS (rev (2 ^ t.toNat) (rk (changedL t y 1 s1)) s2) (andS s2 s1) == rev (2 ^ t.toNat) (rk (changedL t y 1 s1)) s2) = true := by
  have h8 := worlds_le h1.1
  have hlt : andS s2 s1 < 2 ^ 2 ^ t.toNat := by
    rw [andS_eq h8 h2.2.1 h2.2.2]
    exact mk_lt _ _
  rw [beq_iff_eq, andS_self h8 (rev_nonneg _ _ _) (rev_lt _ _ _)]
  intro w hw hm
  rw [mem_rev hw, Bool.and_eq_true, decide_eq_true_eq] at hm
  rw [mem_andS h2.2.1 h2.lt8, hm.1, Bool.true_and]
  obtain ⟨u, hu, hmu⟩ := exists_mem (andS_nonneg _ _) hlt hne
  rw [mem_andS h2.2.1 h2.lt8, Bool.and_eq_true] at hmu
  have hle := least_le 10 (rk (changedL t y 1 s1)) (mem s2) (2 ^ t.toNat) u hu hmu.1
  cases hc : mem s1 w
  · exfalso
    have hf : frontS t y 1 s1 = s1 := by unfold frontS; rw [if_neg (by decide)]
    have hx := (changed_lt (way := 1) hr h1 hu hw).2 (by
      rw [hf, rise_at hr hu, rise_at hr hw, if_pos hmu.2, if_neg (by rw [hc]; decide)]
      have := hr.hi hu
      have := hr.lo hw
      omega)
    omega
  · rfl
end Go.Proofs.Ytfleephpcomimaa.LS

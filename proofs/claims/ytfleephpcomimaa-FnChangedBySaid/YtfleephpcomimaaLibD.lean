/- Plain facts about what the printed functions answer (several pieces in one text). Conditions: those of each theorem. -/
import Derived.Test.YtfleephpcomimaaP21
import Derived.Test.YtfleephpcomimaaP22
import Derived.Test.YtfleephpcomimaaP23
import Derived.Test.YtfleephpcomimaaLibA
import Derived.Test.YtfleephpcomimaaLibB
import Derived.Test.YtfleephpcomimaaSets
set_option linter.unusedVariables false
set_option linter.unusedSimpArgs false
namespace Go.Proofs.Ytfleephpcomimaa.L
open Go.RowKit Go.Proofs.YtfleephpcomimaaW.PrintWords Go.Proofs.YtfleephpcomimaaW.PrintLast Go.Proofs.YtfleephpcomimaaW.PrintMore Go.Proofs.BelM Go.Proofs.Ytfleephpcomimaa.P
/-! #### FCore2 -/
/-- The worlds of rank 0. -/
def coreS (t : Int) (l : List Int) : Int := mk (fun w => decide (rk l w = 0)) (2 ^ t.toNat)
open Classical in
theorem impl_CoreOf_eq (t : Int) (l : List Int) {k : Nat} (hk : 1 ≤ k) : impl_CoreOf.f k t l = some (if RankP t l then coreS t l else -1) := by
  unfold impl_CoreOf.f
  rw [isRank_eq _ _ hk]
  simp only [Option.bind_some]
  by_cases h : RankP t l
  · rw [if_pos (by simp [h]), if_pos h]
    unfold impl_coreOf.f
    rw [if_pos ⟨h.1, h.2.1⟩]
    rfl
  · rw [if_neg (by simp [h]), if_neg h]
open Classical in
theorem impl_RevisedBy_eq (t : Int) (l : List Int) (s : Int) {k : Nat} (hk : 20 ≤ k) : impl_RevisedBy.f k t l s = some (if RankP t l ∧ SetP t s then rev (2 ^ t.toNat) (rk l) s else -1) := by
  unfold impl_RevisedBy.f
  rw [isRank_eq _ _ (by omega), isSet_eq]
  simp only [Option.bind_some]
  by_cases h : RankP t l
  · rw [if_pos (by simp [h])]
    by_cases hs : SetP t s
    · rw [if_pos (by simp [hs]), if_pos ⟨h, hs⟩, revisedBy_eq h.1 h.2.1 hs.2.1 hs.lt256 hk]
      rfl
    · rw [if_neg (by simp [hs]), if_neg (fun x => hs x.2)]
  · rw [if_neg (by simp [h]), if_neg (fun x => h x.1)]
/-! #### GLaws -/
section
variable {t way s : Int} {l : List Int}
theorem front_sub (hr : RankP t l) (hs : SetP t s) {w : Nat} (hw : w < 2 ^ t.toNat) (h : mem (frontS t l way s) w = true) : mem s w = true := by
  unfold frontS at h
  by_cases h0 : way = 0
  · rw [if_pos h0, mem_rev hw, Bool.and_eq_true] at h
    exact h.1
  · rw [if_neg h0] at h
    exact h
theorem front_has (hr : RankP t l) (hs : SetP t s) {w : Nat} (hw : w < 2 ^ t.toNat) (h : mem s w = true) (hl : rk l w = least 10 (rk l) (mem s) (2 ^ t.toNat)) : mem (frontS t l way s) w = true := by
  unfold frontS
  by_cases h0 : way = 0
  · rw [if_pos h0, mem_rev hw, h, decide_eq_true hl]; rfl
  · rw [if_neg h0]; exact h
theorem front_lt (hr : RankP t l) (hs : SetP t s) {v w : Nat} (hv : v < 2 ^ t.toNat) (hw : w < 2 ^ t.toNat) (h1 : mem (frontS t l way s) v = true) (h2 : ¬ mem (frontS t l way s) w = true) (h3 : mem s w = true) : rk l v < rk l w := by
  unfold frontS at h1 h2
  by_cases h0 : way = 0
  · rw [if_pos h0, mem_rev hv, Bool.and_eq_true, decide_eq_true_eq] at h1
    rw [if_pos h0, mem_rev hw, h3, Bool.true_and, decide_eq_true_eq] at h2
    have := least_le 10 (rk l) (mem s) (2 ^ t.toNat) w hw h3
    omega
  · rw [if_neg h0] at h2
    exact absurd h3 h2
theorem changed_lt (hr : RankP t l) (hs : SetP t s) {v w : Nat} (hv : v < 2 ^ t.toNat) (hw : w < 2 ^ t.toNat) :
    rk (changedL t l way s) v < rk (changedL t l way s) w ↔ rk (riseL l (frontS t l way s)) v < rk (riseL l (frontS t l way s)) w :=
  tidyL_lt (riseL_nonneg hr.nonneg) (by rw [riseL_len, hr.2.1]; exact hv) (by rw [riseL_len, hr.2.1]; exact hw)
theorem rise_at (hr : RankP t l) {v : Nat} (hv : v < 2 ^ t.toNat) (F : Int) : rk (riseL l F) v = if mem F v = true then rk l v else rk l v + 10 := riseL_rk (by rw [hr.2.1]; exact hv)
/-- What is believed afterwards is what revision says. -/
theorem core_changed (h : ChgP t l way s) : coreS t (changedL t l way s) = rev (2 ^ t.toNat) (rk l) s := by
  obtain ⟨hr, hs, hne, hw01⟩ := h
  unfold coreS rev
  refine mk_congr fun w hw => ?_
  rw [Bool.eq_iff_iff, decide_eq_true_eq, Bool.and_eq_true, decide_eq_true_eq]
  have hz := tidyL_zero (l := riseL l (frontS t l way s)) (riseL_nonneg hr.nonneg) (w := w) (by rw [riseL_len, hr.2.1]; exact hw)
  show rk (tidyL (riseL l (frontS t l way s))) w = 0 ↔ _
  rw [hz, riseL_len, hr.2.1]
  obtain ⟨w0, hw0, hm0⟩ := exists_mem hs.2.1 hs.2.2 hne
  obtain ⟨u, hu, hmu, hru⟩ := least_attained (c := 10) (r := rk l) (p := mem s) (n := 2 ^ t.toNat) ⟨w0, hw0, hm0, by have := hr.hi hw0; omega⟩
  have hfu : mem (frontS t l way s) u = true := front_has hr hs hu hmu hru
  have hu9 := hr.hi hu
  constructor
  · intro h
    have h1 := h u hu
    rw [rise_at hr hw, rise_at hr hu, if_pos hfu] at h1
    have hfw : mem (frontS t l way s) w = true := by
      cases hc : mem (frontS t l way s) w
      · rw [hc, if_neg (by decide)] at h1
        have := hr.lo hw
        omega
      · rfl
    rw [if_pos hfw] at h1
    have hsw := front_sub hr hs hw hfw
    have := least_le 10 (rk l) (mem s) (2 ^ t.toNat) w hw hsw
    exact ⟨hsw, by omega⟩
  · rintro ⟨h1, h2⟩ v hv
    rw [rise_at hr hw, rise_at hr hv, if_pos (front_has hr hs hw h1 h2)]
    by_cases hfv : mem (frontS t l way s) v = true
    · rw [if_pos hfv]
      have := least_le 10 (rk l) (mem s) (2 ^ t.toNat) v hv (front_sub hr hs hv hfv)
      omega
    · rw [if_neg hfv]
      have := hr.lo hv
      have := hr.hi hw
      omega
theorem changed_idem (hr : RankP t l) : tidyL (changedL t l way s) = changedL t l way s := tidyL_idem (riseL_nonneg hr.nonneg)
end
/-! #### FHolds -/
/-- A rule for two worlds. -/
def ruleB (rule : Int) (b a : List Int) (s : Int) (v w : Nat) : Bool :=
  if rule = 1 then !mem s v || !mem s w || (decide (rk b v < rk b w) == decide (rk a v < rk a w))
  else if rule = 2 then mem s v || mem s w || (decide (rk b v < rk b w) == decide (rk a v < rk a w))
  else if rule = 3 then !mem s v || mem s w || !decide (rk b v < rk b w) || decide (rk a v < rk a w)
  else !mem s v || mem s w || decide (rk b w < rk b v) || decide (rk a v ≤ rk a w)
theorem ruleFor_eq {rule : Int} {b a : List Int} {s : Int} {v w : Nat} (hs : 0 ≤ s) (hs' : s < 256) (hv : v < b.length) (hw : w < b.length) (hv' : v < a.length) (hw' : w < a.length) (h8 : b.length ≤ 8) :
    impl_ruleFor.f rule b a s v w = some (ruleB rule b a s v w) := by
  unfold impl_ruleFor.f
  rw [if_pos (by omega), if_pos (by omega), if_pos (by omega), if_pos (by omega), if_pos (by omega), if_pos (by omega), and_bit hs hs' (by omega), and_bit hs hs' (by omega)]
  unfold ruleB
  have d1 : ∀ x : Nat, rd b (x : Int) = rk b x := fun _ => rfl
  have d2 : ∀ x : Nat, rd a (x : Int) = rk a x := fun _ => rfl
  simp only [d1, d2]
  by_cases r1 : rule = 1
  · subst r1
    cases mem s v <;> cases mem s w <;> simp
  · by_cases r2 : rule = 2
    · subst r2
      cases mem s v <;> cases mem s w <;> simp
    · by_cases r3 : rule = 3
      · subst r3
        cases mem s v <;> cases mem s w <;> simp
        by_cases h : rk b v < rk b w
        · simp [h]
        · simp [h]
      · rw [if_neg r1, if_neg r2, if_neg r3, if_neg r1, if_neg r2, if_neg r3]
        cases mem s v <;> cases mem s w <;> simp
        by_cases h : rk b w < rk b v
        · simp [h]
        · simp [h]
def holdsP (rule : Int) (b a : List Int) (s : Int) : Prop := ∀ v, v < b.length → ∀ w, w < b.length → ruleB rule b a s v w = true
open Classical in
/-- One more of a run of questions. -/
theorem run_step {p : Nat → Bool} {n j : Nat} {R : Bool} (hj : j < n) (hp : p j = true) : (decide (∀ w, j + 1 ≤ w → w < n → p w = true) && R) = (decide (∀ w, j ≤ w → w < n → p w = true) && R) := by
  congr 1
  apply decide_eq_decide.mpr
  constructor
  · intro h w h1 h2
    by_cases e : w = j
    · rw [e]; exact hp
    · exact h w (by omega) h2
  · intro h w h1 h2
    exact h w (by omega) h2
open Classical in
theorem run_stop {p : Nat → Bool} {n j : Nat} {R : Bool} (hj : j < n) (hp : ¬ p j = true) : false = (decide (∀ w, j ≤ w → w < n → p w = true) && R) := by
  symm
  rw [Bool.and_eq_false_iff]
  exact .inl (decide_eq_false (fun h => hp (h j (by omega) hj)))
open Classical in
theorem run_end {p : Nat → Bool} {n j : Nat} {R : Bool} (hj : n ≤ j) : R = (decide (∀ w, j ≤ w → w < n → p w = true) && R) := by
  rw [decide_eq_true (fun w h1 h2 => by omega), Bool.true_and]
open Classical in
theorem impl_holds1 {rule : Int} {b a : List Int} {s : Int} (hs : 0 ≤ s) (hs' : s < 256) (hab : a.length = b.length) (h8 : b.length ≤ 8) {v : Nat} (hv : v < b.length) {R : Bool} {K : Nat}
    (hc : ∀ k, K ≤ k → impl_RuleHolds.l0 k rule b a s (b.length : Int) ((v + 1 : Nat) : Int) = some R) : ∀ (d k j : Nat), j + d = b.length → d + K + 1 ≤ k →
    impl_RuleHolds.l1 k rule b a s v (b.length : Int) v (b.length : Int) j = some (decide (∀ w, j ≤ w → w < b.length → ruleB rule b a s v w = true) && R)
  | 0, k, j, hj, hk => by
    obtain ⟨k, rfl⟩ : ∃ m, k = m + 1 := ⟨k - 1, by omega⟩
    simp only [impl_RuleHolds.l1]
    rw [if_neg (by omega), w64s (by omega), hc k (by omega)]
    exact congrArg some (run_end (by omega))
  | d + 1, k, j, hj, hk => by
    obtain ⟨k, rfl⟩ : ∃ m, k = m + 1 := ⟨k - 1, by omega⟩
    simp only [impl_RuleHolds.l1]
    rw [if_pos (by omega), ruleFor_eq hs hs' hv (by omega) (by omega) (by omega) h8]
    simp only [Option.bind_some]
    by_cases hp : ruleB rule b a s v j = true
    · rw [if_pos hp, w64s (by omega), impl_holds1 hs hs' hab h8 hv hc d k (j + 1) (by omega) (by omega)]
      exact congrArg some (run_step (p := ruleB rule b a s v) (by omega) hp)
    · rw [if_neg hp]
      exact congrArg some (run_stop (p := ruleB rule b a s v) (by omega) hp)
open Classical in
theorem impl_holds0 {rule : Int} {b a : List Int} {s : Int} (hs : 0 ≤ s) (hs' : s < 256) (hab : a.length = b.length) (h8 : b.length ≤ 8) : ∀ (d k v : Nat), v + d = b.length → d * 12 + 1 ≤ k →
    impl_RuleHolds.l0 k rule b a s (b.length : Int) v = some (decide (∀ u, v ≤ u → u < b.length → ∀ w, w < b.length → ruleB rule b a s u w = true))
  | 0, k, v, hj, hk => by
    obtain ⟨k, rfl⟩ : ∃ m, k = m + 1 := ⟨k - 1, by omega⟩
    simp only [impl_RuleHolds.l0]
    rw [if_neg (by omega), decide_eq_true (fun u h1 h2 => by omega)]
  | d + 1, k, v, hj, hk => by
    obtain ⟨k, rfl⟩ : ∃ m, k = m + 1 := ⟨k - 1, by omega⟩
    simp only [impl_RuleHolds.l0]
    rw [if_pos (by omega)]
    have e := impl_holds1 (rule := rule) hs hs' hab h8 (v := v) (by omega) (K := d * 12 + 1) (fun k hk => impl_holds0 hs hs' hab h8 d k (v + 1) (by omega) hk) b.length k 0 (by omega) (by omega)
    rw [show ((0 : Nat) : Int) = 0 from rfl] at e
    rw [e]
    congr 1
    rw [Bool.eq_iff_iff, Bool.and_eq_true, decide_eq_true_eq, decide_eq_true_eq, decide_eq_true_eq]
    constructor
    · rintro ⟨h1, h2⟩ u hu hu'
      by_cases e : u = v
      · subst e; exact fun w hw => h1 w (by omega) hw
      · exact h2 u (by omega) hu'
    · intro h
      exact ⟨fun w _ hw => h v (by omega) (by omega) w hw, fun u hu hu' => h u (by omega) hu'⟩
open Classical in
theorem impl_RuleHolds_eq (t rule : Int) (b a : List Int) (s : Int) {k : Nat} (hk : 110 ≤ k) : impl_RuleHolds.f k t rule b a s = some (decide ((1 ≤ rule ∧ rule ≤ 4) ∧ RankP t b ∧ RankP t a ∧ SetP t s ∧ holdsP rule b a s)) := by
  obtain ⟨k, rfl⟩ : ∃ m, k = m + 1 := ⟨k - 1, by omega⟩
  have bad : ∀ {P : Prop} [Decidable P], (∀ x : P, False) → impl_RuleHolds.j0 (k + 1) rule b a s true = some (decide P) := fun h => by
    simp only [impl_RuleHolds.j0]
    rw [if_pos trivial]
    exact congrArg some (decide_eq_false h).symm
  unfold impl_RuleHolds.f
  by_cases h1 : rule < 1
  · rw [if_pos h1]; exact bad (fun x => by omega)
  · rw [if_neg h1]
    by_cases h4 : rule > 4
    · rw [if_pos h4]; exact bad (fun x => by omega)
    · rw [if_neg h4, isRank_eq _ _ (by omega), isRank_eq _ _ (by omega), isSet_eq]
      simp only [Option.bind_some]
      by_cases hb : RankP t b
      · rw [if_pos (by simp [hb])]
        by_cases ha : RankP t a
        · rw [if_pos (by simp [ha])]
          by_cases hs : SetP t s
          · rw [show (!decide (SetP t s)) = false by simp [hs]]
            simp only [impl_RuleHolds.j0]
            rw [if_neg (by decide)]
            have e := impl_holds0 (rule := rule) hs.2.1 hs.lt256 (by rw [ha.2.1, hb.2.1]) hb.len b.length k 0 (by omega) (by have := hb.len; omega)
            rw [show ((0 : Nat) : Int) = 0 from rfl] at e
            rw [e]
            congr 1
            apply decide_eq_decide.mpr
            exact ⟨fun h => ⟨by omega, hb, ha, hs, fun v hv w hw => h v (by omega) hv w hw⟩, fun h u _ hu w hw => h.2.2.2.2 u hu w hw⟩
          · rw [show (!decide (SetP t s)) = true by simp [hs]]
            exact bad (fun x => hs x.2.2.2.1)
        · rw [if_neg (by simp [ha])]
          exact bad (fun x => ha x.2.2.1)
      · rw [if_neg (by simp [hb])]
        exact bad (fun x => hb x.2.1)
/-! #### GHolds -/
theorem holds_changed {t way s rule : Int} {l : List Int} (h : ChgP t l way s) : holdsP rule l (changedL t l way s) s := by
  obtain ⟨hr, hs, hne, hw01⟩ := h
  intro v hv w hw
  rw [hr.2.1] at hv hw
  have hlt := changed_lt (way := way) hr hs hv hw
  have hlt2 := changed_lt (way := way) hr hs hw hv
  rw [rise_at hr hv, rise_at hr hw] at hlt hlt2
  unfold ruleB
  by_cases r1 : rule = 1
  · rw [if_pos r1]
    cases hmv : mem s v
    · rfl
    · cases hmw : mem s w
      · rfl
      · simp only [Bool.not_true, Bool.false_or]
        rw [beq_iff_eq]
        apply decide_eq_decide.mpr
        rw [hlt]
        by_cases f1 : mem (frontS t l way s) v = true
        · by_cases f2 : mem (frontS t l way s) w = true
          · rw [if_pos f1, if_pos f2]
          · have := front_lt hr hs hv hw f1 f2 hmw
            rw [if_pos f1, if_neg f2]
            omega
        · by_cases f2 : mem (frontS t l way s) w = true
          · have := front_lt hr hs hw hv f2 f1 hmv
            rw [if_neg f1, if_pos f2]
            omega
          · rw [if_neg f1, if_neg f2]
            omega
  · rw [if_neg r1]
    by_cases r2 : rule = 2
    · rw [if_pos r2]
      cases hmv : mem s v
      · cases hmw : mem s w
        · simp only [Bool.false_or]
          rw [beq_iff_eq]
          apply decide_eq_decide.mpr
          have f1 : ¬ mem (frontS t l way s) v = true := fun e => by have := front_sub hr hs hv e; rw [hmv] at this; exact absurd this (by decide)
          have f2 : ¬ mem (frontS t l way s) w = true := fun e => by have := front_sub hr hs hw e; rw [hmw] at this; exact absurd this (by decide)
          rw [hlt, if_neg f1, if_neg f2]
          omega
        · simp
      · simp
    · rw [if_neg r2]
      by_cases r3 : rule = 3
      · rw [if_pos r3]
        cases hmv : mem s v
        · rfl
        · cases hmw : mem s w
          · by_cases hb : rk l v < rk l w
            · have f2 : ¬ mem (frontS t l way s) w = true := fun e => by have := front_sub hr hs hw e; rw [hmw] at this; exact absurd this (by decide)
              have : rk (changedL t l way s) v < rk (changedL t l way s) w := by
                rw [hlt, if_neg f2]
                split <;> omega
              simp [hb, this]
            · simp [hb]
          · simp
      · rw [if_neg r3]
        cases hmv : mem s v
        · rfl
        · cases hmw : mem s w
          · by_cases hb : rk l w < rk l v
            · simp [hb]
            · have f2 : ¬ mem (frontS t l way s) w = true := fun e => by have := front_sub hr hs hw e; rw [hmw] at this; exact absurd this (by decide)
              have : rk (changedL t l way s) v ≤ rk (changedL t l way s) w := by
                refine Int.not_lt.1 fun hc => ?_
                rw [hlt2, if_neg f2] at hc
                split at hc <;> omega
              simp [this]
          · simp
end Go.Proofs.Ytfleephpcomimaa.L

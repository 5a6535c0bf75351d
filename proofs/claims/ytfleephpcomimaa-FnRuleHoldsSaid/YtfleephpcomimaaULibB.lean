/- Plain facts about what the printed functions answer (several pieces in one text). Conditions: those of each theorem. -/
import Derived.Test.YtfleephpcomimaaU3
import Derived.Test.YtfleephpcomimaaU4
import Derived.Test.YtfleephpcomimaaU16
import Derived.Test.YtfleephpcomimaaULibA
import Derived.Test.YtfleephpcomimaaSets
set_option linter.unusedVariables false
set_option linter.unusedSimpArgs false
namespace Go.Proofs.Ytfleephpcomimaa.LU
open Go.RowKit Go.Proofs.YtfleephpcomimaaW.PrintWords Go.Proofs.YtfleephpcomimaaW.PrintLast Go.Proofs.YtfleephpcomimaaW.PrintMore Go.Proofs.BelM Go.Proofs.Ytfleephpcomimaa.U
/-! #### FHolds -/
/-- A rule for two worlds. -/
def ruleB (rule : Int) (b a : List Int) (s : Int) (v w : Nat) : Bool :=
  if rule = 1 then !mem s v || !mem s w || (decide (rk b v < rk b w) == decide (rk a v < rk a w))
  else if rule = 2 then mem s v || mem s w || (decide (rk b v < rk b w) == decide (rk a v < rk a w))
  else if rule = 3 then !mem s v || mem s w || !decide (rk b v < rk b w) || decide (rk a v < rk a w)
  else !mem s v || mem s w || decide (rk b w < rk b v) || decide (rk a v ≤ rk a w)
theorem ruleFor_eq {rule : Int} {b a : List Int} {s : Int} {v w : Nat} (hs : 0 ≤ s) (hs' : s < 256) (hv : v < b.length) (hw : w < b.length) (hv' : v < a.length) (hw' : w < a.length) (h8 : b.length ≤ 8) :
    impl_ruleFor.f rule b a s v w = some (ruleB rule b a s v w) := by
  unfold impl_ruleFor.f
  rw [if_pos (by omega), if_pos (by omega), if_pos (by omega), if_pos (by omega), if_pos (by omega), if_pos (by omega), and_bit hs hs' (by omega), and_bit hs hs' (by omega)]
  unfold ruleB
  have d1 : ∀ x : Nat, rd b (x : Int) = rk b x := fun _ => rfl
  have d2 : ∀ x : Nat, rd a (x : Int) = rk a x := fun _ => rfl
  simp only [d1, d2]
  by_cases r1 : rule = 1
  · subst r1
    cases mem s v <;> cases mem s w <;> simp
  · by_cases r2 : rule = 2
    · subst r2
      cases mem s v <;> cases mem s w <;> simp
    · by_cases r3 : rule = 3
      · subst r3
        cases mem s v <;> cases mem s w <;> simp
        by_cases h : rk b v < rk b w
        · simp [h]
        · simp [h]
      · rw [if_neg r1, if_neg r2, if_neg r3, if_neg r1, if_neg r2, if_neg r3]
        cases mem s v <;> cases mem s w <;> simp
        by_cases h : rk b w < rk b v
        · simp [h]
        · simp [h]
def holdsP (rule : Int) (b a : List Int) (s : Int) : Prop := ∀ v, v < b.length → ∀ w, w < b.length → ruleB rule b a s v w = true
open Classical in
/-- One more of a run of questions. -/
theorem run_step {p : Nat → Bool} {n j : Nat} {R : Bool} (hj : j < n) (hp : p j = true) : (decide (∀ w, j + 1 ≤ w → w < n → p w = true) && R) = (decide (∀ w, j ≤ w → w < n → p w = true) && R) := by
  congr 1
  apply decide_eq_decide.mpr
  constructor
  · intro h w h1 h2
    by_cases e : w = j
    · rw [e]; exact hp
    · exact h w (by omega) h2
  · intro h w h1 h2
    exact h w (by omega) h2
open Classical in
theorem run_stop {p : Nat → Bool} {n j : Nat} {R : Bool} (hj : j < n) (hp : ¬ p j = true) : false = (decide (∀ w, j ≤ w → w < n → p w = true) && R) := by
  symm
  rw [Bool.and_eq_false_iff]
  exact .inl (decide_eq_false (fun h => hp (h j (by omega) hj)))
open Classical in
theorem run_end {p : Nat → Bool} {n j : Nat} {R : Bool} (hj : n ≤ j) : R = (decide (∀ w, j ≤ w → w < n → p w = true) && R) := by
  rw [decide_eq_true (fun w h1 h2 => by omega), Bool.true_and]
open Classical in
theorem impl_holds1 {rule : Int} {b a : List Int} {s : Int} (hs : 0 ≤ s) (hs' : s < 256) (hab : a.length = b.length) (h8 : b.length ≤ 8) {v : Nat} (hv : v < b.length) {R : Bool} {K : Nat}
    (hc : ∀ k, K ≤ k → impl_RuleHolds.l0 k rule b a s (b.length : Int) ((v + 1 : Nat) : Int) = some R) : ∀ (d k j : Nat), j + d = b.length → d + K + 1 ≤ k →
    impl_RuleHolds.l1 k rule b a s v (b.length : Int) v (b.length : Int) j = some (decide (∀ w, j ≤ w → w < b.length → ruleB rule b a s v w = true) && R)
  | 0, k, j, hj, hk => by
    obtain ⟨k, rfl⟩ : ∃ m, k = m + 1 := ⟨k - 1, by omega⟩
    simp only [impl_RuleHolds.l1]
    rw [if_neg (by omega), w64s (by omega), hc k (by omega)]
    exact congrArg some (run_end (by omega))
  | d + 1, k, j, hj, hk => by
    obtain ⟨k, rfl⟩ : ∃ m, k = m + 1 := ⟨k - 1, by omega⟩
    simp only [impl_RuleHolds.l1]
    rw [if_pos (by omega), ruleFor_eq hs hs' hv (by omega) (by omega) (by omega) h8]
    simp only [Option.bind_some]
    by_cases hp : ruleB rule b a s v j = true
    · rw [if_pos hp, w64s (by omega), impl_holds1 hs hs' hab h8 hv hc d k (j + 1) (by omega) (by omega)]
      exact congrArg some (run_step (p := ruleB rule b a s v) (by omega) hp)
    · rw [if_neg hp]
      exact congrArg some (run_stop (p := ruleB rule b a s v) (by omega) hp)
open Classical in
theorem impl_holds0 {rule : Int} {b a : List Int} {s : Int} (hs : 0 ≤ s) (hs' : s < 256) (hab : a.length = b.length) (h8 : b.length ≤ 8) : ∀ (d k v : Nat), v + d = b.length → d * 12 + 1 ≤ k →
    impl_RuleHolds.l0 k rule b a s (b.length : Int) v = some (decide (∀ u, v ≤ u → u < b.length → ∀ w, w < b.length → ruleB rule b a s u w = true))
  | 0, k, v, hj, hk => by
    obtain ⟨k, rfl⟩ : ∃ m, k = m + 1 := ⟨k - 1, by omega⟩
    simp only [impl_RuleHolds.l0]
    rw [if_neg (by omega), decide_eq_true (fun u h1 h2 => by omega)]
  | d + 1, k, v, hj, hk => by
    obtain ⟨k, rfl⟩ : ∃ m, k = m + 1 := ⟨k - 1, by omega⟩
    simp only [impl_RuleHolds.l0]
    rw [if_pos (by omega)]
    have e := impl_holds1 (rule := rule) hs hs' hab h8 (v := v) (by omega) (K := d * 12 + 1) (fun k hk => impl_holds0 hs hs' hab h8 d k (v + 1) (by omega) hk) b.length k 0 (by omega) (by omega)
    rw [show ((0 : Nat) : Int) = 0 from rfl] at e
    rw [e]
    congr 1
    rw [Bool.eq_iff_iff, Bool.and_eq_true, decide_eq_true_eq, decide_eq_true_eq, decide_eq_true_eq]
    constructor
    · rintro ⟨h1, h2⟩ u hu hu'
      by_cases e : u = v
      · subst e; exact fun w hw => h1 w (by omega) hw
      · exact h2 u (by omega) hu'
    · intro h
      exact ⟨fun w _ hw => h v (by omega) (by omega) w hw, fun u hu hu' => h u (by omega) hu'⟩
open Classical in
theorem impl_RuleHolds_eq (t rule : Int) (b a : List Int) (s : Int) {k : Nat} (hk : 110 ≤ k) : impl_RuleHolds.f k t rule b a s = some (decide ((1 ≤ rule ∧ rule ≤ 4) ∧ RankP t b ∧ RankP t a ∧ SetP t s ∧ holdsP rule b a s)) := by
  obtain ⟨k, rfl⟩ : ∃ m, k = m + 1 := ⟨k - 1, by omega⟩
  have bad : ∀ {P : Prop} [Decidable P], (∀ x : P, False) → impl_RuleHolds.j0 (k + 1) rule b a s true = some (decide P) := fun h => by
    simp only [impl_RuleHolds.j0]
    rw [if_pos trivial]
    exact congrArg some (decide_eq_false h).symm
  unfold impl_RuleHolds.f
  by_cases h1 : rule < 1
  · rw [if_pos h1]; exact bad (fun x => by omega)
  · rw [if_neg h1]
    by_cases h4 : rule > 4
    · rw [if_pos h4]; exact bad (fun x => by omega)
    · rw [if_neg h4, isRank_eq _ _ (by omega), isRank_eq _ _ (by omega), isSet_eq]
      simp only [Option.bind_some]
      by_cases hb : RankP t b
      · rw [if_pos (by simp [hb])]
        by_cases ha : RankP t a
        · rw [if_pos (by simp [ha])]
          by_cases hs : SetP t s
          · rw [show (!decide (SetP t s)) = false by simp [hs]]
            simp only [impl_RuleHolds.j0]
            rw [if_neg (by decide)]
            have e := impl_holds0 (rule := rule) hs.2.1 hs.lt256 (by rw [ha.2.1, hb.2.1]) hb.len b.length k 0 (by omega) (by have := hb.len; omega)
            rw [show ((0 : Nat) : Int) = 0 from rfl] at e
            rw [e]
            congr 1
            apply decide_eq_decide.mpr
            exact ⟨fun h => ⟨by omega, hb, ha, hs, fun v hv w hw => h v (by omega) hv w hw⟩, fun h u _ hu w hw => h.2.2.2.2 u hu w hw⟩
          · rw [show (!decide (SetP t s)) = true by simp [hs]]
            exact bad (fun x => hs x.2.2.2.1)
        · rw [if_neg (by simp [ha])]
          exact bad (fun x => ha x.2.2.1)
      · rw [if_neg (by simp [hb])]
        exact bad (fun x => hb x.2.1)
theorem spec_hold_step {rule : Int} {b a : List Int} {s : Int} (hr : 1 ≤ rule ∧ rule ≤ 4) (hs : 0 ≤ s) (hab : a.length = b.length) (h8 : b.length ≤ 8) {v w : Nat} (hv : v < b.length) (hw : w < b.length) (k : Nat) :
    spec_RuleHolds.l1 (k + 4) rule b a s v w = if ruleB rule b a s v w = true then spec_RuleHolds.l1 k rule b a s v ((w + 1 : Nat) : Int) else some false := by
  simp only [spec_RuleHolds.l1, spec_RuleHolds.j3, spec_RuleHolds.j4, spec_RuleHolds.j5]
  rw [if_pos (by omega), l1Bit_eq hs (by omega), l1Bit_eq hs (by omega)]
  simp only [Option.bind_some]
  have d1 : ∀ x : Nat, rd b (x : Int) = rk b x := fun _ => rfl
  have d2 : ∀ x : Nat, rd a (x : Int) = rk a x := fun _ => rfl
  have w1 : (0 : Int) ≤ (v : Int) := by omega
  have w2 : (0 : Int) ≤ (w : Int) := by omega
  have w3 : (v : Int) < (b.length : Int) := by omega
  have w4 : (w : Int) < (b.length : Int) := by omega
  have w5 : (v : Int) < (a.length : Int) := by omega
  have w6 : (w : Int) < (a.length : Int) := by omega
  simp only [d1, d2, w64s (show w ≤ 281474976710656 by omega), if_pos w1, if_pos w2, if_pos w3, if_pos w4, if_pos w5, if_pos w6]
  unfold ruleB
  obtain rfl | rfl | rfl | rfl : rule = 1 ∨ rule = 2 ∨ rule = 3 ∨ rule = 4 := by omega
  all_goals cases mem s v <;> cases mem s w <;> simp
  all_goals first | done | (by_cases h1 : rk b v < rk b w <;> by_cases h2 : rk a v < rk a w <;> simp [h1, h2] <;> first | done | (intro _; exfalso; omega) | (rw [if_pos (by omega), if_neg (by omega)])) | (by_cases h1 : rk b v ≤ rk b w <;> by_cases h2 : rk a w < rk a v <;> simp [h1, h2] <;> first | done | (intro _; exfalso; omega) | (rw [if_pos (by omega), if_neg (by omega)]))
open Classical in
theorem spec_holds1 {rule : Int} {b a : List Int} {s : Int} (hr : 1 ≤ rule ∧ rule ≤ 4) (hs : 0 ≤ s) (hab : a.length = b.length) (h8 : b.length ≤ 8) {v : Nat} (hv : v < b.length) {R : Bool} {K : Nat}
    (hc : ∀ k, K ≤ k → spec_RuleHolds.l0 k rule b a s ((v + 1 : Nat) : Int) = some R) : ∀ (d k j : Nat), j + d = b.length → d * 4 + K + 1 ≤ k →
    spec_RuleHolds.l1 k rule b a s v j = some (decide (∀ w, j ≤ w → w < b.length → ruleB rule b a s v w = true) && R)
  | 0, k, j, hj, hk => by
    obtain ⟨k, rfl⟩ : ∃ m, k = m + 1 := ⟨k - 1, by omega⟩
    simp only [spec_RuleHolds.l1]
    rw [if_neg (by omega), w64s (by omega), hc k (by omega)]
    exact congrArg some (run_end (by omega))
  | d + 1, k, j, hj, hk => by
    obtain ⟨k, rfl⟩ : ∃ m, k = m + 4 := ⟨k - 4, by omega⟩
    rw [spec_hold_step hr hs hab h8 hv (by omega)]
    by_cases hp : ruleB rule b a s v j = true
    · rw [if_pos hp, spec_holds1 hr hs hab h8 hv hc d k (j + 1) (by omega) (by omega)]
      exact congrArg some (run_step (p := ruleB rule b a s v) (by omega) hp)
    · rw [if_neg hp]
      exact congrArg some (run_stop (p := ruleB rule b a s v) (by omega) hp)
open Classical in
theorem spec_holds0 {rule : Int} {b a : List Int} {s : Int} (hr : 1 ≤ rule ∧ rule ≤ 4) (hs : 0 ≤ s) (hab : a.length = b.length) (h8 : b.length ≤ 8) : ∀ (d k v : Nat), v + d = b.length → d * 40 + 1 ≤ k →
    spec_RuleHolds.l0 k rule b a s v = some (decide (∀ u, v ≤ u → u < b.length → ∀ w, w < b.length → ruleB rule b a s u w = true))
  | 0, k, v, hj, hk => by
    obtain ⟨k, rfl⟩ : ∃ m, k = m + 1 := ⟨k - 1, by omega⟩
    simp only [spec_RuleHolds.l0]
    rw [if_neg (by omega), decide_eq_true (fun u h1 h2 => by omega)]
  | d + 1, k, v, hj, hk => by
    obtain ⟨k, rfl⟩ : ∃ m, k = m + 1 := ⟨k - 1, by omega⟩
    simp only [spec_RuleHolds.l0]
    rw [if_pos (by omega)]
    have e := spec_holds1 (rule := rule) hr hs hab h8 (v := v) (by omega) (K := d * 40 + 1) (fun k hk => spec_holds0 hr hs hab h8 d k (v + 1) (by omega) hk) b.length k 0 (by omega) (by omega)
    rw [show ((0 : Nat) : Int) = 0 from rfl] at e
    rw [e]
    congr 1
    rw [Bool.eq_iff_iff, Bool.and_eq_true, decide_eq_true_eq, decide_eq_true_eq, decide_eq_true_eq]
    constructor
    · rintro ⟨h1, h2⟩ u hu hu'
      by_cases e : u = v
      · subst e; exact fun w hw => h1 w (by omega) hw
      · exact h2 u (by omega) hu'
    · intro h
      exact ⟨fun w _ hw => h v (by omega) (by omega) w hw, fun u hu hu' => h u (by omega) hu'⟩
open Classical in
theorem spec_RuleHolds_eq (t rule : Int) (b a : List Int) (s : Int) (hlb : b.length ≤ 17592186044416) (hla : a.length ≤ 17592186044416) {k : Nat} (hk : 330 + b.length + a.length ≤ k) : spec_RuleHolds.f k t rule b a s = some (decide ((1 ≤ rule ∧ rule ≤ 4) ∧ RankP t b ∧ RankP t a ∧ SetP t s ∧ holdsP rule b a s)) := by
  obtain ⟨k, rfl⟩ : ∃ m, k = m + 1 := ⟨k - 1, by omega⟩
  have bad : ∀ {P : Prop} [Decidable P], (∀ x : P, False) → spec_RuleHolds.j0 (k + 1) rule b a s true = some (decide P) := fun h => by
    simp only [spec_RuleHolds.j0]
    rw [if_pos trivial]
    exact congrArg some (decide_eq_false h).symm
  unfold spec_RuleHolds.f
  rw [spec_RankOk_eq _ _ hlb (by omega), spec_RankOk_eq _ _ hla (by omega), SetOk_eq, l1In_eq]
  simp only [Option.bind_some]
  by_cases hb : RankP t b
  · rw [if_pos (by simp [hb])]
    by_cases ha : RankP t a
    · rw [if_pos (by simp [ha])]
      by_cases hs : SetP t s
      · rw [if_pos (by simp [hs])]
        by_cases hr : 1 ≤ rule ∧ rule ≤ 4
        · rw [show (!decide (1 ≤ rule ∧ rule ≤ 4)) = false by simp [hr]]
          simp only [spec_RuleHolds.j0]
          rw [if_neg (by decide)]
          have e := spec_holds0 (rule := rule) hr hs.2.1 (by rw [ha.2.1, hb.2.1]) hb.len b.length k 0 (by omega) (by have := hb.len; omega)
          rw [show ((0 : Nat) : Int) = 0 from rfl] at e
          rw [e]
          congr 1
          apply decide_eq_decide.mpr
          exact ⟨fun h => ⟨by omega, hb, ha, hs, fun v hv w hw => h v (by omega) hv w hw⟩, fun h u _ hu w hw => h.2.2.2.2 u hu w hw⟩
        · rw [show (!decide (1 ≤ rule ∧ rule ≤ 4)) = true by rw [decide_eq_false hr]; rfl]
          exact bad (fun x => hr x.1)
      · rw [if_neg (by simp [hs])]
        exact bad (fun x => hs x.2.2.2.1)
    · rw [if_neg (by simp [ha])]
      exact bad (fun x => ha x.2.2.1)
  · rw [if_neg (by simp [hb])]
    exact bad (fun x => hb x.2.1)
end Go.Proofs.Ytfleephpcomimaa.LU

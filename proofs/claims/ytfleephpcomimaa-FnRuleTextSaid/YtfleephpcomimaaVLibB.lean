/- Plain facts about what the printed functions answer (several pieces in one text). Conditions: those of each theorem. -/
import Derived.Test.YtfleephpcomimaaV5
import Derived.Test.YtfleephpcomimaaV8
import Derived.Test.YtfleephpcomimaaV9
import Derived.Test.YtfleephpcomimaaV10
import Derived.Test.YtfleephpcomimaaV11
import Derived.Test.YtfleephpcomimaaV12
import Derived.Test.YtfleephpcomimaaV14
import Derived.Test.YtfleephpcomimaaVLibA
import Derived.Test.YtfleephpcomimaaSets
set_option linter.unusedVariables false
set_option linter.unusedSimpArgs false
namespace Go.Proofs.Ytfleephpcomimaa.LV
open Go.RowKit Go.Proofs.YtfleephpcomimaaW.PrintWords Go.Proofs.YtfleephpcomimaaW.PrintLast Go.Proofs.YtfleephpcomimaaW.PrintMore Go.Proofs.BelM Go.Proofs.Ytfleephpcomimaa.V
/-! #### FRule -/
/-- A rule, for a number of things. -/
def RuleP (t x y : Int) : Prop := SetP t x ∧ SetP t y ∧ x ≠ 0
instance (t x y : Int) : Decidable (RuleP t x y) := by unfold RuleP; infer_instance
theorem isRule_eq (t x y : Int) : impl_isRule.f t x y = some (decide (RuleP t x y)) := by
  unfold impl_isRule.f
  rw [isSet_eq, isSet_eq]
  simp only [Option.bind_some]
  by_cases hx : SetP t x
  · by_cases hy : SetP t y
    · by_cases h0 : x = 0
      · simp [hx, hy, h0, RuleP]
      · simp [hx, hy, h0, RuleP]
    · simp [hx, hy, RuleP]
  · simp [hx, RuleP]
theorem impl_RuleOk_eq (t x y : Int) : impl_RuleOk.f t x y = some (decide (RuleP t x y)) := by
  unfold impl_RuleOk.f
  rw [isRule_eq]
  rfl
theorem spec_RuleOk_eq (t x y : Int) : spec_RuleOk.f t x y = some (decide (RuleP t x y)) := by
  unfold spec_RuleOk.f
  rw [SetOk_eq, SetOk_eq]
  simp only [Option.bind_some]
  by_cases hx : SetP t x
  · by_cases hy : SetP t y
    · by_cases h0 : x = 0
      · simp [hx, hy, h0, RuleP]
      · simp [hx, hy, h0, RuleP]
    · simp [hx, hy, RuleP]
  · simp [hx, RuleP]
/-! #### GText -/
theorem mono_from {α : Type} {g : Nat → Option α} (h : ∀ k, LeO (g k) (g (k + 1))) {m : Nat} {r : α} (e : g m = some r) : ∀ {k}, m ≤ k → g k = some r := by
  intro k hk
  induction hk with
  | refl => exact e
  | step _ ih => exact h _ r ih
/-- The sentence of a world. -/
def wtx (t w : Nat) : ByteArray := (impl_worldText.f 4 (t : Int) (w : Int) 0).getD (⟨#[]⟩ : ByteArray)
def wtxB (t w : Nat) : Bool := decide (impl_worldText.f 4 (t : Int) (w : Int) 0 = some (wtx t w)) && decide (spec_l1World.f 5 (t : Int) (w : Int) = some (wtx t w)) && decide ((wtx t w).toList ≠ []) && decide ((wtx t w).size ≤ 15)
theorem wtxB_ok : ((List.range 4).all fun t => (List.range 8).all fun w => !(decide (1 ≤ t)) || !(decide (w < 2 ^ t)) || wtxB t w) = true := by decide +kernel
theorem wtx_ok (t : Nat) (ht : t < 4) (w : Nat) (hw : w < 8) (h1 : 1 ≤ t) (h2 : w < 2 ^ t) : impl_worldText.f 4 (t : Int) (w : Int) 0 = some (wtx t w) ∧ spec_l1World.f 5 (t : Int) (w : Int) = some (wtx t w) ∧ (wtx t w).toList ≠ [] ∧ (wtx t w).size ≤ 15 := by
  have h := List.all_eq_true.1 (List.all_eq_true.1 wtxB_ok t (List.mem_range.2 ht)) w (List.mem_range.2 hw)
  simp only [h1, h2, decide_true, Bool.not_true, Bool.false_or, wtxB, Bool.and_eq_true, decide_eq_true_eq] at h
  exact ⟨h.1.1.1, h.1.1.2, h.1.2, h.2⟩
/-- Two sentences with a sign between them, in brackets. -/
def bra (b : UInt8) (x y : ByteArray) : ByteArray := ((((⟨#[40]⟩ : ByteArray) ++ x) ++ (⟨#[b]⟩ : ByteArray)) ++ y) ++ (⟨#[41]⟩ : ByteArray)
/-- The sentences of the first worlds ahead of what is there. -/
def sentF (t : Nat) (s : Int) : Nat → ByteArray → ByteArray
  | 0, out => out
  | w + 1, out => sentF t s w (if mem s w = true then (if out.toList = [] then wtx t w else bra 124 (wtx t w) out) else out)
def SO (t s : Int) : ByteArray := if s = 0 then (⟨#[48]⟩ : ByteArray) else if s = 2 ^ 2 ^ t.toNat - 1 then (⟨#[49]⟩ : ByteArray) else sentF t.toNat s (2 ^ t.toNat) (⟨#[]⟩ : ByteArray)
theorem bra_size (b : UInt8) (x y : ByteArray) : (bra b x y).size = x.size + y.size + 3 := by
  unfold bra
  rw [ByteArray.size_append, ByteArray.size_append, ByteArray.size_append, ByteArray.size_append]
  show 1 + x.size + 1 + y.size + 1 = _
  omega
theorem wtx_impl {t : Int} (ht : 1 ≤ t ∧ t ≤ 3) {w : Nat} (hw : w < 2 ^ t.toNat) {k : Nat} (hk : 4 ≤ k) : impl_worldText.f k t w 0 = some (wtx t.toNat w) := by
  obtain ⟨n, rfl⟩ : ∃ n : Nat, t = n := ⟨t.toNat, by omega⟩
  rw [Int.toNat_natCast] at *
  have h8 : w < 8 := Nat.lt_of_lt_of_le hw (by have := worlds_le (t := (n : Int)) ht; rwa [Int.toNat_natCast] at this)
  exact mono_from (g := fun k => impl_worldText.f k (n : Int) w 0) (fun k => impl_worldText.mono _ _ _ _) (wtx_ok n (by omega) w h8 (by omega) hw).1 hk
theorem wtx_spec {t : Int} (ht : 1 ≤ t ∧ t ≤ 3) {w : Nat} (hw : w < 2 ^ t.toNat) {k : Nat} (hk : 5 ≤ k) : spec_l1World.f k t w = some (wtx t.toNat w) := by
  obtain ⟨n, rfl⟩ : ∃ n : Nat, t = n := ⟨t.toNat, by omega⟩
  rw [Int.toNat_natCast] at *
  have h8 : w < 8 := Nat.lt_of_lt_of_le hw (by have := worlds_le (t := (n : Int)) ht; rwa [Int.toNat_natCast] at this)
  exact mono_from (g := fun k => spec_l1World.f k (n : Int) w) (fun k => spec_l1World.mono _ _ _) (wtx_ok n (by omega) w h8 (by omega) hw).2.1 hk
theorem wtx_size {t : Int} (ht : 1 ≤ t ∧ t ≤ 3) {w : Nat} (hw : w < 2 ^ t.toNat) : (wtx t.toNat w).size ≤ 15 := by
  have h8 : w < 8 := Nat.lt_of_lt_of_le hw (worlds_le ht)
  exact (wtx_ok t.toNat (by omega) w h8 (by omega) hw).2.2.2
/-- How long it gets. -/
theorem step_size {t : Int} (ht : 1 ≤ t ∧ t ≤ 3) {s : Int} {w : Nat} (hw : w < 2 ^ t.toNat) (out : ByteArray) : (if mem s w = true then (if out.toList = [] then wtx t.toNat w else bra 124 (wtx t.toNat w) out) else out).size ≤ out.size + 18 := by
  have := wtx_size ht hw
  split
  · split
    · omega
    · rw [bra_size]; omega
  · omega
theorem sent_loop {t s : Int} (hs : SetP t s) : ∀ (w k : Nat) (out : ByteArray), w ≤ 2 ^ t.toNat → out.size + 20 * w ≤ 400 → w + 6 ≤ k → impl_sentenceOf.l0 k t s out ((w : Int) - 1) = some (sentF t.toNat s w out)
  | 0, k, out, hw, ho, hk => by
    obtain ⟨k, rfl⟩ : ∃ m, k = m + 1 := ⟨k - 1, by omega⟩
    simp only [impl_sentenceOf.l0]
    rw [if_neg (by omega)]
    rfl
  | w + 1, k, out, hw, ho, hk => by
    obtain ⟨k, rfl⟩ : ∃ m, k = m + 1 := ⟨k - 1, by omega⟩
    have h8 := worlds_le hs.1
    have hws := wtx_size hs.1 (w := w) (by omega)
    have hst := step_size hs.1 (s := s) (w := w) (by omega) out
    have e1 : ((w + 1 : Nat) : Int) - 1 = (w : Int) := by omega
    simp only [impl_sentenceOf.l0]
    rw [e1, if_pos (by omega), if_pos (by omega), and_bit hs.2.1 hs.lt256 (by omega), w64 (x := (w : Int) - 1) (by omega) (by omega)]
    have ih := sent_loop hs w k (if mem s w = true then (if out.toList = [] then wtx t.toNat w else bra 124 (wtx t.toNat w) out) else out) (by omega) (by omega) (by omega)
    show _ = some (sentF t.toNat s w _)
    by_cases hm : mem s w = true
    · rw [if_pos hm] at ih
      rw [if_pos hm, if_neg (by decide), wtx_impl hs.1 (by omega) (by omega)]
      simp only [Option.bind_some, if_pos hm]
      by_cases h0 : out.toList = []
      · rw [if_pos h0] at ih
        rw [if_pos h0, if_pos h0]
        exact ih
      · rw [if_neg h0] at ih
        have z1 : ((⟨#[40]⟩ : ByteArray) ++ wtx t.toNat w).size = 1 + (wtx t.toNat w).size := by rw [ByteArray.size_append]; rfl
        have z2 : (((⟨#[40]⟩ : ByteArray) ++ wtx t.toNat w) ++ (⟨#[124]⟩ : ByteArray)).size = 1 + (wtx t.toNat w).size + 1 := by rw [ByteArray.size_append, z1]; rfl
        have z3 : ((((⟨#[40]⟩ : ByteArray) ++ wtx t.toNat w) ++ (⟨#[124]⟩ : ByteArray)) ++ out).size = 1 + (wtx t.toNat w).size + 1 + out.size := by rw [ByteArray.size_append, z2]
        rw [if_neg h0, if_pos (by omega), if_pos (by omega), if_pos (by omega), if_pos (by omega), if_neg h0]
        exact ih
    · rw [if_neg hm] at ih
      rw [if_neg hm, if_pos rfl]
      simp only [if_neg hm]
      exact ih
theorem spec_sent_loop {t s : Int} (hs : SetP t s) : ∀ (w k : Nat) (out : ByteArray), w ≤ 2 ^ t.toNat → out.size + 20 * w ≤ 400 → w + 6 ≤ k → spec_SentenceOf.l0 k t s out ((w : Int) - 1) = some (sentF t.toNat s w out)
  | 0, k, out, hw, ho, hk => by
    obtain ⟨k, rfl⟩ : ∃ m, k = m + 1 := ⟨k - 1, by omega⟩
    simp only [spec_SentenceOf.l0]
    rw [if_neg (by omega)]
    rfl
  | w + 1, k, out, hw, ho, hk => by
    obtain ⟨k, rfl⟩ : ∃ m, k = m + 1 := ⟨k - 1, by omega⟩
    have h8 := worlds_le hs.1
    have hws := wtx_size hs.1 (w := w) (by omega)
    have hst := step_size hs.1 (s := s) (w := w) (by omega) out
    have e1 : ((w + 1 : Nat) : Int) - 1 = (w : Int) := by omega
    simp only [spec_SentenceOf.l0]
    rw [e1, if_pos (by omega), l1Bit_eq hs.2.1 (by omega), w64 (x := (w : Int) - 1) (by omega) (by omega)]
    simp only [Option.bind_some]
    have ih := spec_sent_loop hs w k (if mem s w = true then (if out.toList = [] then wtx t.toNat w else bra 124 (wtx t.toNat w) out) else out) (by omega) (by omega) (by omega)
    show _ = some (sentF t.toNat s w _)
    by_cases hm : mem s w = true
    · rw [if_pos hm] at ih
      rw [if_pos hm, if_neg (by decide), wtx_spec hs.1 (by omega) (by omega)]
      simp only [Option.bind_some, if_pos hm]
      by_cases h0 : out.toList = []
      · rw [if_pos h0] at ih
        rw [if_pos h0, if_pos h0]
        exact ih
      · rw [if_neg h0] at ih
        have z1 : ((⟨#[40]⟩ : ByteArray) ++ wtx t.toNat w).size = 1 + (wtx t.toNat w).size := by rw [ByteArray.size_append]; rfl
        have z2 : (((⟨#[40]⟩ : ByteArray) ++ wtx t.toNat w) ++ (⟨#[124]⟩ : ByteArray)).size = 1 + (wtx t.toNat w).size + 1 := by rw [ByteArray.size_append, z1]; rfl
        have z3 : ((((⟨#[40]⟩ : ByteArray) ++ wtx t.toNat w) ++ (⟨#[124]⟩ : ByteArray)) ++ out).size = 1 + (wtx t.toNat w).size + 1 + out.size := by rw [ByteArray.size_append, z2]
        rw [if_neg h0, if_pos (by omega), if_pos (by omega), if_pos (by omega), if_pos (by omega), if_neg h0]
        exact ih
    · rw [if_neg hm] at ih
      rw [if_neg hm, if_pos rfl]
      simp only [if_neg hm]
      exact ih
theorem sentF_size {t : Int} (ht : 1 ≤ t ∧ t ≤ 3) {s : Int} : ∀ (w : Nat) (out : ByteArray), w ≤ 2 ^ t.toNat → (sentF t.toNat s w out).size ≤ out.size + 18 * w
  | 0, out, _ => Nat.le_refl _
  | w + 1, out, hw => by
    have h1 := step_size ht (s := s) (w := w) (by omega) out
    have h2 := sentF_size ht (s := s) w (if mem s w = true then (if out.toList = [] then wtx t.toNat w else bra 124 (wtx t.toNat w) out) else out) (by omega)
    show (sentF t.toNat s w _).size ≤ _
    omega
theorem SO_size {t s : Int} (ht : 1 ≤ t ∧ t ≤ 3) : (SO t s).size ≤ 144 := by
  unfold SO
  split
  · show 1 ≤ 144; omega
  · split
    · show 1 ≤ 144; omega
    · have h8 := worlds_le ht
      have := sentF_size ht (s := s) (2 ^ t.toNat) (⟨#[]⟩ : ByteArray) (Nat.le_refl _)
      have e : (⟨#[]⟩ : ByteArray).size = 0 := rfl
      omega
theorem sentenceOf_eq {t s : Int} (hs : SetP t s) {k : Nat} (hk : 20 ≤ k) : impl_sentenceOf.f k t s = some (SO t s) := by
  have ht := hs.1
  have h8 := worlds_le ht
  have h2 := worlds_ge ht
  unfold impl_sentenceOf.f SO
  by_cases h0 : s = 0
  · rw [if_pos h0, if_pos h0]
  · rw [if_neg h0, if_neg h0]
    unfold impl_allWorlds.f
    rw [if_pos ht]
    simp only [Option.bind_some]
    by_cases h1 : s = 2 ^ 2 ^ t.toNat - 1
    · rw [if_pos h1, if_pos h1]
    · rw [if_neg h1, if_neg h1, if_pos (by omega), shl_things ht, w64 (by omega) (by omega)]
      exact sent_loop hs (2 ^ t.toNat) k _ (Nat.le_refl _) (by show 0 + _ ≤ _; omega) (by omega)
theorem spec_SentenceOf_eq {t s : Int} (hs : SetP t s) {k : Nat} (hk : 20 ≤ k) : spec_SentenceOf.f k t s = some (SO t s) := by
  have ht := hs.1
  have h8 := worlds_le ht
  have h2 := worlds_ge ht
  unfold spec_SentenceOf.f SO
  rw [SetOk_eq]
  simp only [Option.bind_some]
  rw [if_pos (by simp [hs])]
  by_cases h0 : s = 0
  · rw [if_pos h0, if_pos h0]
  · rw [if_neg h0, if_neg h0, all_spec ht]
    simp only [Option.bind_some]
    by_cases h1 : s = 2 ^ 2 ^ t.toNat - 1
    · rw [if_pos h1, if_pos h1]
    · rw [if_neg h1, if_neg h1, if_pos (by omega), shl_things ht, w64 (by omega) (by omega)]
      exact spec_sent_loop hs (2 ^ t.toNat) k _ (Nat.le_refl _) (by show 0 + _ ≤ _; omega) (by omega)
/-- The text of a rule. -/
def RT (t x y : Int) : ByteArray := (SO t x ++ (⟨#[45, 62]⟩ : ByteArray)) ++ SO t y
theorem RT_sizes {t x y : Int} (ht : 1 ≤ t ∧ t ≤ 3) : (SO t x).size + 2 ≤ 9223372036854775807 ∧ (SO t x ++ (⟨#[45, 62]⟩ : ByteArray)).size + (SO t y).size ≤ 9223372036854775807 := by
  have h1 := SO_size ht (s := x)
  have h2 := SO_size ht (s := y)
  rw [ByteArray.size_append]
  have e : (⟨#[45, 62]⟩ : ByteArray).size = 2 := rfl
  omega
theorem impl_RuleText_eq (t x y : Int) {k : Nat} (hk : 20 ≤ k) : impl_RuleText.f k t x y = some (if RuleP t x y then RT t x y else (⟨#[]⟩ : ByteArray)) := by
  unfold impl_RuleText.f
  rw [isRule_eq]
  simp only [Option.bind_some]
  by_cases h : RuleP t x y
  · obtain ⟨z1, z2⟩ := RT_sizes (x := x) (y := y) h.1.1
    rw [if_pos (by exact decide_eq_true h), if_pos h, sentenceOf_eq h.1 hk]
    simp only [Option.bind_some]
    rw [if_pos z1, sentenceOf_eq h.2.1 hk]
    simp only [Option.bind_some]
    rw [if_pos z2]
    rfl
  · rw [if_neg (by intro h2; exact h (of_decide_eq_true h2)), if_neg h]
theorem spec_RuleText_eq (t x y : Int) {k : Nat} (hk : 20 ≤ k) : spec_RuleText.f k t x y = some (if RuleP t x y then RT t x y else (⟨#[]⟩ : ByteArray)) := by
  unfold spec_RuleText.f
  rw [spec_RuleOk_eq]
  simp only [Option.bind_some]
  by_cases h : RuleP t x y
  · obtain ⟨z1, z2⟩ := RT_sizes (x := x) (y := y) h.1.1
    rw [if_pos (by exact decide_eq_true h), if_pos h, spec_SentenceOf_eq h.1 hk]
    simp only [Option.bind_some]
    rw [if_pos z1, spec_SentenceOf_eq h.2.1 hk]
    simp only [Option.bind_some]
    rw [if_pos z2]
    rfl
  · rw [if_neg (by intro h2; exact h (of_decide_eq_true h2)), if_neg h]
/-! #### GSent -/
/-- The sentence of a set is read as the set. -/
def okSO (t x : Nat) : Bool := decide (HI (t : Int) (SO (t : Int) (x : Int)) = ((x : Int), true))
def ok16 (b : Nat) : Bool := (List.range 16).all fun x => okSO 3 (x + b)
theorem okSO_1 : ((List.range 4).all fun x => okSO 1 x) = true := by decide +kernel
theorem okSO_2 : ((List.range 16).all fun x => okSO 2 x) = true := by decide +kernel
theorem okSO_3_0 : ok16 0 = true := by decide +kernel
theorem okSO_3_1 : ok16 16 = true := by decide +kernel
theorem okSO_3_2 : ok16 32 = true := by decide +kernel
theorem okSO_3_3 : ok16 48 = true := by decide +kernel
theorem okSO_3_4 : ok16 64 = true := by decide +kernel
theorem okSO_3_5 : ok16 80 = true := by decide +kernel
theorem okSO_3_6 : ok16 96 = true := by decide +kernel
theorem okSO_3_7 : ok16 112 = true := by decide +kernel
theorem okSO_3_8 : ok16 128 = true := by decide +kernel
theorem okSO_3_9 : ok16 144 = true := by decide +kernel
theorem okSO_3_10 : ok16 160 = true := by decide +kernel
theorem okSO_3_11 : ok16 176 = true := by decide +kernel
theorem okSO_3_12 : ok16 192 = true := by decide +kernel
theorem okSO_3_13 : ok16 208 = true := by decide +kernel
theorem okSO_3_14 : ok16 224 = true := by decide +kernel
theorem okSO_3_15 : ok16 240 = true := by decide +kernel
theorem okSO_3 (x : Nat) (hx : x < 256) : okSO 3 x = true := by
  obtain ⟨b, r, hb, hr, rfl⟩ : ∃ b r : Nat, b < 16 ∧ r < 16 ∧ x = r + 16 * b := ⟨x / 16, x % 16, by omega, by omega, by omega⟩
  have key : ok16 (16 * b) = true := by
    obtain rfl | rfl | rfl | rfl | rfl | rfl | rfl | rfl | rfl | rfl | rfl | rfl | rfl | rfl | rfl | rfl : b = 0 ∨ b = 1 ∨ b = 2 ∨ b = 3 ∨ b = 4 ∨ b = 5 ∨ b = 6 ∨ b = 7 ∨ b = 8 ∨ b = 9 ∨ b = 10 ∨ b = 11 ∨ b = 12 ∨ b = 13 ∨ b = 14 ∨ b = 15 := by omega
    · exact okSO_3_0
    · exact okSO_3_1
    · exact okSO_3_2
    · exact okSO_3_3
    · exact okSO_3_4
    · exact okSO_3_5
    · exact okSO_3_6
    · exact okSO_3_7
    · exact okSO_3_8
    · exact okSO_3_9
    · exact okSO_3_10
    · exact okSO_3_11
    · exact okSO_3_12
    · exact okSO_3_13
    · exact okSO_3_14
    · exact okSO_3_15
  exact List.all_eq_true.1 key r (List.mem_range.2 hr)
theorem HI_SO {t x : Int} (h : SetP t x) : HI t (SO t x) = (x, true) := by
  obtain ⟨ht, h0, h1⟩ := h
  obtain ⟨n, rfl⟩ : ∃ n : Nat, t = n := ⟨t.toNat, by omega⟩
  obtain ⟨y, rfl⟩ : ∃ y : Nat, x = y := ⟨x.toNat, by omega⟩
  rw [Int.toNat_natCast] at h1
  obtain rfl | rfl | rfl : n = 1 ∨ n = 2 ∨ n = 3 := by omega
  · have h1 : (y : Int) < 4 := h1
    exact of_decide_eq_true (List.all_eq_true.1 okSO_1 y (List.mem_range.2 (by omega)))
  · have h1 : (y : Int) < 16 := h1
    exact of_decide_eq_true (List.all_eq_true.1 okSO_2 y (List.mem_range.2 (by omega)))
  · have h1 : (y : Int) < 256 := h1
    exact of_decide_eq_true (okSO_3 y (by omega))
/-- The text of a rule is read as the rule. -/
theorem RT_good {t x y : Int} (h : RuleP t x y) : good t (RT t x y) (SO t x).size ∧ got t (RT t x y) (SO t x).size = (x, y, true) := by
  have hx := HI_SO h.1
  have hy := HI_SO h.2.1
  have hz : (RT t x y).size = (SO t x).size + 2 + (SO t y).size := by
    unfold RT
    rw [ByteArray.size_append, ByteArray.size_append]
    rfl
  have e1 : (RT t x y).extract 0 (SO t x).size = SO t x := by
    unfold RT
    rw [ByteArray.append_assoc]
    exact ByteArray.extract_append_eq_left rfl
  have e2 : (RT t x y).extract ((SO t x).size + 2) (RT t x y).size = SO t y := by
    rw [hz]
    unfold RT
    exact ByteArray.extract_append_eq_right (by rw [ByteArray.size_append]; rfl) (by rw [ByteArray.size_append]; rfl)
  have e3 : (RT t x y).extract (SO t x).size ((SO t x).size + 2) = (⟨#[45, 62]⟩ : ByteArray) := by
    unfold RT
    rw [ByteArray.append_assoc]
    exact (ByteArray.extract_append_size_add (a := SO t x) (i := 0) (j := 2)).trans (ByteArray.extract_append_eq_left rfl)
  have hb : ∀ i : Nat, i < 2 → bt (RT t x y) (((SO t x).size + i : Nat) : Int) = bt (⟨#[45, 62]⟩ : ByteArray) (i : Int) := by
    intro i hi
    rw [← e3]
    exact (bt_extract (by rw [e3]; exact hi)).symm
  have b0 := hb 0 (by omega)
  have b1 := hb 1 (by omega)
  rw [Nat.add_zero] at b0
  refine ⟨⟨⟨by omega, b0.trans (by decide), b1.trans (by decide)⟩, by rw [e1, hx], by rw [e2, hy], by rw [e1, hx]; exact h.2.2⟩, ?_⟩
  unfold got
  rw [e1, e2, hx, hy]
end Go.Proofs.Ytfleephpcomimaa.LV

/- Updates and what is forgotten: what the functions answer. Conditions: those of each theorem. -/
import Derived.Test.YtjhcpcahnngofaaP2
import Derived.Test.YtjhcpcahnngofaaP3
import Derived.Test.YtjhcpcahnngofaaP4
import Derived.Test.YtjhcpcahnngofaaP5
import Derived.Test.YtjhcpcahnngofaaP10
import Derived.Test.YtjhcpcahnngofaaP11
import Derived.Test.YtjhcpcahnngofaaFFar
import Derived.Test.YtjhcpcahnngofaaSets
set_option linter.unusedVariables false
set_option linter.unusedSimpArgs false
namespace Go.Proofs.Ytjhcpcahnngofaa.L
open Go.RowKit Go.Proofs.YtjhcpcahnngofaaW.PrintWords Go.Proofs.YtjhcpcahnngofaaW.PrintLast Go.Proofs.YtjhcpcahnngofaaW.PrintMore Go.Proofs.BelM Go.Proofs.Ytjhcpcahnngofaa.P

/-- The worlds of c that are nearest to one of the first j worlds of p. -/
def updP (t p c : Int) (j : Nat) (v : Nat) : Bool := (List.range j).any (fun w => mem p w && mem (nearS t (2 ^ w) c) v)
def updS (t p c : Int) : Int := mk (updP t p c (2 ^ t.toNat)) (2 ^ t.toNat)
theorem updP_succ (t p c : Int) (j v : Nat) : updP t p c (j + 1) v = (updP t p c j v || (mem p j && mem (nearS t (2 ^ j) c) v)) := by
  unfold updP
  rw [List.range_succ, List.any_append]
  simp
theorem updP_iff {t p c : Int} {j v : Nat} : updP t p c j v = true ↔ ∃ w, w < j ∧ mem p w = true ∧ mem (nearS t (2 ^ w) c) v = true := by
  unfold updP
  simp
theorem one_SetP {t : Int} (ht : 1 ≤ t ∧ t ≤ 3) {w : Nat} (hw : w < 2 ^ t.toNat) : SetP t (2 ^ w) := by
  refine ⟨ht, Int.le_of_lt (pow_pos w), ?_⟩
  have : 2 ^ w < 2 ^ 2 ^ t.toNat := Nat.pow_lt_pow_right (by decide) hw
  rw [pow_nat, pow_nat (2 ^ t.toNat)]
  omega
theorem one_ne (w : Nat) : (2 : Int) ^ w ≠ 0 := by have := pow_pos w; omega
theorem mk_or {n : Nat} {p q : Nat → Bool} (hn : n ≤ 8) : orS (mk p n) (mk q n) = mk (fun v => p v || q v) n := by
  rw [orS_eq hn (mk_nonneg _ _) (mk_lt _ _) (mk_nonneg _ _) (mk_lt _ _)]
  exact mk_congr (fun w hw => by rw [mem_mk_lt _ hw, mem_mk_lt _ hw])
theorem step_upd {t p c : Int} (ht : 1 ≤ t ∧ t ≤ 3) (hc : SetP t c) {j : Nat} (hm : mem p j = true) :
    orS (mk (updP t p c j) (2 ^ t.toNat)) (nearS t (2 ^ j) c) = mk (updP t p c (j + 1)) (2 ^ t.toNat) := by
  have h8 := worlds_le ht
  rw [orS_eq h8 (mk_nonneg _ _) (mk_lt _ _) (nearS_nonneg hc.2.1) (nearS_lt hc.2.2)]
  exact mk_congr (fun w hw => by rw [mem_mk_lt _ hw, updP_succ, hm, Bool.true_and])
theorem skip_upd {t p c : Int} {j : Nat} (hm : mem p j = false) : mk (updP t p c j) (2 ^ t.toNat) = mk (updP t p c (j + 1)) (2 ^ t.toNat) :=
  mk_congr (fun w hw => by rw [updP_succ, hm, Bool.false_and, Bool.or_false])
theorem spec_upd_loop {t p c : Int} (hp : SetP t p) (hc : SetP t c) : ∀ (d k j : Nat), j + d = 2 ^ t.toNat → 120 + d < k →
    spec_UpdatedBy.l0 k t p c (mk (updP t p c j) (2 ^ t.toNat)) j = some (updS t p c)
  | 0, k, j, hj, hk => by
    obtain ⟨k, rfl⟩ : ∃ m, k = m + 1 := ⟨k - 1, by omega⟩
    obtain rfl : j = 2 ^ t.toNat := by omega
    simp only [spec_UpdatedBy.l0]
    rw [if_pos (by have := hp.1; omega), shl_things hp.1, if_neg (by omega)]
    rfl
  | d + 1, k, j, hj, hk => by
    obtain ⟨k, rfl⟩ : ∃ m, k = m + 1 := ⟨k - 1, by omega⟩
    have h8 := worlds_le hp.1
    have ih := spec_upd_loop hp hc d k (j + 1) (by omega) (by omega)
    simp only [spec_UpdatedBy.l0]
    rw [if_pos (by have := hp.1; omega), shl_things hp.1, if_pos (by omega), l1Bit_eq hp.2.1 (by omega)]
    simp only [Option.bind_some]
    by_cases hm : mem p j = true
    · rw [if_pos hm, if_pos rfl, if_pos (by omega), shl_small1 (by omega), spec_NearestOf_eq _ _ _ (by omega), if_pos ⟨one_SetP hp.1 (by omega), hc⟩]
      simp only [Option.bind_some]
      rw [l1Either_eq (mk_nonneg _ _) (lt8of h8 (mk_lt _ _)) (nearS_nonneg hc.2.1) (lt8of h8 (nearS_lt hc.2.2)) (by omega)]
      simp only [Option.bind_some]
      rw [step_upd hp.1 hc hm, w64s (by omega)]
      exact ih
    · rw [if_neg hm, if_neg (by decide), w64s (by omega), skip_upd (by simpa using hm)]
      exact ih
theorem mk_none {n : Nat} {p : Nat → Bool} (h : ∀ w, w < n → p w = false) : mk p n = 0 := mk_eq_zero.mpr h
theorem upd_zero (t p c : Int) (n : Nat) : mk (updP t p c 0) n = 0 := mk_none (fun w hw => rfl)
theorem spec_UpdatedBy_eq (t p c : Int) {k : Nat} (hk : 130 ≤ k) : spec_UpdatedBy.f k t p c = some (if SetP t p ∧ SetP t c then updS t p c else -1) := by
  obtain ⟨k, rfl⟩ : ∃ m, k = m + 1 := ⟨k - 1, by omega⟩
  unfold spec_UpdatedBy.f
  rw [SetOk_eq, SetOk_eq]
  simp only [Option.bind_some]
  by_cases hp : SetP t p
  · rw [if_pos (by simp [hp])]
    simp only [spec_UpdatedBy.j0]
    by_cases hc : SetP t c
    · have h8 := worlds_le hp.1
      rw [if_neg (by simp [hc]), if_pos ⟨hp, hc⟩]
      have := spec_upd_loop hp hc (2 ^ t.toNat) k 0 (by omega) (by omega)
      rw [upd_zero] at this
      exact this
    · rw [if_pos (by simp [hc]), if_neg (fun x => hc x.2)]
  · rw [if_neg (by simp [hp]), if_neg (fun x => hp x.1)]
    simp only [spec_UpdatedBy.j0]
    rw [if_pos trivial]
theorem nearS_one {t c : Int} (w : Nat) : nearS t (2 ^ w) c = rev (2 ^ t.toNat) (near (2 ^ t.toNat) (2 ^ w)) c := by unfold nearS; rw [if_neg (one_ne w)]
theorem impl_upd_loop {t p c : Int} (hp : SetP t p) (hc : SetP t c) : ∀ (d k j : Nat), j + d = 2 ^ t.toNat → 120 + d < k →
    impl_UpdatedBy.l0 k t p c (mk (updP t p c j) (2 ^ t.toNat)) ((2 ^ t.toNat : Nat) : Int) j = some (updS t p c)
  | 0, k, j, hj, hk => by
    obtain ⟨k, rfl⟩ : ∃ m, k = m + 1 := ⟨k - 1, by omega⟩
    obtain rfl : j = 2 ^ t.toNat := by omega
    simp only [impl_UpdatedBy.l0]
    rw [if_neg (by omega)]
    rfl
  | d + 1, k, j, hj, hk => by
    obtain ⟨k, rfl⟩ : ∃ m, k = m + 1 := ⟨k - 1, by omega⟩
    have h8 := worlds_le hp.1
    have ih := impl_upd_loop hp hc d k (j + 1) (by omega) (by omega)
    simp only [impl_UpdatedBy.l0]
    rw [if_pos (by omega), if_pos (by omega), and_bit hp.2.1 hp.lt256 (by omega)]
    by_cases hm : mem p j = true
    · rw [if_pos hm, if_pos rfl, shl_small1 (by omega), farFrom_eq (one_SetP hp.1 (by omega)) (one_ne j) (by omega)]
      simp only [Option.bind_some]
      rw [revisedBy_eq hp.1 (far_length _ _) hc.2.1 hc.lt256 (by omega)]
      simp only [Option.bind_some]
      rw [rev_congr (fun w hw => far_get hw), ← nearS_one]
      have e : bits .or .i64 (mk (updP t p c j) (2 ^ t.toNat)) (nearS t (2 ^ j) c) = orS (mk (updP t p c j) (2 ^ t.toNat)) (nearS t (2 ^ j) c) :=
        bits_or8 (mk_nonneg _ _) (lt256 h8 (mk_lt _ _)) (nearS_nonneg hc.2.1) (lt256 h8 (nearS_lt hc.2.2))
      rw [e, step_upd hp.1 hc hm, w64s (by omega)]
      exact ih
    · rw [if_neg hm, if_neg (by decide), w64s (by omega), skip_upd (by simpa using hm)]
      exact ih
theorem impl_UpdatedBy_eq (t p c : Int) {k : Nat} (hk : 130 ≤ k) : impl_UpdatedBy.f k t p c = some (if SetP t p ∧ SetP t c then updS t p c else -1) := by
  obtain ⟨k, rfl⟩ : ∃ m, k = m + 1 := ⟨k - 1, by omega⟩
  unfold impl_UpdatedBy.f
  rw [isSet_eq, isSet_eq]
  simp only [Option.bind_some]
  by_cases hp : SetP t p
  · rw [if_pos (by simp [hp])]
    simp only [impl_UpdatedBy.j0]
    by_cases hc : SetP t c
    · have h8 := worlds_le hp.1
      rw [if_neg (by simp [hc]), if_pos (by have := hp.1; omega), shl_things hp.1, if_pos ⟨hp, hc⟩]
      have := impl_upd_loop hp hc (2 ^ t.toNat) k 0 (by omega) (by omega)
      rw [upd_zero] at this
      exact this
    · rw [if_pos (by simp [hc]), if_neg (fun x => hc x.2)]
  · rw [if_neg (by simp [hp]), if_neg (fun x => hp x.1)]
    simp only [impl_UpdatedBy.j0]
    rw [if_pos trivial]

/-! ### what is forgotten -/
def forgP (s : Int) (h : Nat) (v : Nat) : Bool := mem s v || mem s (v ^^^ 2 ^ h)
def forgS (t s h : Int) : Int := mk (forgP s h.toNat) (2 ^ t.toNat)
def ForgP (t s h : Int) : Prop := SetP t s ∧ 0 ≤ h ∧ h < t
instance (t s h : Int) : Decidable (ForgP t s h) := by unfold ForgP; infer_instance
theorem impl_ForgotOf_eq (t s h : Int) : impl_ForgotOf.f t s h = some (if ForgP t s h then forgS t s h else -1) := by
  unfold impl_ForgotOf.f
  rw [isSet_eq]
  simp only [Option.bind_some]
  by_cases hs : SetP t s
  · rw [if_pos (by simp [hs])]
    by_cases h0 : h < 0
    · rw [if_pos h0, if_neg (fun x => by have := x.2; omega)]
    · rw [if_neg h0]
      by_cases h1 : h ≥ t
      · rw [if_pos h1, if_neg (fun x => by have := x.2; omega)]
      · rw [if_neg h1, if_pos ⟨hs, by omega, by omega⟩]
        unfold impl_forgot.f
        rw [if_pos ⟨hs.1, ⟨hs.2.1, hs.lt256⟩, by omega, by have := hs.1; omega⟩]
        rfl
  · rw [if_neg (by simp [hs]), if_neg (fun x => hs x.1)]
theorem other_world {j h : Nat} (hj : j < 8) (hh : h < 3) : (if Int.tmod (shr .i64 j h) 2 = 1 then wrap64 ((j : Int) - shl .i64 1 h) else wrap64 ((j : Int) + shl .i64 1 h)) = ((j ^^^ 2 ^ h : Nat) : Int) := by
  have : ∀ h, h < 3 → ∀ j, j < 8 → (if Int.tmod (shr .i64 (j : Nat) (h : Nat)) 2 = 1 then wrap64 (((j : Nat) : Int) - shl .i64 1 (h : Nat)) else wrap64 (((j : Nat) : Int) + shl .i64 1 (h : Nat))) = ((j ^^^ 2 ^ h : Nat) : Int) := by decide +kernel
  exact this h hh j hj
theorem xor_small {j h : Nat} (hj : j < 8) (hh : h < 3) : j ^^^ 2 ^ h < 8 := by
  have : ∀ h, h < 3 → ∀ j, j < 8 → j ^^^ 2 ^ h < 8 := by decide
  exact this h hh j hj
theorem spec_forg_loop {t s h : Int} (hf : ForgP t s h) : ∀ (d k j : Nat), j + d = 2 ^ t.toNat → d * 2 < k →
    spec_ForgotOf.l0 k t s h (mk (forgP s h.toNat) j) j = some (forgS t s h)
  | 0, k, j, hj, hk => by
    obtain ⟨k, rfl⟩ : ∃ m, k = m + 1 := ⟨k - 1, by omega⟩
    obtain rfl : j = 2 ^ t.toNat := by omega
    simp only [spec_ForgotOf.l0]
    rw [if_pos (by have := hf.1.1; omega), shl_things hf.1.1, if_neg (by omega)]
    rfl
  | d + 1, k, j, hj, hk => by
    obtain ⟨k, rfl⟩ : ∃ m, k = m + 2 := ⟨k - 2, by omega⟩
    have h8 := worlds_le hf.1.1
    have ih := spec_forg_loop hf d k (j + 1) (by omega) (by omega)
    obtain ⟨m, rfl⟩ : ∃ m : Nat, h = m := ⟨h.toNat, by have := hf.2; omega⟩
    have hm3 : m < 3 := by have := hf.2; have := hf.1.1; omega
    rw [Int.toNat_natCast] at ih ⊢
    have ho := other_world (j := j) (h := m) (by omega) hm3
    have hx := xor_small (j := j) (h := m) (by omega) hm3
    simp only [spec_ForgotOf.l0]
    rw [if_pos (by have := hf.1.1; omega), shl_things hf.1.1, if_pos (by omega), if_pos (by omega)]
    have key : ∀ x : Int, x = ((j ^^^ 2 ^ m : Nat) : Int) → spec_ForgotOf.j2 (k + 1) t s m (mk (forgP s m) j) j x = some (forgS t s m) := by
      intro x hxx
      subst hxx
      simp only [spec_ForgotOf.j2]
      rw [l1Bit_eq hf.1.2.1 (by omega), l1Bit_eq hf.1.2.1 (by omega)]
      simp only [Option.bind_some]
      by_cases ha : mem s j = true
      · rw [if_pos ha, if_pos rfl, if_pos (by omega), add_bit (by omega) (by unfold forgP; rw [ha]; rfl), w64s (by omega)]
        exact ih
      · rw [if_neg ha, if_neg (by decide)]
        by_cases hb : mem s (j ^^^ 2 ^ m) = true
        · rw [if_pos hb, if_pos rfl, if_pos (by omega), add_bit (by omega) (by unfold forgP; rw [hb, Bool.or_true]), w64s (by omega)]
          exact ih
        · rw [if_neg hb, if_neg (by decide), w64s (by omega), skip_bit (j := j) (by unfold forgP; simp [ha, hb])]
          exact ih
    by_cases hc : Int.tmod (shr .i64 j m) 2 = 1
    · rw [if_pos hc] at ho ⊢
      exact key _ ho
    · rw [if_neg hc] at ho ⊢
      exact key _ ho
theorem spec_ForgotOf_eq (t s h : Int) {k : Nat} (hk : 20 ≤ k) : spec_ForgotOf.f k t s h = some (if ForgP t s h then forgS t s h else -1) := by
  obtain ⟨k, rfl⟩ : ∃ m, k = m + 1 := ⟨k - 1, by omega⟩
  unfold spec_ForgotOf.f
  rw [SetOk_eq]
  simp only [Option.bind_some]
  by_cases hs : SetP t s
  · have ht := hs.1
    rw [if_pos (by simp [hs]), l1In_eq, w64 (by omega) (by omega)]
    simp only [Option.bind_some]
    simp only [spec_ForgotOf.j0]
    by_cases hh : 0 ≤ h ∧ h < t
    · have h8 := worlds_le hs.1
      rw [if_neg (by simp; omega), if_pos ⟨hs, hh⟩]
      exact spec_forg_loop ⟨hs, hh⟩ (2 ^ t.toNat) k 0 (by omega) (by omega)
    · rw [if_pos (by simp; omega), if_neg (fun x => hh x.2)]
  · rw [if_neg (by simp [hs]), if_neg (fun x => hs x.1)]
    simp only [spec_ForgotOf.j0]
    rw [if_pos trivial]
/-! ### does a set hang on a thing, and how far two worlds are -/
def hangB (t s h : Int) : Bool := decide (ForgP t s h) && (forgS t s h != s)
theorem forgS_nonneg (t s h : Int) : 0 ≤ forgS t s h := mk_nonneg _ _
theorem spec_HangsOn_eq (t s h : Int) {k : Nat} (hk : 20 ≤ k) : spec_HangsOn.f k t s h = some (hangB t s h) := by
  unfold spec_HangsOn.f
  rw [spec_ForgotOf_eq _ _ _ hk]
  simp only [Option.bind_some]
  unfold hangB
  by_cases hf : ForgP t s h
  · have := forgS_nonneg t s h
    rw [if_pos hf, if_pos this]
    simp [hf]
  · rw [if_neg hf, if_neg (by decide)]
    simp [hf]
theorem impl_HangsOn_eq (t s h : Int) : impl_HangsOn.f t s h = some (hangB t s h) := by
  unfold impl_HangsOn.f
  rw [isSet_eq]
  simp only [Option.bind_some]
  unfold hangB
  by_cases hs : SetP t s
  · rw [if_pos (by simp [hs])]
    by_cases h0 : h ≥ 0
    · rw [if_pos h0]
      by_cases h1 : h < t
      · have hf : ForgP t s h := ⟨hs, h0, h1⟩
        rw [if_pos h1]
        unfold impl_forgot.f
        rw [if_pos ⟨hs.1, ⟨hs.2.1, hs.lt256⟩, by omega, by have := hs.1; omega⟩]
        simp only [Option.bind_some, hf, decide_true, Bool.true_and]
        rfl
      · rw [if_neg h1]
        have hf : ¬ ForgP t s h := fun x => h1 x.2.2
        simp [hf]
    · rw [if_neg h0]
      have hf : ¬ ForgP t s h := fun x => h0 x.2.1
      simp [hf]
  · rw [if_neg (by simp [hs])]
    have hf : ¬ ForgP t s h := fun x => hs x.1
    simp [hf]
def WorldP (t v : Int) : Prop := (1 ≤ t ∧ t ≤ 3) ∧ 0 ≤ v ∧ v < ((2 ^ t.toNat : Nat) : Int)
instance (t v : Int) : Decidable (WorldP t v) := by unfold WorldP; infer_instance
theorem WorldP.lt8 {t v : Int} (h : WorldP t v) : v.toNat < 8 := by
  have := worlds_le h.1
  have := h.2
  omega
def apartS (t v w : Int) : Int := if WorldP t v ∧ WorldP t w then dist v.toNat w.toNat else -1
theorem spec_ApartOf_eq (t v w : Int) {k : Nat} (hk : 4 ≤ k) : spec_ApartOf.f k t v w = some (apartS t v w) := by
  unfold spec_ApartOf.f apartS
  rw [l1In_eq]
  simp only [Option.bind_some]
  by_cases ht : 1 ≤ t ∧ t ≤ 3
  · have h8 := worlds_le ht
    have h2 := worlds_ge ht
    rw [if_pos (by simp [ht]), if_pos (by omega), shl_things ht, w64 (by omega) (by omega), l1In_eq, l1In_eq]
    simp only [Option.bind_some]
    by_cases hv : 0 ≤ v ∧ v ≤ ((2 ^ t.toNat : Nat) : Int) - 1
    · rw [if_pos (by simpa using hv)]
      by_cases hw : 0 ≤ w ∧ w ≤ ((2 ^ t.toNat : Nat) : Int) - 1
      · have e := l5Apart_eq (v := v.toNat) (w := w.toNat) (by omega) (by omega) hk
        rw [show ((v.toNat : Nat) : Int) = v by omega, show ((w.toNat : Nat) : Int) = w by omega] at e
        rw [if_pos (by simpa using hw), e, if_pos ⟨⟨ht, by omega, by omega⟩, ht, by omega, by omega⟩]
        rfl
      · rw [if_neg (by simpa using hw), if_neg (fun x => hw (by have := x.2.2; omega))]
    · rw [if_neg (by simpa using hv), if_neg (fun x => hv (by have := x.1.2; omega))]
  · rw [if_neg (by simpa using ht), if_neg (fun x => ht x.1.1)]
theorem isWorld_eq (t v : Int) : impl_isWorld.f t v = some (decide (WorldP t v)) := by
  unfold impl_isWorld.f
  rw [areThings_eq]
  simp only [Option.bind_some]
  by_cases ht : 1 ≤ t ∧ t ≤ 3
  · rw [if_pos (by simp [ht])]
    by_cases h0 : v ≥ 0
    · rw [if_pos h0, if_pos (by omega), shl_things ht]
      congr 1
      apply decide_eq_decide.mpr
      unfold WorldP
      omega
    · rw [if_neg h0]
      congr 1
      symm
      apply decide_eq_false
      exact fun x => h0 x.2.1
  · rw [if_neg (by simpa using ht)]
    congr 1
    symm
    apply decide_eq_false
    exact fun x => ht x.1
theorem impl_ApartOf_eq (t v w : Int) : impl_ApartOf.f t v w = some (apartS t v w) := by
  unfold impl_ApartOf.f apartS
  rw [isWorld_eq, isWorld_eq]
  simp only [Option.bind_some]
  by_cases hv : WorldP t v
  · rw [if_pos (by simp [hv])]
    by_cases hw : WorldP t w
    · have e := apart_eq (v := v.toNat) (w := w.toNat) hv.lt8 hw.lt8
      rw [show ((v.toNat : Nat) : Int) = v by have := hv.2; omega, show ((w.toNat : Nat) : Int) = w by have := hw.2; omega] at e
      rw [if_pos (by simp [hw]), e, if_pos ⟨hv, hw⟩]
      rfl
    · rw [if_neg (by simp [hw]), if_neg (fun x => hw x.2)]
  · rw [if_neg (by simp [hv]), if_neg (fun x => hv x.1)]
end Go.Proofs.Ytjhcpcahnngofaa.L

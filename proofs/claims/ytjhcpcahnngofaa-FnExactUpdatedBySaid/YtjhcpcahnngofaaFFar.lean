/- Distances of worlds, the nearest ones, updates, what is forgotten: what the functions answer. Conditions: those of each theorem. -/
import Derived.Test.YtjhcpcahnngofaaP4
import Derived.Test.YtjhcpcahnngofaaP5
import Derived.Test.YtjhcpcahnngofaaP6
import Derived.Test.YtjhcpcahnngofaaP8
import Derived.Test.YtjhcpcahnngofaaP9
import Derived.Test.YtjhcpcahnngofaaFRanks
import Derived.Test.YtjhcpcahnngofaaSets
set_option linter.unusedVariables false
set_option linter.unusedSimpArgs false
namespace Go.Proofs.Ytjhcpcahnngofaa.L
open Go.RowKit Go.Proofs.YtjhcpcahnngofaaW.PrintWords Go.Proofs.YtjhcpcahnngofaaW.PrintLast Go.Proofs.YtjhcpcahnngofaaW.PrintMore Go.Proofs.BelM Go.Proofs.Ytjhcpcahnngofaa.P

/-- In how many things two worlds differ. -/
def dist (v w : Nat) : Int := (((v ^^^ w) % 2 + (v ^^^ w) / 2 % 2 + (v ^^^ w) / 4 % 2 : Nat) : Int)
theorem dist_comm (v w : Nat) : dist v w = dist w v := by unfold dist; rw [Nat.xor_comm]
theorem dist_self (v : Nat) : dist v v = 0 := by unfold dist; rw [Nat.xor_self]; rfl
theorem dist_nonneg (v w : Nat) : 0 ≤ dist v w := by unfold dist; omega
theorem dist_le3 (v w : Nat) : dist v w ≤ 3 := by unfold dist; omega
theorem dist_zero : ∀ v, v < 8 → ∀ w, w < 8 → dist v w = 0 → v = w := by decide
theorem dist_tri : ∀ v, v < 8 → ∀ w, w < 8 → ∀ u, u < 8 → dist v w ≤ dist v u + dist u w := by decide
theorem dist_le_things {t : Int} (ht : 1 ≤ t ∧ t ≤ 3) {v w : Nat} (hv : v < 2 ^ t.toNat) (hw : w < 2 ^ t.toNat) : dist v w ≤ t := by
  obtain rfl | rfl | rfl : t = 1 ∨ t = 2 ∨ t = 3 := by omega
  · have : ∀ v, v < 2 → ∀ w, w < 2 → dist v w ≤ 1 := by decide
    exact this v hv w hw
  · have : ∀ v, v < 4 → ∀ w, w < 4 → dist v w ≤ 2 := by decide
    exact this v hv w hw
  · exact dist_le3 v w
theorem apart_dec : ∀ v, v < 8 → ∀ w, w < 8 → spec_l5Apart.f 4 (v : Nat) (w : Nat) = some (dist v w) := by decide +kernel
theorem l5Apart_eq {v w : Nat} (hv : v < 8) (hw : w < 8) {k : Nat} (hk : 4 ≤ k) : spec_l5Apart.f k v w = some (dist v w) :=
  at_rounds (fun k => spec_l5Apart.mono _ _ k) hk (apart_dec v hv w hw)
theorem apart_dec2 : ∀ v, v < 8 → ∀ w, w < 8 → impl_apart.f (v : Nat) (w : Nat) = some (dist v w) := by decide +kernel
theorem apart_eq {v w : Nat} (hv : v < 8) (hw : w < 8) : impl_apart.f v w = some (dist v w) := apart_dec2 v hv w hw

/-- How far each world is from the nearest of a set. -/
def near (n : Nat) (s : Int) (w : Nat) : Int := least 4 (fun v => dist v w) (mem s) n
def far (n : Nat) (s : Int) : List Int := (List.range n).map (near n s)
theorem far_length (n : Nat) (s : Int) : (far n s).length = n := by simp [far]
theorem far_get {n : Nat} {s : Int} {w : Nat} (hw : w < n) : rk (far n s) w = near n s w := by
  rw [rk_eq]
  unfold far
  rw [List.getD_eq_getElem?_getD, List.getElem?_map, List.getElem?_range hw]
  rfl
theorem far_snoc (n : Nat) (s : Int) (j : Nat) : (List.range j).map (near n s) ++ [near n s j] = (List.range (j + 1)).map (near n s) := by
  rw [List.range_succ, List.map_append]; rfl

theorem spec_far1 {t s : Int} (h : SetP t s) {w : Nat} (hw : w < 2 ^ t.toNat) (K : Nat) (xs : List Int) (hx : xs.length < 17592186044416) (hK : 4 ≤ K) : ∀ (d k j : Nat), j + d = 2 ^ t.toNat → K + d < k →
    ∃ k', K ≤ k' ∧ k ≤ k' + d + 1 ∧ spec_FarFrom.l1 k t s xs w (least 4 (fun v => dist v w) (mem s) j) j = spec_FarFrom.l0 k' t s (xs ++ [near (2 ^ t.toNat) s w]) ((w + 1 : Nat) : Int)
  | 0, k, j, hj, hk => by
    obtain ⟨k, rfl⟩ : ∃ m, k = m + 1 := ⟨k - 1, by omega⟩
    have h8 := worlds_le h.1
    obtain rfl : j = 2 ^ t.toNat := by omega
    refine ⟨k, by omega, by omega, ?_⟩
    simp only [spec_FarFrom.l1]
    rw [if_pos (by have := h.1; omega), shl_things h.1, if_neg (by omega), if_pos hx, w64s (by omega)]
    rfl
  | d + 1, k, j, hj, hk => by
    obtain ⟨k, rfl⟩ : ∃ m, k = m + 1 := ⟨k - 1, by omega⟩
    have h8 := worlds_le h.1
    obtain ⟨k', h1, h2, ih⟩ := spec_far1 h hw K xs hx hK d k (j + 1) (by omega) (by omega)
    refine ⟨k', h1, by omega, ?_⟩
    rw [← ih]
    simp only [spec_FarFrom.l1, least]
    rw [if_pos (by have := h.1; omega), shl_things h.1, if_pos (by omega), l1Bit_eq h.2.1 (by omega)]
    simp only [Option.bind_some]
    by_cases hm : mem s j = true
    · rw [if_pos hm, if_pos rfl, l5Apart_eq (by omega) (by omega) (by omega)]
      simp only [Option.bind_some]
      rw [if_pos hm, mn_eq, w64s (by omega)]
    · rw [if_neg hm, if_neg (by decide), if_neg hm, w64s (by omega)]
theorem spec_far0 {t s : Int} (h : SetP t s) : ∀ (d k j : Nat), j + d = 2 ^ t.toNat → 4 + d * 10 < k →
    spec_FarFrom.l0 k t s ((List.range j).map (near (2 ^ t.toNat) s)) j = some (far (2 ^ t.toNat) s)
  | 0, k, j, hj, hk => by
    obtain ⟨k, rfl⟩ : ∃ m, k = m + 1 := ⟨k - 1, by omega⟩
    obtain rfl : j = 2 ^ t.toNat := by omega
    simp only [spec_FarFrom.l0]
    rw [if_pos (by have := h.1; omega), shl_things h.1, if_neg (by omega)]
    rfl
  | d + 1, k, j, hj, hk => by
    obtain ⟨k, rfl⟩ : ∃ m, k = m + 1 := ⟨k - 1, by omega⟩
    have h8 := worlds_le h.1
    simp only [spec_FarFrom.l0]
    rw [if_pos (by have := h.1; omega), shl_things h.1, if_pos (by omega)]
    obtain ⟨k', h1, h2, e⟩ := spec_far1 h (w := j) (by omega) (4 + d * 10 + 1) ((List.range j).map (near (2 ^ t.toNat) s)) (by rw [List.length_map, List.length_range]; omega) (by omega) (2 ^ t.toNat) k 0 (by omega) (by omega)
    have e' : spec_FarFrom.l1 k t s ((List.range j).map (near (2 ^ t.toNat) s)) j 4 0 = _ := e
    rw [e', far_snoc]
    exact spec_far0 h d k' (j + 1) (by omega) (by omega)
theorem spec_FarFrom_eq (t s : Int) {k : Nat} (hk : 100 ≤ k) : spec_FarFrom.f k t s = some (if SetP t s ∧ s ≠ 0 then far (2 ^ t.toNat) s else []) := by
  obtain ⟨k, rfl⟩ : ∃ m, k = m + 1 := ⟨k - 1, by omega⟩
  unfold spec_FarFrom.f
  rw [SetOk_eq]
  simp only [Option.bind_some]
  by_cases h : SetP t s
  · have h8 := worlds_le h.1
    rw [if_pos (by simp [h])]
    simp only [spec_FarFrom.j0]
    by_cases h0 : s = 0
    · rw [if_pos (by simp [h0]), if_neg (by simp [h0])]
    · rw [if_neg (by simp [h0]), if_pos ⟨h, h0⟩]
      exact spec_far0 h (2 ^ t.toNat) k 0 (by omega) (by omega)
  · rw [if_neg (by simp [h]), if_neg (fun x => h x.1)]
    simp only [spec_FarFrom.j0]
    rw [if_pos trivial]

theorem impl_far1 {t s : Int} (h : SetP t s) {w : Nat} (hw : w < 2 ^ t.toNat) (c : Int) (K : Nat) (xs : List Int) (hx : xs.length < 17592186044416) : ∀ (d k j : Nat), j + d = 2 ^ t.toNat → K + d < k →
    ∃ k', K ≤ k' ∧ impl_farFrom.l1 k t s xs w (least c (fun v => dist v w) (mem s) j) ((2 ^ t.toNat : Nat) : Int) w ((2 ^ t.toNat : Nat) : Int) j = impl_farFrom.l0 k' t s (xs ++ [least c (fun v => dist v w) (mem s) (2 ^ t.toNat)]) ((2 ^ t.toNat : Nat) : Int) ((w + 1 : Nat) : Int)
  | 0, k, j, hj, hk => by
    obtain ⟨k, rfl⟩ : ∃ m, k = m + 1 := ⟨k - 1, by omega⟩
    have h8 := worlds_le h.1
    obtain rfl : j = 2 ^ t.toNat := by omega
    refine ⟨k, by omega, ?_⟩
    simp only [impl_farFrom.l1]
    rw [if_neg (by omega), if_pos hx, w64s (by omega)]
  | d + 1, k, j, hj, hk => by
    obtain ⟨k, rfl⟩ : ∃ m, k = m + 1 := ⟨k - 1, by omega⟩
    have h8 := worlds_le h.1
    obtain ⟨k', h1, ih⟩ := impl_far1 h hw c K xs hx d k (j + 1) (by omega) (by omega)
    refine ⟨k', h1, ?_⟩
    rw [← ih]
    simp only [impl_farFrom.l1, least]
    rw [if_pos (by omega), if_pos (by omega), and_bit h.2.1 h.lt256 (by omega)]
    by_cases hm : mem s j = true
    · rw [if_pos hm, if_pos rfl, apart_eq (by omega) (by omega)]
      simp only [Option.bind_some]
      rw [if_pos hm, mn_eq, w64s (by omega), dist_comm w j]
    · rw [if_neg hm, if_neg (by decide), if_neg hm, w64s (by omega)]
theorem near_start {t s : Int} (h : SetP t s) (h0 : s ≠ 0) {w : Nat} (hw : w < 2 ^ t.toNat) : least t (fun v => dist v w) (mem s) (2 ^ t.toNat) = near (2 ^ t.toNat) s w := by
  obtain ⟨v, hv, hm⟩ := exists_mem h.2.1 h.2.2 h0
  exact least_start ⟨v, hv, hm, dist_le_things h.1 hv hw⟩ ⟨v, hv, hm, by have := dist_le3 v w; omega⟩
theorem impl_far0 {t s : Int} (h : SetP t s) (h0 : s ≠ 0) : ∀ (d k j : Nat), j + d = 2 ^ t.toNat → d * 10 < k →
    impl_farFrom.l0 k t s ((List.range j).map (near (2 ^ t.toNat) s)) ((2 ^ t.toNat : Nat) : Int) j = some (far (2 ^ t.toNat) s)
  | 0, k, j, hj, hk => by
    obtain ⟨k, rfl⟩ : ∃ m, k = m + 1 := ⟨k - 1, by omega⟩
    obtain rfl : j = 2 ^ t.toNat := by omega
    simp only [impl_farFrom.l0]
    rw [if_neg (by omega)]
    rfl
  | d + 1, k, j, hj, hk => by
    obtain ⟨k, rfl⟩ : ∃ m, k = m + 1 := ⟨k - 1, by omega⟩
    have h8 := worlds_le h.1
    simp only [impl_farFrom.l0]
    rw [if_pos (by omega), if_pos (by have := h.1; omega), shl_things h.1]
    obtain ⟨k', h1, e⟩ := impl_far1 h (w := j) (by omega) t (d * 10 + 1) ((List.range j).map (near (2 ^ t.toNat) s)) (by rw [List.length_map, List.length_range]; omega) (2 ^ t.toNat) k 0 (by omega) (by omega)
    have e' : impl_farFrom.l1 k t s ((List.range j).map (near (2 ^ t.toNat) s)) j t ((2 ^ t.toNat : Nat) : Int) j ((2 ^ t.toNat : Nat) : Int) 0 = _ := e
    rw [e', near_start h h0 (by omega), far_snoc]
    exact impl_far0 h h0 d k' (j + 1) (by omega) (by omega)
theorem farFrom_eq {t s : Int} (h : SetP t s) (h0 : s ≠ 0) {k : Nat} (hk : 100 ≤ k) : impl_farFrom.f k t s = some (far (2 ^ t.toNat) s) := by
  have h8 := worlds_le h.1
  unfold impl_farFrom.f
  rw [if_pos (by have := h.1; omega), shl_things h.1]
  exact impl_far0 h h0 (2 ^ t.toNat) k 0 (by omega) (by omega)
theorem impl_FarFrom_eq (t s : Int) {k : Nat} (hk : 100 ≤ k) : impl_FarFrom.f k t s = some (if SetP t s ∧ s ≠ 0 then far (2 ^ t.toNat) s else []) := by
  unfold impl_FarFrom.f
  rw [isSet_eq]
  simp only [Option.bind_some]
  by_cases h : SetP t s
  · rw [if_pos (by simp [h])]
    by_cases h0 : s = 0
    · rw [if_pos h0, if_neg (by simp [h0])]
    · rw [if_neg h0, if_pos ⟨h, h0⟩, farFrom_eq h h0 hk]
      rfl
  · rw [if_neg (by simp [h]), if_neg (fun x => h x.1)]

/-! ### the nearest worlds -/
def nearS (t p c : Int) : Int := if p = 0 then c else rev (2 ^ t.toNat) (near (2 ^ t.toNat) p) c
theorem spec_NearestOf_eq (t p c : Int) {k : Nat} (hk : 101 ≤ k) : spec_NearestOf.f k t p c = some (if SetP t p ∧ SetP t c then nearS t p c else -1) := by
  obtain ⟨k, rfl⟩ : ∃ m, k = m + 1 := ⟨k - 1, by omega⟩
  unfold spec_NearestOf.f
  rw [SetOk_eq, SetOk_eq]
  simp only [Option.bind_some]
  by_cases hp : SetP t p
  · rw [if_pos (by simp [hp])]
    simp only [spec_NearestOf.j0]
    by_cases hc : SetP t c
    · have h8 := worlds_le hp.1
      rw [if_neg (by simp [hc]), show (if SetP t p ∧ SetP t c then nearS t p c else -1) = nearS t p c from if_pos ⟨hp, hc⟩]
      unfold nearS
      by_cases h0 : p = 0
      · rw [if_pos h0, if_pos h0]
      · rw [if_neg h0, if_neg h0, spec_FarFrom_eq _ _ (by omega), if_pos ⟨hp, h0⟩]
        simp only [Option.bind_some]
        rw [l2Least_eq hc.2.1 (by rw [far_length]; exact h8) (by omega), far_length]
        simp only [Option.bind_some]
        rw [rev_congr (fun w hw => far_get hw)]
    · rw [if_pos (by simp [hc]), if_neg (fun x => hc x.2)]
  · rw [if_neg (by simp [hp]), if_neg (fun x => hp x.1)]
    simp only [spec_NearestOf.j0]
    rw [if_pos trivial]
theorem impl_NearestOf_eq (t p c : Int) {k : Nat} (hk : 101 ≤ k) : impl_NearestOf.f k t p c = some (if SetP t p ∧ SetP t c then nearS t p c else -1) := by
  obtain ⟨k, rfl⟩ : ∃ m, k = m + 1 := ⟨k - 1, by omega⟩
  unfold impl_NearestOf.f
  rw [isSet_eq, isSet_eq]
  simp only [Option.bind_some]
  by_cases hp : SetP t p
  · rw [if_pos (by simp [hp])]
    simp only [impl_NearestOf.j0]
    by_cases hc : SetP t c
    · rw [if_neg (by simp [hc]), show (if SetP t p ∧ SetP t c then nearS t p c else -1) = nearS t p c from if_pos ⟨hp, hc⟩]
      unfold nearS
      by_cases h0 : p = 0
      · rw [if_pos h0, if_pos h0]
      · rw [if_neg h0, if_neg h0, farFrom_eq hp h0 (by omega)]
        simp only [Option.bind_some]
        rw [revisedBy_eq hp.1 (far_length _ _) hc.2.1 hc.lt256 (by omega)]
        simp only [Option.bind_some]
        rw [rev_congr (fun w hw => far_get hw)]
    · rw [if_pos (by simp [hc]), if_neg (fun x => hc x.2)]
  · rw [if_neg (by simp [hp]), if_neg (fun x => hp x.1)]
    simp only [impl_NearestOf.j0]
    rw [if_pos trivial]
theorem nearS_nonneg {t p c : Int} (hc : 0 ≤ c) : 0 ≤ nearS t p c := by unfold nearS; split; exact hc; exact rev_nonneg _ _ _
theorem nearS_lt {t p c : Int} (hc : c < 2 ^ 2 ^ t.toNat) : nearS t p c < 2 ^ 2 ^ t.toNat := by unfold nearS; split; exact hc; exact rev_lt _ _ _
end Go.Proofs.Ytjhcpcahnngofaa.L

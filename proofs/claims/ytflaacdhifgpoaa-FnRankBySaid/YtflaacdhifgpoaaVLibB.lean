/- Plain facts about what the printed functions answer (several pieces in one text). Conditions: those of each theorem. -/
import Derived.Test.YtflaacdhifgpoaaV0
import Derived.Test.YtflaacdhifgpoaaV10
import Derived.Test.YtflaacdhifgpoaaVLibA
import Derived.Test.YtflaacdhifgpoaaSets
set_option linter.unusedVariables false
set_option linter.unusedSimpArgs false
namespace Go.Proofs.Ytflaacdhifgpoaa.LV
open Go.RowKit Go.Proofs.YtflaacdhifgpoaaW.PrintWords Go.Proofs.YtflaacdhifgpoaaW.PrintLast Go.Proofs.YtflaacdhifgpoaaW.PrintMore Go.Proofs.BelM Go.Proofs.Ytflaacdhifgpoaa.V
/-! #### ZImpl -/
/-- World w verifies rule k; world w breaks it. -/
def vv (l : List S25) (k w : Nat) : Bool := mem (rx l k) w && mem (ry l k) w
def ff (l : List S25) (k w : Nat) : Bool := mem (rx l k) w && !mem (ry l k) w
/-- The levels after L steps. -/
def zl (t : Int) (l : List S25) (L : Nat) : Nat → Int := zit l.length (2 ^ t.toNat) (vv l) (ff l) L
def zfits (t : Int) (l : List S25) (g : Nat → Int) (k : Nat) : Bool := zfit l.length (2 ^ t.toNat) (vv l) (ff l) g k
theorem zl_succ (t : Int) (l : List S25) (L k : Nat) : zl t l (L + 1) k = if zl t l L k < 0 ∧ zfits t l (zl t l L) k = true then (L : Int) else zl t l L k := rfl
open Classical in
/-- The levels, if all rules have one. -/
noncomputable def zres (t : Int) (l : List S25) : List Int × Bool := if ∀ k, k < l.length → 0 ≤ zl t l l.length k then (tab (zl t l l.length) l.length, true) else ([], false)
theorem tab_set {g : Nat → Int} {n i : Nat} {v : Int} (hi : i < n) : (tab g n).set i v = tab (fun k => if k = i then v else g k) n := by
  symm
  refine tab_eq (by rw [List.length_set, tab_len]) fun w hw => ?_
  rw [rk_eq, List.getD_eq_getElem?_getD, List.getElem?_set]
  by_cases e : w = i
  · subst e
    rw [if_pos rfl, if_pos rfl, if_pos (by rw [tab_len]; exact hi)]
    rfl
  · rw [if_neg e, if_neg (fun h => e h.symm), ← List.getD_eq_getElem?_getD, ← rk_eq, tab_rk hw]
theorem zleft_congr {n : Nat} {g h : Nat → Int} (e : ∀ k, k < n → g k = h k) : zleft n g = zleft n h := by
  unfold zleft
  refine List.countP_congr fun k hk => ?_
  rw [e k (List.mem_range.1 hk)]
/-- One less. -/
theorem zleft_one {g h : Nat → Int} {i : Nat} (hg : g i < 0) (hh : 0 ≤ h i) (e : ∀ k, k ≠ i → g k = h k) : ∀ {n : Nat}, i < n → zleft n g = zleft n h + 1
  | 0, hi => absurd hi (Nat.not_lt_zero _)
  | n + 1, hi => by
    have a : ∀ g : Nat → Int, zleft (n + 1) g = zleft n g + if g n < 0 then 1 else 0 := by
      intro g
      unfold zleft
      rw [List.range_succ, List.countP_append, List.countP_singleton]
      simp
    rw [a, a]
    by_cases hn : i = n
    · subst hn
      rw [if_pos hg, if_neg (by omega), zleft_congr (g := g) (h := h) (fun k hk => e k (by omega))]
    · rw [zleft_one hg hh e (n := n) (by omega), e n (fun h => hn h.symm)]
      omega
theorem rx_ok {t : Int} {l : List S25} (h : RulesP t l) {j : Nat} (hj : j < l.length) : 0 ≤ rx l j ∧ rx l j < 256 := ⟨(h.2.2 j hj).1.2.1, (h.2.2 j hj).1.lt256⟩
theorem ry_ok {t : Int} {l : List S25} (h : RulesP t l) {j : Nat} (hj : j < l.length) : 0 ≤ ry l j ∧ ry l j < 256 := ⟨(h.2.2 j hj).2.1.2.1, (h.2.2 j hj).2.1.lt256⟩
theorem rx_mem {t : Int} {l : List S25} (h : RulesP t l) {j : Nat} (hj : j < l.length) {w : Nat} (hw : mem (rx l j) w = true) : w < 2 ^ t.toNat := (h.2.2 j hj).1.mem_lt hw
/-- The worlds that break a rule that has no level yet, of the first i rules. -/
def brk (t : Int) (l : List S25) (L i : Nat) : Int := mk (fun w => (List.range i).any fun j => decide (zl t l L j < 0) && ff l j w) 8
theorem brk_lt (t : Int) (l : List S25) (L i : Nat) : 0 ≤ brk t l L i ∧ brk t l L i < 256 := ⟨mk_nonneg _ _, by have := mk_lt (fun w => (List.range i).any fun j => decide (zl t l L j < 0) && ff l j w) 8; exact this⟩
theorem brk_skip {t : Int} {l : List S25} {L i : Nat} (h : ¬ zl t l L i < 0) : brk t l L i = brk t l L (i + 1) := by
  unfold brk
  refine mk_congr fun w hw => ?_
  rw [List.range_succ, List.any_append]
  simp [h]
theorem brk_next {t : Int} {l : List S25} (hr : RulesP t l) {L i : Nat} (hi : i < l.length) (h : zl t l L i < 0) : bits .or .i64 (brk t l L i) (bits .andNot .i64 (rx l i) (ry l i)) = brk t l L (i + 1) := by
  obtain ⟨x0, x1⟩ := rx_ok hr hi
  obtain ⟨y0, y1⟩ := ry_ok hr hi
  obtain ⟨b0, b1⟩ := brk_lt t l L i
  have hm := mk_lt (fun v => mem (rx l i) v && !mem (ry l i) v) 8
  rw [bits_andNot8 x0 x1 y0 y1, bits_or8 b0 b1 (mk_nonneg _ _) hm]
  unfold brk
  refine mk_congr fun w hw => ?_
  rw [mem_mk_lt _ hw, mem_mk_lt _ hw, List.range_succ, List.any_append]
  simp [h, ff]
theorem fit_bits {t : Int} {l : List S25} (hr : RulesP t l) {L i : Nat} (hi : i < l.length) : bits .andNot .i64 (bits .and .i64 (rx l i) (ry l i)) (brk t l L l.length) = 0 ↔ ¬ zfits t l (zl t l L) i = true := by
  obtain ⟨x0, x1⟩ := rx_ok hr hi
  obtain ⟨y0, y1⟩ := ry_ok hr hi
  obtain ⟨b0, b1⟩ := brk_lt t l L l.length
  have hm := mk_lt (fun v => mem (rx l i) v && mem (ry l i) v) 8
  rw [bits_and8 x0 x1 y0 y1, bits_andNot8 (mk_nonneg _ _) hm b0 b1, mk_eq_zero]
  unfold zfits
  rw [zfit_iff]
  have hb : ∀ w, w < 8 → (mem (brk t l L l.length) w = true ↔ ∃ j, j < l.length ∧ zl t l L j < 0 ∧ ff l j w = true) := by
    intro w hw
    unfold brk
    rw [mem_mk_lt _ hw, List.any_eq_true]
    constructor
    · rintro ⟨j, hj, h⟩
      rw [Bool.and_eq_true, decide_eq_true_eq] at h
      exact ⟨j, List.mem_range.1 hj, h⟩
    · rintro ⟨j, hj, h1, h2⟩
      exact ⟨j, List.mem_range.2 hj, by rw [h2, decide_eq_true h1]; rfl⟩
  constructor
  · rintro h ⟨w, hw, hv, hj⟩
    have hw8 : w < 8 := Nat.lt_of_lt_of_le hw (worlds_le hr.1)
    have h1 := h w hw8
    rw [mem_mk_lt _ hw8] at h1
    have hv : (mem (rx l i) w && mem (ry l i) w) = true := hv
    rw [hv, Bool.true_and, Bool.not_eq_false'] at h1
    obtain ⟨j, hjn, h2, h3⟩ := (hb w hw8).1 h1
    rcases hj j hjn with h4 | h4
    · exact absurd h2 (by show ¬ zl t l L j < 0; exact Int.not_lt.2 h4)
    · rw [h3] at h4; exact absurd h4 (by decide)
  · intro h w hw
    rw [mem_mk_lt _ hw]
    cases hv : (mem (rx l i) w && mem (ry l i) w)
    · rfl
    · rw [Bool.true_and, Bool.not_eq_false', hb w hw]
      refine Classical.byContradiction fun hn => h ⟨w, ?_, hv, fun j hj => ?_⟩
      · rw [Bool.and_eq_true] at hv
        exact rx_mem hr hi hv.1
      · by_cases h5 : 0 ≤ zl t l L j
        · exact .inl h5
        · refine .inr ?_
          cases h6 : ff l j w
          · rfl
          · exact absurd ⟨j, hj, by omega, h6⟩ hn
/-- The levels within a step: the first i rules done. -/
def zcur (t : Int) (l : List S25) (L i : Nat) : Nat → Int := fun k => if k < i then zl t l (L + 1) k else zl t l L k
theorem zcur_skip {t : Int} {l : List S25} {L i : Nat} (h : ¬ (zl t l L i < 0 ∧ zfits t l (zl t l L) i = true)) : zcur t l L i = zcur t l L (i + 1) := by
  funext k
  unfold zcur
  by_cases e : k = i
  · subst e
    rw [if_neg (by omega), if_pos (by omega), zl_succ, if_neg h]
  · by_cases h2 : k < i
    · rw [if_pos h2, if_pos (by omega)]
    · rw [if_neg h2, if_neg (by omega)]
theorem zcur_next {t : Int} {l : List S25} {L i : Nat} (h : zl t l L i < 0 ∧ zfits t l (zl t l L) i = true) : (fun k => if k = i then (L : Int) else zcur t l L i k) = zcur t l L (i + 1) := by
  funext k
  unfold zcur
  by_cases e : k = i
  · subst e
    rw [if_pos rfl, if_pos (by omega), zl_succ, if_pos h]
  · rw [if_neg e]
    by_cases h2 : k < i
    · rw [if_pos h2, if_pos (by omega)]
    · rw [if_neg h2, if_neg (by omega)]
theorem zcur_at (t : Int) (l : List S25) (L i : Nat) : zcur t l L i i = zl t l L i := by unfold zcur; rw [if_neg (Nat.lt_irrefl _)]
theorem lev_loop3 {t : Int} {l : List S25} (hr : RulesP t l) {L : Nat} (hL : L ≤ 6) {K : Nat} {R : Option (List Int × Bool)}
    (next : ∀ k, K ≤ k → impl_levelsOf.l1 k l (tab (zl t l (L + 1)) l.length) (zleft l.length (zl t l (L + 1)) : Int) ((L + 1 : Nat) : Int) = R)
    (stop : (∀ j, j < l.length → ¬ (zl t l L j < 0 ∧ zfits t l (zl t l L) j = true)) → some (([] : List Int), false) = R) :
    ∀ (d k i : Nat) (fl : Bool), i + d = l.length → K + d + 1 ≤ k → (fl = true ↔ ∃ j, j < i ∧ zl t l L j < 0 ∧ zfits t l (zl t l L) j = true) →
      impl_levelsOf.l3 k l (tab (zcur t l L i) l.length) (zleft l.length (zcur t l L i) : Int) L (brk t l L l.length) fl l l.length i = R
  | 0, k, i, fl, hi, hk, hf => by
    obtain ⟨k, rfl⟩ : ∃ m, k = m + 1 := ⟨k - 1, by omega⟩
    simp only [impl_levelsOf.l3]
    rw [if_neg (by omega)]
    have e1 : tab (zcur t l L i) l.length = tab (zl t l (L + 1)) l.length := tab_congr fun k hk => by unfold zcur; rw [if_pos (by omega)]
    have e2 : zleft l.length (zcur t l L i) = zleft l.length (zl t l (L + 1)) := zleft_congr fun k hk => by unfold zcur; rw [if_pos (by omega)]
    cases fl
    · rw [if_neg (by decide)]
      exact stop fun j hj h => absurd (hf.2 ⟨j, by omega, h⟩) (by decide)
    · rw [if_pos rfl, e1, e2, w64s (by omega)]
      exact next k (by omega)
  | d + 1, k, i, fl, hi, hk, hf => by
    obtain ⟨k, rfl⟩ : ∃ m, k = m + 1 := ⟨k - 1, by omega⟩
    have h6 := hr.2.1
    simp only [impl_levelsOf.l3]
    rw [if_pos (by omega), if_pos (by omega), if_pos (by omega), if_pos (by rw [tab_len]; omega)]
    have er : rd (tab (zcur t l L i) l.length) (i : Int) = zl t l L i := by
      show rk _ _ = _
      rw [tab_rk (by omega), zcur_at]
    rw [er, w64s (by omega)]
    by_cases h1 : zl t l L i < 0
    · rw [if_pos h1]
      by_cases h2 : zfits t l (zl t l L) i = true
      · rw [if_neg (by show ¬ bits .andNot .i64 (bits .and .i64 (rx l i) (ry l i)) (brk t l L l.length) = 0; rw [fit_bits hr (by omega)]; exact fun h => h h2), Int.toNat_natCast, tab_set (by omega), zcur_next ⟨h1, h2⟩]
        have hz : zleft l.length (zcur t l L i) = zleft l.length (zcur t l L (i + 1)) + 1 := by
          refine zleft_one (i := i) (by rw [zcur_at]; exact h1) ?_ ?_ (by omega)
          · unfold zcur
            rw [if_pos (by omega), zl_succ, if_pos ⟨h1, h2⟩]
            omega
          · intro k hk
            rw [← zcur_next ⟨h1, h2⟩]
            simp only
            rw [if_neg hk]
        have hle : zleft l.length (zcur t l L i) ≤ l.length := zleft_le _
        rw [w64 (by omega) (by omega), hz, show (((zleft l.length (zcur t l L (i + 1)) + 1 : Nat) : Int) - 1) = (zleft l.length (zcur t l L (i + 1)) : Int) by omega]
        exact lev_loop3 hr hL next stop d k (i + 1) true (by omega) (by omega) ⟨fun _ => ⟨i, by omega, h1, h2⟩, fun _ => rfl⟩
      · rw [if_pos (by show bits .andNot .i64 (bits .and .i64 (rx l i) (ry l i)) (brk t l L l.length) = 0; rw [fit_bits hr (by omega)]; exact h2), zcur_skip (fun h => h2 h.2)]
        refine lev_loop3 hr hL next stop d k (i + 1) fl (by omega) (by omega) (hf.trans ⟨fun ⟨j, hj, h⟩ => ⟨j, by omega, h⟩, fun ⟨j, hj, h⟩ => ⟨j, ?_, h⟩⟩)
        by_cases e : j = i
        · subst e; exact absurd h.2 h2
        · omega
    · rw [if_neg h1, zcur_skip (fun h => h1 h.1)]
      refine lev_loop3 hr hL next stop d k (i + 1) fl (by omega) (by omega) (hf.trans ⟨fun ⟨j, hj, h⟩ => ⟨j, by omega, h⟩, fun ⟨j, hj, h⟩ => ⟨j, ?_, h⟩⟩)
      by_cases e : j = i
      · subst e; exact absurd h.1 h1
      · omega
theorem lev_loop2 {t : Int} {l : List S25} (hr : RulesP t l) {L : Nat} {left : Int} {K : Nat} {R : Option (List Int × Bool)}
    (next : ∀ k, K ≤ k → impl_levelsOf.l3 k l (tab (zl t l L) l.length) left L (brk t l L l.length) false l l.length 0 = R) :
    ∀ (d k i : Nat), i + d = l.length → K + d + 1 ≤ k → impl_levelsOf.l2 k l (tab (zl t l L) l.length) left L (brk t l L i) l l.length i = R
  | 0, k, i, hi, hk => by
    obtain ⟨k, rfl⟩ : ∃ m, k = m + 1 := ⟨k - 1, by omega⟩
    simp only [impl_levelsOf.l2]
    have : i = l.length := by omega
    subst this
    rw [if_neg (by omega)]
    exact next k (by omega)
  | d + 1, k, i, hi, hk => by
    obtain ⟨k, rfl⟩ : ∃ m, k = m + 1 := ⟨k - 1, by omega⟩
    have h6 := hr.2.1
    simp only [impl_levelsOf.l2]
    rw [if_pos (by omega), if_pos (by omega), if_pos (by omega), if_pos (by rw [tab_len]; omega)]
    have er : rd (tab (zl t l L) l.length) (i : Int) = zl t l L i := by
      show rk _ _ = _
      rw [tab_rk (by omega)]
    rw [er, w64s (by omega)]
    by_cases h1 : zl t l L i < 0
    · rw [if_pos h1]
      have e := brk_next hr (i := i) (L := L) (by omega) h1
      unfold rx ry at e
      rw [e]
      exact lev_loop2 hr next d k (i + 1) (by omega) (by omega)
    · rw [if_neg h1, brk_skip h1]
      exact lev_loop2 hr next d k (i + 1) (by omega) (by omega)
theorem lev_loop1 {t : Int} {l : List S25} (hr : RulesP t l) : ∀ (D L k : Nat), zleft l.length (zl t l L) ≤ D → L + D ≤ l.length → D * 20 + 1 ≤ k →
    impl_levelsOf.l1 k l (tab (zl t l L) l.length) (zleft l.length (zl t l L) : Int) L = some (zres t l) := by
  intro D
  induction D with
  | zero =>
    intro L k hD hL hk
    obtain ⟨k, rfl⟩ : ∃ m, k = m + 1 := ⟨k - 1, by omega⟩
    simp only [impl_levelsOf.l1]
    rw [if_neg (by omega)]
    have h0 := zleft_zero (l := zl t l L) (n := l.length) (by omega)
    have he : ∀ k, k < l.length → zl t l l.length k = zl t l L k := fun k hk => zit_keep (h0 k hk) _ (by omega)
    unfold zres
    rw [if_pos (fun k hk => by rw [he k hk]; exact h0 k hk), tab_congr he]
  | succ D ih =>
    intro L k hD hL hk
    obtain ⟨k, rfl⟩ : ∃ m, k = m + 1 := ⟨k - 1, by omega⟩
    have h6 := hr.2.1
    by_cases hz : zleft l.length (zl t l L) = 0
    · simp only [impl_levelsOf.l1]
      rw [if_neg (by omega)]
      have h0 := zleft_zero hz
      have he : ∀ k, k < l.length → zl t l l.length k = zl t l L k := fun k hk => zit_keep (h0 k hk) _ (by omega)
      unfold zres
      rw [if_pos (fun k hk => by rw [he k hk]; exact h0 k hk), tab_congr he]
    · simp only [impl_levelsOf.l1]
      rw [if_pos (by omega)]
      have hb : (0 : Int) = brk t l L 0 := by
        unfold brk
        symm
        rw [mk_eq_zero]
        intro w hw
        rfl
      rw [hb]
      refine lev_loop2 hr (K := D * 20 + 10) (fun k hk => ?_) l.length k 0 (by omega) (by omega)
      have e1 : tab (zl t l L) l.length = tab (zcur t l L 0) l.length := tab_congr fun k _ => by unfold zcur; rw [if_neg (by omega)]
      have e2 : zleft l.length (zl t l L) = zleft l.length (zcur t l L 0) := zleft_congr fun k _ => by unfold zcur; rw [if_neg (by omega)]
      rw [e1, e2]
      by_cases hs : ∃ j, j < l.length ∧ zl t l L j < 0 ∧ zfits t l (zl t l L) j = true
      · have hlt : zleft l.length (zl t l (L + 1)) < zleft l.length (zl t l L) := zleft_step hs
        exact lev_loop3 hr (by omega) (K := D * 20 + 1) (fun k hk => ih (L + 1) k (by omega) (by omega) hk) (fun h => by obtain ⟨j, hj, h2⟩ := hs; exact absurd h2 (h j hj)) l.length k 0 false (by omega) (by omega) ⟨fun h => absurd h (by decide), fun ⟨j, hj, _⟩ => by omega⟩
      · have hstuck : ∀ k, k < l.length → zl t l l.length k = zl t l L k := zit_stuck (fun k hk h1 => by
          cases h2 : zfit l.length (2 ^ t.toNat) (vv l) (ff l) (zit l.length (2 ^ t.toNat) (vv l) (ff l) L) k
          · rfl
          · exact absurd ⟨k, hk, h1, h2⟩ hs) _ (by omega)
        have hno : ¬ ∀ k, k < l.length → 0 ≤ zl t l l.length k := by
          intro h
          refine hz ?_
          unfold zleft
          rw [List.countP_eq_zero]
          intro k hk
          rw [decide_eq_true_eq, ← hstuck k (List.mem_range.1 hk)]
          have := h k (List.mem_range.1 hk)
          omega
        have key : ∀ (d k i : Nat), i + d = l.length → d + 1 ≤ k → impl_levelsOf.l3 k l (tab (zcur t l L i) l.length) (zleft l.length (zcur t l L i) : Int) L (brk t l L l.length) false l l.length i = some (zres t l) := by
          intro d
          induction d with
          | zero =>
            intro k i hi hk
            obtain ⟨k, rfl⟩ : ∃ m, k = m + 1 := ⟨k - 1, by omega⟩
            simp only [impl_levelsOf.l3]
            rw [if_neg (by omega), if_neg (by decide)]
            unfold zres
            rw [if_neg hno]
          | succ d ihd =>
            intro k i hi hk
            obtain ⟨k, rfl⟩ : ∃ m, k = m + 1 := ⟨k - 1, by omega⟩
            simp only [impl_levelsOf.l3]
            rw [if_pos (by omega), if_pos (by omega), if_pos (by omega), if_pos (by rw [tab_len]; omega)]
            have er : rd (tab (zcur t l L i) l.length) (i : Int) = zl t l L i := by
              show rk _ _ = _
              rw [tab_rk (by omega), zcur_at]
            have hsk : ¬ (zl t l L i < 0 ∧ zfits t l (zl t l L) i = true) := fun h => hs ⟨i, by omega, h⟩
            rw [er, w64s (by omega), zcur_skip hsk]
            by_cases h1 : zl t l L i < 0
            · rw [if_pos h1, if_pos (by show bits .andNot .i64 (bits .and .i64 (rx l i) (ry l i)) (brk t l L l.length) = 0; rw [fit_bits hr (by omega)]; exact fun h => hsk ⟨h1, h⟩)]
              exact ihd k (i + 1) (by omega) (by omega)
            · rw [if_neg h1]
              exact ihd k (i + 1) (by omega) (by omega)
        exact key l.length k 0 (by omega) (by omega)
theorem lev_loop0 {t : Int} {l : List S25} (hr : RulesP t l) : ∀ (d k j : Nat), j + d = l.length → d + 200 ≤ k →
    impl_levelsOf.l0 k l (tab (fun k => if k < j then -1 else 0) l.length) l.length j = some (zres t l)
  | 0, k, j, hj, hk => by
    obtain ⟨k, rfl⟩ : ∃ m, k = m + 1 := ⟨k - 1, by omega⟩
    have h6 := hr.2.1
    simp only [impl_levelsOf.l0]
    rw [if_neg (by omega)]
    have e1 : tab (fun k => if k < j then (-1 : Int) else 0) l.length = tab (zl t l 0) l.length := tab_congr fun k hk => by rw [if_pos (by omega)]; rfl
    have e2 : zleft l.length (zl t l 0) = l.length := by
      unfold zleft
      rw [List.countP_eq_length.2, List.length_range]
      intro k _
      rfl
    have := lev_loop1 hr l.length 0 k (by omega) (by omega) (by omega)
    rw [e2] at this
    rw [e1]
    exact this
  | d + 1, k, j, hj, hk => by
    obtain ⟨k, rfl⟩ : ∃ m, k = m + 1 := ⟨k - 1, by omega⟩
    have h6 := hr.2.1
    simp only [impl_levelsOf.l0]
    rw [if_pos (by omega), if_pos (by omega), if_pos (by rw [tab_len]; omega), Int.toNat_natCast, tab_set (by omega), w64s (by omega)]
    have e : tab (fun k => if k = j then (-1 : Int) else (fun k => if k < j then (-1 : Int) else 0) k) l.length = tab (fun k => if k < j + 1 then (-1 : Int) else 0) l.length := tab_congr fun k _ => by
      by_cases h1 : k = j
      · rw [if_pos h1, if_pos (by omega)]
      · rw [if_neg h1]
        by_cases h2 : k < j
        · simp only
          rw [if_pos h2, if_pos (by omega)]
        · simp only
          rw [if_neg h2, if_neg (by omega)]
    rw [e]
    exact lev_loop0 hr d k (j + 1) (by omega) (by omega)
theorem levelsOf_eq {t : Int} {l : List S25} (hr : RulesP t l) {k : Nat} (hk : 300 ≤ k) : impl_levelsOf.f k l = some (zres t l) := by
  have h6 := hr.2.1
  unfold impl_levelsOf.f
  rw [if_pos (by omega), if_pos (by rw [Int.toNat_natCast]; omega), Int.toNat_natCast]
  simp only [Option.bind_some]
  have e : List.replicate l.length (0 : Int) = tab (fun k => if k < 0 then (-1 : Int) else 0) l.length := by
    symm
    refine tab_eq (by rw [List.length_replicate]) fun w hw => ?_
    rw [rk_eq, List.getD_eq_getElem?_getD, List.getElem?_replicate]
    simp [hw]
  rw [e, tab_len]
  exact lev_loop0 hr l.length k 0 (by omega) (by omega)
end Go.Proofs.Ytflaacdhifgpoaa.LV

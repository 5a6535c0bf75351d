/- Plain facts about what the printed functions answer (several pieces in one text). Conditions: those of each theorem. -/
import Derived.Test.YtflaacdhifgpoaaV0
import Derived.Test.YtflaacdhifgpoaaV7
import Derived.Test.YtflaacdhifgpoaaV8
import Derived.Test.YtflaacdhifgpoaaVLibB
import Derived.Test.YtflaacdhifgpoaaSets
set_option linter.unusedVariables false
set_option linter.unusedSimpArgs false
namespace Go.Proofs.Ytflaacdhifgpoaa.LV
open Go.RowKit Go.Proofs.YtflaacdhifgpoaaW.PrintWords Go.Proofs.YtflaacdhifgpoaaW.PrintLast Go.Proofs.YtflaacdhifgpoaaW.PrintMore Go.Proofs.BelM Go.Proofs.Ytflaacdhifgpoaa.V
/-! #### ZSpec -/
theorem breaks_eq {x y : Int} {w : Nat} (hx : 0 ≤ x) (hy : 0 ≤ y) (hw : w ≤ 64) : spec_l7Breaks.f x y w = some (mem x w && !mem y w) := by
  unfold spec_l7Breaks.f
  rw [l1Bit_eq hx hw, l1Bit_eq hy hw]
  simp only [Option.bind_some]
  cases mem x w <;> cases mem y w <;> simp
/-- World w breaks none of the first j rules that have no level. -/
def clean (t : Int) (l : List S25) (L w j : Nat) : Bool := (List.range j).all fun i => decide (0 ≤ zl t l L i) || !ff l i w
theorem clean_succ (t : Int) (l : List S25) (L w j : Nat) : clean t l L w (j + 1) = (clean t l L w j && (decide (0 ≤ zl t l L j) || !ff l j w)) := by
  unfold clean
  rw [List.range_succ, List.all_append]
  simp
theorem sp_loop4 {t : Int} {l : List S25} (hr : RulesP t l) {L : Nat} {fd : List Int} {i w : Nat} (hw : w < 2 ^ t.toNat) {b v : Bool} {K : Nat} {R : Option (List Int × Bool)}
    (next : ∀ k, K ≤ k → spec_LevelsOf.l3 k t l (tab (zl t l L) l.length) L fd i (b || (v && clean t l L w l.length)) ((w + 1 : Nat) : Int) = R) :
    ∀ (d k j : Nat), j + d = l.length → K + d + 1 ≤ k → spec_LevelsOf.l4 k t l (tab (zl t l L) l.length) L fd i b w (v && clean t l L w j) j = R
  | 0, k, j, hj, hk => by
    obtain ⟨k, rfl⟩ : ∃ m, k = m + 1 := ⟨k - 1, by omega⟩
    have h8 := worlds_le hr.1
    have : j = l.length := by omega
    subst this
    simp only [spec_LevelsOf.l4]
    rw [if_neg (by omega), w64s (by omega)]
    have := next k (by omega)
    cases b
    · rw [if_neg (by decide)]; exact this
    · rw [if_pos rfl]; exact this
  | d + 1, k, j, hj, hk => by
    obtain ⟨k, rfl⟩ : ∃ m, k = m + 1 := ⟨k - 1, by omega⟩
    have h6 := hr.2.1
    have h8 := worlds_le hr.1
    simp only [spec_LevelsOf.l4]
    rw [if_pos (by omega), w64s (by omega)]
    have ih := sp_loop4 hr hw next d k (j + 1) (by omega) (by omega)
    rw [clean_succ, ← Bool.and_assoc] at ih
    cases hc : (v && clean t l L w j)
    · rw [if_neg (by decide)]
      rw [hc, Bool.false_and] at ih
      exact ih
    · rw [if_pos rfl, if_pos (by omega), if_pos (by rw [tab_len]; omega)]
      rw [hc, Bool.true_and] at ih
      have er : rd (tab (zl t l L) l.length) (j : Int) = zl t l L j := by
        show rk _ _ = _
        rw [tab_rk (by omega)]
      rw [er]
      by_cases h1 : 0 ≤ zl t l L j
      · rw [if_pos h1]
        rw [decide_eq_true h1, Bool.true_or] at ih
        exact ih
      · rw [if_neg h1]
        rw [decide_eq_false h1, Bool.false_or] at ih
        have e := breaks_eq (w := w) (rx_ok hr (j := j) (by omega)).1 (ry_ok hr (j := j) (by omega)).1 (by omega)
        unfold rx ry at e
        rw [e]
        exact ih
/-- Some of the first w worlds fits rule i. -/
def anyfit (t : Int) (l : List S25) (L i w : Nat) : Bool := (List.range w).any fun u => vv l i u && clean t l L u l.length
theorem anyfit_all (t : Int) (l : List S25) (L i : Nat) : anyfit t l L i (2 ^ t.toNat) = zfits t l (zl t l L) i := rfl
theorem anyfit_succ (t : Int) (l : List S25) (L i w : Nat) : anyfit t l L i (w + 1) = (anyfit t l L i w || (vv l i w && clean t l L w l.length)) := by
  unfold anyfit
  rw [List.range_succ, List.any_append]
  simp
/-- The rules found at this step, of the first i. -/
def fnd (t : Int) (l : List S25) (L i : Nat) : List Nat := (List.range i).filter fun k => decide (zl t l L k < 0) && zfits t l (zl t l L) k
def ints (l : List Nat) : List Int := l.map fun k : Nat => (k : Int)
theorem fnd_len (t : Int) (l : List S25) (L i : Nat) : (ints (fnd t l L i)).length ≤ i := by
  unfold ints fnd
  rw [List.length_map]
  have := List.length_filter_le (fun k => decide (zl t l L k < 0) && zfits t l (zl t l L) k) (List.range i)
  rw [List.length_range] at this
  exact this
theorem fnd_yes {t : Int} {l : List S25} {L i : Nat} (h : zl t l L i < 0) (h2 : zfits t l (zl t l L) i = true) : ints (fnd t l L i) ++ [(i : Int)] = ints (fnd t l L (i + 1)) := by
  unfold ints fnd
  rw [List.range_succ, List.filter_append, List.map_append]
  simp [h, h2]
theorem fnd_no {t : Int} {l : List S25} {L i : Nat} (h : ¬ (zl t l L i < 0 ∧ zfits t l (zl t l L) i = true)) : fnd t l L i = fnd t l L (i + 1) := by
  unfold fnd
  rw [List.range_succ, List.filter_append]
  by_cases h1 : zl t l L i < 0
  · simp [h1]
    cases h2 : zfits t l (zl t l L) i
    · rfl
    · exact absurd ⟨h1, h2⟩ h
  · simp [h1]
theorem sp_loop3 {t : Int} {l : List S25} (hr : RulesP t l) {L i : Nat} (hi : i < l.length) {K : Nat} {R : Option (List Int × Bool)}
    (next : ∀ k, K ≤ k → spec_LevelsOf.l2 k t l (tab (zl t l L) l.length) L (ints (fnd t l L (i + 1))) ((i + 1 : Nat) : Int) = R) :
    ∀ (d k w : Nat), w + d = 2 ^ t.toNat → K + d * 12 + 1 ≤ k → spec_LevelsOf.l3 k t l (tab (zl t l L) l.length) L (ints (fnd t l L i)) i (anyfit t l L i w) w = R
  | 0, k, w, hw, hk => by
    obtain ⟨k, rfl⟩ : ∃ m, k = m + 1 := ⟨k - 1, by omega⟩
    have h6 := hr.2.1
    have ht := hr.1
    have : w = 2 ^ t.toNat := by omega
    subst this
    have hfl := fnd_len t l L i
    simp only [spec_LevelsOf.l3]
    rw [if_pos (by omega), shl_things ht, if_neg (by omega), if_pos (by omega), if_pos (by rw [tab_len]; omega), anyfit_all, w64s (by omega)]
    have er : rd (tab (zl t l L) l.length) (i : Int) = zl t l L i := by
      show rk _ _ = _
      rw [tab_rk (by omega)]
    rw [er]
    have := next k (by omega)
    by_cases h1 : zl t l L i < 0
    · rw [if_pos h1]
      by_cases h2 : zfits t l (zl t l L) i = true
      · rw [if_pos h2, if_pos (by omega), fnd_yes h1 h2]
        exact this
      · rw [if_neg h2, fnd_no (fun h => h2 h.2)]
        exact this
    · rw [if_neg h1, fnd_no (fun h => h1 h.1)]
      exact this
  | d + 1, k, w, hw, hk => by
    obtain ⟨k, rfl⟩ : ∃ m, k = m + 2 := ⟨k - 2, by omega⟩
    have h6 := hr.2.1
    have ht := hr.1
    have h8 := worlds_le ht
    have hx := rx_ok hr hi
    have hy := ry_ok hr hi
    have ih : ∀ k', K + d * 12 + 1 ≤ k' → spec_LevelsOf.l3 k' t l (tab (zl t l L) l.length) L (ints (fnd t l L i)) i (anyfit t l L i w || (vv l i w && clean t l L w l.length)) ((w + 1 : Nat) : Int) = R := by
      intro k' hk'
      rw [← anyfit_succ]
      exact sp_loop3 hr hi next d k' (w + 1) (by omega) hk'
    have go4 := sp_loop4 hr (L := L) (fd := ints (fnd t l L i)) (i := i) (w := w) (by omega) (b := anyfit t l L i w) (v := vv l i w) ih l.length k 0 (by omega) (by omega)
    rw [show clean t l L w 0 = true from rfl, Bool.and_true, show ((0 : Nat) : Int) = 0 from rfl] at go4
    simp only [spec_LevelsOf.l3]
    rw [if_pos (by omega), shl_things ht, if_pos (by omega), if_pos (by omega), if_pos (by omega)]
    have e1 := l1Bit_eq (s := rx l i) (w := w) hx.1 (by omega)
    have e2 := l1Bit_eq (s := ry l i) (w := w) hy.1 (by omega)
    unfold rx at e1
    unfold ry at e2
    rw [e1, e2]
    simp only [Option.bind_some]
    have hv : vv l i w = (mem (rd_T25 l i).f0 w && mem (rd_T25 l i).f1 w) := rfl
    rw [hv] at go4
    cases m0 : mem (rd_T25 l i).f0 w
    · rw [m0] at go4
      rw [if_neg (by decide)]
      simp only [spec_LevelsOf.j4]
      exact go4
    · rw [m0] at go4
      rw [if_pos rfl]
      simp only [spec_LevelsOf.j4]
      cases m1 : mem (rd_T25 l i).f1 w
      · rw [m1] at go4
        exact go4
      · rw [m1] at go4
        exact go4
theorem sp_loop2 {t : Int} {l : List S25} (hr : RulesP t l) {L : Nat} {K : Nat} {R : Option (List Int × Bool)}
    (next : ∀ k, K ≤ k → spec_LevelsOf.l5 k t l (tab (zl t l L) l.length) L (ints (fnd t l L l.length)) 0 = R) :
    ∀ (d k i : Nat), i + d = l.length → K + d * 110 + 1 ≤ k → spec_LevelsOf.l2 k t l (tab (zl t l L) l.length) L (ints (fnd t l L i)) i = R
  | 0, k, i, hi, hk => by
    obtain ⟨k, rfl⟩ : ∃ m, k = m + 1 := ⟨k - 1, by omega⟩
    have : i = l.length := by omega
    subst this
    simp only [spec_LevelsOf.l2]
    rw [if_neg (by omega)]
    exact next k (by omega)
  | d + 1, k, i, hi, hk => by
    obtain ⟨k, rfl⟩ : ∃ m, k = m + 1 := ⟨k - 1, by omega⟩
    have h8 := worlds_le hr.1
    simp only [spec_LevelsOf.l2]
    rw [if_pos (by omega)]
    exact sp_loop3 hr (by omega) (K := K + d * 110 + 1) (fun k hk => sp_loop2 hr next d k (i + 1) (by omega) hk) (2 ^ t.toNat) k 0 (by omega) (by omega)
/-- The levels when the first of the found rules have got theirs. -/
def zset (t : Int) (l : List S25) (L : Nat) (s : List Nat) : Nat → Int := fun k => if k ∈ s then (L : Int) else zl t l L k
theorem sp_loop5 {t : Int} {l : List S25} (hr : RulesP t l) {L : Nat} {K : Nat} {R : Option (List Int × Bool)}
    (next : ∀ k, K ≤ k → spec_LevelsOf.l1 k t l (tab (zl t l (L + 1)) l.length) (wrap64 ((L : Int) + 1)) = R) :
    ∀ (d k q : Nat), q + d = (fnd t l L l.length).length → K + d + 1 ≤ k → spec_LevelsOf.l5 k t l (tab (zset t l L ((fnd t l L l.length).take q)) l.length) L (ints (fnd t l L l.length)) q = R
  | 0, k, q, hq, hk => by
    obtain ⟨k, rfl⟩ : ∃ m, k = m + 1 := ⟨k - 1, by omega⟩
    simp only [spec_LevelsOf.l5]
    rw [if_neg (by unfold ints; rw [List.length_map]; omega), List.take_of_length_le (by omega)]
    have e : tab (zset t l L (fnd t l L l.length)) l.length = tab (zl t l (L + 1)) l.length := tab_congr fun k hk => by
      unfold zset
      rw [zl_succ]
      have hm : k ∈ fnd t l L l.length ↔ (zl t l L k < 0 ∧ zfits t l (zl t l L) k = true) := by
        unfold fnd
        rw [List.mem_filter, List.mem_range, Bool.and_eq_true, decide_eq_true_eq]
        exact ⟨fun h => h.2, fun h => ⟨hk, h⟩⟩
      by_cases h : zl t l L k < 0 ∧ zfits t l (zl t l L) k = true
      · rw [if_pos (hm.2 h), if_pos h]
      · rw [if_neg (fun h2 => h (hm.1 h2)), if_neg h]
    rw [e]
    exact next k (by omega)
  | d + 1, k, q, hq, hk => by
    obtain ⟨k, rfl⟩ : ∃ m, k = m + 1 := ⟨k - 1, by omega⟩
    have h6 := hr.2.1
    have hql : q < (fnd t l L l.length).length := by omega
    have hfl := fnd_len t l L l.length
    have hll : (ints (fnd t l L l.length)).length = (fnd t l L l.length).length := by unfold ints; rw [List.length_map]
    obtain ⟨u, hu⟩ : ∃ u, (fnd t l L l.length)[q] = u := ⟨_, rfl⟩
    have hul : u < l.length := by
      have : u ∈ fnd t l L l.length := hu ▸ List.getElem_mem hql
      unfold fnd at this
      exact List.mem_range.1 (List.mem_filter.1 this).1
    have er : rd (ints (fnd t l L l.length)) (q : Int) = (u : Int) := by
      show rk _ _ = _
      rw [rk_get (by omega)]
      unfold ints
      rw [List.getElem_map, hu]
    simp only [spec_LevelsOf.l5]
    rw [if_pos (by omega), if_pos (by omega), er, if_pos (by omega), if_pos (by rw [tab_len]; omega), Int.toNat_natCast, tab_set hul, w64s (by omega)]
    have e : (fun k => if k = u then (L : Int) else zset t l L ((fnd t l L l.length).take q) k) = zset t l L ((fnd t l L l.length).take (q + 1)) := by
      funext k
      unfold zset
      rw [List.take_succ_eq_append_getElem hql, hu]
      by_cases h1 : k = u
      · subst h1
        rw [if_pos rfl, if_pos (by simp)]
      · rw [if_neg h1]
        by_cases h2 : k ∈ (fnd t l L l.length).take q
        · rw [if_pos h2, if_pos (List.mem_append_left _ h2)]
        · rw [if_neg h2, if_neg (by rw [List.mem_append, List.mem_singleton]; exact fun h => h.elim h2 h1)]
    rw [e]
    exact sp_loop5 hr next d k (q + 1) (by omega) (by omega)
theorem sp_loop6 {g : Nat → Int} {n : Nat} (hn : n ≤ 6) : ∀ (d k j : Nat), j + d = n → d + 1 ≤ k → (∀ i, i < j → 0 ≤ g i) → [Decidable (∀ k, k < n → 0 ≤ g k)] → spec_LevelsOf.l6 k (tab g n) j = some (if ∀ k, k < n → 0 ≤ g k then (tab g n, true) else ([], false))
  | 0, k, j, hj, hk, hi, _ => by
    obtain ⟨k, rfl⟩ : ∃ m, k = m + 1 := ⟨k - 1, by omega⟩
    simp only [spec_LevelsOf.l6]
    rw [if_neg (by rw [tab_len]; omega), if_pos (fun i h => hi i (by omega))]
  | d + 1, k, j, hj, hk, hi, _ => by
    obtain ⟨k, rfl⟩ : ∃ m, k = m + 1 := ⟨k - 1, by omega⟩
    simp only [spec_LevelsOf.l6]
    rw [if_pos (by rw [tab_len]; omega), if_pos (by omega)]
    have er : rd (tab g n) (j : Int) = g j := by
      show rk _ _ = _
      rw [tab_rk (by omega)]
    rw [er]
    by_cases h1 : g j < 0
    · rw [if_pos h1, if_neg (fun h => by have := h j (by omega); omega)]
    · rw [if_neg h1, w64s (by omega)]
      refine sp_loop6 hn d k (j + 1) (by omega) (by omega) fun i h => ?_
      by_cases e : i = j
      · subst e; omega
      · exact hi i (by omega)
theorem sp_loop1 {t : Int} {l : List S25} (hr : RulesP t l) (c : Nat) (hc : c = 700) : ∀ (d k L : Nat), L + d = l.length → d * c + 20 ≤ k → spec_LevelsOf.l1 k t l (tab (zl t l L) l.length) L = some (zres t l) := by
  intro d
  have h6 := hr.2.1
  induction d with
  | zero =>
    intro k L hL hk
    obtain ⟨k, rfl⟩ : ∃ m, k = m + 1 := ⟨k - 1, by omega⟩
    have : L = l.length := by omega
    subst this
    simp only [spec_LevelsOf.l1]
    rw [if_neg (by omega)]
    have := sp_loop6 (g := zl t l l.length) h6 l.length k 0 (by omega) (by omega) (fun i h => by omega)
    rw [show ((0 : Nat) : Int) = 0 from rfl] at this
    rw [this]
    rfl
  | succ d ih =>
    intro k L hL hk
    obtain ⟨k, rfl⟩ : ∃ m, k = m + 1 := ⟨k - 1, by omega⟩
    have hfl := fnd_len t l L l.length
    have hll : (ints (fnd t l L l.length)).length = (fnd t l L l.length).length := by unfold ints; rw [List.length_map]
    have hmul : (d + 1) * c = d * c + c := by rw [Nat.add_mul, Nat.one_mul]
    simp only [spec_LevelsOf.l1]
    rw [if_pos (by omega)]
    refine sp_loop2 hr (L := L) (K := d * c + 30) (fun k hk => ?_) l.length k 0 (by omega) (by omega)
    have := sp_loop5 hr (L := L) (K := d * c + 20) (R := some (zres t l)) (fun k hk => by rw [w64s (by omega)]; exact ih k (L + 1) (by omega) hk) (fnd t l L l.length).length k 0 (by omega) (by omega)
    have e : zset t l L ((fnd t l L l.length).take 0) = zl t l L := by
      funext k
      unfold zset
      rw [if_neg (by simp)]
    rw [e] at this
    exact this
theorem sp_loop0 {t : Int} {l : List S25} (hr : RulesP t l) (c : Nat) (hc : c = 700) : ∀ (d k j : Nat), j + d = l.length → d + l.length * c + 40 ≤ k → spec_LevelsOf.l0 k t l (tab (fun _ => -1) j) j = some (zres t l) := by
  intro d
  have h6 := hr.2.1
  induction d with
  | zero =>
    intro k j hj hk
    obtain ⟨k, rfl⟩ : ∃ m, k = m + 1 := ⟨k - 1, by omega⟩
    have : j = l.length := by omega
    subst this
    simp only [spec_LevelsOf.l0]
    rw [if_neg (by omega)]
    exact sp_loop1 hr c hc l.length k 0 (by omega) (by omega)
  | succ d ih =>
    intro k j hj hk
    obtain ⟨k, rfl⟩ : ∃ m, k = m + 1 := ⟨k - 1, by omega⟩
    simp only [spec_LevelsOf.l0]
    rw [if_pos (by omega), if_pos (by rw [tab_len]; omega), w64s (by omega), tab_snoc (fun _ => -1) j]
    exact ih k (j + 1) (by omega) (by omega)
open Classical in
theorem spec_LevelsOf_eq (t : Int) (l : List S25) (hl : l.length ≤ 17592186044416) {k : Nat} (hk : l.length + 4500 ≤ k) : spec_LevelsOf.f k t l = some (if RulesP t l then zres t l else ([], false)) := by
  unfold spec_LevelsOf.f
  rw [spec_RulesOk_eq _ _ hl (by omega)]
  simp only [Option.bind_some]
  by_cases hr : RulesP t l
  · rw [if_pos (by exact decide_eq_true hr), if_pos hr]
    have h6 := hr.2.1
    obtain ⟨c, hc⟩ : ∃ c, c = 700 := ⟨_, rfl⟩
    have hm : l.length * c ≤ 6 * c := Nat.mul_le_mul_right _ h6
    exact sp_loop0 hr c hc l.length k 0 (by omega) (by omega)
  · rw [if_neg (by intro h; exact hr (of_decide_eq_true h)), if_neg hr]
end Go.Proofs.Ytflaacdhifgpoaa.LV

/- Plain facts about what the printed functions answer (several pieces in one text). Conditions: those of each theorem. -/
import Derived.Test.YtfleephpcomimaaS2
import Derived.Test.YtfleephpcomimaaS3
import Derived.Test.YtfleephpcomimaaS4
import Derived.Test.YtfleephpcomimaaS5
import Derived.Test.YtfleephpcomimaaS6
import Derived.Test.YtfleephpcomimaaS11
import Derived.Test.YtfleephpcomimaaS12
import Derived.Test.YtfleephpcomimaaSLibA
import Derived.Test.YtfleephpcomimaaSets
set_option linter.unusedVariables false
set_option linter.unusedSimpArgs false
namespace Go.Proofs.Ytfleephpcomimaa.LS
open Go.RowKit Go.Proofs.YtfleephpcomimaaW.PrintWords Go.Proofs.YtfleephpcomimaaW.PrintLast Go.Proofs.YtfleephpcomimaaW.PrintMore Go.Proofs.BelM Go.Proofs.Ytfleephpcomimaa.S
/-! #### GTidy -/
theorem mem_take_succ {l : List Int} {j : Nat} (hj : j < l.length) (u : Int) : u ∈ l.take (j + 1) ↔ u ∈ l.take j ∨ rk l j = u := by
  rw [List.take_succ_eq_append_getElem hj, List.mem_append, List.mem_singleton, rk_get hj]
  exact or_congr Iff.rfl eq_comm
theorem l6_loop2 {l x3 seen : List Int} {w v : Nat} (hl : l.length ≤ 9) (hw : w < l.length) (hv : v < l.length) (hs : seen.length ≤ 9) {K : Nat} {R : Option (List Int)}
    (next : ∀ k, K ≤ k → (if rk l w ≤ rk l v ∨ rk l v ∈ seen then spec_l6Tidy.l1 k l x3 w seen (wrap64 ((v : Int) + 1)) else spec_l6Tidy.l1 k l x3 w (seen ++ [rk l v]) (wrap64 ((v : Int) + 1))) = R) :
    ∀ (d k j : Nat) (b : Bool), j + d = seen.length → K + d + 1 ≤ k → (b = true ↔ rk l w ≤ rk l v ∨ rk l v ∈ seen.take j) → spec_l6Tidy.l2 k l x3 w seen v b j = R
  | 0, k, j, b, hj, hk, hb => by
    obtain ⟨k, rfl⟩ : ∃ m, k = m + 1 := ⟨k - 1, by omega⟩
    simp only [spec_l6Tidy.l2]
    rw [if_neg (by omega)]
    rw [List.take_of_length_le (by omega)] at hb
    have := next k (by omega)
    by_cases h : rk l w ≤ rk l v ∨ rk l v ∈ seen
    · rw [if_pos h] at this
      rw [if_pos (hb.2 h)]
      exact this
    · rw [if_neg h] at this
      rw [if_neg (fun h2 => h (hb.1 h2)), if_pos (by omega), if_pos (by omega), if_pos (by omega)]
      exact this
  | d + 1, k, j, b, hj, hk, hb => by
    obtain ⟨k, rfl⟩ : ∃ m, k = m + 1 := ⟨k - 1, by omega⟩
    simp only [spec_l6Tidy.l2]
    rw [if_pos (by omega), w64s (by omega)]
    cases b
    · rw [if_neg (by decide), if_pos (by omega), if_pos (by omega), if_pos (by omega)]
      refine l6_loop2 hl hw hv hs next d k (j + 1) _ (by omega) (by omega) ?_
      rw [mem_take_succ (by omega), beq_iff_eq]
      constructor
      · intro h; exact .inr (.inr h)
      · rintro (h | h | h)
        · exact absurd (hb.2 (.inl h)) (by decide)
        · exact absurd (hb.2 (.inr h)) (by decide)
        · exact h
    · rw [if_pos rfl]
      refine l6_loop2 hl hw hv hs next d k (j + 1) true (by omega) (by omega) ?_
      rw [mem_take_succ (by omega)]
      constructor
      · intro h
        rcases hb.1 h with h | h
        · exact .inl h
        · exact .inr (.inl h)
      · intro _; rfl
theorem l6_loop1 {l x3 : List Int} {w : Nat} (hl : l.length ≤ 9) (h0 : ∀ v ∈ l, 0 ≤ v) (hw : w < l.length) (hx : x3.length ≤ 9) {K : Nat} {R : Option (List Int)}
    (next : ∀ k, K ≤ k → spec_l6Tidy.l0 k l (x3 ++ [(lo l (rk l w) : Int)]) (wrap64 ((w : Int) + 1)) = R) :
    ∀ (d k v : Nat) (seen : List Int), v + d = l.length → K + d * 12 + 1 ≤ k → seen.Nodup → (∀ u, u ∈ seen ↔ u ∈ l.take v ∧ u < rk l w) → spec_l6Tidy.l1 k l x3 w seen v = R
  | 0, k, v, seen, hv, hk, nd, hm => by
    obtain ⟨k, rfl⟩ : ∃ m, k = m + 1 := ⟨k - 1, by omega⟩
    simp only [spec_l6Tidy.l1]
    rw [if_neg (by omega), if_pos (by omega)]
    rw [List.take_of_length_le (by omega)] at hm
    rw [lo_is h0 nd hm]
    exact next k (by omega)
  | d + 1, k, v, seen, hv, hk, nd, hm => by
    obtain ⟨k, rfl⟩ : ∃ m, k = m + 1 := ⟨k - 1, by omega⟩
    simp only [spec_l6Tidy.l1]
    rw [if_pos (by omega), if_pos (by omega), if_pos (by omega), if_pos (by omega)]
    have hsl : seen.length ≤ 9 := Nat.le_trans (len_le nd (fun u hu => List.mem_of_mem_take ((hm u).1 hu).1)) hl
    refine l6_loop2 hl hw (by omega) hsl (K := K + d * 12 + 1) (fun k hk => ?_) seen.length k 0 _ (by omega) (by omega) ?_
    · rw [w64s (by omega)]
      by_cases h : rk l w ≤ rk l v ∨ rk l v ∈ seen
      · rw [if_pos h]
        refine l6_loop1 hl h0 hw hx next d k (v + 1) seen (by omega) hk nd fun u => ?_
        rw [hm, mem_take_succ (by omega)]
        constructor
        · rintro ⟨h1, h2⟩; exact ⟨.inl h1, h2⟩
        · rintro ⟨h1 | h1, h2⟩
          · exact ⟨h1, h2⟩
          · subst h1
            rcases h with h | h
            · omega
            · exact (hm _).1 h
      · rw [if_neg h]
        have h1 : ¬ rk l w ≤ rk l v := fun e => h (.inl e)
        have h2 : rk l v ∉ seen := fun e => h (.inr e)
        refine l6_loop1 hl h0 hw hx next d k (v + 1) _ (by omega) hk ?_ fun u => ?_
        · rw [List.nodup_append]
          exact ⟨nd, by simp, fun a ha b hb e => by rw [List.mem_singleton] at hb; subst hb; subst e; exact h2 ha⟩
        · rw [List.mem_append, List.mem_singleton, hm, mem_take_succ (by omega)]
          constructor
          · rintro (⟨a, b⟩ | a)
            · exact ⟨.inl a, b⟩
            · subst a; exact ⟨.inr rfl, by omega⟩
          · rintro ⟨a | a, b⟩
            · exact .inl ⟨a, b⟩
            · exact .inr a.symm
    · simp
      rfl
theorem l6_loop0 {l : List Int} (hl : l.length ≤ 9) (h0 : ∀ v ∈ l, 0 ≤ v) : ∀ (d k w : Nat), w + d = l.length → d * 130 + 1 ≤ k → spec_l6Tidy.l0 k l (tab (fun w => (lo l (rk l w) : Int)) w) w = some (tidyL l)
  | 0, k, w, hw, hk => by
    obtain ⟨k, rfl⟩ : ∃ m, k = m + 1 := ⟨k - 1, by omega⟩
    simp only [spec_l6Tidy.l0]
    have : w = l.length := by omega
    subst this
    rw [if_neg (by omega)]
    rfl
  | d + 1, k, w, hw, hk => by
    obtain ⟨k, rfl⟩ : ∃ m, k = m + 1 := ⟨k - 1, by omega⟩
    simp only [spec_l6Tidy.l0]
    rw [if_pos (by omega)]
    refine l6_loop1 hl h0 (by omega) (by rw [tab_len]; omega) (K := d * 130 + 1) (fun k hk => ?_) l.length k 0 [] (by omega) (by omega) (by simp) (fun u => by simp)
    rw [w64s (by omega), tab_snoc (fun w => (lo l (rk l w) : Int)) w]
    exact l6_loop0 hl h0 d k (w + 1) (by omega) hk
theorem l6Tidy_eq {l : List Int} (hl : l.length ≤ 9) (h0 : ∀ v ∈ l, 0 ≤ v) {k : Nat} (hk : 2000 ≤ k) : spec_l6Tidy.f k l = some (tidyL l) :=
  l6_loop0 hl h0 l.length k 0 (by omega) (by omega)
/-! ### The ranks' own way -/
/-- How many of the numbers less than r are in the row. -/
def cnt (l : List Int) (r : Nat) : Nat := (List.range r).countP fun q : Nat => decide ((q : Int) ∈ l)
theorem cnt_succ (l : List Int) (r : Nat) : cnt l (r + 1) = cnt l r + if (r : Int) ∈ l then 1 else 0 := by
  unfold cnt
  rw [List.range_succ, List.countP_append, List.countP_singleton]
  simp
theorem tr_loop2 {t : Int} {l x5 : List Int} {w : Nat} {n : Int} {r : Nat} (hl : l.length ≤ 9) {K : Nat} {R : Option (List Int)}
    (next : ∀ k, K ≤ k → (if (r : Int) ∈ l then spec_TidyRank.l1 k t l x5 w (wrap64 (n + 1)) (wrap64 ((r : Int) + 1)) else spec_TidyRank.l1 k t l x5 w n (wrap64 ((r : Int) + 1))) = R) :
    ∀ (d k j : Nat) (b : Bool), j + d = l.length → K + d + 1 ≤ k → (b = true ↔ (r : Int) ∈ l.take j) → spec_TidyRank.l2 k t l x5 w n r b j = R
  | 0, k, j, b, hj, hk, hb => by
    obtain ⟨k, rfl⟩ : ∃ m, k = m + 1 := ⟨k - 1, by omega⟩
    simp only [spec_TidyRank.l2]
    rw [if_neg (by omega)]
    rw [List.take_of_length_le (by omega)] at hb
    have := next k (by omega)
    by_cases h : (r : Int) ∈ l
    · rw [if_pos h] at this
      rw [if_pos (hb.2 h)]
      exact this
    · rw [if_neg h] at this
      rw [if_neg (fun h2 => h (hb.1 h2))]
      exact this
  | d + 1, k, j, b, hj, hk, hb => by
    obtain ⟨k, rfl⟩ : ∃ m, k = m + 1 := ⟨k - 1, by omega⟩
    simp only [spec_TidyRank.l2]
    rw [if_pos (by omega), w64s (by omega)]
    cases b
    · rw [if_neg (by decide), if_pos (by omega)]
      refine tr_loop2 hl next d k (j + 1) _ (by omega) (by omega) ?_
      rw [mem_take_succ (by omega), beq_iff_eq]
      constructor
      · intro h; exact .inr h
      · rintro (h | h)
        · exact absurd (hb.2 h) (by decide)
        · exact h
    · rw [if_pos rfl]
      refine tr_loop2 hl next d k (j + 1) true (by omega) (by omega) ?_
      rw [mem_take_succ (by omega)]
      exact ⟨fun h => .inl (hb.1 h), fun _ => rfl⟩
theorem tr_loop1 {t : Int} {l x5 : List Int} {w : Nat} (hl : l.length ≤ 9) (hw : w < l.length) (hr : 0 ≤ rk l w ∧ rk l w ≤ 9) (hx : x5.length ≤ 9) {K : Nat} {R : Option (List Int)}
    (next : ∀ k, K ≤ k → spec_TidyRank.l0 k t l (x5 ++ [(lo l (rk l w) : Int)]) (wrap64 ((w : Int) + 1)) = R) :
    ∀ (d k r : Nat), (r : Int) + (d : Int) = rk l w → K + d * 12 + 1 ≤ k → spec_TidyRank.l1 k t l x5 w (cnt l r : Int) r = R
  | 0, k, r, hd, hk => by
    obtain ⟨k, rfl⟩ : ∃ m, k = m + 1 := ⟨k - 1, by omega⟩
    simp only [spec_TidyRank.l1]
    rw [if_pos (by omega), if_pos (by omega), if_neg (by show ¬ (r : Int) < rk l w; omega), if_pos (by omega)]
    have : cnt l r = lo l (rk l w) := by unfold cnt lo; rw [show (rk l w).toNat = r by omega]
    rw [this]
    exact next k (by omega)
  | d + 1, k, r, hd, hk => by
    obtain ⟨k, rfl⟩ : ∃ m, k = m + 1 := ⟨k - 1, by omega⟩
    have hc : cnt l r ≤ r := by
      have := List.countP_le_length (p := fun q : Nat => decide ((q : Int) ∈ l)) (l := List.range r)
      rw [List.length_range] at this
      exact this
    simp only [spec_TidyRank.l1]
    rw [if_pos (by omega), if_pos (by omega), if_pos (by show (r : Int) < rk l w; omega)]
    refine tr_loop2 hl (K := K + d * 12 + 1) (fun k hk => ?_) l.length k 0 false (by omega) (by omega) (by simp)
    have e := cnt_succ l r
    have ih := tr_loop1 hl hw hr hx next d k (r + 1) (by omega) hk
    rw [w64s (by omega)]
    by_cases h : (r : Int) ∈ l
    · rw [if_pos h] at e ⊢
      rw [w64s (by omega), ← e]
      exact ih
    · have e2 : cnt l (r + 1) = cnt l r := by rw [e, if_neg h]; rfl
      rw [if_neg h, ← e2, w64s (by omega)]
      exact ih
theorem tr_loop0 {t : Int} {l : List Int} (hr : RankP t l) : ∀ (d k w : Nat), w + d = l.length → d * 130 + 20 ≤ k → spec_TidyRank.l0 k t l (tab (fun w => (lo l (rk l w) : Int)) w) w = some (tidyL l)
  | 0, k, w, hw, hk => by
    obtain ⟨k, rfl⟩ : ∃ m, k = m + 2 := ⟨k - 2, by omega⟩
    simp only [spec_TidyRank.l0]
    have : w = l.length := by omega
    subst this
    rw [if_neg (by omega)]
    simp only [spec_TidyRank.j1]
    rw [if_neg (by decide)]
    rfl
  | d + 1, k, w, hw, hk => by
    obtain ⟨k, rfl⟩ : ∃ m, k = m + 2 := ⟨k - 2, by omega⟩
    have h8 := hr.len
    simp only [spec_TidyRank.l0]
    rw [if_pos (by omega), spec_RankOk_eq _ _ (by omega) (by omega)]
    simp only [Option.bind_some]
    simp only [spec_TidyRank.j1]
    rw [if_pos (by simp [hr])]
    have hb := hr.2.2.1 w (by omega)
    refine tr_loop1 (by omega) (by omega) hb (by rw [tab_len]; omega) (K := d * 130 + 20) (fun k hk => ?_) (rk l w).toNat k 0 (by omega) (by omega)
    rw [w64s (by omega), tab_snoc (fun w => (lo l (rk l w) : Int)) w]
    exact tr_loop0 hr d k (w + 1) (by omega) hk
theorem spec_TidyRank_eq (t : Int) (l : List Int) (hl : l.length ≤ 17592186044416) {k : Nat} (hk : l.length + 2000 ≤ k) [Decidable (RankP t l)] : spec_TidyRank.f k t l = some (if RankP t l then tidyL l else []) := by
  unfold spec_TidyRank.f
  by_cases hr : RankP t l
  · rw [if_pos hr]
    have h8 := hr.len
    exact tr_loop0 hr l.length k 0 (by omega) (by omega)
  · rw [if_neg hr]
    obtain ⟨k, rfl⟩ : ∃ m, k = m + 2 := ⟨k - 2, by omega⟩
    simp only [spec_TidyRank.l0]
    by_cases h0 : (0 : Int) < (l.length : Int)
    · rw [if_pos h0, spec_RankOk_eq _ _ hl (by omega)]
      simp only [Option.bind_some]
      simp only [spec_TidyRank.j1]
      rw [if_neg (by simp [hr])]
    · rw [if_neg h0]
      simp only [spec_TidyRank.j1]
      rw [if_neg (by decide)]
theorem RankP.nonneg {t : Int} {l : List Int} (h : RankP t l) : ∀ v ∈ l, 0 ≤ v := by
  intro v hv
  obtain ⟨p, hp, rfl⟩ := mem_rk.1 hv
  exact (h.2.2.1 p hp).1
/-! #### GChange -/
/-- The worlds that come ahead. -/
def frontS (t : Int) (l : List Int) (way s : Int) : Int := if way = 0 then rev (2 ^ t.toNat) (rk l) s else s
def riseL (l : List Int) (F : Int) : List Int := tab (fun w => if mem F w = true then rk l w else rk l w + 10) l.length
def changedL (t : Int) (l : List Int) (way s : Int) : List Int := tidyL (riseL l (frontS t l way s))
theorem riseL_len (l : List Int) (F : Int) : (riseL l F).length = l.length := tab_len _ _
theorem riseL_rk {l : List Int} {F : Int} {w : Nat} (hw : w < l.length) : rk (riseL l F) w = if mem F w = true then rk l w else rk l w + 10 := tab_rk hw
theorem riseL_nonneg {l : List Int} {F : Int} (h : ∀ v ∈ l, 0 ≤ v) : ∀ v ∈ riseL l F, 0 ≤ v := by
  intro v hv
  obtain ⟨p, hp, rfl⟩ := mem_rk.1 hv
  rw [riseL_len] at hp
  rw [riseL_rk hp]
  have := h _ (mem_rk.2 ⟨p, hp, rfl⟩)
  split <;> omega
theorem frontS_nonneg {t : Int} {l : List Int} {way s : Int} (hs : SetP t s) : 0 ≤ frontS t l way s ∧ frontS t l way s < 256 := by
  unfold frontS
  split
  · exact ⟨rev_nonneg _ _ _, lt256 (worlds_le hs.1) (rev_lt _ _ _)⟩
  · exact ⟨hs.2.1, hs.lt256⟩
theorem changed_loop {t : Int} {l : List Int} (hr : RankP t l) {F : Int} (h0 : 0 ≤ F) (h1 : F < 256) : ∀ (d k j : Nat), j + d = l.length → d + 310 ≤ k →
    impl_changedBy.l0 k F (tab (fun w => if mem F w = true then rk l w else rk l w + 10) j) l l.length j = some (tidyL (riseL l F))
  | 0, k, j, hj, hk => by
    obtain ⟨k, rfl⟩ : ∃ m, k = m + 1 := ⟨k - 1, by omega⟩
    simp only [impl_changedBy.l0]
    have : j = l.length := by omega
    subst this
    have h8 := hr.len
    rw [if_neg (by omega), show tab (fun w => if mem F w = true then rk l w else rk l w + 10) l.length = riseL l F from rfl, tidy_eq (riseL_nonneg hr.nonneg) (by rw [riseL_len]; omega) (by omega)]
    rfl
  | d + 1, k, j, hj, hk => by
    obtain ⟨k, rfl⟩ : ∃ m, k = m + 1 := ⟨k - 1, by omega⟩
    have h8 := hr.len
    have hb := hr.2.2.1 j (by omega)
    simp only [impl_changedBy.l0]
    rw [if_pos (by omega), if_pos (by omega), if_pos (by omega), and_bit h0 h1 (by omega), w64s (by omega)]
    have hsn := tab_snoc (fun w => if mem F w = true then rk l w else rk l w + 10) j
    have ih := changed_loop hr h0 h1 d k (j + 1) (by omega) (by omega)
    by_cases hm : mem F j = true
    · rw [if_pos hm] at hsn
      rw [if_pos hm, if_neg (by decide), if_pos (by rw [tab_len]; omega), show rd l (j : Int) = rk l j from rfl, hsn]
      exact ih
    · rw [if_neg hm] at hsn
      rw [if_neg hm, if_pos rfl, if_pos (by rw [tab_len]; omega), show rd l (j : Int) = rk l j from rfl, w64 (by omega) (by omega), hsn]
      exact ih
theorem impl_changedBy_eq {t : Int} {l : List Int} {way s : Int} (hr : RankP t l) (hs : SetP t s) {k : Nat} (hk : 400 ≤ k) : impl_changedBy.f k t l way s = some (changedL t l way s) := by
  have h8 := hr.len
  obtain ⟨f0, f1⟩ := frontS_nonneg (l := l) (way := way) hs
  unfold impl_changedBy.f
  unfold changedL
  unfold frontS at *
  obtain ⟨k, rfl⟩ : ∃ m, k = m + 1 := ⟨k - 1, by omega⟩
  by_cases hw : way = 0
  · rw [if_pos hw] at f0 f1 ⊢
    rw [if_pos hw, revisedBy_eq hr.1 hr.2.1 hs.2.1 hs.lt256 (by omega)]
    simp only [Option.bind_some]
    simp only [impl_changedBy.j0]
    exact changed_loop hr f0 f1 l.length k 0 (by omega) (by omega)
  · rw [if_neg hw] at f0 f1 ⊢
    rw [if_neg hw]
    simp only [impl_changedBy.j0]
    exact changed_loop hr f0 f1 l.length k 0 (by omega) (by omega)
theorem rise_loop {t : Int} {l : List Int} (hr : RankP t l) {F : Int} (h0 : 0 ≤ F) : ∀ (d k j : Nat), j + d = l.length → d + 2010 ≤ k →
    spec_l6Rise.l0 k l F (tab (fun w => if mem F w = true then rk l w else rk l w + 10) j) j = some (tidyL (riseL l F))
  | 0, k, j, hj, hk => by
    obtain ⟨k, rfl⟩ : ∃ m, k = m + 1 := ⟨k - 1, by omega⟩
    simp only [spec_l6Rise.l0]
    have : j = l.length := by omega
    subst this
    have h8 := hr.len
    rw [if_neg (by omega), show tab (fun w => if mem F w = true then rk l w else rk l w + 10) l.length = riseL l F from rfl, l6Tidy_eq (by rw [riseL_len]; omega) (riseL_nonneg hr.nonneg) (by omega)]
    rfl
  | d + 1, k, j, hj, hk => by
    obtain ⟨k, rfl⟩ : ∃ m, k = m + 1 := ⟨k - 1, by omega⟩
    have h8 := hr.len
    have hb := hr.2.2.1 j (by omega)
    simp only [spec_l6Rise.l0]
    rw [if_pos (by omega), if_pos (by omega), l1Bit_eq h0 (by omega)]
    simp only [Option.bind_some]
    rw [if_pos (by rw [tab_len]; omega), w64s (by omega)]
    have hsn := tab_snoc (fun w => if mem F w = true then rk l w else rk l w + 10) j
    have ih := rise_loop hr h0 d k (j + 1) (by omega) (by omega)
    have e : wrap64 (rd l (j : Int) + wrap64 (wrap64 (1 - (if mem F j = true then 1 else 0)) * 10)) = if mem F j = true then rk l j else rk l j + 10 := by
      show wrap64 (rk l j + _) = _
      by_cases hm : mem F j = true
      · rw [if_pos hm, if_pos hm, w64 (x := 1 - 1) (by omega) (by omega), w64 (x := (1 - 1) * 10) (by omega) (by omega), w64 (by omega) (by omega)]; omega
      · rw [if_neg hm, if_neg hm, w64 (x := 1 - 0) (by omega) (by omega), w64 (x := (1 - 0) * 10) (by omega) (by omega), w64 (by omega) (by omega)]; omega
    rw [e, hsn]
    exact ih
theorem l6Rise_eq {t : Int} {l : List Int} (hr : RankP t l) {F : Int} (h0 : 0 ≤ F) {k : Nat} (hk : 2100 ≤ k) : spec_l6Rise.f k l F = some (tidyL (riseL l F)) := by
  have h8 := hr.len
  exact rise_loop hr h0 l.length k 0 (by omega) (by omega)
/-- What can come. -/
def ChgP (t : Int) (l : List Int) (way s : Int) : Prop := RankP t l ∧ SetP t s ∧ s ≠ 0 ∧ (way = 0 ∨ way = 1)
theorem spec_ChangedBy_eq (t : Int) (l : List Int) (way s : Int) (hl : l.length ≤ 17592186044416) {k : Nat} (hk : l.length + 2200 ≤ k) [Decidable (ChgP t l way s)] : spec_ChangedBy.f k t l way s = some (if ChgP t l way s then (changedL t l way s, true) else ([], false)) := by
  unfold spec_ChangedBy.f
  obtain ⟨k, rfl⟩ : ∃ m, k = m + 1 := ⟨k - 1, by omega⟩
  rw [spec_RankOk_eq _ _ hl (by omega), SetOk_eq, l1In_eq]
  simp only [Option.bind_some]
  by_cases hr : RankP t l
  · have h8 := hr.len
    rw [if_pos (by simp [hr])]
    by_cases hs : SetP t s
    · rw [if_pos (by simp [hs])]
      by_cases h0 : s = 0
      · rw [if_pos h0, if_neg (fun h => h.2.2.1 h0)]
        simp only [spec_ChangedBy.j0]
        rw [if_pos trivial]
      · rw [if_neg h0]
        simp only [spec_ChangedBy.j0]
        obtain ⟨f0, f1⟩ := frontS_nonneg (l := l) (way := way) hs
        by_cases hw : way = 0
        · rw [if_neg (by simp [hw]), if_pos hw, l2Least_eq hs.2.1 h8 (by omega), hr.2.1]
          simp only [Option.bind_some]
          unfold frontS at f0
          rw [if_pos hw] at f0
          rw [l6Rise_eq hr f0 (by omega)]
          simp only [Option.bind_some]
          rw [if_pos ⟨hr, hs, h0, .inl hw⟩]
          unfold changedL frontS
          rw [if_pos hw]
        · by_cases hw1 : way = 1
          · rw [if_neg (by simp [hw1]), if_neg hw, l6Rise_eq hr hs.2.1 (by omega)]
            simp only [Option.bind_some]
            rw [if_pos ⟨hr, hs, h0, .inr hw1⟩]
            unfold changedL frontS
            rw [if_neg hw]
          · rw [if_pos (by simp; omega), if_neg (fun h => h.2.2.2.elim hw hw1)]
    · rw [if_neg (by simp [hs]), if_neg (fun h => hs h.2.1)]
      simp only [spec_ChangedBy.j0]
      rw [if_pos trivial]
  · rw [if_neg (by simp [hr]), if_neg (fun h => hr h.1)]
    simp only [spec_ChangedBy.j0]
    rw [if_pos trivial]
/-! #### GOrder -/
theorem cnt_mono (l : List Int) (r : Nat) : ∀ d, cnt l r ≤ cnt l (r + d)
  | 0 => Nat.le_refl _
  | d + 1 => Nat.le_trans (cnt_mono l r d) (by rw [← Nat.add_assoc, cnt_succ]; exact Nat.le_add_right _ _)
theorem lo_cnt (l : List Int) (x : Int) : lo l x = cnt l x.toNat := rfl
theorem lo_mono {l : List Int} {x y : Int} (h : x ≤ y) : lo l x ≤ lo l y := by
  rw [lo_cnt, lo_cnt]
  obtain ⟨d, hd⟩ : ∃ d, y.toNat = x.toNat + d := ⟨y.toNat - x.toNat, by omega⟩
  rw [hd]
  exact cnt_mono _ _ _
theorem lo_lt {l : List Int} {x y : Int} (hx : x ∈ l) (h0 : 0 ≤ x) (h : x < y) : lo l x < lo l y := by
  have h1 : lo l (x + 1) ≤ lo l y := lo_mono (by omega)
  have h2 : lo l (x + 1) = lo l x + 1 := by
    rw [lo_cnt, lo_cnt, show (x + 1).toNat = x.toNat + 1 by omega, cnt_succ, if_pos (by rw [Int.toNat_of_nonneg h0]; exact hx)]
  omega
theorem lo_lt_iff {l : List Int} {x y : Int} (hx : x ∈ l) (h0 : 0 ≤ x) : lo l x < lo l y ↔ x < y := by
  constructor
  · intro h
    refine Classical.byContradiction fun hn => ?_
    have := lo_mono (l := l) (x := y) (y := x) (by omega)
    omega
  · exact lo_lt hx h0
theorem cnt_zero {l : List Int} {r : Nat} (h : ∀ v ∈ l, (r : Int) ≤ v) : cnt l r = 0 := by
  unfold cnt
  rw [List.countP_eq_zero]
  intro q hq
  rw [List.mem_range] at hq
  rw [decide_eq_true_eq]
  intro hm
  have := h _ hm
  omega
theorem lo_zero {l : List Int} {x : Int} (h : ∀ v ∈ l, x ≤ v) : lo l x = 0 := by
  rw [lo_cnt]
  by_cases hx : 0 ≤ x
  · exact cnt_zero (fun v hv => by have := h v hv; omega)
  · rw [show x.toNat = 0 by omega]; rfl
theorem lo_le {l : List Int} (x : Int) : lo l x ≤ l.length := by
  have e : lo l x = (((List.range x.toNat).filter fun r : Nat => decide ((r : Int) ∈ l)).map fun r : Nat => (r : Int)).length := by
    unfold lo
    rw [List.length_map, List.countP_eq_length_filter]
  rw [e]
  refine len_le ?_ fun v hv => ?_
  · refine List.Pairwise.map _ ?_ (List.Pairwise.filter _ List.nodup_range)
    intro a b hab hc
    exact hab (by exact_mod_cast hc)
  · obtain ⟨r, hr, rfl⟩ := List.mem_map.1 hv
    have h2 := (List.mem_filter.1 hr).2
    rw [decide_eq_true_eq] at h2
    exact h2
/-- Each number of levels below one that is reached is reached. -/
theorem cnt_reach {l : List Int} {q : Nat} : ∀ r, q < cnt l r → ∃ v : Nat, (v : Int) ∈ l ∧ cnt l v = q
  | 0, h => absurd h (Nat.not_lt_zero _)
  | r + 1, h => by
    rw [cnt_succ] at h
    by_cases h1 : q < cnt l r
    · exact cnt_reach r h1
    · by_cases h2 : (r : Int) ∈ l
      · rw [if_pos h2] at h
        exact ⟨r, h2, by omega⟩
      · rw [if_neg h2] at h
        omega
theorem tidyL_len (l : List Int) : (tidyL l).length = l.length := tab_len _ _
theorem tidyL_rk {l : List Int} {w : Nat} (hw : w < l.length) : rk (tidyL l) w = lo l (rk l w) := tab_rk hw
theorem rk_mem {l : List Int} {w : Nat} (hw : w < l.length) : rk l w ∈ l := mem_rk.2 ⟨w, hw, rfl⟩
theorem tidyL_lt {l : List Int} (h0 : ∀ v ∈ l, 0 ≤ v) {v w : Nat} (hv : v < l.length) (hw : w < l.length) : rk (tidyL l) v < rk (tidyL l) w ↔ rk l v < rk l w := by
  rw [tidyL_rk hv, tidyL_rk hw]
  have := lo_lt_iff (l := l) (x := rk l v) (y := rk l w) (rk_mem hv) (h0 _ (rk_mem hv))
  omega
theorem tidyL_zero {l : List Int} (h0 : ∀ v ∈ l, 0 ≤ v) {w : Nat} (hw : w < l.length) : rk (tidyL l) w = 0 ↔ ∀ v, v < l.length → rk l w ≤ rk l v := by
  rw [tidyL_rk hw]
  constructor
  · intro h v hv
    refine Classical.byContradiction fun hn => ?_
    have := lo_lt (rk_mem hv) (h0 _ (rk_mem hv)) (show rk l v < rk l w by omega)
    omega
  · intro h
    rw [lo_zero]
    · rfl
    · intro v hv
      obtain ⟨p, hp, rfl⟩ := mem_rk.1 hv
      exact h p hp
theorem tidyL_nonneg {l : List Int} : ∀ v ∈ tidyL l, 0 ≤ v := by
  intro v hv
  obtain ⟨p, hp, rfl⟩ := mem_rk.1 hv
  rw [tidyL_len] at hp
  rw [tidyL_rk hp]
  omega
theorem tidyL_idem {l : List Int} (h0 : ∀ v ∈ l, 0 ≤ v) : tidyL (tidyL l) = tidyL l := by
  show tab _ _ = _
  refine tab_eq (by rw [tidyL_len]) fun w hw => ?_
  rw [tidyL_len] at hw
  rw [tidyL_rk hw]
  have key : lo (tidyL l) (lo l (rk l w) : Int) = lo l (rk l w) := by
    rw [lo_cnt (tidyL l), Int.toNat_natCast]
    have all : ∀ n, n ≤ lo l (rk l w) → cnt (tidyL l) n = n := by
      intro n
      induction n with
      | zero => intro _; rfl
      | succ n ih =>
        intro hn
        rw [cnt_succ, ih (by omega), if_pos]
        obtain ⟨v, hv, e⟩ := cnt_reach (l := l) (q := n) (rk l w).toNat (by rw [← lo_cnt]; omega)
        obtain ⟨p, hp, e2⟩ := mem_rk.1 hv
        refine mem_rk.2 ⟨p, by rw [tidyL_len]; exact hp, ?_⟩
        rw [tidyL_rk hp, e2, lo_cnt, Int.toNat_natCast, e]
    exact all _ (Nat.le_refl _)
  omega
theorem rankP_tidy {t : Int} {l : List Int} (ht : 1 ≤ t ∧ t ≤ 3) (hl : l.length = 2 ^ t.toNat) (h0 : ∀ v ∈ l, 0 ≤ v) : RankP t (tidyL l) := by
  have h8 := worlds_le ht
  have h2 := worlds_ge ht
  refine ⟨ht, by rw [tidyL_len, hl], fun w hw => ?_, ?_⟩
  · rw [tidyL_len] at hw
    rw [tidyL_rk hw]
    have := lo_le (l := l) (rk l w)
    omega
  · obtain ⟨w, hw, e⟩ := minTo_at (rk l) l.length (by omega)
    refine ⟨w, by rw [tidyL_len]; exact hw, (tidyL_zero h0 hw).2 fun v hv => ?_⟩
    rw [e]
    exact minTo_le (rk l) l.length v hv
theorem rankP_changed {t : Int} {l : List Int} {way s : Int} (hr : RankP t l) : RankP t (changedL t l way s) :=
  rankP_tidy hr.1 (by rw [riseL_len]; exact hr.2.1) (riseL_nonneg hr.nonneg)
/-! ### One after the other -/
open Classical in
/-- The ranks after some sets; none if one of them is none. -/
noncomputable def afterL (t way : Int) : List Int → List Int → Option (List Int)
  | now, [] => some now
  | now, s :: ss => if SetP t s ∧ s ≠ 0 then afterL t way (changedL t now way s) ss else none
def AftP (t : Int) (l : List Int) (way : Int) (ss : List Int) : Prop := RankP t l ∧ (way = 0 ∨ way = 1) ∧ ss.length ≤ 8
def told : Option (List Int) → List Int × Bool
  | some x => (x, true)
  | none => ([], false)
open Classical in
theorem impl_after_loop {t way : Int} (ss : List Int) (hss : ss.length ≤ 8) : ∀ (d k j : Nat) (now : List Int), RankP t now → j + d = ss.length → d + 410 ≤ k →
    impl_AfterAll.l0 k t way now ss ss.length j = some (told (afterL t way now (ss.drop j)))
  | 0, k, j, now, hr, hj, hk => by
    obtain ⟨k, rfl⟩ : ∃ m, k = m + 1 := ⟨k - 1, by omega⟩
    simp only [impl_AfterAll.l0]
    rw [if_neg (by omega), List.drop_of_length_le (by omega)]
    rfl
  | d + 1, k, j, now, hr, hj, hk => by
    obtain ⟨k, rfl⟩ : ∃ m, k = m + 1 := ⟨k - 1, by omega⟩
    have e : rd ss (j : Int) = ss[j]'(by omega) := (rk_get (l := ss) (i := j) (by omega))
    simp only [impl_AfterAll.l0]
    rw [if_pos (by omega), if_pos (by omega), if_pos (by omega), isSet_eq, List.drop_eq_getElem_cons (show j < ss.length by omega), e]
    simp only [Option.bind_some, afterL]
    generalize ss[j] = s
    by_cases hs : SetP t s
    · rw [if_pos (by simp [hs])]
      by_cases h0 : s = 0
      · rw [if_pos h0, if_neg (fun h => h.2 h0)]
        rfl
      · rw [if_neg h0, if_pos ⟨hs, h0⟩, impl_changedBy_eq hr hs (by omega), w64s (by omega)]
        simp only [Option.bind_some]
        exact impl_after_loop ss hss d k (j + 1) _ (rankP_changed hr) (by omega) (by omega)
    · rw [if_neg (by simp [hs]), if_neg (fun h => hs h.1)]
      rfl
open Classical in
theorem spec_after_loop {t way : Int} (hw : way = 0 ∨ way = 1) (ss : List Int) (hss : ss.length ≤ 8) : ∀ (d k j : Nat) (now : List Int), RankP t now → j + d = ss.length → d + 2300 ≤ k →
    spec_AfterAll.l0 k t way ss now j = some (told (afterL t way now (ss.drop j)))
  | 0, k, j, now, hr, hj, hk => by
    obtain ⟨k, rfl⟩ : ∃ m, k = m + 1 := ⟨k - 1, by omega⟩
    simp only [spec_AfterAll.l0]
    rw [if_neg (by omega), List.drop_of_length_le (by omega)]
    rfl
  | d + 1, k, j, now, hr, hj, hk => by
    obtain ⟨k, rfl⟩ : ∃ m, k = m + 1 := ⟨k - 1, by omega⟩
    have e : rd ss (j : Int) = ss[j]'(by omega) := (rk_get (l := ss) (i := j) (by omega))
    have h8 := hr.len
    simp only [spec_AfterAll.l0]
    rw [if_pos (by omega), if_pos (by omega), spec_ChangedBy_eq _ _ _ _ (by omega) (by omega), List.drop_eq_getElem_cons (show j < ss.length by omega), e]
    simp only [Option.bind_some, afterL]
    generalize ss[j] = s
    by_cases hs : SetP t s ∧ s ≠ 0
    · rw [if_pos hs, if_pos (show ChgP t now way s from ⟨hr, hs.1, hs.2, hw⟩)]
      simp only
      rw [if_pos trivial, w64s (by omega)]
      exact spec_after_loop hw ss hss d k (j + 1) _ (rankP_changed hr) (by omega) (by omega)
    · rw [if_neg hs, if_neg (fun h : ChgP t now way s => hs ⟨h.2.1, h.2.2.1⟩)]
      simp only
      rw [if_neg (by decide)]
      rfl
open Classical in
theorem impl_AfterAll_eq (t : Int) (l : List Int) (way : Int) (ss : List Int) {k : Nat} (hk : 600 ≤ k) : impl_AfterAll.f k t l way ss = some (if AftP t l way ss then told (afterL t way (tidyL l) ss) else ([], false)) := by
  obtain ⟨k, rfl⟩ : ∃ m, k = m + 1 := ⟨k - 1, by omega⟩
  unfold impl_AfterAll.f
  rw [isRank_eq _ _ (by omega)]
  simp only [Option.bind_some]
  have main : ∀ b : Bool, RankP t l → (b = true ↔ ¬ ss.length ≤ 8) → impl_AfterAll.j0 (k + 1) t l way ss b = some (if ss.length ≤ 8 then told (afterL t way (tidyL l) ss) else ([], false)) := by
    intro b hr hb
    have h8 := hr.len
    simp only [impl_AfterAll.j0]
    by_cases h : ss.length ≤ 8
    · rw [if_neg (fun e => (hb.1 e) h), if_pos h, tidy_eq hr.nonneg (by omega) (by omega)]
      simp only [Option.bind_some]
      have := impl_after_loop (t := t) (way := way) ss h ss.length k 0 (tidyL l) (rankP_tidy hr.1 hr.2.1 hr.nonneg) (by omega) (by omega)
      rw [List.drop_zero] at this
      exact this
    · rw [if_pos (hb.2 h), if_neg h]
  have no : impl_AfterAll.j0 (k + 1) t l way ss true = some ([], false) := by
    simp only [impl_AfterAll.j0]
    rw [if_pos trivial]
  by_cases hr : RankP t l
  · rw [if_pos (by simp [hr])]
    by_cases h0 : way = 0
    · rw [if_pos h0, main _ hr (by simp; omega)]
      by_cases h8 : ss.length ≤ 8
      · rw [if_pos h8, if_pos (show AftP t l way ss from ⟨hr, .inl h0, h8⟩)]
      · rw [if_neg h8, if_neg (fun h : AftP t l way ss => h8 h.2.2)]
    · rw [if_neg h0]
      by_cases h1 : way = 1
      · rw [if_pos h1, main _ hr (by simp; omega)]
        by_cases h8 : ss.length ≤ 8
        · rw [if_pos h8, if_pos (show AftP t l way ss from ⟨hr, .inr h1, h8⟩)]
        · rw [if_neg h8, if_neg (fun h : AftP t l way ss => h8 h.2.2)]
      · rw [if_neg h1, no, if_neg (fun h : AftP t l way ss => h.2.1.elim h0 h1)]
  · rw [if_neg (by simp [hr]), no, if_neg (fun h : AftP t l way ss => hr h.1)]
open Classical in
theorem spec_AfterAll_eq (t : Int) (l : List Int) (way : Int) (ss : List Int) (hl : l.length ≤ 17592186044416) {k : Nat} (hk : l.length + 2500 ≤ k) : spec_AfterAll.f k t l way ss = some (if AftP t l way ss then told (afterL t way (tidyL l) ss) else ([], false)) := by
  obtain ⟨k, rfl⟩ : ∃ m, k = m + 1 := ⟨k - 1, by omega⟩
  unfold spec_AfterAll.f
  rw [spec_RankOk_eq _ _ hl (by omega), l1In_eq]
  simp only [Option.bind_some]
  have no : spec_AfterAll.j0 (k + 1) t l way ss true = some ([], false) := by
    simp only [spec_AfterAll.j0]
    rw [if_pos trivial]
  by_cases hr : RankP t l
  · have h8 := hr.len
    rw [if_pos (by simp [hr])]
    by_cases hw : way = 0 ∨ way = 1
    · rw [if_pos (by simp; omega)]
      simp only [spec_AfterAll.j0]
      by_cases h : ss.length ≤ 8
      · rw [if_neg (by simp; omega), if_pos (show AftP t l way ss from ⟨hr, hw, h⟩), spec_TidyRank_eq _ _ hl (by omega), if_pos hr]
        simp only [Option.bind_some]
        have := spec_after_loop (t := t) hw ss h ss.length k 0 (tidyL l) (rankP_tidy hr.1 hr.2.1 hr.nonneg) (by omega) (by omega)
        rw [List.drop_zero] at this
        exact this
      · rw [if_pos (by simp; omega), if_neg (fun h2 : AftP t l way ss => h h2.2.2)]
    · rw [if_neg (by simp; omega), no, if_neg (fun h : AftP t l way ss => hw h.2.1)]
  · rw [if_neg (by simp [hr]), no, if_neg (fun h : AftP t l way ss => hr h.1)]
end Go.Proofs.Ytfleephpcomimaa.LS

/- Plain facts about what the printed functions answer (several pieces in one text). Conditions: those of each theorem. -/
import Derived.Test.YtjhcpcahnngofaaP6
import Derived.Test.YtjhcpcahnngofaaP7
import Derived.Test.YtjhcpcahnngofaaP13
import Derived.Test.YtjhcpcahnngofaaP14
import Derived.Test.YtjhcpcahnngofaaP15
import Derived.Test.YtjhcpcahnngofaaP17
import Derived.Test.YtjhcpcahnngofaaP18
import Derived.Test.YtjhcpcahnngofaaP19
import Derived.Test.YtjhcpcahnngofaaLibA
import Derived.Test.YtjhcpcahnngofaaSets
set_option linter.unusedVariables false
set_option linter.unusedSimpArgs false
namespace Go.Proofs.Ytjhcpcahnngofaa.L
open Go.RowKit Go.Proofs.YtjhcpcahnngofaaW.PrintWords Go.Proofs.YtjhcpcahnngofaaW.PrintLast Go.Proofs.YtjhcpcahnngofaaW.PrintMore Go.Proofs.BelM Go.Proofs.Ytjhcpcahnngofaa.P
/-! #### FLists -/

theorem rd_nat (l : List Int) (j : Nat) : rd l (j : Int) = l.getD j 0 := by unfold rd; rw [Int.toNat_natCast]
theorem eq_loop {l : List Int} (hl : l.length ≤ 17592186044416) : ∀ (d k j : Nat), j + d = l.length → d < k → laws_eqIntS.l0 k l l j = some true
  | 0, k, j, hj, hk => by
    obtain ⟨k, rfl⟩ : ∃ m, k = m + 1 := ⟨k - 1, by omega⟩
    simp only [laws_eqIntS.l0]
    rw [if_neg (by omega)]
  | d + 1, k, j, hj, hk => by
    obtain ⟨k, rfl⟩ : ∃ m, k = m + 1 := ⟨k - 1, by omega⟩
    simp only [laws_eqIntS.l0]
    rw [if_pos (by omega), if_pos (by omega), if_pos (by omega), if_pos trivial, w64s (by omega)]
    exact eq_loop hl d k (j + 1) (by omega) (by omega)
theorem eqIntS_self {l : List Int} (hl : l.length ≤ 17592186044416) {k : Nat} (hk : l.length + 1 ≤ k) : laws_eqIntS.f k l l = some true := by
  unfold laws_eqIntS.f
  rw [if_pos rfl]
  exact eq_loop hl l.length k 0 (by omega) (by omega)
/-- The numbers from a on, as many as there are places from j on, put into a row. -/
def marked (l : List Int) (a : Int) : List Int := (List.range l.length).map (fun (i : Nat) => a + (i : Int))
theorem marked_length (l : List Int) (a : Int) : (marked l a).length = l.length := by simp [marked]
theorem marked_get {l : List Int} {a : Int} {j : Nat} (hj : j < l.length) : (marked l a).getD j 0 = a + (j : Int) := by
  unfold marked
  rw [List.getD_eq_getElem?_getD, List.getElem?_map, List.getElem?_range hj]
  rfl
theorem mark_loop (l0 : List Int) (hl : l0.length ≤ 17592186044416) : ∀ (d k j : Nat) (l : List Int), l.length = l0.length → j + d = l0.length → d < k → (∀ i, i < j → l.getD i 0 = 1 + (i : Int)) →
    laws_markIntS.l0 k l ((j : Int) + 1) j = some ((l0.length : Int) + 1, marked l0 1)
  | 0, k, j, l, he, hj, hk, hi => by
    obtain ⟨k, rfl⟩ : ∃ m, k = m + 1 := ⟨k - 1, by omega⟩
    simp only [laws_markIntS.l0]
    rw [if_neg (by omega)]
    have e : l = marked l0 1 := by
      apply List.ext_getElem (by rw [marked_length, he])
      intro i h1 h2
      have a1 := hi i (by omega)
      have a2 := marked_get (l := l0) (a := 1) (j := i) (by omega)
      rw [List.getD_eq_getElem?_getD, List.getElem?_eq_getElem h1] at a1
      rw [List.getD_eq_getElem?_getD, List.getElem?_eq_getElem h2] at a2
      simp only [Option.getD_some] at a1 a2
      rw [a1, a2]
    rw [e, show (j : Int) = (l0.length : Int) by omega]
  | d + 1, k, j, l, he, hj, hk, hi => by
    obtain ⟨k, rfl⟩ : ∃ m, k = m + 1 := ⟨k - 1, by omega⟩
    simp only [laws_markIntS.l0]
    rw [if_pos (by omega), if_pos (by omega), w64s (j := j) (by omega), show (((j : Nat) : Int)).toNat = j from Int.toNat_natCast j]
    have w2 : wrap64 ((j : Int) + 1 + 1) = ((j + 1 : Nat) : Int) + 1 := by rw [w64 (by omega) (by omega)]; omega
    rw [w2]
    refine mark_loop l0 hl d k (j + 1) _ (by rw [List.length_set, he]) (by omega) (by omega) (fun i hi2 => ?_)
    rw [List.getD_eq_getElem?_getD, List.getElem?_set]
    by_cases e : j = i
    · subst e
      rw [if_pos rfl, if_pos (by omega)]
      simp; omega
    · rw [if_neg e, ← List.getD_eq_getElem?_getD]
      exact hi i (by omega)
theorem markIntS_eq {l : List Int} (hl : l.length ≤ 17592186044416) {k : Nat} (hk : l.length + 1 ≤ k) : laws_markIntS.f k l 1 = some ((l.length : Int) + 1, marked l 1) := by
  unfold laws_markIntS.f
  exact mark_loop l hl l.length k 0 l rfl (by omega) (by omega) (fun i h => by omega)
theorem held_loop (l : List Int) (hl : l.length ≤ 17592186044416) : ∀ (d k j : Nat), j + d = l.length → d < k → laws_heldIntS.l0 k (marked l 1) ((j : Int) + 1) j = some ((l.length : Int) + 1)
  | 0, k, j, hj, hk => by
    obtain ⟨k, rfl⟩ : ∃ m, k = m + 1 := ⟨k - 1, by omega⟩
    simp only [laws_heldIntS.l0]
    rw [if_neg (by rw [marked_length]; omega), show (j : Int) = (l.length : Int) by omega]
  | d + 1, k, j, hj, hk => by
    obtain ⟨k, rfl⟩ : ∃ m, k = m + 1 := ⟨k - 1, by omega⟩
    simp only [laws_heldIntS.l0]
    rw [if_pos (by rw [marked_length]; omega), if_pos (by omega), rd_nat, marked_get (by omega), if_pos (by omega), w64s (by omega)]
    have w2 : wrap64 ((j : Int) + 1 + 1) = ((j + 1 : Nat) : Int) + 1 := by rw [w64 (by omega) (by omega)]; omega
    rw [w2]
    exact held_loop l hl d k (j + 1) (by omega) (by omega)
theorem heldIntS_eq {l : List Int} (hl : l.length ≤ 17592186044416) {k : Nat} (hk : l.length + 1 ≤ k) : laws_heldIntS.f k (marked l 1) 1 = some ((l.length : Int) + 1) := by
  unfold laws_heldIntS.f
  exact held_loop l hl l.length k 0 (by omega) (by omega)
/-! #### FSame -/
theorem same_loop {l : List Int} (hl : l.length ≤ 17592186044416) : ∀ (d k j : Nat), j + d = l.length → d < k → laws_sameInts.l0 k l l j = some true
  | 0, k, j, hj, hk => by
    obtain ⟨k, rfl⟩ : ∃ m, k = m + 1 := ⟨k - 1, by omega⟩
    simp only [laws_sameInts.l0]
    rw [if_neg (by omega)]
  | d + 1, k, j, hj, hk => by
    obtain ⟨k, rfl⟩ : ∃ m, k = m + 1 := ⟨k - 1, by omega⟩
    simp only [laws_sameInts.l0]
    rw [if_pos (by omega), if_pos (by omega), if_pos (by omega), if_pos trivial, w64s (by omega)]
    exact same_loop hl d k (j + 1) (by omega) (by omega)
theorem same_self {l : List Int} (hl : l.length ≤ 17592186044416) {k : Nat} (hk : l.length + 1 ≤ k) : laws_sameInts.f k l l = some true := by
  unfold laws_sameInts.f
  rw [if_pos rfl]
  exact same_loop hl l.length k 0 (by omega) (by omega)
/-! #### FCore -/
/-- The worlds of rank 0. -/
def coreS (t : Int) (l : List Int) : Int := mk (fun w => decide (rk l w = 0)) (2 ^ t.toNat)
open Classical in
theorem impl_CoreOf_eq (t : Int) (l : List Int) {k : Nat} (hk : 1 ≤ k) : impl_CoreOf.f k t l = some (if RankP t l then coreS t l else -1) := by
  unfold impl_CoreOf.f
  rw [isRank_eq _ _ hk]
  simp only [Option.bind_some]
  by_cases h : RankP t l
  · rw [if_pos (by simp [h]), if_pos h]
    unfold impl_coreOf.f
    rw [if_pos ⟨h.1, h.2.1⟩]
    rfl
  · rw [if_neg (by simp [h]), if_neg h]
open Classical in
theorem impl_RevisedBy_eq (t : Int) (l : List Int) (s : Int) {k : Nat} (hk : 20 ≤ k) : impl_RevisedBy.f k t l s = some (if RankP t l ∧ SetP t s then rev (2 ^ t.toNat) (rk l) s else -1) := by
  unfold impl_RevisedBy.f
  rw [isRank_eq _ _ (by omega), isSet_eq]
  simp only [Option.bind_some]
  by_cases h : RankP t l
  · rw [if_pos (by simp [h])]
    by_cases hs : SetP t s
    · rw [if_pos (by simp [hs]), if_pos ⟨h, hs⟩, revisedBy_eq h.1 h.2.1 hs.2.1 hs.lt256 hk]
      rfl
    · rw [if_neg (by simp [hs]), if_neg (fun x => hs x.2)]
  · rw [if_neg (by simp [h]), if_neg (fun x => h x.1)]
/-! #### FLawAlive -/
theorem alive_eq : laws_alive.f = some true := by decide +kernel
/-! #### FLawWhole -/
theorem whole_eq {t : Int} (ht : 1 ≤ t ∧ t ≤ 3) : laws_whole.f t = some (2 ^ 2 ^ t.toNat - 1) := by
  obtain rfl | rfl | rfl : t = 1 ∨ t = 2 ∨ t = 3 := by omega
  all_goals decide +kernel
/-! #### FLawWords -/

theorem both_loop {a b : Int} (ha : 0 ≤ a) (hb : 0 ≤ b) : ∀ (d k j : Nat), j + d = 8 → d < k → laws_both.l0 k a b (mk (fun w => mem a w && mem b w) j) j = some (andS a b)
  | 0, k, j, hj, hk => by
    obtain ⟨k, rfl⟩ : ∃ m, k = m + 1 := ⟨k - 1, by omega⟩
    obtain rfl : j = 8 := by omega
    simp only [laws_both.l0]
    rw [if_neg (by decide)]
    rfl
  | d + 1, k, j, hj, hk => by
    obtain ⟨k, rfl⟩ : ∃ m, k = m + 1 := ⟨k - 1, by omega⟩
    have ih := both_loop ha hb d k (j + 1) (by omega) (by omega)
    simp only [laws_both.l0]
    rw [if_pos (by omega), if_pos (by omega), tmod_bit ha (by omega), tmod_bit hb (by omega), w64s (by omega)]
    by_cases h1 : mem a j = true
    · rw [if_pos h1, if_pos rfl]
      by_cases h2 : mem b j = true
      · rw [if_pos h2, if_pos rfl, add_bit (by omega) (by show (mem a j && mem b j) = true; rw [h1, h2]; rfl)]
        exact ih
      · rw [if_neg h2, if_neg (by decide), skip_bit (j := j) (by show (mem a j && mem b j) = false; simp [h2])]
        exact ih
    · rw [if_neg h1, if_neg (by decide), skip_bit (j := j) (by show (mem a j && mem b j) = false; simp [h1])]
      exact ih
theorem both_eq {a b : Int} (ha : 0 ≤ a) (hb : 0 ≤ b) {k : Nat} (hk : 9 ≤ k) : laws_both.f k a b = some (andS a b) := by
  unfold laws_both.f
  exact both_loop ha hb 8 k 0 (by omega) (by omega)
/-! #### FLawWithin -/
theorem within_eq {a b : Int} (ha : 0 ≤ a) (hb : 0 ≤ b) {k : Nat} (hk : 9 ≤ k) : laws_within.f k a b = some (andS a b == a) := by
  unfold laws_within.f
  rw [both_eq ha hb hk]
  rfl
theorem within_iffS {a b : Int} {n : Nat} (hn : n ≤ 8) (ha : 0 ≤ a) (ha' : a < 2 ^ n) : (andS a b == a) = true ↔ ∀ w, w < n → mem a w = true → mem b w = true := by
  rw [beq_iff_eq]
  exact andS_self hn ha ha'
/-! #### FLawEither -/
theorem either_eq {a b : Int} (ha : 0 ≤ a) (ha' : a < 2 ^ 8) (hb : 0 ≤ b) (hb' : b < 2 ^ 8) {k : Nat} (hk : 9 ≤ k) : laws_either.f k a b = some (orS a b) := by
  unfold laws_either.f
  rw [both_eq ha hb hk]
  simp only [Option.bind_some]
  have h1 := andS_nonneg a b
  have h2 := andS_lt8 a b
  have h3 : (2 : Int) ^ 8 = 256 := by decide
  rw [w64 (x := a + b) (by omega) (by omega), w64 (by omega) (by omega), add_sub_and ha ha' hb hb']
end Go.Proofs.Ytjhcpcahnngofaa.L

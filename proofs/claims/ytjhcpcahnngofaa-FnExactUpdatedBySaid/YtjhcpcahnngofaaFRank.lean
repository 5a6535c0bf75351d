/- What the functions on ranks answer: least ranks, revision, what is believed. Conditions: those of each theorem. -/
import Derived.Test.YtjhcpcahnngofaaP8
import Derived.Test.YtjhcpcahnngofaaP9
import Derived.Test.YtjhcpcahnngofaaFBase
import Derived.Test.YtjhcpcahnngofaaSets
set_option linter.unusedVariables false
set_option linter.unusedSimpArgs false
namespace Go.Proofs.Ytjhcpcahnngofaa.L
open Go.RowKit Go.Proofs.YtjhcpcahnngofaaW.PrintWords Go.Proofs.YtjhcpcahnngofaaW.PrintLast Go.Proofs.YtjhcpcahnngofaaW.PrintMore Go.Proofs.BelM Go.Proofs.Ytjhcpcahnngofaa.P

/-- A row as a function of worlds. -/
def rk (l : List Int) (w : Nat) : Int := rd l (w : Int)
theorem rk_eq (l : List Int) (w : Nat) : rk l w = l.getD w 0 := by unfold rk rd; rw [Int.toNat_natCast]

theorem l2_loop1 {l : List Int} {s x : Int} (hs : 0 ≤ s) (hl : l.length ≤ 8) : ∀ (d k j : Nat), j + d = l.length → d < k →
    spec_l2Least.l1 k l s x (mk (fun w => mem s w && decide (rk l w = x)) j) j = some (mk (fun w => mem s w && decide (rk l w = x)) l.length)
  | 0, k, j, hj, hk => by
    obtain ⟨k, rfl⟩ : ∃ m, k = m + 1 := ⟨k - 1, by omega⟩
    obtain rfl : j = l.length := by omega
    simp only [spec_l2Least.l1]
    rw [if_neg (by omega)]
  | d + 1, k, j, hj, hk => by
    obtain ⟨k, rfl⟩ : ∃ m, k = m + 1 := ⟨k - 1, by omega⟩
    have ih := l2_loop1 (x := x) hs hl d k (j + 1) (by omega) (by omega)
    simp only [spec_l2Least.l1]
    rw [if_pos (by omega), l1Bit_eq hs (by omega)]
    simp only [Option.bind_some]
    by_cases hm : mem s j = true
    · rw [if_pos hm, if_pos rfl, if_pos (by omega)]
      by_cases hx : rd l (j : Int) = x
      · rw [if_pos hx, add_bit (by omega) (by show (mem s j && decide (rk l j = x)) = true; rw [hm]; simp [rk, hx]), w64s (by omega)]
        exact ih
      · rw [if_neg hx, w64s (by omega), skip_bit (j := j) (by show (mem s j && decide (rk l j = x)) = false; simp [rk, hx])]
        exact ih
    · rw [if_neg hm, if_neg (by decide), w64s (by omega), skip_bit (j := j) (by show (mem s j && decide (rk l j = x)) = false; simp [hm])]
      exact ih
theorem l2_loop0 {l : List Int} {s : Int} (hs : 0 ≤ s) (hl : l.length ≤ 8) : ∀ (d k j : Nat), j + d = l.length → d + l.length + 1 < k →
    spec_l2Least.l0 k l s (least 10 (rk l) (mem s) j) j = some (rev l.length (rk l) s)
  | 0, k, j, hj, hk => by
    obtain ⟨k, rfl⟩ : ∃ m, k = m + 1 := ⟨k - 1, by omega⟩
    obtain rfl : j = l.length := by omega
    simp only [spec_l2Least.l0]
    rw [if_neg (by omega)]
    exact l2_loop1 hs hl l.length k 0 (by omega) (by omega)
  | d + 1, k, j, hj, hk => by
    obtain ⟨k, rfl⟩ : ∃ m, k = m + 1 := ⟨k - 1, by omega⟩
    have ih := l2_loop0 hs hl d k (j + 1) (by omega) (by omega)
    simp only [spec_l2Least.l0]
    rw [if_pos (by omega), l1Bit_eq hs (by omega)]
    simp only [Option.bind_some]
    simp only [least] at ih
    by_cases hm : mem s j = true
    · rw [if_pos hm] at ih
      rw [if_pos hm, if_pos rfl, if_pos (by omega), w64s (by omega), mn_eq]
      exact ih
    · rw [if_neg hm] at ih
      rw [if_neg hm, if_neg (by decide), w64s (by omega)]
      exact ih
theorem l2Least_eq {l : List Int} {s : Int} (hs : 0 ≤ s) (hl : l.length ≤ 8) {k : Nat} (hk : 20 ≤ k) : spec_l2Least.f k l s = some (rev l.length (rk l) s) := by
  unfold spec_l2Least.f
  exact l2_loop0 hs hl l.length k 0 (by omega) (by omega)

theorem surprise_loop {l : List Int} {s : Int} (hs : 0 ≤ s) (hs' : s < 256) (hl : l.length ≤ 8) : ∀ (d k j : Nat), j + d = l.length → d < k →
    impl_surpriseOf.l0 k s (least 10 (rk l) (mem s) j) l (l.length : Int) j = some (least 10 (rk l) (mem s) l.length)
  | 0, k, j, hj, hk => by
    obtain ⟨k, rfl⟩ : ∃ m, k = m + 1 := ⟨k - 1, by omega⟩
    obtain rfl : j = l.length := by omega
    simp only [impl_surpriseOf.l0]
    rw [if_neg (by omega)]
  | d + 1, k, j, hj, hk => by
    obtain ⟨k, rfl⟩ : ∃ m, k = m + 1 := ⟨k - 1, by omega⟩
    have ih := surprise_loop hs hs' hl d k (j + 1) (by omega) (by omega)
    simp only [impl_surpriseOf.l0]
    rw [if_pos (by omega), if_pos (by omega), if_pos (by omega), and_bit hs hs' (by omega), w64s (by omega), mn_eq]
    simp only [least] at ih
    by_cases hm : mem s j = true
    · rw [if_pos hm] at ih
      rw [if_pos hm, if_pos rfl]
      exact ih
    · rw [if_neg hm] at ih
      rw [if_neg hm, if_neg (by decide)]
      exact ih
theorem surpriseOf_eq {l : List Int} {s : Int} (hs : 0 ≤ s) (hs' : s < 256) (hl : l.length ≤ 8) {k : Nat} (hk : 20 ≤ k) : impl_surpriseOf.f k l s = some (least 10 (rk l) (mem s) l.length) := by
  unfold impl_surpriseOf.f
  exact surprise_loop hs hs' hl l.length k 0 (by omega) (by omega)
theorem revisedBy_eq {t : Int} {l : List Int} {s : Int} (ht : 1 ≤ t ∧ t ≤ 3) (hl : l.length = 2 ^ t.toNat) (hs : 0 ≤ s) (hs' : s < 256) {k : Nat} (hk : 20 ≤ k) : impl_revisedBy.f k t l s = some (rev (2 ^ t.toNat) (rk l) s) := by
  have h8 := worlds_le ht
  unfold impl_revisedBy.f
  rw [surpriseOf_eq hs hs' (by omega) hk]
  simp only [Option.bind_some]
  rw [if_pos ⟨ht, hl, hs, hs'⟩, hl]
  rfl
end Go.Proofs.Ytjhcpcahnngofaa.L

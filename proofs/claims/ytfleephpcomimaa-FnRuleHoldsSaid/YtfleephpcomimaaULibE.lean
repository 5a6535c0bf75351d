/- Plain facts about what the printed functions answer (several pieces in one text). Conditions: those of each theorem. -/
import Derived.Test.YtfleephpcomimaaU6
import Derived.Test.YtfleephpcomimaaU7
import Derived.Test.YtfleephpcomimaaU8
import Derived.Test.YtfleephpcomimaaU10
import Derived.Test.YtfleephpcomimaaU11
import Derived.Test.YtfleephpcomimaaU12
import Derived.Test.YtfleephpcomimaaU13
import Derived.Test.YtfleephpcomimaaU14
import Derived.Test.YtfleephpcomimaaU15
import Derived.Test.YtfleephpcomimaaULibA
import Derived.Test.YtfleephpcomimaaULibC
import Derived.Test.YtfleephpcomimaaSets
set_option linter.unusedVariables false
set_option linter.unusedSimpArgs false
namespace Go.Proofs.Ytfleephpcomimaa.LU
open Go.RowKit Go.Proofs.YtfleephpcomimaaW.PrintWords Go.Proofs.YtfleephpcomimaaW.PrintLast Go.Proofs.YtfleephpcomimaaW.PrintMore Go.Proofs.BelM Go.Proofs.Ytfleephpcomimaa.U
/-! #### FDraw -/

/-- A row of bytes, not too long. -/
def Bytes (b : List Int) : Prop := b.length ≤ 2000 ∧ ∀ x, x ∈ b → 0 ≤ x ∧ x ≤ 255
theorem Bytes.at_ {b : List Int} (h : Bytes b) (i : Int) : 0 ≤ rd b i ∧ rd b i ≤ 255 := by
  unfold rd
  rw [List.getD_eq_getElem?_getD]
  cases e : b[i.toNat]? with
  | none => simp
  | some x => exact h.2 x (List.mem_of_getElem? e)
theorem xor_nonneg {a b : Int} (ha : 0 ≤ a) (ha' : a < 1099511627776) (hb : 0 ≤ b) (hb' : b < 1099511627776) : 0 ≤ bits .xor .i64 a b ∧ bits .xor .i64 a b < 1099511627776 := by
  obtain ⟨m, rfl⟩ : ∃ m : Nat, a = m := ⟨a.toNat, by omega⟩
  obtain ⟨n, rfl⟩ : ∃ n : Nat, b = n := ⟨b.toNat, by omega⟩
  rw [bits_bv]
  have e : (bvop .xor (BitVec.ofInt 64 (m : Int)) (BitVec.ofInt 64 (n : Int))).toNat = m ^^^ n := by
    simp only [bvop, ofInt_nat, BitVec.toNat_xor, BitVec.toNat_ofNat]
    rw [Nat.mod_eq_of_lt (by omega), Nat.mod_eq_of_lt (by omega)]
  have hlt : m ^^^ n < 2 ^ 40 := Nat.xor_lt_two_pow (by omega) (by omega)
  rw [e, IntKind.wrap_i64]
  omega
theorem tmod_range {x n : Int} (hx : 0 ≤ x) (hn : 1 ≤ n) : 0 ≤ Int.tmod x n ∧ Int.tmod x n < n := by
  rw [Int.tmod_eq_emod_of_nonneg hx]
  exact ⟨Int.emod_nonneg _ (by omega), Int.emod_lt_of_pos _ (by omega)⟩
theorem tdiv_range {x n : Int} (hx : 0 ≤ x) (hn : 1 ≤ n) : 0 ≤ Int.tdiv x n ∧ Int.tdiv x n ≤ x := by
  rw [Int.tdiv_eq_ediv_of_nonneg hx]
  exact ⟨Int.ediv_nonneg hx (by omega), Int.ediv_le_self _ hx⟩
theorem pick_ok {b : List Int} (hb : Bytes b) {p : Int} (hp : 0 ≤ p) (hp' : p ≤ 100000) (n : Int) {k : Nat} (hk : 1 ≤ k) :
    ∃ v, spec_l20Rd_pick.f k b p n = some (v, p + 1) ∧ (1 ≤ n → 0 ≤ v ∧ v < n) ∧ (n < 1 → v = 0) := by
  obtain ⟨k, rfl⟩ : ∃ m, k = m + 1 := ⟨k - 1, by omega⟩
  unfold spec_l20Rd_pick.f
  have e1 : wrap64 (p + 1) = p + 1 := w64 (by omega) (by omega)
  rw [e1]
  by_cases hn : n < 1
  · rw [if_pos hn]
    simp only [spec_l20Rd_pick.j0]
    rw [if_pos trivial]
    exact ⟨0, rfl, fun h => by omega, fun _ => rfl⟩
  · rw [if_neg hn]
    simp only [spec_l20Rd_pick.j0]
    by_cases h0 : b.length = 0
    · rw [if_pos (by simp [h0])]
      exact ⟨0, rfl, fun h => by omega, fun _ => rfl⟩
    · have e2 : wrap64 (p + 1 - 1) = p := by rw [w64 (by omega) (by omega)]; omega
      have hl := hb.1
      rw [if_neg (by rw [beq_iff_eq]; omega)]
      simp only [e2]
      by_cases h1 : p < (b.length : Int)
      · rw [if_pos h1, if_pos hp, if_neg (by omega)]
        have hr := hb.at_ p
        rw [w64 (x := rd b p) (by omega) (by omega)]
        exact ⟨_, rfl, fun _ => tmod_range hr.1 (by omega), fun h => by omega⟩
      · rw [if_neg h1, if_neg (by omega)]
        have r1 := tmod_range (x := p) (n := (b.length : Int)) hp (by omega)
        have e3 : wrap64 (wrap64 (p * 7) + 3) = p * 7 + 3 := by rw [w64 (x := p * 7) (by omega) (by omega), w64 (by omega) (by omega)]
        simp only [e3]
        have r2 := tmod_range (x := p * 7 + 3) (n := (b.length : Int)) (by omega) (by omega)
        rw [if_pos r1.1, if_pos r1.2, if_pos r2.1, if_pos r2.2, if_neg (by omega)]
        have ra := hb.at_ (Int.tmod p (b.length : Int))
        have rc := hb.at_ (Int.tmod (p * 7 + 3) (b.length : Int))
        have rq := tdiv_range (x := p) (n := (b.length : Int)) hp (by omega)
        obtain ⟨a, ea⟩ : ∃ a, rd b (Int.tmod p (b.length : Int)) = a := ⟨_, rfl⟩
        obtain ⟨c, ec⟩ : ∃ c, rd b (Int.tmod (p * 7 + 3) (b.length : Int)) = c := ⟨_, rfl⟩
        obtain ⟨q, eq⟩ : ∃ q, Int.tdiv p (b.length : Int) = q := ⟨_, rfl⟩
        rw [ea] at ra
        rw [ec] at rc
        rw [eq] at rq
        rw [ea, ec, eq]
        rw [w64 (x := a) (by omega) (by omega), w64 (x := c) (by omega) (by omega), w64 (x := q) (by omega) (by omega), w64 (x := a * 131) (by omega) (by omega), w64 (x := c * 1117) (by omega) (by omega), w64 (x := p * 29) (by omega) (by omega), w64 (x := q * 53) (by omega) (by omega), w64 (x := a * 131 + c * 1117) (by omega) (by omega), w64 (x := a * 131 + c * 1117 + p * 29) (by omega) (by omega), w64 (x := a * 131 + c * 1117 + p * 29 + q * 53) (by omega) (by omega)]
        obtain ⟨X, hX⟩ : ∃ X, a * 131 + c * 1117 + p * 29 + q * 53 = X := ⟨_, rfl⟩
        have hX0 : 0 ≤ X ∧ X < 1099511627776 := by omega
        rw [hX]
        have rd64 := tdiv_range (x := X) (n := 64) hX0.1 (by omega)
        rw [w64 (x := Int.tdiv X 64) (by omega) (by omega)]
        have hx := xor_nonneg hX0.1 hX0.2 rd64.1 (by omega)
        exact ⟨_, rfl, fun _ => tmod_range hx.1 (by omega), fun h => by omega⟩
theorem odd_ok {b : List Int} (hb : Bytes b) {p : Int} (hp : 0 ≤ p) (hp' : p ≤ 100000) (n : Int) {k : Nat} (hk : 1 ≤ k) :
    ∃ o q, spec_l20Rd_odd.f k b p n = some (o, q) ∧ p ≤ q ∧ q ≤ p + 1 := by
  unfold spec_l20Rd_odd.f
  by_cases hn : n > 0
  · obtain ⟨v, e, _⟩ := pick_ok hb hp hp' n hk
    rw [if_pos hn, e]
    exact ⟨_, _, rfl, by omega, by omega⟩
  · rw [if_neg hn]
    exact ⟨_, _, rfl, by omega, by omega⟩
theorem things_ok {b : List Int} (hb : Bytes b) {p : Int} (hp : 0 ≤ p) (hp' : p ≤ 90000) (n : Int) {k : Nat} (hk : 1 ≤ k) :
    ∃ t q, spec_l20Things.f k b p n = some (t, q) ∧ p ≤ q ∧ q ≤ p + 2 ∧ -1 ≤ t ∧ t ≤ 4 := by
  unfold spec_l20Things.f
  obtain ⟨o, q, e, h1, h2⟩ := odd_ok hb hp (by omega) n hk
  rw [e]
  simp only [Option.bind_some]
  cases o
  · rw [if_neg (by decide)]
    obtain ⟨v, e2, h3, _⟩ := pick_ok hb (p := q) (by omega) (by omega) 5 hk
    have h4 := h3 (by omega)
    rw [e2]
    simp only [Option.bind_some]
    rw [if_pos h4.1, if_pos (by exact h4.2)]
    obtain rfl | rfl | rfl | rfl | rfl : v = 0 ∨ v = 1 ∨ v = 2 ∨ v = 3 ∨ v = 4 := by omega
    all_goals exact ⟨_, _, rfl, by omega, by omega, by decide, by decide⟩
  · rw [if_pos rfl]
    obtain ⟨v, e2, h3, _⟩ := pick_ok hb (p := q) (by omega) (by omega) 3 hk
    have h4 := h3 (by omega)
    rw [e2]
    simp only [Option.bind_some]
    rw [if_pos h4.1, if_pos (by exact h4.2)]
    obtain rfl | rfl | rfl : v = 0 ∨ v = 1 ∨ v = 2 := by omega
    all_goals exact ⟨_, _, rfl, by omega, by omega, by decide, by decide⟩
theorem set0_ok {b : List Int} (hb : Bytes b) {p : Int} (hp : 0 ≤ p) (hp' : p ≤ 90000) (n a : Int) (ha : 1 ≤ a) (ha' : a ≤ 255) {k : Nat} (hk : 12 ≤ k) :
    ∃ s q, spec_l20Set.j0 k n a b p = some (s, q) ∧ p ≤ q ∧ q ≤ p + 4 ∧ -1 ≤ s ∧ s ≤ 256 := by
  obtain ⟨k, rfl⟩ : ∃ m, k = m + 1 := ⟨k - 1, by omega⟩
  simp only [spec_l20Set.j0]
  obtain ⟨o, q, e, h1, h2⟩ := odd_ok hb hp (by omega) n (k := k) (by omega)
  rw [e, w64 (x := a + 1) (by omega) (by omega)]
  simp only [Option.bind_some]
  cases o
  · rw [if_neg (by decide)]
    obtain ⟨v, e2, h3, _⟩ := pick_ok hb (p := q) (by omega) (by omega) 256 (k := k) (by omega)
    have h4 := h3 (by omega)
    rw [e2]
    simp only [Option.bind_some]
    rw [if_neg (by omega)]
    obtain ⟨u, e3, h5, _⟩ := pick_ok hb (p := q + 1) (by omega) (by omega) 3 (k := k) (by omega)
    rw [e3]
    simp only [Option.bind_some]
    have r1 := tmod_range (x := v) (n := a + 1) h4.1 (by omega)
    by_cases hu : u = 0
    · rw [if_pos hu]
      obtain ⟨x, e4, h6, _⟩ := pick_ok hb (p := q + 1 + 1) (by omega) (by omega) 256 (k := k) (by omega)
      have h7 := h6 (by omega)
      rw [e4]
      simp only [Option.bind_some]
      rw [l1Both_eq r1.1 h7.1 (by omega)]
      simp only [Option.bind_some]
      have r2 := tmod_range (x := andS (Int.tmod v (a + 1)) x) (n := a + 1) (andS_nonneg _ _) (by omega)
      exact ⟨_, _, rfl, by omega, by omega, by omega, by omega⟩
    · rw [if_neg hu]
      exact ⟨_, _, rfl, by omega, by omega, by omega, by omega⟩
  · rw [if_pos rfl]
    obtain ⟨v, e2, h3, _⟩ := pick_ok hb (p := q) (by omega) (by omega) 2 (k := k) (by omega)
    have h4 := h3 (by omega)
    rw [e2]
    simp only [Option.bind_some]
    rw [if_pos h4.1, if_pos (by exact h4.2)]
    obtain rfl | rfl : v = 0 ∨ v = 1 := by omega
    · exact ⟨-1, _, rfl, by omega, by omega, by omega, by omega⟩
    · exact ⟨a + 1, _, rfl, by omega, by omega, by omega, by omega⟩
theorem set_ok {b : List Int} (hb : Bytes b) {p : Int} (hp : 0 ≤ p) (hp' : p ≤ 90000) (t n : Int) {k : Nat} (hk : 12 ≤ k) :
    ∃ s q, spec_l20Set.f k b p t n = some (s, q) ∧ p ≤ q ∧ q ≤ p + 4 ∧ -1 ≤ s ∧ s ≤ 256 := by
  unfold spec_l20Set.f
  rw [l1In_eq]
  simp only [Option.bind_some]
  by_cases ht : 1 ≤ t ∧ t ≤ 3
  · rw [if_pos (by simp [ht]), all_spec ht]
    simp only [Option.bind_some]
    have h1 := all_le ht
    have h2 := all_ge ht
    exact set0_ok hb hp hp' n _ (by omega) (by omega) hk
  · rw [if_neg (by simpa using ht)]
    exact set0_ok hb hp hp' n 1 (by omega) (by omega) hk
theorem open_ok {l : List Int} (hl : ∀ x ∈ l, (Lit.int .u8 x).wf = true) : ∃ b, spec_l20Open.f l = some (b, 0) ∧ Bytes b := by
  have hb : ∀ x, x ∈ l → 0 ≤ x ∧ x ≤ 255 := by
    intro x hx
    exact wfu8 (hl x hx)
  unfold spec_l20Open.f
  by_cases h : (l.length : Int) > 2000
  · rw [if_pos h, if_pos (by omega)]
    exact ⟨_, rfl, by simp; omega, fun x hx => hb x (List.mem_of_mem_take hx)⟩
  · rw [if_neg h]
    exact ⟨_, rfl, by omega, hb⟩
/-! #### FDrawR -/
theorem rank1_ok {n : Nat} (hn : n ≤ 8) (b : List Int) (q : Int) : ∀ (d k j : Nat) (l : List Int), j + d = n → l.length = n → d < k → ∃ r, spec_l20Rank.l1 k l n j b q = some (r, q) ∧ r.length = n
  | 0, k, j, l, hj, hl, hk => by
    obtain ⟨k, rfl⟩ : ∃ m, k = m + 1 := ⟨k - 1, by omega⟩
    simp only [spec_l20Rank.l1]
    rw [if_neg (by omega)]
    exact ⟨l, rfl, hl⟩
  | d + 1, k, j, l, hj, hl, hk => by
    obtain ⟨k, rfl⟩ : ∃ m, k = m + 1 := ⟨k - 1, by omega⟩
    simp only [spec_l20Rank.l1]
    rw [if_pos (by omega), if_pos (by omega), if_pos (by omega), w64s (by omega)]
    exact rank1_ok hn b q d k (j + 1) _ (by omega) (by rw [List.length_set, hl]) (by omega)
theorem rank0_ok {n : Nat} (hn : n ≤ 8) (hn1 : 1 ≤ n) {b : List Int} (hb : Bytes b) {c m : Int} (hc : 0 ≤ c) (hc' : c < 3) : ∀ (d k j : Nat) (l : List Int) (p : Int), j + d = n → l.length = j → d + 10 < k → 0 ≤ p → p ≤ 90000 + (j : Int) →
    ∃ r q, spec_l20Rank.l0 k m l n c j b p = some (r, q) ∧ p ≤ q ∧ q ≤ p + (d : Int) + 3 ∧ r.length ≤ 9
  | 0, k, j, l, p, hj, hl, hk, hp, hp' => by
    obtain ⟨k, rfl⟩ : ∃ m, k = m + 1 := ⟨k - 1, by omega⟩
    simp only [spec_l20Rank.l0]
    rw [if_neg (by omega)]
    obtain ⟨v, e1, h1, _⟩ := pick_ok hb hp (by omega) (n : Int) (k := k) (by omega)
    have hv := h1 (by omega)
    rw [e1]
    simp only [Option.bind_some]
    rw [if_pos hv.1, if_pos (by omega)]
    obtain ⟨o, q, e2, h2, h3⟩ := odd_ok hb (p := p + 1) (by omega) (by omega) m (k := k) (by omega)
    rw [e2]
    simp only [Option.bind_some]
    cases o
    · rw [if_neg (by decide)]
      exact ⟨_, _, rfl, by omega, by omega, by rw [List.length_set]; omega⟩
    · rw [if_pos rfl]
      obtain ⟨u, e3, _⟩ := pick_ok hb (p := q) (by omega) (by omega) 3 (k := k) (by omega)
      rw [e3]
      simp only [Option.bind_some]
      by_cases h0 : u = 0
      · rw [if_pos h0, if_pos (by rw [List.length_set]; omega)]
        exact ⟨_, _, rfl, by omega, by omega, by simp; omega⟩
      · rw [if_neg h0]
        by_cases h4 : u = 1
        · rw [if_pos h4, if_pos (by omega)]
          exact ⟨_, _, rfl, by omega, by omega, by rw [List.length_set, List.length_set]; omega⟩
        · rw [if_neg h4]
          obtain ⟨r, e5, h5⟩ := rank1_ok hn b (q + 1) n k 0 (l.set (v : Int).toNat 0) (by omega) (by rw [List.length_set]; omega) (by omega)
          exact ⟨r, _, e5, by omega, by omega, by omega⟩
  | d + 1, k, j, l, p, hj, hl, hk, hp, hp' => by
    obtain ⟨k, rfl⟩ : ∃ m, k = m + 1 := ⟨k - 1, by omega⟩
    simp only [spec_l20Rank.l0]
    rw [if_pos (by omega)]
    simp only [Option.bind_some]
    rw [if_pos hc, if_pos (by exact hc')]
    obtain ⟨v, e1, _⟩ := pick_ok hb hp (by omega) (rd [2, 4, 10] c) (k := k) (by omega)
    rw [e1]
    simp only [Option.bind_some]
    rw [if_pos (by omega), w64s (by omega)]
    obtain ⟨r, q, e, h1, h2, h3⟩ := rank0_ok hn hn1 hb (m := m) hc hc' d k (j + 1) (l ++ [v]) (p + 1) (by omega) (by simp [hl]) (by omega) (by omega) (by omega)
    exact ⟨r, q, e, by omega, by omega, h3⟩
theorem worlds_spec (t : Int) : ∃ n : Nat, 1 ≤ n ∧ n ≤ 8 ∧ ∃ x, spec_WorldsOf.f t = some x ∧ mx x 1 = n := by
  unfold spec_WorldsOf.f
  rw [l1In_eq]
  simp only [Option.bind_some]
  by_cases ht : 1 ≤ t ∧ t ≤ 3
  · have h8 := worlds_le ht
    have h2 := worlds_ge ht
    rw [if_pos (by simp [ht]), if_pos (by omega), shl_things ht]
    exact ⟨2 ^ t.toNat, by omega, h8, _, rfl, by rw [mx_eq]; omega⟩
  · rw [if_neg (by simpa using ht)]
    exact ⟨1, by omega, by omega, _, rfl, by rw [mx_eq]; rfl⟩
theorem rank_ok {b : List Int} (hb : Bytes b) {p : Int} (hp : 0 ≤ p) (hp' : p ≤ 80000) (t n : Int) {k : Nat} (hk : 20 ≤ k) :
    ∃ r q, spec_l20Rank.f k b p t n = some (r, q) ∧ p ≤ q ∧ q ≤ p + 12 ∧ r.length ≤ 9 := by
  unfold spec_l20Rank.f
  obtain ⟨m, h1, h2, x, e, hm⟩ := worlds_spec t
  rw [e]
  simp only [Option.bind_some]
  obtain ⟨c, e1, h3, _⟩ := pick_ok hb hp (by omega) 3 (k := k) (by omega)
  have hc := h3 (by omega)
  rw [e1]
  simp only [Option.bind_some]
  rw [hm]
  obtain ⟨r, q, e2, h4, h5, h6⟩ := rank0_ok h2 h1 hb (c := c) (m := n) hc.1 hc.2 m k 0 [] (p + 1) (by omega) rfl (by omega) (by omega) (by omega)
  exact ⟨r, q, e2, by omega, by omega, h6⟩
/-! #### FDrawRd -/
theorem ranked_ok {b : List Int} (hb : Bytes b) {p : Int} (hp : 0 ≤ p) (hp' : p ≤ 70000) {k : Nat} (hk : 20 ≤ k) :
    ∃ t r s q, spec_l20Ranked.f k b p = some (t, r, s, q) ∧ p ≤ q ∧ q ≤ p + 18 ∧ r.length ≤ 9 := by
  unfold spec_l20Ranked.f
  obtain ⟨t, q1, e1, h1, h2, _⟩ := things_ok hb hp (by omega) 20 (k := k) (by omega)
  rw [e1]
  simp only [Option.bind_some]
  obtain ⟨r, q2, e2, h3, h4, h5⟩ := rank_ok hb (p := q1) (by omega) (by omega) t 16 hk
  rw [e2]
  simp only [Option.bind_some]
  obtain ⟨s, q3, e3, h6, h7, _⟩ := set_ok hb (p := q2) (by omega) (by omega) t 20 (k := k) (by omega)
  rw [e3]
  exact ⟨t, r, s, q3, rfl, by omega, by omega, h5⟩
/-! #### FTidyE -/
theorem tidyE2 {l x3 seen : List Int} {w v : Nat} (hv : v < l.length) (hl : l.length ≤ 9) (hs : seen.length ≤ 9) : ∀ (d k j : Nat) (fnd : Bool), j + d = seen.length → ∃ f' : Bool,
    spec_l6Tidy.l2 (k + d + 1) l x3 w seen v fnd j = if f' = true then spec_l6Tidy.l1 k l x3 w seen ((v + 1 : Nat) : Int) else spec_l6Tidy.l1 k l x3 w (seen ++ [rd l v]) ((v + 1 : Nat) : Int)
  | 0, k, j, fnd, hj => by
    refine ⟨fnd, ?_⟩
    simp only [spec_l6Tidy.l2]
    rw [if_neg (by omega), w64s (by omega)]
    cases fnd
    · simp only [Bool.false_eq_true, if_false]
      rw [if_pos (by omega), if_pos (by omega), if_pos (by omega)]
    · simp only [if_true]
  | d + 1, k, j, fnd, hj => by
    rw [show k + (d + 1) + 1 = (k + d + 1) + 1 by omega]
    cases fnd
    · obtain ⟨f', e⟩ := tidyE2 (x3 := x3) (w := w) hv hl hs d k (j + 1) (rd seen j == rd l v) (by omega)
      refine ⟨f', ?_⟩
      rw [← e, spec_l6Tidy.l2]
      rw [if_pos (by omega), if_neg (by decide), if_pos (by omega), if_pos (by omega), if_pos (by omega), w64s (by omega)]
    · obtain ⟨f', e⟩ := tidyE2 (x3 := x3) (w := w) hv hl hs d k (j + 1) true (by omega)
      refine ⟨f', ?_⟩
      rw [← e, spec_l6Tidy.l2]
      rw [if_pos (by omega), if_pos rfl, w64s (by omega)]
theorem tidyE1 {l x3 : List Int} {w : Nat} (hw : w < l.length) (hl : l.length ≤ 9) (h3 : x3.length ≤ 9) : ∀ (d K k v : Nat) (seen : List Int), v + d = l.length → seen.length ≤ v → d * 12 + K + 1 ≤ k → ∃ (k' : Nat) (n : Int), K ≤ k' ∧
    spec_l6Tidy.l1 k l x3 w seen v = spec_l6Tidy.l0 k' l (x3 ++ [n]) ((w + 1 : Nat) : Int)
  | 0, K, k, v, seen, hj, hs, hk => by
    obtain ⟨k, rfl⟩ : ∃ m, k = m + 1 := ⟨k - 1, by omega⟩
    simp only [spec_l6Tidy.l1]
    rw [if_neg (by omega), if_pos (by omega), w64s (by omega)]
    exact ⟨k, _, by omega, rfl⟩
  | d + 1, K, k, v, seen, hj, hs, hk => by
    obtain ⟨k, rfl⟩ : ∃ m, k = m + seen.length + 2 := ⟨k - seen.length - 2, by omega⟩
    obtain ⟨f', e⟩ := tidyE2 (x3 := x3) (w := w) (seen := seen) (v := v) (by omega) hl (by omega) seen.length k 0 (decide (rd l v ≥ rd l w)) (by omega)
    simp only [spec_l6Tidy.l1]
    rw [if_pos (by omega), if_pos (by omega), if_pos (by omega), if_pos (by omega)]
    rw [show ((0 : Nat) : Int) = 0 from rfl] at e
    rw [show k + seen.length + 1 = k + seen.length + 1 from rfl, e]
    cases f'
    · rw [if_neg (by decide)]
      exact tidyE1 hw hl h3 d K k (v + 1) _ (by omega) (by rw [List.length_append, List.length_singleton]; omega) (by omega)
    · rw [if_pos rfl]
      exact tidyE1 hw hl h3 d K k (v + 1) _ (by omega) (by omega) (by omega)
theorem tidyE0 {l : List Int} (hl : l.length ≤ 9) : ∀ (d k w : Nat) (x3 : List Int), w + d = l.length → x3.length = w → d * 130 + 1 ≤ k → ∃ r, spec_l6Tidy.l0 k l x3 w = some r ∧ r.length = l.length
  | 0, k, w, x3, hj, h3, hk => by
    obtain ⟨k, rfl⟩ : ∃ m, k = m + 1 := ⟨k - 1, by omega⟩
    simp only [spec_l6Tidy.l0]
    rw [if_neg (by omega)]
    exact ⟨x3, rfl, by omega⟩
  | d + 1, k, w, x3, hj, h3, hk => by
    obtain ⟨k, rfl⟩ : ∃ m, k = m + 1 := ⟨k - 1, by omega⟩
    simp only [spec_l6Tidy.l0]
    rw [if_pos (by omega)]
    obtain ⟨k', n, h1, e⟩ := tidyE1 (l := l) (x3 := x3) (w := w) (by omega) hl (by omega) l.length (d * 130 + 1) k 0 [] (by omega) (by simp) (by omega)
    rw [show ((0 : Nat) : Int) = 0 from rfl] at e
    rw [e]
    exact tidyE0 hl d k' (w + 1) _ (by omega) (by rw [List.length_append, List.length_singleton]; omega) h1
theorem l6Tidy_ok {l : List Int} (hl : l.length ≤ 9) {k : Nat} (hk : 1200 ≤ k) : ∃ r, spec_l6Tidy.f k l = some r ∧ r.length = l.length := by
  unfold spec_l6Tidy.f
  exact tidyE0 hl l.length k 0 [] (by omega) rfl (by omega)
theorem riseE {l : List Int} {s : Int} (hl : l.length ≤ 9) (hs : 0 ≤ s) : ∀ (d k w : Nat) (x : List Int), w + d = l.length → x.length = w → d + 1201 ≤ k → ∃ r, spec_l6Rise.l0 k l s x w = some r ∧ r.length = l.length
  | 0, k, w, x, hj, h3, hk => by
    obtain ⟨k, rfl⟩ : ∃ m, k = m + 1 := ⟨k - 1, by omega⟩
    simp only [spec_l6Rise.l0]
    rw [if_neg (by omega)]
    obtain ⟨r, e, h⟩ := l6Tidy_ok (l := x) (by omega) (k := k) (by omega)
    rw [e]
    exact ⟨r, rfl, by omega⟩
  | d + 1, k, w, x, hj, h3, hk => by
    obtain ⟨k, rfl⟩ : ∃ m, k = m + 1 := ⟨k - 1, by omega⟩
    simp only [spec_l6Rise.l0]
    rw [if_pos (by omega), if_pos (by omega), l1Bit_eq hs (by omega)]
    simp only [Option.bind_some]
    rw [if_pos (by omega), w64s (by omega)]
    exact riseE hl hs d k (w + 1) _ (by omega) (by rw [List.length_append, List.length_singleton]; omega) (by omega)
theorem l6Rise_ok {l : List Int} {s : Int} (hl : l.length ≤ 9) (hs : 0 ≤ s) {k : Nat} (hk : 1300 ≤ k) : ∃ r, spec_l6Rise.f k l s = some r ∧ r.length = l.length := by
  unfold spec_l6Rise.f
  exact riseE hl hs l.length k 0 [] (by omega) rfl (by omega)
/-- ChangedBy of the reference answers. -/
theorem spec_ChangedBy_ok (t : Int) (l : List Int) (way s : Int) (hl : l.length ≤ 9) {k : Nat} (hk : 1400 ≤ k) : ∃ r ok, spec_ChangedBy.f k t l way s = some (r, ok) ∧ r.length ≤ 9 := by
  obtain ⟨k, rfl⟩ : ∃ m, k = m + 1 := ⟨k - 1, by omega⟩
  have bad : ∃ r ok, spec_ChangedBy.j0 (k + 1) l way s true = some (r, ok) ∧ r.length ≤ 9 := by
    simp only [spec_ChangedBy.j0]
    rw [if_pos trivial]
    exact ⟨_, _, rfl, by simp⟩
  unfold spec_ChangedBy.f
  rw [spec_RankOk_eq _ _ (by omega) (by omega), SetOk_eq, l1In_eq]
  simp only [Option.bind_some]
  by_cases hr : RankP t l
  · rw [if_pos (by simp [hr])]
    by_cases hs : SetP t s
    · rw [if_pos (by simp [hs])]
      by_cases h0 : s = 0
      · rw [if_pos h0]; exact bad
      · rw [if_neg h0]
        cases hw : (!decide (0 ≤ way ∧ way ≤ 1))
        · simp only [spec_ChangedBy.j0]
          rw [if_neg (by decide), l2Least_eq hs.2.1 hr.len (by omega)]
          simp only [Option.bind_some]
          obtain ⟨r1, e1, h1⟩ := l6Rise_ok (l := l) (s := rev l.length (rk l) s) hl (rev_nonneg _ _ _) (k := k) (by omega)
          obtain ⟨r2, e2, h2⟩ := l6Rise_ok (l := l) (s := s) hl hs.2.1 (k := k) (by omega)
          rw [e1, e2]
          simp only [Option.bind_some]
          by_cases hw0 : way = 0
          · rw [if_pos hw0]; exact ⟨_, _, rfl, by omega⟩
          · rw [if_neg hw0]; exact ⟨_, _, rfl, by omega⟩
        · exact bad
    · rw [if_neg (by simp [hs])]; exact bad
  · rw [if_neg (by simp [hr])]; exact bad
theorem tidyR2 {t : Int} {l x5 : List Int} {w r : Nat} {n : Int} (hl : l.length ≤ 9) (hr : r ≤ 10) : ∀ (d k j : Nat) (fnd : Bool), j + d = l.length → ∃ n' : Int,
    spec_TidyRank.l2 (k + d + 1) t l x5 w n r fnd j = spec_TidyRank.l1 k t l x5 w n' ((r + 1 : Nat) : Int)
  | 0, k, j, fnd, hj => by
    simp only [spec_TidyRank.l2]
    rw [if_neg (by omega), w64s (by omega)]
    cases fnd
    · exact ⟨n, by rw [if_neg (by decide)]⟩
    · exact ⟨_, by rw [if_pos rfl]⟩
  | d + 1, k, j, fnd, hj => by
    rw [show k + (d + 1) + 1 = (k + d + 1) + 1 by omega]
    cases fnd
    · obtain ⟨n', e⟩ := tidyR2 (t := t) (x5 := x5) (w := w) (r := r) (n := n) hl hr d k (j + 1) (rd l j == (r : Int)) (by omega)
      refine ⟨n', ?_⟩
      rw [← e, spec_TidyRank.l2]
      rw [if_pos (by omega), if_neg (by decide), if_pos (by omega), w64s (by omega)]
    · obtain ⟨n', e⟩ := tidyR2 (t := t) (x5 := x5) (w := w) (r := r) (n := n) hl hr d k (j + 1) true (by omega)
      refine ⟨n', ?_⟩
      rw [← e, spec_TidyRank.l2]
      rw [if_pos (by omega), if_pos rfl, w64s (by omega)]
theorem tidyR1 {t : Int} {l x5 : List Int} {w : Nat} (hl : l.length ≤ 9) (hw : w < l.length) (h5 : x5.length ≤ 9) (h9 : rk l w ≤ 9) : ∀ (d K k r : Nat) (n : Int), r + d = 10 → d * 12 + K + 1 ≤ k → ∃ (k' : Nat) (n' : Int), K ≤ k' ∧
    spec_TidyRank.l1 k t l x5 w n r = spec_TidyRank.l0 k' t l (x5 ++ [n']) ((w + 1 : Nat) : Int)
  | 0, K, k, r, n, hr, hk => by
    obtain ⟨k, rfl⟩ : ∃ m, k = m + 1 := ⟨k - 1, by omega⟩
    simp only [spec_TidyRank.l1]
    rw [if_pos (by omega), if_pos (by omega), if_neg (by show ¬ (r : Int) < rk l w; omega), if_pos (by omega), w64s (by omega)]
    exact ⟨k, n, by omega, rfl⟩
  | d + 1, K, k, r, n, hr, hk => by
    obtain ⟨k, rfl⟩ : ∃ m, k = m + l.length + 2 := ⟨k - l.length - 2, by omega⟩
    simp only [spec_TidyRank.l1]
    rw [if_pos (by omega), if_pos (by omega)]
    by_cases h : (r : Int) < rd l (w : Int)
    · rw [if_pos h]
      obtain ⟨n', e⟩ := tidyR2 (t := t) (x5 := x5) (w := w) (r := r) (n := n) hl (by omega) l.length k 0 false (by omega)
      rw [show ((0 : Nat) : Int) = 0 from rfl] at e
      rw [e]
      exact tidyR1 hl hw h5 h9 d K k (r + 1) n' (by omega) (by omega)
    · rw [if_neg h, if_pos (by omega), w64s (by omega)]
      exact ⟨_, n, by omega, rfl⟩
theorem tidyR0 {t : Int} {l : List Int} (hl : l.length ≤ 9) : ∀ (d k w : Nat) (x5 : List Int), w + d = l.length → x5.length = w → d * 150 + 20 ≤ k → ∃ r, spec_TidyRank.l0 k t l x5 w = some r ∧ r.length ≤ 9
  | 0, k, w, x5, hj, h5, hk => by
    obtain ⟨k, rfl⟩ : ∃ m, k = m + 2 := ⟨k - 2, by omega⟩
    simp only [spec_TidyRank.l0, spec_TidyRank.j1]
    rw [if_neg (by omega), if_neg (by decide)]
    exact ⟨x5, rfl, by omega⟩
  | d + 1, k, w, x5, hj, h5, hk => by
    obtain ⟨k, rfl⟩ : ∃ m, k = m + 2 := ⟨k - 2, by omega⟩
    simp only [spec_TidyRank.l0, spec_TidyRank.j1]
    rw [if_pos (by omega), spec_RankOk_eq _ _ (by omega) (by omega)]
    simp only [Option.bind_some]
    by_cases hr : RankP t l
    · rw [if_pos (by simp [hr])]
      obtain ⟨k', n', h1, e⟩ := tidyR1 (t := t) (x5 := x5) (w := w) hl (by omega) (by omega) (hr.2.2.1 w (by omega)).2 10 (d * 150 + 20) k 0 0 (by omega) (by omega)
      rw [show ((0 : Nat) : Int) = 0 from rfl] at e
      rw [e]
      exact tidyR0 hl d k' (w + 1) _ (by omega) (by rw [List.length_append, List.length_singleton]; omega) h1
    · rw [if_neg (by simp [hr])]
      exact ⟨x5, rfl, by omega⟩
theorem spec_TidyRank_ok (t : Int) (l : List Int) (hl : l.length ≤ 9) {k : Nat} (hk : 1400 ≤ k) : ∃ r, spec_TidyRank.f k t l = some r ∧ r.length ≤ 9 := by
  unfold spec_TidyRank.f
  exact tidyR0 hl l.length k 0 [] (by omega) rfl (by omega)
/-! #### FDrawH -/
open Classical in
theorem spec_MovedBy_ok (t : Int) (l : List Int) (s firm : Int) (hl : l.length ≤ 9) {k : Nat} (hk : 60 ≤ k) : ∃ r ok, spec_MovedBy.f k t l s firm = some (r, ok) ∧ r.length ≤ 9 := by
  rw [spec_MovedBy_eq _ _ _ _ (by omega) (by omega)]
  by_cases h : MovedP t l s firm
  · rw [if_pos h]
    exact ⟨_, _, rfl, by unfold movedL; rw [tab_len]; have := worlds_le h.1.1; omega⟩
  · rw [if_neg h]
    exact ⟨_, _, rfl, by simp⟩
theorem drawHolds_ok {l : List Int} (hl : ∀ x ∈ l, (Lit.int .u8 x).wf = true) {k : Nat} (hk : 2000 ≤ k) : ∃ t rule b a s, spec_DrawRuleHolds.f k l = some (t, rule, b, a, s) ∧ b.length ≤ 9 ∧ a.length ≤ 9 := by
  unfold spec_DrawRuleHolds.f
  obtain ⟨b, e, hb⟩ := open_ok hl
  rw [e]
  simp only [Option.bind_some]
  obtain ⟨t, r, s, q, e1, h1, h2, h⟩ := ranked_ok hb (p := 0) (by omega) (by omega) (k := k) (by omega)
  rw [e1]
  simp only [Option.bind_some]
  obtain ⟨u1, p1, _⟩ := pick_ok hb (p := q) (by omega) (by omega) 4 (k := k) (by omega)
  rw [p1]
  simp only [Option.bind_some]
  obtain ⟨u2, p2, _⟩ := pick_ok hb (p := q + 1) (by omega) (by omega) 20 (k := k) (by omega)
  rw [p2]
  simp only [Option.bind_some]
  obtain ⟨u3, p3, _⟩ := pick_ok hb (p := q + 1 + 1) (by omega) (by omega) 4 (k := k) (by omega)
  rw [p3]
  simp only [Option.bind_some]
  by_cases c0 : u3 = 0
  · rw [if_pos c0]
    obtain ⟨u4, p4, _⟩ := pick_ok hb (p := q + 1 + 1 + 1) (by omega) (by omega) 2 (k := k) (by omega)
    rw [p4]
    simp only [Option.bind_some]
    obtain ⟨x, ok, e2, h3⟩ := spec_ChangedBy_ok t r u4 s h (k := k) (by omega)
    rw [e2]
    simp only [Option.bind_some]
    cases ok
    · rw [if_neg (by decide)]
      obtain ⟨y, q2, e3, _, _, h4⟩ := rank_ok hb (p := q + 1 + 1 + 1 + 1) (by omega) (by omega) t 14 (k := k) (by omega)
      rw [e3]
      exact ⟨_, _, _, _, _, rfl, h, h4⟩
    · rw [if_pos rfl]
      exact ⟨_, _, _, _, _, rfl, h, h3⟩
  · rw [if_neg c0]
    by_cases c1 : u3 = 1
    · rw [if_pos c1]
      obtain ⟨u4, p4, _⟩ := pick_ok hb (p := q + 1 + 1 + 1) (by omega) (by omega) 5 (k := k) (by omega)
      rw [p4]
      simp only [Option.bind_some]
      obtain ⟨x, ok, e2, h3⟩ := spec_MovedBy_ok t r s u4 h (k := k) (by omega)
      rw [e2]
      simp only [Option.bind_some]
      cases ok
      · rw [if_neg (by decide)]
        obtain ⟨y, q2, e3, _, _, h4⟩ := rank_ok hb (p := q + 1 + 1 + 1 + 1) (by omega) (by omega) t 14 (k := k) (by omega)
        rw [e3]
        exact ⟨_, _, _, _, _, rfl, h, h4⟩
      · rw [if_pos rfl]
        exact ⟨_, _, _, _, _, rfl, h, h3⟩
    · rw [if_neg c1]
      by_cases c2 : u3 = 2
      · rw [if_pos c2]
        obtain ⟨x, e2, h3⟩ := spec_TidyRank_ok t r h (k := k) (by omega)
        rw [e2]
        exact ⟨_, _, _, _, _, rfl, h, h3⟩
      · rw [if_neg c2]
        obtain ⟨y, q2, e3, _, _, h4⟩ := rank_ok hb (p := q + 1 + 1 + 1) (by omega) (by omega) t 14 (k := k) (by omega)
        rw [e3]
        exact ⟨_, _, _, _, _, rfl, h, h4⟩
end Go.Proofs.Ytfleephpcomimaa.LU

/- Plain facts about what the printed functions answer (several pieces in one text). Conditions: those of each theorem. -/
import Derived.Test.YtfleephpcomimaaS13
import Derived.Test.YtfleephpcomimaaS14
import Derived.Test.YtfleephpcomimaaS15
import Derived.Test.YtfleephpcomimaaS16
import Derived.Test.YtfleephpcomimaaS17
import Derived.Test.YtfleephpcomimaaS18
import Derived.Test.YtfleephpcomimaaSLibA
import Derived.Test.YtfleephpcomimaaSets
set_option linter.unusedVariables false
set_option linter.unusedSimpArgs false
namespace Go.Proofs.Ytfleephpcomimaa.LS
open Go.RowKit Go.Proofs.YtfleephpcomimaaW.PrintWords Go.Proofs.YtfleephpcomimaaW.PrintLast Go.Proofs.YtfleephpcomimaaW.PrintMore Go.Proofs.BelM Go.Proofs.Ytfleephpcomimaa.S
/-! #### FSame -/
theorem same_loop {l : List Int} (hl : l.length ≤ 17592186044416) : ∀ (d k j : Nat), j + d = l.length → d < k → laws_sameInts.l0 k l l j = some true
  | 0, k, j, hj, hk => by
    obtain ⟨k, rfl⟩ : ∃ m, k = m + 1 := ⟨k - 1, by omega⟩
    simp only [laws_sameInts.l0]
    rw [if_neg (by omega)]
  | d + 1, k, j, hj, hk => by
    obtain ⟨k, rfl⟩ : ∃ m, k = m + 1 := ⟨k - 1, by omega⟩
    simp only [laws_sameInts.l0]
    rw [if_pos (by omega), if_pos (by omega), if_pos (by omega), if_pos trivial, w64s (by omega)]
    exact same_loop hl d k (j + 1) (by omega) (by omega)
theorem same_self {l : List Int} (hl : l.length ≤ 17592186044416) {k : Nat} (hk : l.length + 1 ≤ k) : laws_sameInts.f k l l = some true := by
  unfold laws_sameInts.f
  rw [if_pos rfl]
  exact same_loop hl l.length k 0 (by omega) (by omega)
/-! #### FLawAlive -/
theorem alive_eq : laws_alive.f = some true := by decide +kernel
/-! #### FLawWhole -/
/-! #### FLawWords -/

theorem both_loop {a b : Int} (ha : 0 ≤ a) (hb : 0 ≤ b) : ∀ (d k j : Nat), j + d = 8 → d < k → laws_both.l0 k a b (mk (fun w => mem a w && mem b w) j) j = some (andS a b)
  | 0, k, j, hj, hk => by
    obtain ⟨k, rfl⟩ : ∃ m, k = m + 1 := ⟨k - 1, by omega⟩
    obtain rfl : j = 8 := by omega
    simp only [laws_both.l0]
    rw [if_neg (by decide)]
    rfl
  | d + 1, k, j, hj, hk => by
    obtain ⟨k, rfl⟩ : ∃ m, k = m + 1 := ⟨k - 1, by omega⟩
    have ih := both_loop ha hb d k (j + 1) (by omega) (by omega)
    simp only [laws_both.l0]
    rw [if_pos (by omega), if_pos (by omega), tmod_bit ha (by omega), tmod_bit hb (by omega), w64s (by omega)]
    by_cases h1 : mem a j = true
    · rw [if_pos h1, if_pos rfl]
      by_cases h2 : mem b j = true
      · rw [if_pos h2, if_pos rfl, add_bit (by omega) (by show (mem a j && mem b j) = true; rw [h1, h2]; rfl)]
        exact ih
      · rw [if_neg h2, if_neg (by decide), skip_bit (j := j) (by show (mem a j && mem b j) = false; simp [h2])]
        exact ih
    · rw [if_neg h1, if_neg (by decide), skip_bit (j := j) (by show (mem a j && mem b j) = false; simp [h1])]
      exact ih
theorem both_eq {a b : Int} (ha : 0 ≤ a) (hb : 0 ≤ b) {k : Nat} (hk : 9 ≤ k) : laws_both.f k a b = some (andS a b) := by
  unfold laws_both.f
  exact both_loop ha hb 8 k 0 (by omega) (by omega)
/-! #### FLawWithin -/
theorem within_eq {a b : Int} (ha : 0 ≤ a) (hb : 0 ≤ b) {k : Nat} (hk : 9 ≤ k) : laws_within.f k a b = some (andS a b == a) := by
  unfold laws_within.f
  rw [both_eq ha hb hk]
  rfl
theorem within_iffS {a b : Int} {n : Nat} (hn : n ≤ 8) (ha : 0 ≤ a) (ha' : a < 2 ^ n) : (andS a b == a) = true ↔ ∀ w, w < n → mem a w = true → mem b w = true := by
  rw [beq_iff_eq]
  exact andS_self hn ha ha'
/-! #### FDraw -/

/-- A row of bytes, not too long. -/
def Bytes (b : List Int) : Prop := b.length ≤ 2000 ∧ ∀ x, x ∈ b → 0 ≤ x ∧ x ≤ 255
theorem Bytes.at_ {b : List Int} (h : Bytes b) (i : Int) : 0 ≤ rd b i ∧ rd b i ≤ 255 := by
  unfold rd
  rw [List.getD_eq_getElem?_getD]
  cases e : b[i.toNat]? with
  | none => simp
  | some x => exact h.2 x (List.mem_of_getElem? e)
theorem xor_nonneg {a b : Int} (ha : 0 ≤ a) (ha' : a < 1099511627776) (hb : 0 ≤ b) (hb' : b < 1099511627776) : 0 ≤ bits .xor .i64 a b ∧ bits .xor .i64 a b < 1099511627776 := by
  obtain ⟨m, rfl⟩ : ∃ m : Nat, a = m := ⟨a.toNat, by omega⟩
  obtain ⟨n, rfl⟩ : ∃ n : Nat, b = n := ⟨b.toNat, by omega⟩
  rw [bits_bv]
  have e : (bvop .xor (BitVec.ofInt 64 (m : Int)) (BitVec.ofInt 64 (n : Int))).toNat = m ^^^ n := by
    simp only [bvop, ofInt_nat, BitVec.toNat_xor, BitVec.toNat_ofNat]
    rw [Nat.mod_eq_of_lt (by omega), Nat.mod_eq_of_lt (by omega)]
  have hlt : m ^^^ n < 2 ^ 40 := Nat.xor_lt_two_pow (by omega) (by omega)
  rw [e, IntKind.wrap_i64]
  omega
theorem tmod_range {x n : Int} (hx : 0 ≤ x) (hn : 1 ≤ n) : 0 ≤ Int.tmod x n ∧ Int.tmod x n < n := by
  rw [Int.tmod_eq_emod_of_nonneg hx]
  exact ⟨Int.emod_nonneg _ (by omega), Int.emod_lt_of_pos _ (by omega)⟩
theorem tdiv_range {x n : Int} (hx : 0 ≤ x) (hn : 1 ≤ n) : 0 ≤ Int.tdiv x n ∧ Int.tdiv x n ≤ x := by
  rw [Int.tdiv_eq_ediv_of_nonneg hx]
  exact ⟨Int.ediv_nonneg hx (by omega), Int.ediv_le_self _ hx⟩
theorem pick_ok {b : List Int} (hb : Bytes b) {p : Int} (hp : 0 ≤ p) (hp' : p ≤ 100000) (n : Int) {k : Nat} (hk : 1 ≤ k) :
    ∃ v, spec_l20Rd_pick.f k b p n = some (v, p + 1) ∧ (1 ≤ n → 0 ≤ v ∧ v < n) ∧ (n < 1 → v = 0) := by
  obtain ⟨k, rfl⟩ : ∃ m, k = m + 1 := ⟨k - 1, by omega⟩
  unfold spec_l20Rd_pick.f
  have e1 : wrap64 (p + 1) = p + 1 := w64 (by omega) (by omega)
  rw [e1]
  by_cases hn : n < 1
  · rw [if_pos hn]
    simp only [spec_l20Rd_pick.j0]
    rw [if_pos trivial]
    exact ⟨0, rfl, fun h => by omega, fun _ => rfl⟩
  · rw [if_neg hn]
    simp only [spec_l20Rd_pick.j0]
    by_cases h0 : b.length = 0
    · rw [if_pos (by simp [h0])]
      exact ⟨0, rfl, fun h => by omega, fun _ => rfl⟩
    · have e2 : wrap64 (p + 1 - 1) = p := by rw [w64 (by omega) (by omega)]; omega
      have hl := hb.1
      rw [if_neg (by rw [beq_iff_eq]; omega)]
      simp only [e2]
      by_cases h1 : p < (b.length : Int)
      · rw [if_pos h1, if_pos hp, if_neg (by omega)]
        have hr := hb.at_ p
        rw [w64 (x := rd b p) (by omega) (by omega)]
        exact ⟨_, rfl, fun _ => tmod_range hr.1 (by omega), fun h => by omega⟩
      · rw [if_neg h1, if_neg (by omega)]
        have r1 := tmod_range (x := p) (n := (b.length : Int)) hp (by omega)
        have e3 : wrap64 (wrap64 (p * 7) + 3) = p * 7 + 3 := by rw [w64 (x := p * 7) (by omega) (by omega), w64 (by omega) (by omega)]
        simp only [e3]
        have r2 := tmod_range (x := p * 7 + 3) (n := (b.length : Int)) (by omega) (by omega)
        rw [if_pos r1.1, if_pos r1.2, if_pos r2.1, if_pos r2.2, if_neg (by omega)]
        have ra := hb.at_ (Int.tmod p (b.length : Int))
        have rc := hb.at_ (Int.tmod (p * 7 + 3) (b.length : Int))
        have rq := tdiv_range (x := p) (n := (b.length : Int)) hp (by omega)
        obtain ⟨a, ea⟩ : ∃ a, rd b (Int.tmod p (b.length : Int)) = a := ⟨_, rfl⟩
        obtain ⟨c, ec⟩ : ∃ c, rd b (Int.tmod (p * 7 + 3) (b.length : Int)) = c := ⟨_, rfl⟩
        obtain ⟨q, eq⟩ : ∃ q, Int.tdiv p (b.length : Int) = q := ⟨_, rfl⟩
        rw [ea] at ra
        rw [ec] at rc
        rw [eq] at rq
        rw [ea, ec, eq]
        rw [w64 (x := a) (by omega) (by omega), w64 (x := c) (by omega) (by omega), w64 (x := q) (by omega) (by omega), w64 (x := a * 131) (by omega) (by omega), w64 (x := c * 1117) (by omega) (by omega), w64 (x := p * 29) (by omega) (by omega), w64 (x := q * 53) (by omega) (by omega), w64 (x := a * 131 + c * 1117) (by omega) (by omega), w64 (x := a * 131 + c * 1117 + p * 29) (by omega) (by omega), w64 (x := a * 131 + c * 1117 + p * 29 + q * 53) (by omega) (by omega)]
        obtain ⟨X, hX⟩ : ∃ X, a * 131 + c * 1117 + p * 29 + q * 53 = X := ⟨_, rfl⟩
        have hX0 : 0 ≤ X ∧ X < 1099511627776 := by omega
        rw [hX]
        have rd64 := tdiv_range (x := X) (n := 64) hX0.1 (by omega)
        rw [w64 (x := Int.tdiv X 64) (by omega) (by omega)]
        have hx := xor_nonneg hX0.1 hX0.2 rd64.1 (by omega)
        exact ⟨_, rfl, fun _ => tmod_range hx.1 (by omega), fun h => by omega⟩
theorem odd_ok {b : List Int} (hb : Bytes b) {p : Int} (hp : 0 ≤ p) (hp' : p ≤ 100000) (n : Int) {k : Nat} (hk : 1 ≤ k) :
    ∃ o q, spec_l20Rd_odd.f k b p n = some (o, q) ∧ p ≤ q ∧ q ≤ p + 1 := by
  unfold spec_l20Rd_odd.f
  by_cases hn : n > 0
  · obtain ⟨v, e, _⟩ := pick_ok hb hp hp' n hk
    rw [if_pos hn, e]
    exact ⟨_, _, rfl, by omega, by omega⟩
  · rw [if_neg hn]
    exact ⟨_, _, rfl, by omega, by omega⟩
theorem things_ok {b : List Int} (hb : Bytes b) {p : Int} (hp : 0 ≤ p) (hp' : p ≤ 90000) (n : Int) {k : Nat} (hk : 1 ≤ k) :
    ∃ t q, spec_l20Things.f k b p n = some (t, q) ∧ p ≤ q ∧ q ≤ p + 2 ∧ -1 ≤ t ∧ t ≤ 4 := by
  unfold spec_l20Things.f
  obtain ⟨o, q, e, h1, h2⟩ := odd_ok hb hp (by omega) n hk
  rw [e]
  simp only [Option.bind_some]
  cases o
  · rw [if_neg (by decide)]
    obtain ⟨v, e2, h3, _⟩ := pick_ok hb (p := q) (by omega) (by omega) 5 hk
    have h4 := h3 (by omega)
    rw [e2]
    simp only [Option.bind_some]
    rw [if_pos h4.1, if_pos (by exact h4.2)]
    obtain rfl | rfl | rfl | rfl | rfl : v = 0 ∨ v = 1 ∨ v = 2 ∨ v = 3 ∨ v = 4 := by omega
    all_goals exact ⟨_, _, rfl, by omega, by omega, by decide, by decide⟩
  · rw [if_pos rfl]
    obtain ⟨v, e2, h3, _⟩ := pick_ok hb (p := q) (by omega) (by omega) 3 hk
    have h4 := h3 (by omega)
    rw [e2]
    simp only [Option.bind_some]
    rw [if_pos h4.1, if_pos (by exact h4.2)]
    obtain rfl | rfl | rfl : v = 0 ∨ v = 1 ∨ v = 2 := by omega
    all_goals exact ⟨_, _, rfl, by omega, by omega, by decide, by decide⟩
theorem set0_ok {b : List Int} (hb : Bytes b) {p : Int} (hp : 0 ≤ p) (hp' : p ≤ 90000) (n a : Int) (ha : 1 ≤ a) (ha' : a ≤ 255) {k : Nat} (hk : 12 ≤ k) :
    ∃ s q, spec_l20Set.j0 k n a b p = some (s, q) ∧ p ≤ q ∧ q ≤ p + 4 ∧ -1 ≤ s ∧ s ≤ 256 := by
  obtain ⟨k, rfl⟩ : ∃ m, k = m + 1 := ⟨k - 1, by omega⟩
  simp only [spec_l20Set.j0]
  obtain ⟨o, q, e, h1, h2⟩ := odd_ok hb hp (by omega) n (k := k) (by omega)
  rw [e, w64 (x := a + 1) (by omega) (by omega)]
  simp only [Option.bind_some]
  cases o
  · rw [if_neg (by decide)]
    obtain ⟨v, e2, h3, _⟩ := pick_ok hb (p := q) (by omega) (by omega) 256 (k := k) (by omega)
    have h4 := h3 (by omega)
    rw [e2]
    simp only [Option.bind_some]
    rw [if_neg (by omega)]
    obtain ⟨u, e3, h5, _⟩ := pick_ok hb (p := q + 1) (by omega) (by omega) 3 (k := k) (by omega)
    rw [e3]
    simp only [Option.bind_some]
    have r1 := tmod_range (x := v) (n := a + 1) h4.1 (by omega)
    by_cases hu : u = 0
    · rw [if_pos hu]
      obtain ⟨x, e4, h6, _⟩ := pick_ok hb (p := q + 1 + 1) (by omega) (by omega) 256 (k := k) (by omega)
      have h7 := h6 (by omega)
      rw [e4]
      simp only [Option.bind_some]
      rw [l1Both_eq r1.1 h7.1 (by omega)]
      simp only [Option.bind_some]
      have r2 := tmod_range (x := andS (Int.tmod v (a + 1)) x) (n := a + 1) (andS_nonneg _ _) (by omega)
      exact ⟨_, _, rfl, by omega, by omega, by omega, by omega⟩
    · rw [if_neg hu]
      exact ⟨_, _, rfl, by omega, by omega, by omega, by omega⟩
  · rw [if_pos rfl]
    obtain ⟨v, e2, h3, _⟩ := pick_ok hb (p := q) (by omega) (by omega) 2 (k := k) (by omega)
    have h4 := h3 (by omega)
    rw [e2]
    simp only [Option.bind_some]
    rw [if_pos h4.1, if_pos (by exact h4.2)]
    obtain rfl | rfl : v = 0 ∨ v = 1 := by omega
    · exact ⟨-1, _, rfl, by omega, by omega, by omega, by omega⟩
    · exact ⟨a + 1, _, rfl, by omega, by omega, by omega, by omega⟩
theorem set_ok {b : List Int} (hb : Bytes b) {p : Int} (hp : 0 ≤ p) (hp' : p ≤ 90000) (t n : Int) {k : Nat} (hk : 12 ≤ k) :
    ∃ s q, spec_l20Set.f k b p t n = some (s, q) ∧ p ≤ q ∧ q ≤ p + 4 ∧ -1 ≤ s ∧ s ≤ 256 := by
  unfold spec_l20Set.f
  rw [l1In_eq]
  simp only [Option.bind_some]
  by_cases ht : 1 ≤ t ∧ t ≤ 3
  · rw [if_pos (by simp [ht]), all_spec ht]
    simp only [Option.bind_some]
    have h1 := all_le ht
    have h2 := all_ge ht
    exact set0_ok hb hp hp' n _ (by omega) (by omega) hk
  · rw [if_neg (by simpa using ht)]
    exact set0_ok hb hp hp' n 1 (by omega) (by omega) hk
theorem open_ok {l : List Int} (hl : ∀ x ∈ l, (Lit.int .u8 x).wf = true) : ∃ b, spec_l20Open.f l = some (b, 0) ∧ Bytes b := by
  have hb : ∀ x, x ∈ l → 0 ≤ x ∧ x ≤ 255 := by
    intro x hx
    exact wfu8 (hl x hx)
  unfold spec_l20Open.f
  by_cases h : (l.length : Int) > 2000
  · rw [if_pos h, if_pos (by omega)]
    exact ⟨_, rfl, by simp; omega, fun x hx => hb x (List.mem_of_mem_take hx)⟩
  · rw [if_neg h]
    exact ⟨_, rfl, by omega, hb⟩
/-! #### FDrawR -/
theorem rank1_ok {n : Nat} (hn : n ≤ 8) (b : List Int) (q : Int) : ∀ (d k j : Nat) (l : List Int), j + d = n → l.length = n → d < k → ∃ r, spec_l20Rank.l1 k l n j b q = some (r, q) ∧ r.length = n
  | 0, k, j, l, hj, hl, hk => by
    obtain ⟨k, rfl⟩ : ∃ m, k = m + 1 := ⟨k - 1, by omega⟩
    simp only [spec_l20Rank.l1]
    rw [if_neg (by omega)]
    exact ⟨l, rfl, hl⟩
  | d + 1, k, j, l, hj, hl, hk => by
    obtain ⟨k, rfl⟩ : ∃ m, k = m + 1 := ⟨k - 1, by omega⟩
    simp only [spec_l20Rank.l1]
    rw [if_pos (by omega), if_pos (by omega), if_pos (by omega), w64s (by omega)]
    exact rank1_ok hn b q d k (j + 1) _ (by omega) (by rw [List.length_set, hl]) (by omega)
theorem rank0_ok {n : Nat} (hn : n ≤ 8) (hn1 : 1 ≤ n) {b : List Int} (hb : Bytes b) {c m : Int} (hc : 0 ≤ c) (hc' : c < 3) : ∀ (d k j : Nat) (l : List Int) (p : Int), j + d = n → l.length = j → d + 10 < k → 0 ≤ p → p ≤ 90000 + (j : Int) →
    ∃ r q, spec_l20Rank.l0 k m l n c j b p = some (r, q) ∧ p ≤ q ∧ q ≤ p + (d : Int) + 3 ∧ r.length ≤ 9
  | 0, k, j, l, p, hj, hl, hk, hp, hp' => by
    obtain ⟨k, rfl⟩ : ∃ m, k = m + 1 := ⟨k - 1, by omega⟩
    simp only [spec_l20Rank.l0]
    rw [if_neg (by omega)]
    obtain ⟨v, e1, h1, _⟩ := pick_ok hb hp (by omega) (n : Int) (k := k) (by omega)
    have hv := h1 (by omega)
    rw [e1]
    simp only [Option.bind_some]
    rw [if_pos hv.1, if_pos (by omega)]
    obtain ⟨o, q, e2, h2, h3⟩ := odd_ok hb (p := p + 1) (by omega) (by omega) m (k := k) (by omega)
    rw [e2]
    simp only [Option.bind_some]
    cases o
    · rw [if_neg (by decide)]
      exact ⟨_, _, rfl, by omega, by omega, by rw [List.length_set]; omega⟩
    · rw [if_pos rfl]
      obtain ⟨u, e3, _⟩ := pick_ok hb (p := q) (by omega) (by omega) 3 (k := k) (by omega)
      rw [e3]
      simp only [Option.bind_some]
      by_cases h0 : u = 0
      · rw [if_pos h0, if_pos (by rw [List.length_set]; omega)]
        exact ⟨_, _, rfl, by omega, by omega, by simp; omega⟩
      · rw [if_neg h0]
        by_cases h4 : u = 1
        · rw [if_pos h4, if_pos (by omega)]
          exact ⟨_, _, rfl, by omega, by omega, by rw [List.length_set, List.length_set]; omega⟩
        · rw [if_neg h4]
          obtain ⟨r, e5, h5⟩ := rank1_ok hn b (q + 1) n k 0 (l.set (v : Int).toNat 0) (by omega) (by rw [List.length_set]; omega) (by omega)
          exact ⟨r, _, e5, by omega, by omega, by omega⟩
  | d + 1, k, j, l, p, hj, hl, hk, hp, hp' => by
    obtain ⟨k, rfl⟩ : ∃ m, k = m + 1 := ⟨k - 1, by omega⟩
    simp only [spec_l20Rank.l0]
    rw [if_pos (by omega)]
    simp only [Option.bind_some]
    rw [if_pos hc, if_pos (by exact hc')]
    obtain ⟨v, e1, _⟩ := pick_ok hb hp (by omega) (rd [2, 4, 10] c) (k := k) (by omega)
    rw [e1]
    simp only [Option.bind_some]
    rw [if_pos (by omega), w64s (by omega)]
    obtain ⟨r, q, e, h1, h2, h3⟩ := rank0_ok hn hn1 hb (m := m) hc hc' d k (j + 1) (l ++ [v]) (p + 1) (by omega) (by simp [hl]) (by omega) (by omega) (by omega)
    exact ⟨r, q, e, by omega, by omega, h3⟩
theorem worlds_spec (t : Int) : ∃ n : Nat, 1 ≤ n ∧ n ≤ 8 ∧ ∃ x, spec_WorldsOf.f t = some x ∧ mx x 1 = n := by
  unfold spec_WorldsOf.f
  rw [l1In_eq]
  simp only [Option.bind_some]
  by_cases ht : 1 ≤ t ∧ t ≤ 3
  · have h8 := worlds_le ht
    have h2 := worlds_ge ht
    rw [if_pos (by simp [ht]), if_pos (by omega), shl_things ht]
    exact ⟨2 ^ t.toNat, by omega, h8, _, rfl, by rw [mx_eq]; omega⟩
  · rw [if_neg (by simpa using ht)]
    exact ⟨1, by omega, by omega, _, rfl, by rw [mx_eq]; rfl⟩
theorem rank_ok {b : List Int} (hb : Bytes b) {p : Int} (hp : 0 ≤ p) (hp' : p ≤ 80000) (t n : Int) {k : Nat} (hk : 20 ≤ k) :
    ∃ r q, spec_l20Rank.f k b p t n = some (r, q) ∧ p ≤ q ∧ q ≤ p + 12 ∧ r.length ≤ 9 := by
  unfold spec_l20Rank.f
  obtain ⟨m, h1, h2, x, e, hm⟩ := worlds_spec t
  rw [e]
  simp only [Option.bind_some]
  obtain ⟨c, e1, h3, _⟩ := pick_ok hb hp (by omega) 3 (k := k) (by omega)
  have hc := h3 (by omega)
  rw [e1]
  simp only [Option.bind_some]
  rw [hm]
  obtain ⟨r, q, e2, h4, h5, h6⟩ := rank0_ok h2 h1 hb (c := c) (m := n) hc.1 hc.2 m k 0 [] (p + 1) (by omega) rfl (by omega) (by omega) (by omega)
  exact ⟨r, q, e2, by omega, by omega, h6⟩
/-! #### FDrawRd -/
theorem ranked_ok {b : List Int} (hb : Bytes b) {p : Int} (hp : 0 ≤ p) (hp' : p ≤ 70000) {k : Nat} (hk : 20 ≤ k) :
    ∃ t r s q, spec_l20Ranked.f k b p = some (t, r, s, q) ∧ p ≤ q ∧ q ≤ p + 18 ∧ r.length ≤ 9 := by
  unfold spec_l20Ranked.f
  obtain ⟨t, q1, e1, h1, h2, _⟩ := things_ok hb hp (by omega) 20 (k := k) (by omega)
  rw [e1]
  simp only [Option.bind_some]
  obtain ⟨r, q2, e2, h3, h4, h5⟩ := rank_ok hb (p := q1) (by omega) (by omega) t 16 hk
  rw [e2]
  simp only [Option.bind_some]
  obtain ⟨s, q3, e3, h6, h7, _⟩ := set_ok hb (p := q2) (by omega) (by omega) t 20 (k := k) (by omega)
  rw [e3]
  exact ⟨t, r, s, q3, rfl, by omega, by omega, h5⟩
/-! #### GDrawA -/
theorem after1_ok {b : List Int} (hb : Bytes b) (t : Int) (r x : List Int) (hx : x.length ≤ 9) {p : Int} (hp : 0 ≤ p) (hp' : p ≤ 80000) {k : Nat} (hk : 2 ≤ k) :
    ∃ way ss, spec_DrawAfterAll.j1 k t r x b p = some (t, r, way, ss) ∧ ss.length ≤ 9 := by
  obtain ⟨k, rfl⟩ : ∃ m, k = m + 1 := ⟨k - 1, by omega⟩
  simp only [spec_DrawAfterAll.j1]
  obtain ⟨o, q, e, h1, h2⟩ := odd_ok hb hp (by omega) 40 (k := k) (by omega)
  rw [e]
  simp only [Option.bind_some]
  obtain ⟨u, e2, _⟩ := pick_ok hb (p := q) (by omega) (by omega) 2 (k := k) (by omega)
  rw [e2]
  simp only [Option.bind_some]
  obtain ⟨v, e3, _⟩ := pick_ok hb (p := q + 1) (by omega) (by omega) 20 (k := k) (by omega)
  rw [e3]
  simp only [Option.bind_some]
  cases o
  · rw [if_neg (by decide)]
    exact ⟨_, _, rfl, hx⟩
  · rw [if_pos rfl, if_pos (by decide)]
    exact ⟨_, _, rfl, by rw [List.length_replicate]; omega⟩
theorem after0_ok {b : List Int} (hb : Bytes b) (t : Int) (r : List Int) : ∀ (d k : Nat) (x : List Int) (p : Int), x.length + d ≤ 5 → d + 20 ≤ k → 0 ≤ p → p + 4 * (d : Int) ≤ 70000 →
    ∃ way ss, spec_DrawAfterAll.l0 k t r x (d : Int) b p = some (t, r, way, ss) ∧ ss.length ≤ 9
  | 0, k, x, p, hx, hk, hp, hp' => by
    obtain ⟨k, rfl⟩ : ∃ m, k = m + 1 := ⟨k - 1, by omega⟩
    simp only [spec_DrawAfterAll.l0]
    rw [if_neg (by decide)]
    obtain ⟨o, q, e, h1, h2⟩ := odd_ok hb hp (by omega) 20 (k := k) (by omega)
    rw [e]
    simp only [Option.bind_some]
    cases o
    · rw [if_neg (by decide)]
      exact after1_ok hb t r x (by omega) (by omega) (by omega) (by omega)
    · rw [if_pos rfl, if_pos (by omega)]
      exact after1_ok hb t r _ (by rw [List.length_append, List.length_singleton]; omega) (by omega) (by omega) (by omega)
  | d + 1, k, x, p, hx, hk, hp, hp' => by
    obtain ⟨k, rfl⟩ : ∃ m, k = m + 1 := ⟨k - 1, by omega⟩
    simp only [spec_DrawAfterAll.l0]
    rw [if_pos (by omega)]
    obtain ⟨s, q, e, h1, h2, _⟩ := set_ok hb (p := p) (by omega) (by omega) t 40 (k := k) (by omega)
    rw [e]
    simp only [Option.bind_some]
    rw [if_pos (by omega), w64 (by omega) (by omega), show (((d + 1 : Nat) : Int) - 1) = (d : Int) by omega]
    exact after0_ok hb t r d k _ q (by rw [List.length_append, List.length_singleton]; omega) (by omega) (by omega) (by omega)
theorem drawAfter_ok {l : List Int} (hl : ∀ x ∈ l, (Lit.int .u8 x).wf = true) {k : Nat} (hk : 60 ≤ k) : ∃ t r way ss, spec_DrawAfterAll.f k l = some (t, r, way, ss) ∧ r.length ≤ 9 ∧ ss.length ≤ 9 := by
  unfold spec_DrawAfterAll.f
  obtain ⟨b, e, hb⟩ := open_ok hl
  rw [e]
  simp only [Option.bind_some]
  obtain ⟨t, r, s, q, e1, h1, h2, h⟩ := ranked_ok hb (p := 0) (by omega) (by omega) (k := k) (by omega)
  rw [e1]
  simp only [Option.bind_some]
  obtain ⟨v, e2, h3, _⟩ := pick_ok hb (p := q) (by omega) (by omega) 5 (k := k) (by omega)
  have h3 := h3 (by omega)
  rw [e2]
  simp only [Option.bind_some]
  obtain ⟨d, rfl⟩ : ∃ d : Nat, v = d := ⟨v.toNat, by omega⟩
  obtain ⟨way, ss, e3, h4⟩ := after0_ok hb t r d k [] (q + 1) (by simp; omega) (by omega) (by omega) (by omega)
  exact ⟨t, r, way, ss, e3, h, h4⟩
end Go.Proofs.Ytfleephpcomimaa.LS

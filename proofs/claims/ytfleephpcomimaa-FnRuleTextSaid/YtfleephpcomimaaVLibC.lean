/- Plain facts about what the printed functions answer (several pieces in one text). Conditions: those of each theorem. -/
import Derived.Test.YtfleephpcomimaaV8
import Derived.Test.YtfleephpcomimaaV12
import Derived.Test.YtfleephpcomimaaV13
import Derived.Test.YtfleephpcomimaaV14
import Derived.Test.YtfleephpcomimaaVLibA
import Derived.Test.YtfleephpcomimaaSets
set_option linter.unusedVariables false
set_option linter.unusedSimpArgs false
namespace Go.Proofs.Ytfleephpcomimaa.LV
open Go.RowKit Go.Proofs.YtfleephpcomimaaW.PrintWords Go.Proofs.YtfleephpcomimaaW.PrintLast Go.Proofs.YtfleephpcomimaaW.PrintMore Go.Proofs.BelM Go.Proofs.Ytfleephpcomimaa.V
/-! #### FDraw -/

/-- A row of bytes, not too long. -/
def Bytes (b : List Int) : Prop := b.length ≤ 2000 ∧ ∀ x, x ∈ b → 0 ≤ x ∧ x ≤ 255
theorem Bytes.at_ {b : List Int} (h : Bytes b) (i : Int) : 0 ≤ rd b i ∧ rd b i ≤ 255 := by
  unfold rd
  rw [List.getD_eq_getElem?_getD]
  cases e : b[i.toNat]? with
  | none => simp
  | some x => exact h.2 x (List.mem_of_getElem? e)
theorem xor_nonneg {a b : Int} (ha : 0 ≤ a) (ha' : a < 1099511627776) (hb : 0 ≤ b) (hb' : b < 1099511627776) : 0 ≤ bits .xor .i64 a b ∧ bits .xor .i64 a b < 1099511627776 := by
  obtain ⟨m, rfl⟩ : ∃ m : Nat, a = m := ⟨a.toNat, by omega⟩
  obtain ⟨n, rfl⟩ : ∃ n : Nat, b = n := ⟨b.toNat, by omega⟩
  rw [bits_bv]
  have e : (bvop .xor (BitVec.ofInt 64 (m : Int)) (BitVec.ofInt 64 (n : Int))).toNat = m ^^^ n := by
    simp only [bvop, ofInt_nat, BitVec.toNat_xor, BitVec.toNat_ofNat]
    rw [Nat.mod_eq_of_lt (by omega), Nat.mod_eq_of_lt (by omega)]
  have hlt : m ^^^ n < 2 ^ 40 := Nat.xor_lt_two_pow (by omega) (by omega)
  rw [e, IntKind.wrap_i64]
  omega
theorem tmod_range {x n : Int} (hx : 0 ≤ x) (hn : 1 ≤ n) : 0 ≤ Int.tmod x n ∧ Int.tmod x n < n := by
  rw [Int.tmod_eq_emod_of_nonneg hx]
  exact ⟨Int.emod_nonneg _ (by omega), Int.emod_lt_of_pos _ (by omega)⟩
theorem tdiv_range {x n : Int} (hx : 0 ≤ x) (hn : 1 ≤ n) : 0 ≤ Int.tdiv x n ∧ Int.tdiv x n ≤ x := by
  rw [Int.tdiv_eq_ediv_of_nonneg hx]
  exact ⟨Int.ediv_nonneg hx (by omega), Int.ediv_le_self _ hx⟩
theorem pick_ok {b : List Int} (hb : Bytes b) {p : Int} (hp : 0 ≤ p) (hp' : p ≤ 100000) (n : Int) {k : Nat} (hk : 1 ≤ k) :
    ∃ v, spec_l20Rd_pick.f k b p n = some (v, p + 1) ∧ (1 ≤ n → 0 ≤ v ∧ v < n) ∧ (n < 1 → v = 0) := by
  obtain ⟨k, rfl⟩ : ∃ m, k = m + 1 := ⟨k - 1, by omega⟩
  unfold spec_l20Rd_pick.f
  have e1 : wrap64 (p + 1) = p + 1 := w64 (by omega) (by omega)
  rw [e1]
  by_cases hn : n < 1
  · rw [if_pos hn]
    simp only [spec_l20Rd_pick.j0]
    rw [if_pos trivial]
    exact ⟨0, rfl, fun h => by omega, fun _ => rfl⟩
  · rw [if_neg hn]
    simp only [spec_l20Rd_pick.j0]
    by_cases h0 : b.length = 0
    · rw [if_pos (by simp [h0])]
      exact ⟨0, rfl, fun h => by omega, fun _ => rfl⟩
    · have e2 : wrap64 (p + 1 - 1) = p := by rw [w64 (by omega) (by omega)]; omega
      have hl := hb.1
      rw [if_neg (by rw [beq_iff_eq]; omega)]
      simp only [e2]
      by_cases h1 : p < (b.length : Int)
      · rw [if_pos h1, if_pos hp, if_neg (by omega)]
        have hr := hb.at_ p
        rw [w64 (x := rd b p) (by omega) (by omega)]
        exact ⟨_, rfl, fun _ => tmod_range hr.1 (by omega), fun h => by omega⟩
      · rw [if_neg h1, if_neg (by omega)]
        have r1 := tmod_range (x := p) (n := (b.length : Int)) hp (by omega)
        have e3 : wrap64 (wrap64 (p * 7) + 3) = p * 7 + 3 := by rw [w64 (x := p * 7) (by omega) (by omega), w64 (by omega) (by omega)]
        simp only [e3]
        have r2 := tmod_range (x := p * 7 + 3) (n := (b.length : Int)) (by omega) (by omega)
        rw [if_pos r1.1, if_pos r1.2, if_pos r2.1, if_pos r2.2, if_neg (by omega)]
        have ra := hb.at_ (Int.tmod p (b.length : Int))
        have rc := hb.at_ (Int.tmod (p * 7 + 3) (b.length : Int))
        have rq := tdiv_range (x := p) (n := (b.length : Int)) hp (by omega)
        obtain ⟨a, ea⟩ : ∃ a, rd b (Int.tmod p (b.length : Int)) = a := ⟨_, rfl⟩
        obtain ⟨c, ec⟩ : ∃ c, rd b (Int.tmod (p * 7 + 3) (b.length : Int)) = c := ⟨_, rfl⟩
        obtain ⟨q, eq⟩ : ∃ q, Int.tdiv p (b.length : Int) = q := ⟨_, rfl⟩
        rw [ea] at ra
        rw [ec] at rc
        rw [eq] at rq
        rw [ea, ec, eq]
        rw [w64 (x := a) (by omega) (by omega), w64 (x := c) (by omega) (by omega), w64 (x := q) (by omega) (by omega), w64 (x := a * 131) (by omega) (by omega), w64 (x := c * 1117) (by omega) (by omega), w64 (x := p * 29) (by omega) (by omega), w64 (x := q * 53) (by omega) (by omega), w64 (x := a * 131 + c * 1117) (by omega) (by omega), w64 (x := a * 131 + c * 1117 + p * 29) (by omega) (by omega), w64 (x := a * 131 + c * 1117 + p * 29 + q * 53) (by omega) (by omega)]
        obtain ⟨X, hX⟩ : ∃ X, a * 131 + c * 1117 + p * 29 + q * 53 = X := ⟨_, rfl⟩
        have hX0 : 0 ≤ X ∧ X < 1099511627776 := by omega
        rw [hX]
        have rd64 := tdiv_range (x := X) (n := 64) hX0.1 (by omega)
        rw [w64 (x := Int.tdiv X 64) (by omega) (by omega)]
        have hx := xor_nonneg hX0.1 hX0.2 rd64.1 (by omega)
        exact ⟨_, rfl, fun _ => tmod_range hx.1 (by omega), fun h => by omega⟩
theorem odd_ok {b : List Int} (hb : Bytes b) {p : Int} (hp : 0 ≤ p) (hp' : p ≤ 100000) (n : Int) {k : Nat} (hk : 1 ≤ k) :
    ∃ o q, spec_l20Rd_odd.f k b p n = some (o, q) ∧ p ≤ q ∧ q ≤ p + 1 := by
  unfold spec_l20Rd_odd.f
  by_cases hn : n > 0
  · obtain ⟨v, e, _⟩ := pick_ok hb hp hp' n hk
    rw [if_pos hn, e]
    exact ⟨_, _, rfl, by omega, by omega⟩
  · rw [if_neg hn]
    exact ⟨_, _, rfl, by omega, by omega⟩
theorem things_ok {b : List Int} (hb : Bytes b) {p : Int} (hp : 0 ≤ p) (hp' : p ≤ 90000) (n : Int) {k : Nat} (hk : 1 ≤ k) :
    ∃ t q, spec_l20Things.f k b p n = some (t, q) ∧ p ≤ q ∧ q ≤ p + 2 ∧ -1 ≤ t ∧ t ≤ 4 := by
  unfold spec_l20Things.f
  obtain ⟨o, q, e, h1, h2⟩ := odd_ok hb hp (by omega) n hk
  rw [e]
  simp only [Option.bind_some]
  cases o
  · rw [if_neg (by decide)]
    obtain ⟨v, e2, h3, _⟩ := pick_ok hb (p := q) (by omega) (by omega) 5 hk
    have h4 := h3 (by omega)
    rw [e2]
    simp only [Option.bind_some]
    rw [if_pos h4.1, if_pos (by exact h4.2)]
    obtain rfl | rfl | rfl | rfl | rfl : v = 0 ∨ v = 1 ∨ v = 2 ∨ v = 3 ∨ v = 4 := by omega
    all_goals exact ⟨_, _, rfl, by omega, by omega, by decide, by decide⟩
  · rw [if_pos rfl]
    obtain ⟨v, e2, h3, _⟩ := pick_ok hb (p := q) (by omega) (by omega) 3 hk
    have h4 := h3 (by omega)
    rw [e2]
    simp only [Option.bind_some]
    rw [if_pos h4.1, if_pos (by exact h4.2)]
    obtain rfl | rfl | rfl : v = 0 ∨ v = 1 ∨ v = 2 := by omega
    all_goals exact ⟨_, _, rfl, by omega, by omega, by decide, by decide⟩
theorem set0_ok {b : List Int} (hb : Bytes b) {p : Int} (hp : 0 ≤ p) (hp' : p ≤ 90000) (n a : Int) (ha : 1 ≤ a) (ha' : a ≤ 255) {k : Nat} (hk : 12 ≤ k) :
    ∃ s q, spec_l20Set.j0 k n a b p = some (s, q) ∧ p ≤ q ∧ q ≤ p + 4 ∧ -1 ≤ s ∧ s ≤ 256 := by
  obtain ⟨k, rfl⟩ : ∃ m, k = m + 1 := ⟨k - 1, by omega⟩
  simp only [spec_l20Set.j0]
  obtain ⟨o, q, e, h1, h2⟩ := odd_ok hb hp (by omega) n (k := k) (by omega)
  rw [e, w64 (x := a + 1) (by omega) (by omega)]
  simp only [Option.bind_some]
  cases o
  · rw [if_neg (by decide)]
    obtain ⟨v, e2, h3, _⟩ := pick_ok hb (p := q) (by omega) (by omega) 256 (k := k) (by omega)
    have h4 := h3 (by omega)
    rw [e2]
    simp only [Option.bind_some]
    rw [if_neg (by omega)]
    obtain ⟨u, e3, h5, _⟩ := pick_ok hb (p := q + 1) (by omega) (by omega) 3 (k := k) (by omega)
    rw [e3]
    simp only [Option.bind_some]
    have r1 := tmod_range (x := v) (n := a + 1) h4.1 (by omega)
    by_cases hu : u = 0
    · rw [if_pos hu]
      obtain ⟨x, e4, h6, _⟩ := pick_ok hb (p := q + 1 + 1) (by omega) (by omega) 256 (k := k) (by omega)
      have h7 := h6 (by omega)
      rw [e4]
      simp only [Option.bind_some]
      rw [l1Both_eq r1.1 h7.1 (by omega)]
      simp only [Option.bind_some]
      have r2 := tmod_range (x := andS (Int.tmod v (a + 1)) x) (n := a + 1) (andS_nonneg _ _) (by omega)
      exact ⟨_, _, rfl, by omega, by omega, by omega, by omega⟩
    · rw [if_neg hu]
      exact ⟨_, _, rfl, by omega, by omega, by omega, by omega⟩
  · rw [if_pos rfl]
    obtain ⟨v, e2, h3, _⟩ := pick_ok hb (p := q) (by omega) (by omega) 2 (k := k) (by omega)
    have h4 := h3 (by omega)
    rw [e2]
    simp only [Option.bind_some]
    rw [if_pos h4.1, if_pos (by exact h4.2)]
    obtain rfl | rfl : v = 0 ∨ v = 1 := by omega
    · exact ⟨-1, _, rfl, by omega, by omega, by omega, by omega⟩
    · exact ⟨a + 1, _, rfl, by omega, by omega, by omega, by omega⟩
theorem set_ok {b : List Int} (hb : Bytes b) {p : Int} (hp : 0 ≤ p) (hp' : p ≤ 90000) (t n : Int) {k : Nat} (hk : 12 ≤ k) :
    ∃ s q, spec_l20Set.f k b p t n = some (s, q) ∧ p ≤ q ∧ q ≤ p + 4 ∧ -1 ≤ s ∧ s ≤ 256 := by
  unfold spec_l20Set.f
  rw [l1In_eq]
  simp only [Option.bind_some]
  by_cases ht : 1 ≤ t ∧ t ≤ 3
  · rw [if_pos (by simp [ht]), all_spec ht]
    simp only [Option.bind_some]
    have h1 := all_le ht
    have h2 := all_ge ht
    exact set0_ok hb hp hp' n _ (by omega) (by omega) hk
  · rw [if_neg (by simpa using ht)]
    exact set0_ok hb hp hp' n 1 (by omega) (by omega) hk
theorem open_ok {l : List Int} (hl : ∀ x ∈ l, (Lit.int .u8 x).wf = true) : ∃ b, spec_l20Open.f l = some (b, 0) ∧ Bytes b := by
  have hb : ∀ x, x ∈ l → 0 ≤ x ∧ x ≤ 255 := by
    intro x hx
    exact wfu8 (hl x hx)
  unfold spec_l20Open.f
  by_cases h : (l.length : Int) > 2000
  · rw [if_pos h, if_pos (by omega)]
    exact ⟨_, rfl, by simp; omega, fun x hx => hb x (List.mem_of_mem_take hx)⟩
  · rw [if_neg h]
    exact ⟨_, rfl, by omega, hb⟩
/-! #### FDrawR -/
/-! #### FDrawRd -/
/-! #### FDrawA -/
theorem rule_ok {b : List Int} (hb : Bytes b) {p : Int} (hp : 0 ≤ p) (hp' : p ≤ 80000) (t n : Int) {k : Nat} (hk : 12 ≤ k) :
    ∃ x y q, spec_l20Rule.f k b p t n = some (x, y, q) ∧ p ≤ q ∧ q ≤ p + 9 ∧ (-1 ≤ x ∧ x ≤ 256) ∧ -1 ≤ y ∧ y ≤ 256 := by
  unfold spec_l20Rule.f
  obtain ⟨x, q1, e1, h1, h2, h3, h4⟩ := set_ok hb hp (by omega) t n hk
  rw [e1]
  simp only [Option.bind_some]
  obtain ⟨y, q2, e2, h5, h6, h7, h8⟩ := set_ok hb (p := q1) (by omega) (by omega) t n hk
  rw [e2]
  simp only [Option.bind_some]
  by_cases h0 : x = 0
  · rw [if_pos h0]
    obtain ⟨o, q3, e3, h9, h10⟩ := odd_ok hb (p := q2) (by omega) (by omega) n (k := k) (by omega)
    rw [e3]
    simp only [Option.bind_some]
    cases o
    · rw [if_neg (by decide)]
      exact ⟨_, _, _, rfl, by omega, by omega, ⟨by omega, by omega⟩, h7, h8⟩
    · rw [if_pos rfl]
      exact ⟨_, _, _, rfl, by omega, by omega, ⟨h3, h4⟩, h7, h8⟩
  · rw [if_neg h0]
    exact ⟨_, _, _, rfl, by omega, by omega, ⟨h3, h4⟩, h7, h8⟩
theorem drawRule_ok {l : List Int} (hl : ∀ x ∈ l, (Lit.int .u8 x).wf = true) {k : Nat} (hk : 20 ≤ k) : ∃ t x y, spec_DrawRuleOk.f k l = some (t, x, y) := by
  unfold spec_DrawRuleOk.f
  obtain ⟨b, e, hb⟩ := open_ok hl
  rw [e]
  simp only [Option.bind_some]
  obtain ⟨t, q, e1, h1, h2, _⟩ := things_ok hb (p := 0) (by omega) (by omega) 9 (k := k) (by omega)
  rw [e1]
  simp only [Option.bind_some]
  obtain ⟨x, y, q2, e2, _⟩ := rule_ok hb (p := q) (by omega) (by omega) t 4 (k := k) (by omega)
  rw [e2]
  exact ⟨_, _, _, rfl⟩
/-! #### FLawAlive -/
theorem alive_eq : laws_alive.f = some true := by decide +kernel
end Go.Proofs.Ytfleephpcomimaa.LV

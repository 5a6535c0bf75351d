/- Plain facts about what the printed functions answer (several pieces in one text). Conditions: those of each theorem. -/
import Derived.Test.YthgddbnmieodkaaQ8
import Derived.Test.YthgddbnmieodkaaQ9
import Derived.Test.YthgddbnmieodkaaQ13
import Derived.Test.YthgddbnmieodkaaQ14
import Derived.Test.YthgddbnmieodkaaQ15
import Derived.Test.YthgddbnmieodkaaQLibA
import Derived.Test.YthgddbnmieodkaaQLibB
import Derived.Test.YthgddbnmieodkaaSets
set_option linter.unusedVariables false
set_option linter.unusedSimpArgs false
namespace Go.Proofs.Ythgddbnmieodkaa.LQ
open Go.RowKit Go.Proofs.YthgddbnmieodkaaW.PrintWords Go.Proofs.YthgddbnmieodkaaW.PrintLast Go.Proofs.YthgddbnmieodkaaW.PrintMore Go.Proofs.BelM Go.Proofs.Ythgddbnmieodkaa.Q
/-! #### FDraw -/

/-- A row of bytes, not too long. -/
def Bytes (b : List Int) : Prop := b.length ≤ 2000 ∧ ∀ x, x ∈ b → 0 ≤ x ∧ x ≤ 255
theorem Bytes.at_ {b : List Int} (h : Bytes b) (i : Int) : 0 ≤ rd b i ∧ rd b i ≤ 255 := by
  unfold rd
  rw [List.getD_eq_getElem?_getD]
  cases e : b[i.toNat]? with
  | none => simp
  | some x => exact h.2 x (List.mem_of_getElem? e)
theorem xor_nonneg {a b : Int} (ha : 0 ≤ a) (ha' : a < 1099511627776) (hb : 0 ≤ b) (hb' : b < 1099511627776) : 0 ≤ bits .xor .i64 a b ∧ bits .xor .i64 a b < 1099511627776 := by
  obtain ⟨m, rfl⟩ : ∃ m : Nat, a = m := ⟨a.toNat, by omega⟩
  obtain ⟨n, rfl⟩ : ∃ n : Nat, b = n := ⟨b.toNat, by omega⟩
  rw [bits_bv]
  have e : (bvop .xor (BitVec.ofInt 64 (m : Int)) (BitVec.ofInt 64 (n : Int))).toNat = m ^^^ n := by
    simp only [bvop, ofInt_nat, BitVec.toNat_xor, BitVec.toNat_ofNat]
    rw [Nat.mod_eq_of_lt (by omega), Nat.mod_eq_of_lt (by omega)]
  have hlt : m ^^^ n < 2 ^ 40 := Nat.xor_lt_two_pow (by omega) (by omega)
  rw [e, IntKind.wrap_i64]
  omega
theorem tmod_range {x n : Int} (hx : 0 ≤ x) (hn : 1 ≤ n) : 0 ≤ Int.tmod x n ∧ Int.tmod x n < n := by
  rw [Int.tmod_eq_emod_of_nonneg hx]
  exact ⟨Int.emod_nonneg _ (by omega), Int.emod_lt_of_pos _ (by omega)⟩
theorem tdiv_range {x n : Int} (hx : 0 ≤ x) (hn : 1 ≤ n) : 0 ≤ Int.tdiv x n ∧ Int.tdiv x n ≤ x := by
  rw [Int.tdiv_eq_ediv_of_nonneg hx]
  exact ⟨Int.ediv_nonneg hx (by omega), Int.ediv_le_self _ hx⟩
theorem pick_ok {b : List Int} (hb : Bytes b) {p : Int} (hp : 0 ≤ p) (hp' : p ≤ 100000) (n : Int) {k : Nat} (hk : 1 ≤ k) :
    ∃ v, spec_l20Rd_pick.f k b p n = some (v, p + 1) ∧ (1 ≤ n → 0 ≤ v ∧ v < n) ∧ (n < 1 → v = 0) := by
  obtain ⟨k, rfl⟩ : ∃ m, k = m + 1 := ⟨k - 1, by omega⟩
  unfold spec_l20Rd_pick.f
  have e1 : wrap64 (p + 1) = p + 1 := w64 (by omega) (by omega)
  rw [e1]
  by_cases hn : n < 1
  · rw [if_pos hn]
    simp only [spec_l20Rd_pick.j0]
    rw [if_pos trivial]
    exact ⟨0, rfl, fun h => by omega, fun _ => rfl⟩
  · rw [if_neg hn]
    simp only [spec_l20Rd_pick.j0]
    by_cases h0 : b.length = 0
    · rw [if_pos (by simp [h0])]
      exact ⟨0, rfl, fun h => by omega, fun _ => rfl⟩
    · have e2 : wrap64 (p + 1 - 1) = p := by rw [w64 (by omega) (by omega)]; omega
      have hl := hb.1
      rw [if_neg (by rw [beq_iff_eq]; omega)]
      simp only [e2]
      by_cases h1 : p < (b.length : Int)
      · rw [if_pos h1, if_pos hp, if_neg (by omega)]
        have hr := hb.at_ p
        rw [w64 (x := rd b p) (by omega) (by omega)]
        exact ⟨_, rfl, fun _ => tmod_range hr.1 (by omega), fun h => by omega⟩
      · rw [if_neg h1, if_neg (by omega)]
        have r1 := tmod_range (x := p) (n := (b.length : Int)) hp (by omega)
        have e3 : wrap64 (wrap64 (p * 7) + 3) = p * 7 + 3 := by rw [w64 (x := p * 7) (by omega) (by omega), w64 (by omega) (by omega)]
        simp only [e3]
        have r2 := tmod_range (x := p * 7 + 3) (n := (b.length : Int)) (by omega) (by omega)
        rw [if_pos r1.1, if_pos r1.2, if_pos r2.1, if_pos r2.2, if_neg (by omega)]
        have ra := hb.at_ (Int.tmod p (b.length : Int))
        have rc := hb.at_ (Int.tmod (p * 7 + 3) (b.length : Int))
        have rq := tdiv_range (x := p) (n := (b.length : Int)) hp (by omega)
        obtain ⟨a, ea⟩ : ∃ a, rd b (Int.tmod p (b.length : Int)) = a := ⟨_, rfl⟩
        obtain ⟨c, ec⟩ : ∃ c, rd b (Int.tmod (p * 7 + 3) (b.length : Int)) = c := ⟨_, rfl⟩
        obtain ⟨q, eq⟩ : ∃ q, Int.tdiv p (b.length : Int) = q := ⟨_, rfl⟩
        rw [ea] at ra
        rw [ec] at rc
        rw [eq] at rq
        rw [ea, ec, eq]
        rw [w64 (x := a) (by omega) (by omega), w64 (x := c) (by omega) (by omega), w64 (x := q) (by omega) (by omega), w64 (x := a * 131) (by omega) (by omega), w64 (x := c * 1117) (by omega) (by omega), w64 (x := p * 29) (by omega) (by omega), w64 (x := q * 53) (by omega) (by omega), w64 (x := a * 131 + c * 1117) (by omega) (by omega), w64 (x := a * 131 + c * 1117 + p * 29) (by omega) (by omega), w64 (x := a * 131 + c * 1117 + p * 29 + q * 53) (by omega) (by omega)]
        obtain ⟨X, hX⟩ : ∃ X, a * 131 + c * 1117 + p * 29 + q * 53 = X := ⟨_, rfl⟩
        have hX0 : 0 ≤ X ∧ X < 1099511627776 := by omega
        rw [hX]
        have rd64 := tdiv_range (x := X) (n := 64) hX0.1 (by omega)
        rw [w64 (x := Int.tdiv X 64) (by omega) (by omega)]
        have hx := xor_nonneg hX0.1 hX0.2 rd64.1 (by omega)
        exact ⟨_, rfl, fun _ => tmod_range hx.1 (by omega), fun h => by omega⟩
theorem odd_ok {b : List Int} (hb : Bytes b) {p : Int} (hp : 0 ≤ p) (hp' : p ≤ 100000) (n : Int) {k : Nat} (hk : 1 ≤ k) :
    ∃ o q, spec_l20Rd_odd.f k b p n = some (o, q) ∧ p ≤ q ∧ q ≤ p + 1 := by
  unfold spec_l20Rd_odd.f
  by_cases hn : n > 0
  · obtain ⟨v, e, _⟩ := pick_ok hb hp hp' n hk
    rw [if_pos hn, e]
    exact ⟨_, _, rfl, by omega, by omega⟩
  · rw [if_neg hn]
    exact ⟨_, _, rfl, by omega, by omega⟩
theorem open_ok {l : List Int} (hl : ∀ x ∈ l, (Lit.int .u8 x).wf = true) : ∃ b, spec_l20Open.f l = some (b, 0) ∧ Bytes b := by
  have hb : ∀ x, x ∈ l → 0 ≤ x ∧ x ≤ 255 := by
    intro x hx
    exact wfu8 (hl x hx)
  unfold spec_l20Open.f
  by_cases h : (l.length : Int) > 2000
  · rw [if_pos h, if_pos (by omega)]
    exact ⟨_, rfl, by simp; omega, fun x hx => hb x (List.mem_of_mem_take hx)⟩
  · rw [if_neg h]
    exact ⟨_, rfl, by omega, hb⟩
/-! #### FDrawR -/
theorem rank1_ok {n : Nat} (hn : n ≤ 8) (b : List Int) (q : Int) : ∀ (d k j : Nat) (l : List Int), j + d = n → l.length = n → d < k → ∃ r, spec_l20Rank.l1 k l n j b q = some (r, q) ∧ r.length = n
  | 0, k, j, l, hj, hl, hk => by
    obtain ⟨k, rfl⟩ : ∃ m, k = m + 1 := ⟨k - 1, by omega⟩
    simp only [spec_l20Rank.l1]
    rw [if_neg (by omega)]
    exact ⟨l, rfl, hl⟩
  | d + 1, k, j, l, hj, hl, hk => by
    obtain ⟨k, rfl⟩ : ∃ m, k = m + 1 := ⟨k - 1, by omega⟩
    simp only [spec_l20Rank.l1]
    rw [if_pos (by omega), if_pos (by omega), if_pos (by omega), w64s (by omega)]
    exact rank1_ok hn b q d k (j + 1) _ (by omega) (by rw [List.length_set, hl]) (by omega)
theorem rank0_ok {n : Nat} (hn : n ≤ 8) (hn1 : 1 ≤ n) {b : List Int} (hb : Bytes b) {c m : Int} (hc : 0 ≤ c) (hc' : c < 3) : ∀ (d k j : Nat) (l : List Int) (p : Int), j + d = n → l.length = j → d + 10 < k → 0 ≤ p → p ≤ 90000 + (j : Int) →
    ∃ r q, spec_l20Rank.l0 k m l n c j b p = some (r, q) ∧ p ≤ q ∧ q ≤ p + (d : Int) + 3 ∧ r.length ≤ 9
  | 0, k, j, l, p, hj, hl, hk, hp, hp' => by
    obtain ⟨k, rfl⟩ : ∃ m, k = m + 1 := ⟨k - 1, by omega⟩
    simp only [spec_l20Rank.l0]
    rw [if_neg (by omega)]
    obtain ⟨v, e1, h1, _⟩ := pick_ok hb hp (by omega) (n : Int) (k := k) (by omega)
    have hv := h1 (by omega)
    rw [e1]
    simp only [Option.bind_some]
    rw [if_pos hv.1, if_pos (by omega)]
    obtain ⟨o, q, e2, h2, h3⟩ := odd_ok hb (p := p + 1) (by omega) (by omega) m (k := k) (by omega)
    rw [e2]
    simp only [Option.bind_some]
    cases o
    · rw [if_neg (by decide)]
      exact ⟨_, _, rfl, by omega, by omega, by rw [List.length_set]; omega⟩
    · rw [if_pos rfl]
      obtain ⟨u, e3, _⟩ := pick_ok hb (p := q) (by omega) (by omega) 3 (k := k) (by omega)
      rw [e3]
      simp only [Option.bind_some]
      by_cases h0 : u = 0
      · rw [if_pos h0, if_pos (by rw [List.length_set]; omega)]
        exact ⟨_, _, rfl, by omega, by omega, by simp; omega⟩
      · rw [if_neg h0]
        by_cases h4 : u = 1
        · rw [if_pos h4, if_pos (by omega)]
          exact ⟨_, _, rfl, by omega, by omega, by rw [List.length_set, List.length_set]; omega⟩
        · rw [if_neg h4]
          obtain ⟨r, e5, h5⟩ := rank1_ok hn b (q + 1) n k 0 (l.set (v : Int).toNat 0) (by omega) (by rw [List.length_set]; omega) (by omega)
          exact ⟨r, _, e5, by omega, by omega, by omega⟩
  | d + 1, k, j, l, p, hj, hl, hk, hp, hp' => by
    obtain ⟨k, rfl⟩ : ∃ m, k = m + 1 := ⟨k - 1, by omega⟩
    simp only [spec_l20Rank.l0]
    rw [if_pos (by omega)]
    simp only [Option.bind_some]
    rw [if_pos hc, if_pos (by exact hc')]
    obtain ⟨v, e1, _⟩ := pick_ok hb hp (by omega) (rd [2, 4, 10] c) (k := k) (by omega)
    rw [e1]
    simp only [Option.bind_some]
    rw [if_pos (by omega), w64s (by omega)]
    obtain ⟨r, q, e, h1, h2, h3⟩ := rank0_ok hn hn1 hb (m := m) hc hc' d k (j + 1) (l ++ [v]) (p + 1) (by omega) (by simp [hl]) (by omega) (by omega) (by omega)
    exact ⟨r, q, e, by omega, by omega, h3⟩
theorem worlds_spec (t : Int) : ∃ n : Nat, 1 ≤ n ∧ n ≤ 8 ∧ ∃ x, spec_WorldsOf.f t = some x ∧ mx x 1 = n := by
  unfold spec_WorldsOf.f
  rw [l1In_eq]
  simp only [Option.bind_some]
  by_cases ht : 1 ≤ t ∧ t ≤ 3
  · have h8 := worlds_le ht
    have h2 := worlds_ge ht
    rw [if_pos (by simp [ht]), if_pos (by omega), shl_things ht]
    exact ⟨2 ^ t.toNat, by omega, h8, _, rfl, by rw [mx_eq]; omega⟩
  · rw [if_neg (by simpa using ht)]
    exact ⟨1, by omega, by omega, _, rfl, by rw [mx_eq]; rfl⟩
theorem rank_ok {b : List Int} (hb : Bytes b) {p : Int} (hp : 0 ≤ p) (hp' : p ≤ 80000) (t n : Int) {k : Nat} (hk : 20 ≤ k) :
    ∃ r q, spec_l20Rank.f k b p t n = some (r, q) ∧ p ≤ q ∧ q ≤ p + 12 ∧ r.length ≤ 9 := by
  unfold spec_l20Rank.f
  obtain ⟨m, h1, h2, x, e, hm⟩ := worlds_spec t
  rw [e]
  simp only [Option.bind_some]
  obtain ⟨c, e1, h3, _⟩ := pick_ok hb hp (by omega) 3 (k := k) (by omega)
  have hc := h3 (by omega)
  rw [e1]
  simp only [Option.bind_some]
  rw [hm]
  obtain ⟨r, q, e2, h4, h5, h6⟩ := rank0_ok h2 h1 hb (c := c) (m := n) hc.1 hc.2 m k 0 [] (p + 1) (by omega) rfl (by omega) (by omega) (by omega)
  exact ⟨r, q, e2, by omega, by omega, h6⟩
/-! #### FDrawT -/
theorem drawGiveT_ok {l : List Int} (hl : ∀ x ∈ l, (Lit.int .u8 x).wf = true) {k : Nat} (hk : 20 ≤ k) : ∃ t r, spec_DrawGiveTable.f k l = some (t, r) ∧ r.length ≤ 9 := by
  unfold spec_DrawGiveTable.f
  obtain ⟨b, e, hb⟩ := open_ok hl
  rw [e]
  simp only [Option.bind_some]
  obtain ⟨u, e2, _⟩ := pick_ok hb (p := 0) (by omega) (by omega) 2 (k := k) (by omega)
  rw [e2]
  simp only [Option.bind_some]
  obtain ⟨v, e3, _⟩ := pick_ok hb (p := 0 + 1) (by omega) (by omega) 20 (k := k) (by omega)
  rw [e3]
  simp only [Option.bind_some]
  obtain ⟨r, q, e4, _, _, h⟩ := rank_ok hb (p := 0 + 1 + 1) (by omega) (by omega) (wrap64 (wrap64 (1 + u) + wrap64 (Int.tdiv v 19))) 12 (k := k) (by omega)
  rw [e4]
  exact ⟨_, _, rfl, h⟩
/-- Ranks drawn without fail. -/
theorem rankZ0_ok {n : Nat} (hn : n ≤ 8) (hn1 : 1 ≤ n) {b : List Int} (hb : Bytes b) {c : Int} (hc : 0 ≤ c) (hc' : c < 3) : ∀ (d k j : Nat) (l : List Int) (p : Int), j + d = n → l.length = j → d + 10 < k → 0 ≤ p → p ≤ 90000 + (j : Int) → (∀ w, w < j → 0 ≤ rk l w ∧ rk l w ≤ 9) →
    ∃ r q, spec_l20Rank.l0 k 0 l n c j b p = some (r, q) ∧ p ≤ q ∧ q ≤ p + (d : Int) + 3 ∧ r.length = n ∧ (∀ w, w < n → 0 ≤ rk r w ∧ rk r w ≤ 9) ∧ ∃ w, w < n ∧ rk r w = 0
  | 0, k, j, l, p, hj, hl, hk, hp, hp', hv => by
    obtain ⟨k, rfl⟩ : ∃ m, k = m + 1 := ⟨k - 1, by omega⟩
    simp only [spec_l20Rank.l0]
    rw [if_neg (by omega)]
    obtain ⟨v, e1, h1, _⟩ := pick_ok hb hp (by omega) (n : Int) (k := k) (by omega)
    have hv1 := h1 (by omega)
    rw [e1]
    simp only [Option.bind_some]
    rw [if_pos hv1.1, if_pos (by omega)]
    unfold spec_l20Rd_odd.f
    rw [if_neg (by decide)]
    simp only [Option.bind_some]
    rw [if_neg (by decide)]
    refine ⟨_, _, rfl, by omega, by omega, by rw [List.length_set]; omega, fun w hw => ?_, v.toNat, by omega, ?_⟩
    · rw [rk_eq, List.getD_eq_getElem?_getD, List.getElem?_set]
      by_cases e : v.toNat = w
      · rw [if_pos e, if_pos (by omega)]
        exact ⟨by decide, by decide⟩
      · rw [if_neg e, ← List.getD_eq_getElem?_getD, ← rk_eq]
        exact hv w (by omega)
    · rw [rk_eq, List.getD_eq_getElem?_getD, List.getElem?_set, if_pos rfl, if_pos (by omega)]
      rfl
  | d + 1, k, j, l, p, hj, hl, hk, hp, hp', hv => by
    obtain ⟨k, rfl⟩ : ∃ m, k = m + 1 := ⟨k - 1, by omega⟩
    simp only [spec_l20Rank.l0]
    rw [if_pos (by omega)]
    simp only [Option.bind_some]
    rw [if_pos hc, if_pos (by exact hc')]
    have hq : 1 ≤ rd [2, 4, 10] c ∧ rd [2, 4, 10] c ≤ 10 := by
      obtain rfl | rfl | rfl : c = 0 ∨ c = 1 ∨ c = 2 := by omega
      all_goals decide
    obtain ⟨v, e1, h1, _⟩ := pick_ok hb hp (by omega) (rd [2, 4, 10] c) (k := k) (by omega)
    have hv1 := h1 hq.1
    rw [e1]
    simp only [Option.bind_some]
    rw [if_pos (by omega), w64s (by omega)]
    obtain ⟨r, q, e, h2, h3, h4⟩ := rankZ0_ok hn hn1 hb hc hc' d k (j + 1) (l ++ [v]) (p + 1) (by omega) (by simp [hl]) (by omega) (by omega) (by omega) (fun w hw => by
      rw [rk_eq, List.getD_eq_getElem?_getD]
      by_cases e : w < j
      · rw [List.getElem?_append_left (by omega), ← List.getD_eq_getElem?_getD, ← rk_eq]
        exact hv w e
      · rw [List.getElem?_append_right (by omega), show w - l.length = 0 by omega]
        show 0 ≤ v ∧ v ≤ 9
        omega)
    exact ⟨r, q, e, by omega, by omega, h4⟩
theorem rankZ_ok {b : List Int} (hb : Bytes b) {p : Int} (hp : 0 ≤ p) (hp' : p ≤ 80000) {t : Int} (ht : 1 ≤ t ∧ t ≤ 3) {k : Nat} (hk : 20 ≤ k) :
    ∃ r q, spec_l20Rank.f k b p t 0 = some (r, q) ∧ p ≤ q ∧ q ≤ p + 12 ∧ RankP t r := by
  have h8 := worlds_le ht
  have h2 := worlds_ge ht
  unfold spec_l20Rank.f spec_WorldsOf.f
  rw [l1In_eq]
  simp only [Option.bind_some]
  rw [if_pos (by simp [ht]), if_pos (by omega), shl_things ht]
  simp only [Option.bind_some]
  obtain ⟨c, e1, h3, _⟩ := pick_ok hb hp (by omega) 3 (k := k) (by omega)
  have hc := h3 (by omega)
  rw [e1]
  simp only [Option.bind_some]
  rw [mx_eq, show max ((2 ^ t.toNat : Nat) : Int) 1 = ((2 ^ t.toNat : Nat) : Int) by omega]
  obtain ⟨r, q, e2, h4, h5, h6, h7, h9⟩ := rankZ0_ok h8 (by omega) hb (c := c) hc.1 hc.2 (2 ^ t.toNat) k 0 [] (p + 1) (by omega) rfl (by omega) (by omega) (by omega) (fun w hw => by omega)
  rw [show ((0 : Nat) : Int) = 0 from rfl] at e2
  exact ⟨r, q, e2, by omega, by omega, ht, h6, fun w hw => h7 w (by omega), by rw [h6]; exact h9⟩
/-- The table of least worlds, as it is drawn: as long as there are sets. -/
theorem tableFrom0 {t : Int} {l : List Int} (hr : RankP t l) (ht : t ≤ 2) : ∀ (d k j : Nat) (x : List Int), j + d = 2 ^ 2 ^ t.toNat → x.length = j → d + 40 ≤ k → ∃ r, spec_TableFrom.l0 k t l x j = some r ∧ r.length = 2 ^ 2 ^ t.toNat
  | 0, k, j, x, hj, hx, hk => by
    obtain ⟨k, rfl⟩ : ∃ m, k = m + 1 := ⟨k - 1, by omega⟩
    obtain rfl : j = 2 ^ 2 ^ t.toNat := by omega
    have := hr.len
    simp only [spec_TableFrom.l0]
    rw [l1In_eq, spec_RankOk_eq _ _ (by omega) (by omega), all_spec hr.1]
    simp only [Option.bind_some]
    rw [if_pos (by simp [hr.1.1, ht]), if_pos (by simp [hr]), if_neg (by rw [sets_cast]; omega)]
    exact ⟨x, rfl, hx⟩
  | d + 1, k, j, x, hj, hx, hk => by
    obtain ⟨k, rfl⟩ : ∃ m, k = m + 1 := ⟨k - 1, by omega⟩
    have h8 := hr.len
    have ht2 : 1 ≤ t ∧ t ≤ 2 := ⟨hr.1.1, ht⟩
    have h16 := sets_le ht2
    simp only [spec_TableFrom.l0]
    rw [l1In_eq, spec_RankOk_eq _ _ (by omega) (by omega), all_spec hr.1]
    simp only [Option.bind_some]
    rw [if_pos (by simp [hr.1.1, ht]), if_pos (by simp [hr]), if_pos (by rw [← sets_cast]; omega), l2Least_eq (by omega) hr.len (by omega)]
    simp only [Option.bind_some]
    rw [if_pos (by omega), w64s (by omega)]
    exact tableFrom0 hr ht d k (j + 1) _ (by omega) (by rw [List.length_append, List.length_singleton]; omega) (by omega)
theorem maxTable0 {t s : Int} (hs : SetP t s) (h0 : s ≠ 0) (ht : t ≤ 2) : ∀ (d k j : Nat) (x : List Int), j + d = 2 ^ 2 ^ t.toNat → x.length = j → d * 2 + 20 ≤ k → ∃ r, spec_MaxTable.l0 k t s x j = some r ∧ r.length = 2 ^ 2 ^ t.toNat
  | 0, k, j, x, hj, hx, hk => by
    obtain ⟨k, rfl⟩ : ∃ m, k = m + 2 := ⟨k - 2, by omega⟩
    obtain rfl : j = 2 ^ 2 ^ t.toNat := by omega
    simp only [spec_MaxTable.l0, spec_MaxTable.j1]
    rw [l1In_eq, SetOk_eq, all_spec hs.1]
    simp only [Option.bind_some]
    rw [if_pos (by simp [hs.1.1, ht]), if_pos (by simp [hs]), if_neg h0, if_neg (by have := sets_cast (2 ^ t.toNat); simp only [decide_eq_true_eq]; omega)]
    exact ⟨x, rfl, hx⟩
  | d + 1, k, j, x, hj, hx, hk => by
    obtain ⟨k, rfl⟩ : ∃ m, k = m + 2 := ⟨k - 2, by omega⟩
    have ht2 : 1 ≤ t ∧ t ≤ 2 := ⟨hs.1.1, ht⟩
    have h16 := sets_le ht2
    simp only [spec_MaxTable.l0, spec_MaxTable.j1]
    rw [l1In_eq, SetOk_eq, all_spec hs.1]
    simp only [Option.bind_some]
    rw [if_pos (by simp [hs.1.1, ht]), if_pos (by simp [hs]), if_neg h0, if_pos (decide_eq_true (by rw [← sets_cast]; omega)), l1Both_eq (by omega) hs.2.1 (by omega)]
    simp only [Option.bind_some]
    by_cases hz : andS (j : Int) s = 0
    · rw [if_pos hz, if_pos (by omega), w64s (by omega)]
      exact maxTable0 hs h0 ht d k (j + 1) _ (by omega) (by rw [List.length_append, List.length_singleton]; omega) (by omega)
    · rw [if_neg hz, if_pos (by omega), w64s (by omega)]
      exact maxTable0 hs h0 ht d k (j + 1) _ (by omega) (by rw [List.length_append, List.length_singleton]; omega) (by omega)
theorem table1_ok {b : List Int} (hb : Bytes b) {p : Int} (hp : 0 ≤ p) (hp' : p ≤ 80000) (n t : Int) (l : List Int) (h4 : 1 ≤ l.length ∧ l.length ≤ 16) {k : Nat} (hk : 20 ≤ k) : ∃ t' l' q, spec_l20Table.j0 k n t l b p = some (t', l', q) ∧ l'.length ≤ 17 := by
  obtain ⟨k, rfl⟩ : ∃ m, k = m + 1 := ⟨k - 1, by omega⟩
  simp only [spec_l20Table.j0]
  obtain ⟨o, q, e, h1, h2⟩ := odd_ok hb hp (by omega) n (k := k) (by omega)
  rw [e]
  simp only [Option.bind_some]
  cases o
  · rw [if_neg (by decide)]
    exact ⟨_, _, _, rfl, by omega⟩
  · rw [if_pos rfl]
    obtain ⟨u, e2, _⟩ := pick_ok hb (p := q) (by omega) (by omega) 3 (k := k) (by omega)
    rw [e2]
    simp only [Option.bind_some]
    by_cases h0 : u = 0
    · rw [if_pos h0]
      exact ⟨_, _, _, rfl, by omega⟩
    · rw [if_neg h0]
      by_cases h3 : u = 1
      · rw [if_pos h3, if_pos (by omega)]
        exact ⟨_, _, _, rfl, by simp; omega⟩
      · rw [if_neg h3, if_pos (by omega)]
        exact ⟨_, _, _, rfl, by rw [List.length_set]; omega⟩
theorem table_ok {b : List Int} (hb : Bytes b) {p : Int} (hp : 0 ≤ p) (hp' : p ≤ 70000) (n : Int) {k : Nat} (hk : 100 ≤ k) : ∃ t l q, spec_l20Table.f k b p n = some (t, l, q) ∧ l.length ≤ 17 := by
  unfold spec_l20Table.f
  obtain ⟨u, e1, h1, _⟩ := pick_ok hb hp (by omega) 2 (k := k) (by omega)
  have hu := h1 (by omega)
  rw [e1]
  simp only [Option.bind_some]
  obtain ⟨t, ht⟩ : ∃ t, wrap64 (1 + u) = t := ⟨_, rfl⟩
  have ht2 : 1 ≤ t ∧ t ≤ 2 := by rw [← ht, w64 (by omega) (by omega)]; omega
  have h4 := sets_ge ht2
  have h16 := sets_le ht2
  rw [ht]
  obtain ⟨r, q, e2, h2, h3, hr⟩ := rankZ_ok hb (p := p + 1) (by omega) (by omega) (t := t) (by omega) (k := k) (by omega)
  rw [e2]
  simp only [Option.bind_some]
  have e3 : ∃ l, spec_TableFrom.f k t r = some l ∧ l.length = 2 ^ 2 ^ t.toNat := by
    unfold spec_TableFrom.f
    exact tableFrom0 hr (by omega) (2 ^ 2 ^ t.toNat) k 0 [] (by omega) rfl (by omega)
  obtain ⟨l, e3, hl⟩ := e3
  rw [e3]
  simp only [Option.bind_some]
  obtain ⟨c, e4, _⟩ := pick_ok hb (p := q) (by omega) (by omega) 6 (k := k) (by omega)
  rw [e4]
  simp only [Option.bind_some]
  by_cases c0 : c = 0
  · rw [if_pos c0, all_spec (by omega)]
    simp only [Option.bind_some]
    have hlt := all_le (t := t) (by omega)
    have hge := all_ge (t := t) (by omega)
    obtain ⟨v, e5, h5, _⟩ := pick_ok hb (p := q + 1) (by omega) (by omega) (2 ^ 2 ^ t.toNat - 1) (k := k) (by omega)
    have hv := h5 (by omega)
    rw [e5]
    simp only [Option.bind_some]
    rw [w64 (x := 1 + v) (by omega) (by omega)]
    have e6 : ∃ l, spec_MaxTable.f k t (1 + v) = some l ∧ l.length = 2 ^ 2 ^ t.toNat := by
      unfold spec_MaxTable.f
      exact maxTable0 (s := 1 + v) ⟨by omega, by omega, by omega⟩ (by omega) (by omega) (2 ^ 2 ^ t.toNat) k 0 [] (by omega) rfl (by omega)
    obtain ⟨l2, e6, hl2⟩ := e6
    rw [e6]
    simp only [Option.bind_some]
    exact table1_ok hb (by omega) (by omega) n t l2 (by omega) (by omega)
  · rw [if_neg c0]
    by_cases c1 : c = 1
    · rw [if_pos c1]
      obtain ⟨v, e5, h5, _⟩ := pick_ok hb (p := q + 1) (by omega) (by omega) (l.length : Int) (k := k) (by omega)
      have hv := h5 (by omega)
      rw [e5]
      simp only [Option.bind_some]
      obtain ⟨v2, e6, _⟩ := pick_ok hb (p := q + 1 + 1) (by omega) (by omega) (l.length : Int) (k := k) (by omega)
      rw [e6]
      simp only [Option.bind_some]
      rw [if_pos hv.1, if_pos hv.2]
      exact table1_ok hb (by omega) (by omega) n t _ (by rw [List.length_set]; omega) (by omega)
    · rw [if_neg c1]
      by_cases c2 : c = 2
      · rw [if_pos c2]
        obtain ⟨v, e5, h5, _⟩ := pick_ok hb (p := q + 1) (by omega) (by omega) (l.length : Int) (k := k) (by omega)
        have hv := h5 (by omega)
        rw [e5]
        simp only [Option.bind_some]
        obtain ⟨v2, e6, h6, _⟩ := pick_ok hb (p := q + 1 + 1) (by omega) (by omega) (l.length : Int) (k := k) (by omega)
        have hv2 := h6 (by omega)
        rw [e6]
        simp only [Option.bind_some]
        rw [l1Both_eq hv.1 hv2.1 (by omega)]
        simp only [Option.bind_some]
        rw [if_pos hv.1, if_pos hv.2]
        exact table1_ok hb (by omega) (by omega) n t _ (by rw [List.length_set]; omega) (by omega)
      · rw [if_neg c2]
        exact table1_ok hb (by omega) (by omega) n t _ (by omega) (by omega)
open Classical in
theorem drawGiveF_ok {l : List Int} (hl : ∀ x ∈ l, (Lit.int .u8 x).wf = true) {k : Nat} (hk : 200 ≤ k) : ∃ t r, spec_DrawGiveFault.f k l = some (t, r) ∧ r.length ≤ 17 := by
  unfold spec_DrawGiveFault.f
  obtain ⟨b, e, hb⟩ := open_ok hl
  rw [e]
  simp only [Option.bind_some]
  obtain ⟨o, q, e1, h1, h2⟩ := odd_ok hb (p := 0) (by omega) (by omega) 8 (k := k) (by omega)
  rw [e1]
  simp only [Option.bind_some]
  cases o
  · rw [if_neg (by decide)]
    obtain ⟨u, e2, h3, _⟩ := pick_ok hb (p := q) (by omega) (by omega) 2 (k := k) (by omega)
    have hu := h3 (by omega)
    rw [e2]
    simp only [Option.bind_some]
    obtain ⟨t, ht⟩ : ∃ t, wrap64 (1 + u) = t := ⟨_, rfl⟩
    have ht2 : 1 ≤ t ∧ t ≤ 2 := by rw [← ht, w64 (by omega) (by omega)]; omega
    have h4 := sets_ge ht2
    have h16 := sets_le ht2
    rw [ht]
    obtain ⟨r, q2, e3, h5, h6, hr⟩ := rankZ_ok hb (p := q + 1) (by omega) (by omega) (t := t) (by omega) (k := k) (by omega)
    have h8 := hr.len
    rw [e3]
    simp only [Option.bind_some]
    rw [spec_GiveTable_eq _ _ (by omega) (by omega), if_pos ⟨ht2.2, hr⟩]
    simp only [Option.bind_some]
    have hlen := giveT_len t r
    obtain ⟨o2, q3, e4, h7, h9⟩ := odd_ok hb (p := q2) (by omega) (by omega) 2 (k := k) (by omega)
    rw [e4]
    simp only [Option.bind_some]
    cases o2
    · rw [if_neg (by decide)]
      exact ⟨_, _, rfl, by omega⟩
    · rw [if_pos rfl]
      obtain ⟨v, e5, h10, _⟩ := pick_ok hb (p := q3) (by omega) (by omega) ((giveT t r).length : Int) (k := k) (by omega)
      have hv := h10 (by omega)
      rw [e5]
      simp only [Option.bind_some]
      obtain ⟨v2, e6, _⟩ := pick_ok hb (p := q3 + 1) (by omega) (by omega) ((giveT t r).length : Int) (k := k) (by omega)
      rw [e6]
      simp only [Option.bind_some]
      rw [if_pos hv.1, if_pos hv.2]
      exact ⟨_, _, rfl, by rw [List.length_set]; omega⟩
  · rw [if_pos rfl]
    obtain ⟨t, r, q2, e2, h3⟩ := table_ok hb (p := q) (by omega) (by omega) 4 (k := k) (by omega)
    rw [e2]
    exact ⟨_, _, rfl, h3⟩
end Go.Proofs.Ythgddbnmieodkaa.LQ

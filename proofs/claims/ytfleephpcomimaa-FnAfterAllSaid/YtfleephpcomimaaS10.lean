/- Contracts of functions of the program: whatever a function's pure reading answers, the call returns. Printed by a program of this session (the kit's print, with contracts by hand beside it). Conditions: those of each theorem. -/
import Derived.Test.YtfleephpcomimaaS0
import Derived.Test.YtfleephpcomimaaS6
import Derived.Test.YtfleephpcomimaaS9
namespace Go.Proofs.Ytfleephpcomimaa.S
open Go.Proofs.BelM
open Go.RowKit Go.Proofs.YtfleephpcomimaaW.PrintWords Go.Proofs.YtfleephpcomimaaW.PrintLast Go.Proofs.YtfleephpcomimaaW.PrintMore
attribute [local go_sem] max2_int min2_int max_two min_two max_three min_three max_four min_four   -- for this text's walks alone
set_option linter.unusedVariables false
set_option linter.unusedSimpArgs false

/-! ### impl_isSet: function 54 -/
def impl_isSet.f (a0 : Int) (a1 : Int) : Option (Bool) := (impl_areThings.f a0).bind fun t211 => (if t211 = true then (if a1 ≥ 0 then ((impl_allWorlds.f a0).bind fun t212 => (some (decide (a1 ≤ t212)))) else (some false)) else (some false))
set_option maxHeartbeats 8000000 in
set_option maxRecDepth 100000 in
theorem impl_isSet.calls (a0 : Int) (a1 : Int) (r : Bool) (w : World) (h : impl_isSet.f a0 a1 = some r) :
    Calls Try.prog 54 #[.int .i64 a0, .int .i64 a1] w fun e w' => e = .returned (.bool r) ∧ Drawn0 w w' := by
  have H : ((impl_areThings.f a0).bind fun t211 => (if t211 = true then (if a1 ≥ 0 then ((impl_allWorlds.f a0).bind fun t212 => (some (decide (a1 ≤ t212)))) else (some false)) else (some false))) = some r := h
  clear h
  replace H := Option.bind_eq_some_iff.mp H
  obtain ⟨t211, A30, H⟩ := H
  replace H : (if t211 = true then (if a1 ≥ 0 then ((impl_allWorlds.f a0).bind fun t212 => (some (decide (a1 ≤ t212)))) else (some false)) else (some false)) = some r := H
  have A3 := Aside0.mk A30
  clear A30
  by_cases c4 : t211 = true
  · subst c4
    have H1 : (if a1 ≥ 0 then ((impl_allWorlds.f a0).bind fun t212 => (some (decide (a1 ≤ t212)))) else (some false)) = some r := by rw [if_pos rfl] at H; exact H
    clear H
    have H := H1
    clear H1
    by_cases c5 : a1 ≥ 0
    · rw [if_pos c5] at H
      have c5b0 : decide (0 ≤ a1) = true := decide_eq_true c5
      clear c5
      replace H := Option.bind_eq_some_iff.mp H
      obtain ⟨t212, A60, H⟩ := H
      replace H : (some (decide (a1 ≤ t212))) = some r := H
      have A6 := Aside0.mk A60
      clear A60
      obtain rfl := Option.some.inj H
      go_enter Try.func54, Try.ntmps54
      go_wp2_with (first | ((with_reducible refine gate_callee (f := 83) rfl ?_); refine goesL_ (some 6) rfl rfl Try.func83 (by kernel_rfl) rfl #[.int .i64 a0] rfl (by (try simp only [List.map_toArray, List.map_cons, List.map_nil]); first | done | rfl | (simp only [List.length_drop, List.length_take]; rfl)) ?_; (with_reducible refine (impl_areThings.calls a0 true _ A3.out).mono ?_); rintro e w' ⟨rfl, ⟨nd, rfl⟩⟩; refine ⟨_, rfl, ?_⟩) | (go_at_call 70; (with_reducible refine (impl_allWorlds.calls a0 t212 _ A6.out).mono ?_); rintro e w' ⟨rfl, ⟨nd, rfl⟩⟩))
      go_ret
      exact ⟨by first | rfl | (simp; done) | (simp [*]; done), by repeat (first | exact Drawn0.refl _ | apply Drawn0.step)⟩
    · rw [if_neg c5] at H
      have c5b0 : decide (0 ≤ a1) = false := decide_eq_false c5
      clear c5
      obtain rfl := Option.some.inj H
      go_enter Try.func54, Try.ntmps54
      go_wp2_with (first | ((with_reducible refine gate_callee (f := 83) rfl ?_); refine goesL_ (some 6) rfl rfl Try.func83 (by kernel_rfl) rfl #[.int .i64 a0] rfl (by (try simp only [List.map_toArray, List.map_cons, List.map_nil]); first | done | rfl | (simp only [List.length_drop, List.length_take]; rfl)) ?_; (with_reducible refine (impl_areThings.calls a0 true _ A3.out).mono ?_); rintro e w' ⟨rfl, ⟨nd, rfl⟩⟩; refine ⟨_, rfl, ?_⟩))
      go_ret
      exact ⟨by first | rfl | (simp; done) | (simp [*]; done), by repeat (first | exact Drawn0.refl _ | apply Drawn0.step)⟩
  · replace c4 := Bool.eq_false_iff.mpr c4
    subst c4
    have H1 : (some false) = some r := by rw [if_neg (show ¬ (false = true) by decide)] at H; exact H
    clear H
    have H := H1
    clear H1
    obtain rfl := Option.some.inj H
    go_enter Try.func54, Try.ntmps54
    go_wp2_with (first | ((with_reducible refine gate_callee (f := 83) rfl ?_); refine goesL_ (some 6) rfl rfl Try.func83 (by kernel_rfl) rfl #[.int .i64 a0] rfl (by (try simp only [List.map_toArray, List.map_cons, List.map_nil]); first | done | rfl | (simp only [List.length_drop, List.length_take]; rfl)) ?_; (with_reducible refine (impl_areThings.calls a0 false _ A3.out).mono ?_); rintro e w' ⟨rfl, ⟨nd, rfl⟩⟩; refine ⟨_, rfl, ?_⟩))
    go_ret
    exact ⟨by first | rfl | (simp; done) | (simp [*]; done), by repeat (first | exact Drawn0.refl _ | apply Drawn0.step)⟩

/-! ### impl_surpriseOf: function 71 -/
def impl_surpriseOf.l0 : Nat → Int → Int → List Int → Int → Int → Option (Int)
  | 0, _, _, _, _, _ => none
  | k + 1, x1, x5, x8, x9, x10 => if x10 < x9 then (if 0 ≤ x10 then (if x10 < (x8.length : Int) then (if (Go.bits .and .i64 (shr .i64 x1 x10) 1) = 1 then (impl_surpriseOf.l0 k x1 (mn x5 (rd x8 x10)) x8 x9 (wrap64 (x10 + 1))) else (impl_surpriseOf.l0 k x1 x5 x8 x9 (wrap64 (x10 + 1)))) else (none)) else (none)) else (some x5)
def impl_surpriseOf.f (k : Nat) (l0 : List Int) (a1 : Int) : Option (Int) := impl_surpriseOf.l0 k a1 10 l0 (l0.length : Int) 0
theorem impl_surpriseOf.mono_l : ∀ k, (∀ y0 y1 y2 y3 y4, LeO (impl_surpriseOf.l0 k y0 y1 y2 y3 y4) (impl_surpriseOf.l0 (k + 1) y0 y1 y2 y3 y4))
  | 0 => fun _ _ _ _ _ r h => by simp [impl_surpriseOf.l0] at h
  | k + 1 => by
    have ih0 := impl_surpriseOf.mono_l k
    · intro y0 y1 y2 y3 y4
      unfold impl_surpriseOf.l0
      repeat' first
      | (with_reducible exact ih0 _ _ _ _ _)
      | (with_reducible exact LeO.refl _)
      | (with_reducible exact LeO.none _)
      | (with_reducible refine LeO.ite ?_ ?_)
      | (with_reducible refine LeO.bind ?_ (fun _ => ?_))
      | exact ih0 _ _ _ _ _
      | exact LeO.none _
      | refine LeO.ite ?_ ?_
      | refine LeO.bind ?_ (fun _ => ?_)
theorem impl_surpriseOf.mono : ∀ a0 a1 k, LeO (impl_surpriseOf.f k a0 a1) (impl_surpriseOf.f (k + 1) a0 a1) := by
  intro a0 a1 k
  have ih0 := impl_surpriseOf.mono_l k
  unfold impl_surpriseOf.f
  repeat' first
      | (with_reducible exact ih0 _ _ _ _ _)
      | (with_reducible exact LeO.refl _)
      | (with_reducible exact LeO.none _)
      | (with_reducible refine LeO.ite ?_ ?_)
      | (with_reducible refine LeO.bind ?_ (fun _ => ?_))
      | exact ih0 _ _ _ _ _
      | exact LeO.none _
      | refine LeO.ite ?_ ?_
      | refine LeO.bind ?_ (fun _ => ?_)
set_option maxHeartbeats 8000000 in
set_option maxRecDepth 100000 in
theorem impl_surpriseOf.calls (k : Nat) (A0 : Option Addr) (c0 : Nat) (l0 : List Int) (a1 : Int) (r : Int) (w : World) (hr0 : Kd.C (Kd.int .i64) w A0 l0.length l0) (hc0 : l0.length ≤ c0) (h : impl_surpriseOf.f k l0 a1 = some r) :
    Calls Try.prog 71 #[.slice A0 l0.length c0, .int .i64 a1] w fun e w' => e = .returned (.int .i64 r) ∧ Below w.heap.size w w' := by
  have HR0 := Aside0.mk hr0
  have HC0 := Aside0.mk hc0
  clear hr0 hc0
  have HB := Aside0.mk (Below.refl w.heap.size w)
  have H : (impl_surpriseOf.l0 k a1 10 l0 (l0.length : Int) 0) = some r := h
  clear h
  have H' := Aside0.mk H
  clear H
  go_enter Try.func71, Try.ntmps71
  go_wp2
  go_loopg [5, 10] k (fun kq v5 v10 w' => ∃ (x5_1 : Int) (x10_1 : Int), v5 = .int .i64 x5_1 ∧ v10 = .int .i64 x10_1 ∧ Aside0 (impl_surpriseOf.l0 kq a1 x5_1 l0 (l0.length : Int) x10_1 = some r) ∧ Aside0 (kq ≤ k) ∧ Aside0 (Below w.heap.size w w'))
  case atStart => exact ⟨(10), (0), (by first | rfl | (simp; done) | (simp [*]; done)), (by first | rfl | (simp; done) | (simp [*]; done)), H', ⟨Nat.le_refl _⟩, ⟨by repeat (first | (with_reducible first | exact HB.out | apply below_alloc | apply pw_below_drewN | apply below_drew1) | exact HB.out)⟩⟩
  case round =>
    clear H'
    try clear p2
    obtain ⟨x5_1, x10_1, rfl, rfl, HA, HK1, HB⟩ := hrel
    cases gk with
    | zero => exact absurd HA.out (by simp [impl_surpriseOf.l0])
    | succ k1 =>
      have H := HA.out
      clear HA
      simp only [impl_surpriseOf.l0] at H
      by_cases c3 : x10_1 < (l0.length : Int)
      · rw [if_pos c3] at H
        have c3b0 : decide (x10_1 < (l0.length : Int)) = true := decide_eq_true c3
        clear c3
        by_cases c4 : 0 ≤ x10_1
        · rw [if_pos c4] at H
          have c4b0 : decide (0 ≤ x10_1) = true := decide_eq_true c4
          clear c4
          by_cases c5 : x10_1 < (l0.length : Int)
          · rw [if_pos c5] at H
            have c5b0 : decide (x10_1 < (l0.length : Int)) = true := decide_eq_true c5
            clear c5
            have c6b0 := eq_true (of_decide_eq_true (by first | (with_reducible assumption) | assumption) : 0 ≤ x10_1)
            obtain ⟨ji7, hji7⟩ : ∃ j_ : Int, (shr .i64 a1 x10_1) = j_ := ⟨_, rfl⟩
            replace H : (if (Go.bits .and .i64 (ji7) 1) = 1 then (impl_surpriseOf.l0 k1 a1 (mn x5_1 (rd l0 x10_1)) l0 (l0.length : Int) (wrap64 (x10_1 + 1))) else (impl_surpriseOf.l0 k1 a1 x5_1 l0 (l0.length : Int) (wrap64 (x10_1 + 1)))) = some r := by first | (rw [hji7] at H; exact H) | (simp only [hji7] at H ⊢; exact H)
            have hji7_ : (a1 / 2 ^ min x10_1.toNat 64) = ji7 := hji7
            have hji7z : x10_1 ≤ 64 → (a1 / 2 ^ x10_1.toNat) = ji7 := shr_small hji7
            by_cases c8 : (Go.bits .and .i64 (ji7) 1) = 1
            · rw [if_pos c8] at H
              have c8b0 : ((Go.bits .and .i64 (ji7) 1) == 1) = true := beq_iff_eq.mpr c8
              have c8b1 : ((Go.bits .and .i64 (ji7) 1) != 1) = false := bne_eq_false_iff_eq.mpr c8
              clear c8
              obtain ⟨ji9, hji9⟩ : ∃ j_ : Int, (mn x5_1 (rd l0 x10_1)) = j_ := ⟨_, rfl⟩
              replace H : (impl_surpriseOf.l0 k1 a1 ji9 l0 (l0.length : Int) (wrap64 (x10_1 + 1))) = some r := by first | (rw [hji9] at H; exact H) | (simp only [hji9] at H ⊢; exact H)
              have hji9_ : (if (rd l0 x10_1) < x5_1 then (rd l0 x10_1) else x5_1) = ji9 := hji9
              have H' := Aside0.mk H
              clear H
              have p213 : 0 ≤ (x10_1 : Int) := of_decide_eq_true (by first | (with_reducible assumption) | assumption)
              have q213 : x10_1 < (l0.length : Int) := of_decide_eq_true (by first | (with_reducible assumption) | assumption)
              obtain ⟨ad213, e213, hx213_0⟩ := Kd.at_int HR0.out x10_1 p213 q213
              cases e213
              replace hx213_0 := (HB.out.cell (World.block_lt_of_cell? w _ hx213_0)).trans hx213_0
              replace p213 := eq_true p213
              replace q213 := eq_true q213
              go_wp2
              go_roundg k1
              case measure => have := HK1.out; omega
              case rel => exact ⟨(ji9), (wrap64 (x10_1 + 1)), (by first | rfl | (simp; done) | (simp only [← hji9] <;> (first | rfl | simp)) | (simp [*]; done)), (by first | rfl | (simp; done) | (simp [*]; done)), H', ⟨by have := HK1.out; omega⟩, ⟨by repeat (first | (with_reducible first | exact HB.out | apply below_alloc | apply pw_below_drewN | apply below_drew1) | exact HB.out)⟩⟩
            · rw [if_neg c8] at H
              have c8b0 : ((Go.bits .and .i64 (ji7) 1) == 1) = false := beq_eq_false_iff_ne.mpr c8
              have c8b1 : ((Go.bits .and .i64 (ji7) 1) != 1) = true := bne_iff_ne.mpr c8
              have H' := Aside0.mk H
              clear H
              have p213 : 0 ≤ (x10_1 : Int) := of_decide_eq_true (by first | (with_reducible assumption) | assumption)
              have q213 : x10_1 < (l0.length : Int) := of_decide_eq_true (by first | (with_reducible assumption) | assumption)
              obtain ⟨ad213, e213, hx213_0⟩ := Kd.at_int HR0.out x10_1 p213 q213
              cases e213
              replace hx213_0 := (HB.out.cell (World.block_lt_of_cell? w _ hx213_0)).trans hx213_0
              replace p213 := eq_true p213
              replace q213 := eq_true q213
              go_wp2
              go_roundg k1
              case measure => have := HK1.out; omega
              case rel => exact ⟨(x5_1), (wrap64 (x10_1 + 1)), (by first | rfl | (simp; done) | (simp [*]; done)), (by first | rfl | (simp; done) | (simp [*]; done)), H', ⟨by have := HK1.out; omega⟩, ⟨by repeat (first | (with_reducible first | exact HB.out | apply below_alloc | apply pw_below_drewN | apply below_drew1) | exact HB.out)⟩⟩
          · rw [if_neg c5] at H
            exact absurd H (by simp)
        · rw [if_neg c4] at H
          exact absurd H (by simp)
      · rw [if_neg c3] at H
        have c3b0 : decide (x10_1 < (l0.length : Int)) = false := decide_eq_false c3
        clear c3
        obtain rfl := Option.some.inj H
        go_wp2
        go_ret
        exact ⟨by first | rfl | (simp [errW_none, errW_some] <;> rfl) | (simp [*, errW_none, errW_some] <;> rfl), by repeat (first | (with_reducible first | exact HB.out | apply below_alloc | apply pw_below_drewN | apply below_drew1) | exact HB.out)⟩

/-! ### impl_revisedBy: function 64, by hand -/
def impl_revisedBy.f (k : Nat) (a0 : Int) (l1 : List Int) (a2 : Int) : Option (Int) := (impl_surpriseOf.f k l1 a2).bind fun t => if (1 ≤ a0 ∧ a0 ≤ 3) ∧ l1.length = 2 ^ a0.toNat ∧ 0 ≤ a2 ∧ a2 < 256 then some (mk (fun v => mem a2 v && decide (rd l1 v = t)) (2 ^ a0.toNat)) else none
theorem impl_revisedBy.mono : ∀ a0 a1 a2 k, LeO (impl_revisedBy.f k a0 a1 a2) (impl_revisedBy.f (k + 1) a0 a1 a2) := by
  intro a0 a1 a2 k
  unfold impl_revisedBy.f
  exact LeO.bind (impl_surpriseOf.mono _ _ _) (fun _ => LeO.refl _)
set_option maxHeartbeats 8000000 in
set_option maxRecDepth 100000 in
theorem impl_revisedBy.setThat (c1 c2 : Value) (p : Nat → Bool) (a0 : Int) (w : World) (h0 : 1 ≤ a0) (h0' : a0 ≤ 3) (hs : SaysOf Try.prog 92 [c1, c2] p (2 ^ a0.toNat) w) :
    Calls Try.prog 90 #[.int .i64 a0, .func (.func 92) #[] #[c1, c2]] w fun e w' => e = .returned (.int .i64 (mk p (2 ^ a0.toNat))) ∧ Drawn0 w w' := by
  have hn : 2 ^ a0.toNat ≤ 8 := by
    have : 2 ^ a0.toNat ≤ 2 ^ 3 := Nat.pow_le_pow_right (by decide) (by omega)
    omega
  have h3 : (2 : Int) ^ a0.toNat = ((2 ^ a0.toNat : Nat) : Int) := by simp
  obtain ⟨n, hn0⟩ : ∃ n : Nat, 2 ^ a0.toNat = n := ⟨_, rfl⟩
  rw [hn0] at hn h3 hs ⊢
  have hq : wrap64 (2 ^ a0.toNat) = (n : Int) := by
    rw [h3]; unfold wrap64; omega
  clear h3 hn0
  have HS := Aside0.mk hs
  clear hs
  go_enter Try.func90, Try.ntmps90
  go_wp2_with (fail)
  rw [hq]
  clear hq
  go_loopw [5, 9] (fun s i wr => ∃ k : Nat, k ≤ n ∧ i = .int .i64 k ∧ s = .int .i64 (mk p k) ∧ Drawn0 w wr) (fun _ i _ => n - (intOf i).toNat)
  case atStart => exact ⟨0, Nat.zero_le _, rfl, rfl, Drawn0.refl _⟩
  case round =>
    obtain ⟨k, hk, rfl, rfl, hw⟩ := hrel
    by_cases hlt : k < n
    · have hc := HS.out k wr hlt hw
      have hnx := mk_next (p := p) (k := k) rfl (by omega)
      obtain ⟨b, hb⟩ : ∃ b : Bool, p k = b := ⟨_, rfl⟩
      rw [hb] at hc hnx
      have HX := Aside0.mk hnx
      clear hnx hb
      cases b
      all_goals
        go_wp2_with (refine hc.mono ?_; rintro e w1 ⟨rfl, hw1⟩)
        go_roundw
        case rel => exact ⟨k + 1, by omega, by go_num, by rw [← HX.out]; rfl, drawn_trans hw hw1⟩
        case measure => simp [intOf]; omega
    · go_wp2_with (fail)
      go_ret
      have : k = n := by omega
      subst this
      exact ⟨rfl, hw⟩

set_option maxHeartbeats 8000000 in
set_option maxRecDepth 100000 in
theorem impl_revisedBy.closure (A1 : Option Addr) (c1 : Nat) (l1 : List Int) (t : Int) (g1 g2 : Nat) (k : Nat) (w : World) (hk : k < l1.length) (h8 : l1.length ≤ 8) (hr1 : Kd.C (Kd.int .i64) w A1 l1.length l1)
    (hg1 : w.cell? ⟨g1, 0, none⟩ = some (.slice A1 l1.length c1)) (hg2 : w.cell? ⟨g2, 0, none⟩ = some (.int .i64 t)) :
    Calls Try.prog 92 #[.int .i64 k, .pointer (some ⟨g1, 0, none⟩), .pointer (some ⟨g2, 0, none⟩)] w fun e w' => e = .returned (.bool (decide (rd l1 k = t))) ∧ Drawn0 w w' := by
  obtain ⟨ad, rfl, hx⟩ := Kd.at_int hr1 k (by omega) (by omega)
  obtain ⟨y, hy⟩ : ∃ y : Int, rd l1 k = y := ⟨_, rfl⟩
  rw [hy] at hx ⊢
  have hx' : w.cell? (ad.add k) = some (.int .i64 y) := hx
  clear hr1 hy hx
  have hk0 : 0 ≤ (k : Int) := by omega
  have hk1 : (k : Int) < (l1.length : Int) := by omega
  go_enter Try.func92, Try.ntmps92
  go_wp2_with (fail)
  repeat (go_quiet (fail); try go_wp2_with (fail))
  go_ret
  exact ⟨by first | rfl | (simp; done) | (simp [*]; done), by repeat (first | exact Drawn0.refl _ | apply Drawn0.step)⟩
set_option maxHeartbeats 8000000 in
set_option maxRecDepth 100000 in
theorem impl_revisedBy.calls (k : Nat) (a0 : Int) (A1 : Option Addr) (c1 : Nat) (l1 : List Int) (a2 : Int) (r : Int) (w : World) (hr1 : Kd.C (Kd.int .i64) w A1 l1.length l1) (hc1 : l1.length ≤ c1) (h : impl_revisedBy.f k a0 l1 a2 = some r) :
    Calls Try.prog 64 #[.int .i64 a0, .slice A1 l1.length c1, .int .i64 a2] w fun e w' => e = .returned (.int .i64 r) ∧ Below w.heap.size w w' := by
  unfold impl_revisedBy.f at h
  obtain ⟨t, ht, h⟩ := Option.bind_eq_some_iff.mp h
  split at h
  case isFalse => exact absurd h (by simp)
  rename_i hc
  obtain ⟨⟨h0, h0'⟩, hl, h2, h2'⟩ := hc
  obtain rfl := Option.some.inj h
  clear h
  have h8 : 2 ^ a0.toNat ≤ 2 ^ 3 := Nat.pow_le_pow_right (by decide) (by omega)
  have hmf : ∀ (fn : Fn) (first cap : Array Value) (w : World), (Instr.makeFunc fn first cap).run Try.prog w = .ok (.func fn first cap) w := fun _ _ _ _ => rfl
  have hg1 : (w.alloc (.cells #[.slice A1 l1.length c1] 22)).cell? ⟨w.heap.size, 0, none⟩ = some (.slice A1 l1.length c1) := by
    rw [World.cell?_alloc_at _ _ _ _ rfl]; rfl
  have hr2 : Kd.C (Kd.int .i64) (w.alloc (.cells #[.slice A1 l1.length c1] 22)) A1 l1.length l1 := Kd.C_below hr1 (below_alloc (Below.refl _ _) _)
  have HT := Aside0.mk ht
  have HL := Aside0.mk hl
  have HR2 := Aside0.mk hr2
  have HC1 := Aside0.mk hc1
  have HG1 := Aside0.mk hg1
  clear hr1 hr2 hl ht hc1
  go_enter Try.func64, Try.ntmps64
  go_wp2_with (first | (go_at_call 71; refine (impl_surpriseOf.calls k A1 c1 l1 a2 t _ HR2.out HC1.out HT.out).mono ?_; rintro e w1 ⟨rfl, hb⟩; have HBB := Aside0.mk hb; have hz := hb.size; simp at hz; clear hb))
  have hg3 : (w1.alloc (.cells #[.int .i64 t] 3)).cell? ⟨w.heap.size, 0, none⟩ = some (.slice A1 l1.length c1) := by
    rw [World.cell?_alloc_past _ _ _ (by show w.heap.size < w1.heap.size; omega)]
    exact (HBB.out.cell (World.block_lt_of_cell? _ _ HG1.out)).trans HG1.out
  have hg4 : (w1.alloc (.cells #[.int .i64 t] 3)).cell? ⟨w1.heap.size, 0, none⟩ = some (.int .i64 t) := by
    rw [World.cell?_alloc_at _ _ _ _ rfl]; rfl
  have hr4 : Kd.C (Kd.int .i64) (w1.alloc (.cells #[.int .i64 t] 3)) A1 l1.length l1 := Kd.C_alloc (Kd.C_below HR2.out HBB.out) _
  have hs : SaysOf Try.prog 92 [.pointer (some ⟨w.heap.size, 0, none⟩), .pointer (some ⟨w1.heap.size, 0, none⟩)] (fun v => decide (rd l1 v = t)) (2 ^ a0.toNat) (w1.alloc (.cells #[.int .i64 t] 3)) := by
    intro k W hk hd
    have hr5 := Kd.C_below hr4 hd.below
    have hl := HL.out
    obtain ⟨n, rfl⟩ := hd
    exact impl_revisedBy.closure A1 c1 l1 t _ _ k _ (by omega) (by omega) hr5 hg3 hg4
  have HS := Aside0.mk hs
  have HAND := Aside0.mk (and_mk (q := fun v => decide (rd l1 v = t)) (n := 2 ^ a0.toNat) h2 h2' (by omega))
  clear hs hg3 hg4 hr4
  (with_reducible refine (impl_revisedBy.setThat _ _ _ _ _ h0 h0' HS.out).mono ?_)
  rintro e w2 ⟨rfl, hw2⟩
  have HW2 := Aside0.mk hw2
  clear hw2
  go_wp2_with (fail)
  go_ret
  have hB1 : Below w.heap.size w (w1.alloc (.cells #[.int .i64 t] 3)) := below_alloc (below_then ((Below.refl _ _).alloc (Nat.le_refl _) _) (by simp) HBB.out) _
  exact ⟨by rw [← HAND.out]; rfl, below_then hB1 hB1.size HW2.out.below⟩

end Go.Proofs.Ytfleephpcomimaa.S

/- Contracts of functions of the program: whatever a function's pure reading answers, the call returns. Printed by a program of this session (the kit's print, with contracts by hand beside it). Conditions: those of each theorem. -/
import Derived.Test.YthgddbnmieodkaaQ0
import Derived.Test.YthgddbnmieodkaaQ4
import Derived.Test.YthgddbnmieodkaaQ5
namespace Go.Proofs.Ythgddbnmieodkaa.Q
open Go.Proofs.BelM
open Go.RowKit Go.Proofs.YthgddbnmieodkaaW.PrintWords Go.Proofs.YthgddbnmieodkaaW.PrintLast Go.Proofs.YthgddbnmieodkaaW.PrintMore
attribute [local go_sem] max2_int min2_int max_two min_two max_three min_three max_four min_four   -- for this text's walks alone
set_option linter.unusedVariables false
set_option linter.unusedSimpArgs false

/-! ### laws_sameInts: function 38 -/
def laws_sameInts.l0 : Nat → List Int → List Int → Int → Option (Bool)
  | 0, _, _, _ => none
  | k + 1, x0, x1, x5 => if x5 < (x0.length : Int) then (if 0 ≤ x5 then (if x5 < (x1.length : Int) then (if (rd x0 x5) = (rd x1 x5) then (laws_sameInts.l0 k x0 x1 (wrap64 (x5 + 1))) else (some false)) else (none)) else (none)) else (some true)
def laws_sameInts.f (k : Nat) (l0 : List Int) (l1 : List Int) : Option (Bool) := if (l0.length : Int) = (l1.length : Int) then (laws_sameInts.l0 k l0 l1 0) else (some false)
theorem laws_sameInts.mono_l : ∀ k, (∀ y0 y1 y2, LeO (laws_sameInts.l0 k y0 y1 y2) (laws_sameInts.l0 (k + 1) y0 y1 y2))
  | 0 => fun _ _ _ r h => by simp [laws_sameInts.l0] at h
  | k + 1 => by
    have ih0 := laws_sameInts.mono_l k
    · intro y0 y1 y2
      unfold laws_sameInts.l0
      repeat' first
      | (with_reducible exact ih0 _ _ _)
      | (with_reducible exact LeO.refl _)
      | (with_reducible exact LeO.none _)
      | (with_reducible refine LeO.ite ?_ ?_)
      | (with_reducible refine LeO.bind ?_ (fun _ => ?_))
      | exact ih0 _ _ _
      | exact LeO.none _
      | refine LeO.ite ?_ ?_
      | refine LeO.bind ?_ (fun _ => ?_)
theorem laws_sameInts.mono : ∀ a0 a1 k, LeO (laws_sameInts.f k a0 a1) (laws_sameInts.f (k + 1) a0 a1) := by
  intro a0 a1 k
  have ih0 := laws_sameInts.mono_l k
  unfold laws_sameInts.f
  repeat' first
      | (with_reducible exact ih0 _ _ _)
      | (with_reducible exact LeO.refl _)
      | (with_reducible exact LeO.none _)
      | (with_reducible refine LeO.ite ?_ ?_)
      | (with_reducible refine LeO.bind ?_ (fun _ => ?_))
      | exact ih0 _ _ _
      | exact LeO.none _
      | refine LeO.ite ?_ ?_
      | refine LeO.bind ?_ (fun _ => ?_)
set_option maxHeartbeats 8000000 in
set_option maxRecDepth 100000 in
theorem laws_sameInts.calls (k : Nat) (A0 : Option Addr) (c0 : Nat) (l0 : List Int) (A1 : Option Addr) (c1 : Nat) (l1 : List Int) (r : Bool) (w : World) (hr0 : Kd.C (Kd.int .i64) w A0 l0.length l0) (hc0 : l0.length ≤ c0) (hr1 : Kd.C (Kd.int .i64) w A1 l1.length l1) (hc1 : l1.length ≤ c1) (h : laws_sameInts.f k l0 l1 = some r) :
    Calls Try.prog 38 #[.slice A0 l0.length c0, .slice A1 l1.length c1] w fun e w' => e = .returned (.bool r) ∧ Drawn0 w w' := by
  have HR0 := Aside0.mk hr0
  have HC0 := Aside0.mk hc0
  clear hr0 hc0
  have HR1 := Aside0.mk hr1
  have HC1 := Aside0.mk hc1
  clear hr1 hc1
  have H : (if (l0.length : Int) = (l1.length : Int) then (laws_sameInts.l0 k l0 l1 0) else (some false)) = some r := h
  clear h
  by_cases c3 : (l0.length : Int) = (l1.length : Int)
  · rw [if_pos c3] at H
    have c3b0 : ((l0.length : Int) == (l1.length : Int)) = true := beq_iff_eq.mpr c3
    have c3b1 : ((l0.length : Int) != (l1.length : Int)) = false := bne_eq_false_iff_eq.mpr c3
    have c3b2 : (l0.length == l1.length) = true := by first | simpa using c3 | (simp at c3 ⊢; omega)
    clear c3
    have H' := Aside0.mk H
    clear H
    go_enter Try.func38, Try.ntmps38
    go_wp2
    repeat (go_quiet (fail); try go_wp2)
    go_loopg [5] k (fun kq v5 w' => ∃ (x5_1 : Int), v5 = .int .i64 x5_1 ∧ Aside0 (laws_sameInts.l0 kq l0 l1 x5_1 = some r) ∧ Aside0 (kq ≤ k) ∧ Drawn0 w w')
    case atStart => exact ⟨(0), (by first | rfl | (simp; done) | (simp [*]; done)), H', ⟨Nat.le_refl _⟩, by repeat (first | exact Drawn0.refl _ | apply Drawn0.step)⟩
    case round =>
      clear H'
      try clear c1
      try clear p2
      try clear c3
      try clear c3b0
      try clear c3b1
      try clear c3b2
      obtain ⟨x5_1, rfl, HA, HK1, ⟨m1, rfl⟩⟩ := hrel
      cases gk with
      | zero => exact absurd HA.out (by simp [laws_sameInts.l0])
      | succ k1 =>
        have H := HA.out
        clear HA
        simp only [laws_sameInts.l0] at H
        by_cases c4 : x5_1 < (l0.length : Int)
        · rw [if_pos c4] at H
          have c4b0 : decide (x5_1 < (l0.length : Int)) = true := decide_eq_true c4
          clear c4
          by_cases c5 : 0 ≤ x5_1
          · rw [if_pos c5] at H
            have c5b0 : decide (0 ≤ x5_1) = true := decide_eq_true c5
            clear c5
            by_cases c6 : x5_1 < (l1.length : Int)
            · rw [if_pos c6] at H
              have c6b0 : decide (x5_1 < (l1.length : Int)) = true := decide_eq_true c6
              clear c6
              by_cases c7 : (rd l0 x5_1) = (rd l1 x5_1)
              · rw [if_pos c7] at H
                have c7b0 : ((rd l0 x5_1) == (rd l1 x5_1)) = true := beq_iff_eq.mpr c7
                have c7b1 : ((rd l0 x5_1) != (rd l1 x5_1)) = false := bne_eq_false_iff_eq.mpr c7
                clear c7
                have H' := Aside0.mk H
                clear H
                have p229 : 0 ≤ (x5_1 : Int) := of_decide_eq_true (by first | (with_reducible assumption) | assumption)
                have q229 : x5_1 < (l0.length : Int) := of_decide_eq_true (by first | (with_reducible assumption) | assumption)
                obtain ⟨ad229, e229, hx229_0⟩ := Kd.at_int HR0.out x5_1 p229 q229
                cases e229
                replace p229 := eq_true p229
                replace q229 := eq_true q229
                have p230 : 0 ≤ (x5_1 : Int) := of_decide_eq_true (by first | (with_reducible assumption) | assumption)
                have q230 : x5_1 < (l1.length : Int) := of_decide_eq_true (by first | (with_reducible assumption) | assumption)
                obtain ⟨ad230, e230, hx230_0⟩ := Kd.at_int HR1.out x5_1 p230 q230
                cases e230
                replace p230 := eq_true p230
                replace q230 := eq_true q230
                go_wp2
                repeat (go_quiet (fail); try go_wp2)
                go_roundg k1
                case measure => have := HK1.out; omega
                case rel => exact ⟨(wrap64 (x5_1 + 1)), (by first | rfl | (simp; done) | (simp [*]; done)), H', ⟨by have := HK1.out; omega⟩, by repeat (first | exact Drawn0.refl _ | apply Drawn0.step)⟩
              · rw [if_neg c7] at H
                have c7b0 : ((rd l0 x5_1) == (rd l1 x5_1)) = false := beq_eq_false_iff_ne.mpr c7
                have c7b1 : ((rd l0 x5_1) != (rd l1 x5_1)) = true := bne_iff_ne.mpr c7
                obtain rfl := Option.some.inj H
                have p229 : 0 ≤ (x5_1 : Int) := of_decide_eq_true (by first | (with_reducible assumption) | assumption)
                have q229 : x5_1 < (l0.length : Int) := of_decide_eq_true (by first | (with_reducible assumption) | assumption)
                obtain ⟨ad229, e229, hx229_0⟩ := Kd.at_int HR0.out x5_1 p229 q229
                cases e229
                replace p229 := eq_true p229
                replace q229 := eq_true q229
                have p230 : 0 ≤ (x5_1 : Int) := of_decide_eq_true (by first | (with_reducible assumption) | assumption)
                have q230 : x5_1 < (l1.length : Int) := of_decide_eq_true (by first | (with_reducible assumption) | assumption)
                obtain ⟨ad230, e230, hx230_0⟩ := Kd.at_int HR1.out x5_1 p230 q230
                cases e230
                replace p230 := eq_true p230
                replace q230 := eq_true q230
                go_wp2
                repeat (go_quiet (fail); try go_wp2)
                go_ret
                exact ⟨by first | rfl | (simp; done) | (simp [*]; done), by repeat (first | exact Drawn0.refl _ | apply Drawn0.step)⟩
            · rw [if_neg c6] at H
              exact absurd H (by simp)
          · rw [if_neg c5] at H
            exact absurd H (by simp)
        · rw [if_neg c4] at H
          have c4b0 : decide (x5_1 < (l0.length : Int)) = false := decide_eq_false c4
          clear c4
          obtain rfl := Option.some.inj H
          go_wp2
          repeat (go_quiet (fail); try go_wp2)
          go_ret
          exact ⟨by first | rfl | (simp; done) | (simp [*]; done), by repeat (first | exact Drawn0.refl _ | apply Drawn0.step)⟩
  · rw [if_neg c3] at H
    have c3b0 : ((l0.length : Int) == (l1.length : Int)) = false := beq_eq_false_iff_ne.mpr c3
    have c3b1 : ((l0.length : Int) != (l1.length : Int)) = true := bne_iff_ne.mpr c3
    have c3b2 : (l0.length == l1.length) = false := by first | simpa using c3 | (simp at c3 ⊢; omega)
    obtain rfl := Option.some.inj H
    go_enter Try.func38, Try.ntmps38
    go_wp2
    repeat (go_quiet (fail); try go_wp2)
    go_ret
    exact ⟨by first | rfl | (simp; done) | (simp [*]; done), by repeat (first | exact Drawn0.refl _ | apply Drawn0.step)⟩

/-! ### impl_isSet: function 48 -/
def impl_isSet.f (a0 : Int) (a1 : Int) : Option (Bool) := (impl_areThings.f a0).bind fun t231 => (if t231 = true then (if a1 ≥ 0 then ((impl_allWorlds.f a0).bind fun t232 => (some (decide (a1 ≤ t232)))) else (some false)) else (some false))
set_option maxHeartbeats 8000000 in
set_option maxRecDepth 100000 in
theorem impl_isSet.calls (a0 : Int) (a1 : Int) (r : Bool) (w : World) (h : impl_isSet.f a0 a1 = some r) :
    Calls Try.prog 48 #[.int .i64 a0, .int .i64 a1] w fun e w' => e = .returned (.bool r) ∧ Drawn0 w w' := by
  have H : ((impl_areThings.f a0).bind fun t231 => (if t231 = true then (if a1 ≥ 0 then ((impl_allWorlds.f a0).bind fun t232 => (some (decide (a1 ≤ t232)))) else (some false)) else (some false))) = some r := h
  clear h
  replace H := Option.bind_eq_some_iff.mp H
  obtain ⟨t231, A30, H⟩ := H
  replace H : (if t231 = true then (if a1 ≥ 0 then ((impl_allWorlds.f a0).bind fun t232 => (some (decide (a1 ≤ t232)))) else (some false)) else (some false)) = some r := H
  have A3 := Aside0.mk A30
  clear A30
  by_cases c4 : t231 = true
  · subst c4
    have H1 : (if a1 ≥ 0 then ((impl_allWorlds.f a0).bind fun t232 => (some (decide (a1 ≤ t232)))) else (some false)) = some r := by rw [if_pos rfl] at H; exact H
    clear H
    have H := H1
    clear H1
    by_cases c5 : a1 ≥ 0
    · rw [if_pos c5] at H
      have c5b0 : decide (0 ≤ a1) = true := decide_eq_true c5
      clear c5
      replace H := Option.bind_eq_some_iff.mp H
      obtain ⟨t232, A60, H⟩ := H
      replace H : (some (decide (a1 ≤ t232))) = some r := H
      have A6 := Aside0.mk A60
      clear A60
      obtain rfl := Option.some.inj H
      go_enter Try.func48, Try.ntmps48
      go_wp2_with (first | ((with_reducible refine gate_callee (f := 73) rfl ?_); refine goesL_ (some 6) rfl rfl Try.func73 (by kernel_rfl) rfl #[.int .i64 a0] rfl (by (try simp only [List.map_toArray, List.map_cons, List.map_nil]); first | done | rfl | (simp only [List.length_drop, List.length_take]; rfl)) ?_; (with_reducible refine (impl_areThings.calls a0 true _ A3.out).mono ?_); rintro e w' ⟨rfl, ⟨nd, rfl⟩⟩; refine ⟨_, rfl, ?_⟩) | (go_at_call 50; (with_reducible refine (impl_allWorlds.calls a0 t232 _ A6.out).mono ?_); rintro e w' ⟨rfl, ⟨nd, rfl⟩⟩))
      go_ret
      exact ⟨by first | rfl | (simp; done) | (simp [*]; done), by repeat (first | exact Drawn0.refl _ | apply Drawn0.step)⟩
    · rw [if_neg c5] at H
      have c5b0 : decide (0 ≤ a1) = false := decide_eq_false c5
      clear c5
      obtain rfl := Option.some.inj H
      go_enter Try.func48, Try.ntmps48
      go_wp2_with (first | ((with_reducible refine gate_callee (f := 73) rfl ?_); refine goesL_ (some 6) rfl rfl Try.func73 (by kernel_rfl) rfl #[.int .i64 a0] rfl (by (try simp only [List.map_toArray, List.map_cons, List.map_nil]); first | done | rfl | (simp only [List.length_drop, List.length_take]; rfl)) ?_; (with_reducible refine (impl_areThings.calls a0 true _ A3.out).mono ?_); rintro e w' ⟨rfl, ⟨nd, rfl⟩⟩; refine ⟨_, rfl, ?_⟩))
      go_ret
      exact ⟨by first | rfl | (simp; done) | (simp [*]; done), by repeat (first | exact Drawn0.refl _ | apply Drawn0.step)⟩
  · replace c4 := Bool.eq_false_iff.mpr c4
    subst c4
    have H1 : (some false) = some r := by rw [if_neg (show ¬ (false = true) by decide)] at H; exact H
    clear H
    have H := H1
    clear H1
    obtain rfl := Option.some.inj H
    go_enter Try.func48, Try.ntmps48
    go_wp2_with (first | ((with_reducible refine gate_callee (f := 73) rfl ?_); refine goesL_ (some 6) rfl rfl Try.func73 (by kernel_rfl) rfl #[.int .i64 a0] rfl (by (try simp only [List.map_toArray, List.map_cons, List.map_nil]); first | done | rfl | (simp only [List.length_drop, List.length_take]; rfl)) ?_; (with_reducible refine (impl_areThings.calls a0 false _ A3.out).mono ?_); rintro e w' ⟨rfl, ⟨nd, rfl⟩⟩; refine ⟨_, rfl, ?_⟩))
    go_ret
    exact ⟨by first | rfl | (simp; done) | (simp [*]; done), by repeat (first | exact Drawn0.refl _ | apply Drawn0.step)⟩

/-! ### impl_isTable: function 66, by hand -/
/-- Is a number a set of worlds, for a right number of things? -/
def impl_isTable.set (a0 : Int) (s : Int) : Bool := decide (0 ≤ s ∧ s < 2 ^ 2 ^ a0.toNat)
/-- The first place where something is so, from j on, of n; -1 for none. -/
def impl_isTable.bad (p : Nat → Bool) (n : Nat) : Bool := (List.range n).any p
def impl_isTable.f (a0 : Int) (l1 : List Int) : Option (Bool) := if 1 ≤ a0 ∧ a0 ≤ 2 then (if (l1.length : Int) = 2 ^ 2 ^ a0.toNat then some (!impl_isTable.bad (fun j => !impl_isTable.set a0 (rd l1 j)) l1.length) else some false) else some false
theorem impl_isTable.isSet {a0 s : Int} (h0 : 1 ≤ a0) (h1 : a0 ≤ 2) : impl_isSet.f a0 s = some (impl_isTable.set a0 s) := by
  unfold impl_isSet.f impl_areThings.f impl_isTable.set
  rw [if_pos h0]
  simp only [Option.bind_some]
  rw [if_pos (by simp; omega)]
  by_cases hs : s ≥ 0
  · rw [if_pos hs]
    unfold impl_allWorlds.f
    rw [if_pos (by omega)]
    simp only [Option.bind_some]
    congr 1
    apply decide_eq_decide.mpr
    generalize (2 : Int) ^ 2 ^ a0.toNat = M
    omega
  · rw [if_neg hs]
    congr 1
    symm
    apply decide_eq_false
    omega
theorem impl_isTable.any_succ (p : Nat → Bool) (n : Nat) : impl_isTable.bad p (n + 1) = (impl_isTable.bad p n || p n) := by
  unfold impl_isTable.bad
  rw [List.range_succ, List.any_append]
  simp
theorem impl_isTable.any_of (p : Nat → Bool) : ∀ n k, k < n → p k = true → impl_isTable.bad p n = true := by
  intro n k hk hp
  unfold impl_isTable.bad
  rw [List.any_eq_true]
  exact ⟨k, List.mem_range.mpr hk, hp⟩
set_option maxHeartbeats 8000000 in
set_option maxRecDepth 100000 in
theorem impl_isTable.closure (a0 s : Int) (g1 : Nat) (w : World) (h0 : 1 ≤ a0) (h1 : a0 ≤ 2) (hg1 : w.cell? ⟨g1, 0, none⟩ = some (.int .i64 a0)) :
    Calls Try.prog 83 #[.int .i64 s, .pointer (some ⟨g1, 0, none⟩)] w fun e w' => e = .returned (.bool (!impl_isTable.set a0 s)) ∧ Drawn0 w w' := by
  have HC := Aside0.mk (impl_isTable.isSet (s := s) h0 h1)
  go_enter Try.func83, Try.ntmps83
  go_wp2_with (first | (go_at_call 48; (with_reducible refine (impl_isSet.calls a0 s _ _ HC.out).mono ?_); rintro e w' ⟨rfl, ⟨nd, rfl⟩⟩))
  repeat (go_quiet (fail); try go_wp2_with (fail))
  go_ret
  exact ⟨by first | rfl | (simp; done), by repeat (first | exact Drawn0.refl _ | apply Drawn0.step)⟩
set_option maxHeartbeats 8000000 in
set_option maxRecDepth 100000 in
theorem impl_isTable.index (A1 : Option Addr) (c1 : Nat) (l1 : List Int) (p : Nat → Bool) (g1 : Nat) (w : World) (hr1 : Kd.C (Kd.int .i64) w A1 l1.length l1)
    (hcl : ∀ (k : Nat) (W : World), k < l1.length → Drawn0 w W → Calls Try.prog 83 #[.int .i64 (rd l1 k), .pointer (some ⟨g1, 0, none⟩)] W fun e w' => e = .returned (.bool (p k)) ∧ Drawn0 W w') :
    Calls Try.prog 86 #[.slice A1 l1.length c1, .func (.func 83) #[] #[.pointer (some ⟨g1, 0, none⟩)]] w fun e w' => ∃ i : Int, e = .returned (.int .i64 i) ∧ Aside0 (decide (0 ≤ i) = impl_isTable.bad p l1.length) ∧ Drawn0 w w' := by
  have hm := hr1.2.1
  have HR := Aside0.mk hr1
  have HS := Aside0.mk hcl
  clear hr1 hcl
  go_enter Try.func86, Try.ntmps86
  go_wp2_with (fail)
  go_loopw [8] (fun i wr => ∃ k : Nat, k ≤ l1.length ∧ i = .int .i64 k ∧ Aside0 (impl_isTable.bad p k = false) ∧ Drawn0 w wr) (fun i _ => l1.length - (intOf i).toNat)
  case atStart => exact ⟨0, Nat.zero_le _, rfl, ⟨rfl⟩, Drawn0.refl _⟩
  case round =>
    obtain ⟨k, hk, rfl, HN, hw⟩ := hrel
    by_cases hlt : k < l1.length
    · obtain ⟨ad, e, hx⟩ := Kd.at_int HR.out k (by omega) (by omega)
      cases e
      have hc := HS.out k wr hlt hw
      obtain ⟨nw, rfl⟩ := hw
      have hw : Drawn0 w (w.drewN nw) := ⟨⟨nw, rfl⟩⟩
      have hx2 : w.cell? (ad.add k) = some (.int .i64 (rd l1 k)) := hx
      clear hx
      obtain ⟨b, hb⟩ : ∃ b : Bool, p k = b := ⟨_, rfl⟩
      have HBP := Aside0.mk hb
      rw [hb] at hc
      clear hb
      obtain ⟨y, hy⟩ : ∃ y : Int, rd l1 k = y := ⟨_, rfl⟩
      rw [hy] at hc hx2
      clear hy
      cases b
      · go_wp2_with (refine hc.mono ?_; rintro e w1 ⟨rfl, hw1⟩)
        go_roundw
        case rel => exact ⟨k + 1, by omega, by go_num, ⟨by rw [impl_isTable.any_succ, HN.out, HBP.out]; rfl⟩, drawn_trans hw hw1⟩
        case measure => simp [intOf]; omega
      · go_wp2_with (refine hc.mono ?_; rintro e w1 ⟨rfl, hw1⟩)
        go_ret
        exact ⟨(k : Int), rfl, ⟨by rw [impl_isTable.any_of p _ k hlt HBP.out]; simp⟩, drawn_trans hw hw1⟩
    · go_wp2_with (fail)
      go_ret
      have : k = l1.length := by omega
      subst this
      exact ⟨-1, rfl, ⟨by rw [HN.out]; rfl⟩, hw⟩
set_option maxHeartbeats 8000000 in
set_option maxRecDepth 100000 in
theorem impl_isTable.contains (A1 : Option Addr) (c1 : Nat) (l1 : List Int) (p : Nat → Bool) (g1 : Nat) (w : World) (hr1 : Kd.C (Kd.int .i64) w A1 l1.length l1)
    (hcl : ∀ (k : Nat) (W : World), k < l1.length → Drawn0 w W → Calls Try.prog 83 #[.int .i64 (rd l1 k), .pointer (some ⟨g1, 0, none⟩)] W fun e w' => e = .returned (.bool (p k)) ∧ Drawn0 W w') :
    Calls Try.prog 82 #[.slice A1 l1.length c1, .func (.func 83) #[] #[.pointer (some ⟨g1, 0, none⟩)]] w fun e w' => e = .returned (.bool (impl_isTable.bad p l1.length)) ∧ Drawn0 w w' := by
  have HI := Aside0.mk (impl_isTable.index A1 c1 l1 p g1 w hr1 hcl)
  clear hr1 hcl
  go_enter Try.func82, Try.ntmps82
  go_wp2_with (first | (go_at_call 86; (with_reducible refine HI.out.mono ?_); rintro e w1 ⟨i, rfl, HX, hw1⟩))
  go_ret
  exact ⟨by rw [← HX.out]; rfl, hw1⟩
set_option maxHeartbeats 8000000 in
set_option maxRecDepth 100000 in
theorem impl_isTable.calls (a0 : Int) (A1 : Option Addr) (c1 : Nat) (l1 : List Int) (r : Bool) (w : World) (hr1 : Kd.C (Kd.int .i64) w A1 l1.length l1) (hc1 : l1.length ≤ c1) (h : impl_isTable.f a0 l1 = some r) :
    Calls Try.prog 66 #[.int .i64 a0, .slice A1 l1.length c1] w fun e w' => e = .returned (.bool r) ∧ Below w.heap.size w w' := by
  have hmf : ∀ (fn : Fn) (first cap : Array Value) (w : World), (Instr.makeFunc fn first cap).run Try.prog w = .ok (.func fn first cap) w := fun _ _ _ _ => rfl
  have hg1 : (w.alloc (.cells #[.int .i64 a0] 3)).cell? ⟨w.heap.size, 0, none⟩ = some (.int .i64 a0) := by
    rw [World.cell?_alloc_at _ _ _ _ rfl]; rfl
  have hm := hr1.2.1
  unfold impl_isTable.f at h
  by_cases h1 : 1 ≤ a0
  case neg =>
    rw [if_neg (fun x => h1 x.1)] at h
    obtain rfl := Option.some.inj h
    have e1 : decide (a0 < 1) = true := decide_eq_true (by omega)
    clear hr1 h
    go_enter Try.func66, Try.ntmps66
    go_wp2_with (fail)
    repeat (go_quiet (fail); try go_wp2_with (fail))
    go_ret
    exact ⟨rfl, by repeat (first | exact Below.refl _ _ | apply below_alloc | apply pw_below_drewN | apply below_drew1)⟩
  have e1 : decide (a0 < 1) = false := decide_eq_false (by omega)
  by_cases h2 : a0 ≤ 2
  case neg =>
    rw [if_neg (fun x => h2 x.2)] at h
    obtain rfl := Option.some.inj h
    have e2 : decide (2 < a0) = true := decide_eq_true (by omega)
    clear hr1 h
    go_enter Try.func66, Try.ntmps66
    go_wp2_with (fail)
    repeat (go_quiet (fail); try go_wp2_with (fail))
    go_ret
    exact ⟨rfl, by repeat (first | exact Below.refl _ _ | apply below_alloc | apply pw_below_drewN | apply below_drew1)⟩
  have e2 : decide (2 < a0) = false := decide_eq_false (by omega)
  rw [if_pos ⟨h1, h2⟩] at h
  have HALL := Aside0.mk (show impl_allWorlds.f a0 = some (2 ^ 2 ^ a0.toNat - 1) by unfold impl_allWorlds.f; rw [if_pos (by omega)])
  have hM : (2 : Int) ^ 2 ^ a0.toNat = 4 ∨ (2 : Int) ^ 2 ^ a0.toNat = 16 := by
    obtain rfl | rfl : a0 = 1 ∨ a0 = 2 := by omega
    · exact .inl rfl
    · exact .inr rfl
  have hs : ∀ (k : Nat) (W : World), k < l1.length → Drawn0 (w.alloc (.cells #[.int .i64 a0] 3)) W → Calls Try.prog 83 #[.int .i64 (rd l1 k), .pointer (some ⟨w.heap.size, 0, none⟩)] W fun e w' => e = .returned (.bool (!impl_isTable.set a0 (rd l1 k))) ∧ Drawn0 W w' := by
    intro k W hk hd
    obtain ⟨n, rfl⟩ := hd
    exact impl_isTable.closure a0 _ _ _ h1 h2 hg1
  have hr2 : Kd.C (Kd.int .i64) (w.alloc (.cells #[.int .i64 a0] 3)) A1 l1.length l1 := Kd.C_alloc hr1 _
  have HCON := Aside0.mk (fun nd => impl_isTable.contains A1 c1 l1 (fun j => !impl_isTable.set a0 (rd l1 j)) w.heap.size ((w.alloc (.cells #[.int .i64 a0] 3)).drewN nd) (Kd.C_drewN hr2 nd) (fun k W hk hd => hs k W hk (drawn_trans ⟨⟨nd, rfl⟩⟩ hd)))
  clear hs hr1 hr2
  generalize (2 : Int) ^ 2 ^ a0.toNat = M at h HALL hM
  by_cases h3 : (l1.length : Int) = M
  · rw [if_pos h3] at h
    obtain rfl := Option.some.inj h
    have e3 : ((l1.length : Int) != M) = false := bne_eq_false_iff_eq.mpr h3
    have e4 : wrap64 (M - 1 + 1) = M := by unfold wrap64; omega
    have e5 : M - 1 + 1 = M := by omega
    clear h h3
    go_enter Try.func66, Try.ntmps66
    go_wp2_with (first | (go_at_call 50; (with_reducible refine (impl_allWorlds.calls a0 _ _ HALL.out).mono ?_); rintro e w' ⟨rfl, ⟨nd, rfl⟩⟩) | (go_at_call 82; (with_reducible refine (HCON.out _).mono ?_); rintro e w' ⟨rfl, ⟨nd, rfl⟩⟩))
    go_ret
    exact ⟨rfl, by repeat (first | exact Below.refl _ _ | apply below_alloc | apply pw_below_drewN | apply below_drew1)⟩
  · rw [if_neg h3] at h
    obtain rfl := Option.some.inj h
    have e3 : ((l1.length : Int) != M) = true := bne_iff_ne.mpr h3
    have e4 : wrap64 (M - 1 + 1) = M := by unfold wrap64; omega
    have e5 : M - 1 + 1 = M := by omega
    clear h h3
    go_enter Try.func66, Try.ntmps66
    go_wp2_with (first | (go_at_call 50; (with_reducible refine (impl_allWorlds.calls a0 _ _ HALL.out).mono ?_); rintro e w' ⟨rfl, ⟨nd, rfl⟩⟩))
    go_ret
    exact ⟨rfl, by repeat (first | exact Below.refl _ _ | apply below_alloc | apply pw_below_drewN | apply below_drew1)⟩

/-! ### impl_TableOk: function 39 -/
def impl_TableOk.f (a0 : Int) (l1 : List Int) : Option (Bool) := (impl_isTable.f a0 l1).bind fun t233 => (some t233)
set_option maxHeartbeats 8000000 in
set_option maxRecDepth 100000 in
theorem impl_TableOk.calls (a0 : Int) (A1 : Option Addr) (c1 : Nat) (l1 : List Int) (r : Bool) (w : World) (hr1 : Kd.C (Kd.int .i64) w A1 l1.length l1) (hc1 : l1.length ≤ c1) (h : impl_TableOk.f a0 l1 = some r) :
    Calls Try.prog 39 #[.int .i64 a0, .slice A1 l1.length c1] w fun e w' => e = .returned (.bool r) ∧ Below w.heap.size w w' := by
  have HR1 := Aside0.mk hr1
  have HC1 := Aside0.mk hc1
  clear hr1 hc1
  have HB := Aside0.mk (Below.refl w.heap.size w)
  have H : ((impl_isTable.f a0 l1).bind fun t233 => (some t233)) = some r := h
  clear h
  replace H := Option.bind_eq_some_iff.mp H
  obtain ⟨t233, A30, H⟩ := H
  replace H : (some t233) = some r := H
  have A3 := Aside0.mk A30
  clear A30
  obtain rfl := Option.some.inj H
  go_enter Try.func39, Try.ntmps39
  go_wp2_with (first | ((with_reducible refine gate_callee (f := 66) rfl ?_); refine goesL_ (some 7) rfl rfl Try.func66 (by kernel_rfl) rfl #[.int .i64 a0, .slice A1 l1.length c1] rfl (by (try simp only [List.map_toArray, List.map_cons, List.map_nil]); first | done | rfl | (simp only [List.length_drop, List.length_take]; rfl)) ?_; (with_reducible refine (impl_isTable.calls a0 _ _ l1 t233 _ ?side1 ?side2 A3.out).mono ?_); (case side1 => repeat (first | exact HR1.out | (with_reducible refine Kd.C_alloc ?_ _) | (with_reducible refine Kd.C_drewN ?_ _) | (with_reducible refine Kd.C_drew ?_))); (case side2 => exact HC1.out); rintro e w4 ⟨rfl, hb⟩; refine ⟨_, rfl, ?_⟩; have n0_ := Aside0.mk (below_step (by repeat (first | (with_reducible first | exact HB.out | apply below_alloc | apply pw_below_drewN | apply below_drew1) | exact HB.out)) hb); clear HB; have HB := n0_; clear n0_; (try clear hb); (try clear hb2); (try clear hk); (try clear hi)))
  go_ret
  exact ⟨by first | rfl | (simp [errW_none, errW_some] <;> rfl) | (simp [*, errW_none, errW_some] <;> rfl), by repeat (first | (with_reducible first | exact HB.out | apply below_alloc | apply pw_below_drewN | apply below_drew1) | exact HB.out)⟩

end Go.Proofs.Ythgddbnmieodkaa.Q

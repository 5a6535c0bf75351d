/- Contracts of functions of the program: whatever a function's pure reading answers, the call returns. Printed by a program of this session (the kit's print, with contracts by hand beside it). Conditions: those of each theorem. -/
import Derived.Test.YtflaacdhifgpoaaT0
namespace Go.Proofs.Ytflaacdhifgpoaa.T
open Go.Proofs.BelM
open Go.RowKit Go.Proofs.YtflaacdhifgpoaaW.PrintWords Go.Proofs.YtflaacdhifgpoaaW.PrintLast Go.Proofs.YtflaacdhifgpoaaW.PrintMore
attribute [local go_sem] max2_int min2_int max_two min_two max_three min_three max_four min_four   -- for this text's walks alone
set_option linter.unusedVariables false
set_option linter.unusedSimpArgs false

/-! ### impl_areThings: function 71 -/
def impl_areThings.f (a0 : Int) : Option (Bool) := if a0 ≥ 1 then (some (decide (a0 ≤ 3))) else (some false)
set_option maxHeartbeats 8000000 in
set_option maxRecDepth 100000 in
theorem impl_areThings.calls (a0 : Int) (r : Bool) (w : World) (h : impl_areThings.f a0 = some r) :
    Calls Try.prog 71 #[.int .i64 a0] w fun e w' => e = .returned (.bool r) ∧ Drawn0 w w' := by
  have H : (if a0 ≥ 1 then (some (decide (a0 ≤ 3))) else (some false)) = some r := h
  clear h
  by_cases c2 : a0 ≥ 1
  · rw [if_pos c2] at H
    have c2b0 : decide (1 ≤ a0) = true := decide_eq_true c2
    clear c2
    obtain rfl := Option.some.inj H
    go_enter Try.func71, Try.ntmps71
    go_wp2
    go_ret
    exact ⟨by first | rfl | (simp; done) | (simp [*]; done), by repeat (first | exact Drawn0.refl _ | apply Drawn0.step)⟩
  · rw [if_neg c2] at H
    have c2b0 : decide (1 ≤ a0) = false := decide_eq_false c2
    clear c2
    obtain rfl := Option.some.inj H
    go_enter Try.func71, Try.ntmps71
    go_wp2
    go_ret
    exact ⟨by first | rfl | (simp; done) | (simp [*]; done), by repeat (first | exact Drawn0.refl _ | apply Drawn0.step)⟩

/-! ### impl_WorldsOf: function 59 -/
def impl_WorldsOf.f (a0 : Int) : Option (Int) := (impl_areThings.f a0).bind fun t101 => (if t101 = true then (if 0 ≤ a0 then (some (shl .i64 1 a0)) else (none)) else (some (-1)))
set_option maxHeartbeats 8000000 in
set_option maxRecDepth 100000 in
theorem impl_WorldsOf.calls (a0 : Int) (r : Int) (w : World) (h : impl_WorldsOf.f a0 = some r) :
    Calls Try.prog 59 #[.int .i64 a0] w fun e w' => e = .returned (.int .i64 r) ∧ Drawn0 w w' := by
  have H : ((impl_areThings.f a0).bind fun t101 => (if t101 = true then (if 0 ≤ a0 then (some (shl .i64 1 a0)) else (none)) else (some (-1)))) = some r := h
  clear h
  replace H := Option.bind_eq_some_iff.mp H
  obtain ⟨t101, A20, H⟩ := H
  replace H : (if t101 = true then (if 0 ≤ a0 then (some (shl .i64 1 a0)) else (none)) else (some (-1))) = some r := H
  have A2 := Aside0.mk A20
  clear A20
  by_cases c3 : t101 = true
  · subst c3
    have H1 : (if 0 ≤ a0 then (some (shl .i64 1 a0)) else (none)) = some r := by rw [if_pos rfl] at H; exact H
    clear H
    have H := H1
    clear H1
    by_cases c4 : 0 ≤ a0
    · rw [if_pos c4] at H
      have c4b0 := eq_true c4
      have c4b1 : decide (0 ≤ a0) = true := decide_eq_true c4
      clear c4
      obtain ⟨ji5, hji5⟩ : ∃ j_ : Int, (shl .i64 1 a0) = j_ := ⟨_, rfl⟩
      replace H : (some ji5) = some r := by first | (rw [hji5] at H; exact H) | (simp only [hji5] at H ⊢; exact H)
      (try rw [hji5] at A2)
      have hji5_ : (IntKind.i64.wrap (1 * 2 ^ min a0.toNat 64)) = ji5 := hji5
      have hji5z : a0 ≤ 64 → (IntKind.i64.wrap (1 * 2 ^ a0.toNat)) = ji5 := shl_small hji5
      have hji5u : (IntKind.i64.wrap (2 ^ min a0.toNat 64)) = ji5 := by have h_ := hji5_; rw [Int.one_mul] at h_; exact h_
      have hji5v : a0 ≤ 64 → (IntKind.i64.wrap (2 ^ a0.toNat)) = ji5 := fun hle_ => by have h_ := hji5z hle_; rw [Int.one_mul] at h_; exact h_
      have hji5y : (wrap64 (1 * 2 ^ min a0.toNat 64)) = ji5 := (i64_w _).symm.trans hji5_
      have hji5x : a0 ≤ 64 → (wrap64 (1 * 2 ^ a0.toNat)) = ji5 := fun h_ => (i64_w _).symm.trans (hji5z h_)
      obtain rfl := Option.some.inj H
      go_enter Try.func59, Try.ntmps59
      go_wp2_with (first | ((with_reducible refine gate_callee (f := 71) rfl ?_); refine goesL_ (some 4) rfl rfl Try.func71 (by kernel_rfl) rfl #[.int .i64 a0] rfl (by (try simp only [List.map_toArray, List.map_cons, List.map_nil]); first | done | rfl | (simp only [List.length_drop, List.length_take]; rfl)) ?_; (with_reducible refine (impl_areThings.calls a0 true _ A2.out).mono ?_); rintro e w' ⟨rfl, ⟨nd, rfl⟩⟩; refine ⟨_, rfl, ?_⟩))
      go_ret
      exact ⟨by first | rfl | (simp; done) | (simp only [← hji5] <;> (first | rfl | simp)) | (simp [*]; done), by repeat (first | exact Drawn0.refl _ | apply Drawn0.step)⟩
    · rw [if_neg c4] at H
      exact absurd H (by simp)
  · replace c3 := Bool.eq_false_iff.mpr c3
    subst c3
    have H1 : (some (-1)) = some r := by rw [if_neg (show ¬ (false = true) by decide)] at H; exact H
    clear H
    have H := H1
    clear H1
    obtain rfl := Option.some.inj H
    go_enter Try.func59, Try.ntmps59
    go_wp2_with (first | ((with_reducible refine gate_callee (f := 71) rfl ?_); refine goesL_ (some 4) rfl rfl Try.func71 (by kernel_rfl) rfl #[.int .i64 a0] rfl (by (try simp only [List.map_toArray, List.map_cons, List.map_nil]); first | done | rfl | (simp only [List.length_drop, List.length_take]; rfl)) ?_; (with_reducible refine (impl_areThings.calls a0 false _ A2.out).mono ?_); rintro e w' ⟨rfl, ⟨nd, rfl⟩⟩; refine ⟨_, rfl, ?_⟩))
    go_ret
    exact ⟨by first | rfl | (simp; done) | (simp [*]; done), by repeat (first | exact Drawn0.refl _ | apply Drawn0.step)⟩

/-! ### laws_alive: function 25 -/
def laws_alive.f  : Option (Bool) := (impl_WorldsOf.f 1).bind fun t102 => (if t102 = 2 then ((impl_WorldsOf.f 9).bind fun t103 => (some (t103 == (-1)))) else (some false))
set_option maxHeartbeats 8000000 in
set_option maxRecDepth 100000 in
theorem laws_alive.calls  (r : Bool) (w : World) (h : laws_alive.f  = some r) :
    Calls Try.prog 25 #[] w fun e w' => e = .returned (.bool r) ∧ Drawn0 w w' := by
  have H : ((impl_WorldsOf.f 1).bind fun t102 => (if t102 = 2 then ((impl_WorldsOf.f 9).bind fun t103 => (some (t103 == (-1)))) else (some false))) = some r := h
  clear h
  replace H := Option.bind_eq_some_iff.mp H
  obtain ⟨t102, A10, H⟩ := H
  replace H : (if t102 = 2 then ((impl_WorldsOf.f 9).bind fun t103 => (some (t103 == (-1)))) else (some false)) = some r := H
  have A1 := Aside0.mk A10
  clear A10
  by_cases c2 : t102 = 2
  · rw [if_pos c2] at H
    have c2b0 : (t102 == 2) = true := beq_iff_eq.mpr c2
    have c2b1 : (t102 != 2) = false := bne_eq_false_iff_eq.mpr c2
    clear c2
    replace H := Option.bind_eq_some_iff.mp H
    obtain ⟨t103, A30, H⟩ := H
    replace H : (some (t103 == (-1))) = some r := H
    have A3 := Aside0.mk A30
    clear A30
    obtain rfl := Option.some.inj H
    go_enter Try.func25, Try.ntmps25
    go_wp2_with (first | ((with_reducible refine gate_callee (f := 59) rfl ?_); refine goesL_ (some 1) rfl rfl Try.func59 (by kernel_rfl) rfl #[.int .i64 1] rfl (by (try simp only [List.map_toArray, List.map_cons, List.map_nil]); first | done | rfl | (simp only [List.length_drop, List.length_take]; rfl)) ?_; (with_reducible refine (impl_WorldsOf.calls 1 t102 _ A1.out).mono ?_); rintro e w' ⟨rfl, ⟨nd, rfl⟩⟩; refine ⟨_, rfl, ?_⟩) | (go_at_call 59; (with_reducible refine (impl_WorldsOf.calls 9 t103 _ A3.out).mono ?_); rintro e w' ⟨rfl, ⟨nd, rfl⟩⟩))
    go_ret
    exact ⟨by first | rfl | (simp; done) | (simp [*]; done), by repeat (first | exact Drawn0.refl _ | apply Drawn0.step)⟩
  · rw [if_neg c2] at H
    have c2b0 : (t102 == 2) = false := beq_eq_false_iff_ne.mpr c2
    have c2b1 : (t102 != 2) = true := bne_iff_ne.mpr c2
    obtain rfl := Option.some.inj H
    go_enter Try.func25, Try.ntmps25
    go_wp2_with (first | ((with_reducible refine gate_callee (f := 59) rfl ?_); refine goesL_ (some 1) rfl rfl Try.func59 (by kernel_rfl) rfl #[.int .i64 1] rfl (by (try simp only [List.map_toArray, List.map_cons, List.map_nil]); first | done | rfl | (simp only [List.length_drop, List.length_take]; rfl)) ?_; (with_reducible refine (impl_WorldsOf.calls 1 t102 _ A1.out).mono ?_); rintro e w' ⟨rfl, ⟨nd, rfl⟩⟩; refine ⟨_, rfl, ?_⟩))
    go_ret
    exact ⟨by first | rfl | (simp; done) | (simp [*]; done), by repeat (first | exact Drawn0.refl _ | apply Drawn0.step)⟩

/-! ### impl_allWorlds: function 77, by hand -/
def impl_allWorlds.f (a0 : Int) : Option (Int) := if 1 ≤ a0 ∧ a0 ≤ 3 then some (2 ^ 2 ^ a0.toNat - 1) else none
set_option maxHeartbeats 8000000 in
set_option maxRecDepth 100000 in
theorem impl_allWorlds.calls (a0 : Int) (r : Int) (w : World) (h : impl_allWorlds.f a0 = some r) :
    Calls Try.prog 77 #[.int .i64 a0] w fun e w' => e = .returned (.int .i64 r) ∧ Drawn0 w w' := by
  unfold impl_allWorlds.f at h
  split at h
  · rename_i hc
    obtain ⟨h0, h1⟩ := hc
    obtain rfl | rfl | rfl : a0 = 1 ∨ a0 = 2 ∨ a0 = 3 := by omega
    all_goals
      obtain rfl := Option.some.inj h
      clear h
      go_enter Try.func77, Try.ntmps77
      go_wp2
      go_ret
      exact ⟨by first | rfl | (simp; done) | (simp [*]; done), by repeat (first | exact Drawn0.refl _ | apply Drawn0.step)⟩
  · exact absurd h (by simp)

/-! ### impl_isSet: function 58 -/
def impl_isSet.f (a0 : Int) (a1 : Int) : Option (Bool) := (impl_areThings.f a0).bind fun t104 => (if t104 = true then (if a1 ≥ 0 then ((impl_allWorlds.f a0).bind fun t105 => (some (decide (a1 ≤ t105)))) else (some false)) else (some false))
set_option maxHeartbeats 8000000 in
set_option maxRecDepth 100000 in
theorem impl_isSet.calls (a0 : Int) (a1 : Int) (r : Bool) (w : World) (h : impl_isSet.f a0 a1 = some r) :
    Calls Try.prog 58 #[.int .i64 a0, .int .i64 a1] w fun e w' => e = .returned (.bool r) ∧ Drawn0 w w' := by
  have H : ((impl_areThings.f a0).bind fun t104 => (if t104 = true then (if a1 ≥ 0 then ((impl_allWorlds.f a0).bind fun t105 => (some (decide (a1 ≤ t105)))) else (some false)) else (some false))) = some r := h
  clear h
  replace H := Option.bind_eq_some_iff.mp H
  obtain ⟨t104, A30, H⟩ := H
  replace H : (if t104 = true then (if a1 ≥ 0 then ((impl_allWorlds.f a0).bind fun t105 => (some (decide (a1 ≤ t105)))) else (some false)) else (some false)) = some r := H
  have A3 := Aside0.mk A30
  clear A30
  by_cases c4 : t104 = true
  · subst c4
    have H1 : (if a1 ≥ 0 then ((impl_allWorlds.f a0).bind fun t105 => (some (decide (a1 ≤ t105)))) else (some false)) = some r := by rw [if_pos rfl] at H; exact H
    clear H
    have H := H1
    clear H1
    by_cases c5 : a1 ≥ 0
    · rw [if_pos c5] at H
      have c5b0 : decide (0 ≤ a1) = true := decide_eq_true c5
      clear c5
      replace H := Option.bind_eq_some_iff.mp H
      obtain ⟨t105, A60, H⟩ := H
      replace H : (some (decide (a1 ≤ t105))) = some r := H
      have A6 := Aside0.mk A60
      clear A60
      obtain rfl := Option.some.inj H
      go_enter Try.func58, Try.ntmps58
      go_wp2_with (first | ((with_reducible refine gate_callee (f := 71) rfl ?_); refine goesL_ (some 6) rfl rfl Try.func71 (by kernel_rfl) rfl #[.int .i64 a0] rfl (by (try simp only [List.map_toArray, List.map_cons, List.map_nil]); first | done | rfl | (simp only [List.length_drop, List.length_take]; rfl)) ?_; (with_reducible refine (impl_areThings.calls a0 true _ A3.out).mono ?_); rintro e w' ⟨rfl, ⟨nd, rfl⟩⟩; refine ⟨_, rfl, ?_⟩) | (go_at_call 77; (with_reducible refine (impl_allWorlds.calls a0 t105 _ A6.out).mono ?_); rintro e w' ⟨rfl, ⟨nd, rfl⟩⟩))
      go_ret
      exact ⟨by first | rfl | (simp; done) | (simp [*]; done), by repeat (first | exact Drawn0.refl _ | apply Drawn0.step)⟩
    · rw [if_neg c5] at H
      have c5b0 : decide (0 ≤ a1) = false := decide_eq_false c5
      clear c5
      obtain rfl := Option.some.inj H
      go_enter Try.func58, Try.ntmps58
      go_wp2_with (first | ((with_reducible refine gate_callee (f := 71) rfl ?_); refine goesL_ (some 6) rfl rfl Try.func71 (by kernel_rfl) rfl #[.int .i64 a0] rfl (by (try simp only [List.map_toArray, List.map_cons, List.map_nil]); first | done | rfl | (simp only [List.length_drop, List.length_take]; rfl)) ?_; (with_reducible refine (impl_areThings.calls a0 true _ A3.out).mono ?_); rintro e w' ⟨rfl, ⟨nd, rfl⟩⟩; refine ⟨_, rfl, ?_⟩))
      go_ret
      exact ⟨by first | rfl | (simp; done) | (simp [*]; done), by repeat (first | exact Drawn0.refl _ | apply Drawn0.step)⟩
  · replace c4 := Bool.eq_false_iff.mpr c4
    subst c4
    have H1 : (some false) = some r := by rw [if_neg (show ¬ (false = true) by decide)] at H; exact H
    clear H
    have H := H1
    clear H1
    obtain rfl := Option.some.inj H
    go_enter Try.func58, Try.ntmps58
    go_wp2_with (first | ((with_reducible refine gate_callee (f := 71) rfl ?_); refine goesL_ (some 6) rfl rfl Try.func71 (by kernel_rfl) rfl #[.int .i64 a0] rfl (by (try simp only [List.map_toArray, List.map_cons, List.map_nil]); first | done | rfl | (simp only [List.length_drop, List.length_take]; rfl)) ?_; (with_reducible refine (impl_areThings.calls a0 false _ A3.out).mono ?_); rintro e w' ⟨rfl, ⟨nd, rfl⟩⟩; refine ⟨_, rfl, ?_⟩))
    go_ret
    exact ⟨by first | rfl | (simp; done) | (simp [*]; done), by repeat (first | exact Drawn0.refl _ | apply Drawn0.step)⟩

/-! ### impl_isRule: function 51 -/
def impl_isRule.f (a0 : Int) (a1_0 : Int) (a1_1 : Int) : Option (Bool) := (impl_isSet.f a0 a1_0).bind fun t107 => (if t107 = true then ((impl_isSet.f a0 a1_1).bind fun t108 => (if t108 = true then (some (a1_0 != 0)) else (some false))) else (some false))
set_option maxHeartbeats 8000000 in
set_option maxRecDepth 100000 in
theorem impl_isRule.calls (a0 : Int) (a1_0 : Int) (a1_1 : Int) (r : Bool) (w : World) (h : impl_isRule.f a0 a1_0 a1_1 = some r) :
    Calls Try.prog 51 #[.int .i64 a0, .agg #[.int .i64 a1_0, .int .i64 a1_1]] w fun e w' => e = .returned (.bool r) ∧ Below w.heap.size w w' := by
  have hu25 := Try.underlying25
  have HB := Aside0.mk (Below.refl w.heap.size w)
  have H : ((impl_isSet.f a0 a1_0).bind fun t107 => (if t107 = true then ((impl_isSet.f a0 a1_1).bind fun t108 => (if t108 = true then (some (a1_0 != 0)) else (some false))) else (some false))) = some r := h
  clear h
  replace H := Option.bind_eq_some_iff.mp H
  obtain ⟨t107, A30, H⟩ := H
  replace H : (if t107 = true then ((impl_isSet.f a0 a1_1).bind fun t108 => (if t108 = true then (some (a1_0 != 0)) else (some false))) else (some false)) = some r := H
  have A3 := Aside0.mk A30
  clear A30
  by_cases c4 : t107 = true
  · subst c4
    have H1 : ((impl_isSet.f a0 a1_1).bind fun t108 => (if t108 = true then (some (a1_0 != 0)) else (some false))) = some r := by rw [if_pos rfl] at H; exact H
    clear H
    have H := H1
    clear H1
    replace H := Option.bind_eq_some_iff.mp H
    obtain ⟨t108, A50, H⟩ := H
    replace H : (if t108 = true then (some (a1_0 != 0)) else (some false)) = some r := H
    have A5 := Aside0.mk A50
    clear A50
    by_cases c6 : t108 = true
    · subst c6
      have H1 : (some (a1_0 != 0)) = some r := by rw [if_pos rfl] at H; exact H
      clear H
      have H := H1
      clear H1
      obtain rfl := Option.some.inj H
      go_enter Try.func51, Try.ntmps51
      go_wp2_with (first | ((with_reducible refine gate_dst (N := 3) rfl ?_); refine box_event ?hg (N := 3) ?hd (cs := #[.int .i64 a1_0, .int .i64 a1_1]) (t := 25) ?hr ?_; (case hd => rfl); (case hg => rfl); (case hr => first | (go_simp; done) | (go_simp; rfl)); intro gb106 hg w7 hbox hb; have n0_ := Aside0.mk (below_step (by repeat (first | (with_reducible first | exact HB.out | apply below_alloc | apply pw_below_drewN | apply below_drew1) | exact HB.out)) hb); have n1_ := Aside0.mk (hbox); have n2_ := Aside0.mk ((by rw [hg]; exact (below_size (by repeat (first | (with_reducible first | exact HB.out | apply below_alloc | apply pw_below_drewN | apply below_drew1) | exact HB.out))) : w.heap.size ≤ gb106)); have n3_ := Aside0.mk ((by rw [hg]; exact (below_size (by repeat (first | (with_reducible first | exact HB.out | apply below_alloc | apply pw_below_drewN | apply below_drew1) | exact HB.out))) : w.heap.size ≤ gb106)); clear HB; have HB := n0_; have BK106 := n1_; have GW106 := n2_; have GE106 := n3_; clear n0_ n1_ n2_ n3_; clear hb hbox hg; have hcz8_0 : w7.cell? ⟨gb106, 0, none⟩ = some (.int .i64 a1_0) := (blk_cell BK106.out 0).trans rfl; have hcz8_1 : w7.cell? ⟨gb106, 1, none⟩ = some (.int .i64 a1_1) := (blk_cell BK106.out 1).trans rfl; have hfz8_0 := blk_frozen BK106.out 0; have hfz8_1 := blk_frozen BK106.out 1) | ((with_reducible refine gate_callee (f := 58) rfl ?_); refine goesL_ (some 8) rfl rfl Try.func58 (by kernel_rfl) rfl #[.int .i64 a0, .int .i64 a1_0] rfl (by (try simp only [List.map_toArray, List.map_cons, List.map_nil]); first | done | rfl | (simp only [List.length_drop, List.length_take]; rfl)) ?_; (with_reducible refine (impl_isSet.calls a0 a1_0 true _ A3.out).mono ?_); rintro e w' ⟨rfl, ⟨nd, rfl⟩⟩; refine ⟨_, rfl, ?_⟩) | (go_at_call 58; (with_reducible refine (impl_isSet.calls a0 a1_1 true _ A5.out).mono ?_); rintro e w' ⟨rfl, ⟨nd, rfl⟩⟩))
      go_ret
      exact ⟨by first | rfl | (simp [errW_none, errW_some] <;> rfl) | (simp [*, errW_none, errW_some] <;> rfl), by repeat (first | (with_reducible first | exact HB.out | apply below_alloc | apply pw_below_drewN | apply below_drew1 | refine below_set ?_ GE106.out) | exact HB.out)⟩
    · replace c6 := Bool.eq_false_iff.mpr c6
      subst c6
      have H1 : (some false) = some r := by rw [if_neg (show ¬ (false = true) by decide)] at H; exact H
      clear H
      have H := H1
      clear H1
      obtain rfl := Option.some.inj H
      go_enter Try.func51, Try.ntmps51
      go_wp2_with (first | ((with_reducible refine gate_dst (N := 3) rfl ?_); refine box_event ?hg (N := 3) ?hd (cs := #[.int .i64 a1_0, .int .i64 a1_1]) (t := 25) ?hr ?_; (case hd => rfl); (case hg => rfl); (case hr => first | (go_simp; done) | (go_simp; rfl)); intro gb106 hg w9 hbox hb; have n0_ := Aside0.mk (below_step (by repeat (first | (with_reducible first | exact HB.out | apply below_alloc | apply pw_below_drewN | apply below_drew1) | exact HB.out)) hb); have n1_ := Aside0.mk (hbox); have n2_ := Aside0.mk ((by rw [hg]; exact (below_size (by repeat (first | (with_reducible first | exact HB.out | apply below_alloc | apply pw_below_drewN | apply below_drew1) | exact HB.out))) : w.heap.size ≤ gb106)); have n3_ := Aside0.mk ((by rw [hg]; exact (below_size (by repeat (first | (with_reducible first | exact HB.out | apply below_alloc | apply pw_below_drewN | apply below_drew1) | exact HB.out))) : w.heap.size ≤ gb106)); clear HB; have HB := n0_; have BK106 := n1_; have GW106 := n2_; have GE106 := n3_; clear n0_ n1_ n2_ n3_; clear hb hbox hg; have hcz10_0 : w9.cell? ⟨gb106, 0, none⟩ = some (.int .i64 a1_0) := (blk_cell BK106.out 0).trans rfl; have hcz10_1 : w9.cell? ⟨gb106, 1, none⟩ = some (.int .i64 a1_1) := (blk_cell BK106.out 1).trans rfl; have hfz10_0 := blk_frozen BK106.out 0; have hfz10_1 := blk_frozen BK106.out 1) | ((with_reducible refine gate_callee (f := 58) rfl ?_); refine goesL_ (some 8) rfl rfl Try.func58 (by kernel_rfl) rfl #[.int .i64 a0, .int .i64 a1_0] rfl (by (try simp only [List.map_toArray, List.map_cons, List.map_nil]); first | done | rfl | (simp only [List.length_drop, List.length_take]; rfl)) ?_; (with_reducible refine (impl_isSet.calls a0 a1_0 true _ A3.out).mono ?_); rintro e w' ⟨rfl, ⟨nd, rfl⟩⟩; refine ⟨_, rfl, ?_⟩) | (go_at_call 58; (with_reducible refine (impl_isSet.calls a0 a1_1 false _ A5.out).mono ?_); rintro e w' ⟨rfl, ⟨nd, rfl⟩⟩))
      go_ret
      exact ⟨by first | rfl | (simp [errW_none, errW_some] <;> rfl) | (simp [*, errW_none, errW_some] <;> rfl), by repeat (first | (with_reducible first | exact HB.out | apply below_alloc | apply pw_below_drewN | apply below_drew1 | refine below_set ?_ GE106.out) | exact HB.out)⟩
  · replace c4 := Bool.eq_false_iff.mpr c4
    subst c4
    have H1 : (some false) = some r := by rw [if_neg (show ¬ (false = true) by decide)] at H; exact H
    clear H
    have H := H1
    clear H1
    obtain rfl := Option.some.inj H
    go_enter Try.func51, Try.ntmps51
    go_wp2_with (first | ((with_reducible refine gate_dst (N := 3) rfl ?_); refine box_event ?hg (N := 3) ?hd (cs := #[.int .i64 a1_0, .int .i64 a1_1]) (t := 25) ?hr ?_; (case hd => rfl); (case hg => rfl); (case hr => first | (go_simp; done) | (go_simp; rfl)); intro gb106 hg w11 hbox hb; have n0_ := Aside0.mk (below_step (by repeat (first | (with_reducible first | exact HB.out | apply below_alloc | apply pw_below_drewN | apply below_drew1) | exact HB.out)) hb); have n1_ := Aside0.mk (hbox); have n2_ := Aside0.mk ((by rw [hg]; exact (below_size (by repeat (first | (with_reducible first | exact HB.out | apply below_alloc | apply pw_below_drewN | apply below_drew1) | exact HB.out))) : w.heap.size ≤ gb106)); have n3_ := Aside0.mk ((by rw [hg]; exact (below_size (by repeat (first | (with_reducible first | exact HB.out | apply below_alloc | apply pw_below_drewN | apply below_drew1) | exact HB.out))) : w.heap.size ≤ gb106)); clear HB; have HB := n0_; have BK106 := n1_; have GW106 := n2_; have GE106 := n3_; clear n0_ n1_ n2_ n3_; clear hb hbox hg; have hcz12_0 : w11.cell? ⟨gb106, 0, none⟩ = some (.int .i64 a1_0) := (blk_cell BK106.out 0).trans rfl; have hcz12_1 : w11.cell? ⟨gb106, 1, none⟩ = some (.int .i64 a1_1) := (blk_cell BK106.out 1).trans rfl; have hfz12_0 := blk_frozen BK106.out 0; have hfz12_1 := blk_frozen BK106.out 1) | ((with_reducible refine gate_callee (f := 58) rfl ?_); refine goesL_ (some 8) rfl rfl Try.func58 (by kernel_rfl) rfl #[.int .i64 a0, .int .i64 a1_0] rfl (by (try simp only [List.map_toArray, List.map_cons, List.map_nil]); first | done | rfl | (simp only [List.length_drop, List.length_take]; rfl)) ?_; (with_reducible refine (impl_isSet.calls a0 a1_0 false _ A3.out).mono ?_); rintro e w' ⟨rfl, ⟨nd, rfl⟩⟩; refine ⟨_, rfl, ?_⟩))
    go_ret
    exact ⟨by first | rfl | (simp [errW_none, errW_some] <;> rfl) | (simp [*, errW_none, errW_some] <;> rfl), by repeat (first | (with_reducible first | exact HB.out | apply below_alloc | apply pw_below_drewN | apply below_drew1 | refine below_set ?_ GE106.out) | exact HB.out)⟩

/-! ### impl_areRules: function 53, by hand -/
/-- Is a number a set of worlds, for a right number of things? -/
def impl_areRules.set (a0 : Int) (s : Int) : Bool := decide (0 ≤ s ∧ s < 2 ^ 2 ^ a0.toNat)
def impl_areRules.rule (a0 : Int) (r : S25) : Bool := impl_areRules.set a0 r.f0 && impl_areRules.set a0 r.f1 && r.f0 != 0
def impl_areRules.bad (p : Nat → Bool) (n : Nat) : Bool := (List.range n).any p
def impl_areRules.f (a0 : Int) (l1 : List (S25)) : Option (Bool) := if 1 ≤ a0 ∧ a0 ≤ 3 then (if (l1.length : Int) ≤ 6 then some (!impl_areRules.bad (fun j => !impl_areRules.rule a0 (rd_T25 l1 j)) l1.length) else some false) else some false
theorem impl_areRules.isSet {a0 s : Int} (h0 : 1 ≤ a0) (h1 : a0 ≤ 3) : impl_isSet.f a0 s = some (impl_areRules.set a0 s) := by
  unfold impl_isSet.f impl_areThings.f impl_areRules.set
  rw [if_pos h0]
  simp only [Option.bind_some]
  rw [if_pos (by simp; omega)]
  by_cases hs : s ≥ 0
  · rw [if_pos hs]
    unfold impl_allWorlds.f
    rw [if_pos (by omega)]
    simp only [Option.bind_some]
    congr 1
    apply decide_eq_decide.mpr
    generalize (2 : Int) ^ 2 ^ a0.toNat = M
    omega
  · rw [if_neg hs]
    congr 1
    symm
    apply decide_eq_false
    omega
theorem impl_areRules.isRule {a0 x y : Int} (h0 : 1 ≤ a0) (h1 : a0 ≤ 3) : impl_isRule.f a0 x y = some (impl_areRules.rule a0 ⟨x, y⟩) := by
  unfold impl_isRule.f impl_areRules.rule
  rw [impl_areRules.isSet h0 h1, impl_areRules.isSet h0 h1]
  simp only [Option.bind_some]
  cases impl_areRules.set a0 x
  · rfl
  · cases impl_areRules.set a0 y
    · rfl
    · rfl
theorem impl_areRules.any_succ (p : Nat → Bool) (n : Nat) : impl_areRules.bad p (n + 1) = (impl_areRules.bad p n || p n) := by
  unfold impl_areRules.bad
  rw [List.range_succ, List.any_append]
  simp
theorem impl_areRules.any_of (p : Nat → Bool) : ∀ n k, k < n → p k = true → impl_areRules.bad p n = true := by
  intro n k hk hp
  unfold impl_areRules.bad
  rw [List.any_eq_true]
  exact ⟨k, List.mem_range.mpr hk, hp⟩
set_option maxHeartbeats 8000000 in
set_option maxRecDepth 100000 in
theorem impl_areRules.closure (a0 x y : Int) (g1 : Nat) (w : World) (h0 : 1 ≤ a0) (h1 : a0 ≤ 3) (hg1 : w.cell? ⟨g1, 0, none⟩ = some (.int .i64 a0)) :
    Calls Try.prog 73 #[.agg #[.int .i64 x, .int .i64 y], .pointer (some ⟨g1, 0, none⟩)] w fun e w' => e = .returned (.bool (!impl_areRules.rule a0 ⟨x, y⟩)) ∧ Below w.heap.size w w' := by
  have hu := Try.underlying25
  have HC := Aside0.mk (impl_areRules.isRule (x := x) (y := y) h0 h1)
  have hg2 : (w.alloc (.cells #[.int .i64 x, .int .i64 y] 25)).cell? ⟨g1, 0, none⟩ = some (.int .i64 a0) := by
    rw [World.cell?_alloc_past _ _ _ (World.block_lt_of_cell? _ _ hg1)]; exact hg1
  have HB := Aside0.mk (below_alloc (Below.refl w.heap.size w) (.cells #[.int .i64 x, .int .i64 y] 25))
  go_enter Try.func73, Try.ntmps73
  go_wp2_with (first | (go_at_call 51; (with_reducible refine (impl_isRule.calls a0 x y _ _ HC.out).mono ?_); rintro e w1 ⟨rfl, hb⟩))
  go_ret
  exact ⟨rfl, below_then HB.out HB.out.size hb⟩
set_option maxHeartbeats 8000000 in
set_option maxRecDepth 100000 in
theorem impl_areRules.index (A1 : Option Addr) (c1 : Nat) (l1 : List (S25)) (p : Nat → Bool) (g1 : Nat) (w : World) (hr1 : Kd.C k25 w A1 l1.length l1)
    (hcl : ∀ (k : Nat) (W : World), k < l1.length → Below w.heap.size w W → Calls Try.prog 73 #[.agg #[.int .i64 (rd_T25 l1 k).f0, .int .i64 (rd_T25 l1 k).f1], .pointer (some ⟨g1, 0, none⟩)] W fun e w' => e = .returned (.bool (p k)) ∧ Below W.heap.size W w') :
    Calls Try.prog 83 #[.slice A1 l1.length c1, .func (.func 73) #[] #[.pointer (some ⟨g1, 0, none⟩)]] w fun e w' => ∃ i : Int, e = .returned (.int .i64 i) ∧ Aside0 (decide (0 ≤ i) = impl_areRules.bad p l1.length) ∧ Below w.heap.size w w' := by
  have hu := Try.underlying25
  have hm := hr1.2.1
  have HR := Aside0.mk hr1
  have HS := Aside0.mk hcl
  clear hr1 hcl
  go_enter Try.func83, Try.ntmps83
  go_wp2_with (fail)
  go_loopw [8] (fun i wr => ∃ k : Nat, k ≤ l1.length ∧ i = .int .i64 k ∧ Aside0 (impl_areRules.bad p k = false) ∧ Aside0 (Below w.heap.size w wr)) (fun i _ => l1.length - (intOf i).toNat)
  case atStart => exact ⟨0, Nat.zero_le _, rfl, ⟨rfl⟩, ⟨Below.refl _ _⟩⟩
  case round =>
    obtain ⟨k, hk, rfl, HN, HW⟩ := hrel
    by_cases hlt : k < l1.length
    · obtain ⟨ad, e, hx0, hx1⟩ := at_T25 HR.out k (by omega) (by omega)
      cases e
      have HCL := Aside0.mk (HS.out k wr hlt HW.out)
      have hy0 : wr.cell? (ad.add (k * 2)) = some (.int .i64 (rd_T25 l1 k).f0) := (HW.out.cell (World.block_lt_of_cell? w _ hx0)).trans hx0
      have hy1 : wr.cell? ⟨(ad.add (k * 2)).block, (ad.add (k * 2)).off + 1, none⟩ = some (.int .i64 (rd_T25 l1 k).f1) := (HW.out.cell (World.block_lt_of_cell? w _ hx1)).trans hx1
      clear hx0 hx1
      obtain ⟨b, hb⟩ : ∃ b : Bool, p k = b := ⟨_, rfl⟩
      have HBP := Aside0.mk hb
      rw [hb] at HCL
      clear hb
      generalize (rd_T25 l1 k).f0 = x at HCL hy0
      generalize (rd_T25 l1 k).f1 = y at HCL hy1
      cases b
      · go_wp2_with (first | (go_at_call 73; (with_reducible refine HCL.out.mono ?_); rintro e w1 ⟨rfl, hw1⟩; have HW1 := Aside0.mk (below_step HW.out hw1); clear hw1))
        go_roundw
        case rel => exact ⟨k + 1, by omega, by go_num, ⟨by rw [impl_areRules.any_succ, HN.out, HBP.out]; rfl⟩, HW1⟩
        case measure => simp [intOf]; omega
      · go_wp2_with (first | (go_at_call 73; (with_reducible refine HCL.out.mono ?_); rintro e w1 ⟨rfl, hw1⟩; have HW1 := Aside0.mk (below_step HW.out hw1); clear hw1))
        go_ret
        exact ⟨(k : Int), rfl, ⟨by rw [impl_areRules.any_of p _ k hlt HBP.out]; simp⟩, HW1.out⟩
    · go_wp2_with (fail)
      go_ret
      have : k = l1.length := by omega
      subst this
      exact ⟨-1, rfl, ⟨by rw [HN.out]; rfl⟩, HW.out⟩
set_option maxHeartbeats 8000000 in
set_option maxRecDepth 100000 in
theorem impl_areRules.contains (A1 : Option Addr) (c1 : Nat) (l1 : List (S25)) (p : Nat → Bool) (g1 : Nat) (w : World) (hr1 : Kd.C k25 w A1 l1.length l1)
    (hcl : ∀ (k : Nat) (W : World), k < l1.length → Below w.heap.size w W → Calls Try.prog 73 #[.agg #[.int .i64 (rd_T25 l1 k).f0, .int .i64 (rd_T25 l1 k).f1], .pointer (some ⟨g1, 0, none⟩)] W fun e w' => e = .returned (.bool (p k)) ∧ Below W.heap.size W w') :
    Calls Try.prog 72 #[.slice A1 l1.length c1, .func (.func 73) #[] #[.pointer (some ⟨g1, 0, none⟩)]] w fun e w' => e = .returned (.bool (impl_areRules.bad p l1.length)) ∧ Below w.heap.size w w' := by
  have HI := Aside0.mk (impl_areRules.index A1 c1 l1 p g1 w hr1 hcl)
  clear hr1 hcl
  go_enter Try.func72, Try.ntmps72
  go_wp2_with (first | (go_at_call 83; (with_reducible refine HI.out.mono ?_); rintro e w1 ⟨i, rfl, HX, hw1⟩))
  go_ret
  exact ⟨by rw [← HX.out]; rfl, hw1⟩
set_option maxHeartbeats 8000000 in
set_option maxRecDepth 100000 in
theorem impl_areRules.calls (a0 : Int) (A1 : Option Addr) (c1 : Nat) (l1 : List (S25)) (r : Bool) (w : World) (hr1 : Kd.C k25 w A1 l1.length l1) (hc1 : l1.length ≤ c1) (h : impl_areRules.f a0 l1 = some r) :
    Calls Try.prog 53 #[.int .i64 a0, .slice A1 l1.length c1] w fun e w' => e = .returned (.bool r) ∧ Below w.heap.size w w' := by
  have hmf : ∀ (fn : Fn) (first cap : Array Value) (w : World), (Instr.makeFunc fn first cap).run Try.prog w = .ok (.func fn first cap) w := fun _ _ _ _ => rfl
  have hg1 : (w.alloc (.cells #[.int .i64 a0] 3)).cell? ⟨w.heap.size, 0, none⟩ = some (.int .i64 a0) := by
    rw [World.cell?_alloc_at _ _ _ _ rfl]; rfl
  have hm := hr1.2.1
  have HB0 := Aside0.mk (below_alloc (Below.refl w.heap.size w) (.cells #[.int .i64 a0] 3))
  unfold impl_areRules.f at h
  by_cases h1 : 1 ≤ a0 ∧ a0 ≤ 3
  case neg =>
    rw [if_neg h1] at h
    obtain rfl := Option.some.inj h
    have HA := Aside0.mk (show impl_areThings.f a0 = some false by
      unfold impl_areThings.f
      by_cases h : a0 ≥ 1
      · rw [if_pos h]; simp; omega
      · rw [if_neg h])
    clear hr1 h
    go_enter Try.func53, Try.ntmps53
    go_wp2_with (first | (go_at_call 71; (with_reducible refine (impl_areThings.calls a0 _ _ HA.out).mono ?_); rintro e w' ⟨rfl, ⟨nd, rfl⟩⟩))
    repeat (go_quiet (fail); try go_wp2_with (fail))
    go_ret
    exact ⟨rfl, by repeat (first | exact HB0.out | apply below_alloc | apply pw_below_drewN | apply below_drew1)⟩
  rw [if_pos h1] at h
  have HA := Aside0.mk (show impl_areThings.f a0 = some true by
    unfold impl_areThings.f
    rw [if_pos h1.1]; simp; omega)
  by_cases h2 : (l1.length : Int) ≤ 6
  case neg =>
    rw [if_neg h2] at h
    obtain rfl := Option.some.inj h
    have e2 : decide ((l1.length : Int) ≤ 6) = false := decide_eq_false h2
    have e3 : decide (l1.length ≤ 6) = false := decide_eq_false (by omega)
    clear hr1 h
    go_enter Try.func53, Try.ntmps53
    go_wp2_with (first | (go_at_call 71; (with_reducible refine (impl_areThings.calls a0 _ _ HA.out).mono ?_); rintro e w' ⟨rfl, ⟨nd, rfl⟩⟩))
    repeat (go_quiet (fail); try go_wp2_with (fail))
    go_ret
    exact ⟨rfl, by repeat (first | exact HB0.out | apply below_alloc | apply pw_below_drewN | apply below_drew1)⟩
  rw [if_pos h2] at h
  obtain rfl := Option.some.inj h
  have e2 : decide ((l1.length : Int) ≤ 6) = true := decide_eq_true h2
  have e3 : decide (l1.length ≤ 6) = true := decide_eq_true (by omega)
  have hr2 : Kd.C k25 (w.alloc (.cells #[.int .i64 a0] 3)) A1 l1.length l1 := Kd.C_alloc hr1 _
  have HCON := Aside0.mk (fun (nd : Nat) => impl_areRules.contains A1 c1 l1 (fun j => !impl_areRules.rule a0 (rd_T25 l1 j)) w.heap.size ((w.alloc (.cells #[.int .i64 a0] 3)).drewN nd) (Kd.C_drewN hr2 nd) (fun k W hk hd => impl_areRules.closure a0 _ _ _ W h1.1 h1.2 ((hd.cell (World.block_lt_of_cell? _ _ (show ((w.alloc (.cells #[.int .i64 a0] 3)).drewN nd).cell? ⟨w.heap.size, 0, none⟩ = some (.int .i64 a0) from hg1))).trans hg1)))
  clear hr1 hr2 h
  go_enter Try.func53, Try.ntmps53
  go_wp2_with (first | (go_at_call 71; (with_reducible refine (impl_areThings.calls a0 _ _ HA.out).mono ?_); rintro e w' ⟨rfl, ⟨nd, rfl⟩⟩) | (go_at_call 72; (with_reducible refine (HCON.out _).mono ?_); rintro e w' ⟨rfl, hb⟩; have HB9 := Aside0.mk (below_then (pw_below_drewN HB0.out nd) (by simp) hb); clear hb))
  go_ret
  exact ⟨rfl, by repeat (first | exact HB9.out | apply below_alloc | apply pw_below_drewN | apply below_drew1)⟩

end Go.Proofs.Ytflaacdhifgpoaa.T

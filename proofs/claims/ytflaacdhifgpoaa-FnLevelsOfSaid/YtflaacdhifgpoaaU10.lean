/- Contracts of functions of the program: whatever a function's pure reading answers, the call returns. Printed by a program of this session (the kit's print, with contracts by hand beside it). Conditions: those of each theorem. -/
import Derived.Test.YtflaacdhifgpoaaU0
import Derived.Test.YtflaacdhifgpoaaU1
import Derived.Test.YtflaacdhifgpoaaU2
namespace Go.Proofs.Ytflaacdhifgpoaa.U
open Go.Proofs.BelM
open Go.RowKit Go.Proofs.YtflaacdhifgpoaaW.PrintWords Go.Proofs.YtflaacdhifgpoaaW.PrintLast Go.Proofs.YtflaacdhifgpoaaW.PrintMore
attribute [local go_sem] max2_int min2_int max_two min_two max_three min_three max_four min_four   -- for this text's walks alone
set_option linter.unusedVariables false
set_option linter.unusedSimpArgs false

/-! ### impl_areRules: function 53, by hand -/
/-- Is a number a set of worlds, for a right number of things? -/
def impl_areRules.set (a0 : Int) (s : Int) : Bool := decide (0 ≤ s ∧ s < 2 ^ 2 ^ a0.toNat)
def impl_areRules.rule (a0 : Int) (r : S25) : Bool := impl_areRules.set a0 r.f0 && impl_areRules.set a0 r.f1 && r.f0 != 0
def impl_areRules.bad (p : Nat → Bool) (n : Nat) : Bool := (List.range n).any p
def impl_areRules.f (a0 : Int) (l1 : List (S25)) : Option (Bool) := if 1 ≤ a0 ∧ a0 ≤ 3 then (if (l1.length : Int) ≤ 6 then some (!impl_areRules.bad (fun j => !impl_areRules.rule a0 (rd_T25 l1 j)) l1.length) else some false) else some false
theorem impl_areRules.isSet {a0 s : Int} (h0 : 1 ≤ a0) (h1 : a0 ≤ 3) : impl_isSet.f a0 s = some (impl_areRules.set a0 s) := by
  unfold impl_isSet.f impl_areThings.f impl_areRules.set
  rw [if_pos h0]
  simp only [Option.bind_some]
  rw [if_pos (by simp; omega)]
  by_cases hs : s ≥ 0
  · rw [if_pos hs]
    unfold impl_allWorlds.f
    rw [if_pos (by omega)]
    simp only [Option.bind_some]
    congr 1
    apply decide_eq_decide.mpr
    generalize (2 : Int) ^ 2 ^ a0.toNat = M
    omega
  · rw [if_neg hs]
    congr 1
    symm
    apply decide_eq_false
    omega
theorem impl_areRules.isRule {a0 x y : Int} (h0 : 1 ≤ a0) (h1 : a0 ≤ 3) : impl_isRule.f a0 x y = some (impl_areRules.rule a0 ⟨x, y⟩) := by
  unfold impl_isRule.f impl_areRules.rule
  rw [impl_areRules.isSet h0 h1, impl_areRules.isSet h0 h1]
  simp only [Option.bind_some]
  cases impl_areRules.set a0 x
  · rfl
  · cases impl_areRules.set a0 y
    · rfl
    · rfl
theorem impl_areRules.any_succ (p : Nat → Bool) (n : Nat) : impl_areRules.bad p (n + 1) = (impl_areRules.bad p n || p n) := by
  unfold impl_areRules.bad
  rw [List.range_succ, List.any_append]
  simp
theorem impl_areRules.any_of (p : Nat → Bool) : ∀ n k, k < n → p k = true → impl_areRules.bad p n = true := by
  intro n k hk hp
  unfold impl_areRules.bad
  rw [List.any_eq_true]
  exact ⟨k, List.mem_range.mpr hk, hp⟩
set_option maxHeartbeats 8000000 in
set_option maxRecDepth 100000 in
theorem impl_areRules.closure (a0 x y : Int) (g1 : Nat) (w : World) (h0 : 1 ≤ a0) (h1 : a0 ≤ 3) (hg1 : w.cell? ⟨g1, 0, none⟩ = some (.int .i64 a0)) :
    Calls Try.prog 73 #[.agg #[.int .i64 x, .int .i64 y], .pointer (some ⟨g1, 0, none⟩)] w fun e w' => e = .returned (.bool (!impl_areRules.rule a0 ⟨x, y⟩)) ∧ Below w.heap.size w w' := by
  have hu := Try.underlying25
  have HC := Aside0.mk (impl_areRules.isRule (x := x) (y := y) h0 h1)
  have hg2 : (w.alloc (.cells #[.int .i64 x, .int .i64 y] 25)).cell? ⟨g1, 0, none⟩ = some (.int .i64 a0) := by
    rw [World.cell?_alloc_past _ _ _ (World.block_lt_of_cell? _ _ hg1)]; exact hg1
  have HB := Aside0.mk (below_alloc (Below.refl w.heap.size w) (.cells #[.int .i64 x, .int .i64 y] 25))
  go_enter Try.func73, Try.ntmps73
  go_wp2_with (first | (go_at_call 51; (with_reducible refine (impl_isRule.calls a0 x y _ _ HC.out).mono ?_); rintro e w1 ⟨rfl, hb⟩))
  go_ret
  exact ⟨rfl, below_then HB.out HB.out.size hb⟩
set_option maxHeartbeats 8000000 in
set_option maxRecDepth 100000 in
theorem impl_areRules.index (A1 : Option Addr) (c1 : Nat) (l1 : List (S25)) (p : Nat → Bool) (g1 : Nat) (w : World) (hr1 : Kd.C k25 w A1 l1.length l1)
    (hcl : ∀ (k : Nat) (W : World), k < l1.length → Below w.heap.size w W → Calls Try.prog 73 #[.agg #[.int .i64 (rd_T25 l1 k).f0, .int .i64 (rd_T25 l1 k).f1], .pointer (some ⟨g1, 0, none⟩)] W fun e w' => e = .returned (.bool (p k)) ∧ Below W.heap.size W w') :
    Calls Try.prog 83 #[.slice A1 l1.length c1, .func (.func 73) #[] #[.pointer (some ⟨g1, 0, none⟩)]] w fun e w' => ∃ i : Int, e = .returned (.int .i64 i) ∧ Aside0 (decide (0 ≤ i) = impl_areRules.bad p l1.length) ∧ Below w.heap.size w w' := by
  have hu := Try.underlying25
  have hm := hr1.2.1
  have HR := Aside0.mk hr1
  have HS := Aside0.mk hcl
  clear hr1 hcl
  go_enter Try.func83, Try.ntmps83
  go_wp2_with (fail)
  go_loopw [8] (fun i wr => ∃ k : Nat, k ≤ l1.length ∧ i = .int .i64 k ∧ Aside0 (impl_areRules.bad p k = false) ∧ Aside0 (Below w.heap.size w wr)) (fun i _ => l1.length - (intOf i).toNat)
  case atStart => exact ⟨0, Nat.zero_le _, rfl, ⟨rfl⟩, ⟨Below.refl _ _⟩⟩
  case round =>
    obtain ⟨k, hk, rfl, HN, HW⟩ := hrel
    by_cases hlt : k < l1.length
    · obtain ⟨ad, e, hx0, hx1⟩ := at_T25 HR.out k (by omega) (by omega)
      cases e
      have HCL := Aside0.mk (HS.out k wr hlt HW.out)
      have hy0 : wr.cell? (ad.add (k * 2)) = some (.int .i64 (rd_T25 l1 k).f0) := (HW.out.cell (World.block_lt_of_cell? w _ hx0)).trans hx0
      have hy1 : wr.cell? ⟨(ad.add (k * 2)).block, (ad.add (k * 2)).off + 1, none⟩ = some (.int .i64 (rd_T25 l1 k).f1) := (HW.out.cell (World.block_lt_of_cell? w _ hx1)).trans hx1
      clear hx0 hx1
      obtain ⟨b, hb⟩ : ∃ b : Bool, p k = b := ⟨_, rfl⟩
      have HBP := Aside0.mk hb
      rw [hb] at HCL
      clear hb
      generalize (rd_T25 l1 k).f0 = x at HCL hy0
      generalize (rd_T25 l1 k).f1 = y at HCL hy1
      cases b
      · go_wp2_with (first | (go_at_call 73; (with_reducible refine HCL.out.mono ?_); rintro e w1 ⟨rfl, hw1⟩; have HW1 := Aside0.mk (below_step HW.out hw1); clear hw1))
        go_roundw
        case rel => exact ⟨k + 1, by omega, by go_num, ⟨by rw [impl_areRules.any_succ, HN.out, HBP.out]; rfl⟩, HW1⟩
        case measure => simp [intOf]; omega
      · go_wp2_with (first | (go_at_call 73; (with_reducible refine HCL.out.mono ?_); rintro e w1 ⟨rfl, hw1⟩; have HW1 := Aside0.mk (below_step HW.out hw1); clear hw1))
        go_ret
        exact ⟨(k : Int), rfl, ⟨by rw [impl_areRules.any_of p _ k hlt HBP.out]; simp⟩, HW1.out⟩
    · go_wp2_with (fail)
      go_ret
      have : k = l1.length := by omega
      subst this
      exact ⟨-1, rfl, ⟨by rw [HN.out]; rfl⟩, HW.out⟩
set_option maxHeartbeats 8000000 in
set_option maxRecDepth 100000 in
theorem impl_areRules.contains (A1 : Option Addr) (c1 : Nat) (l1 : List (S25)) (p : Nat → Bool) (g1 : Nat) (w : World) (hr1 : Kd.C k25 w A1 l1.length l1)
    (hcl : ∀ (k : Nat) (W : World), k < l1.length → Below w.heap.size w W → Calls Try.prog 73 #[.agg #[.int .i64 (rd_T25 l1 k).f0, .int .i64 (rd_T25 l1 k).f1], .pointer (some ⟨g1, 0, none⟩)] W fun e w' => e = .returned (.bool (p k)) ∧ Below W.heap.size W w') :
    Calls Try.prog 72 #[.slice A1 l1.length c1, .func (.func 73) #[] #[.pointer (some ⟨g1, 0, none⟩)]] w fun e w' => e = .returned (.bool (impl_areRules.bad p l1.length)) ∧ Below w.heap.size w w' := by
  have HI := Aside0.mk (impl_areRules.index A1 c1 l1 p g1 w hr1 hcl)
  clear hr1 hcl
  go_enter Try.func72, Try.ntmps72
  go_wp2_with (first | (go_at_call 83; (with_reducible refine HI.out.mono ?_); rintro e w1 ⟨i, rfl, HX, hw1⟩))
  go_ret
  exact ⟨by rw [← HX.out]; rfl, hw1⟩
set_option maxHeartbeats 8000000 in
set_option maxRecDepth 100000 in
theorem impl_areRules.calls (a0 : Int) (A1 : Option Addr) (c1 : Nat) (l1 : List (S25)) (r : Bool) (w : World) (hr1 : Kd.C k25 w A1 l1.length l1) (hc1 : l1.length ≤ c1) (h : impl_areRules.f a0 l1 = some r) :
    Calls Try.prog 53 #[.int .i64 a0, .slice A1 l1.length c1] w fun e w' => e = .returned (.bool r) ∧ Below w.heap.size w w' := by
  have hmf : ∀ (fn : Fn) (first cap : Array Value) (w : World), (Instr.makeFunc fn first cap).run Try.prog w = .ok (.func fn first cap) w := fun _ _ _ _ => rfl
  have hg1 : (w.alloc (.cells #[.int .i64 a0] 3)).cell? ⟨w.heap.size, 0, none⟩ = some (.int .i64 a0) := by
    rw [World.cell?_alloc_at _ _ _ _ rfl]; rfl
  have hm := hr1.2.1
  have HB0 := Aside0.mk (below_alloc (Below.refl w.heap.size w) (.cells #[.int .i64 a0] 3))
  unfold impl_areRules.f at h
  by_cases h1 : 1 ≤ a0 ∧ a0 ≤ 3
  case neg =>
    rw [if_neg h1] at h
    obtain rfl := Option.some.inj h
    have HA := Aside0.mk (show impl_areThings.f a0 = some false by
      unfold impl_areThings.f
      by_cases h : a0 ≥ 1
      · rw [if_pos h]; simp; omega
      · rw [if_neg h])
    clear hr1 h
    go_enter Try.func53, Try.ntmps53
    go_wp2_with (first | (go_at_call 71; (with_reducible refine (impl_areThings.calls a0 _ _ HA.out).mono ?_); rintro e w' ⟨rfl, ⟨nd, rfl⟩⟩))
    repeat (go_quiet (fail); try go_wp2_with (fail))
    go_ret
    exact ⟨rfl, by repeat (first | exact HB0.out | apply below_alloc | apply pw_below_drewN | apply below_drew1)⟩
  rw [if_pos h1] at h
  have HA := Aside0.mk (show impl_areThings.f a0 = some true by
    unfold impl_areThings.f
    rw [if_pos h1.1]; simp; omega)
  by_cases h2 : (l1.length : Int) ≤ 6
  case neg =>
    rw [if_neg h2] at h
    obtain rfl := Option.some.inj h
    have e2 : decide ((l1.length : Int) ≤ 6) = false := decide_eq_false h2
    have e3 : decide (l1.length ≤ 6) = false := decide_eq_false (by omega)
    clear hr1 h
    go_enter Try.func53, Try.ntmps53
    go_wp2_with (first | (go_at_call 71; (with_reducible refine (impl_areThings.calls a0 _ _ HA.out).mono ?_); rintro e w' ⟨rfl, ⟨nd, rfl⟩⟩))
    repeat (go_quiet (fail); try go_wp2_with (fail))
    go_ret
    exact ⟨rfl, by repeat (first | exact HB0.out | apply below_alloc | apply pw_below_drewN | apply below_drew1)⟩
  rw [if_pos h2] at h
  obtain rfl := Option.some.inj h
  have e2 : decide ((l1.length : Int) ≤ 6) = true := decide_eq_true h2
  have e3 : decide (l1.length ≤ 6) = true := decide_eq_true (by omega)
  have hr2 : Kd.C k25 (w.alloc (.cells #[.int .i64 a0] 3)) A1 l1.length l1 := Kd.C_alloc hr1 _
  have HCON := Aside0.mk (fun (nd : Nat) => impl_areRules.contains A1 c1 l1 (fun j => !impl_areRules.rule a0 (rd_T25 l1 j)) w.heap.size ((w.alloc (.cells #[.int .i64 a0] 3)).drewN nd) (Kd.C_drewN hr2 nd) (fun k W hk hd => impl_areRules.closure a0 _ _ _ W h1.1 h1.2 ((hd.cell (World.block_lt_of_cell? _ _ (show ((w.alloc (.cells #[.int .i64 a0] 3)).drewN nd).cell? ⟨w.heap.size, 0, none⟩ = some (.int .i64 a0) from hg1))).trans hg1)))
  clear hr1 hr2 h
  go_enter Try.func53, Try.ntmps53
  go_wp2_with (first | (go_at_call 71; (with_reducible refine (impl_areThings.calls a0 _ _ HA.out).mono ?_); rintro e w' ⟨rfl, ⟨nd, rfl⟩⟩) | (go_at_call 72; (with_reducible refine (HCON.out _).mono ?_); rintro e w' ⟨rfl, hb⟩; have HB9 := Aside0.mk (below_then (pw_below_drewN HB0.out nd) (by simp) hb); clear hb))
  go_ret
  exact ⟨rfl, by repeat (first | exact HB9.out | apply below_alloc | apply pw_below_drewN | apply below_drew1)⟩

end Go.Proofs.Ytflaacdhifgpoaa.U

/- Contracts of functions of the program: whatever a function's pure reading answers, the call returns. Printed by a program of this session (the kit's print, with contracts by hand beside it). Conditions: those of each theorem. -/
import Derived.Test.YtfleephpcomimaaU0
import Derived.Test.YtfleephpcomimaaU4
import Derived.Test.YtfleephpcomimaaU5
namespace Go.Proofs.Ytfleephpcomimaa.U
open Go.Proofs.BelM
open Go.RowKit Go.Proofs.YtfleephpcomimaaW.PrintWords Go.Proofs.YtfleephpcomimaaW.PrintLast Go.Proofs.YtfleephpcomimaaW.PrintMore
attribute [local go_sem] max2_int min2_int max_two min_two max_three min_three max_four min_four   -- for this text's walks alone
set_option linter.unusedVariables false
set_option linter.unusedSimpArgs false

/-! ### spec_RuleHolds: function 33 -/
mutual
def spec_RuleHolds.j0 : Nat → Int → List Int → List Int → Int → Bool → Option (Bool)
  | 0, _, _, _, _, _ => none
  | k + 1, x1, x2, x3, x4, x37 => if x37 = true then (some false) else (spec_RuleHolds.l0 k x1 x2 x3 x4 0)
def spec_RuleHolds.l0 : Nat → Int → List Int → List Int → Int → Int → Option (Bool)
  | 0, _, _, _, _, _ => none
  | k + 1, x1, x2, x3, x4, x11 => if x11 < (x2.length : Int) then (spec_RuleHolds.l1 k x1 x2 x3 x4 x11 0) else (some true)
def spec_RuleHolds.l1 : Nat → Int → List Int → List Int → Int → Int → Int → Option (Bool)
  | 0, _, _, _, _, _, _ => none
  | k + 1, x1, x2, x3, x4, x11, x12 => if x12 < (x2.length : Int) then ((spec_l1Bit.f x4 x11).bind fun t338 => ((spec_l1Bit.f x4 x12).bind fun t339 => (if 0 ≤ x11 then (if x11 < (x2.length : Int) then (if 0 ≤ x12 then (if x11 < (x3.length : Int) then (if x12 < (x3.length : Int) then (if x1 = 1 then (if t338 = 1 then (if t339 = 1 then (spec_RuleHolds.j3 k x1 x2 x3 x4 x11 x12 (t338 == 1) (t339 == 1) (decide ((rd x2 x11) < (rd x2 x12))) (decide ((rd x3 x11) < (rd x3 x12))) ((decide ((rd x2 x11) < (rd x2 x12))) != (decide ((rd x3 x11) < (rd x3 x12))))) else (spec_RuleHolds.j3 k x1 x2 x3 x4 x11 x12 (t338 == 1) (t339 == 1) (decide ((rd x2 x11) < (rd x2 x12))) (decide ((rd x3 x11) < (rd x3 x12))) false)) else (spec_RuleHolds.j3 k x1 x2 x3 x4 x11 x12 (t338 == 1) (t339 == 1) (decide ((rd x2 x11) < (rd x2 x12))) (decide ((rd x3 x11) < (rd x3 x12))) false)) else (spec_RuleHolds.j3 k x1 x2 x3 x4 x11 x12 (t338 == 1) (t339 == 1) (decide ((rd x2 x11) < (rd x2 x12))) (decide ((rd x3 x11) < (rd x3 x12))) false)) else (none)) else (none)) else (none)) else (none)) else (none)))) else (spec_RuleHolds.l0 k x1 x2 x3 x4 (wrap64 (x11 + 1)))
def spec_RuleHolds.j3 : Nat → Int → List Int → List Int → Int → Int → Int → Bool → Bool → Bool → Bool → Bool → Option (Bool)
  | 0, _, _, _, _, _, _, _, _, _, _, _ => none
  | k + 1, x1, x2, x3, x4, x11, x12, x13, x14, x15, x16, x76 => if x76 = true then (some false) else (if x1 = 2 then (if x13 = true then (spec_RuleHolds.j4 k x1 x2 x3 x4 x11 x12 x13 x14 x15 x16 false) else (if x14 = true then (spec_RuleHolds.j4 k x1 x2 x3 x4 x11 x12 x13 x14 x15 x16 false) else (spec_RuleHolds.j4 k x1 x2 x3 x4 x11 x12 x13 x14 x15 x16 (x15 != x16)))) else (spec_RuleHolds.j4 k x1 x2 x3 x4 x11 x12 x13 x14 x15 x16 false))
def spec_RuleHolds.j4 : Nat → Int → List Int → List Int → Int → Int → Int → Bool → Bool → Bool → Bool → Bool → Option (Bool)
  | 0, _, _, _, _, _, _, _, _, _, _, _ => none
  | k + 1, x1, x2, x3, x4, x11, x12, x13, x14, x15, x16, x90 => if x90 = true then (some false) else (if x1 = 3 then (if x13 = true then (if x14 = true then (spec_RuleHolds.j5 k x1 x2 x3 x4 x11 x12 x13 x14 false) else (if x15 = true then (spec_RuleHolds.j5 k x1 x2 x3 x4 x11 x12 x13 x14 (!x16)) else (spec_RuleHolds.j5 k x1 x2 x3 x4 x11 x12 x13 x14 false))) else (spec_RuleHolds.j5 k x1 x2 x3 x4 x11 x12 x13 x14 false)) else (spec_RuleHolds.j5 k x1 x2 x3 x4 x11 x12 x13 x14 false))
def spec_RuleHolds.j5 : Nat → Int → List Int → List Int → Int → Int → Int → Bool → Bool → Bool → Option (Bool)
  | 0, _, _, _, _, _, _, _, _, _ => none
  | k + 1, x1, x2, x3, x4, x11, x12, x13, x14, x106 => if x106 = true then (some false) else (if x1 = 4 then (if x13 = true then (if x14 = true then (spec_RuleHolds.l1 k x1 x2 x3 x4 x11 (wrap64 (x12 + 1))) else (if 0 ≤ x12 then (if x12 < (x2.length : Int) then (if 0 ≤ x11 then (if x11 < (x2.length : Int) then (if (rd x2 x12) ≥ (rd x2 x11) then (if x12 < (x3.length : Int) then (if x11 < (x3.length : Int) then (if (rd x3 x12) < (rd x3 x11) then (some false) else (spec_RuleHolds.l1 k x1 x2 x3 x4 x11 (wrap64 (x12 + 1)))) else (none)) else (none)) else (spec_RuleHolds.l1 k x1 x2 x3 x4 x11 (wrap64 (x12 + 1)))) else (none)) else (none)) else (none)) else (none))) else (spec_RuleHolds.l1 k x1 x2 x3 x4 x11 (wrap64 (x12 + 1)))) else (spec_RuleHolds.l1 k x1 x2 x3 x4 x11 (wrap64 (x12 + 1))))
end
def spec_RuleHolds.f (k : Nat) (a0 : Int) (a1 : Int) (l2 : List Int) (l3 : List Int) (a4 : Int) : Option (Bool) := (spec_RankOk.f k a0 l2).bind fun t334 => (if t334 = true then ((spec_RankOk.f k a0 l3).bind fun t335 => (if t335 = true then ((spec_SetOk.f a0 a4).bind fun t336 => (if t336 = true then ((spec_l1In.f a1 1 4).bind fun t337 => (spec_RuleHolds.j0 k a1 l2 l3 a4 (!t337))) else (spec_RuleHolds.j0 k a1 l2 l3 a4 true))) else (spec_RuleHolds.j0 k a1 l2 l3 a4 true))) else (spec_RuleHolds.j0 k a1 l2 l3 a4 true))
theorem spec_RuleHolds.mono_l : ∀ k, (∀ y0 y1 y2 y3 y4, LeO (spec_RuleHolds.j0 k y0 y1 y2 y3 y4) (spec_RuleHolds.j0 (k + 1) y0 y1 y2 y3 y4)) ∧ (∀ y0 y1 y2 y3 y4, LeO (spec_RuleHolds.l0 k y0 y1 y2 y3 y4) (spec_RuleHolds.l0 (k + 1) y0 y1 y2 y3 y4)) ∧ (∀ y0 y1 y2 y3 y4 y5, LeO (spec_RuleHolds.l1 k y0 y1 y2 y3 y4 y5) (spec_RuleHolds.l1 (k + 1) y0 y1 y2 y3 y4 y5)) ∧ (∀ y0 y1 y2 y3 y4 y5 y6 y7 y8 y9 y10, LeO (spec_RuleHolds.j3 k y0 y1 y2 y3 y4 y5 y6 y7 y8 y9 y10) (spec_RuleHolds.j3 (k + 1) y0 y1 y2 y3 y4 y5 y6 y7 y8 y9 y10)) ∧ (∀ y0 y1 y2 y3 y4 y5 y6 y7 y8 y9 y10, LeO (spec_RuleHolds.j4 k y0 y1 y2 y3 y4 y5 y6 y7 y8 y9 y10) (spec_RuleHolds.j4 (k + 1) y0 y1 y2 y3 y4 y5 y6 y7 y8 y9 y10)) ∧ (∀ y0 y1 y2 y3 y4 y5 y6 y7 y8, LeO (spec_RuleHolds.j5 k y0 y1 y2 y3 y4 y5 y6 y7 y8) (spec_RuleHolds.j5 (k + 1) y0 y1 y2 y3 y4 y5 y6 y7 y8))
  | 0 => ⟨fun _ _ _ _ _ r h => by simp [spec_RuleHolds.j0] at h, fun _ _ _ _ _ r h => by simp [spec_RuleHolds.l0] at h, fun _ _ _ _ _ _ r h => by simp [spec_RuleHolds.l1] at h, fun _ _ _ _ _ _ _ _ _ _ _ r h => by simp [spec_RuleHolds.j3] at h, fun _ _ _ _ _ _ _ _ _ _ _ r h => by simp [spec_RuleHolds.j4] at h, fun _ _ _ _ _ _ _ _ _ r h => by simp [spec_RuleHolds.j5] at h⟩
  | k + 1 => by
    obtain ⟨ih0, ih1, ih2, ih3, ih4, ih5⟩ := spec_RuleHolds.mono_l k
    refine ⟨?_, ?_, ?_, ?_, ?_, ?_⟩
    · intro y0 y1 y2 y3 y4
      unfold spec_RuleHolds.j0
      repeat' first
      | (with_reducible exact ih0 _ _ _ _ _)
      | (with_reducible exact ih1 _ _ _ _ _)
      | (with_reducible exact ih2 _ _ _ _ _ _)
      | (with_reducible exact ih3 _ _ _ _ _ _ _ _ _ _ _)
      | (with_reducible exact ih4 _ _ _ _ _ _ _ _ _ _ _)
      | (with_reducible exact ih5 _ _ _ _ _ _ _ _ _)
      | (with_reducible exact spec_RankOk.mono _ _ _)
      | (with_reducible exact LeO.refl _)
      | (with_reducible exact LeO.none _)
      | (with_reducible refine LeO.ite ?_ ?_)
      | (with_reducible refine LeO.bind ?_ (fun _ => ?_))
      | exact ih0 _ _ _ _ _
      | exact ih1 _ _ _ _ _
      | exact ih2 _ _ _ _ _ _
      | exact ih3 _ _ _ _ _ _ _ _ _ _ _
      | exact ih4 _ _ _ _ _ _ _ _ _ _ _
      | exact ih5 _ _ _ _ _ _ _ _ _
      | exact spec_RankOk.mono _ _ _
      | exact LeO.none _
      | refine LeO.ite ?_ ?_
      | refine LeO.bind ?_ (fun _ => ?_)
    · intro y0 y1 y2 y3 y4
      unfold spec_RuleHolds.l0
      repeat' first
      | (with_reducible exact ih0 _ _ _ _ _)
      | (with_reducible exact ih1 _ _ _ _ _)
      | (with_reducible exact ih2 _ _ _ _ _ _)
      | (with_reducible exact ih3 _ _ _ _ _ _ _ _ _ _ _)
      | (with_reducible exact ih4 _ _ _ _ _ _ _ _ _ _ _)
      | (with_reducible exact ih5 _ _ _ _ _ _ _ _ _)
      | (with_reducible exact spec_RankOk.mono _ _ _)
      | (with_reducible exact LeO.refl _)
      | (with_reducible exact LeO.none _)
      | (with_reducible refine LeO.ite ?_ ?_)
      | (with_reducible refine LeO.bind ?_ (fun _ => ?_))
      | exact ih0 _ _ _ _ _
      | exact ih1 _ _ _ _ _
      | exact ih2 _ _ _ _ _ _
      | exact ih3 _ _ _ _ _ _ _ _ _ _ _
      | exact ih4 _ _ _ _ _ _ _ _ _ _ _
      | exact ih5 _ _ _ _ _ _ _ _ _
      | exact spec_RankOk.mono _ _ _
      | exact LeO.none _
      | refine LeO.ite ?_ ?_
      | refine LeO.bind ?_ (fun _ => ?_)
    · intro y0 y1 y2 y3 y4 y5
      unfold spec_RuleHolds.l1
      repeat' first
      | (with_reducible exact ih0 _ _ _ _ _)
      | (with_reducible exact ih1 _ _ _ _ _)
      | (with_reducible exact ih2 _ _ _ _ _ _)
      | (with_reducible exact ih3 _ _ _ _ _ _ _ _ _ _ _)
      | (with_reducible exact ih4 _ _ _ _ _ _ _ _ _ _ _)
      | (with_reducible exact ih5 _ _ _ _ _ _ _ _ _)
      | (with_reducible exact spec_RankOk.mono _ _ _)
      | (with_reducible exact LeO.refl _)
      | (with_reducible exact LeO.none _)
      | (with_reducible refine LeO.ite ?_ ?_)
      | (with_reducible refine LeO.bind ?_ (fun _ => ?_))
      | exact ih0 _ _ _ _ _
      | exact ih1 _ _ _ _ _
      | exact ih2 _ _ _ _ _ _
      | exact ih3 _ _ _ _ _ _ _ _ _ _ _
      | exact ih4 _ _ _ _ _ _ _ _ _ _ _
      | exact ih5 _ _ _ _ _ _ _ _ _
      | exact spec_RankOk.mono _ _ _
      | exact LeO.none _
      | refine LeO.ite ?_ ?_
      | refine LeO.bind ?_ (fun _ => ?_)
    · intro y0 y1 y2 y3 y4 y5 y6 y7 y8 y9 y10
      unfold spec_RuleHolds.j3
      repeat' first
      | (with_reducible exact ih0 _ _ _ _ _)
      | (with_reducible exact ih1 _ _ _ _ _)
      | (with_reducible exact ih2 _ _ _ _ _ _)
      | (with_reducible exact ih3 _ _ _ _ _ _ _ _ _ _ _)
      | (with_reducible exact ih4 _ _ _ _ _ _ _ _ _ _ _)
      | (with_reducible exact ih5 _ _ _ _ _ _ _ _ _)
      | (with_reducible exact spec_RankOk.mono _ _ _)
      | (with_reducible exact LeO.refl _)
      | (with_reducible exact LeO.none _)
      | (with_reducible refine LeO.ite ?_ ?_)
      | (with_reducible refine LeO.bind ?_ (fun _ => ?_))
      | exact ih0 _ _ _ _ _
      | exact ih1 _ _ _ _ _
      | exact ih2 _ _ _ _ _ _
      | exact ih3 _ _ _ _ _ _ _ _ _ _ _
      | exact ih4 _ _ _ _ _ _ _ _ _ _ _
      | exact ih5 _ _ _ _ _ _ _ _ _
      | exact spec_RankOk.mono _ _ _
      | exact LeO.none _
      | refine LeO.ite ?_ ?_
      | refine LeO.bind ?_ (fun _ => ?_)
    · intro y0 y1 y2 y3 y4 y5 y6 y7 y8 y9 y10
      unfold spec_RuleHolds.j4
      repeat' first
      | (with_reducible exact ih0 _ _ _ _ _)
      | (with_reducible exact ih1 _ _ _ _ _)
      | (with_reducible exact ih2 _ _ _ _ _ _)
      | (with_reducible exact ih3 _ _ _ _ _ _ _ _ _ _ _)
      | (with_reducible exact ih4 _ _ _ _ _ _ _ _ _ _ _)
      | (with_reducible exact ih5 _ _ _ _ _ _ _ _ _)
      | (with_reducible exact spec_RankOk.mono _ _ _)
      | (with_reducible exact LeO.refl _)
      | (with_reducible exact LeO.none _)
      | (with_reducible refine LeO.ite ?_ ?_)
      | (with_reducible refine LeO.bind ?_ (fun _ => ?_))
      | exact ih0 _ _ _ _ _
      | exact ih1 _ _ _ _ _
      | exact ih2 _ _ _ _ _ _
      | exact ih3 _ _ _ _ _ _ _ _ _ _ _
      | exact ih4 _ _ _ _ _ _ _ _ _ _ _
      | exact ih5 _ _ _ _ _ _ _ _ _
      | exact spec_RankOk.mono _ _ _
      | exact LeO.none _
      | refine LeO.ite ?_ ?_
      | refine LeO.bind ?_ (fun _ => ?_)
    · intro y0 y1 y2 y3 y4 y5 y6 y7 y8
      unfold spec_RuleHolds.j5
      repeat' first
      | (with_reducible exact ih0 _ _ _ _ _)
      | (with_reducible exact ih1 _ _ _ _ _)
      | (with_reducible exact ih2 _ _ _ _ _ _)
      | (with_reducible exact ih3 _ _ _ _ _ _ _ _ _ _ _)
      | (with_reducible exact ih4 _ _ _ _ _ _ _ _ _ _ _)
      | (with_reducible exact ih5 _ _ _ _ _ _ _ _ _)
      | (with_reducible exact spec_RankOk.mono _ _ _)
      | (with_reducible exact LeO.refl _)
      | (with_reducible exact LeO.none _)
      | (with_reducible refine LeO.ite ?_ ?_)
      | (with_reducible refine LeO.bind ?_ (fun _ => ?_))
      | exact ih0 _ _ _ _ _
      | exact ih1 _ _ _ _ _
      | exact ih2 _ _ _ _ _ _
      | exact ih3 _ _ _ _ _ _ _ _ _ _ _
      | exact ih4 _ _ _ _ _ _ _ _ _ _ _
      | exact ih5 _ _ _ _ _ _ _ _ _
      | exact spec_RankOk.mono _ _ _
      | exact LeO.none _
      | refine LeO.ite ?_ ?_
      | refine LeO.bind ?_ (fun _ => ?_)
theorem spec_RuleHolds.mono : ∀ a0 a1 a2 a3 a4 k, LeO (spec_RuleHolds.f k a0 a1 a2 a3 a4) (spec_RuleHolds.f (k + 1) a0 a1 a2 a3 a4) := by
  intro a0 a1 a2 a3 a4 k
  obtain ⟨ih0, ih1, ih2, ih3, ih4, ih5⟩ := spec_RuleHolds.mono_l k
  unfold spec_RuleHolds.f
  repeat' first
      | (with_reducible exact ih0 _ _ _ _ _)
      | (with_reducible exact ih1 _ _ _ _ _)
      | (with_reducible exact ih2 _ _ _ _ _ _)
      | (with_reducible exact ih3 _ _ _ _ _ _ _ _ _ _ _)
      | (with_reducible exact ih4 _ _ _ _ _ _ _ _ _ _ _)
      | (with_reducible exact ih5 _ _ _ _ _ _ _ _ _)
      | (with_reducible exact spec_RankOk.mono _ _ _)
      | (with_reducible exact LeO.refl _)
      | (with_reducible exact LeO.none _)
      | (with_reducible refine LeO.ite ?_ ?_)
      | (with_reducible refine LeO.bind ?_ (fun _ => ?_))
      | exact ih0 _ _ _ _ _
      | exact ih1 _ _ _ _ _
      | exact ih2 _ _ _ _ _ _
      | exact ih3 _ _ _ _ _ _ _ _ _ _ _
      | exact ih4 _ _ _ _ _ _ _ _ _ _ _
      | exact ih5 _ _ _ _ _ _ _ _ _
      | exact spec_RankOk.mono _ _ _
      | exact LeO.none _
      | refine LeO.ite ?_ ?_
      | refine LeO.bind ?_ (fun _ => ?_)
set_option maxHeartbeats 8000000 in
set_option maxRecDepth 100000 in
theorem spec_RuleHolds.calls (k : Nat) (a0 : Int) (a1 : Int) (A2 : Option Addr) (c2 : Nat) (l2 : List Int) (A3 : Option Addr) (c3 : Nat) (l3 : List Int) (a4 : Int) (r : Bool) (w : World) (hr2 : Kd.C (Kd.int .i64) w A2 l2.length l2) (hc2 : l2.length ≤ c2) (hr3 : Kd.C (Kd.int .i64) w A3 l3.length l3) (hc3 : l3.length ≤ c3) (h : spec_RuleHolds.f k a0 a1 l2 l3 a4 = some r) :
    Calls Try.prog 33 #[.int .i64 a0, .int .i64 a1, .slice A2 l2.length c2, .slice A3 l3.length c3, .int .i64 a4] w fun e w' => e = .returned (.bool r) ∧ Below w.heap.size w w' := by
  have HR2 := Aside0.mk hr2
  have HC2 := Aside0.mk hc2
  clear hr2 hc2
  have HR3 := Aside0.mk hr3
  have HC3 := Aside0.mk hc3
  clear hr3 hc3
  have HB := Aside0.mk (Below.refl w.heap.size w)
  have H : ((spec_RankOk.f k a0 l2).bind fun t334 => (if t334 = true then ((spec_RankOk.f k a0 l3).bind fun t335 => (if t335 = true then ((spec_SetOk.f a0 a4).bind fun t336 => (if t336 = true then ((spec_l1In.f a1 1 4).bind fun t337 => (spec_RuleHolds.j0 k a1 l2 l3 a4 (!t337))) else (spec_RuleHolds.j0 k a1 l2 l3 a4 true))) else (spec_RuleHolds.j0 k a1 l2 l3 a4 true))) else (spec_RuleHolds.j0 k a1 l2 l3 a4 true))) = some r := h
  clear h
  have HC6 := Aside0.mk H
  clear H
  go_enter Try.func33, Try.ntmps33
  go_upto_region 1 with (fail)
  repeat (go_quiet (fail); go_upto_region 1 with (fail))
  go_cut [37] (fun v37 wc => ∃ (kq : Nat) (x37_5 : Bool), v37 = .bool x37_5 ∧ Aside0 (spec_RuleHolds.j0 kq a1 l2 l3 a4 x37_5 = some r) ∧ Aside0 (kq ≤ k) ∧ Aside0 (Below w.heap.size w wc))
  case first =>
    have H := HC6.out
    clear HC6
    replace H := Option.bind_eq_some_iff.mp H
    obtain ⟨t334, A70, H⟩ := H
    replace H : (if t334 = true then ((spec_RankOk.f k a0 l3).bind fun t335 => (if t335 = true then ((spec_SetOk.f a0 a4).bind fun t336 => (if t336 = true then ((spec_l1In.f a1 1 4).bind fun t337 => (spec_RuleHolds.j0 k a1 l2 l3 a4 (!t337))) else (spec_RuleHolds.j0 k a1 l2 l3 a4 true))) else (spec_RuleHolds.j0 k a1 l2 l3 a4 true))) else (spec_RuleHolds.j0 k a1 l2 l3 a4 true)) = some r := H
    have A7 := Aside0.mk A70
    clear A70
    by_cases c8 : t334 = true
    · subst c8
      have H1 : ((spec_RankOk.f k a0 l3).bind fun t335 => (if t335 = true then ((spec_SetOk.f a0 a4).bind fun t336 => (if t336 = true then ((spec_l1In.f a1 1 4).bind fun t337 => (spec_RuleHolds.j0 k a1 l2 l3 a4 (!t337))) else (spec_RuleHolds.j0 k a1 l2 l3 a4 true))) else (spec_RuleHolds.j0 k a1 l2 l3 a4 true))) = some r := by rw [if_pos rfl] at H; exact H
      clear H
      have H := H1
      clear H1
      replace H := Option.bind_eq_some_iff.mp H
      obtain ⟨t335, A90, H⟩ := H
      replace H : (if t335 = true then ((spec_SetOk.f a0 a4).bind fun t336 => (if t336 = true then ((spec_l1In.f a1 1 4).bind fun t337 => (spec_RuleHolds.j0 k a1 l2 l3 a4 (!t337))) else (spec_RuleHolds.j0 k a1 l2 l3 a4 true))) else (spec_RuleHolds.j0 k a1 l2 l3 a4 true)) = some r := H
      have A9 := Aside0.mk A90
      clear A90
      by_cases c10 : t335 = true
      · subst c10
        have H1 : ((spec_SetOk.f a0 a4).bind fun t336 => (if t336 = true then ((spec_l1In.f a1 1 4).bind fun t337 => (spec_RuleHolds.j0 k a1 l2 l3 a4 (!t337))) else (spec_RuleHolds.j0 k a1 l2 l3 a4 true))) = some r := by rw [if_pos rfl] at H; exact H
        clear H
        have H := H1
        clear H1
        replace H := Option.bind_eq_some_iff.mp H
        obtain ⟨t336, A110, H⟩ := H
        replace H : (if t336 = true then ((spec_l1In.f a1 1 4).bind fun t337 => (spec_RuleHolds.j0 k a1 l2 l3 a4 (!t337))) else (spec_RuleHolds.j0 k a1 l2 l3 a4 true)) = some r := H
        have A11 := Aside0.mk A110
        clear A110
        by_cases c12 : t336 = true
        · subst c12
          have H1 : ((spec_l1In.f a1 1 4).bind fun t337 => (spec_RuleHolds.j0 k a1 l2 l3 a4 (!t337))) = some r := by rw [if_pos rfl] at H; exact H
          clear H
          have H := H1
          clear H1
          replace H := Option.bind_eq_some_iff.mp H
          obtain ⟨t337, A130, H⟩ := H
          replace H : (spec_RuleHolds.j0 k a1 l2 l3 a4 (!t337)) = some r := H
          have A13 := Aside0.mk A130
          clear A130
          have H' := Aside0.mk H
          clear H
          go_wp2_with (first | (go_at_call 34; (with_reducible refine (spec_RankOk.calls k a0 _ _ l2 true _ ?side1 ?side2 A7.out).mono ?_); (case side1 => repeat (first | exact (Kd.C_below HR2.out HB.out) | (with_reducible refine Kd.C_alloc ?_ _) | (with_reducible refine Kd.C_drewN ?_ _) | (with_reducible refine Kd.C_drew ?_))); (case side2 => exact HC2.out); rintro e w14 ⟨rfl, hb⟩; have n0_ := Aside0.mk (below_step (by repeat (first | (with_reducible first | exact HB.out | apply below_alloc | apply pw_below_drewN | apply below_drew1) | exact HB.out)) hb); clear HB; have HB := n0_; clear n0_; (try clear hb); (try clear hb2); (try clear hk); (try clear hi)) | (go_at_call 34; (with_reducible refine (spec_RankOk.calls k a0 _ _ l3 true _ ?side1 ?side2 A9.out).mono ?_); (case side1 => repeat (first | exact (Kd.C_below HR3.out HB.out) | (with_reducible refine Kd.C_alloc ?_ _) | (with_reducible refine Kd.C_drewN ?_ _) | (with_reducible refine Kd.C_drew ?_))); (case side2 => exact HC3.out); rintro e w15 ⟨rfl, hb⟩; have n0_ := Aside0.mk (below_step (by repeat (first | (with_reducible first | exact HB.out | apply below_alloc | apply pw_below_drewN | apply below_drew1) | exact HB.out)) hb); clear HB; have HB := n0_; clear n0_; (try clear hb); (try clear hb2); (try clear hk); (try clear hi)) | (go_at_call 35; (with_reducible refine (spec_SetOk.calls a0 a4 true _ A11.out).mono ?_); rintro e w' ⟨rfl, ⟨nd, rfl⟩⟩; (try first | exact ⟨rfl, _, World.drewN_drewN _ _ _⟩ | exact ⟨rfl, _, Eq.trans (World.drewN_drewN _ _ _) (congrArg (World.drewN _) (Nat.add_assoc _ _ _))⟩)) | (go_at_call 50; (with_reducible refine (spec_l1In.calls a1 1 4 t337 _ A13.out).mono ?_); rintro e w' ⟨rfl, ⟨nd, rfl⟩⟩; (try first | exact ⟨rfl, _, World.drewN_drewN _ _ _⟩ | exact ⟨rfl, _, Eq.trans (World.drewN_drewN _ _ _) (congrArg (World.drewN _) (Nat.add_assoc _ _ _))⟩)))
          repeat (go_quiet (first | (go_at_call 34; (with_reducible refine (spec_RankOk.calls k a0 _ _ l2 true _ ?side1 ?side2 A7.out).mono ?_); (case side1 => repeat (first | exact (Kd.C_below HR2.out HB.out) | (with_reducible refine Kd.C_alloc ?_ _) | (with_reducible refine Kd.C_drewN ?_ _) | (with_reducible refine Kd.C_drew ?_))); (case side2 => exact HC2.out); rintro e w14 ⟨rfl, hb⟩; have n0_ := Aside0.mk (below_step (by repeat (first | (with_reducible first | exact HB.out | apply below_alloc | apply pw_below_drewN | apply below_drew1) | exact HB.out)) hb); clear HB; have HB := n0_; clear n0_; (try clear hb); (try clear hb2); (try clear hk); (try clear hi)) | (go_at_call 34; (with_reducible refine (spec_RankOk.calls k a0 _ _ l3 true _ ?side1 ?side2 A9.out).mono ?_); (case side1 => repeat (first | exact (Kd.C_below HR3.out HB.out) | (with_reducible refine Kd.C_alloc ?_ _) | (with_reducible refine Kd.C_drewN ?_ _) | (with_reducible refine Kd.C_drew ?_))); (case side2 => exact HC3.out); rintro e w15 ⟨rfl, hb⟩; have n0_ := Aside0.mk (below_step (by repeat (first | (with_reducible first | exact HB.out | apply below_alloc | apply pw_below_drewN | apply below_drew1) | exact HB.out)) hb); clear HB; have HB := n0_; clear n0_; (try clear hb); (try clear hb2); (try clear hk); (try clear hi)) | (go_at_call 35; (with_reducible refine (spec_SetOk.calls a0 a4 true _ A11.out).mono ?_); rintro e w' ⟨rfl, ⟨nd, rfl⟩⟩; (try first | exact ⟨rfl, _, World.drewN_drewN _ _ _⟩ | exact ⟨rfl, _, Eq.trans (World.drewN_drewN _ _ _) (congrArg (World.drewN _) (Nat.add_assoc _ _ _))⟩)) | (go_at_call 50; (with_reducible refine (spec_l1In.calls a1 1 4 t337 _ A13.out).mono ?_); rintro e w' ⟨rfl, ⟨nd, rfl⟩⟩; (try first | exact ⟨rfl, _, World.drewN_drewN _ _ _⟩ | exact ⟨rfl, _, Eq.trans (World.drewN_drewN _ _ _) (congrArg (World.drewN _) (Nat.add_assoc _ _ _))⟩))); try go_wp2_with (first | (go_at_call 34; (with_reducible refine (spec_RankOk.calls k a0 _ _ l2 true _ ?side1 ?side2 A7.out).mono ?_); (case side1 => repeat (first | exact (Kd.C_below HR2.out HB.out) | (with_reducible refine Kd.C_alloc ?_ _) | (with_reducible refine Kd.C_drewN ?_ _) | (with_reducible refine Kd.C_drew ?_))); (case side2 => exact HC2.out); rintro e w14 ⟨rfl, hb⟩; have n0_ := Aside0.mk (below_step (by repeat (first | (with_reducible first | exact HB.out | apply below_alloc | apply pw_below_drewN | apply below_drew1) | exact HB.out)) hb); clear HB; have HB := n0_; clear n0_; (try clear hb); (try clear hb2); (try clear hk); (try clear hi)) | (go_at_call 34; (with_reducible refine (spec_RankOk.calls k a0 _ _ l3 true _ ?side1 ?side2 A9.out).mono ?_); (case side1 => repeat (first | exact (Kd.C_below HR3.out HB.out) | (with_reducible refine Kd.C_alloc ?_ _) | (with_reducible refine Kd.C_drewN ?_ _) | (with_reducible refine Kd.C_drew ?_))); (case side2 => exact HC3.out); rintro e w15 ⟨rfl, hb⟩; have n0_ := Aside0.mk (below_step (by repeat (first | (with_reducible first | exact HB.out | apply below_alloc | apply pw_below_drewN | apply below_drew1) | exact HB.out)) hb); clear HB; have HB := n0_; clear n0_; (try clear hb); (try clear hb2); (try clear hk); (try clear hi)) | (go_at_call 35; (with_reducible refine (spec_SetOk.calls a0 a4 true _ A11.out).mono ?_); rintro e w' ⟨rfl, ⟨nd, rfl⟩⟩; (try first | exact ⟨rfl, _, World.drewN_drewN _ _ _⟩ | exact ⟨rfl, _, Eq.trans (World.drewN_drewN _ _ _) (congrArg (World.drewN _) (Nat.add_assoc _ _ _))⟩)) | (go_at_call 50; (with_reducible refine (spec_l1In.calls a1 1 4 t337 _ A13.out).mono ?_); rintro e w' ⟨rfl, ⟨nd, rfl⟩⟩; (try first | exact ⟨rfl, _, World.drewN_drewN _ _ _⟩ | exact ⟨rfl, _, Eq.trans (World.drewN_drewN _ _ _) (congrArg (World.drewN _) (Nat.add_assoc _ _ _))⟩))))
          go_meet
          case rel => exact ⟨_, (!t337), (by first | rfl | (simp; done) | (simp [*]; done)), H', ⟨by first | omega | exact Nat.le_refl _⟩, ⟨by repeat (first | (with_reducible first | exact HB.out | apply below_alloc | apply pw_below_drewN | apply below_drew1) | exact HB.out)⟩⟩
        · replace c12 := Bool.eq_false_iff.mpr c12
          subst c12
          have H1 : (spec_RuleHolds.j0 k a1 l2 l3 a4 true) = some r := by rw [if_neg (show ¬ (false = true) by decide)] at H; exact H
          clear H
          have H := H1
          clear H1
          have H' := Aside0.mk H
          clear H
          go_wp2_with (first | (go_at_call 34; (with_reducible refine (spec_RankOk.calls k a0 _ _ l2 true _ ?side1 ?side2 A7.out).mono ?_); (case side1 => repeat (first | exact (Kd.C_below HR2.out HB.out) | (with_reducible refine Kd.C_alloc ?_ _) | (with_reducible refine Kd.C_drewN ?_ _) | (with_reducible refine Kd.C_drew ?_))); (case side2 => exact HC2.out); rintro e w16 ⟨rfl, hb⟩; have n0_ := Aside0.mk (below_step (by repeat (first | (with_reducible first | exact HB.out | apply below_alloc | apply pw_below_drewN | apply below_drew1) | exact HB.out)) hb); clear HB; have HB := n0_; clear n0_; (try clear hb); (try clear hb2); (try clear hk); (try clear hi)) | (go_at_call 34; (with_reducible refine (spec_RankOk.calls k a0 _ _ l3 true _ ?side1 ?side2 A9.out).mono ?_); (case side1 => repeat (first | exact (Kd.C_below HR3.out HB.out) | (with_reducible refine Kd.C_alloc ?_ _) | (with_reducible refine Kd.C_drewN ?_ _) | (with_reducible refine Kd.C_drew ?_))); (case side2 => exact HC3.out); rintro e w17 ⟨rfl, hb⟩; have n0_ := Aside0.mk (below_step (by repeat (first | (with_reducible first | exact HB.out | apply below_alloc | apply pw_below_drewN | apply below_drew1) | exact HB.out)) hb); clear HB; have HB := n0_; clear n0_; (try clear hb); (try clear hb2); (try clear hk); (try clear hi)) | (go_at_call 35; (with_reducible refine (spec_SetOk.calls a0 a4 false _ A11.out).mono ?_); rintro e w' ⟨rfl, ⟨nd, rfl⟩⟩; (try first | exact ⟨rfl, _, World.drewN_drewN _ _ _⟩ | exact ⟨rfl, _, Eq.trans (World.drewN_drewN _ _ _) (congrArg (World.drewN _) (Nat.add_assoc _ _ _))⟩)))
          repeat (go_quiet (first | (go_at_call 34; (with_reducible refine (spec_RankOk.calls k a0 _ _ l2 true _ ?side1 ?side2 A7.out).mono ?_); (case side1 => repeat (first | exact (Kd.C_below HR2.out HB.out) | (with_reducible refine Kd.C_alloc ?_ _) | (with_reducible refine Kd.C_drewN ?_ _) | (with_reducible refine Kd.C_drew ?_))); (case side2 => exact HC2.out); rintro e w16 ⟨rfl, hb⟩; have n0_ := Aside0.mk (below_step (by repeat (first | (with_reducible first | exact HB.out | apply below_alloc | apply pw_below_drewN | apply below_drew1) | exact HB.out)) hb); clear HB; have HB := n0_; clear n0_; (try clear hb); (try clear hb2); (try clear hk); (try clear hi)) | (go_at_call 34; (with_reducible refine (spec_RankOk.calls k a0 _ _ l3 true _ ?side1 ?side2 A9.out).mono ?_); (case side1 => repeat (first | exact (Kd.C_below HR3.out HB.out) | (with_reducible refine Kd.C_alloc ?_ _) | (with_reducible refine Kd.C_drewN ?_ _) | (with_reducible refine Kd.C_drew ?_))); (case side2 => exact HC3.out); rintro e w17 ⟨rfl, hb⟩; have n0_ := Aside0.mk (below_step (by repeat (first | (with_reducible first | exact HB.out | apply below_alloc | apply pw_below_drewN | apply below_drew1) | exact HB.out)) hb); clear HB; have HB := n0_; clear n0_; (try clear hb); (try clear hb2); (try clear hk); (try clear hi)) | (go_at_call 35; (with_reducible refine (spec_SetOk.calls a0 a4 false _ A11.out).mono ?_); rintro e w' ⟨rfl, ⟨nd, rfl⟩⟩; (try first | exact ⟨rfl, _, World.drewN_drewN _ _ _⟩ | exact ⟨rfl, _, Eq.trans (World.drewN_drewN _ _ _) (congrArg (World.drewN _) (Nat.add_assoc _ _ _))⟩))); try go_wp2_with (first | (go_at_call 34; (with_reducible refine (spec_RankOk.calls k a0 _ _ l2 true _ ?side1 ?side2 A7.out).mono ?_); (case side1 => repeat (first | exact (Kd.C_below HR2.out HB.out) | (with_reducible refine Kd.C_alloc ?_ _) | (with_reducible refine Kd.C_drewN ?_ _) | (with_reducible refine Kd.C_drew ?_))); (case side2 => exact HC2.out); rintro e w16 ⟨rfl, hb⟩; have n0_ := Aside0.mk (below_step (by repeat (first | (with_reducible first | exact HB.out | apply below_alloc | apply pw_below_drewN | apply below_drew1) | exact HB.out)) hb); clear HB; have HB := n0_; clear n0_; (try clear hb); (try clear hb2); (try clear hk); (try clear hi)) | (go_at_call 34; (with_reducible refine (spec_RankOk.calls k a0 _ _ l3 true _ ?side1 ?side2 A9.out).mono ?_); (case side1 => repeat (first | exact (Kd.C_below HR3.out HB.out) | (with_reducible refine Kd.C_alloc ?_ _) | (with_reducible refine Kd.C_drewN ?_ _) | (with_reducible refine Kd.C_drew ?_))); (case side2 => exact HC3.out); rintro e w17 ⟨rfl, hb⟩; have n0_ := Aside0.mk (below_step (by repeat (first | (with_reducible first | exact HB.out | apply below_alloc | apply pw_below_drewN | apply below_drew1) | exact HB.out)) hb); clear HB; have HB := n0_; clear n0_; (try clear hb); (try clear hb2); (try clear hk); (try clear hi)) | (go_at_call 35; (with_reducible refine (spec_SetOk.calls a0 a4 false _ A11.out).mono ?_); rintro e w' ⟨rfl, ⟨nd, rfl⟩⟩; (try first | exact ⟨rfl, _, World.drewN_drewN _ _ _⟩ | exact ⟨rfl, _, Eq.trans (World.drewN_drewN _ _ _) (congrArg (World.drewN _) (Nat.add_assoc _ _ _))⟩))))
          go_meet
          case rel => exact ⟨_, (true), (by first | rfl | (simp; done) | (simp [*]; done)), H', ⟨by first | omega | exact Nat.le_refl _⟩, ⟨by repeat (first | (with_reducible first | exact HB.out | apply below_alloc | apply pw_below_drewN | apply below_drew1) | exact HB.out)⟩⟩
      · replace c10 := Bool.eq_false_iff.mpr c10
        subst c10
        have H1 : (spec_RuleHolds.j0 k a1 l2 l3 a4 true) = some r := by rw [if_neg (show ¬ (false = true) by decide)] at H; exact H
        clear H
        have H := H1
        clear H1
        have H' := Aside0.mk H
        clear H
        go_wp2_with (first | (go_at_call 34; (with_reducible refine (spec_RankOk.calls k a0 _ _ l2 true _ ?side1 ?side2 A7.out).mono ?_); (case side1 => repeat (first | exact (Kd.C_below HR2.out HB.out) | (with_reducible refine Kd.C_alloc ?_ _) | (with_reducible refine Kd.C_drewN ?_ _) | (with_reducible refine Kd.C_drew ?_))); (case side2 => exact HC2.out); rintro e w18 ⟨rfl, hb⟩; have n0_ := Aside0.mk (below_step (by repeat (first | (with_reducible first | exact HB.out | apply below_alloc | apply pw_below_drewN | apply below_drew1) | exact HB.out)) hb); clear HB; have HB := n0_; clear n0_; (try clear hb); (try clear hb2); (try clear hk); (try clear hi)) | (go_at_call 34; (with_reducible refine (spec_RankOk.calls k a0 _ _ l3 false _ ?side1 ?side2 A9.out).mono ?_); (case side1 => repeat (first | exact (Kd.C_below HR3.out HB.out) | (with_reducible refine Kd.C_alloc ?_ _) | (with_reducible refine Kd.C_drewN ?_ _) | (with_reducible refine Kd.C_drew ?_))); (case side2 => exact HC3.out); rintro e w19 ⟨rfl, hb⟩; have n0_ := Aside0.mk (below_step (by repeat (first | (with_reducible first | exact HB.out | apply below_alloc | apply pw_below_drewN | apply below_drew1) | exact HB.out)) hb); clear HB; have HB := n0_; clear n0_; (try clear hb); (try clear hb2); (try clear hk); (try clear hi)))
        repeat (go_quiet (first | (go_at_call 34; (with_reducible refine (spec_RankOk.calls k a0 _ _ l2 true _ ?side1 ?side2 A7.out).mono ?_); (case side1 => repeat (first | exact (Kd.C_below HR2.out HB.out) | (with_reducible refine Kd.C_alloc ?_ _) | (with_reducible refine Kd.C_drewN ?_ _) | (with_reducible refine Kd.C_drew ?_))); (case side2 => exact HC2.out); rintro e w18 ⟨rfl, hb⟩; have n0_ := Aside0.mk (below_step (by repeat (first | (with_reducible first | exact HB.out | apply below_alloc | apply pw_below_drewN | apply below_drew1) | exact HB.out)) hb); clear HB; have HB := n0_; clear n0_; (try clear hb); (try clear hb2); (try clear hk); (try clear hi)) | (go_at_call 34; (with_reducible refine (spec_RankOk.calls k a0 _ _ l3 false _ ?side1 ?side2 A9.out).mono ?_); (case side1 => repeat (first | exact (Kd.C_below HR3.out HB.out) | (with_reducible refine Kd.C_alloc ?_ _) | (with_reducible refine Kd.C_drewN ?_ _) | (with_reducible refine Kd.C_drew ?_))); (case side2 => exact HC3.out); rintro e w19 ⟨rfl, hb⟩; have n0_ := Aside0.mk (below_step (by repeat (first | (with_reducible first | exact HB.out | apply below_alloc | apply pw_below_drewN | apply below_drew1) | exact HB.out)) hb); clear HB; have HB := n0_; clear n0_; (try clear hb); (try clear hb2); (try clear hk); (try clear hi))); try go_wp2_with (first | (go_at_call 34; (with_reducible refine (spec_RankOk.calls k a0 _ _ l2 true _ ?side1 ?side2 A7.out).mono ?_); (case side1 => repeat (first | exact (Kd.C_below HR2.out HB.out) | (with_reducible refine Kd.C_alloc ?_ _) | (with_reducible refine Kd.C_drewN ?_ _) | (with_reducible refine Kd.C_drew ?_))); (case side2 => exact HC2.out); rintro e w18 ⟨rfl, hb⟩; have n0_ := Aside0.mk (below_step (by repeat (first | (with_reducible first | exact HB.out | apply below_alloc | apply pw_below_drewN | apply below_drew1) | exact HB.out)) hb); clear HB; have HB := n0_; clear n0_; (try clear hb); (try clear hb2); (try clear hk); (try clear hi)) | (go_at_call 34; (with_reducible refine (spec_RankOk.calls k a0 _ _ l3 false _ ?side1 ?side2 A9.out).mono ?_); (case side1 => repeat (first | exact (Kd.C_below HR3.out HB.out) | (with_reducible refine Kd.C_alloc ?_ _) | (with_reducible refine Kd.C_drewN ?_ _) | (with_reducible refine Kd.C_drew ?_))); (case side2 => exact HC3.out); rintro e w19 ⟨rfl, hb⟩; have n0_ := Aside0.mk (below_step (by repeat (first | (with_reducible first | exact HB.out | apply below_alloc | apply pw_below_drewN | apply below_drew1) | exact HB.out)) hb); clear HB; have HB := n0_; clear n0_; (try clear hb); (try clear hb2); (try clear hk); (try clear hi))))
        go_meet
        case rel => exact ⟨_, (true), (by first | rfl | (simp; done) | (simp [*]; done)), H', ⟨by first | omega | exact Nat.le_refl _⟩, ⟨by repeat (first | (with_reducible first | exact HB.out | apply below_alloc | apply pw_below_drewN | apply below_drew1) | exact HB.out)⟩⟩
    · replace c8 := Bool.eq_false_iff.mpr c8
      subst c8
      have H1 : (spec_RuleHolds.j0 k a1 l2 l3 a4 true) = some r := by rw [if_neg (show ¬ (false = true) by decide)] at H; exact H
      clear H
      have H := H1
      clear H1
      have H' := Aside0.mk H
      clear H
      go_wp2_with (first | (go_at_call 34; (with_reducible refine (spec_RankOk.calls k a0 _ _ l2 false _ ?side1 ?side2 A7.out).mono ?_); (case side1 => repeat (first | exact (Kd.C_below HR2.out HB.out) | (with_reducible refine Kd.C_alloc ?_ _) | (with_reducible refine Kd.C_drewN ?_ _) | (with_reducible refine Kd.C_drew ?_))); (case side2 => exact HC2.out); rintro e w20 ⟨rfl, hb⟩; have n0_ := Aside0.mk (below_step (by repeat (first | (with_reducible first | exact HB.out | apply below_alloc | apply pw_below_drewN | apply below_drew1) | exact HB.out)) hb); clear HB; have HB := n0_; clear n0_; (try clear hb); (try clear hb2); (try clear hk); (try clear hi)))
      repeat (go_quiet (first | (go_at_call 34; (with_reducible refine (spec_RankOk.calls k a0 _ _ l2 false _ ?side1 ?side2 A7.out).mono ?_); (case side1 => repeat (first | exact (Kd.C_below HR2.out HB.out) | (with_reducible refine Kd.C_alloc ?_ _) | (with_reducible refine Kd.C_drewN ?_ _) | (with_reducible refine Kd.C_drew ?_))); (case side2 => exact HC2.out); rintro e w20 ⟨rfl, hb⟩; have n0_ := Aside0.mk (below_step (by repeat (first | (with_reducible first | exact HB.out | apply below_alloc | apply pw_below_drewN | apply below_drew1) | exact HB.out)) hb); clear HB; have HB := n0_; clear n0_; (try clear hb); (try clear hb2); (try clear hk); (try clear hi))); try go_wp2_with (first | (go_at_call 34; (with_reducible refine (spec_RankOk.calls k a0 _ _ l2 false _ ?side1 ?side2 A7.out).mono ?_); (case side1 => repeat (first | exact (Kd.C_below HR2.out HB.out) | (with_reducible refine Kd.C_alloc ?_ _) | (with_reducible refine Kd.C_drewN ?_ _) | (with_reducible refine Kd.C_drew ?_))); (case side2 => exact HC2.out); rintro e w20 ⟨rfl, hb⟩; have n0_ := Aside0.mk (below_step (by repeat (first | (with_reducible first | exact HB.out | apply below_alloc | apply pw_below_drewN | apply below_drew1) | exact HB.out)) hb); clear HB; have HB := n0_; clear n0_; (try clear hb); (try clear hb2); (try clear hk); (try clear hi))))
      go_meet
      case rel => exact ⟨_, (true), (by first | rfl | (simp; done) | (simp [*]; done)), H', ⟨by first | omega | exact Nat.le_refl _⟩, ⟨by repeat (first | (with_reducible first | exact HB.out | apply below_alloc | apply pw_below_drewN | apply below_drew1) | exact HB.out)⟩⟩
  case rest =>
    clear HC6
    try clear c1
    try clear c2
    try clear p2
    try clear c3
    try clear c8
    try clear c10
    try clear c12
    obtain ⟨kq, x37_5, rfl, HA, HJ5, HB⟩ := hcut
    cases kq with
    | zero => exact absurd HA.out (by simp [spec_RuleHolds.j0])
    | succ kj5 =>
      have H := HA.out
      clear HA
      simp only [spec_RuleHolds.j0] at H
      by_cases c21 : x37_5 = true
      · subst c21
        have H1 : (some false) = some r := by rw [if_pos rfl] at H; exact H
        clear H
        have H := H1
        clear H1
        obtain rfl := Option.some.inj H
        go_wp2
        repeat (go_quiet (fail); try go_wp2)
        go_ret
        exact ⟨by first | rfl | (simp [errW_none, errW_some] <;> rfl) | (simp [*, errW_none, errW_some] <;> rfl), by repeat (first | (with_reducible first | exact HB.out | apply below_alloc | apply pw_below_drewN | apply below_drew1) | exact HB.out)⟩
      · replace c21 := Bool.eq_false_iff.mpr c21
        subst c21
        have H1 : (spec_RuleHolds.l0 kj5 a1 l2 l3 a4 0) = some r := by rw [if_neg (show ¬ (false = true) by decide)] at H; exact H
        clear H
        have H := H1
        clear H1
        have H' := Aside0.mk H
        clear H
        go_wp2
        repeat (go_quiet (fail); try go_wp2)
        go_loopg [11] kj5 (fun kq v11 w' => ∃ (x11_2 : Int), v11 = .int .i64 x11_2 ∧ Aside0 (spec_RuleHolds.l0 kq a1 l2 l3 a4 x11_2 = some r) ∧ Aside0 (kq ≤ kj5) ∧ Aside0 (Below w.heap.size w w'))
        case atStart => exact ⟨(0), (by first | rfl | (simp; done) | (simp [*]; done)), H', ⟨Nat.le_refl _⟩, ⟨by repeat (first | (with_reducible first | exact HB.out | apply below_alloc | apply pw_below_drewN | apply below_drew1) | exact HB.out)⟩⟩
        case round =>
          clear H'
          try clear c1
          try clear c2
          try clear p2
          try clear c3
          try clear c8
          try clear c10
          try clear c12
          try clear c21
          try clear p2
          obtain ⟨x11_2, rfl, HA, HK2, HB⟩ := hrel
          cases gk with
          | zero => exact absurd HA.out (by simp [spec_RuleHolds.l0])
          | succ k2 =>
            have H := HA.out
            clear HA
            simp only [spec_RuleHolds.l0] at H
            by_cases c22 : x11_2 < (l2.length : Int)
            · rw [if_pos c22] at H
              have c22b0 : decide (x11_2 < (l2.length : Int)) = true := decide_eq_true c22
              clear c22
              have H' := Aside0.mk H
              clear H
              go_wp2
              repeat (go_quiet (fail); try go_wp2)
              go_loopg [12] k2 (fun kq v12 w' => ∃ (x12_3 : Int), v12 = .int .i64 x12_3 ∧ Aside0 (spec_RuleHolds.l1 kq a1 l2 l3 a4 x11_2 x12_3 = some r) ∧ Aside0 (kq ≤ k2) ∧ Aside0 (Below w.heap.size w w'))
              case atStart => exact ⟨(0), (by first | rfl | (simp; done) | (simp [*]; done)), H', ⟨Nat.le_refl _⟩, ⟨by repeat (first | (with_reducible first | exact HB.out | apply below_alloc | apply pw_below_drewN | apply below_drew1) | exact HB.out)⟩⟩
              case round =>
                clear H'
                try clear c1
                try clear c2
                try clear p2
                try clear c3
                try clear c8
                try clear c10
                try clear c12
                try clear c21
                try clear c22
                try clear c22b0
                try clear p2
                obtain ⟨x12_3, rfl, HA, HK3, HB⟩ := hrel
                cases gk with
                | zero => exact absurd HA.out (by simp [spec_RuleHolds.l1])
                | succ k3 =>
                  have H := HA.out
                  clear HA
                  simp only [spec_RuleHolds.l1] at H
                  by_cases c23 : x12_3 < (l2.length : Int)
                  · rw [if_pos c23] at H
                    have c23b0 : decide (x12_3 < (l2.length : Int)) = true := decide_eq_true c23
                    clear c23
                    replace H := Option.bind_eq_some_iff.mp H
                    obtain ⟨t338, A240, H⟩ := H
                    replace H : ((spec_l1Bit.f a4 x12_3).bind fun t339 => (if 0 ≤ x11_2 then (if x11_2 < (l2.length : Int) then (if 0 ≤ x12_3 then (if x11_2 < (l3.length : Int) then (if x12_3 < (l3.length : Int) then (if a1 = 1 then (if t338 = 1 then (if t339 = 1 then (spec_RuleHolds.j3 k3 a1 l2 l3 a4 x11_2 x12_3 (t338 == 1) (t339 == 1) (decide ((rd l2 x11_2) < (rd l2 x12_3))) (decide ((rd l3 x11_2) < (rd l3 x12_3))) ((decide ((rd l2 x11_2) < (rd l2 x12_3))) != (decide ((rd l3 x11_2) < (rd l3 x12_3))))) else (spec_RuleHolds.j3 k3 a1 l2 l3 a4 x11_2 x12_3 (t338 == 1) (t339 == 1) (decide ((rd l2 x11_2) < (rd l2 x12_3))) (decide ((rd l3 x11_2) < (rd l3 x12_3))) false)) else (spec_RuleHolds.j3 k3 a1 l2 l3 a4 x11_2 x12_3 (t338 == 1) (t339 == 1) (decide ((rd l2 x11_2) < (rd l2 x12_3))) (decide ((rd l3 x11_2) < (rd l3 x12_3))) false)) else (spec_RuleHolds.j3 k3 a1 l2 l3 a4 x11_2 x12_3 (t338 == 1) (t339 == 1) (decide ((rd l2 x11_2) < (rd l2 x12_3))) (decide ((rd l3 x11_2) < (rd l3 x12_3))) false)) else (none)) else (none)) else (none)) else (none)) else (none))) = some r := H
                    have A24 := Aside0.mk A240
                    clear A240
                    replace H := Option.bind_eq_some_iff.mp H
                    obtain ⟨t339, A250, H⟩ := H
                    replace H : (if 0 ≤ x11_2 then (if x11_2 < (l2.length : Int) then (if 0 ≤ x12_3 then (if x11_2 < (l3.length : Int) then (if x12_3 < (l3.length : Int) then (if a1 = 1 then (if t338 = 1 then (if t339 = 1 then (spec_RuleHolds.j3 k3 a1 l2 l3 a4 x11_2 x12_3 (t338 == 1) (t339 == 1) (decide ((rd l2 x11_2) < (rd l2 x12_3))) (decide ((rd l3 x11_2) < (rd l3 x12_3))) ((decide ((rd l2 x11_2) < (rd l2 x12_3))) != (decide ((rd l3 x11_2) < (rd l3 x12_3))))) else (spec_RuleHolds.j3 k3 a1 l2 l3 a4 x11_2 x12_3 (t338 == 1) (t339 == 1) (decide ((rd l2 x11_2) < (rd l2 x12_3))) (decide ((rd l3 x11_2) < (rd l3 x12_3))) false)) else (spec_RuleHolds.j3 k3 a1 l2 l3 a4 x11_2 x12_3 (t338 == 1) (t339 == 1) (decide ((rd l2 x11_2) < (rd l2 x12_3))) (decide ((rd l3 x11_2) < (rd l3 x12_3))) false)) else (spec_RuleHolds.j3 k3 a1 l2 l3 a4 x11_2 x12_3 (t338 == 1) (t339 == 1) (decide ((rd l2 x11_2) < (rd l2 x12_3))) (decide ((rd l3 x11_2) < (rd l3 x12_3))) false)) else (none)) else (none)) else (none)) else (none)) else (none)) = some r := H
                    have A25 := Aside0.mk A250
                    clear A250
                    by_cases c26 : 0 ≤ x11_2
                    · rw [if_pos c26] at H
                      have c26b0 : decide (0 ≤ x11_2) = true := decide_eq_true c26
                      clear c26
                      by_cases c27 : x11_2 < (l2.length : Int)
                      · rw [if_pos c27] at H
                        have c27b0 : decide (x11_2 < (l2.length : Int)) = true := decide_eq_true c27
                        clear c27
                        by_cases c28 : 0 ≤ x12_3
                        · rw [if_pos c28] at H
                          have c28b0 : decide (0 ≤ x12_3) = true := decide_eq_true c28
                          clear c28
                          by_cases c29 : x11_2 < (l3.length : Int)
                          · rw [if_pos c29] at H
                            have c29b0 : decide (x11_2 < (l3.length : Int)) = true := decide_eq_true c29
                            clear c29
                            by_cases c30 : x12_3 < (l3.length : Int)
                            · rw [if_pos c30] at H
                              have c30b0 : decide (x12_3 < (l3.length : Int)) = true := decide_eq_true c30
                              clear c30
                              have HC31 := Aside0.mk H
                              clear H
                              go_upto_region 13 with (first | (go_at_call 68; (with_reducible refine (spec_l1Bit.calls a4 x11_2 t338 _ A24.out).mono ?_); rintro e w' ⟨rfl, ⟨nd, rfl⟩⟩; (try first | exact ⟨rfl, _, World.drewN_drewN _ _ _⟩ | exact ⟨rfl, _, Eq.trans (World.drewN_drewN _ _ _) (congrArg (World.drewN _) (Nat.add_assoc _ _ _))⟩)) | (go_at_call 68; (with_reducible refine (spec_l1Bit.calls a4 x12_3 t339 _ A25.out).mono ?_); rintro e w' ⟨rfl, ⟨nd, rfl⟩⟩; (try first | exact ⟨rfl, _, World.drewN_drewN _ _ _⟩ | exact ⟨rfl, _, Eq.trans (World.drewN_drewN _ _ _) (congrArg (World.drewN _) (Nat.add_assoc _ _ _))⟩); have p340 : 0 ≤ (x11_2 : Int) := of_decide_eq_true (by first | (with_reducible assumption) | assumption); have q340 : x11_2 < (l2.length : Int) := of_decide_eq_true (by first | (with_reducible assumption) | assumption); obtain ⟨ad340, e340, hx340_0⟩ := Kd.at_int HR2.out x11_2 p340 q340; cases e340; replace hx340_0 := (HB.out.cell (World.block_lt_of_cell? w _ hx340_0)).trans hx340_0; replace p340 := eq_true p340; replace q340 := eq_true q340; have p341 : 0 ≤ (x12_3 : Int) := of_decide_eq_true (by first | (with_reducible assumption) | assumption); have q341 : x12_3 < (l2.length : Int) := of_decide_eq_true (by first | (with_reducible assumption) | assumption); obtain ⟨ad341, e341, hx341_0⟩ := Kd.at_int HR2.out x12_3 p341 q341; obtain rfl : ad340 = ad341 := (by injection e341); replace hx341_0 := (HB.out.cell (World.block_lt_of_cell? w _ hx341_0)).trans hx341_0; replace p341 := eq_true p341; replace q341 := eq_true q341; have p342 : 0 ≤ (x11_2 : Int) := of_decide_eq_true (by first | (with_reducible assumption) | assumption); have q342 : x11_2 < (l3.length : Int) := of_decide_eq_true (by first | (with_reducible assumption) | assumption); obtain ⟨ad342, e342, hx342_0⟩ := Kd.at_int HR3.out x11_2 p342 q342; cases e342; replace hx342_0 := (HB.out.cell (World.block_lt_of_cell? w _ hx342_0)).trans hx342_0; replace p342 := eq_true p342; replace q342 := eq_true q342; have p343 : 0 ≤ (x12_3 : Int) := of_decide_eq_true (by first | (with_reducible assumption) | assumption); have q343 : x12_3 < (l3.length : Int) := of_decide_eq_true (by first | (with_reducible assumption) | assumption); obtain ⟨ad343, e343, hx343_0⟩ := Kd.at_int HR3.out x12_3 p343 q343; obtain rfl : ad342 = ad343 := (by injection e343); replace hx343_0 := (HB.out.cell (World.block_lt_of_cell? w _ hx343_0)).trans hx343_0; replace p343 := eq_true p343; replace q343 := eq_true q343))
                              repeat (go_quiet (first | (go_at_call 68; (with_reducible refine (spec_l1Bit.calls a4 x11_2 t338 _ A24.out).mono ?_); rintro e w' ⟨rfl, ⟨nd, rfl⟩⟩; (try first | exact ⟨rfl, _, World.drewN_drewN _ _ _⟩ | exact ⟨rfl, _, Eq.trans (World.drewN_drewN _ _ _) (congrArg (World.drewN _) (Nat.add_assoc _ _ _))⟩)) | (go_at_call 68; (with_reducible refine (spec_l1Bit.calls a4 x12_3 t339 _ A25.out).mono ?_); rintro e w' ⟨rfl, ⟨nd, rfl⟩⟩; (try first | exact ⟨rfl, _, World.drewN_drewN _ _ _⟩ | exact ⟨rfl, _, Eq.trans (World.drewN_drewN _ _ _) (congrArg (World.drewN _) (Nat.add_assoc _ _ _))⟩); have p340 : 0 ≤ (x11_2 : Int) := of_decide_eq_true (by first | (with_reducible assumption) | assumption); have q340 : x11_2 < (l2.length : Int) := of_decide_eq_true (by first | (with_reducible assumption) | assumption); obtain ⟨ad340, e340, hx340_0⟩ := Kd.at_int HR2.out x11_2 p340 q340; cases e340; replace hx340_0 := (HB.out.cell (World.block_lt_of_cell? w _ hx340_0)).trans hx340_0; replace p340 := eq_true p340; replace q340 := eq_true q340; have p341 : 0 ≤ (x12_3 : Int) := of_decide_eq_true (by first | (with_reducible assumption) | assumption); have q341 : x12_3 < (l2.length : Int) := of_decide_eq_true (by first | (with_reducible assumption) | assumption); obtain ⟨ad341, e341, hx341_0⟩ := Kd.at_int HR2.out x12_3 p341 q341; obtain rfl : ad340 = ad341 := (by injection e341); replace hx341_0 := (HB.out.cell (World.block_lt_of_cell? w _ hx341_0)).trans hx341_0; replace p341 := eq_true p341; replace q341 := eq_true q341; have p342 : 0 ≤ (x11_2 : Int) := of_decide_eq_true (by first | (with_reducible assumption) | assumption); have q342 : x11_2 < (l3.length : Int) := of_decide_eq_true (by first | (with_reducible assumption) | assumption); obtain ⟨ad342, e342, hx342_0⟩ := Kd.at_int HR3.out x11_2 p342 q342; cases e342; replace hx342_0 := (HB.out.cell (World.block_lt_of_cell? w _ hx342_0)).trans hx342_0; replace p342 := eq_true p342; replace q342 := eq_true q342; have p343 : 0 ≤ (x12_3 : Int) := of_decide_eq_true (by first | (with_reducible assumption) | assumption); have q343 : x12_3 < (l3.length : Int) := of_decide_eq_true (by first | (with_reducible assumption) | assumption); obtain ⟨ad343, e343, hx343_0⟩ := Kd.at_int HR3.out x12_3 p343 q343; obtain rfl : ad342 = ad343 := (by injection e343); replace hx343_0 := (HB.out.cell (World.block_lt_of_cell? w _ hx343_0)).trans hx343_0; replace p343 := eq_true p343; replace q343 := eq_true q343)); go_upto_region 13 with (first | (go_at_call 68; (with_reducible refine (spec_l1Bit.calls a4 x11_2 t338 _ A24.out).mono ?_); rintro e w' ⟨rfl, ⟨nd, rfl⟩⟩; (try first | exact ⟨rfl, _, World.drewN_drewN _ _ _⟩ | exact ⟨rfl, _, Eq.trans (World.drewN_drewN _ _ _) (congrArg (World.drewN _) (Nat.add_assoc _ _ _))⟩)) | (go_at_call 68; (with_reducible refine (spec_l1Bit.calls a4 x12_3 t339 _ A25.out).mono ?_); rintro e w' ⟨rfl, ⟨nd, rfl⟩⟩; (try first | exact ⟨rfl, _, World.drewN_drewN _ _ _⟩ | exact ⟨rfl, _, Eq.trans (World.drewN_drewN _ _ _) (congrArg (World.drewN _) (Nat.add_assoc _ _ _))⟩); have p340 : 0 ≤ (x11_2 : Int) := of_decide_eq_true (by first | (with_reducible assumption) | assumption); have q340 : x11_2 < (l2.length : Int) := of_decide_eq_true (by first | (with_reducible assumption) | assumption); obtain ⟨ad340, e340, hx340_0⟩ := Kd.at_int HR2.out x11_2 p340 q340; cases e340; replace hx340_0 := (HB.out.cell (World.block_lt_of_cell? w _ hx340_0)).trans hx340_0; replace p340 := eq_true p340; replace q340 := eq_true q340; have p341 : 0 ≤ (x12_3 : Int) := of_decide_eq_true (by first | (with_reducible assumption) | assumption); have q341 : x12_3 < (l2.length : Int) := of_decide_eq_true (by first | (with_reducible assumption) | assumption); obtain ⟨ad341, e341, hx341_0⟩ := Kd.at_int HR2.out x12_3 p341 q341; obtain rfl : ad340 = ad341 := (by injection e341); replace hx341_0 := (HB.out.cell (World.block_lt_of_cell? w _ hx341_0)).trans hx341_0; replace p341 := eq_true p341; replace q341 := eq_true q341; have p342 : 0 ≤ (x11_2 : Int) := of_decide_eq_true (by first | (with_reducible assumption) | assumption); have q342 : x11_2 < (l3.length : Int) := of_decide_eq_true (by first | (with_reducible assumption) | assumption); obtain ⟨ad342, e342, hx342_0⟩ := Kd.at_int HR3.out x11_2 p342 q342; cases e342; replace hx342_0 := (HB.out.cell (World.block_lt_of_cell? w _ hx342_0)).trans hx342_0; replace p342 := eq_true p342; replace q342 := eq_true q342; have p343 : 0 ≤ (x12_3 : Int) := of_decide_eq_true (by first | (with_reducible assumption) | assumption); have q343 : x12_3 < (l3.length : Int) := of_decide_eq_true (by first | (with_reducible assumption) | assumption); obtain ⟨ad343, e343, hx343_0⟩ := Kd.at_int HR3.out x12_3 p343 q343; obtain rfl : ad342 = ad343 := (by injection e343); replace hx343_0 := (HB.out.cell (World.block_lt_of_cell? w _ hx343_0)).trans hx343_0; replace p343 := eq_true p343; replace q343 := eq_true q343)))
                              (try simp only [Act.put, List.setIfInBounds_toArray, List.set_cons_zero, List.set_cons_succ])
                              go_cut [76] (fun v76 wc => ∃ (kq : Nat) (x76_30 : Bool), v76 = .bool x76_30 ∧ Aside0 (spec_RuleHolds.j3 kq a1 l2 l3 a4 x11_2 x12_3 (t338 == 1) (t339 == 1) (decide ((rd l2 x11_2) < (rd l2 x12_3))) (decide ((rd l3 x11_2) < (rd l3 x12_3))) x76_30 = some r) ∧ Aside0 (kq ≤ k3) ∧ Aside0 (Below w.heap.size w wc))
                              case first =>
                                have H := HC31.out
                                clear HC31
                                by_cases c32 : a1 = 1
                                · rw [if_pos c32] at H
                                  have c32b0 : (a1 == 1) = true := beq_iff_eq.mpr c32
                                  have c32b1 : (a1 != 1) = false := bne_eq_false_iff_eq.mpr c32
                                  clear c32
                                  (first | rw [c32b0] | (simp only [i64_w, i32_w]; rw [c32b0]) | skip)
                                  by_cases c33 : t338 = 1
                                  · rw [if_pos c33] at H
                                    have c33b0 : (t338 == 1) = true := beq_iff_eq.mpr c33
                                    have c33b1 : (t338 != 1) = false := bne_eq_false_iff_eq.mpr c33
                                    clear c33
                                    by_cases c34 : t339 = 1
                                    · rw [if_pos c34] at H
                                      have c34b0 : (t339 == 1) = true := beq_iff_eq.mpr c34
                                      have c34b1 : (t339 != 1) = false := bne_eq_false_iff_eq.mpr c34
                                      clear c34
                                      have H' := Aside0.mk H
                                      clear H
                                      go_wp2
                                      repeat (go_quiet (fail); try go_wp2)
                                      go_meet
                                      case rel => exact ⟨_, (((decide ((rd l2 x11_2) < (rd l2 x12_3))) != (decide ((rd l3 x11_2) < (rd l3 x12_3))))), (by first | rfl | (simp; done) | (simp [*]; done)), H', ⟨by have := HJ5.out; have := HK2.out; have := HK3.out; first | omega | exact Nat.le_refl _⟩, ⟨by repeat (first | (with_reducible first | exact HB.out | apply below_alloc | apply pw_below_drewN | apply below_drew1) | exact HB.out)⟩⟩
                                    · rw [if_neg c34] at H
                                      have c34b0 : (t339 == 1) = false := beq_eq_false_iff_ne.mpr c34
                                      have c34b1 : (t339 != 1) = true := bne_iff_ne.mpr c34
                                      have H' := Aside0.mk H
                                      clear H
                                      go_wp2
                                      repeat (go_quiet (fail); try go_wp2)
                                      go_meet
                                      case rel => exact ⟨_, (false), (by first | rfl | (simp; done) | (simp [*]; done)), H', ⟨by have := HJ5.out; have := HK2.out; have := HK3.out; first | omega | exact Nat.le_refl _⟩, ⟨by repeat (first | (with_reducible first | exact HB.out | apply below_alloc | apply pw_below_drewN | apply below_drew1) | exact HB.out)⟩⟩
                                  · rw [if_neg c33] at H
                                    have c33b0 : (t338 == 1) = false := beq_eq_false_iff_ne.mpr c33
                                    have c33b1 : (t338 != 1) = true := bne_iff_ne.mpr c33
                                    have H' := Aside0.mk H
                                    clear H
                                    go_wp2
                                    repeat (go_quiet (fail); try go_wp2)
                                    go_meet
                                    case rel => exact ⟨_, (false), (by first | rfl | (simp; done) | (simp [*]; done)), H', ⟨by have := HJ5.out; have := HK2.out; have := HK3.out; first | omega | exact Nat.le_refl _⟩, ⟨by repeat (first | (with_reducible first | exact HB.out | apply below_alloc | apply pw_below_drewN | apply below_drew1) | exact HB.out)⟩⟩
                                · rw [if_neg c32] at H
                                  have c32b0 : (a1 == 1) = false := beq_eq_false_iff_ne.mpr c32
                                  have c32b1 : (a1 != 1) = true := bne_iff_ne.mpr c32
                                  (first | rw [c32b0] | (simp only [i64_w, i32_w]; rw [c32b0]) | skip)
                                  have H' := Aside0.mk H
                                  clear H
                                  go_wp2
                                  repeat (go_quiet (fail); try go_wp2)
                                  go_meet
                                  case rel => exact ⟨_, (false), (by first | rfl | (simp; done) | (simp [*]; done)), H', ⟨by have := HJ5.out; have := HK2.out; have := HK3.out; first | omega | exact Nat.le_refl _⟩, ⟨by repeat (first | (with_reducible first | exact HB.out | apply below_alloc | apply pw_below_drewN | apply below_drew1) | exact HB.out)⟩⟩
                              case rest =>
                                clear HC31
                                try clear c1
                                try clear c2
                                try clear p2
                                try clear c3
                                try clear p3
                                try clear q3
                                try clear hx3
                                try clear c8
                                try clear c10
                                try clear c12
                                try clear c21
                                try clear c22
                                try clear c22b0
                                try clear c23
                                try clear c23b0
                                try clear c26
                                try clear c26b0
                                try clear c27
                                try clear c27b0
                                try clear c28
                                try clear c28b0
                                try clear c29
                                try clear c29b0
                                try clear c30
                                try clear c30b0
                                try clear c32
                                try clear c32b0
                                try clear c32b1
                                try clear c33
                                try clear c33b0
                                try clear c33b1
                                try clear c34
                                try clear c34b0
                                try clear c34b1
                                try clear p34
                                try clear q34
                                try clear hx34
                                try clear hx340_0
                                try clear hx341_0
                                try clear hx342_0
                                try clear hx343_0
                                try clear p2
                                try clear p340
                                try clear p341
                                try clear p342
                                try clear p343
                                try clear q340
                                try clear q341
                                try clear q342
                                try clear q343
                                obtain ⟨kq, x76_30, rfl, HA, HJ30, HB⟩ := hcut
                                cases kq with
                                | zero => exact absurd HA.out (by simp [spec_RuleHolds.j3])
                                | succ kj30 =>
                                  have H := HA.out
                                  clear HA
                                  simp only [spec_RuleHolds.j3] at H
                                  by_cases c35 : x76_30 = true
                                  · subst c35
                                    have H1 : (some false) = some r := by rw [if_pos rfl] at H; exact H
                                    clear H
                                    have H := H1
                                    clear H1
                                    obtain rfl := Option.some.inj H
                                    go_wp2
                                    repeat (go_quiet (fail); try go_wp2)
                                    go_ret
                                    exact ⟨by first | rfl | (simp [errW_none, errW_some] <;> rfl) | (simp [*, errW_none, errW_some] <;> rfl), by repeat (first | (with_reducible first | exact HB.out | apply below_alloc | apply pw_below_drewN | apply below_drew1) | exact HB.out)⟩
                                  · replace c35 := Bool.eq_false_iff.mpr c35
                                    subst c35
                                    have H1 : (if a1 = 2 then (if (t338 == 1) = true then (spec_RuleHolds.j4 kj30 a1 l2 l3 a4 x11_2 x12_3 (t338 == 1) (t339 == 1) (decide ((rd l2 x11_2) < (rd l2 x12_3))) (decide ((rd l3 x11_2) < (rd l3 x12_3))) false) else (if (t339 == 1) = true then (spec_RuleHolds.j4 kj30 a1 l2 l3 a4 x11_2 x12_3 (t338 == 1) (t339 == 1) (decide ((rd l2 x11_2) < (rd l2 x12_3))) (decide ((rd l3 x11_2) < (rd l3 x12_3))) false) else (spec_RuleHolds.j4 kj30 a1 l2 l3 a4 x11_2 x12_3 (t338 == 1) (t339 == 1) (decide ((rd l2 x11_2) < (rd l2 x12_3))) (decide ((rd l3 x11_2) < (rd l3 x12_3))) ((decide ((rd l2 x11_2) < (rd l2 x12_3))) != (decide ((rd l3 x11_2) < (rd l3 x12_3))))))) else (spec_RuleHolds.j4 kj30 a1 l2 l3 a4 x11_2 x12_3 (t338 == 1) (t339 == 1) (decide ((rd l2 x11_2) < (rd l2 x12_3))) (decide ((rd l3 x11_2) < (rd l3 x12_3))) false)) = some r := by rw [if_neg (show ¬ (false = true) by decide)] at H; exact H
                                    clear H
                                    have H := H1
                                    clear H1
                                    have HC36 := Aside0.mk H
                                    clear H
                                    go_upto_region 15 with (fail)
                                    repeat (go_quiet (fail); go_upto_region 15 with (fail))
                                    go_cut [90] (fun v90 wc => ∃ (kq : Nat) (x90_35 : Bool), v90 = .bool x90_35 ∧ Aside0 (spec_RuleHolds.j4 kq a1 l2 l3 a4 x11_2 x12_3 (t338 == 1) (t339 == 1) (decide ((rd l2 x11_2) < (rd l2 x12_3))) (decide ((rd l3 x11_2) < (rd l3 x12_3))) x90_35 = some r) ∧ Aside0 (kq ≤ kj30) ∧ Aside0 (Below w.heap.size w wc))
                                    case first =>
                                      have H := HC36.out
                                      clear HC36
                                      by_cases c37 : a1 = 2
                                      · rw [if_pos c37] at H
                                        have c37b0 : (a1 == 2) = true := beq_iff_eq.mpr c37
                                        have c37b1 : (a1 != 2) = false := bne_eq_false_iff_eq.mpr c37
                                        clear c37
                                        (first | rw [c37b0] | (simp only [i64_w, i32_w]; rw [c37b0]) | skip)
                                        by_cases c38 : (t338 == 1) = true
                                        · rw [if_pos c38] at H
                                          have c38b0 : (t338 == 1) = true := c38
                                          (try (have c38b1 : decide (t338 = 1) = true := by simpa using c38))
                                          (try (have c38b2 : (t338 == 1) = true := by simpa using c38))
                                          clear c38
                                          have H' := Aside0.mk H
                                          clear H
                                          go_wp2
                                          repeat (go_quiet (fail); try go_wp2)
                                          go_meet
                                          case rel => exact ⟨_, (false), (by first | rfl | (simp; done) | (simp [*]; done)), H', ⟨by have := HJ5.out; have := HK2.out; have := HK3.out; have := HJ30.out; first | omega | exact Nat.le_refl _⟩, ⟨by repeat (first | (with_reducible first | exact HB.out | apply below_alloc | apply pw_below_drewN | apply below_drew1) | exact HB.out)⟩⟩
                                        · rw [if_neg c38] at H
                                          have c38b0 : (t338 == 1) = false := by simpa using c38
                                          (try (have c38b1 : decide (t338 = 1) = false := by simpa using c38))
                                          (try (have c38b2 : (t338 == 1) = false := by simpa using c38))
                                          (try (have c38b3 : ¬ (t338 = 1) := by simpa using c38))
                                          clear c38
                                          by_cases c39 : (t339 == 1) = true
                                          · rw [if_pos c39] at H
                                            have c39b0 : (t339 == 1) = true := c39
                                            (try (have c39b1 : decide (t339 = 1) = true := by simpa using c39))
                                            (try (have c39b2 : (t339 == 1) = true := by simpa using c39))
                                            clear c39
                                            have H' := Aside0.mk H
                                            clear H
                                            go_wp2
                                            repeat (go_quiet (fail); try go_wp2)
                                            go_meet
                                            case rel => exact ⟨_, (false), (by first | rfl | (simp; done) | (simp [*]; done)), H', ⟨by have := HJ5.out; have := HK2.out; have := HK3.out; have := HJ30.out; first | omega | exact Nat.le_refl _⟩, ⟨by repeat (first | (with_reducible first | exact HB.out | apply below_alloc | apply pw_below_drewN | apply below_drew1) | exact HB.out)⟩⟩
                                          · rw [if_neg c39] at H
                                            have c39b0 : (t339 == 1) = false := by simpa using c39
                                            (try (have c39b1 : decide (t339 = 1) = false := by simpa using c39))
                                            (try (have c39b2 : (t339 == 1) = false := by simpa using c39))
                                            (try (have c39b3 : ¬ (t339 = 1) := by simpa using c39))
                                            clear c39
                                            have H' := Aside0.mk H
                                            clear H
                                            go_wp2
                                            repeat (go_quiet (fail); try go_wp2)
                                            go_meet
                                            case rel => exact ⟨_, (((decide ((rd l2 x11_2) < (rd l2 x12_3))) != (decide ((rd l3 x11_2) < (rd l3 x12_3))))), (by first | rfl | (simp; done) | (simp [*]; done)), H', ⟨by have := HJ5.out; have := HK2.out; have := HK3.out; have := HJ30.out; first | omega | exact Nat.le_refl _⟩, ⟨by repeat (first | (with_reducible first | exact HB.out | apply below_alloc | apply pw_below_drewN | apply below_drew1) | exact HB.out)⟩⟩
                                      · rw [if_neg c37] at H
                                        have c37b0 : (a1 == 2) = false := beq_eq_false_iff_ne.mpr c37
                                        have c37b1 : (a1 != 2) = true := bne_iff_ne.mpr c37
                                        (first | rw [c37b0] | (simp only [i64_w, i32_w]; rw [c37b0]) | skip)
                                        have H' := Aside0.mk H
                                        clear H
                                        go_wp2
                                        repeat (go_quiet (fail); try go_wp2)
                                        go_meet
                                        case rel => exact ⟨_, (false), (by first | rfl | (simp; done) | (simp [*]; done)), H', ⟨by have := HJ5.out; have := HK2.out; have := HK3.out; have := HJ30.out; first | omega | exact Nat.le_refl _⟩, ⟨by repeat (first | (with_reducible first | exact HB.out | apply below_alloc | apply pw_below_drewN | apply below_drew1) | exact HB.out)⟩⟩
                                    case rest =>
                                      clear HC36
                                      try clear c1
                                      try clear c2
                                      try clear p2
                                      try clear c3
                                      try clear p3
                                      try clear q3
                                      try clear hx3
                                      try clear c8
                                      try clear c10
                                      try clear c12
                                      try clear c21
                                      try clear c22
                                      try clear c22b0
                                      try clear c23
                                      try clear c23b0
                                      try clear c26
                                      try clear c26b0
                                      try clear c27
                                      try clear c27b0
                                      try clear c28
                                      try clear c28b0
                                      try clear c29
                                      try clear c29b0
                                      try clear c30
                                      try clear c30b0
                                      try clear c32
                                      try clear c32b0
                                      try clear c32b1
                                      try clear c33
                                      try clear c33b0
                                      try clear c33b1
                                      try clear c34
                                      try clear c34b0
                                      try clear c34b1
                                      try clear p34
                                      try clear q34
                                      try clear hx34
                                      try clear c35
                                      try clear c37
                                      try clear c37b0
                                      try clear c37b1
                                      try clear c38
                                      try clear c38b0
                                      try clear c38b1
                                      try clear c38b2
                                      try clear c39
                                      try clear c39b0
                                      try clear c39b1
                                      try clear c39b2
                                      try clear hx340_0
                                      try clear hx341_0
                                      try clear hx342_0
                                      try clear hx343_0
                                      try clear p2
                                      try clear p3
                                      try clear p34
                                      try clear p340
                                      try clear p341
                                      try clear p342
                                      try clear p343
                                      try clear q3
                                      try clear q34
                                      try clear q340
                                      try clear q341
                                      try clear q342
                                      try clear q343
                                      obtain ⟨kq, x90_35, rfl, HA, HJ35, HB⟩ := hcut
                                      cases kq with
                                      | zero => exact absurd HA.out (by simp [spec_RuleHolds.j4])
                                      | succ kj35 =>
                                        have H := HA.out
                                        clear HA
                                        simp only [spec_RuleHolds.j4] at H
                                        by_cases c40 : x90_35 = true
                                        · subst c40
                                          have H1 : (some false) = some r := by rw [if_pos rfl] at H; exact H
                                          clear H
                                          have H := H1
                                          clear H1
                                          obtain rfl := Option.some.inj H
                                          go_wp2
                                          repeat (go_quiet (fail); try go_wp2)
                                          go_ret
                                          exact ⟨by first | rfl | (simp [errW_none, errW_some] <;> rfl) | (simp [*, errW_none, errW_some] <;> rfl), by repeat (first | (with_reducible first | exact HB.out | apply below_alloc | apply pw_below_drewN | apply below_drew1) | exact HB.out)⟩
                                        · replace c40 := Bool.eq_false_iff.mpr c40
                                          subst c40
                                          have H1 : (if a1 = 3 then (if (t338 == 1) = true then (if (t339 == 1) = true then (spec_RuleHolds.j5 kj35 a1 l2 l3 a4 x11_2 x12_3 (t338 == 1) (t339 == 1) false) else (if (decide ((rd l2 x11_2) < (rd l2 x12_3))) = true then (spec_RuleHolds.j5 kj35 a1 l2 l3 a4 x11_2 x12_3 (t338 == 1) (t339 == 1) (!(decide ((rd l3 x11_2) < (rd l3 x12_3))))) else (spec_RuleHolds.j5 kj35 a1 l2 l3 a4 x11_2 x12_3 (t338 == 1) (t339 == 1) false))) else (spec_RuleHolds.j5 kj35 a1 l2 l3 a4 x11_2 x12_3 (t338 == 1) (t339 == 1) false)) else (spec_RuleHolds.j5 kj35 a1 l2 l3 a4 x11_2 x12_3 (t338 == 1) (t339 == 1) false)) = some r := by rw [if_neg (show ¬ (false = true) by decide)] at H; exact H
                                          clear H
                                          have H := H1
                                          clear H1
                                          have HC41 := Aside0.mk H
                                          clear H
                                          go_upto_region 17 with (fail)
                                          repeat (go_quiet (fail); go_upto_region 17 with (fail))
                                          go_cut [106] (fun v106 wc => ∃ (kq : Nat) (x106_40 : Bool), v106 = .bool x106_40 ∧ Aside0 (spec_RuleHolds.j5 kq a1 l2 l3 a4 x11_2 x12_3 (t338 == 1) (t339 == 1) x106_40 = some r) ∧ Aside0 (kq ≤ kj35) ∧ Aside0 (Below w.heap.size w wc))
                                          case first =>
                                            have H := HC41.out
                                            clear HC41
                                            by_cases c42 : a1 = 3
                                            · rw [if_pos c42] at H
                                              have c42b0 : (a1 == 3) = true := beq_iff_eq.mpr c42
                                              have c42b1 : (a1 != 3) = false := bne_eq_false_iff_eq.mpr c42
                                              clear c42
                                              (first | rw [c42b0] | (simp only [i64_w, i32_w]; rw [c42b0]) | skip)
                                              by_cases c43 : (t338 == 1) = true
                                              · rw [if_pos c43] at H
                                                have c43b0 : (t338 == 1) = true := c43
                                                (try (have c43b1 : decide (t338 = 1) = true := by simpa using c43))
                                                (try (have c43b2 : (t338 == 1) = true := by simpa using c43))
                                                clear c43
                                                by_cases c44 : (t339 == 1) = true
                                                · rw [if_pos c44] at H
                                                  have c44b0 : (t339 == 1) = true := c44
                                                  (try (have c44b1 : decide (t339 = 1) = true := by simpa using c44))
                                                  (try (have c44b2 : (t339 == 1) = true := by simpa using c44))
                                                  clear c44
                                                  have H' := Aside0.mk H
                                                  clear H
                                                  go_wp2
                                                  repeat (go_quiet (fail); try go_wp2)
                                                  go_meet
                                                  case rel => exact ⟨_, (false), (by first | rfl | (simp; done) | (simp [*]; done)), H', ⟨by have := HJ5.out; have := HK2.out; have := HK3.out; have := HJ30.out; have := HJ35.out; first | omega | exact Nat.le_refl _⟩, ⟨by repeat (first | (with_reducible first | exact HB.out | apply below_alloc | apply pw_below_drewN | apply below_drew1) | exact HB.out)⟩⟩
                                                · rw [if_neg c44] at H
                                                  have c44b0 : (t339 == 1) = false := by simpa using c44
                                                  (try (have c44b1 : decide (t339 = 1) = false := by simpa using c44))
                                                  (try (have c44b2 : (t339 == 1) = false := by simpa using c44))
                                                  (try (have c44b3 : ¬ (t339 = 1) := by simpa using c44))
                                                  clear c44
                                                  by_cases c45 : (decide ((rd l2 x11_2) < (rd l2 x12_3))) = true
                                                  · rw [if_pos c45] at H
                                                    have c45b0 : (decide ((rd l2 x11_2) < (rd l2 x12_3))) = true := c45
                                                    clear c45
                                                    have H' := Aside0.mk H
                                                    clear H
                                                    go_wp2
                                                    repeat (go_quiet (fail); try go_wp2)
                                                    go_meet
                                                    case rel => exact ⟨_, (!(decide ((rd l3 x11_2) < (rd l3 x12_3)))), (by first | rfl | (simp; done) | (simp [*]; done)), H', ⟨by have := HJ5.out; have := HK2.out; have := HK3.out; have := HJ30.out; have := HJ35.out; first | omega | exact Nat.le_refl _⟩, ⟨by repeat (first | (with_reducible first | exact HB.out | apply below_alloc | apply pw_below_drewN | apply below_drew1) | exact HB.out)⟩⟩
                                                  · rw [if_neg c45] at H
                                                    have c45b0 : (decide ((rd l2 x11_2) < (rd l2 x12_3))) = false := by simpa using c45
                                                    clear c45
                                                    have H' := Aside0.mk H
                                                    clear H
                                                    go_wp2
                                                    repeat (go_quiet (fail); try go_wp2)
                                                    go_meet
                                                    case rel => exact ⟨_, (false), (by first | rfl | (simp; done) | (simp [*]; done)), H', ⟨by have := HJ5.out; have := HK2.out; have := HK3.out; have := HJ30.out; have := HJ35.out; first | omega | exact Nat.le_refl _⟩, ⟨by repeat (first | (with_reducible first | exact HB.out | apply below_alloc | apply pw_below_drewN | apply below_drew1) | exact HB.out)⟩⟩
                                              · rw [if_neg c43] at H
                                                have c43b0 : (t338 == 1) = false := by simpa using c43
                                                (try (have c43b1 : decide (t338 = 1) = false := by simpa using c43))
                                                (try (have c43b2 : (t338 == 1) = false := by simpa using c43))
                                                (try (have c43b3 : ¬ (t338 = 1) := by simpa using c43))
                                                clear c43
                                                have H' := Aside0.mk H
                                                clear H
                                                go_wp2
                                                repeat (go_quiet (fail); try go_wp2)
                                                go_meet
                                                case rel => exact ⟨_, (false), (by first | rfl | (simp; done) | (simp [*]; done)), H', ⟨by have := HJ5.out; have := HK2.out; have := HK3.out; have := HJ30.out; have := HJ35.out; first | omega | exact Nat.le_refl _⟩, ⟨by repeat (first | (with_reducible first | exact HB.out | apply below_alloc | apply pw_below_drewN | apply below_drew1) | exact HB.out)⟩⟩
                                            · rw [if_neg c42] at H
                                              have c42b0 : (a1 == 3) = false := beq_eq_false_iff_ne.mpr c42
                                              have c42b1 : (a1 != 3) = true := bne_iff_ne.mpr c42
                                              (first | rw [c42b0] | (simp only [i64_w, i32_w]; rw [c42b0]) | skip)
                                              have H' := Aside0.mk H
                                              clear H
                                              go_wp2
                                              repeat (go_quiet (fail); try go_wp2)
                                              go_meet
                                              case rel => exact ⟨_, (false), (by first | rfl | (simp; done) | (simp [*]; done)), H', ⟨by have := HJ5.out; have := HK2.out; have := HK3.out; have := HJ30.out; have := HJ35.out; first | omega | exact Nat.le_refl _⟩, ⟨by repeat (first | (with_reducible first | exact HB.out | apply below_alloc | apply pw_below_drewN | apply below_drew1) | exact HB.out)⟩⟩
                                          case rest =>
                                            clear HC41
                                            try clear c1
                                            try clear c2
                                            try clear p2
                                            try clear c3
                                            try clear p3
                                            try clear q3
                                            try clear hx3
                                            try clear c4
                                            try clear c8
                                            try clear c10
                                            try clear c12
                                            try clear c21
                                            try clear c22
                                            try clear c22b0
                                            try clear c23
                                            try clear c23b0
                                            try clear c26
                                            try clear c26b0
                                            try clear c27
                                            try clear c27b0
                                            try clear c28
                                            try clear c28b0
                                            try clear c29
                                            try clear c29b0
                                            try clear c30
                                            try clear c30b0
                                            try clear c32
                                            try clear c32b0
                                            try clear c32b1
                                            try clear c33
                                            try clear c33b0
                                            try clear c33b1
                                            try clear c34
                                            try clear c34b0
                                            try clear c34b1
                                            try clear p34
                                            try clear q34
                                            try clear hx34
                                            try clear c35
                                            try clear c37
                                            try clear c37b0
                                            try clear c37b1
                                            try clear c38
                                            try clear c38b0
                                            try clear c38b1
                                            try clear c38b2
                                            try clear c39
                                            try clear c39b0
                                            try clear c39b1
                                            try clear c39b2
                                            try clear c40
                                            try clear c42
                                            try clear c42b0
                                            try clear c42b1
                                            try clear c43
                                            try clear c43b0
                                            try clear c43b1
                                            try clear c43b2
                                            try clear c44
                                            try clear c44b0
                                            try clear c44b1
                                            try clear c44b2
                                            try clear c45
                                            try clear c45b0
                                            try clear hx340_0
                                            try clear hx341_0
                                            try clear hx342_0
                                            try clear hx343_0
                                            try clear p2
                                            try clear p3
                                            try clear p34
                                            try clear p340
                                            try clear p341
                                            try clear p342
                                            try clear p343
                                            try clear q3
                                            try clear q34
                                            try clear q340
                                            try clear q341
                                            try clear q342
                                            try clear q343
                                            obtain ⟨kq, x106_40, rfl, HA, HJ40, HB⟩ := hcut
                                            cases kq with
                                            | zero => exact absurd HA.out (by simp [spec_RuleHolds.j5])
                                            | succ kj40 =>
                                              have H := HA.out
                                              clear HA
                                              simp only [spec_RuleHolds.j5] at H
                                              by_cases c46 : x106_40 = true
                                              · subst c46
                                                have H1 : (some false) = some r := by rw [if_pos rfl] at H; exact H
                                                clear H
                                                have H := H1
                                                clear H1
                                                obtain rfl := Option.some.inj H
                                                go_wp2
                                                repeat (go_quiet (fail); try go_wp2)
                                                go_ret
                                                exact ⟨by first | rfl | (simp [errW_none, errW_some] <;> rfl) | (simp [*, errW_none, errW_some] <;> rfl), by repeat (first | (with_reducible first | exact HB.out | apply below_alloc | apply pw_below_drewN | apply below_drew1) | exact HB.out)⟩
                                              · replace c46 := Bool.eq_false_iff.mpr c46
                                                subst c46
                                                have H1 : (if a1 = 4 then (if (t338 == 1) = true then (if (t339 == 1) = true then (spec_RuleHolds.l1 kj40 a1 l2 l3 a4 x11_2 (wrap64 (x12_3 + 1))) else (if 0 ≤ x12_3 then (if x12_3 < (l2.length : Int) then (if 0 ≤ x11_2 then (if x11_2 < (l2.length : Int) then (if (rd l2 x12_3) ≥ (rd l2 x11_2) then (if x12_3 < (l3.length : Int) then (if x11_2 < (l3.length : Int) then (if (rd l3 x12_3) < (rd l3 x11_2) then (some false) else (spec_RuleHolds.l1 kj40 a1 l2 l3 a4 x11_2 (wrap64 (x12_3 + 1)))) else (none)) else (none)) else (spec_RuleHolds.l1 kj40 a1 l2 l3 a4 x11_2 (wrap64 (x12_3 + 1)))) else (none)) else (none)) else (none)) else (none))) else (spec_RuleHolds.l1 kj40 a1 l2 l3 a4 x11_2 (wrap64 (x12_3 + 1)))) else (spec_RuleHolds.l1 kj40 a1 l2 l3 a4 x11_2 (wrap64 (x12_3 + 1)))) = some r := by rw [if_neg (show ¬ (false = true) by decide)] at H; exact H
                                                clear H
                                                have H := H1
                                                clear H1
                                                by_cases c47 : a1 = 4
                                                · rw [if_pos c47] at H
                                                  have c47b0 : (a1 == 4) = true := beq_iff_eq.mpr c47
                                                  have c47b1 : (a1 != 4) = false := bne_eq_false_iff_eq.mpr c47
                                                  clear c47
                                                  by_cases c48 : (t338 == 1) = true
                                                  · rw [if_pos c48] at H
                                                    have c48b0 : (t338 == 1) = true := c48
                                                    (try (have c48b1 : decide (t338 = 1) = true := by simpa using c48))
                                                    (try (have c48b2 : (t338 == 1) = true := by simpa using c48))
                                                    clear c48
                                                    by_cases c49 : (t339 == 1) = true
                                                    · rw [if_pos c49] at H
                                                      have c49b0 : (t339 == 1) = true := c49
                                                      (try (have c49b1 : decide (t339 = 1) = true := by simpa using c49))
                                                      (try (have c49b2 : (t339 == 1) = true := by simpa using c49))
                                                      clear c49
                                                      have H' := Aside0.mk H
                                                      clear H
                                                      go_wp2
                                                      repeat (go_quiet (fail); try go_wp2)
                                                      go_roundg kj40
                                                      case measure => have := HJ5.out; have := HK2.out; have := HK3.out; have := HJ30.out; have := HJ35.out; have := HJ40.out; omega
                                                      case rel => exact ⟨(wrap64 (x12_3 + 1)), (by first | rfl | (simp; done) | (simp [*]; done)), H', ⟨by have := HJ5.out; have := HK2.out; have := HK3.out; have := HJ30.out; have := HJ35.out; have := HJ40.out; omega⟩, ⟨by repeat (first | (with_reducible first | exact HB.out | apply below_alloc | apply pw_below_drewN | apply below_drew1) | exact HB.out)⟩⟩
                                                    · rw [if_neg c49] at H
                                                      have c49b0 : (t339 == 1) = false := by simpa using c49
                                                      (try (have c49b1 : decide (t339 = 1) = false := by simpa using c49))
                                                      (try (have c49b2 : (t339 == 1) = false := by simpa using c49))
                                                      (try (have c49b3 : ¬ (t339 = 1) := by simpa using c49))
                                                      clear c49
                                                      by_cases c50 : 0 ≤ x12_3
                                                      · rw [if_pos c50] at H
                                                        have c50b0 : decide (0 ≤ x12_3) = true := decide_eq_true c50
                                                        clear c50
                                                        by_cases c51 : x12_3 < (l2.length : Int)
                                                        · rw [if_pos c51] at H
                                                          have c51b0 : decide (x12_3 < (l2.length : Int)) = true := decide_eq_true c51
                                                          clear c51
                                                          by_cases c52 : 0 ≤ x11_2
                                                          · rw [if_pos c52] at H
                                                            have c52b0 : decide (0 ≤ x11_2) = true := decide_eq_true c52
                                                            clear c52
                                                            by_cases c53 : x11_2 < (l2.length : Int)
                                                            · rw [if_pos c53] at H
                                                              have c53b0 : decide (x11_2 < (l2.length : Int)) = true := decide_eq_true c53
                                                              clear c53
                                                              by_cases c54 : (rd l2 x12_3) ≥ (rd l2 x11_2)
                                                              · rw [if_pos c54] at H
                                                                have c54b0 : decide ((rd l2 x11_2) ≤ (rd l2 x12_3)) = true := decide_eq_true c54
                                                                clear c54
                                                                by_cases c55 : x12_3 < (l3.length : Int)
                                                                · rw [if_pos c55] at H
                                                                  have c55b0 : decide (x12_3 < (l3.length : Int)) = true := decide_eq_true c55
                                                                  clear c55
                                                                  by_cases c56 : x11_2 < (l3.length : Int)
                                                                  · rw [if_pos c56] at H
                                                                    have c56b0 : decide (x11_2 < (l3.length : Int)) = true := decide_eq_true c56
                                                                    clear c56
                                                                    by_cases c57 : (rd l3 x12_3) < (rd l3 x11_2)
                                                                    · rw [if_pos c57] at H
                                                                      have c57b0 : decide ((rd l3 x12_3) < (rd l3 x11_2)) = true := decide_eq_true c57
                                                                      clear c57
                                                                      obtain rfl := Option.some.inj H
                                                                      have p344 : 0 ≤ (x12_3 : Int) := of_decide_eq_true (by first | (with_reducible assumption) | assumption)
                                                                      have q344 : x12_3 < (l2.length : Int) := of_decide_eq_true (by first | (with_reducible assumption) | assumption)
                                                                      obtain ⟨ad344, e344, hx344_0⟩ := Kd.at_int HR2.out x12_3 p344 q344
                                                                      obtain rfl : ad340 = ad344 := (by injection e344)
                                                                      replace hx344_0 := (HB.out.cell (World.block_lt_of_cell? w _ hx344_0)).trans hx344_0
                                                                      replace p344 := eq_true p344
                                                                      replace q344 := eq_true q344
                                                                      have p345 : 0 ≤ (x11_2 : Int) := of_decide_eq_true (by first | (with_reducible assumption) | assumption)
                                                                      have q345 : x11_2 < (l2.length : Int) := of_decide_eq_true (by first | (with_reducible assumption) | assumption)
                                                                      obtain ⟨ad345, e345, hx345_0⟩ := Kd.at_int HR2.out x11_2 p345 q345
                                                                      obtain rfl : ad340 = ad345 := (by injection e345)
                                                                      replace hx345_0 := (HB.out.cell (World.block_lt_of_cell? w _ hx345_0)).trans hx345_0
                                                                      replace p345 := eq_true p345
                                                                      replace q345 := eq_true q345
                                                                      have p346 : 0 ≤ (x12_3 : Int) := of_decide_eq_true (by first | (with_reducible assumption) | assumption)
                                                                      have q346 : x12_3 < (l3.length : Int) := of_decide_eq_true (by first | (with_reducible assumption) | assumption)
                                                                      obtain ⟨ad346, e346, hx346_0⟩ := Kd.at_int HR3.out x12_3 p346 q346
                                                                      obtain rfl : ad342 = ad346 := (by injection e346)
                                                                      replace hx346_0 := (HB.out.cell (World.block_lt_of_cell? w _ hx346_0)).trans hx346_0
                                                                      replace p346 := eq_true p346
                                                                      replace q346 := eq_true q346
                                                                      have p347 : 0 ≤ (x11_2 : Int) := of_decide_eq_true (by first | (with_reducible assumption) | assumption)
                                                                      have q347 : x11_2 < (l3.length : Int) := of_decide_eq_true (by first | (with_reducible assumption) | assumption)
                                                                      obtain ⟨ad347, e347, hx347_0⟩ := Kd.at_int HR3.out x11_2 p347 q347
                                                                      obtain rfl : ad342 = ad347 := (by injection e347)
                                                                      replace hx347_0 := (HB.out.cell (World.block_lt_of_cell? w _ hx347_0)).trans hx347_0
                                                                      replace p347 := eq_true p347
                                                                      replace q347 := eq_true q347
                                                                      go_wp2
                                                                      repeat (go_quiet (fail); try go_wp2)
                                                                      go_ret
                                                                      exact ⟨by first | rfl | (simp [errW_none, errW_some] <;> rfl) | (simp [*, errW_none, errW_some] <;> rfl), by repeat (first | (with_reducible first | exact HB.out | apply below_alloc | apply pw_below_drewN | apply below_drew1) | exact HB.out)⟩
                                                                    · rw [if_neg c57] at H
                                                                      have c57b0 : decide ((rd l3 x12_3) < (rd l3 x11_2)) = false := decide_eq_false c57
                                                                      clear c57
                                                                      have H' := Aside0.mk H
                                                                      clear H
                                                                      have p344 : 0 ≤ (x12_3 : Int) := of_decide_eq_true (by first | (with_reducible assumption) | assumption)
                                                                      have q344 : x12_3 < (l2.length : Int) := of_decide_eq_true (by first | (with_reducible assumption) | assumption)
                                                                      obtain ⟨ad344, e344, hx344_0⟩ := Kd.at_int HR2.out x12_3 p344 q344
                                                                      obtain rfl : ad340 = ad344 := (by injection e344)
                                                                      replace hx344_0 := (HB.out.cell (World.block_lt_of_cell? w _ hx344_0)).trans hx344_0
                                                                      replace p344 := eq_true p344
                                                                      replace q344 := eq_true q344
                                                                      have p345 : 0 ≤ (x11_2 : Int) := of_decide_eq_true (by first | (with_reducible assumption) | assumption)
                                                                      have q345 : x11_2 < (l2.length : Int) := of_decide_eq_true (by first | (with_reducible assumption) | assumption)
                                                                      obtain ⟨ad345, e345, hx345_0⟩ := Kd.at_int HR2.out x11_2 p345 q345
                                                                      obtain rfl : ad340 = ad345 := (by injection e345)
                                                                      replace hx345_0 := (HB.out.cell (World.block_lt_of_cell? w _ hx345_0)).trans hx345_0
                                                                      replace p345 := eq_true p345
                                                                      replace q345 := eq_true q345
                                                                      have p346 : 0 ≤ (x12_3 : Int) := of_decide_eq_true (by first | (with_reducible assumption) | assumption)
                                                                      have q346 : x12_3 < (l3.length : Int) := of_decide_eq_true (by first | (with_reducible assumption) | assumption)
                                                                      obtain ⟨ad346, e346, hx346_0⟩ := Kd.at_int HR3.out x12_3 p346 q346
                                                                      obtain rfl : ad342 = ad346 := (by injection e346)
                                                                      replace hx346_0 := (HB.out.cell (World.block_lt_of_cell? w _ hx346_0)).trans hx346_0
                                                                      replace p346 := eq_true p346
                                                                      replace q346 := eq_true q346
                                                                      have p347 : 0 ≤ (x11_2 : Int) := of_decide_eq_true (by first | (with_reducible assumption) | assumption)
                                                                      have q347 : x11_2 < (l3.length : Int) := of_decide_eq_true (by first | (with_reducible assumption) | assumption)
                                                                      obtain ⟨ad347, e347, hx347_0⟩ := Kd.at_int HR3.out x11_2 p347 q347
                                                                      obtain rfl : ad342 = ad347 := (by injection e347)
                                                                      replace hx347_0 := (HB.out.cell (World.block_lt_of_cell? w _ hx347_0)).trans hx347_0
                                                                      replace p347 := eq_true p347
                                                                      replace q347 := eq_true q347
                                                                      go_wp2
                                                                      repeat (go_quiet (fail); try go_wp2)
                                                                      go_roundg kj40
                                                                      case measure => have := HJ5.out; have := HK2.out; have := HK3.out; have := HJ30.out; have := HJ35.out; have := HJ40.out; omega
                                                                      case rel => exact ⟨(wrap64 (x12_3 + 1)), (by first | rfl | (simp; done) | (simp [*]; done)), H', ⟨by have := HJ5.out; have := HK2.out; have := HK3.out; have := HJ30.out; have := HJ35.out; have := HJ40.out; omega⟩, ⟨by repeat (first | (with_reducible first | exact HB.out | apply below_alloc | apply pw_below_drewN | apply below_drew1) | exact HB.out)⟩⟩
                                                                  · rw [if_neg c56] at H
                                                                    exact absurd H (by simp)
                                                                · rw [if_neg c55] at H
                                                                  exact absurd H (by simp)
                                                              · rw [if_neg c54] at H
                                                                have c54b0 : decide ((rd l2 x11_2) ≤ (rd l2 x12_3)) = false := decide_eq_false c54
                                                                clear c54
                                                                have H' := Aside0.mk H
                                                                clear H
                                                                have p344 : 0 ≤ (x12_3 : Int) := of_decide_eq_true (by first | (with_reducible assumption) | assumption)
                                                                have q344 : x12_3 < (l2.length : Int) := of_decide_eq_true (by first | (with_reducible assumption) | assumption)
                                                                obtain ⟨ad344, e344, hx344_0⟩ := Kd.at_int HR2.out x12_3 p344 q344
                                                                obtain rfl : ad340 = ad344 := (by injection e344)
                                                                replace hx344_0 := (HB.out.cell (World.block_lt_of_cell? w _ hx344_0)).trans hx344_0
                                                                replace p344 := eq_true p344
                                                                replace q344 := eq_true q344
                                                                have p345 : 0 ≤ (x11_2 : Int) := of_decide_eq_true (by first | (with_reducible assumption) | assumption)
                                                                have q345 : x11_2 < (l2.length : Int) := of_decide_eq_true (by first | (with_reducible assumption) | assumption)
                                                                obtain ⟨ad345, e345, hx345_0⟩ := Kd.at_int HR2.out x11_2 p345 q345
                                                                obtain rfl : ad340 = ad345 := (by injection e345)
                                                                replace hx345_0 := (HB.out.cell (World.block_lt_of_cell? w _ hx345_0)).trans hx345_0
                                                                replace p345 := eq_true p345
                                                                replace q345 := eq_true q345
                                                                go_wp2
                                                                repeat (go_quiet (fail); try go_wp2)
                                                                go_roundg kj40
                                                                case measure => have := HJ5.out; have := HK2.out; have := HK3.out; have := HJ30.out; have := HJ35.out; have := HJ40.out; omega
                                                                case rel => exact ⟨(wrap64 (x12_3 + 1)), (by first | rfl | (simp; done) | (simp [*]; done)), H', ⟨by have := HJ5.out; have := HK2.out; have := HK3.out; have := HJ30.out; have := HJ35.out; have := HJ40.out; omega⟩, ⟨by repeat (first | (with_reducible first | exact HB.out | apply below_alloc | apply pw_below_drewN | apply below_drew1) | exact HB.out)⟩⟩
                                                            · rw [if_neg c53] at H
                                                              exact absurd H (by simp)
                                                          · rw [if_neg c52] at H
                                                            exact absurd H (by simp)
                                                        · rw [if_neg c51] at H
                                                          exact absurd H (by simp)
                                                      · rw [if_neg c50] at H
                                                        exact absurd H (by simp)
                                                  · rw [if_neg c48] at H
                                                    have c48b0 : (t338 == 1) = false := by simpa using c48
                                                    (try (have c48b1 : decide (t338 = 1) = false := by simpa using c48))
                                                    (try (have c48b2 : (t338 == 1) = false := by simpa using c48))
                                                    (try (have c48b3 : ¬ (t338 = 1) := by simpa using c48))
                                                    clear c48
                                                    have H' := Aside0.mk H
                                                    clear H
                                                    go_wp2
                                                    repeat (go_quiet (fail); try go_wp2)
                                                    go_roundg kj40
                                                    case measure => have := HJ5.out; have := HK2.out; have := HK3.out; have := HJ30.out; have := HJ35.out; have := HJ40.out; omega
                                                    case rel => exact ⟨(wrap64 (x12_3 + 1)), (by first | rfl | (simp; done) | (simp [*]; done)), H', ⟨by have := HJ5.out; have := HK2.out; have := HK3.out; have := HJ30.out; have := HJ35.out; have := HJ40.out; omega⟩, ⟨by repeat (first | (with_reducible first | exact HB.out | apply below_alloc | apply pw_below_drewN | apply below_drew1) | exact HB.out)⟩⟩
                                                · rw [if_neg c47] at H
                                                  have c47b0 : (a1 == 4) = false := beq_eq_false_iff_ne.mpr c47
                                                  have c47b1 : (a1 != 4) = true := bne_iff_ne.mpr c47
                                                  have H' := Aside0.mk H
                                                  clear H
                                                  go_wp2
                                                  repeat (go_quiet (fail); try go_wp2)
                                                  go_roundg kj40
                                                  case measure => have := HJ5.out; have := HK2.out; have := HK3.out; have := HJ30.out; have := HJ35.out; have := HJ40.out; omega
                                                  case rel => exact ⟨(wrap64 (x12_3 + 1)), (by first | rfl | (simp; done) | (simp [*]; done)), H', ⟨by have := HJ5.out; have := HK2.out; have := HK3.out; have := HJ30.out; have := HJ35.out; have := HJ40.out; omega⟩, ⟨by repeat (first | (with_reducible first | exact HB.out | apply below_alloc | apply pw_below_drewN | apply below_drew1) | exact HB.out)⟩⟩
                            · rw [if_neg c30] at H
                              exact absurd H (by simp)
                          · rw [if_neg c29] at H
                            exact absurd H (by simp)
                        · rw [if_neg c28] at H
                          exact absurd H (by simp)
                      · rw [if_neg c27] at H
                        exact absurd H (by simp)
                    · rw [if_neg c26] at H
                      exact absurd H (by simp)
                  · rw [if_neg c23] at H
                    have c23b0 : decide (x12_3 < (l2.length : Int)) = false := decide_eq_false c23
                    clear c23
                    have H' := Aside0.mk H
                    clear H
                    go_wp2
                    repeat (go_quiet (fail); try go_wp2)
                    go_roundg k3
                    case measure => have := HJ5.out; have := HK2.out; have := HK3.out; omega
                    case rel => exact ⟨(wrap64 (x11_2 + 1)), (by first | rfl | (simp; done) | (simp [*]; done)), H', ⟨by have := HJ5.out; have := HK2.out; have := HK3.out; omega⟩, ⟨by repeat (first | (with_reducible first | exact HB.out | apply below_alloc | apply pw_below_drewN | apply below_drew1) | exact HB.out)⟩⟩
            · rw [if_neg c22] at H
              have c22b0 : decide (x11_2 < (l2.length : Int)) = false := decide_eq_false c22
              clear c22
              obtain rfl := Option.some.inj H
              go_wp2
              repeat (go_quiet (fail); try go_wp2)
              go_ret
              exact ⟨by first | rfl | (simp [errW_none, errW_some] <;> rfl) | (simp [*, errW_none, errW_some] <;> rfl), by repeat (first | (with_reducible first | exact HB.out | apply below_alloc | apply pw_below_drewN | apply below_drew1) | exact HB.out)⟩

end Go.Proofs.Ytfleephpcomimaa.U

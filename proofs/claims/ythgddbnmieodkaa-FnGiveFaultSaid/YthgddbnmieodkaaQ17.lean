/- Contracts of functions of the program: whatever a function's pure reading answers, the call returns. Printed by a program of this session (the kit's print, with contracts by hand beside it). Conditions: those of each theorem. -/
import Derived.Test.YthgddbnmieodkaaQ0
namespace Go.Proofs.Ythgddbnmieodkaa.Q
open Go.Proofs.BelM
open Go.RowKit Go.Proofs.YthgddbnmieodkaaW.PrintWords Go.Proofs.YthgddbnmieodkaaW.PrintLast Go.Proofs.YthgddbnmieodkaaW.PrintMore
attribute [local go_sem] max2_int min2_int max_two min_two max_three min_three max_four min_four   -- for this text's walks alone
set_option linter.unusedVariables false
set_option linter.unusedSimpArgs false

/-! ### impl_firstFault: function 71 -/
mutual
def impl_firstFault.l0 : Nat → List Int → List Int → Int → Int → Option (Int)
  | 0, _, _, _, _ => none
  | k + 1, x0, x10, x11, x12 => if x12 < x11 then (if 0 ≤ x12 then (if x12 < (x10.length : Int) then (if (Go.bits .andNot .i64 (rd x10 x12) x12) = 0 then (impl_firstFault.l0 k x0 x10 x11 (wrap64 (x12 + 1))) else (some 1)) else (none)) else (none)) else (impl_firstFault.l1 k x0 x0 (x0.length : Int) 0)
def impl_firstFault.l1 : Nat → List Int → List Int → Int → Int → Option (Int)
  | 0, _, _, _, _ => none
  | k + 1, x0, x22, x23, x24 => if x24 < x23 then (if 0 ≤ x24 then (if x24 < (x22.length : Int) then (if (((rd x22 x24) == 0) != (x24 == 0)) = true then (some 2) else (impl_firstFault.l1 k x0 x22 x23 (wrap64 (x24 + 1)))) else (none)) else (none)) else (impl_firstFault.l2 k x0 x0 (x0.length : Int) 0)
def impl_firstFault.l2 : Nat → List Int → List Int → Int → Int → Option (Int)
  | 0, _, _, _, _ => none
  | k + 1, x0, x35, x36, x37 => if x37 < x36 then (if 0 ≤ x37 then (if x37 < (x35.length : Int) then (impl_firstFault.l3 k x0 x37 (rd x35 x37) x35 x36 x37 (x0.length : Int) 0) else (none)) else (none)) else (some 0)
def impl_firstFault.l3 : Nat → List Int → Int → Int → List Int → Int → Int → Int → Int → Option (Int)
  | 0, _, _, _, _, _, _, _, _ => none
  | k + 1, x0, x7, x8, x35, x36, x37, x43, x44 => if x44 < x43 then (if (Go.bits .and .i64 x8 x44) = 0 then (impl_firstFault.l3 k x0 x7 x8 x35 x36 x37 x43 (wrap64 (x44 + 1))) else (if 0 ≤ (Go.bits .and .i64 x7 x44) then (if (Go.bits .and .i64 x7 x44) < (x0.length : Int) then (if (Go.bits .and .i64 x8 x44) = (rd x0 (Go.bits .and .i64 x7 x44)) then (impl_firstFault.l3 k x0 x7 x8 x35 x36 x37 x43 (wrap64 (x44 + 1))) else (some 3)) else (none)) else (none))) else (impl_firstFault.l2 k x0 x35 x36 (wrap64 (x37 + 1)))
end
def impl_firstFault.f (k : Nat) (l0 : List Int) : Option (Int) := impl_firstFault.l0 k l0 l0 (l0.length : Int) 0
theorem impl_firstFault.mono_l : ∀ k, (∀ y0 y1 y2 y3, LeO (impl_firstFault.l0 k y0 y1 y2 y3) (impl_firstFault.l0 (k + 1) y0 y1 y2 y3)) ∧ (∀ y0 y1 y2 y3, LeO (impl_firstFault.l1 k y0 y1 y2 y3) (impl_firstFault.l1 (k + 1) y0 y1 y2 y3)) ∧ (∀ y0 y1 y2 y3, LeO (impl_firstFault.l2 k y0 y1 y2 y3) (impl_firstFault.l2 (k + 1) y0 y1 y2 y3)) ∧ (∀ y0 y1 y2 y3 y4 y5 y6 y7, LeO (impl_firstFault.l3 k y0 y1 y2 y3 y4 y5 y6 y7) (impl_firstFault.l3 (k + 1) y0 y1 y2 y3 y4 y5 y6 y7))
  | 0 => ⟨fun _ _ _ _ r h => by simp [impl_firstFault.l0] at h, fun _ _ _ _ r h => by simp [impl_firstFault.l1] at h, fun _ _ _ _ r h => by simp [impl_firstFault.l2] at h, fun _ _ _ _ _ _ _ _ r h => by simp [impl_firstFault.l3] at h⟩
  | k + 1 => by
    obtain ⟨ih0, ih1, ih2, ih3⟩ := impl_firstFault.mono_l k
    refine ⟨?_, ?_, ?_, ?_⟩
    · intro y0 y1 y2 y3
      unfold impl_firstFault.l0
      repeat' first
      | (with_reducible exact ih0 _ _ _ _)
      | (with_reducible exact ih1 _ _ _ _)
      | (with_reducible exact ih2 _ _ _ _)
      | (with_reducible exact ih3 _ _ _ _ _ _ _ _)
      | (with_reducible exact LeO.refl _)
      | (with_reducible exact LeO.none _)
      | (with_reducible refine LeO.ite ?_ ?_)
      | (with_reducible refine LeO.bind ?_ (fun _ => ?_))
      | exact ih0 _ _ _ _
      | exact ih1 _ _ _ _
      | exact ih2 _ _ _ _
      | exact ih3 _ _ _ _ _ _ _ _
      | exact LeO.none _
      | refine LeO.ite ?_ ?_
      | refine LeO.bind ?_ (fun _ => ?_)
    · intro y0 y1 y2 y3
      unfold impl_firstFault.l1
      repeat' first
      | (with_reducible exact ih0 _ _ _ _)
      | (with_reducible exact ih1 _ _ _ _)
      | (with_reducible exact ih2 _ _ _ _)
      | (with_reducible exact ih3 _ _ _ _ _ _ _ _)
      | (with_reducible exact LeO.refl _)
      | (with_reducible exact LeO.none _)
      | (with_reducible refine LeO.ite ?_ ?_)
      | (with_reducible refine LeO.bind ?_ (fun _ => ?_))
      | exact ih0 _ _ _ _
      | exact ih1 _ _ _ _
      | exact ih2 _ _ _ _
      | exact ih3 _ _ _ _ _ _ _ _
      | exact LeO.none _
      | refine LeO.ite ?_ ?_
      | refine LeO.bind ?_ (fun _ => ?_)
    · intro y0 y1 y2 y3
      unfold impl_firstFault.l2
      repeat' first
      | (with_reducible exact ih0 _ _ _ _)
      | (with_reducible exact ih1 _ _ _ _)
      | (with_reducible exact ih2 _ _ _ _)
      | (with_reducible exact ih3 _ _ _ _ _ _ _ _)
      | (with_reducible exact LeO.refl _)
      | (with_reducible exact LeO.none _)
      | (with_reducible refine LeO.ite ?_ ?_)
      | (with_reducible refine LeO.bind ?_ (fun _ => ?_))
      | exact ih0 _ _ _ _
      | exact ih1 _ _ _ _
      | exact ih2 _ _ _ _
      | exact ih3 _ _ _ _ _ _ _ _
      | exact LeO.none _
      | refine LeO.ite ?_ ?_
      | refine LeO.bind ?_ (fun _ => ?_)
    · intro y0 y1 y2 y3 y4 y5 y6 y7
      unfold impl_firstFault.l3
      repeat' first
      | (with_reducible exact ih0 _ _ _ _)
      | (with_reducible exact ih1 _ _ _ _)
      | (with_reducible exact ih2 _ _ _ _)
      | (with_reducible exact ih3 _ _ _ _ _ _ _ _)
      | (with_reducible exact LeO.refl _)
      | (with_reducible exact LeO.none _)
      | (with_reducible refine LeO.ite ?_ ?_)
      | (with_reducible refine LeO.bind ?_ (fun _ => ?_))
      | exact ih0 _ _ _ _
      | exact ih1 _ _ _ _
      | exact ih2 _ _ _ _
      | exact ih3 _ _ _ _ _ _ _ _
      | exact LeO.none _
      | refine LeO.ite ?_ ?_
      | refine LeO.bind ?_ (fun _ => ?_)
theorem impl_firstFault.mono : ∀ a0 k, LeO (impl_firstFault.f k a0) (impl_firstFault.f (k + 1) a0) := by
  intro a0 k
  obtain ⟨ih0, ih1, ih2, ih3⟩ := impl_firstFault.mono_l k
  unfold impl_firstFault.f
  repeat' first
      | (with_reducible exact ih0 _ _ _ _)
      | (with_reducible exact ih1 _ _ _ _)
      | (with_reducible exact ih2 _ _ _ _)
      | (with_reducible exact ih3 _ _ _ _ _ _ _ _)
      | (with_reducible exact LeO.refl _)
      | (with_reducible exact LeO.none _)
      | (with_reducible refine LeO.ite ?_ ?_)
      | (with_reducible refine LeO.bind ?_ (fun _ => ?_))
      | exact ih0 _ _ _ _
      | exact ih1 _ _ _ _
      | exact ih2 _ _ _ _
      | exact ih3 _ _ _ _ _ _ _ _
      | exact LeO.none _
      | refine LeO.ite ?_ ?_
      | refine LeO.bind ?_ (fun _ => ?_)
set_option maxHeartbeats 8000000 in
set_option maxRecDepth 100000 in
theorem impl_firstFault.calls (k : Nat) (A0 : Option Addr) (c0 : Nat) (l0 : List Int) (r : Int) (w : World) (hr0 : Kd.C (Kd.int .i64) w A0 l0.length l0) (hc0 : l0.length ≤ c0) (h : impl_firstFault.f k l0 = some r) :
    Calls Try.prog 71 #[.slice A0 l0.length c0] w fun e w' => e = .returned (.int .i64 r) ∧ Drawn0 w w' := by
  have HR0 := Aside0.mk hr0
  have HC0 := Aside0.mk hc0
  clear hr0 hc0
  have H : (impl_firstFault.l0 k l0 l0 (l0.length : Int) 0) = some r := h
  clear h
  have H' := Aside0.mk H
  clear H
  go_enter Try.func71, Try.ntmps71
  go_wp2
  go_loopg [12] k (fun kq v12 w' => ∃ (x12_1 : Int), v12 = .int .i64 x12_1 ∧ Aside0 (impl_firstFault.l0 kq l0 l0 (l0.length : Int) x12_1 = some r) ∧ Aside0 (kq ≤ k) ∧ Drawn0 w w')
  case atStart => exact ⟨(0), (by first | rfl | (simp; done) | (simp [*]; done)), H', ⟨Nat.le_refl _⟩, by repeat (first | exact Drawn0.refl _ | apply Drawn0.step)⟩
  case round =>
    clear H'
    obtain ⟨x12_1, rfl, HA, HK1, ⟨m1, rfl⟩⟩ := hrel
    cases gk with
    | zero => exact absurd HA.out (by simp [impl_firstFault.l0])
    | succ k1 =>
      have H := HA.out
      clear HA
      simp only [impl_firstFault.l0] at H
      by_cases c2 : x12_1 < (l0.length : Int)
      · rw [if_pos c2] at H
        have c2b0 : decide (x12_1 < (l0.length : Int)) = true := decide_eq_true c2
        clear c2
        by_cases c3 : 0 ≤ x12_1
        · rw [if_pos c3] at H
          have c3b0 : decide (0 ≤ x12_1) = true := decide_eq_true c3
          clear c3
          by_cases c4 : x12_1 < (l0.length : Int)
          · rw [if_pos c4] at H
            have c4b0 : decide (x12_1 < (l0.length : Int)) = true := decide_eq_true c4
            clear c4
            by_cases c5 : (Go.bits .andNot .i64 (rd l0 x12_1) x12_1) = 0
            · rw [if_pos c5] at H
              have c5b0 : ((Go.bits .andNot .i64 (rd l0 x12_1) x12_1) == 0) = true := beq_iff_eq.mpr c5
              have c5b1 : ((Go.bits .andNot .i64 (rd l0 x12_1) x12_1) != 0) = false := bne_eq_false_iff_eq.mpr c5
              clear c5
              have H' := Aside0.mk H
              clear H
              have p356 : 0 ≤ (x12_1 : Int) := of_decide_eq_true (by first | (with_reducible assumption) | assumption)
              have q356 : x12_1 < (l0.length : Int) := of_decide_eq_true (by first | (with_reducible assumption) | assumption)
              obtain ⟨ad356, e356, hx356_0⟩ := Kd.at_int HR0.out x12_1 p356 q356
              cases e356
              replace p356 := eq_true p356
              replace q356 := eq_true q356
              go_wp2
              go_roundg k1
              case measure => have := HK1.out; omega
              case rel => exact ⟨(wrap64 (x12_1 + 1)), (by first | rfl | (simp; done) | (simp [*]; done)), H', ⟨by have := HK1.out; omega⟩, by repeat (first | exact Drawn0.refl _ | apply Drawn0.step)⟩
            · rw [if_neg c5] at H
              have c5b0 : ((Go.bits .andNot .i64 (rd l0 x12_1) x12_1) == 0) = false := beq_eq_false_iff_ne.mpr c5
              have c5b1 : ((Go.bits .andNot .i64 (rd l0 x12_1) x12_1) != 0) = true := bne_iff_ne.mpr c5
              obtain rfl := Option.some.inj H
              have p356 : 0 ≤ (x12_1 : Int) := of_decide_eq_true (by first | (with_reducible assumption) | assumption)
              have q356 : x12_1 < (l0.length : Int) := of_decide_eq_true (by first | (with_reducible assumption) | assumption)
              obtain ⟨ad356, e356, hx356_0⟩ := Kd.at_int HR0.out x12_1 p356 q356
              cases e356
              replace p356 := eq_true p356
              replace q356 := eq_true q356
              go_wp2
              go_ret
              exact ⟨by first | rfl | (simp; done) | (simp [*]; done), by repeat (first | exact Drawn0.refl _ | apply Drawn0.step)⟩
          · rw [if_neg c4] at H
            exact absurd H (by simp)
        · rw [if_neg c3] at H
          exact absurd H (by simp)
      · rw [if_neg c2] at H
        have c2b0 : decide (x12_1 < (l0.length : Int)) = false := decide_eq_false c2
        clear c2
        have H' := Aside0.mk H
        clear H
        go_wp2
        go_loopg [24] k1 (fun kq v24 w' => ∃ (x24_2 : Int), v24 = .int .i64 x24_2 ∧ Aside0 (impl_firstFault.l1 kq l0 l0 (l0.length : Int) x24_2 = some r) ∧ Aside0 (kq ≤ k1) ∧ Drawn0 w w')
        case atStart => exact ⟨(0), (by first | rfl | (simp; done) | (simp [*]; done)), H', ⟨Nat.le_refl _⟩, by repeat (first | exact Drawn0.refl _ | apply Drawn0.step)⟩
        case round =>
          clear H'
          try clear c2
          try clear c2b0
          try clear p2
          try clear c3
          try clear c3b0
          try clear p3
          try clear q3
          try clear hx3
          try clear c4
          try clear c4b0
          try clear c5
          try clear c5b0
          try clear c5b1
          try clear hx356_0
          try clear p356
          try clear q356
          obtain ⟨x24_2, rfl, HA, HK2, ⟨m2, rfl⟩⟩ := hrel
          cases gk with
          | zero => exact absurd HA.out (by simp [impl_firstFault.l1])
          | succ k2 =>
            have H := HA.out
            clear HA
            simp only [impl_firstFault.l1] at H
            by_cases c6 : x24_2 < (l0.length : Int)
            · rw [if_pos c6] at H
              have c6b0 : decide (x24_2 < (l0.length : Int)) = true := decide_eq_true c6
              clear c6
              by_cases c7 : 0 ≤ x24_2
              · rw [if_pos c7] at H
                have c7b0 : decide (0 ≤ x24_2) = true := decide_eq_true c7
                clear c7
                by_cases c8 : x24_2 < (l0.length : Int)
                · rw [if_pos c8] at H
                  have c8b0 : decide (x24_2 < (l0.length : Int)) = true := decide_eq_true c8
                  clear c8
                  by_cases c9 : (((rd l0 x24_2) == 0) != (x24_2 == 0)) = true
                  · rw [if_pos c9] at H
                    have c9b0 : (((rd l0 x24_2) == 0) != (x24_2 == 0)) = true := c9
                    (try (have c9b1 : decide (((rd l0 x24_2) == 0) = (x24_2 == 0)) = false := by simpa using c9))
                    (try (have c9b2 : (((rd l0 x24_2) == 0) == (x24_2 == 0)) = false := by simpa using c9))
                    (try (have c9b3 : ¬ (((rd l0 x24_2) == 0) = (x24_2 == 0)) := by simpa using c9))
                    clear c9
                    obtain rfl := Option.some.inj H
                    have p357 : 0 ≤ (x24_2 : Int) := of_decide_eq_true (by first | (with_reducible assumption) | assumption)
                    have q357 : x24_2 < (l0.length : Int) := of_decide_eq_true (by first | (with_reducible assumption) | assumption)
                    obtain ⟨ad357, e357, hx357_0⟩ := Kd.at_int HR0.out x24_2 p357 q357
                    cases e357
                    replace p357 := eq_true p357
                    replace q357 := eq_true q357
                    go_wp2
                    go_ret
                    exact ⟨by first | rfl | (simp; done) | (simp [*]; done), by repeat (first | exact Drawn0.refl _ | apply Drawn0.step)⟩
                  · rw [if_neg c9] at H
                    have c9b0 : (((rd l0 x24_2) == 0) != (x24_2 == 0)) = false := by simpa using c9
                    (try (have c9b1 : decide (((rd l0 x24_2) == 0) = (x24_2 == 0)) = true := by simpa using c9))
                    (try (have c9b2 : (((rd l0 x24_2) == 0) == (x24_2 == 0)) = true := by simpa using c9))
                    clear c9
                    have H' := Aside0.mk H
                    clear H
                    have p357 : 0 ≤ (x24_2 : Int) := of_decide_eq_true (by first | (with_reducible assumption) | assumption)
                    have q357 : x24_2 < (l0.length : Int) := of_decide_eq_true (by first | (with_reducible assumption) | assumption)
                    obtain ⟨ad357, e357, hx357_0⟩ := Kd.at_int HR0.out x24_2 p357 q357
                    cases e357
                    replace p357 := eq_true p357
                    replace q357 := eq_true q357
                    go_wp2
                    go_roundg k2
                    case measure => have := HK1.out; have := HK2.out; omega
                    case rel => exact ⟨(wrap64 (x24_2 + 1)), (by first | rfl | (simp; done) | (simp [*]; done)), H', ⟨by have := HK1.out; have := HK2.out; omega⟩, by repeat (first | exact Drawn0.refl _ | apply Drawn0.step)⟩
                · rw [if_neg c8] at H
                  exact absurd H (by simp)
              · rw [if_neg c7] at H
                exact absurd H (by simp)
            · rw [if_neg c6] at H
              have c6b0 : decide (x24_2 < (l0.length : Int)) = false := decide_eq_false c6
              clear c6
              have H' := Aside0.mk H
              clear H
              go_wp2
              go_loopg [37] k2 (fun kq v37 w' => ∃ (x37_3 : Int), v37 = .int .i64 x37_3 ∧ Aside0 (impl_firstFault.l2 kq l0 l0 (l0.length : Int) x37_3 = some r) ∧ Aside0 (kq ≤ k2) ∧ Drawn0 w w')
              case atStart => exact ⟨(0), (by first | rfl | (simp; done) | (simp [*]; done)), H', ⟨Nat.le_refl _⟩, by repeat (first | exact Drawn0.refl _ | apply Drawn0.step)⟩
              case round =>
                clear H'
                try clear c2
                try clear c2b0
                try clear p2
                try clear c3
                try clear c3b0
                try clear p3
                try clear q3
                try clear hx3
                try clear c4
                try clear c4b0
                try clear c5
                try clear c5b0
                try clear c5b1
                try clear c6
                try clear c6b0
                try clear p6
                try clear c7
                try clear c7b0
                try clear c8
                try clear c8b0
                try clear c9
                try clear c9b0
                try clear c9b1
                try clear c9b2
                try clear hx356_0
                try clear hx357_0
                try clear p2
                try clear p3
                try clear p356
                try clear p357
                try clear q3
                try clear q356
                try clear q357
                obtain ⟨x37_3, rfl, HA, HK3, ⟨m3, rfl⟩⟩ := hrel
                cases gk with
                | zero => exact absurd HA.out (by simp [impl_firstFault.l2])
                | succ k3 =>
                  have H := HA.out
                  clear HA
                  simp only [impl_firstFault.l2] at H
                  by_cases c10 : x37_3 < (l0.length : Int)
                  · rw [if_pos c10] at H
                    have c10b0 : decide (x37_3 < (l0.length : Int)) = true := decide_eq_true c10
                    clear c10
                    by_cases c11 : 0 ≤ x37_3
                    · rw [if_pos c11] at H
                      have c11b0 : decide (0 ≤ x37_3) = true := decide_eq_true c11
                      clear c11
                      by_cases c12 : x37_3 < (l0.length : Int)
                      · rw [if_pos c12] at H
                        have c12b0 : decide (x37_3 < (l0.length : Int)) = true := decide_eq_true c12
                        clear c12
                        have H' := Aside0.mk H
                        clear H
                        have p358 : 0 ≤ (x37_3 : Int) := of_decide_eq_true (by first | (with_reducible assumption) | assumption)
                        have q358 : x37_3 < (l0.length : Int) := of_decide_eq_true (by first | (with_reducible assumption) | assumption)
                        obtain ⟨ad358, e358, hx358_0⟩ := Kd.at_int HR0.out x37_3 p358 q358
                        cases e358
                        replace p358 := eq_true p358
                        replace q358 := eq_true q358
                        go_wp2
                        go_loopg [44] k3 (fun kq v44 w' => ∃ (x44_4 : Int), v44 = .int .i64 x44_4 ∧ Aside0 (impl_firstFault.l3 kq l0 x37_3 (rd l0 x37_3) l0 (l0.length : Int) x37_3 (l0.length : Int) x44_4 = some r) ∧ Aside0 (kq ≤ k3) ∧ Drawn0 w w')
                        case atStart => exact ⟨(0), (by first | rfl | (simp; done) | (simp [*]; done)), H', ⟨Nat.le_refl _⟩, by repeat (first | exact Drawn0.refl _ | apply Drawn0.step)⟩
                        case round =>
                          clear H'
                          try clear c1
                          try clear c2
                          try clear c2b0
                          try clear p2
                          try clear c3
                          try clear c3b0
                          try clear p3
                          try clear q3
                          try clear hx3
                          try clear c4
                          try clear c4b0
                          try clear c5
                          try clear c5b0
                          try clear c5b1
                          try clear c6
                          try clear c6b0
                          try clear p6
                          try clear c7
                          try clear c7b0
                          try clear c8
                          try clear c8b0
                          try clear c9
                          try clear c9b0
                          try clear c9b1
                          try clear c9b2
                          try clear c10
                          try clear c10b0
                          try clear c11
                          try clear c11b0
                          try clear c12
                          try clear c12b0
                          try clear hx356_0
                          try clear hx357_0
                          try clear hx358_0
                          try clear p2
                          try clear p3
                          try clear p356
                          try clear p357
                          try clear p358
                          try clear p6
                          try clear q3
                          try clear q356
                          try clear q357
                          try clear q358
                          obtain ⟨x44_4, rfl, HA, HK4, ⟨m4, rfl⟩⟩ := hrel
                          cases gk with
                          | zero => exact absurd HA.out (by simp [impl_firstFault.l3])
                          | succ k4 =>
                            have H := HA.out
                            clear HA
                            simp only [impl_firstFault.l3] at H
                            by_cases c13 : x44_4 < (l0.length : Int)
                            · rw [if_pos c13] at H
                              have c13b0 : decide (x44_4 < (l0.length : Int)) = true := decide_eq_true c13
                              clear c13
                              by_cases c14 : (Go.bits .and .i64 (rd l0 x37_3) x44_4) = 0
                              · rw [if_pos c14] at H
                                have c14b0 : ((Go.bits .and .i64 (rd l0 x37_3) x44_4) == 0) = true := beq_iff_eq.mpr c14
                                have c14b1 : ((Go.bits .and .i64 (rd l0 x37_3) x44_4) != 0) = false := bne_eq_false_iff_eq.mpr c14
                                clear c14
                                have H' := Aside0.mk H
                                clear H
                                go_wp2
                                go_roundg k4
                                case measure => have := HK1.out; have := HK2.out; have := HK3.out; have := HK4.out; omega
                                case rel => exact ⟨(wrap64 (x44_4 + 1)), (by first | rfl | (simp; done) | (simp [*]; done)), H', ⟨by have := HK1.out; have := HK2.out; have := HK3.out; have := HK4.out; omega⟩, by repeat (first | exact Drawn0.refl _ | apply Drawn0.step)⟩
                              · rw [if_neg c14] at H
                                have c14b0 : ((Go.bits .and .i64 (rd l0 x37_3) x44_4) == 0) = false := beq_eq_false_iff_ne.mpr c14
                                have c14b1 : ((Go.bits .and .i64 (rd l0 x37_3) x44_4) != 0) = true := bne_iff_ne.mpr c14
                                by_cases c15 : 0 ≤ (Go.bits .and .i64 x37_3 x44_4)
                                · rw [if_pos c15] at H
                                  have c15b0 : decide (0 ≤ (Go.bits .and .i64 x37_3 x44_4)) = true := decide_eq_true c15
                                  clear c15
                                  by_cases c16 : (Go.bits .and .i64 x37_3 x44_4) < (l0.length : Int)
                                  · rw [if_pos c16] at H
                                    have c16b0 : decide ((Go.bits .and .i64 x37_3 x44_4) < (l0.length : Int)) = true := decide_eq_true c16
                                    clear c16
                                    by_cases c17 : (Go.bits .and .i64 (rd l0 x37_3) x44_4) = (rd l0 (Go.bits .and .i64 x37_3 x44_4))
                                    · rw [if_pos c17] at H
                                      have c17b0 : ((Go.bits .and .i64 (rd l0 x37_3) x44_4) == (rd l0 (Go.bits .and .i64 x37_3 x44_4))) = true := beq_iff_eq.mpr c17
                                      have c17b1 : ((Go.bits .and .i64 (rd l0 x37_3) x44_4) != (rd l0 (Go.bits .and .i64 x37_3 x44_4))) = false := bne_eq_false_iff_eq.mpr c17
                                      clear c17
                                      have H' := Aside0.mk H
                                      clear H
                                      have p359 : 0 ≤ ((Go.bits .and .i64 x37_3 x44_4) : Int) := of_decide_eq_true (by first | (with_reducible assumption) | assumption)
                                      have q359 : (Go.bits .and .i64 x37_3 x44_4) < (l0.length : Int) := of_decide_eq_true (by first | (with_reducible assumption) | assumption)
                                      obtain ⟨ad359, e359, hx359_0⟩ := Kd.at_int HR0.out (Go.bits .and .i64 x37_3 x44_4) p359 q359
                                      obtain rfl : ad358 = ad359 := (by injection e359)
                                      replace p359 := eq_true p359
                                      replace q359 := eq_true q359
                                      go_wp2
                                      go_roundg k4
                                      case measure => have := HK1.out; have := HK2.out; have := HK3.out; have := HK4.out; omega
                                      case rel => exact ⟨(wrap64 (x44_4 + 1)), (by first | rfl | (simp; done) | (simp [*]; done)), H', ⟨by have := HK1.out; have := HK2.out; have := HK3.out; have := HK4.out; omega⟩, by repeat (first | exact Drawn0.refl _ | apply Drawn0.step)⟩
                                    · rw [if_neg c17] at H
                                      have c17b0 : ((Go.bits .and .i64 (rd l0 x37_3) x44_4) == (rd l0 (Go.bits .and .i64 x37_3 x44_4))) = false := beq_eq_false_iff_ne.mpr c17
                                      have c17b1 : ((Go.bits .and .i64 (rd l0 x37_3) x44_4) != (rd l0 (Go.bits .and .i64 x37_3 x44_4))) = true := bne_iff_ne.mpr c17
                                      obtain rfl := Option.some.inj H
                                      have p359 : 0 ≤ ((Go.bits .and .i64 x37_3 x44_4) : Int) := of_decide_eq_true (by first | (with_reducible assumption) | assumption)
                                      have q359 : (Go.bits .and .i64 x37_3 x44_4) < (l0.length : Int) := of_decide_eq_true (by first | (with_reducible assumption) | assumption)
                                      obtain ⟨ad359, e359, hx359_0⟩ := Kd.at_int HR0.out (Go.bits .and .i64 x37_3 x44_4) p359 q359
                                      obtain rfl : ad358 = ad359 := (by injection e359)
                                      replace p359 := eq_true p359
                                      replace q359 := eq_true q359
                                      go_wp2
                                      go_ret
                                      exact ⟨by first | rfl | (simp; done) | (simp [*]; done), by repeat (first | exact Drawn0.refl _ | apply Drawn0.step)⟩
                                  · rw [if_neg c16] at H
                                    exact absurd H (by simp)
                                · rw [if_neg c15] at H
                                  exact absurd H (by simp)
                            · rw [if_neg c13] at H
                              have c13b0 : decide (x44_4 < (l0.length : Int)) = false := decide_eq_false c13
                              clear c13
                              have H' := Aside0.mk H
                              clear H
                              go_wp2
                              go_roundg k4
                              case measure => have := HK1.out; have := HK2.out; have := HK3.out; have := HK4.out; omega
                              case rel => exact ⟨(wrap64 (x37_3 + 1)), (by first | rfl | (simp; done) | (simp [*]; done)), H', ⟨by have := HK1.out; have := HK2.out; have := HK3.out; have := HK4.out; omega⟩, by repeat (first | exact Drawn0.refl _ | apply Drawn0.step)⟩
                      · rw [if_neg c12] at H
                        exact absurd H (by simp)
                    · rw [if_neg c11] at H
                      exact absurd H (by simp)
                  · rw [if_neg c10] at H
                    have c10b0 : decide (x37_3 < (l0.length : Int)) = false := decide_eq_false c10
                    clear c10
                    obtain rfl := Option.some.inj H
                    go_wp2
                    go_ret
                    exact ⟨by first | rfl | (simp; done) | (simp [*]; done), by repeat (first | exact Drawn0.refl _ | apply Drawn0.step)⟩

end Go.Proofs.Ythgddbnmieodkaa.Q

/- Contracts of functions of the program: whatever a function's pure reading answers, the call returns. Printed by a program of this session (the kit's print, with contracts by hand beside it). Conditions: those of each theorem. -/
import Derived.Test.YthgddbnmieodkaaQ0
namespace Go.Proofs.Ythgddbnmieodkaa.Q
open Go.Proofs.BelM
open Go.RowKit Go.Proofs.YthgddbnmieodkaaW.PrintWords Go.Proofs.YthgddbnmieodkaaW.PrintLast Go.Proofs.YthgddbnmieodkaaW.PrintMore
attribute [local go_sem] max2_int min2_int max_two min_two max_three min_three max_four min_four   -- for this text's walks alone
set_option linter.unusedVariables false
set_option linter.unusedSimpArgs false

/-! ### impl_giveFault: function 67 -/
mutual
def impl_giveFault.l0 : Nat → List Int → Int → Int → List Int → Int → Int → Option (Int)
  | 0, _, _, _, _, _, _ => none
  | k + 1, x0, x3, x4, x20, x21, x22 => if x22 < x21 then (if 0 ≤ x22 then (if x22 < (x20.length : Int) then (if x4 = 0 then (some 1) else (if (Go.bits .andNot .i64 x4 (rd x20 x22)) = 0 then (impl_giveFault.l0 k x0 x3 x4 x20 x21 (wrap64 (x22 + 1))) else (some 1))) else (none)) else (none)) else (impl_giveFault.l1 k x0 x3 x4 x0 (x0.length : Int) 0)
def impl_giveFault.l1 : Nat → List Int → Int → Int → List Int → Int → Int → Option (Int)
  | 0, _, _, _, _, _, _ => none
  | k + 1, x0, x3, x4, x35, x36, x37 => if x37 < x36 then (if 0 ≤ x37 then (if x37 < (x35.length : Int) then (if (Go.bits .andNot .i64 x4 x37) = 0 then (impl_giveFault.l1 k x0 x3 x4 x35 x36 (wrap64 (x37 + 1))) else (if (rd x35 x37) = x4 then (impl_giveFault.l1 k x0 x3 x4 x35 x36 (wrap64 (x37 + 1))) else (some 2))) else (none)) else (none)) else (impl_giveFault.l2 k x0 x3 x4 x0 (x0.length : Int) 0)
def impl_giveFault.l2 : Nat → List Int → Int → Int → List Int → Int → Int → Option (Int)
  | 0, _, _, _, _, _, _ => none
  | k + 1, x0, x3, x4, x52, x53, x54 => if x54 < x53 then (if 0 ≤ x54 then (if x54 < (x52.length : Int) then (if x54 = x3 then (impl_giveFault.l2 k x0 x3 x4 x52 x53 (wrap64 (x54 + 1))) else (if (Go.bits .andNot .i64 (rd x52 x54) x54) = 0 then (some 3) else (impl_giveFault.l2 k x0 x3 x4 x52 x53 (wrap64 (x54 + 1))))) else (none)) else (none)) else (impl_giveFault.l3 k x4 x0 (x0.length : Int) 0)
def impl_giveFault.l3 : Nat → Int → List Int → Int → Int → Option (Int)
  | 0, _, _, _, _ => none
  | k + 1, x4, x69, x70, x71 => if x71 < x70 then (if 0 ≤ x71 then (if x71 < (x69.length : Int) then (if (Go.bits .and .i64 (Go.bits .andNot .i64 (rd x69 x71) x4) x71) = 0 then (impl_giveFault.l3 k x4 x69 x70 (wrap64 (x71 + 1))) else (some 4)) else (none)) else (none)) else (some 0)
end
def impl_giveFault.f (k : Nat) (l0 : List Int) : Option (Int) := if 0 ≤ (wrap64 ((l0.length : Int) - 1)) then (if (wrap64 ((l0.length : Int) - 1)) < (l0.length : Int) then (impl_giveFault.l0 k l0 (wrap64 ((l0.length : Int) - 1)) (rd l0 (wrap64 ((l0.length : Int) - 1))) l0 (l0.length : Int) 0) else (none)) else (none)
theorem impl_giveFault.mono_l : ∀ k, (∀ y0 y1 y2 y3 y4 y5, LeO (impl_giveFault.l0 k y0 y1 y2 y3 y4 y5) (impl_giveFault.l0 (k + 1) y0 y1 y2 y3 y4 y5)) ∧ (∀ y0 y1 y2 y3 y4 y5, LeO (impl_giveFault.l1 k y0 y1 y2 y3 y4 y5) (impl_giveFault.l1 (k + 1) y0 y1 y2 y3 y4 y5)) ∧ (∀ y0 y1 y2 y3 y4 y5, LeO (impl_giveFault.l2 k y0 y1 y2 y3 y4 y5) (impl_giveFault.l2 (k + 1) y0 y1 y2 y3 y4 y5)) ∧ (∀ y0 y1 y2 y3, LeO (impl_giveFault.l3 k y0 y1 y2 y3) (impl_giveFault.l3 (k + 1) y0 y1 y2 y3))
  | 0 => ⟨fun _ _ _ _ _ _ r h => by simp [impl_giveFault.l0] at h, fun _ _ _ _ _ _ r h => by simp [impl_giveFault.l1] at h, fun _ _ _ _ _ _ r h => by simp [impl_giveFault.l2] at h, fun _ _ _ _ r h => by simp [impl_giveFault.l3] at h⟩
  | k + 1 => by
    obtain ⟨ih0, ih1, ih2, ih3⟩ := impl_giveFault.mono_l k
    refine ⟨?_, ?_, ?_, ?_⟩
    · intro y0 y1 y2 y3 y4 y5
      unfold impl_giveFault.l0
      repeat' first
      | (with_reducible exact ih0 _ _ _ _ _ _)
      | (with_reducible exact ih1 _ _ _ _ _ _)
      | (with_reducible exact ih2 _ _ _ _ _ _)
      | (with_reducible exact ih3 _ _ _ _)
      | (with_reducible exact LeO.refl _)
      | (with_reducible exact LeO.none _)
      | (with_reducible refine LeO.ite ?_ ?_)
      | (with_reducible refine LeO.bind ?_ (fun _ => ?_))
      | exact ih0 _ _ _ _ _ _
      | exact ih1 _ _ _ _ _ _
      | exact ih2 _ _ _ _ _ _
      | exact ih3 _ _ _ _
      | exact LeO.none _
      | refine LeO.ite ?_ ?_
      | refine LeO.bind ?_ (fun _ => ?_)
    · intro y0 y1 y2 y3 y4 y5
      unfold impl_giveFault.l1
      repeat' first
      | (with_reducible exact ih0 _ _ _ _ _ _)
      | (with_reducible exact ih1 _ _ _ _ _ _)
      | (with_reducible exact ih2 _ _ _ _ _ _)
      | (with_reducible exact ih3 _ _ _ _)
      | (with_reducible exact LeO.refl _)
      | (with_reducible exact LeO.none _)
      | (with_reducible refine LeO.ite ?_ ?_)
      | (with_reducible refine LeO.bind ?_ (fun _ => ?_))
      | exact ih0 _ _ _ _ _ _
      | exact ih1 _ _ _ _ _ _
      | exact ih2 _ _ _ _ _ _
      | exact ih3 _ _ _ _
      | exact LeO.none _
      | refine LeO.ite ?_ ?_
      | refine LeO.bind ?_ (fun _ => ?_)
    · intro y0 y1 y2 y3 y4 y5
      unfold impl_giveFault.l2
      repeat' first
      | (with_reducible exact ih0 _ _ _ _ _ _)
      | (with_reducible exact ih1 _ _ _ _ _ _)
      | (with_reducible exact ih2 _ _ _ _ _ _)
      | (with_reducible exact ih3 _ _ _ _)
      | (with_reducible exact LeO.refl _)
      | (with_reducible exact LeO.none _)
      | (with_reducible refine LeO.ite ?_ ?_)
      | (with_reducible refine LeO.bind ?_ (fun _ => ?_))
      | exact ih0 _ _ _ _ _ _
      | exact ih1 _ _ _ _ _ _
      | exact ih2 _ _ _ _ _ _
      | exact ih3 _ _ _ _
      | exact LeO.none _
      | refine LeO.ite ?_ ?_
      | refine LeO.bind ?_ (fun _ => ?_)
    · intro y0 y1 y2 y3
      unfold impl_giveFault.l3
      repeat' first
      | (with_reducible exact ih0 _ _ _ _ _ _)
      | (with_reducible exact ih1 _ _ _ _ _ _)
      | (with_reducible exact ih2 _ _ _ _ _ _)
      | (with_reducible exact ih3 _ _ _ _)
      | (with_reducible exact LeO.refl _)
      | (with_reducible exact LeO.none _)
      | (with_reducible refine LeO.ite ?_ ?_)
      | (with_reducible refine LeO.bind ?_ (fun _ => ?_))
      | exact ih0 _ _ _ _ _ _
      | exact ih1 _ _ _ _ _ _
      | exact ih2 _ _ _ _ _ _
      | exact ih3 _ _ _ _
      | exact LeO.none _
      | refine LeO.ite ?_ ?_
      | refine LeO.bind ?_ (fun _ => ?_)
theorem impl_giveFault.mono : ∀ a0 k, LeO (impl_giveFault.f k a0) (impl_giveFault.f (k + 1) a0) := by
  intro a0 k
  obtain ⟨ih0, ih1, ih2, ih3⟩ := impl_giveFault.mono_l k
  unfold impl_giveFault.f
  repeat' first
      | (with_reducible exact ih0 _ _ _ _ _ _)
      | (with_reducible exact ih1 _ _ _ _ _ _)
      | (with_reducible exact ih2 _ _ _ _ _ _)
      | (with_reducible exact ih3 _ _ _ _)
      | (with_reducible exact LeO.refl _)
      | (with_reducible exact LeO.none _)
      | (with_reducible refine LeO.ite ?_ ?_)
      | (with_reducible refine LeO.bind ?_ (fun _ => ?_))
      | exact ih0 _ _ _ _ _ _
      | exact ih1 _ _ _ _ _ _
      | exact ih2 _ _ _ _ _ _
      | exact ih3 _ _ _ _
      | exact LeO.none _
      | refine LeO.ite ?_ ?_
      | refine LeO.bind ?_ (fun _ => ?_)
set_option maxHeartbeats 8000000 in
set_option maxRecDepth 100000 in
theorem impl_giveFault.calls (k : Nat) (A0 : Option Addr) (c0 : Nat) (l0 : List Int) (r : Int) (w : World) (hr0 : Kd.C (Kd.int .i64) w A0 l0.length l0) (hc0 : l0.length ≤ c0) (h : impl_giveFault.f k l0 = some r) :
    Calls Try.prog 67 #[.slice A0 l0.length c0] w fun e w' => e = .returned (.int .i64 r) ∧ Drawn0 w w' := by
  have HR0 := Aside0.mk hr0
  have HC0 := Aside0.mk hc0
  clear hr0 hc0
  have H : (if 0 ≤ (wrap64 ((l0.length : Int) - 1)) then (if (wrap64 ((l0.length : Int) - 1)) < (l0.length : Int) then (impl_giveFault.l0 k l0 (wrap64 ((l0.length : Int) - 1)) (rd l0 (wrap64 ((l0.length : Int) - 1))) l0 (l0.length : Int) 0) else (none)) else (none)) = some r := h
  clear h
  obtain ⟨ji2, hji2⟩ : ∃ j_ : Int, (wrap64 ((l0.length : Int) - 1)) = j_ := ⟨_, rfl⟩
  replace H : (if 0 ≤ (ji2) then (if (ji2) < (l0.length : Int) then (impl_giveFault.l0 k l0 ji2 (rd l0 (ji2)) l0 (l0.length : Int) 0) else (none)) else (none)) = some r := by first | (rw [hji2] at H; exact H) | (simp only [hji2] at H ⊢; exact H)
  have hji2w : (IntKind.i64.wrap ((l0.length : Int) - 1)) = ji2 := (i64_w _).trans hji2
  by_cases c3 : 0 ≤ (ji2)
  · rw [if_pos c3] at H
    have c3b0 : decide (0 ≤ (ji2)) = true := decide_eq_true c3
    clear c3
    by_cases c4 : (ji2) < (l0.length : Int)
    · rw [if_pos c4] at H
      have c4b0 : decide ((ji2) < (l0.length : Int)) = true := decide_eq_true c4
      clear c4
      have H' := Aside0.mk H
      clear H
      have p234 : 0 ≤ ((ji2) : Int) := of_decide_eq_true (by first | (with_reducible assumption) | assumption)
      have q234 : (ji2) < (l0.length : Int) := of_decide_eq_true (by first | (with_reducible assumption) | assumption)
      obtain ⟨ad234, e234, hx234_0⟩ := Kd.at_int HR0.out (ji2) p234 q234
      cases e234
      replace p234 := eq_true p234
      replace q234 := eq_true q234
      go_enter Try.func67, Try.ntmps67
      go_wp2
      go_loopg [22] k (fun kq v22 w' => ∃ (x22_1 : Int), v22 = .int .i64 x22_1 ∧ Aside0 (impl_giveFault.l0 kq l0 ji2 (rd l0 (ji2)) l0 (l0.length : Int) x22_1 = some r) ∧ Aside0 (kq ≤ k) ∧ Drawn0 w w')
      case atStart => exact ⟨(0), (by first | rfl | (simp; done) | (simp [*]; done)), H', ⟨Nat.le_refl _⟩, by repeat (first | exact Drawn0.refl _ | apply Drawn0.step)⟩
      case round =>
        clear H'
        try clear p2
        try clear q2
        try clear hx2
        try clear c3
        try clear c3b0
        try clear c4
        try clear c4b0
        try clear hx234_0
        try clear p234
        try clear q234
        obtain ⟨x22_1, rfl, HA, HK1, ⟨m1, rfl⟩⟩ := hrel
        cases gk with
        | zero => exact absurd HA.out (by simp [impl_giveFault.l0])
        | succ k1 =>
          have H := HA.out
          clear HA
          simp only [impl_giveFault.l0] at H
          by_cases c5 : x22_1 < (l0.length : Int)
          · rw [if_pos c5] at H
            have c5b0 : decide (x22_1 < (l0.length : Int)) = true := decide_eq_true c5
            clear c5
            by_cases c6 : 0 ≤ x22_1
            · rw [if_pos c6] at H
              have c6b0 : decide (0 ≤ x22_1) = true := decide_eq_true c6
              clear c6
              by_cases c7 : x22_1 < (l0.length : Int)
              · rw [if_pos c7] at H
                have c7b0 : decide (x22_1 < (l0.length : Int)) = true := decide_eq_true c7
                clear c7
                by_cases c8 : (rd l0 (ji2)) = 0
                · rw [if_pos c8] at H
                  have c8b0 : ((rd l0 (ji2)) == 0) = true := beq_iff_eq.mpr c8
                  have c8b1 : ((rd l0 (ji2)) != 0) = false := bne_eq_false_iff_eq.mpr c8
                  clear c8
                  obtain rfl := Option.some.inj H
                  have p235 : 0 ≤ (x22_1 : Int) := of_decide_eq_true (by first | (with_reducible assumption) | assumption)
                  have q235 : x22_1 < (l0.length : Int) := of_decide_eq_true (by first | (with_reducible assumption) | assumption)
                  obtain ⟨ad235, e235, hx235_0⟩ := Kd.at_int HR0.out x22_1 p235 q235
                  obtain rfl : ad234 = ad235 := (by injection e235)
                  replace p235 := eq_true p235
                  replace q235 := eq_true q235
                  go_wp2
                  go_ret
                  exact ⟨by first | rfl | (simp; done) | (simp only [← hji2] <;> (first | rfl | simp)) | (simp [*]; done), by repeat (first | exact Drawn0.refl _ | apply Drawn0.step)⟩
                · rw [if_neg c8] at H
                  have c8b0 : ((rd l0 (ji2)) == 0) = false := beq_eq_false_iff_ne.mpr c8
                  have c8b1 : ((rd l0 (ji2)) != 0) = true := bne_iff_ne.mpr c8
                  by_cases c9 : (Go.bits .andNot .i64 (rd l0 (ji2)) (rd l0 x22_1)) = 0
                  · rw [if_pos c9] at H
                    have c9b0 : ((Go.bits .andNot .i64 (rd l0 (ji2)) (rd l0 x22_1)) == 0) = true := beq_iff_eq.mpr c9
                    have c9b1 : ((Go.bits .andNot .i64 (rd l0 (ji2)) (rd l0 x22_1)) != 0) = false := bne_eq_false_iff_eq.mpr c9
                    clear c9
                    have H' := Aside0.mk H
                    clear H
                    have p235 : 0 ≤ (x22_1 : Int) := of_decide_eq_true (by first | (with_reducible assumption) | assumption)
                    have q235 : x22_1 < (l0.length : Int) := of_decide_eq_true (by first | (with_reducible assumption) | assumption)
                    obtain ⟨ad235, e235, hx235_0⟩ := Kd.at_int HR0.out x22_1 p235 q235
                    obtain rfl : ad234 = ad235 := (by injection e235)
                    replace p235 := eq_true p235
                    replace q235 := eq_true q235
                    go_wp2
                    go_roundg k1
                    case measure => have := HK1.out; omega
                    case rel => exact ⟨(wrap64 (x22_1 + 1)), (by first | rfl | (simp; done) | (simp [*]; done)), H', ⟨by have := HK1.out; omega⟩, by repeat (first | exact Drawn0.refl _ | apply Drawn0.step)⟩
                  · rw [if_neg c9] at H
                    have c9b0 : ((Go.bits .andNot .i64 (rd l0 (ji2)) (rd l0 x22_1)) == 0) = false := beq_eq_false_iff_ne.mpr c9
                    have c9b1 : ((Go.bits .andNot .i64 (rd l0 (ji2)) (rd l0 x22_1)) != 0) = true := bne_iff_ne.mpr c9
                    obtain rfl := Option.some.inj H
                    have p235 : 0 ≤ (x22_1 : Int) := of_decide_eq_true (by first | (with_reducible assumption) | assumption)
                    have q235 : x22_1 < (l0.length : Int) := of_decide_eq_true (by first | (with_reducible assumption) | assumption)
                    obtain ⟨ad235, e235, hx235_0⟩ := Kd.at_int HR0.out x22_1 p235 q235
                    obtain rfl : ad234 = ad235 := (by injection e235)
                    replace p235 := eq_true p235
                    replace q235 := eq_true q235
                    go_wp2
                    go_ret
                    exact ⟨by first | rfl | (simp; done) | (simp only [← hji2] <;> (first | rfl | simp)) | (simp [*]; done), by repeat (first | exact Drawn0.refl _ | apply Drawn0.step)⟩
              · rw [if_neg c7] at H
                exact absurd H (by simp)
            · rw [if_neg c6] at H
              exact absurd H (by simp)
          · rw [if_neg c5] at H
            have c5b0 : decide (x22_1 < (l0.length : Int)) = false := decide_eq_false c5
            clear c5
            have H' := Aside0.mk H
            clear H
            go_wp2
            go_loopg [37] k1 (fun kq v37 w' => ∃ (x37_2 : Int), v37 = .int .i64 x37_2 ∧ Aside0 (impl_giveFault.l1 kq l0 ji2 (rd l0 (ji2)) l0 (l0.length : Int) x37_2 = some r) ∧ Aside0 (kq ≤ k1) ∧ Drawn0 w w')
            case atStart => exact ⟨(0), (by first | rfl | (simp; done) | (simp [*]; done)), H', ⟨Nat.le_refl _⟩, by repeat (first | exact Drawn0.refl _ | apply Drawn0.step)⟩
            case round =>
              clear H'
              try clear p2
              try clear q2
              try clear hx2
              try clear c3
              try clear c3b0
              try clear c4
              try clear c4b0
              try clear c5
              try clear c5b0
              try clear c6
              try clear c6b0
              try clear p6
              try clear c7
              try clear c7b0
              try clear c8
              try clear c8b0
              try clear c8b1
              try clear c9
              try clear c9b0
              try clear c9b1
              try clear hx234_0
              try clear hx235_0
              try clear p2
              try clear p234
              try clear p235
              try clear q2
              try clear q234
              try clear q235
              obtain ⟨x37_2, rfl, HA, HK2, ⟨m2, rfl⟩⟩ := hrel
              cases gk with
              | zero => exact absurd HA.out (by simp [impl_giveFault.l1])
              | succ k2 =>
                have H := HA.out
                clear HA
                simp only [impl_giveFault.l1] at H
                by_cases c10 : x37_2 < (l0.length : Int)
                · rw [if_pos c10] at H
                  have c10b0 : decide (x37_2 < (l0.length : Int)) = true := decide_eq_true c10
                  clear c10
                  by_cases c11 : 0 ≤ x37_2
                  · rw [if_pos c11] at H
                    have c11b0 : decide (0 ≤ x37_2) = true := decide_eq_true c11
                    clear c11
                    by_cases c12 : x37_2 < (l0.length : Int)
                    · rw [if_pos c12] at H
                      have c12b0 : decide (x37_2 < (l0.length : Int)) = true := decide_eq_true c12
                      clear c12
                      by_cases c13 : (Go.bits .andNot .i64 (rd l0 (ji2)) x37_2) = 0
                      · rw [if_pos c13] at H
                        have c13b0 : ((Go.bits .andNot .i64 (rd l0 (ji2)) x37_2) == 0) = true := beq_iff_eq.mpr c13
                        have c13b1 : ((Go.bits .andNot .i64 (rd l0 (ji2)) x37_2) != 0) = false := bne_eq_false_iff_eq.mpr c13
                        clear c13
                        have H' := Aside0.mk H
                        clear H
                        have p236 : 0 ≤ (x37_2 : Int) := of_decide_eq_true (by first | (with_reducible assumption) | assumption)
                        have q236 : x37_2 < (l0.length : Int) := of_decide_eq_true (by first | (with_reducible assumption) | assumption)
                        obtain ⟨ad236, e236, hx236_0⟩ := Kd.at_int HR0.out x37_2 p236 q236
                        obtain rfl : ad234 = ad236 := (by injection e236)
                        replace p236 := eq_true p236
                        replace q236 := eq_true q236
                        go_wp2
                        go_roundg k2
                        case measure => have := HK1.out; have := HK2.out; omega
                        case rel => exact ⟨(wrap64 (x37_2 + 1)), (by first | rfl | (simp; done) | (simp [*]; done)), H', ⟨by have := HK1.out; have := HK2.out; omega⟩, by repeat (first | exact Drawn0.refl _ | apply Drawn0.step)⟩
                      · rw [if_neg c13] at H
                        have c13b0 : ((Go.bits .andNot .i64 (rd l0 (ji2)) x37_2) == 0) = false := beq_eq_false_iff_ne.mpr c13
                        have c13b1 : ((Go.bits .andNot .i64 (rd l0 (ji2)) x37_2) != 0) = true := bne_iff_ne.mpr c13
                        by_cases c14 : (rd l0 x37_2) = (rd l0 (ji2))
                        · rw [if_pos c14] at H
                          have c14b0 : ((rd l0 x37_2) == (rd l0 (ji2))) = true := beq_iff_eq.mpr c14
                          have c14b1 : ((rd l0 x37_2) != (rd l0 (ji2))) = false := bne_eq_false_iff_eq.mpr c14
                          clear c14
                          have H' := Aside0.mk H
                          clear H
                          have p236 : 0 ≤ (x37_2 : Int) := of_decide_eq_true (by first | (with_reducible assumption) | assumption)
                          have q236 : x37_2 < (l0.length : Int) := of_decide_eq_true (by first | (with_reducible assumption) | assumption)
                          obtain ⟨ad236, e236, hx236_0⟩ := Kd.at_int HR0.out x37_2 p236 q236
                          obtain rfl : ad234 = ad236 := (by injection e236)
                          replace p236 := eq_true p236
                          replace q236 := eq_true q236
                          go_wp2
                          go_roundg k2
                          case measure => have := HK1.out; have := HK2.out; omega
                          case rel => exact ⟨(wrap64 (x37_2 + 1)), (by first | rfl | (simp; done) | (simp [*]; done)), H', ⟨by have := HK1.out; have := HK2.out; omega⟩, by repeat (first | exact Drawn0.refl _ | apply Drawn0.step)⟩
                        · rw [if_neg c14] at H
                          have c14b0 : ((rd l0 x37_2) == (rd l0 (ji2))) = false := beq_eq_false_iff_ne.mpr c14
                          have c14b1 : ((rd l0 x37_2) != (rd l0 (ji2))) = true := bne_iff_ne.mpr c14
                          obtain rfl := Option.some.inj H
                          have p236 : 0 ≤ (x37_2 : Int) := of_decide_eq_true (by first | (with_reducible assumption) | assumption)
                          have q236 : x37_2 < (l0.length : Int) := of_decide_eq_true (by first | (with_reducible assumption) | assumption)
                          obtain ⟨ad236, e236, hx236_0⟩ := Kd.at_int HR0.out x37_2 p236 q236
                          obtain rfl : ad234 = ad236 := (by injection e236)
                          replace p236 := eq_true p236
                          replace q236 := eq_true q236
                          go_wp2
                          go_ret
                          exact ⟨by first | rfl | (simp; done) | (simp only [← hji2] <;> (first | rfl | simp)) | (simp [*]; done), by repeat (first | exact Drawn0.refl _ | apply Drawn0.step)⟩
                    · rw [if_neg c12] at H
                      exact absurd H (by simp)
                  · rw [if_neg c11] at H
                    exact absurd H (by simp)
                · rw [if_neg c10] at H
                  have c10b0 : decide (x37_2 < (l0.length : Int)) = false := decide_eq_false c10
                  clear c10
                  have H' := Aside0.mk H
                  clear H
                  go_wp2
                  go_loopg [54] k2 (fun kq v54 w' => ∃ (x54_3 : Int), v54 = .int .i64 x54_3 ∧ Aside0 (impl_giveFault.l2 kq l0 ji2 (rd l0 (ji2)) l0 (l0.length : Int) x54_3 = some r) ∧ Aside0 (kq ≤ k2) ∧ Drawn0 w w')
                  case atStart => exact ⟨(0), (by first | rfl | (simp; done) | (simp [*]; done)), H', ⟨Nat.le_refl _⟩, by repeat (first | exact Drawn0.refl _ | apply Drawn0.step)⟩
                  case round =>
                    clear H'
                    try clear c1
                    try clear p2
                    try clear q2
                    try clear hx2
                    try clear c3
                    try clear c3b0
                    try clear c4
                    try clear c4b0
                    try clear c5
                    try clear c5b0
                    try clear c6
                    try clear c6b0
                    try clear p6
                    try clear c7
                    try clear c7b0
                    try clear c8
                    try clear c8b0
                    try clear c8b1
                    try clear c9
                    try clear c9b0
                    try clear c9b1
                    try clear c10
                    try clear c10b0
                    try clear c11
                    try clear c11b0
                    try clear c12
                    try clear c12b0
                    try clear c13
                    try clear c13b0
                    try clear c13b1
                    try clear c14
                    try clear c14b0
                    try clear c14b1
                    try clear hx234_0
                    try clear hx235_0
                    try clear hx236_0
                    try clear p2
                    try clear p234
                    try clear p235
                    try clear p236
                    try clear p6
                    try clear q2
                    try clear q234
                    try clear q235
                    try clear q236
                    obtain ⟨x54_3, rfl, HA, HK3, ⟨m3, rfl⟩⟩ := hrel
                    cases gk with
                    | zero => exact absurd HA.out (by simp [impl_giveFault.l2])
                    | succ k3 =>
                      have H := HA.out
                      clear HA
                      simp only [impl_giveFault.l2] at H
                      by_cases c15 : x54_3 < (l0.length : Int)
                      · rw [if_pos c15] at H
                        have c15b0 : decide (x54_3 < (l0.length : Int)) = true := decide_eq_true c15
                        clear c15
                        by_cases c16 : 0 ≤ x54_3
                        · rw [if_pos c16] at H
                          have c16b0 : decide (0 ≤ x54_3) = true := decide_eq_true c16
                          clear c16
                          by_cases c17 : x54_3 < (l0.length : Int)
                          · rw [if_pos c17] at H
                            have c17b0 : decide (x54_3 < (l0.length : Int)) = true := decide_eq_true c17
                            clear c17
                            by_cases c18 : x54_3 = ji2
                            · rw [if_pos c18] at H
                              have c18b0 : (x54_3 == ji2) = true := beq_iff_eq.mpr c18
                              have c18b1 : (x54_3 != ji2) = false := bne_eq_false_iff_eq.mpr c18
                              clear c18
                              have H' := Aside0.mk H
                              clear H
                              have p237 : 0 ≤ (x54_3 : Int) := of_decide_eq_true (by first | (with_reducible assumption) | assumption)
                              have q237 : x54_3 < (l0.length : Int) := of_decide_eq_true (by first | (with_reducible assumption) | assumption)
                              obtain ⟨ad237, e237, hx237_0⟩ := Kd.at_int HR0.out x54_3 p237 q237
                              obtain rfl : ad234 = ad237 := (by injection e237)
                              replace p237 := eq_true p237
                              replace q237 := eq_true q237
                              go_wp2
                              go_roundg k3
                              case measure => have := HK1.out; have := HK2.out; have := HK3.out; omega
                              case rel => exact ⟨(wrap64 (x54_3 + 1)), (by first | rfl | (simp; done) | (simp [*]; done)), H', ⟨by have := HK1.out; have := HK2.out; have := HK3.out; omega⟩, by repeat (first | exact Drawn0.refl _ | apply Drawn0.step)⟩
                            · rw [if_neg c18] at H
                              have c18b0 : (x54_3 == ji2) = false := beq_eq_false_iff_ne.mpr c18
                              have c18b1 : (x54_3 != ji2) = true := bne_iff_ne.mpr c18
                              by_cases c19 : (Go.bits .andNot .i64 (rd l0 x54_3) x54_3) = 0
                              · rw [if_pos c19] at H
                                have c19b0 : ((Go.bits .andNot .i64 (rd l0 x54_3) x54_3) == 0) = true := beq_iff_eq.mpr c19
                                have c19b1 : ((Go.bits .andNot .i64 (rd l0 x54_3) x54_3) != 0) = false := bne_eq_false_iff_eq.mpr c19
                                clear c19
                                obtain rfl := Option.some.inj H
                                have p237 : 0 ≤ (x54_3 : Int) := of_decide_eq_true (by first | (with_reducible assumption) | assumption)
                                have q237 : x54_3 < (l0.length : Int) := of_decide_eq_true (by first | (with_reducible assumption) | assumption)
                                obtain ⟨ad237, e237, hx237_0⟩ := Kd.at_int HR0.out x54_3 p237 q237
                                obtain rfl : ad234 = ad237 := (by injection e237)
                                replace p237 := eq_true p237
                                replace q237 := eq_true q237
                                go_wp2
                                go_ret
                                exact ⟨by first | rfl | (simp; done) | (simp only [← hji2] <;> (first | rfl | simp)) | (simp [*]; done), by repeat (first | exact Drawn0.refl _ | apply Drawn0.step)⟩
                              · rw [if_neg c19] at H
                                have c19b0 : ((Go.bits .andNot .i64 (rd l0 x54_3) x54_3) == 0) = false := beq_eq_false_iff_ne.mpr c19
                                have c19b1 : ((Go.bits .andNot .i64 (rd l0 x54_3) x54_3) != 0) = true := bne_iff_ne.mpr c19
                                have H' := Aside0.mk H
                                clear H
                                have p237 : 0 ≤ (x54_3 : Int) := of_decide_eq_true (by first | (with_reducible assumption) | assumption)
                                have q237 : x54_3 < (l0.length : Int) := of_decide_eq_true (by first | (with_reducible assumption) | assumption)
                                obtain ⟨ad237, e237, hx237_0⟩ := Kd.at_int HR0.out x54_3 p237 q237
                                obtain rfl : ad234 = ad237 := (by injection e237)
                                replace p237 := eq_true p237
                                replace q237 := eq_true q237
                                go_wp2
                                go_roundg k3
                                case measure => have := HK1.out; have := HK2.out; have := HK3.out; omega
                                case rel => exact ⟨(wrap64 (x54_3 + 1)), (by first | rfl | (simp; done) | (simp [*]; done)), H', ⟨by have := HK1.out; have := HK2.out; have := HK3.out; omega⟩, by repeat (first | exact Drawn0.refl _ | apply Drawn0.step)⟩
                          · rw [if_neg c17] at H
                            exact absurd H (by simp)
                        · rw [if_neg c16] at H
                          exact absurd H (by simp)
                      · rw [if_neg c15] at H
                        have c15b0 : decide (x54_3 < (l0.length : Int)) = false := decide_eq_false c15
                        clear c15
                        have H' := Aside0.mk H
                        clear H
                        go_wp2
                        go_loopg [71] k3 (fun kq v71 w' => ∃ (x71_4 : Int), v71 = .int .i64 x71_4 ∧ Aside0 (impl_giveFault.l3 kq (rd l0 (ji2)) l0 (l0.length : Int) x71_4 = some r) ∧ Aside0 (kq ≤ k3) ∧ Drawn0 w w')
                        case atStart => exact ⟨(0), (by first | rfl | (simp; done) | (simp [*]; done)), H', ⟨Nat.le_refl _⟩, by repeat (first | exact Drawn0.refl _ | apply Drawn0.step)⟩
                        case round =>
                          clear H'
                          try clear c1
                          try clear p2
                          try clear q2
                          try clear hx2
                          try clear c3
                          try clear c3b0
                          try clear c4
                          try clear c4b0
                          try clear c5
                          try clear c5b0
                          try clear c6
                          try clear c6b0
                          try clear p6
                          try clear c7
                          try clear c7b0
                          try clear c8
                          try clear c8b0
                          try clear c8b1
                          try clear c9
                          try clear c9b0
                          try clear c9b1
                          try clear c10
                          try clear c10b0
                          try clear c11
                          try clear c11b0
                          try clear c12
                          try clear c12b0
                          try clear c13
                          try clear c13b0
                          try clear c13b1
                          try clear c14
                          try clear c14b0
                          try clear c14b1
                          try clear c15
                          try clear c15b0
                          try clear c16
                          try clear c16b0
                          try clear c17
                          try clear c17b0
                          try clear c18
                          try clear c18b0
                          try clear c18b1
                          try clear c19
                          try clear c19b0
                          try clear c19b1
                          try clear hx234_0
                          try clear hx235_0
                          try clear hx236_0
                          try clear hx237_0
                          try clear p2
                          try clear p234
                          try clear p235
                          try clear p236
                          try clear p237
                          try clear p6
                          try clear q2
                          try clear q234
                          try clear q235
                          try clear q236
                          try clear q237
                          obtain ⟨x71_4, rfl, HA, HK4, ⟨m4, rfl⟩⟩ := hrel
                          cases gk with
                          | zero => exact absurd HA.out (by simp [impl_giveFault.l3])
                          | succ k4 =>
                            have H := HA.out
                            clear HA
                            simp only [impl_giveFault.l3] at H
                            by_cases c20 : x71_4 < (l0.length : Int)
                            · rw [if_pos c20] at H
                              have c20b0 : decide (x71_4 < (l0.length : Int)) = true := decide_eq_true c20
                              clear c20
                              by_cases c21 : 0 ≤ x71_4
                              · rw [if_pos c21] at H
                                have c21b0 : decide (0 ≤ x71_4) = true := decide_eq_true c21
                                clear c21
                                by_cases c22 : x71_4 < (l0.length : Int)
                                · rw [if_pos c22] at H
                                  have c22b0 : decide (x71_4 < (l0.length : Int)) = true := decide_eq_true c22
                                  clear c22
                                  by_cases c23 : (Go.bits .and .i64 (Go.bits .andNot .i64 (rd l0 x71_4) (rd l0 (ji2))) x71_4) = 0
                                  · rw [if_pos c23] at H
                                    have c23b0 : ((Go.bits .and .i64 (Go.bits .andNot .i64 (rd l0 x71_4) (rd l0 (ji2))) x71_4) == 0) = true := beq_iff_eq.mpr c23
                                    have c23b1 : ((Go.bits .and .i64 (Go.bits .andNot .i64 (rd l0 x71_4) (rd l0 (ji2))) x71_4) != 0) = false := bne_eq_false_iff_eq.mpr c23
                                    clear c23
                                    have H' := Aside0.mk H
                                    clear H
                                    have p238 : 0 ≤ (x71_4 : Int) := of_decide_eq_true (by first | (with_reducible assumption) | assumption)
                                    have q238 : x71_4 < (l0.length : Int) := of_decide_eq_true (by first | (with_reducible assumption) | assumption)
                                    obtain ⟨ad238, e238, hx238_0⟩ := Kd.at_int HR0.out x71_4 p238 q238
                                    obtain rfl : ad234 = ad238 := (by injection e238)
                                    replace p238 := eq_true p238
                                    replace q238 := eq_true q238
                                    go_wp2
                                    go_roundg k4
                                    case measure => have := HK1.out; have := HK2.out; have := HK3.out; have := HK4.out; omega
                                    case rel => exact ⟨(wrap64 (x71_4 + 1)), (by first | rfl | (simp; done) | (simp [*]; done)), H', ⟨by have := HK1.out; have := HK2.out; have := HK3.out; have := HK4.out; omega⟩, by repeat (first | exact Drawn0.refl _ | apply Drawn0.step)⟩
                                  · rw [if_neg c23] at H
                                    have c23b0 : ((Go.bits .and .i64 (Go.bits .andNot .i64 (rd l0 x71_4) (rd l0 (ji2))) x71_4) == 0) = false := beq_eq_false_iff_ne.mpr c23
                                    have c23b1 : ((Go.bits .and .i64 (Go.bits .andNot .i64 (rd l0 x71_4) (rd l0 (ji2))) x71_4) != 0) = true := bne_iff_ne.mpr c23
                                    obtain rfl := Option.some.inj H
                                    have p238 : 0 ≤ (x71_4 : Int) := of_decide_eq_true (by first | (with_reducible assumption) | assumption)
                                    have q238 : x71_4 < (l0.length : Int) := of_decide_eq_true (by first | (with_reducible assumption) | assumption)
                                    obtain ⟨ad238, e238, hx238_0⟩ := Kd.at_int HR0.out x71_4 p238 q238
                                    obtain rfl : ad234 = ad238 := (by injection e238)
                                    replace p238 := eq_true p238
                                    replace q238 := eq_true q238
                                    go_wp2
                                    go_ret
                                    exact ⟨by first | rfl | (simp; done) | (simp only [← hji2] <;> (first | rfl | simp)) | (simp [*]; done), by repeat (first | exact Drawn0.refl _ | apply Drawn0.step)⟩
                                · rw [if_neg c22] at H
                                  exact absurd H (by simp)
                              · rw [if_neg c21] at H
                                exact absurd H (by simp)
                            · rw [if_neg c20] at H
                              have c20b0 : decide (x71_4 < (l0.length : Int)) = false := decide_eq_false c20
                              clear c20
                              obtain rfl := Option.some.inj H
                              go_wp2
                              go_ret
                              exact ⟨by first | rfl | (simp; done) | (simp only [← hji2] <;> (first | rfl | simp)) | (simp [*]; done), by repeat (first | exact Drawn0.refl _ | apply Drawn0.step)⟩
    · rw [if_neg c4] at H
      exact absurd H (by simp)
  · rw [if_neg c3] at H
    exact absurd H (by simp)

end Go.Proofs.Ythgddbnmieodkaa.Q

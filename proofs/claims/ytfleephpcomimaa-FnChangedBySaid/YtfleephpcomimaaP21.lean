/- Contracts of functions of the program: whatever a function's pure reading answers, the call returns. Printed by a program of this session (the kit's print, with contracts by hand beside it). Conditions: those of each theorem. -/
import Derived.Test.YtfleephpcomimaaP0
namespace Go.Proofs.Ytfleephpcomimaa.P
open Go.Proofs.BelM
open Go.RowKit Go.Proofs.YtfleephpcomimaaW.PrintWords Go.Proofs.YtfleephpcomimaaW.PrintLast Go.Proofs.YtfleephpcomimaaW.PrintMore
attribute [local go_sem] max2_int min2_int max_two min_two max_three min_three max_four min_four   -- for this text's walks alone
set_option linter.unusedVariables false
set_option linter.unusedSimpArgs false

/-! ### impl_ruleFor: function 62 -/
def impl_ruleFor.f (a0 : Int) (l1 : List Int) (l2 : List Int) (a3 : Int) (a4 : Int) (a5 : Int) : Option (Bool) := if 0 ≤ a4 then (if 0 ≤ a5 then (if a4 < (l1.length : Int) then (if a5 < (l1.length : Int) then (if a4 < (l2.length : Int) then (if a5 < (l2.length : Int) then (if a0 = 1 then (if ((Go.bits .and .i64 (shr .i64 a3 a4) 1) = 1) then (if ((Go.bits .and .i64 (shr .i64 a3 a5) 1) = 1) then (some ((decide ((rd l1 a4) < (rd l1 a5))) == (decide ((rd l2 a4) < (rd l2 a5))))) else (some true)) else (some true)) else (if a0 = 2 then (if (Go.bits .and .i64 (shr .i64 a3 a4) 1) = 1 then (some true) else (if (Go.bits .and .i64 (shr .i64 a3 a5) 1) = 1 then (some true) else (some ((decide ((rd l1 a4) < (rd l1 a5))) == (decide ((rd l2 a4) < (rd l2 a5))))))) else (if a0 = 3 then (if ((Go.bits .and .i64 (shr .i64 a3 a4) 1) = 1) then (if (Go.bits .and .i64 (shr .i64 a3 a5) 1) = 1 then (some true) else (if ((rd l1 a4) < (rd l1 a5)) then (some (decide ((rd l2 a4) < (rd l2 a5)))) else (some true))) else (some true)) else (if ((Go.bits .and .i64 (shr .i64 a3 a4) 1) = 1) then (if (Go.bits .and .i64 (shr .i64 a3 a5) 1) = 1 then (some true) else (if (rd l1 a5) < (rd l1 a4) then (some true) else (some (decide ((rd l2 a5) ≥ (rd l2 a4)))))) else (some true))))) else (none)) else (none)) else (none)) else (none)) else (none)) else (none)
set_option maxHeartbeats 8000000 in
set_option maxRecDepth 100000 in
theorem impl_ruleFor.calls (a0 : Int) (A1 : Option Addr) (c1 : Nat) (l1 : List Int) (A2 : Option Addr) (c2 : Nat) (l2 : List Int) (a3 : Int) (a4 : Int) (a5 : Int) (r : Bool) (w : World) (hr1 : Kd.C (Kd.int .i64) w A1 l1.length l1) (hc1 : l1.length ≤ c1) (hr2 : Kd.C (Kd.int .i64) w A2 l2.length l2) (hc2 : l2.length ≤ c2) (h : impl_ruleFor.f a0 l1 l2 a3 a4 a5 = some r) :
    Calls Try.prog 62 #[.int .i64 a0, .slice A1 l1.length c1, .slice A2 l2.length c2, .int .i64 a3, .int .i64 a4, .int .i64 a5] w fun e w' => e = .returned (.bool r) ∧ Drawn0 w w' := by
  have HR1 := Aside0.mk hr1
  have HC1 := Aside0.mk hc1
  clear hr1 hc1
  have HR2 := Aside0.mk hr2
  have HC2 := Aside0.mk hc2
  clear hr2 hc2
  have H : (if 0 ≤ a4 then (if 0 ≤ a5 then (if a4 < (l1.length : Int) then (if a5 < (l1.length : Int) then (if a4 < (l2.length : Int) then (if a5 < (l2.length : Int) then (if a0 = 1 then (if ((Go.bits .and .i64 (shr .i64 a3 a4) 1) = 1) then (if ((Go.bits .and .i64 (shr .i64 a3 a5) 1) = 1) then (some ((decide ((rd l1 a4) < (rd l1 a5))) == (decide ((rd l2 a4) < (rd l2 a5))))) else (some true)) else (some true)) else (if a0 = 2 then (if (Go.bits .and .i64 (shr .i64 a3 a4) 1) = 1 then (some true) else (if (Go.bits .and .i64 (shr .i64 a3 a5) 1) = 1 then (some true) else (some ((decide ((rd l1 a4) < (rd l1 a5))) == (decide ((rd l2 a4) < (rd l2 a5))))))) else (if a0 = 3 then (if ((Go.bits .and .i64 (shr .i64 a3 a4) 1) = 1) then (if (Go.bits .and .i64 (shr .i64 a3 a5) 1) = 1 then (some true) else (if ((rd l1 a4) < (rd l1 a5)) then (some (decide ((rd l2 a4) < (rd l2 a5)))) else (some true))) else (some true)) else (if ((Go.bits .and .i64 (shr .i64 a3 a4) 1) = 1) then (if (Go.bits .and .i64 (shr .i64 a3 a5) 1) = 1 then (some true) else (if (rd l1 a5) < (rd l1 a4) then (some true) else (some (decide ((rd l2 a5) ≥ (rd l2 a4)))))) else (some true))))) else (none)) else (none)) else (none)) else (none)) else (none)) else (none)) = some r := h
  clear h
  by_cases c7 : 0 ≤ a4
  · rw [if_pos c7] at H
    have c7b0 := eq_true c7
    have c7b1 : decide (0 ≤ a4) = true := decide_eq_true c7
    clear c7
    obtain ⟨ji8, hji8⟩ : ∃ j_ : Int, (shr .i64 a3 a4) = j_ := ⟨_, rfl⟩
    replace H : (if 0 ≤ a5 then (if a4 < (l1.length : Int) then (if a5 < (l1.length : Int) then (if a4 < (l2.length : Int) then (if a5 < (l2.length : Int) then (if a0 = 1 then (if ((Go.bits .and .i64 (ji8) 1) = 1) then (if ((Go.bits .and .i64 (shr .i64 a3 a5) 1) = 1) then (some ((decide ((rd l1 a4) < (rd l1 a5))) == (decide ((rd l2 a4) < (rd l2 a5))))) else (some true)) else (some true)) else (if a0 = 2 then (if (Go.bits .and .i64 (ji8) 1) = 1 then (some true) else (if (Go.bits .and .i64 (shr .i64 a3 a5) 1) = 1 then (some true) else (some ((decide ((rd l1 a4) < (rd l1 a5))) == (decide ((rd l2 a4) < (rd l2 a5))))))) else (if a0 = 3 then (if ((Go.bits .and .i64 (ji8) 1) = 1) then (if (Go.bits .and .i64 (shr .i64 a3 a5) 1) = 1 then (some true) else (if ((rd l1 a4) < (rd l1 a5)) then (some (decide ((rd l2 a4) < (rd l2 a5)))) else (some true))) else (some true)) else (if ((Go.bits .and .i64 (ji8) 1) = 1) then (if (Go.bits .and .i64 (shr .i64 a3 a5) 1) = 1 then (some true) else (if (rd l1 a5) < (rd l1 a4) then (some true) else (some (decide ((rd l2 a5) ≥ (rd l2 a4)))))) else (some true))))) else (none)) else (none)) else (none)) else (none)) else (none)) = some r := by first | (rw [hji8] at H; exact H) | (simp only [hji8] at H ⊢; exact H)
    have hji8_ : (a3 / 2 ^ min a4.toNat 64) = ji8 := hji8
    have hji8z : a4 ≤ 64 → (a3 / 2 ^ a4.toNat) = ji8 := shr_small hji8
    by_cases c9 : 0 ≤ a5
    · rw [if_pos c9] at H
      have c9b0 := eq_true c9
      have c9b1 : decide (0 ≤ a5) = true := decide_eq_true c9
      clear c9
      obtain ⟨ji10, hji10⟩ : ∃ j_ : Int, (shr .i64 a3 a5) = j_ := ⟨_, rfl⟩
      replace H : (if a4 < (l1.length : Int) then (if a5 < (l1.length : Int) then (if a4 < (l2.length : Int) then (if a5 < (l2.length : Int) then (if a0 = 1 then (if ((Go.bits .and .i64 (ji8) 1) = 1) then (if ((Go.bits .and .i64 (ji10) 1) = 1) then (some ((decide ((rd l1 a4) < (rd l1 a5))) == (decide ((rd l2 a4) < (rd l2 a5))))) else (some true)) else (some true)) else (if a0 = 2 then (if (Go.bits .and .i64 (ji8) 1) = 1 then (some true) else (if (Go.bits .and .i64 (ji10) 1) = 1 then (some true) else (some ((decide ((rd l1 a4) < (rd l1 a5))) == (decide ((rd l2 a4) < (rd l2 a5))))))) else (if a0 = 3 then (if ((Go.bits .and .i64 (ji8) 1) = 1) then (if (Go.bits .and .i64 (ji10) 1) = 1 then (some true) else (if ((rd l1 a4) < (rd l1 a5)) then (some (decide ((rd l2 a4) < (rd l2 a5)))) else (some true))) else (some true)) else (if ((Go.bits .and .i64 (ji8) 1) = 1) then (if (Go.bits .and .i64 (ji10) 1) = 1 then (some true) else (if (rd l1 a5) < (rd l1 a4) then (some true) else (some (decide ((rd l2 a5) ≥ (rd l2 a4)))))) else (some true))))) else (none)) else (none)) else (none)) else (none)) = some r := by first | (rw [hji10] at H; exact H) | (simp only [hji10] at H ⊢; exact H)
      have hji10_ : (a3 / 2 ^ min a5.toNat 64) = ji10 := hji10
      have hji10z : a5 ≤ 64 → (a3 / 2 ^ a5.toNat) = ji10 := shr_small hji10
      by_cases c11 : a4 < (l1.length : Int)
      · rw [if_pos c11] at H
        have c11b0 : decide (a4 < (l1.length : Int)) = true := decide_eq_true c11
        clear c11
        by_cases c12 : a5 < (l1.length : Int)
        · rw [if_pos c12] at H
          have c12b0 : decide (a5 < (l1.length : Int)) = true := decide_eq_true c12
          clear c12
          by_cases c13 : a4 < (l2.length : Int)
          · rw [if_pos c13] at H
            have c13b0 : decide (a4 < (l2.length : Int)) = true := decide_eq_true c13
            clear c13
            by_cases c14 : a5 < (l2.length : Int)
            · rw [if_pos c14] at H
              have c14b0 : decide (a5 < (l2.length : Int)) = true := decide_eq_true c14
              clear c14
              by_cases c15 : a0 = 1
              · rw [if_pos c15] at H
                have c15b0 : (a0 == 1) = true := beq_iff_eq.mpr c15
                have c15b1 : (a0 != 1) = false := bne_eq_false_iff_eq.mpr c15
                clear c15
                by_cases c16 : ((Go.bits .and .i64 (ji8) 1) = 1)
                · rw [if_pos c16] at H
                  have c16b0 : ((Go.bits .and .i64 (ji8) 1) == 1) = true := beq_iff_eq.mpr c16
                  have c16b1 : ((Go.bits .and .i64 (ji8) 1) != 1) = false := bne_eq_false_iff_eq.mpr c16
                  clear c16
                  by_cases c17 : ((Go.bits .and .i64 (ji10) 1) = 1)
                  · rw [if_pos c17] at H
                    have c17b0 : ((Go.bits .and .i64 (ji10) 1) == 1) = true := beq_iff_eq.mpr c17
                    have c17b1 : ((Go.bits .and .i64 (ji10) 1) != 1) = false := bne_eq_false_iff_eq.mpr c17
                    clear c17
                    obtain rfl := Option.some.inj H
                    have p433 : 0 ≤ (a4 : Int) := of_decide_eq_true (by first | (with_reducible assumption) | assumption)
                    have q433 : a4 < (l1.length : Int) := of_decide_eq_true (by first | (with_reducible assumption) | assumption)
                    obtain ⟨ad433, e433, hx433_0⟩ := Kd.at_int HR1.out a4 p433 q433
                    cases e433
                    replace p433 := eq_true p433
                    replace q433 := eq_true q433
                    have p434 : 0 ≤ (a5 : Int) := of_decide_eq_true (by first | (with_reducible assumption) | assumption)
                    have q434 : a5 < (l1.length : Int) := of_decide_eq_true (by first | (with_reducible assumption) | assumption)
                    obtain ⟨ad434, e434, hx434_0⟩ := Kd.at_int HR1.out a5 p434 q434
                    obtain rfl : ad433 = ad434 := (by injection e434)
                    replace p434 := eq_true p434
                    replace q434 := eq_true q434
                    have p435 : 0 ≤ (a4 : Int) := of_decide_eq_true (by first | (with_reducible assumption) | assumption)
                    have q435 : a4 < (l2.length : Int) := of_decide_eq_true (by first | (with_reducible assumption) | assumption)
                    obtain ⟨ad435, e435, hx435_0⟩ := Kd.at_int HR2.out a4 p435 q435
                    cases e435
                    replace p435 := eq_true p435
                    replace q435 := eq_true q435
                    have p436 : 0 ≤ (a5 : Int) := of_decide_eq_true (by first | (with_reducible assumption) | assumption)
                    have q436 : a5 < (l2.length : Int) := of_decide_eq_true (by first | (with_reducible assumption) | assumption)
                    obtain ⟨ad436, e436, hx436_0⟩ := Kd.at_int HR2.out a5 p436 q436
                    obtain rfl : ad435 = ad436 := (by injection e436)
                    replace p436 := eq_true p436
                    replace q436 := eq_true q436
                    go_enter Try.func62, Try.ntmps62
                    go_wp2
                    repeat (go_quiet (fail); try go_wp2)
                    go_ret
                    exact ⟨by first | rfl | (simp; done) | (simp only [← hji8, ← hji10] <;> (first | rfl | simp)) | (simp [*]; done), by repeat (first | exact Drawn0.refl _ | apply Drawn0.step)⟩
                  · rw [if_neg c17] at H
                    have c17b0 : ((Go.bits .and .i64 (ji10) 1) == 1) = false := beq_eq_false_iff_ne.mpr c17
                    have c17b1 : ((Go.bits .and .i64 (ji10) 1) != 1) = true := bne_iff_ne.mpr c17
                    obtain rfl := Option.some.inj H
                    have p433 : 0 ≤ (a4 : Int) := of_decide_eq_true (by first | (with_reducible assumption) | assumption)
                    have q433 : a4 < (l1.length : Int) := of_decide_eq_true (by first | (with_reducible assumption) | assumption)
                    obtain ⟨ad433, e433, hx433_0⟩ := Kd.at_int HR1.out a4 p433 q433
                    cases e433
                    replace p433 := eq_true p433
                    replace q433 := eq_true q433
                    have p434 : 0 ≤ (a5 : Int) := of_decide_eq_true (by first | (with_reducible assumption) | assumption)
                    have q434 : a5 < (l1.length : Int) := of_decide_eq_true (by first | (with_reducible assumption) | assumption)
                    obtain ⟨ad434, e434, hx434_0⟩ := Kd.at_int HR1.out a5 p434 q434
                    obtain rfl : ad433 = ad434 := (by injection e434)
                    replace p434 := eq_true p434
                    replace q434 := eq_true q434
                    have p435 : 0 ≤ (a4 : Int) := of_decide_eq_true (by first | (with_reducible assumption) | assumption)
                    have q435 : a4 < (l2.length : Int) := of_decide_eq_true (by first | (with_reducible assumption) | assumption)
                    obtain ⟨ad435, e435, hx435_0⟩ := Kd.at_int HR2.out a4 p435 q435
                    cases e435
                    replace p435 := eq_true p435
                    replace q435 := eq_true q435
                    have p436 : 0 ≤ (a5 : Int) := of_decide_eq_true (by first | (with_reducible assumption) | assumption)
                    have q436 : a5 < (l2.length : Int) := of_decide_eq_true (by first | (with_reducible assumption) | assumption)
                    obtain ⟨ad436, e436, hx436_0⟩ := Kd.at_int HR2.out a5 p436 q436
                    obtain rfl : ad435 = ad436 := (by injection e436)
                    replace p436 := eq_true p436
                    replace q436 := eq_true q436
                    go_enter Try.func62, Try.ntmps62
                    go_wp2
                    repeat (go_quiet (fail); try go_wp2)
                    go_ret
                    exact ⟨by first | rfl | (simp; done) | (simp only [← hji8, ← hji10] <;> (first | rfl | simp)) | (simp [*]; done), by repeat (first | exact Drawn0.refl _ | apply Drawn0.step)⟩
                · rw [if_neg c16] at H
                  have c16b0 : ((Go.bits .and .i64 (ji8) 1) == 1) = false := beq_eq_false_iff_ne.mpr c16
                  have c16b1 : ((Go.bits .and .i64 (ji8) 1) != 1) = true := bne_iff_ne.mpr c16
                  obtain rfl := Option.some.inj H
                  have p433 : 0 ≤ (a4 : Int) := of_decide_eq_true (by first | (with_reducible assumption) | assumption)
                  have q433 : a4 < (l1.length : Int) := of_decide_eq_true (by first | (with_reducible assumption) | assumption)
                  obtain ⟨ad433, e433, hx433_0⟩ := Kd.at_int HR1.out a4 p433 q433
                  cases e433
                  replace p433 := eq_true p433
                  replace q433 := eq_true q433
                  have p434 : 0 ≤ (a5 : Int) := of_decide_eq_true (by first | (with_reducible assumption) | assumption)
                  have q434 : a5 < (l1.length : Int) := of_decide_eq_true (by first | (with_reducible assumption) | assumption)
                  obtain ⟨ad434, e434, hx434_0⟩ := Kd.at_int HR1.out a5 p434 q434
                  obtain rfl : ad433 = ad434 := (by injection e434)
                  replace p434 := eq_true p434
                  replace q434 := eq_true q434
                  have p435 : 0 ≤ (a4 : Int) := of_decide_eq_true (by first | (with_reducible assumption) | assumption)
                  have q435 : a4 < (l2.length : Int) := of_decide_eq_true (by first | (with_reducible assumption) | assumption)
                  obtain ⟨ad435, e435, hx435_0⟩ := Kd.at_int HR2.out a4 p435 q435
                  cases e435
                  replace p435 := eq_true p435
                  replace q435 := eq_true q435
                  have p436 : 0 ≤ (a5 : Int) := of_decide_eq_true (by first | (with_reducible assumption) | assumption)
                  have q436 : a5 < (l2.length : Int) := of_decide_eq_true (by first | (with_reducible assumption) | assumption)
                  obtain ⟨ad436, e436, hx436_0⟩ := Kd.at_int HR2.out a5 p436 q436
                  obtain rfl : ad435 = ad436 := (by injection e436)
                  replace p436 := eq_true p436
                  replace q436 := eq_true q436
                  go_enter Try.func62, Try.ntmps62
                  go_wp2
                  repeat (go_quiet (fail); try go_wp2)
                  go_ret
                  exact ⟨by first | rfl | (simp; done) | (simp only [← hji8, ← hji10] <;> (first | rfl | simp)) | (simp [*]; done), by repeat (first | exact Drawn0.refl _ | apply Drawn0.step)⟩
              · rw [if_neg c15] at H
                have c15b0 : (a0 == 1) = false := beq_eq_false_iff_ne.mpr c15
                have c15b1 : (a0 != 1) = true := bne_iff_ne.mpr c15
                by_cases c18 : a0 = 2
                · rw [if_pos c18] at H
                  have c18b0 : (a0 == 2) = true := beq_iff_eq.mpr c18
                  have c18b1 : (a0 != 2) = false := bne_eq_false_iff_eq.mpr c18
                  clear c18
                  by_cases c19 : (Go.bits .and .i64 (ji8) 1) = 1
                  · rw [if_pos c19] at H
                    have c19b0 : ((Go.bits .and .i64 (ji8) 1) == 1) = true := beq_iff_eq.mpr c19
                    have c19b1 : ((Go.bits .and .i64 (ji8) 1) != 1) = false := bne_eq_false_iff_eq.mpr c19
                    clear c19
                    obtain rfl := Option.some.inj H
                    have p433 : 0 ≤ (a4 : Int) := of_decide_eq_true (by first | (with_reducible assumption) | assumption)
                    have q433 : a4 < (l1.length : Int) := of_decide_eq_true (by first | (with_reducible assumption) | assumption)
                    obtain ⟨ad433, e433, hx433_0⟩ := Kd.at_int HR1.out a4 p433 q433
                    cases e433
                    replace p433 := eq_true p433
                    replace q433 := eq_true q433
                    have p434 : 0 ≤ (a5 : Int) := of_decide_eq_true (by first | (with_reducible assumption) | assumption)
                    have q434 : a5 < (l1.length : Int) := of_decide_eq_true (by first | (with_reducible assumption) | assumption)
                    obtain ⟨ad434, e434, hx434_0⟩ := Kd.at_int HR1.out a5 p434 q434
                    obtain rfl : ad433 = ad434 := (by injection e434)
                    replace p434 := eq_true p434
                    replace q434 := eq_true q434
                    have p435 : 0 ≤ (a4 : Int) := of_decide_eq_true (by first | (with_reducible assumption) | assumption)
                    have q435 : a4 < (l2.length : Int) := of_decide_eq_true (by first | (with_reducible assumption) | assumption)
                    obtain ⟨ad435, e435, hx435_0⟩ := Kd.at_int HR2.out a4 p435 q435
                    cases e435
                    replace p435 := eq_true p435
                    replace q435 := eq_true q435
                    have p436 : 0 ≤ (a5 : Int) := of_decide_eq_true (by first | (with_reducible assumption) | assumption)
                    have q436 : a5 < (l2.length : Int) := of_decide_eq_true (by first | (with_reducible assumption) | assumption)
                    obtain ⟨ad436, e436, hx436_0⟩ := Kd.at_int HR2.out a5 p436 q436
                    obtain rfl : ad435 = ad436 := (by injection e436)
                    replace p436 := eq_true p436
                    replace q436 := eq_true q436
                    go_enter Try.func62, Try.ntmps62
                    go_wp2
                    repeat (go_quiet (fail); try go_wp2)
                    go_ret
                    exact ⟨by first | rfl | (simp; done) | (simp only [← hji8, ← hji10] <;> (first | rfl | simp)) | (simp [*]; done), by repeat (first | exact Drawn0.refl _ | apply Drawn0.step)⟩
                  · rw [if_neg c19] at H
                    have c19b0 : ((Go.bits .and .i64 (ji8) 1) == 1) = false := beq_eq_false_iff_ne.mpr c19
                    have c19b1 : ((Go.bits .and .i64 (ji8) 1) != 1) = true := bne_iff_ne.mpr c19
                    by_cases c20 : (Go.bits .and .i64 (ji10) 1) = 1
                    · rw [if_pos c20] at H
                      have c20b0 : ((Go.bits .and .i64 (ji10) 1) == 1) = true := beq_iff_eq.mpr c20
                      have c20b1 : ((Go.bits .and .i64 (ji10) 1) != 1) = false := bne_eq_false_iff_eq.mpr c20
                      clear c20
                      obtain rfl := Option.some.inj H
                      have p433 : 0 ≤ (a4 : Int) := of_decide_eq_true (by first | (with_reducible assumption) | assumption)
                      have q433 : a4 < (l1.length : Int) := of_decide_eq_true (by first | (with_reducible assumption) | assumption)
                      obtain ⟨ad433, e433, hx433_0⟩ := Kd.at_int HR1.out a4 p433 q433
                      cases e433
                      replace p433 := eq_true p433
                      replace q433 := eq_true q433
                      have p434 : 0 ≤ (a5 : Int) := of_decide_eq_true (by first | (with_reducible assumption) | assumption)
                      have q434 : a5 < (l1.length : Int) := of_decide_eq_true (by first | (with_reducible assumption) | assumption)
                      obtain ⟨ad434, e434, hx434_0⟩ := Kd.at_int HR1.out a5 p434 q434
                      obtain rfl : ad433 = ad434 := (by injection e434)
                      replace p434 := eq_true p434
                      replace q434 := eq_true q434
                      have p435 : 0 ≤ (a4 : Int) := of_decide_eq_true (by first | (with_reducible assumption) | assumption)
                      have q435 : a4 < (l2.length : Int) := of_decide_eq_true (by first | (with_reducible assumption) | assumption)
                      obtain ⟨ad435, e435, hx435_0⟩ := Kd.at_int HR2.out a4 p435 q435
                      cases e435
                      replace p435 := eq_true p435
                      replace q435 := eq_true q435
                      have p436 : 0 ≤ (a5 : Int) := of_decide_eq_true (by first | (with_reducible assumption) | assumption)
                      have q436 : a5 < (l2.length : Int) := of_decide_eq_true (by first | (with_reducible assumption) | assumption)
                      obtain ⟨ad436, e436, hx436_0⟩ := Kd.at_int HR2.out a5 p436 q436
                      obtain rfl : ad435 = ad436 := (by injection e436)
                      replace p436 := eq_true p436
                      replace q436 := eq_true q436
                      go_enter Try.func62, Try.ntmps62
                      go_wp2
                      repeat (go_quiet (fail); try go_wp2)
                      go_ret
                      exact ⟨by first | rfl | (simp; done) | (simp only [← hji8, ← hji10] <;> (first | rfl | simp)) | (simp [*]; done), by repeat (first | exact Drawn0.refl _ | apply Drawn0.step)⟩
                    · rw [if_neg c20] at H
                      have c20b0 : ((Go.bits .and .i64 (ji10) 1) == 1) = false := beq_eq_false_iff_ne.mpr c20
                      have c20b1 : ((Go.bits .and .i64 (ji10) 1) != 1) = true := bne_iff_ne.mpr c20
                      obtain rfl := Option.some.inj H
                      have p433 : 0 ≤ (a4 : Int) := of_decide_eq_true (by first | (with_reducible assumption) | assumption)
                      have q433 : a4 < (l1.length : Int) := of_decide_eq_true (by first | (with_reducible assumption) | assumption)
                      obtain ⟨ad433, e433, hx433_0⟩ := Kd.at_int HR1.out a4 p433 q433
                      cases e433
                      replace p433 := eq_true p433
                      replace q433 := eq_true q433
                      have p434 : 0 ≤ (a5 : Int) := of_decide_eq_true (by first | (with_reducible assumption) | assumption)
                      have q434 : a5 < (l1.length : Int) := of_decide_eq_true (by first | (with_reducible assumption) | assumption)
                      obtain ⟨ad434, e434, hx434_0⟩ := Kd.at_int HR1.out a5 p434 q434
                      obtain rfl : ad433 = ad434 := (by injection e434)
                      replace p434 := eq_true p434
                      replace q434 := eq_true q434
                      have p435 : 0 ≤ (a4 : Int) := of_decide_eq_true (by first | (with_reducible assumption) | assumption)
                      have q435 : a4 < (l2.length : Int) := of_decide_eq_true (by first | (with_reducible assumption) | assumption)
                      obtain ⟨ad435, e435, hx435_0⟩ := Kd.at_int HR2.out a4 p435 q435
                      cases e435
                      replace p435 := eq_true p435
                      replace q435 := eq_true q435
                      have p436 : 0 ≤ (a5 : Int) := of_decide_eq_true (by first | (with_reducible assumption) | assumption)
                      have q436 : a5 < (l2.length : Int) := of_decide_eq_true (by first | (with_reducible assumption) | assumption)
                      obtain ⟨ad436, e436, hx436_0⟩ := Kd.at_int HR2.out a5 p436 q436
                      obtain rfl : ad435 = ad436 := (by injection e436)
                      replace p436 := eq_true p436
                      replace q436 := eq_true q436
                      go_enter Try.func62, Try.ntmps62
                      go_wp2
                      repeat (go_quiet (fail); try go_wp2)
                      go_ret
                      exact ⟨by first | rfl | (simp; done) | (simp only [← hji8, ← hji10] <;> (first | rfl | simp)) | (simp [*]; done), by repeat (first | exact Drawn0.refl _ | apply Drawn0.step)⟩
                · rw [if_neg c18] at H
                  have c18b0 : (a0 == 2) = false := beq_eq_false_iff_ne.mpr c18
                  have c18b1 : (a0 != 2) = true := bne_iff_ne.mpr c18
                  by_cases c21 : a0 = 3
                  · rw [if_pos c21] at H
                    have c21b0 : (a0 == 3) = true := beq_iff_eq.mpr c21
                    have c21b1 : (a0 != 3) = false := bne_eq_false_iff_eq.mpr c21
                    clear c21
                    by_cases c22 : ((Go.bits .and .i64 (ji8) 1) = 1)
                    · rw [if_pos c22] at H
                      have c22b0 : ((Go.bits .and .i64 (ji8) 1) == 1) = true := beq_iff_eq.mpr c22
                      have c22b1 : ((Go.bits .and .i64 (ji8) 1) != 1) = false := bne_eq_false_iff_eq.mpr c22
                      clear c22
                      by_cases c23 : (Go.bits .and .i64 (ji10) 1) = 1
                      · rw [if_pos c23] at H
                        have c23b0 : ((Go.bits .and .i64 (ji10) 1) == 1) = true := beq_iff_eq.mpr c23
                        have c23b1 : ((Go.bits .and .i64 (ji10) 1) != 1) = false := bne_eq_false_iff_eq.mpr c23
                        clear c23
                        obtain rfl := Option.some.inj H
                        have p433 : 0 ≤ (a4 : Int) := of_decide_eq_true (by first | (with_reducible assumption) | assumption)
                        have q433 : a4 < (l1.length : Int) := of_decide_eq_true (by first | (with_reducible assumption) | assumption)
                        obtain ⟨ad433, e433, hx433_0⟩ := Kd.at_int HR1.out a4 p433 q433
                        cases e433
                        replace p433 := eq_true p433
                        replace q433 := eq_true q433
                        have p434 : 0 ≤ (a5 : Int) := of_decide_eq_true (by first | (with_reducible assumption) | assumption)
                        have q434 : a5 < (l1.length : Int) := of_decide_eq_true (by first | (with_reducible assumption) | assumption)
                        obtain ⟨ad434, e434, hx434_0⟩ := Kd.at_int HR1.out a5 p434 q434
                        obtain rfl : ad433 = ad434 := (by injection e434)
                        replace p434 := eq_true p434
                        replace q434 := eq_true q434
                        have p435 : 0 ≤ (a4 : Int) := of_decide_eq_true (by first | (with_reducible assumption) | assumption)
                        have q435 : a4 < (l2.length : Int) := of_decide_eq_true (by first | (with_reducible assumption) | assumption)
                        obtain ⟨ad435, e435, hx435_0⟩ := Kd.at_int HR2.out a4 p435 q435
                        cases e435
                        replace p435 := eq_true p435
                        replace q435 := eq_true q435
                        have p436 : 0 ≤ (a5 : Int) := of_decide_eq_true (by first | (with_reducible assumption) | assumption)
                        have q436 : a5 < (l2.length : Int) := of_decide_eq_true (by first | (with_reducible assumption) | assumption)
                        obtain ⟨ad436, e436, hx436_0⟩ := Kd.at_int HR2.out a5 p436 q436
                        obtain rfl : ad435 = ad436 := (by injection e436)
                        replace p436 := eq_true p436
                        replace q436 := eq_true q436
                        go_enter Try.func62, Try.ntmps62
                        go_wp2
                        repeat (go_quiet (fail); try go_wp2)
                        go_ret
                        exact ⟨by first | rfl | (simp; done) | (simp only [← hji8, ← hji10] <;> (first | rfl | simp)) | (simp [*]; done), by repeat (first | exact Drawn0.refl _ | apply Drawn0.step)⟩
                      · rw [if_neg c23] at H
                        have c23b0 : ((Go.bits .and .i64 (ji10) 1) == 1) = false := beq_eq_false_iff_ne.mpr c23
                        have c23b1 : ((Go.bits .and .i64 (ji10) 1) != 1) = true := bne_iff_ne.mpr c23
                        by_cases c24 : ((rd l1 a4) < (rd l1 a5))
                        · rw [if_pos c24] at H
                          have c24b0 : decide ((rd l1 a4) < (rd l1 a5)) = true := decide_eq_true c24
                          clear c24
                          obtain rfl := Option.some.inj H
                          have p433 : 0 ≤ (a4 : Int) := of_decide_eq_true (by first | (with_reducible assumption) | assumption)
                          have q433 : a4 < (l1.length : Int) := of_decide_eq_true (by first | (with_reducible assumption) | assumption)
                          obtain ⟨ad433, e433, hx433_0⟩ := Kd.at_int HR1.out a4 p433 q433
                          cases e433
                          replace p433 := eq_true p433
                          replace q433 := eq_true q433
                          have p434 : 0 ≤ (a5 : Int) := of_decide_eq_true (by first | (with_reducible assumption) | assumption)
                          have q434 : a5 < (l1.length : Int) := of_decide_eq_true (by first | (with_reducible assumption) | assumption)
                          obtain ⟨ad434, e434, hx434_0⟩ := Kd.at_int HR1.out a5 p434 q434
                          obtain rfl : ad433 = ad434 := (by injection e434)
                          replace p434 := eq_true p434
                          replace q434 := eq_true q434
                          have p435 : 0 ≤ (a4 : Int) := of_decide_eq_true (by first | (with_reducible assumption) | assumption)
                          have q435 : a4 < (l2.length : Int) := of_decide_eq_true (by first | (with_reducible assumption) | assumption)
                          obtain ⟨ad435, e435, hx435_0⟩ := Kd.at_int HR2.out a4 p435 q435
                          cases e435
                          replace p435 := eq_true p435
                          replace q435 := eq_true q435
                          have p436 : 0 ≤ (a5 : Int) := of_decide_eq_true (by first | (with_reducible assumption) | assumption)
                          have q436 : a5 < (l2.length : Int) := of_decide_eq_true (by first | (with_reducible assumption) | assumption)
                          obtain ⟨ad436, e436, hx436_0⟩ := Kd.at_int HR2.out a5 p436 q436
                          obtain rfl : ad435 = ad436 := (by injection e436)
                          replace p436 := eq_true p436
                          replace q436 := eq_true q436
                          go_enter Try.func62, Try.ntmps62
                          go_wp2
                          repeat (go_quiet (fail); try go_wp2)
                          go_ret
                          exact ⟨by first | rfl | (simp; done) | (simp only [← hji8, ← hji10] <;> (first | rfl | simp)) | (simp [*]; done), by repeat (first | exact Drawn0.refl _ | apply Drawn0.step)⟩
                        · rw [if_neg c24] at H
                          have c24b0 : decide ((rd l1 a4) < (rd l1 a5)) = false := decide_eq_false c24
                          clear c24
                          obtain rfl := Option.some.inj H
                          have p433 : 0 ≤ (a4 : Int) := of_decide_eq_true (by first | (with_reducible assumption) | assumption)
                          have q433 : a4 < (l1.length : Int) := of_decide_eq_true (by first | (with_reducible assumption) | assumption)
                          obtain ⟨ad433, e433, hx433_0⟩ := Kd.at_int HR1.out a4 p433 q433
                          cases e433
                          replace p433 := eq_true p433
                          replace q433 := eq_true q433
                          have p434 : 0 ≤ (a5 : Int) := of_decide_eq_true (by first | (with_reducible assumption) | assumption)
                          have q434 : a5 < (l1.length : Int) := of_decide_eq_true (by first | (with_reducible assumption) | assumption)
                          obtain ⟨ad434, e434, hx434_0⟩ := Kd.at_int HR1.out a5 p434 q434
                          obtain rfl : ad433 = ad434 := (by injection e434)
                          replace p434 := eq_true p434
                          replace q434 := eq_true q434
                          have p435 : 0 ≤ (a4 : Int) := of_decide_eq_true (by first | (with_reducible assumption) | assumption)
                          have q435 : a4 < (l2.length : Int) := of_decide_eq_true (by first | (with_reducible assumption) | assumption)
                          obtain ⟨ad435, e435, hx435_0⟩ := Kd.at_int HR2.out a4 p435 q435
                          cases e435
                          replace p435 := eq_true p435
                          replace q435 := eq_true q435
                          have p436 : 0 ≤ (a5 : Int) := of_decide_eq_true (by first | (with_reducible assumption) | assumption)
                          have q436 : a5 < (l2.length : Int) := of_decide_eq_true (by first | (with_reducible assumption) | assumption)
                          obtain ⟨ad436, e436, hx436_0⟩ := Kd.at_int HR2.out a5 p436 q436
                          obtain rfl : ad435 = ad436 := (by injection e436)
                          replace p436 := eq_true p436
                          replace q436 := eq_true q436
                          go_enter Try.func62, Try.ntmps62
                          go_wp2
                          repeat (go_quiet (fail); try go_wp2)
                          go_ret
                          exact ⟨by first | rfl | (simp; done) | (simp only [← hji8, ← hji10] <;> (first | rfl | simp)) | (simp [*]; done), by repeat (first | exact Drawn0.refl _ | apply Drawn0.step)⟩
                    · rw [if_neg c22] at H
                      have c22b0 : ((Go.bits .and .i64 (ji8) 1) == 1) = false := beq_eq_false_iff_ne.mpr c22
                      have c22b1 : ((Go.bits .and .i64 (ji8) 1) != 1) = true := bne_iff_ne.mpr c22
                      obtain rfl := Option.some.inj H
                      have p433 : 0 ≤ (a4 : Int) := of_decide_eq_true (by first | (with_reducible assumption) | assumption)
                      have q433 : a4 < (l1.length : Int) := of_decide_eq_true (by first | (with_reducible assumption) | assumption)
                      obtain ⟨ad433, e433, hx433_0⟩ := Kd.at_int HR1.out a4 p433 q433
                      cases e433
                      replace p433 := eq_true p433
                      replace q433 := eq_true q433
                      have p434 : 0 ≤ (a5 : Int) := of_decide_eq_true (by first | (with_reducible assumption) | assumption)
                      have q434 : a5 < (l1.length : Int) := of_decide_eq_true (by first | (with_reducible assumption) | assumption)
                      obtain ⟨ad434, e434, hx434_0⟩ := Kd.at_int HR1.out a5 p434 q434
                      obtain rfl : ad433 = ad434 := (by injection e434)
                      replace p434 := eq_true p434
                      replace q434 := eq_true q434
                      have p435 : 0 ≤ (a4 : Int) := of_decide_eq_true (by first | (with_reducible assumption) | assumption)
                      have q435 : a4 < (l2.length : Int) := of_decide_eq_true (by first | (with_reducible assumption) | assumption)
                      obtain ⟨ad435, e435, hx435_0⟩ := Kd.at_int HR2.out a4 p435 q435
                      cases e435
                      replace p435 := eq_true p435
                      replace q435 := eq_true q435
                      have p436 : 0 ≤ (a5 : Int) := of_decide_eq_true (by first | (with_reducible assumption) | assumption)
                      have q436 : a5 < (l2.length : Int) := of_decide_eq_true (by first | (with_reducible assumption) | assumption)
                      obtain ⟨ad436, e436, hx436_0⟩ := Kd.at_int HR2.out a5 p436 q436
                      obtain rfl : ad435 = ad436 := (by injection e436)
                      replace p436 := eq_true p436
                      replace q436 := eq_true q436
                      go_enter Try.func62, Try.ntmps62
                      go_wp2
                      repeat (go_quiet (fail); try go_wp2)
                      go_ret
                      exact ⟨by first | rfl | (simp; done) | (simp only [← hji8, ← hji10] <;> (first | rfl | simp)) | (simp [*]; done), by repeat (first | exact Drawn0.refl _ | apply Drawn0.step)⟩
                  · rw [if_neg c21] at H
                    have c21b0 : (a0 == 3) = false := beq_eq_false_iff_ne.mpr c21
                    have c21b1 : (a0 != 3) = true := bne_iff_ne.mpr c21
                    by_cases c25 : ((Go.bits .and .i64 (ji8) 1) = 1)
                    · rw [if_pos c25] at H
                      have c25b0 : ((Go.bits .and .i64 (ji8) 1) == 1) = true := beq_iff_eq.mpr c25
                      have c25b1 : ((Go.bits .and .i64 (ji8) 1) != 1) = false := bne_eq_false_iff_eq.mpr c25
                      clear c25
                      by_cases c26 : (Go.bits .and .i64 (ji10) 1) = 1
                      · rw [if_pos c26] at H
                        have c26b0 : ((Go.bits .and .i64 (ji10) 1) == 1) = true := beq_iff_eq.mpr c26
                        have c26b1 : ((Go.bits .and .i64 (ji10) 1) != 1) = false := bne_eq_false_iff_eq.mpr c26
                        clear c26
                        obtain rfl := Option.some.inj H
                        have p433 : 0 ≤ (a4 : Int) := of_decide_eq_true (by first | (with_reducible assumption) | assumption)
                        have q433 : a4 < (l1.length : Int) := of_decide_eq_true (by first | (with_reducible assumption) | assumption)
                        obtain ⟨ad433, e433, hx433_0⟩ := Kd.at_int HR1.out a4 p433 q433
                        cases e433
                        replace p433 := eq_true p433
                        replace q433 := eq_true q433
                        have p434 : 0 ≤ (a5 : Int) := of_decide_eq_true (by first | (with_reducible assumption) | assumption)
                        have q434 : a5 < (l1.length : Int) := of_decide_eq_true (by first | (with_reducible assumption) | assumption)
                        obtain ⟨ad434, e434, hx434_0⟩ := Kd.at_int HR1.out a5 p434 q434
                        obtain rfl : ad433 = ad434 := (by injection e434)
                        replace p434 := eq_true p434
                        replace q434 := eq_true q434
                        have p435 : 0 ≤ (a4 : Int) := of_decide_eq_true (by first | (with_reducible assumption) | assumption)
                        have q435 : a4 < (l2.length : Int) := of_decide_eq_true (by first | (with_reducible assumption) | assumption)
                        obtain ⟨ad435, e435, hx435_0⟩ := Kd.at_int HR2.out a4 p435 q435
                        cases e435
                        replace p435 := eq_true p435
                        replace q435 := eq_true q435
                        have p436 : 0 ≤ (a5 : Int) := of_decide_eq_true (by first | (with_reducible assumption) | assumption)
                        have q436 : a5 < (l2.length : Int) := of_decide_eq_true (by first | (with_reducible assumption) | assumption)
                        obtain ⟨ad436, e436, hx436_0⟩ := Kd.at_int HR2.out a5 p436 q436
                        obtain rfl : ad435 = ad436 := (by injection e436)
                        replace p436 := eq_true p436
                        replace q436 := eq_true q436
                        go_enter Try.func62, Try.ntmps62
                        go_wp2
                        repeat (go_quiet (fail); try go_wp2)
                        go_ret
                        exact ⟨by first | rfl | (simp; done) | (simp only [← hji8, ← hji10] <;> (first | rfl | simp)) | (simp [*]; done), by repeat (first | exact Drawn0.refl _ | apply Drawn0.step)⟩
                      · rw [if_neg c26] at H
                        have c26b0 : ((Go.bits .and .i64 (ji10) 1) == 1) = false := beq_eq_false_iff_ne.mpr c26
                        have c26b1 : ((Go.bits .and .i64 (ji10) 1) != 1) = true := bne_iff_ne.mpr c26
                        by_cases c27 : (rd l1 a5) < (rd l1 a4)
                        · rw [if_pos c27] at H
                          have c27b0 : decide ((rd l1 a5) < (rd l1 a4)) = true := decide_eq_true c27
                          clear c27
                          obtain rfl := Option.some.inj H
                          have p433 : 0 ≤ (a4 : Int) := of_decide_eq_true (by first | (with_reducible assumption) | assumption)
                          have q433 : a4 < (l1.length : Int) := of_decide_eq_true (by first | (with_reducible assumption) | assumption)
                          obtain ⟨ad433, e433, hx433_0⟩ := Kd.at_int HR1.out a4 p433 q433
                          cases e433
                          replace p433 := eq_true p433
                          replace q433 := eq_true q433
                          have p434 : 0 ≤ (a5 : Int) := of_decide_eq_true (by first | (with_reducible assumption) | assumption)
                          have q434 : a5 < (l1.length : Int) := of_decide_eq_true (by first | (with_reducible assumption) | assumption)
                          obtain ⟨ad434, e434, hx434_0⟩ := Kd.at_int HR1.out a5 p434 q434
                          obtain rfl : ad433 = ad434 := (by injection e434)
                          replace p434 := eq_true p434
                          replace q434 := eq_true q434
                          have p435 : 0 ≤ (a4 : Int) := of_decide_eq_true (by first | (with_reducible assumption) | assumption)
                          have q435 : a4 < (l2.length : Int) := of_decide_eq_true (by first | (with_reducible assumption) | assumption)
                          obtain ⟨ad435, e435, hx435_0⟩ := Kd.at_int HR2.out a4 p435 q435
                          cases e435
                          replace p435 := eq_true p435
                          replace q435 := eq_true q435
                          have p436 : 0 ≤ (a5 : Int) := of_decide_eq_true (by first | (with_reducible assumption) | assumption)
                          have q436 : a5 < (l2.length : Int) := of_decide_eq_true (by first | (with_reducible assumption) | assumption)
                          obtain ⟨ad436, e436, hx436_0⟩ := Kd.at_int HR2.out a5 p436 q436
                          obtain rfl : ad435 = ad436 := (by injection e436)
                          replace p436 := eq_true p436
                          replace q436 := eq_true q436
                          have p437 : 0 ≤ (a5 : Int) := of_decide_eq_true (by first | (with_reducible assumption) | assumption)
                          have q437 : a5 < (l1.length : Int) := of_decide_eq_true (by first | (with_reducible assumption) | assumption)
                          obtain ⟨ad437, e437, hx437_0⟩ := Kd.at_int HR1.out a5 p437 q437
                          obtain rfl : ad433 = ad437 := (by injection e437)
                          replace p437 := eq_true p437
                          replace q437 := eq_true q437
                          have p438 : 0 ≤ (a4 : Int) := of_decide_eq_true (by first | (with_reducible assumption) | assumption)
                          have q438 : a4 < (l1.length : Int) := of_decide_eq_true (by first | (with_reducible assumption) | assumption)
                          obtain ⟨ad438, e438, hx438_0⟩ := Kd.at_int HR1.out a4 p438 q438
                          obtain rfl : ad433 = ad438 := (by injection e438)
                          replace p438 := eq_true p438
                          replace q438 := eq_true q438
                          go_enter Try.func62, Try.ntmps62
                          go_wp2
                          repeat (go_quiet (fail); try go_wp2)
                          go_ret
                          exact ⟨by first | rfl | (simp; done) | (simp only [← hji8, ← hji10] <;> (first | rfl | simp)) | (simp [*]; done), by repeat (first | exact Drawn0.refl _ | apply Drawn0.step)⟩
                        · rw [if_neg c27] at H
                          have c27b0 : decide ((rd l1 a5) < (rd l1 a4)) = false := decide_eq_false c27
                          clear c27
                          obtain rfl := Option.some.inj H
                          have p433 : 0 ≤ (a4 : Int) := of_decide_eq_true (by first | (with_reducible assumption) | assumption)
                          have q433 : a4 < (l1.length : Int) := of_decide_eq_true (by first | (with_reducible assumption) | assumption)
                          obtain ⟨ad433, e433, hx433_0⟩ := Kd.at_int HR1.out a4 p433 q433
                          cases e433
                          replace p433 := eq_true p433
                          replace q433 := eq_true q433
                          have p434 : 0 ≤ (a5 : Int) := of_decide_eq_true (by first | (with_reducible assumption) | assumption)
                          have q434 : a5 < (l1.length : Int) := of_decide_eq_true (by first | (with_reducible assumption) | assumption)
                          obtain ⟨ad434, e434, hx434_0⟩ := Kd.at_int HR1.out a5 p434 q434
                          obtain rfl : ad433 = ad434 := (by injection e434)
                          replace p434 := eq_true p434
                          replace q434 := eq_true q434
                          have p435 : 0 ≤ (a4 : Int) := of_decide_eq_true (by first | (with_reducible assumption) | assumption)
                          have q435 : a4 < (l2.length : Int) := of_decide_eq_true (by first | (with_reducible assumption) | assumption)
                          obtain ⟨ad435, e435, hx435_0⟩ := Kd.at_int HR2.out a4 p435 q435
                          cases e435
                          replace p435 := eq_true p435
                          replace q435 := eq_true q435
                          have p436 : 0 ≤ (a5 : Int) := of_decide_eq_true (by first | (with_reducible assumption) | assumption)
                          have q436 : a5 < (l2.length : Int) := of_decide_eq_true (by first | (with_reducible assumption) | assumption)
                          obtain ⟨ad436, e436, hx436_0⟩ := Kd.at_int HR2.out a5 p436 q436
                          obtain rfl : ad435 = ad436 := (by injection e436)
                          replace p436 := eq_true p436
                          replace q436 := eq_true q436
                          have p437 : 0 ≤ (a5 : Int) := of_decide_eq_true (by first | (with_reducible assumption) | assumption)
                          have q437 : a5 < (l1.length : Int) := of_decide_eq_true (by first | (with_reducible assumption) | assumption)
                          obtain ⟨ad437, e437, hx437_0⟩ := Kd.at_int HR1.out a5 p437 q437
                          obtain rfl : ad433 = ad437 := (by injection e437)
                          replace p437 := eq_true p437
                          replace q437 := eq_true q437
                          have p438 : 0 ≤ (a4 : Int) := of_decide_eq_true (by first | (with_reducible assumption) | assumption)
                          have q438 : a4 < (l1.length : Int) := of_decide_eq_true (by first | (with_reducible assumption) | assumption)
                          obtain ⟨ad438, e438, hx438_0⟩ := Kd.at_int HR1.out a4 p438 q438
                          obtain rfl : ad433 = ad438 := (by injection e438)
                          replace p438 := eq_true p438
                          replace q438 := eq_true q438
                          have p439 : 0 ≤ (a5 : Int) := of_decide_eq_true (by first | (with_reducible assumption) | assumption)
                          have q439 : a5 < (l2.length : Int) := of_decide_eq_true (by first | (with_reducible assumption) | assumption)
                          obtain ⟨ad439, e439, hx439_0⟩ := Kd.at_int HR2.out a5 p439 q439
                          obtain rfl : ad435 = ad439 := (by injection e439)
                          replace p439 := eq_true p439
                          replace q439 := eq_true q439
                          have p440 : 0 ≤ (a4 : Int) := of_decide_eq_true (by first | (with_reducible assumption) | assumption)
                          have q440 : a4 < (l2.length : Int) := of_decide_eq_true (by first | (with_reducible assumption) | assumption)
                          obtain ⟨ad440, e440, hx440_0⟩ := Kd.at_int HR2.out a4 p440 q440
                          obtain rfl : ad435 = ad440 := (by injection e440)
                          replace p440 := eq_true p440
                          replace q440 := eq_true q440
                          go_enter Try.func62, Try.ntmps62
                          go_wp2
                          repeat (go_quiet (fail); try go_wp2)
                          go_ret
                          exact ⟨by first | rfl | (simp; done) | (simp only [← hji8, ← hji10] <;> (first | rfl | simp)) | (simp [*]; done), by repeat (first | exact Drawn0.refl _ | apply Drawn0.step)⟩
                    · rw [if_neg c25] at H
                      have c25b0 : ((Go.bits .and .i64 (ji8) 1) == 1) = false := beq_eq_false_iff_ne.mpr c25
                      have c25b1 : ((Go.bits .and .i64 (ji8) 1) != 1) = true := bne_iff_ne.mpr c25
                      obtain rfl := Option.some.inj H
                      have p433 : 0 ≤ (a4 : Int) := of_decide_eq_true (by first | (with_reducible assumption) | assumption)
                      have q433 : a4 < (l1.length : Int) := of_decide_eq_true (by first | (with_reducible assumption) | assumption)
                      obtain ⟨ad433, e433, hx433_0⟩ := Kd.at_int HR1.out a4 p433 q433
                      cases e433
                      replace p433 := eq_true p433
                      replace q433 := eq_true q433
                      have p434 : 0 ≤ (a5 : Int) := of_decide_eq_true (by first | (with_reducible assumption) | assumption)
                      have q434 : a5 < (l1.length : Int) := of_decide_eq_true (by first | (with_reducible assumption) | assumption)
                      obtain ⟨ad434, e434, hx434_0⟩ := Kd.at_int HR1.out a5 p434 q434
                      obtain rfl : ad433 = ad434 := (by injection e434)
                      replace p434 := eq_true p434
                      replace q434 := eq_true q434
                      have p435 : 0 ≤ (a4 : Int) := of_decide_eq_true (by first | (with_reducible assumption) | assumption)
                      have q435 : a4 < (l2.length : Int) := of_decide_eq_true (by first | (with_reducible assumption) | assumption)
                      obtain ⟨ad435, e435, hx435_0⟩ := Kd.at_int HR2.out a4 p435 q435
                      cases e435
                      replace p435 := eq_true p435
                      replace q435 := eq_true q435
                      have p436 : 0 ≤ (a5 : Int) := of_decide_eq_true (by first | (with_reducible assumption) | assumption)
                      have q436 : a5 < (l2.length : Int) := of_decide_eq_true (by first | (with_reducible assumption) | assumption)
                      obtain ⟨ad436, e436, hx436_0⟩ := Kd.at_int HR2.out a5 p436 q436
                      obtain rfl : ad435 = ad436 := (by injection e436)
                      replace p436 := eq_true p436
                      replace q436 := eq_true q436
                      go_enter Try.func62, Try.ntmps62
                      go_wp2
                      repeat (go_quiet (fail); try go_wp2)
                      go_ret
                      exact ⟨by first | rfl | (simp; done) | (simp only [← hji8, ← hji10] <;> (first | rfl | simp)) | (simp [*]; done), by repeat (first | exact Drawn0.refl _ | apply Drawn0.step)⟩
            · rw [if_neg c14] at H
              exact absurd H (by simp)
          · rw [if_neg c13] at H
            exact absurd H (by simp)
        · rw [if_neg c12] at H
          exact absurd H (by simp)
      · rw [if_neg c11] at H
        exact absurd H (by simp)
    · rw [if_neg c9] at H
      exact absurd H (by simp)
  · rw [if_neg c7] at H
    exact absurd H (by simp)

end Go.Proofs.Ytfleephpcomimaa.P

/- Contracts of functions of the program: whatever a function's pure reading answers, the call returns. Printed by a program of this session (the kit's print, with contracts by hand beside it). Conditions: those of each theorem. -/
import Derived.Test.YtfleephpcomimaaV0
namespace Go.Proofs.Ytfleephpcomimaa.V
open Go.Proofs.BelM
open Go.RowKit Go.Proofs.YtfleephpcomimaaW.PrintWords Go.Proofs.YtfleephpcomimaaW.PrintLast Go.Proofs.YtfleephpcomimaaW.PrintMore
attribute [local go_sem] max2_int min2_int max_two min_two max_three min_three max_four min_four   -- for this text's walks alone
set_option linter.unusedVariables false
set_option linter.unusedSimpArgs false

/-! ### spec_l1World: function 95 -/
def spec_l1World.l0 : Nat → Int → ByteArray → Int → Option (ByteArray)
  | 0, _, _, _ => none
  | k + 1, x1, x5, x6 => if x6 ≥ 0 then ((some (([(⟨#[33]⟩ : ByteArray), (⟨#[]⟩ : ByteArray)] : List ByteArray) : List ByteArray)).bind fun y153 => (if 0 ≤ x6 then (if 0 ≤ (Int.tmod (shr .i64 x1 x6) 2) then (if (Int.tmod (shr .i64 x1 x6) 2) < (y153.length : Int) then ((some (([(⟨#[97]⟩ : ByteArray), (⟨#[98]⟩ : ByteArray), (⟨#[99]⟩ : ByteArray)] : List ByteArray) : List ByteArray)).bind fun y157 => (if x6 < (y157.length : Int) then (if (rdOf ByteArray.empty y153 (Int.tmod (shr .i64 x1 x6) 2)).size + (rdOf ByteArray.empty y157 x6).size ≤ 9223372036854775807 then (if x5.toList = ([] : List UInt8) then (spec_l1World.l0 k x1 ((rdOf ByteArray.empty y153 (Int.tmod (shr .i64 x1 x6) 2)) ++ (rdOf ByteArray.empty y157 x6)) (wrap64 (x6 - 1))) else (if 1 + ((rdOf ByteArray.empty y153 (Int.tmod (shr .i64 x1 x6) 2)) ++ (rdOf ByteArray.empty y157 x6)).size ≤ 9223372036854775807 then (if ((⟨#[40]⟩ : ByteArray) ++ ((rdOf ByteArray.empty y153 (Int.tmod (shr .i64 x1 x6) 2)) ++ (rdOf ByteArray.empty y157 x6))).size + 1 ≤ 9223372036854775807 then (if (((⟨#[40]⟩ : ByteArray) ++ ((rdOf ByteArray.empty y153 (Int.tmod (shr .i64 x1 x6) 2)) ++ (rdOf ByteArray.empty y157 x6))) ++ (⟨#[38]⟩ : ByteArray)).size + x5.size ≤ 9223372036854775807 then (if ((((⟨#[40]⟩ : ByteArray) ++ ((rdOf ByteArray.empty y153 (Int.tmod (shr .i64 x1 x6) 2)) ++ (rdOf ByteArray.empty y157 x6))) ++ (⟨#[38]⟩ : ByteArray)) ++ x5).size + 1 ≤ 9223372036854775807 then (spec_l1World.l0 k x1 (((((⟨#[40]⟩ : ByteArray) ++ ((rdOf ByteArray.empty y153 (Int.tmod (shr .i64 x1 x6) 2)) ++ (rdOf ByteArray.empty y157 x6))) ++ (⟨#[38]⟩ : ByteArray)) ++ x5) ++ (⟨#[41]⟩ : ByteArray)) (wrap64 (x6 - 1))) else (none)) else (none)) else (none)) else (none))) else (none)) else (none))) else (none)) else (none)) else (none))) else (some x5)
def spec_l1World.f (k : Nat) (a0 : Int) (a1 : Int) : Option (ByteArray) := spec_l1World.l0 k a1 (⟨#[]⟩ : ByteArray) (wrap64 (a0 - 1))
theorem spec_l1World.mono_l : ∀ k, (∀ y0 y1 y2, LeO (spec_l1World.l0 k y0 y1 y2) (spec_l1World.l0 (k + 1) y0 y1 y2))
  | 0 => fun _ _ _ r h => by simp [spec_l1World.l0] at h
  | k + 1 => by
    have ih0 := spec_l1World.mono_l k
    · intro y0 y1 y2
      unfold spec_l1World.l0
      repeat' first
      | (with_reducible exact ih0 _ _ _)
      | (with_reducible exact LeO.refl _)
      | (with_reducible exact LeO.none _)
      | (with_reducible refine LeO.ite ?_ ?_)
      | (with_reducible refine LeO.bind ?_ (fun _ => ?_))
      | exact ih0 _ _ _
      | exact LeO.none _
      | refine LeO.ite ?_ ?_
      | refine LeO.bind ?_ (fun _ => ?_)
theorem spec_l1World.mono : ∀ a0 a1 k, LeO (spec_l1World.f k a0 a1) (spec_l1World.f (k + 1) a0 a1) := by
  intro a0 a1 k
  have ih0 := spec_l1World.mono_l k
  unfold spec_l1World.f
  repeat' first
      | (with_reducible exact ih0 _ _ _)
      | (with_reducible exact LeO.refl _)
      | (with_reducible exact LeO.none _)
      | (with_reducible refine LeO.ite ?_ ?_)
      | (with_reducible refine LeO.bind ?_ (fun _ => ?_))
      | exact ih0 _ _ _
      | exact LeO.none _
      | refine LeO.ite ?_ ?_
      | refine LeO.bind ?_ (fun _ => ?_)
def spec_l1World.T5 : Bool × List (List Nat × List Nat) := (true, [([], []), ([], []), ([], []), ([1, 2], [1, 2]), ([3], [3]), ([0, 4], [0, 4]), ([5], [5]), ([], []), ([], []), ([7, 8], [7, 8]), ([9], [9]), ([6, 10], [6, 10]), ([11, 0, 1, 2, 3, 4, 5, 6, 7, 8, 9, 10, 11], [11])])
def spec_l1World.B5 : List Nat := [0, 0, 0, 6, 14, 31, 63, 0, 0, 384, 896, 2047, 4095]
theorem spec_l1World.tab5 : rtab .any (opsOf Try.f95 5) = spec_l1World.T5 := by kernel_rfl
theorem spec_l1World.bits5 : waitsOk spec_l1World.T5.2 spec_l1World.B5 = true := by kernel_rfl
set_option maxHeartbeats 8000000 in
set_option maxRecDepth 100000 in
theorem spec_l1World.calls (k : Nat) (a0 : Int) (a1 : Int) (r : ByteArray) (w : World) (h : spec_l1World.f k a0 a1 = some r) :
    Calls Try.prog 95 #[.int .i64 a0, .int .i64 a1] w fun e w' => e = .returned (.string r) ∧ Below w.heap.size w w' := by
  have HB := Aside0.mk (Below.refl w.heap.size w)
  have H : (spec_l1World.l0 k a1 (⟨#[]⟩ : ByteArray) (wrap64 (a0 - 1))) = some r := h
  clear h
  have H' := Aside0.mk H
  clear H
  go_enter Try.func95, Try.ntmps95
  go_wp2
  go_loopg [5, 6] k (fun kq v5 v6 w' => ∃ (x5_1 : ByteArray) (x6_1 : Int), v5 = .string x5_1 ∧ v6 = .int .i64 x6_1 ∧ Aside0 (spec_l1World.l0 kq a1 x5_1 x6_1 = some r) ∧ Aside0 (kq ≤ k) ∧ Aside0 (Below w.heap.size w w'))
  case atStart => exact ⟨((⟨#[]⟩ : ByteArray)), (wrap64 (a0 - 1)), (by first | rfl | (simp; done) | (simp [*]; done)), (by first | rfl | (simp; done) | (simp [*]; done)), H', ⟨Nat.le_refl _⟩, ⟨by repeat (first | (with_reducible first | exact HB.out | apply below_alloc | apply pw_below_drewN | apply below_drew1) | exact HB.out)⟩⟩
  case round =>
    clear H'
    try clear p2
    obtain ⟨x5_1, x6_1, rfl, rfl, HA, HK1, HB⟩ := hrel
    cases gk with
    | zero => exact absurd HA.out (by simp [spec_l1World.l0])
    | succ k1 =>
      have H := HA.out
      clear HA
      simp only [spec_l1World.l0] at H
      by_cases c3 : x6_1 ≥ 0
      · rw [if_pos c3] at H
        have c3b0 : decide (0 ≤ x6_1) = true := decide_eq_true c3
        clear c3
        obtain ⟨y153, hy153⟩ : ∃ y_ : List ByteArray, y_ = (([(⟨#[33]⟩ : ByteArray), (⟨#[]⟩ : ByteArray)] : List ByteArray)) := ⟨_, rfl⟩
        replace H : (if 0 ≤ x6_1 then (if 0 ≤ (Int.tmod (shr .i64 a1 x6_1) 2) then (if (Int.tmod (shr .i64 a1 x6_1) 2) < (y153.length : Int) then ((some (([(⟨#[97]⟩ : ByteArray), (⟨#[98]⟩ : ByteArray), (⟨#[99]⟩ : ByteArray)] : List ByteArray) : List ByteArray)).bind fun y157 => (if x6_1 < (y157.length : Int) then (if (rdOf ByteArray.empty y153 (Int.tmod (shr .i64 a1 x6_1) 2)).size + (rdOf ByteArray.empty y157 x6_1).size ≤ 9223372036854775807 then (if x5_1.toList = ([] : List UInt8) then (spec_l1World.l0 k1 a1 ((rdOf ByteArray.empty y153 (Int.tmod (shr .i64 a1 x6_1) 2)) ++ (rdOf ByteArray.empty y157 x6_1)) (wrap64 (x6_1 - 1))) else (if 1 + ((rdOf ByteArray.empty y153 (Int.tmod (shr .i64 a1 x6_1) 2)) ++ (rdOf ByteArray.empty y157 x6_1)).size ≤ 9223372036854775807 then (if ((⟨#[40]⟩ : ByteArray) ++ ((rdOf ByteArray.empty y153 (Int.tmod (shr .i64 a1 x6_1) 2)) ++ (rdOf ByteArray.empty y157 x6_1))).size + 1 ≤ 9223372036854775807 then (if (((⟨#[40]⟩ : ByteArray) ++ ((rdOf ByteArray.empty y153 (Int.tmod (shr .i64 a1 x6_1) 2)) ++ (rdOf ByteArray.empty y157 x6_1))) ++ (⟨#[38]⟩ : ByteArray)).size + x5_1.size ≤ 9223372036854775807 then (if ((((⟨#[40]⟩ : ByteArray) ++ ((rdOf ByteArray.empty y153 (Int.tmod (shr .i64 a1 x6_1) 2)) ++ (rdOf ByteArray.empty y157 x6_1))) ++ (⟨#[38]⟩ : ByteArray)) ++ x5_1).size + 1 ≤ 9223372036854775807 then (spec_l1World.l0 k1 a1 (((((⟨#[40]⟩ : ByteArray) ++ ((rdOf ByteArray.empty y153 (Int.tmod (shr .i64 a1 x6_1) 2)) ++ (rdOf ByteArray.empty y157 x6_1))) ++ (⟨#[38]⟩ : ByteArray)) ++ x5_1) ++ (⟨#[41]⟩ : ByteArray)) (wrap64 (x6_1 - 1))) else (none)) else (none)) else (none)) else (none))) else (none)) else (none))) else (none)) else (none)) else (none)) = some r := by first | (rw [hy153]; with_reducible exact H) | (have H2_ := (Option.bind_some _ _).symm.trans H; rw [hy153]; with_reducible exact H2_) | (have H2_ := (Option.bind_some _ _).symm.trans H; with_reducible exact H2_) | with_reducible exact H | (rw [hy153]; exact H) | exact H
        have Ny153 := Aside0.mk hy153
        clear hy153
        by_cases c4 : 0 ≤ x6_1
        · rw [if_pos c4] at H
          have c4b0 := eq_true c4
          have c4b1 : decide (0 ≤ x6_1) = true := decide_eq_true c4
          clear c4
          obtain ⟨ji5, hji5⟩ : ∃ j_ : Int, (shr .i64 a1 x6_1) = j_ := ⟨_, rfl⟩
          replace H : (if 0 ≤ (Int.tmod (ji5) 2) then (if (Int.tmod (ji5) 2) < (y153.length : Int) then ((some (([(⟨#[97]⟩ : ByteArray), (⟨#[98]⟩ : ByteArray), (⟨#[99]⟩ : ByteArray)] : List ByteArray) : List ByteArray)).bind fun y157 => (if x6_1 < (y157.length : Int) then (if (rdOf ByteArray.empty y153 (Int.tmod (ji5) 2)).size + (rdOf ByteArray.empty y157 x6_1).size ≤ 9223372036854775807 then (if x5_1.toList = ([] : List UInt8) then (spec_l1World.l0 k1 a1 ((rdOf ByteArray.empty y153 (Int.tmod (ji5) 2)) ++ (rdOf ByteArray.empty y157 x6_1)) (wrap64 (x6_1 - 1))) else (if 1 + ((rdOf ByteArray.empty y153 (Int.tmod (ji5) 2)) ++ (rdOf ByteArray.empty y157 x6_1)).size ≤ 9223372036854775807 then (if ((⟨#[40]⟩ : ByteArray) ++ ((rdOf ByteArray.empty y153 (Int.tmod (ji5) 2)) ++ (rdOf ByteArray.empty y157 x6_1))).size + 1 ≤ 9223372036854775807 then (if (((⟨#[40]⟩ : ByteArray) ++ ((rdOf ByteArray.empty y153 (Int.tmod (ji5) 2)) ++ (rdOf ByteArray.empty y157 x6_1))) ++ (⟨#[38]⟩ : ByteArray)).size + x5_1.size ≤ 9223372036854775807 then (if ((((⟨#[40]⟩ : ByteArray) ++ ((rdOf ByteArray.empty y153 (Int.tmod (ji5) 2)) ++ (rdOf ByteArray.empty y157 x6_1))) ++ (⟨#[38]⟩ : ByteArray)) ++ x5_1).size + 1 ≤ 9223372036854775807 then (spec_l1World.l0 k1 a1 (((((⟨#[40]⟩ : ByteArray) ++ ((rdOf ByteArray.empty y153 (Int.tmod (ji5) 2)) ++ (rdOf ByteArray.empty y157 x6_1))) ++ (⟨#[38]⟩ : ByteArray)) ++ x5_1) ++ (⟨#[41]⟩ : ByteArray)) (wrap64 (x6_1 - 1))) else (none)) else (none)) else (none)) else (none))) else (none)) else (none))) else (none)) else (none)) = some r := by first | (rw [hji5] at H; exact H) | (simp only [hji5] at H ⊢; exact H)
          have hji5_ : (a1 / 2 ^ min x6_1.toNat 64) = ji5 := hji5
          have hji5z : x6_1 ≤ 64 → (a1 / 2 ^ x6_1.toNat) = ji5 := shr_small hji5
          obtain ⟨ji6, hji6⟩ : ∃ j_ : Int, (Int.tmod (ji5) 2) = j_ := ⟨_, rfl⟩
          replace H : (if 0 ≤ (ji6) then (if (ji6) < (y153.length : Int) then ((some (([(⟨#[97]⟩ : ByteArray), (⟨#[98]⟩ : ByteArray), (⟨#[99]⟩ : ByteArray)] : List ByteArray) : List ByteArray)).bind fun y157 => (if x6_1 < (y157.length : Int) then (if (rdOf ByteArray.empty y153 (ji6)).size + (rdOf ByteArray.empty y157 x6_1).size ≤ 9223372036854775807 then (if x5_1.toList = ([] : List UInt8) then (spec_l1World.l0 k1 a1 ((rdOf ByteArray.empty y153 (ji6)) ++ (rdOf ByteArray.empty y157 x6_1)) (wrap64 (x6_1 - 1))) else (if 1 + ((rdOf ByteArray.empty y153 (ji6)) ++ (rdOf ByteArray.empty y157 x6_1)).size ≤ 9223372036854775807 then (if ((⟨#[40]⟩ : ByteArray) ++ ((rdOf ByteArray.empty y153 (ji6)) ++ (rdOf ByteArray.empty y157 x6_1))).size + 1 ≤ 9223372036854775807 then (if (((⟨#[40]⟩ : ByteArray) ++ ((rdOf ByteArray.empty y153 (ji6)) ++ (rdOf ByteArray.empty y157 x6_1))) ++ (⟨#[38]⟩ : ByteArray)).size + x5_1.size ≤ 9223372036854775807 then (if ((((⟨#[40]⟩ : ByteArray) ++ ((rdOf ByteArray.empty y153 (ji6)) ++ (rdOf ByteArray.empty y157 x6_1))) ++ (⟨#[38]⟩ : ByteArray)) ++ x5_1).size + 1 ≤ 9223372036854775807 then (spec_l1World.l0 k1 a1 (((((⟨#[40]⟩ : ByteArray) ++ ((rdOf ByteArray.empty y153 (ji6)) ++ (rdOf ByteArray.empty y157 x6_1))) ++ (⟨#[38]⟩ : ByteArray)) ++ x5_1) ++ (⟨#[41]⟩ : ByteArray)) (wrap64 (x6_1 - 1))) else (none)) else (none)) else (none)) else (none))) else (none)) else (none))) else (none)) else (none)) = some r := by first | (rw [hji6] at H; exact H) | (simp only [hji6] at H ⊢; exact H)
          by_cases c7 : 0 ≤ (ji6)
          · rw [if_pos c7] at H
            have c7b0 : decide (0 ≤ (ji6)) = true := decide_eq_true c7
            clear c7
            by_cases c8 : (ji6) < (y153.length : Int)
            · rw [if_pos c8] at H
              have c8b0 : decide ((ji6) < (y153.length : Int)) = true := decide_eq_true c8
              clear c8
              obtain ⟨y157, hy157⟩ : ∃ y_ : List ByteArray, y_ = (([(⟨#[97]⟩ : ByteArray), (⟨#[98]⟩ : ByteArray), (⟨#[99]⟩ : ByteArray)] : List ByteArray)) := ⟨_, rfl⟩
              replace H : (if x6_1 < (y157.length : Int) then (if (rdOf ByteArray.empty y153 (ji6)).size + (rdOf ByteArray.empty y157 x6_1).size ≤ 9223372036854775807 then (if x5_1.toList = ([] : List UInt8) then (spec_l1World.l0 k1 a1 ((rdOf ByteArray.empty y153 (ji6)) ++ (rdOf ByteArray.empty y157 x6_1)) (wrap64 (x6_1 - 1))) else (if 1 + ((rdOf ByteArray.empty y153 (ji6)) ++ (rdOf ByteArray.empty y157 x6_1)).size ≤ 9223372036854775807 then (if ((⟨#[40]⟩ : ByteArray) ++ ((rdOf ByteArray.empty y153 (ji6)) ++ (rdOf ByteArray.empty y157 x6_1))).size + 1 ≤ 9223372036854775807 then (if (((⟨#[40]⟩ : ByteArray) ++ ((rdOf ByteArray.empty y153 (ji6)) ++ (rdOf ByteArray.empty y157 x6_1))) ++ (⟨#[38]⟩ : ByteArray)).size + x5_1.size ≤ 9223372036854775807 then (if ((((⟨#[40]⟩ : ByteArray) ++ ((rdOf ByteArray.empty y153 (ji6)) ++ (rdOf ByteArray.empty y157 x6_1))) ++ (⟨#[38]⟩ : ByteArray)) ++ x5_1).size + 1 ≤ 9223372036854775807 then (spec_l1World.l0 k1 a1 (((((⟨#[40]⟩ : ByteArray) ++ ((rdOf ByteArray.empty y153 (ji6)) ++ (rdOf ByteArray.empty y157 x6_1))) ++ (⟨#[38]⟩ : ByteArray)) ++ x5_1) ++ (⟨#[41]⟩ : ByteArray)) (wrap64 (x6_1 - 1))) else (none)) else (none)) else (none)) else (none))) else (none)) else (none)) = some r := by first | (rw [hy157]; with_reducible exact H) | (have H2_ := (Option.bind_some _ _).symm.trans H; rw [hy157]; with_reducible exact H2_) | (have H2_ := (Option.bind_some _ _).symm.trans H; with_reducible exact H2_) | with_reducible exact H | (rw [hy157]; exact H) | exact H
              have Ny157 := Aside0.mk hy157
              clear hy157
              by_cases c9 : x6_1 < (y157.length : Int)
              · rw [if_pos c9] at H
                have c9b0 : decide (x6_1 < (y157.length : Int)) = true := decide_eq_true c9
                clear c9
                by_cases c10 : (rdOf ByteArray.empty y153 (ji6)).size + (rdOf ByteArray.empty y157 x6_1).size ≤ 9223372036854775807
                · rw [if_pos c10] at H
                  have c10b0 := eq_true c10
                  have c10b1 : decide ((rdOf ByteArray.empty y153 (ji6)).size + (rdOf ByteArray.empty y157 x6_1).size ≤ 9223372036854775807) = true := decide_eq_true c10
                  try have c10b2 : (9223372036854775807 < (rdOf ByteArray.empty y153 (ji6)).size + (rdOf ByteArray.empty y157 x6_1).size) = False := eq_false (Nat.not_lt.2 c10)
                  by_cases c11 : x5_1.toList = ([] : List UInt8)
                  · rw [if_pos c11] at H
                    have c11b0 : (x5_1.toList == ([] : List UInt8)) = true := beq_iff_eq.mpr c11
                    have c11b1 : (x5_1.toList != ([] : List UInt8)) = false := bne_eq_false_iff_eq.mpr c11
                    clear c11
                    have H' := Aside0.mk H
                    clear H
                    try go_wp2
                    have pi156 : (0 ≤ ((ji6) : Int)) = True := eq_true (of_decide_eq_true (by first | (with_reducible assumption) | assumption))
                    have qi156 : ((ji6) < (y153.length : Int)) = True := eq_true (of_decide_eq_true (by first | (with_reducible assumption) | assumption))
                    have pi160 : (0 ≤ (x6_1 : Int)) = True := eq_true (of_decide_eq_true (by first | (with_reducible assumption) | assumption))
                    have qi160 : (x6_1 < (y157.length : Int)) = True := eq_true (of_decide_eq_true (by first | (with_reducible assumption) | assumption))
                    have n0_ := Aside0.mk (below_drew1 HB.out)
                    clear HB
                    have HB := n0_
                    clear n0_
                    refine start_ (n := 13) (S := fun w' => True) (ds := []) #[false, false, false, false, false, false, false, false, false, false, false, false, false] (by kernel_rfl) rfl rfl trivial (fun hHeld => ?_); refine with_tabW spec_l1World.tab5 spec_l1World.bits5 (fun HT_ HW_ => ?_)
                    generalize wr.drew = w12 at HB hHeld ⊢
                    refine pure_ (i := 1) (N := some 15) (v := ?_) (a' := ?_) #[false, true, false, false, false, false, false, false, false, false, false, false, false] rfl rfl (any_of HT_.out (by kernel_rfl)) (fun _ _ _ h => h) (Or.inl ⟨by rfl, ?_⟩) ?_ ?_
                    rotate_left
                    · intro w'
                      go_simp
                      with_reducible rfl
                    rotate_left
                    · simp only [Act.put, List.setIfInBounds_toArray, List.set_cons_zero, List.set_cons_succ, i64_w, i32_w]
                      rfl
                    refine pure_ (i := 2) (N := some 16) (v := ?_) (a' := ?_) #[false, true, true, false, false, false, false, false, false, false, false, false, false] rfl rfl (any_of HT_.out (by kernel_rfl)) (fun _ _ _ h => h) (Or.inl ⟨by rfl, ?_⟩) ?_ ?_
                    rotate_left
                    · intro w'
                      go_simp
                      with_reducible rfl
                    rotate_left
                    · simp only [Act.put, List.setIfInBounds_toArray, List.set_cons_zero, List.set_cons_succ, i64_w, i32_w]
                      rfl
                    refine pure_ (i := 8) (N := some 22) (v := ?_) (a' := ?_) #[false, true, true, false, false, false, false, false, true, false, false, false, false] rfl rfl (any_of HT_.out (by kernel_rfl)) (fun _ _ _ h => h) (Or.inl ⟨by rfl, ?_⟩) ?_ ?_
                    rotate_left
                    · intro w'
                      go_simp
                      with_reducible rfl
                    rotate_left
                    · simp only [Act.put, List.setIfInBounds_toArray, List.set_cons_zero, List.set_cons_succ, i64_w, i32_w]
                      rfl
                    refine inv_at [0, 3, 4, 5, 6, 7, 9, 10, 11, 12] (fun a0_ b a w' => ∃ (v154 : Value) (adz_v154 : Addr) (v158 : Value) (adz_v158 : Addr) (m5_ : Value) (m9_ : Value), a = putSel a0_ b [(0, 14, v154), (3, 17, .int .i64 ji5), (4, 18, .int .i64 ji6), (5, 19, m5_), (6, 20, .string (rdOf ByteArray.empty y153 (ji6))), (7, 21, v158), (9, 23, m9_), (10, 24, .string (rdOf ByteArray.empty y157 x6_1)), (11, 25, .string ((rdOf ByteArray.empty y153 (ji6)) ++ (rdOf ByteArray.empty y157 x6_1))), (12, 7, .string ((rdOf ByteArray.empty y153 (ji6)) ++ (rdOf ByteArray.empty y157 x6_1)))] ∧ (Below w.heap.size w w') ∧ (b 0 = true → Kd.R Kd.string 9 w' w.heap.size (fun _ => True) v154 y153) ∧ (b 0 = true → ∃ c_, (v154 : Value) = .slice (some adz_v154) y153.length c_) ∧ (b 7 = true → Kd.R Kd.string 9 w' w.heap.size (fun _ => True) v158 y157) ∧ (b 7 = true → ∃ c_, (v158 : Value) = .slice (some adz_v158) y157.length c_) ∧ (b 5 = true → (m5_ : Value) = .pointer (some (adz_v154.add ((ji6)).toNat))) ∧ (b 9 = true → (m9_ : Value) = .pointer (some (adz_v158.add (x6_1).toNat)))) HT_.out HW_.out (by kernel_rfl) (by kernel_rfl) ?_ ?_ ?_
                    · exact ⟨.bool false, ⟨0, 0, none⟩, .bool false, ⟨0, 0, none⟩, .bool false, .bool false, by simp only [putSel, Bool.false_eq_true, if_false], HB.out, fun h_ => absurd h_ (by decide), fun h_ => absurd h_ (by decide), fun h_ => absurd h_ (by decide), fun h_ => absurd h_ (by decide), fun h_ => absurd h_ (by decide), fun h_ => absurd h_ (by decide)⟩
                    · skip
                      clear HB
                      refine steps_cons ?_ ?_
                      · rintro b a w' ⟨v154, adz_v154, v158, adz_v158, m5_, m9_, ha, Q_HB, Q_HO155, Q_HA_HO155, Q_HO159, Q_HA_HO159, Q_X5_, Q_X9_⟩ hb_ hon hoff
                        refine ⟨_, rfl, fun K hK => ?_⟩
                        replace ha := Aside0.mk ha
                        have HB := Aside0.mk Q_HB
                        refine Kd.R_lit_step Kd.string _ 9 ?hg (N := 14) ?hd (xs := ([(⟨#[33]⟩ : ByteArray), (⟨#[]⟩ : ByteArray)] : List ByteArray)) (inner := [.string (⟨#[33]⟩ : ByteArray), .string (⟨#[]⟩ : ByteArray)]) (ok := fun _ => True) (okp := fun _ => True) ?hr ?hp (fun _ hk => hk) trivial (Below.refl _ _) (Nat.le_refl _) (by simp) ?_; (case hd => rfl); (case hg => rfl); (case hr => first | (go_simp; done) | (go_simp; rfl)); (case hp => exact (Reps.one (show Kd.M Kd.string _ _ _ (⟨#[33]⟩ : ByteArray) [.string (⟨#[33]⟩ : ByteArray)] from rfl) (Reps.one (show Kd.M Kd.string _ _ _ (⟨#[]⟩ : ByteArray) [.string (⟨#[]⟩ : ByteArray)] from rfl) (Reps.none _ _))))
                        intro v154 w13 ho14 hb hg_ hnew_
                        clear hg_ hnew_
                        (first | rw [← Ny153.out] at ho14 | (simp only [Int.reduceToNat] at ho14; rw [← Ny153.out] at ho14))
                        have n0_ := Aside0.mk (Kd.R_lower ho14 (below_size (by repeat (first | (with_reducible first | exact HB.out | apply below_alloc | apply pw_below_drewN | apply below_drew1) | exact HB.out))))
                        have n1_ := Aside0.mk (below_step (by repeat (first | (with_reducible first | exact HB.out | apply below_alloc | apply pw_below_drewN | apply below_drew1) | exact HB.out)) hb)
                        have z_HO159 := fun (h0_ : b 7 = true) => (show Kd.R Kd.string 9 w13 w.heap.size (fun _ => True) v158 y157 from by first | exact (Kd.R_elder' (by (with_reducible repeat (first | apply Kd.R_alloc | apply Kd.R_drewN | apply Kd.R_drew)); exact (Q_HO159 h0_)) (Kd.R_base ho14) hb) | exact Kd.R_mono (Kd.R_elder' (by (with_reducible repeat (first | apply Kd.R_alloc | apply Kd.R_drewN | apply Kd.R_drew)); exact (Q_HO159 h0_)) (Kd.R_base ho14) hb) (fun _ h_ => by first | trivial | exact h_ | exact h_.1))
                        clear HB
                        have HO155 := n0_
                        have HB := n1_
                        clear n0_ n1_
                        clear hb ho14
                        obtain ⟨Ao15, co15, eo15⟩ := Kd.R_slice HO155.out
                        subst eo15
                        obtain ⟨ado15, fo15, _⟩ := Kd.at_string (Kd.R_reads' HO155.out).2.2 0 (by decide) (by rw [Ny153.out]; simp)
                        cases fo15
                        refine hK.out _ _ ⟨.slice (some ado15) y153.length co15, ado15, v158, adz_v158, m5_, m9_, (by rw [ha.out]; exact putSel_upk 0 hb_ rfl rfl rfl), (by repeat (first | (with_reducible first | exact HB.out | apply below_alloc | apply pw_below_drewN | apply below_drew1) | exact HB.out)), fun _ => (by (with_reducible repeat (first | apply Kd.R_alloc | apply Kd.R_drewN | apply Kd.R_drew)); exact HO155.out), fun _ => ⟨_, rfl⟩, z_HO159, Q_HA_HO159, fun h0_ => absurd ((hoff 5 (by kernel_rfl)).symm.trans h0_) (by decide), Q_X9_⟩
                      refine steps_cons ?_ ?_
                      · rintro b a w' ⟨v154, adz_v154, v158, adz_v158, m5_, m9_, ha, Q_HB, Q_HO155, Q_HA_HO155, Q_HO159, Q_HA_HO159, Q_X5_, Q_X9_⟩ hb_ hon hoff
                        refine ⟨_, rfl, fun K hK => ?_⟩
                        have e15 : a.tmps[15]? = some (.int .i64 a1) := by rw [ha]; exact (putSel_off rfl).trans rfl
                        have e16 : a.tmps[16]? = some (.int .i64 x6_1) := by rw [ha]; exact (putSel_off rfl).trans rfl
                        replace ha := Aside0.mk ha
                        have HB := Aside0.mk Q_HB
                        refine value_ (w1 := w') (v := .int .i64 ji5) (by rfl) rfl ?_ ?_
                        · go_simp
                          (try simp only [i64_w])
                          try rfl
                        refine hK.out _ _ ⟨v154, adz_v154, v158, adz_v158, m5_, m9_, (by rw [ha.out]; exact putSel_upk 1 hb_ rfl rfl rfl), Q_HB, Q_HO155, Q_HA_HO155, Q_HO159, Q_HA_HO159, fun h0_ => absurd ((hoff 5 (by kernel_rfl)).symm.trans h0_) (by decide), Q_X9_⟩
                      refine steps_cons ?_ ?_
                      · rintro b a w' ⟨v154, adz_v154, v158, adz_v158, m5_, m9_, ha, Q_HB, Q_HO155, Q_HA_HO155, Q_HO159, Q_HA_HO159, Q_X5_, Q_X9_⟩ hb_ hon hoff
                        refine ⟨_, rfl, fun K hK => ?_⟩
                        have e17 : a.tmps[17]? = some (.int .i64 ji5) := by rw [ha]; exact putSel_on (e := (3, 17, .int .i64 ji5)) 1 rfl rfl (hon 3 (by kernel_rfl)) rfl
                        replace ha := Aside0.mk ha
                        have HB := Aside0.mk Q_HB
                        refine value_ (w1 := w') (v := .int .i64 ji6) (by rfl) rfl ?_ ?_
                        · go_simp
                          (try simp only [i64_w])
                          try rfl
                        refine hK.out _ _ ⟨v154, adz_v154, v158, adz_v158, m5_, m9_, (by rw [ha.out]; exact putSel_upk 2 hb_ rfl rfl rfl), Q_HB, Q_HO155, Q_HA_HO155, Q_HO159, Q_HA_HO159, fun h0_ => absurd ((hoff 5 (by kernel_rfl)).symm.trans h0_) (by decide), Q_X9_⟩
                      refine steps_cons ?_ ?_
                      · rintro b a w' ⟨v154, adz_v154, v158, adz_v158, m5_, m9_, ha, Q_HB, Q_HO155, Q_HA_HO155, Q_HO159, Q_HA_HO159, Q_X5_, Q_X9_⟩ hb_ hon hoff
                        refine ⟨_, rfl, fun K hK => ?_⟩
                        have e14 : a.tmps[14]? = some (v154) := by rw [ha]; exact putSel_on (e := (0, 14, v154)) 0 rfl rfl (hon 0 (by kernel_rfl)) rfl
                        have e18 : a.tmps[18]? = some (.int .i64 ji6) := by rw [ha]; exact putSel_on (e := (4, 18, .int .i64 ji6)) 2 rfl rfl (hon 4 (by kernel_rfl)) rfl
                        replace ha := Aside0.mk ha
                        have HB := Aside0.mk Q_HB
                        have HO155 := Aside0.mk (Q_HO155 (hon 0 (by kernel_rfl)))
                        have HA_HO155 := Aside0.mk (Q_HA_HO155 (hon 0 (by kernel_rfl)))
                        obtain ⟨c_, hv_⟩ := HA_HO155.out
                        rw [hv_] at e14
                        refine value_ (w1 := w') (v := .pointer (some (adz_v154.add ((ji6)).toNat))) (by rfl) rfl ?_ ?_
                        · go_simp
                          (try simp only [i64_w])
                          try rfl
                        refine hK.out _ _ ⟨v154, adz_v154, v158, adz_v158, (.pointer (some (adz_v154.add ((ji6)).toNat))), m9_, (by rw [ha.out]; exact putSel_upk 3 hb_ rfl rfl rfl), Q_HB, Q_HO155, Q_HA_HO155, Q_HO159, Q_HA_HO159, fun _ => rfl, Q_X9_⟩
                      refine steps_cons ?_ ?_
                      · rintro b a w' ⟨v154, adz_v154, v158, adz_v158, m5_, m9_, ha, Q_HB, Q_HO155, Q_HA_HO155, Q_HO159, Q_HA_HO159, Q_X5_, Q_X9_⟩ hb_ hon hoff
                        refine ⟨_, rfl, fun K hK => ?_⟩
                        have e19 : a.tmps[19]? = some (m5_) := by rw [ha]; exact putSel_on (e := (5, 19, m5_)) 3 rfl rfl (hon 5 (by kernel_rfl)) rfl
                        rw [Q_X5_ (hon 5 (by kernel_rfl))] at e19
                        replace ha := Aside0.mk ha
                        have HB := Aside0.mk Q_HB
                        have HO155 := Aside0.mk (Q_HO155 (hon 0 (by kernel_rfl)))
                        have HA_HO155 := Aside0.mk (Q_HA_HO155 (hon 0 (by kernel_rfl)))
                        obtain ⟨c_, hv_⟩ := HA_HO155.out
                        have hF_ := HO155.out
                        rw [hv_] at hF_
                        obtain ⟨ad_, ea_, hx_⟩ := Kd.at_string (Kd.R_reads' hF_).2.2 (ji6) (of_eq_true pi156) (of_eq_true qi156)
                        cases ea_
                        refine value_ (w1 := w') (v := .string (rdOf ByteArray.empty y153 (ji6))) (by rfl) rfl ?_ ?_
                        · go_simp
                          (try simp only [i64_w])
                          try rfl
                        refine hK.out _ _ ⟨v154, adz_v154, v158, adz_v158, m5_, m9_, (by rw [ha.out]; exact putSel_upk 4 hb_ rfl rfl rfl), Q_HB, Q_HO155, Q_HA_HO155, Q_HO159, Q_HA_HO159, Q_X5_, Q_X9_⟩
                      refine steps_cons ?_ ?_
                      · rintro b a w' ⟨v154, adz_v154, v158, adz_v158, m5_, m9_, ha, Q_HB, Q_HO155, Q_HA_HO155, Q_HO159, Q_HA_HO159, Q_X5_, Q_X9_⟩ hb_ hon hoff
                        refine ⟨_, rfl, fun K hK => ?_⟩
                        replace ha := Aside0.mk ha
                        have HB := Aside0.mk Q_HB
                        refine Kd.R_lit_step Kd.string _ 9 ?hg (N := 21) ?hd (xs := ([(⟨#[97]⟩ : ByteArray), (⟨#[98]⟩ : ByteArray), (⟨#[99]⟩ : ByteArray)] : List ByteArray)) (inner := [.string (⟨#[97]⟩ : ByteArray), .string (⟨#[98]⟩ : ByteArray), .string (⟨#[99]⟩ : ByteArray)]) (ok := fun _ => True) (okp := fun _ => True) ?hr ?hp (fun _ hk => hk) trivial (Below.refl _ _) (Nat.le_refl _) (by simp) ?_; (case hd => rfl); (case hg => rfl); (case hr => first | (go_simp; done) | (go_simp; rfl)); (case hp => exact (Reps.one (show Kd.M Kd.string _ _ _ (⟨#[97]⟩ : ByteArray) [.string (⟨#[97]⟩ : ByteArray)] from rfl) (Reps.one (show Kd.M Kd.string _ _ _ (⟨#[98]⟩ : ByteArray) [.string (⟨#[98]⟩ : ByteArray)] from rfl) (Reps.one (show Kd.M Kd.string _ _ _ (⟨#[99]⟩ : ByteArray) [.string (⟨#[99]⟩ : ByteArray)] from rfl) (Reps.none _ _)))))
                        intro v158 w13 ho14 hb hg_ hnew_
                        clear hg_ hnew_
                        (first | rw [← Ny157.out] at ho14 | (simp only [Int.reduceToNat] at ho14; rw [← Ny157.out] at ho14))
                        have n0_ := Aside0.mk (Kd.R_lower ho14 (below_size (by repeat (first | (with_reducible first | exact HB.out | apply below_alloc | apply pw_below_drewN | apply below_drew1) | exact HB.out))))
                        have n1_ := Aside0.mk (below_step (by repeat (first | (with_reducible first | exact HB.out | apply below_alloc | apply pw_below_drewN | apply below_drew1) | exact HB.out)) hb)
                        have z_HO155 := fun (h0_ : b 0 = true) => (show Kd.R Kd.string 9 w13 w.heap.size (fun _ => True) v154 y153 from by first | exact (Kd.R_elder' (by (with_reducible repeat (first | apply Kd.R_alloc | apply Kd.R_drewN | apply Kd.R_drew)); exact (Q_HO155 h0_)) (Kd.R_base ho14) hb) | exact Kd.R_mono (Kd.R_elder' (by (with_reducible repeat (first | apply Kd.R_alloc | apply Kd.R_drewN | apply Kd.R_drew)); exact (Q_HO155 h0_)) (Kd.R_base ho14) hb) (fun _ h_ => by first | trivial | exact h_ | exact h_.1))
                        clear HB
                        have HO159 := n0_
                        have HB := n1_
                        clear n0_ n1_
                        clear hb ho14
                        obtain ⟨Ao15, co15, eo15⟩ := Kd.R_slice HO159.out
                        subst eo15
                        obtain ⟨ado15, fo15, _⟩ := Kd.at_string (Kd.R_reads' HO159.out).2.2 0 (by decide) (by rw [Ny157.out]; simp)
                        cases fo15
                        refine hK.out _ _ ⟨v154, adz_v154, .slice (some ado15) y157.length co15, ado15, m5_, m9_, (by rw [ha.out]; exact putSel_upk 5 hb_ rfl rfl rfl), (by repeat (first | (with_reducible first | exact HB.out | apply below_alloc | apply pw_below_drewN | apply below_drew1) | exact HB.out)), z_HO155, Q_HA_HO155, fun _ => (by (with_reducible repeat (first | apply Kd.R_alloc | apply Kd.R_drewN | apply Kd.R_drew)); exact HO159.out), fun _ => ⟨_, rfl⟩, Q_X5_, fun h0_ => absurd ((hoff 9 (by kernel_rfl)).symm.trans h0_) (by decide)⟩
                      refine steps_cons ?_ ?_
                      · rintro b a w' ⟨v154, adz_v154, v158, adz_v158, m5_, m9_, ha, Q_HB, Q_HO155, Q_HA_HO155, Q_HO159, Q_HA_HO159, Q_X5_, Q_X9_⟩ hb_ hon hoff
                        refine ⟨_, rfl, fun K hK => ?_⟩
                        have e21 : a.tmps[21]? = some (v158) := by rw [ha]; exact putSel_on (e := (7, 21, v158)) 5 rfl rfl (hon 7 (by kernel_rfl)) rfl
                        have e22 : a.tmps[22]? = some (.int .i64 x6_1) := by rw [ha]; exact (putSel_off rfl).trans rfl
                        replace ha := Aside0.mk ha
                        have HB := Aside0.mk Q_HB
                        have HO159 := Aside0.mk (Q_HO159 (hon 7 (by kernel_rfl)))
                        have HA_HO159 := Aside0.mk (Q_HA_HO159 (hon 7 (by kernel_rfl)))
                        obtain ⟨c_, hv_⟩ := HA_HO159.out
                        rw [hv_] at e21
                        refine value_ (w1 := w') (v := .pointer (some (adz_v158.add (x6_1).toNat))) (by rfl) rfl ?_ ?_
                        · go_simp
                          (try simp only [i64_w])
                          try rfl
                        refine hK.out _ _ ⟨v154, adz_v154, v158, adz_v158, m5_, (.pointer (some (adz_v158.add (x6_1).toNat))), (by rw [ha.out]; exact putSel_upk 6 hb_ rfl rfl rfl), Q_HB, Q_HO155, Q_HA_HO155, Q_HO159, Q_HA_HO159, Q_X5_, fun _ => rfl⟩
                      refine steps_cons ?_ ?_
                      · rintro b a w' ⟨v154, adz_v154, v158, adz_v158, m5_, m9_, ha, Q_HB, Q_HO155, Q_HA_HO155, Q_HO159, Q_HA_HO159, Q_X5_, Q_X9_⟩ hb_ hon hoff
                        refine ⟨_, rfl, fun K hK => ?_⟩
                        have e23 : a.tmps[23]? = some (m9_) := by rw [ha]; exact putSel_on (e := (9, 23, m9_)) 6 rfl rfl (hon 9 (by kernel_rfl)) rfl
                        rw [Q_X9_ (hon 9 (by kernel_rfl))] at e23
                        replace ha := Aside0.mk ha
                        have HB := Aside0.mk Q_HB
                        have HO159 := Aside0.mk (Q_HO159 (hon 7 (by kernel_rfl)))
                        have HA_HO159 := Aside0.mk (Q_HA_HO159 (hon 7 (by kernel_rfl)))
                        obtain ⟨c_, hv_⟩ := HA_HO159.out
                        have hF_ := HO159.out
                        rw [hv_] at hF_
                        obtain ⟨ad_, ea_, hx_⟩ := Kd.at_string (Kd.R_reads' hF_).2.2 x6_1 (of_eq_true pi160) (of_eq_true qi160)
                        cases ea_
                        refine value_ (w1 := w') (v := .string (rdOf ByteArray.empty y157 x6_1)) (by rfl) rfl ?_ ?_
                        · go_simp
                          (try simp only [i64_w])
                          try rfl
                        refine hK.out _ _ ⟨v154, adz_v154, v158, adz_v158, m5_, m9_, (by rw [ha.out]; exact putSel_upk 7 hb_ rfl rfl rfl), Q_HB, Q_HO155, Q_HA_HO155, Q_HO159, Q_HA_HO159, Q_X5_, Q_X9_⟩
                      refine steps_cons ?_ ?_
                      · rintro b a w' ⟨v154, adz_v154, v158, adz_v158, m5_, m9_, ha, Q_HB, Q_HO155, Q_HA_HO155, Q_HO159, Q_HA_HO159, Q_X5_, Q_X9_⟩ hb_ hon hoff
                        refine ⟨_, rfl, fun K hK => ?_⟩
                        have e20 : a.tmps[20]? = some (.string (rdOf ByteArray.empty y153 (ji6))) := by rw [ha]; exact putSel_on (e := (6, 20, .string (rdOf ByteArray.empty y153 (ji6)))) 4 rfl rfl (hon 6 (by kernel_rfl)) rfl
                        have e24 : a.tmps[24]? = some (.string (rdOf ByteArray.empty y157 x6_1)) := by rw [ha]; exact putSel_on (e := (10, 24, .string (rdOf ByteArray.empty y157 x6_1))) 7 rfl rfl (hon 10 (by kernel_rfl)) rfl
                        replace ha := Aside0.mk ha
                        have HB := Aside0.mk Q_HB
                        have HO155 := Aside0.mk (Q_HO155 (hon 0 (by kernel_rfl)))
                        have HA_HO155 := Aside0.mk (Q_HA_HO155 (hon 0 (by kernel_rfl)))
                        have HO159 := Aside0.mk (Q_HO159 (hon 7 (by kernel_rfl)))
                        have HA_HO159 := Aside0.mk (Q_HA_HO159 (hon 7 (by kernel_rfl)))
                        refine value_ (w1 := w') (v := .string ((rdOf ByteArray.empty y153 (ji6)) ++ (rdOf ByteArray.empty y157 x6_1))) (by rfl) rfl ?_ ?_
                        · go_simp
                          (try simp only [i64_w])
                          try rfl
                        refine hK.out _ _ ⟨v154, adz_v154, v158, adz_v158, m5_, m9_, (by rw [ha.out]; exact putSel_upk 8 hb_ rfl rfl rfl), Q_HB, Q_HO155, Q_HA_HO155, Q_HO159, Q_HA_HO159, Q_X5_, Q_X9_⟩
                      refine steps_cons ?_ ?_
                      · rintro b a w' ⟨v154, adz_v154, v158, adz_v158, m5_, m9_, ha, Q_HB, Q_HO155, Q_HA_HO155, Q_HO159, Q_HA_HO159, Q_X5_, Q_X9_⟩ hb_ hon hoff
                        refine ⟨_, rfl, fun K hK => ?_⟩
                        have e25 : a.tmps[25]? = some (.string ((rdOf ByteArray.empty y153 (ji6)) ++ (rdOf ByteArray.empty y157 x6_1))) := by rw [ha]; exact putSel_on (e := (11, 25, .string ((rdOf ByteArray.empty y153 (ji6)) ++ (rdOf ByteArray.empty y157 x6_1)))) 8 rfl rfl (hon 11 (by kernel_rfl)) rfl
                        replace ha := Aside0.mk ha
                        have HB := Aside0.mk Q_HB
                        have HO155 := Aside0.mk (Q_HO155 (hon 0 (by kernel_rfl)))
                        have HA_HO155 := Aside0.mk (Q_HA_HO155 (hon 0 (by kernel_rfl)))
                        have HO159 := Aside0.mk (Q_HO159 (hon 7 (by kernel_rfl)))
                        have HA_HO159 := Aside0.mk (Q_HA_HO159 (hon 7 (by kernel_rfl)))
                        refine value_ (w1 := w') (v := .string ((rdOf ByteArray.empty y153 (ji6)) ++ (rdOf ByteArray.empty y157 x6_1))) (by rfl) rfl ?_ ?_
                        · go_simp
                          (try simp only [i64_w])
                          try rfl
                        refine hK.out _ _ ⟨v154, adz_v154, v158, adz_v158, m5_, m9_, (by rw [ha.out]; exact putSel_upk 9 hb_ rfl rfl rfl), Q_HB, Q_HO155, Q_HA_HO155, Q_HO159, Q_HA_HO159, Q_X5_, Q_X9_⟩
                      exact steps_nil
                    rintro b a w19 hall ⟨v154, adz_v154, v158, adz_v158, m5_, m9_, ha, Q_HB, Q_HO155, Q_HA_HO155, Q_HO159, Q_HA_HO159, Q_X5_, Q_X9_⟩
                    clear HB
                    have hb0_ := hall 0 (by kernel_rfl)
                    have hb3_ := hall 3 (by kernel_rfl)
                    have hb4_ := hall 4 (by kernel_rfl)
                    have hb5_ := hall 5 (by kernel_rfl)
                    have hb6_ := hall 6 (by kernel_rfl)
                    have hb7_ := hall 7 (by kernel_rfl)
                    have hb9_ := hall 9 (by kernel_rfl)
                    have hb10_ := hall 10 (by kernel_rfl)
                    have hb11_ := hall 11 (by kernel_rfl)
                    have hb12_ := hall 12 (by kernel_rfl)
                    subst ha
                    obtain rfl := Q_X5_ hb5_
                    obtain rfl := Q_X9_ hb9_
                    simp only [putSel, hb0_, hb3_, hb4_, hb5_, hb6_, hb7_, hb9_, hb10_, hb11_, hb12_, if_true, Act.put, List.setIfInBounds_toArray, List.set_cons_zero, List.set_cons_succ]
                    have HB := Aside0.mk Q_HB
                    clear Q_HB
                    have HO155 := Aside0.mk (Q_HO155 hb0_)
                    clear Q_HO155
                    have HA_HO155 := Aside0.mk (Q_HA_HO155 hb0_)
                    clear Q_HA_HO155
                    have HO159 := Aside0.mk (Q_HO159 hb7_)
                    clear Q_HO159
                    have HA_HO159 := Aside0.mk (Q_HA_HO159 hb7_)
                    clear Q_HA_HO159
                    clear hall hb0_ hb3_ hb4_ hb5_ hb6_ hb7_ hb9_ hb10_ hb11_ hb12_
                    obtain ⟨co20, eo20⟩ := HA_HO155.out
                    clear HA_HO155
                    subst eo20
                    obtain ⟨co21, eo21⟩ := HA_HO159.out
                    clear HA_HO159
                    subst eo21
                    try go_wp2
                    all_goals try (exfalso; simp only [ByteArray.size_append, ByteArray.size_extract, show (⟨#[40]⟩ : ByteArray).size = 1 from rfl, show (⟨#[33]⟩ : ByteArray).size = 1 from rfl, show (⟨#[38]⟩ : ByteArray).size = 1 from rfl, show (⟨#[97, 98, 99]⟩ : ByteArray).size = 3 from rfl] at c10; omega)
                    go_roundg k1
                    case measure => have := HK1.out; omega
                    case rel => exact ⟨((rdOf ByteArray.empty y153 (ji6)) ++ (rdOf ByteArray.empty y157 x6_1)), (wrap64 (x6_1 - 1)), (by first | rfl | (simp; done) | (simp only [← hji6] <;> (first | rfl | simp)) | (simp [*]; done)), (by first | rfl | (simp; done) | (simp [*]; done)), H', ⟨by have := HK1.out; omega⟩, ⟨by repeat (first | (with_reducible first | exact HB.out | apply below_alloc | apply pw_below_drewN | apply below_drew1) | exact HB.out)⟩⟩
                  · rw [if_neg c11] at H
                    have c11b0 : (x5_1.toList == ([] : List UInt8)) = false := beq_eq_false_iff_ne.mpr c11
                    have c11b1 : (x5_1.toList != ([] : List UInt8)) = true := bne_iff_ne.mpr c11
                    by_cases c22 : 1 + ((rdOf ByteArray.empty y153 (ji6)) ++ (rdOf ByteArray.empty y157 x6_1)).size ≤ 9223372036854775807
                    · rw [if_pos c22] at H
                      have c22b0 := eq_true c22
                      have c22b1 : decide (1 + ((rdOf ByteArray.empty y153 (ji6)) ++ (rdOf ByteArray.empty y157 x6_1)).size ≤ 9223372036854775807) = true := decide_eq_true c22
                      try have c22b2 : (9223372036854775807 < 1 + ((rdOf ByteArray.empty y153 (ji6)) ++ (rdOf ByteArray.empty y157 x6_1)).size) = False := eq_false (Nat.not_lt.2 c22)
                      by_cases c23 : ((⟨#[40]⟩ : ByteArray) ++ ((rdOf ByteArray.empty y153 (ji6)) ++ (rdOf ByteArray.empty y157 x6_1))).size + 1 ≤ 9223372036854775807
                      · rw [if_pos c23] at H
                        have c23b0 := eq_true c23
                        have c23b1 : decide (((⟨#[40]⟩ : ByteArray) ++ ((rdOf ByteArray.empty y153 (ji6)) ++ (rdOf ByteArray.empty y157 x6_1))).size + 1 ≤ 9223372036854775807) = true := decide_eq_true c23
                        try have c23b2 : (9223372036854775807 < ((⟨#[40]⟩ : ByteArray) ++ ((rdOf ByteArray.empty y153 (ji6)) ++ (rdOf ByteArray.empty y157 x6_1))).size + 1) = False := eq_false (Nat.not_lt.2 c23)
                        by_cases c24 : (((⟨#[40]⟩ : ByteArray) ++ ((rdOf ByteArray.empty y153 (ji6)) ++ (rdOf ByteArray.empty y157 x6_1))) ++ (⟨#[38]⟩ : ByteArray)).size + x5_1.size ≤ 9223372036854775807
                        · rw [if_pos c24] at H
                          have c24b0 := eq_true c24
                          have c24b1 : decide ((((⟨#[40]⟩ : ByteArray) ++ ((rdOf ByteArray.empty y153 (ji6)) ++ (rdOf ByteArray.empty y157 x6_1))) ++ (⟨#[38]⟩ : ByteArray)).size + x5_1.size ≤ 9223372036854775807) = true := decide_eq_true c24
                          try have c24b2 : (9223372036854775807 < (((⟨#[40]⟩ : ByteArray) ++ ((rdOf ByteArray.empty y153 (ji6)) ++ (rdOf ByteArray.empty y157 x6_1))) ++ (⟨#[38]⟩ : ByteArray)).size + x5_1.size) = False := eq_false (Nat.not_lt.2 c24)
                          by_cases c25 : ((((⟨#[40]⟩ : ByteArray) ++ ((rdOf ByteArray.empty y153 (ji6)) ++ (rdOf ByteArray.empty y157 x6_1))) ++ (⟨#[38]⟩ : ByteArray)) ++ x5_1).size + 1 ≤ 9223372036854775807
                          · rw [if_pos c25] at H
                            have c25b0 := eq_true c25
                            have c25b1 : decide (((((⟨#[40]⟩ : ByteArray) ++ ((rdOf ByteArray.empty y153 (ji6)) ++ (rdOf ByteArray.empty y157 x6_1))) ++ (⟨#[38]⟩ : ByteArray)) ++ x5_1).size + 1 ≤ 9223372036854775807) = true := decide_eq_true c25
                            try have c25b2 : (9223372036854775807 < ((((⟨#[40]⟩ : ByteArray) ++ ((rdOf ByteArray.empty y153 (ji6)) ++ (rdOf ByteArray.empty y157 x6_1))) ++ (⟨#[38]⟩ : ByteArray)) ++ x5_1).size + 1) = False := eq_false (Nat.not_lt.2 c25)
                            have H' := Aside0.mk H
                            clear H
                            try go_wp2
                            have pi156 : (0 ≤ ((ji6) : Int)) = True := eq_true (of_decide_eq_true (by first | (with_reducible assumption) | assumption))
                            have qi156 : ((ji6) < (y153.length : Int)) = True := eq_true (of_decide_eq_true (by first | (with_reducible assumption) | assumption))
                            have pi160 : (0 ≤ (x6_1 : Int)) = True := eq_true (of_decide_eq_true (by first | (with_reducible assumption) | assumption))
                            have qi160 : (x6_1 < (y157.length : Int)) = True := eq_true (of_decide_eq_true (by first | (with_reducible assumption) | assumption))
                            have n0_ := Aside0.mk (below_drew1 HB.out)
                            clear HB
                            have HB := n0_
                            clear n0_
                            refine start_ (n := 13) (S := fun w' => True) (ds := []) #[false, false, false, false, false, false, false, false, false, false, false, false, false] (by kernel_rfl) rfl rfl trivial (fun hHeld => ?_); refine with_tabW spec_l1World.tab5 spec_l1World.bits5 (fun HT_ HW_ => ?_)
                            generalize wr.drew = w26 at HB hHeld ⊢
                            refine pure_ (i := 1) (N := some 15) (v := ?_) (a' := ?_) #[false, true, false, false, false, false, false, false, false, false, false, false, false] rfl rfl (any_of HT_.out (by kernel_rfl)) (fun _ _ _ h => h) (Or.inl ⟨by rfl, ?_⟩) ?_ ?_
                            rotate_left
                            · intro w'
                              go_simp
                              with_reducible rfl
                            rotate_left
                            · simp only [Act.put, List.setIfInBounds_toArray, List.set_cons_zero, List.set_cons_succ, i64_w, i32_w]
                              rfl
                            refine pure_ (i := 2) (N := some 16) (v := ?_) (a' := ?_) #[false, true, true, false, false, false, false, false, false, false, false, false, false] rfl rfl (any_of HT_.out (by kernel_rfl)) (fun _ _ _ h => h) (Or.inl ⟨by rfl, ?_⟩) ?_ ?_
                            rotate_left
                            · intro w'
                              go_simp
                              with_reducible rfl
                            rotate_left
                            · simp only [Act.put, List.setIfInBounds_toArray, List.set_cons_zero, List.set_cons_succ, i64_w, i32_w]
                              rfl
                            refine pure_ (i := 8) (N := some 22) (v := ?_) (a' := ?_) #[false, true, true, false, false, false, false, false, true, false, false, false, false] rfl rfl (any_of HT_.out (by kernel_rfl)) (fun _ _ _ h => h) (Or.inl ⟨by rfl, ?_⟩) ?_ ?_
                            rotate_left
                            · intro w'
                              go_simp
                              with_reducible rfl
                            rotate_left
                            · simp only [Act.put, List.setIfInBounds_toArray, List.set_cons_zero, List.set_cons_succ, i64_w, i32_w]
                              rfl
                            refine inv_at [0, 3, 4, 5, 6, 7, 9, 10, 11, 12] (fun a0_ b a w' => ∃ (v154 : Value) (adz_v154 : Addr) (v158 : Value) (adz_v158 : Addr) (m5_ : Value) (m9_ : Value), a = putSel a0_ b [(0, 14, v154), (3, 17, .int .i64 ji5), (4, 18, .int .i64 ji6), (5, 19, m5_), (6, 20, .string (rdOf ByteArray.empty y153 (ji6))), (7, 21, v158), (9, 23, m9_), (10, 24, .string (rdOf ByteArray.empty y157 x6_1)), (11, 25, .string ((rdOf ByteArray.empty y153 (ji6)) ++ (rdOf ByteArray.empty y157 x6_1))), (12, 7, .string ((rdOf ByteArray.empty y153 (ji6)) ++ (rdOf ByteArray.empty y157 x6_1)))] ∧ (Below w.heap.size w w') ∧ (b 0 = true → Kd.R Kd.string 9 w' w.heap.size (fun _ => True) v154 y153) ∧ (b 0 = true → ∃ c_, (v154 : Value) = .slice (some adz_v154) y153.length c_) ∧ (b 7 = true → Kd.R Kd.string 9 w' w.heap.size (fun _ => True) v158 y157) ∧ (b 7 = true → ∃ c_, (v158 : Value) = .slice (some adz_v158) y157.length c_) ∧ (b 5 = true → (m5_ : Value) = .pointer (some (adz_v154.add ((ji6)).toNat))) ∧ (b 9 = true → (m9_ : Value) = .pointer (some (adz_v158.add (x6_1).toNat)))) HT_.out HW_.out (by kernel_rfl) (by kernel_rfl) ?_ ?_ ?_
                            · exact ⟨.bool false, ⟨0, 0, none⟩, .bool false, ⟨0, 0, none⟩, .bool false, .bool false, by simp only [putSel, Bool.false_eq_true, if_false], HB.out, fun h_ => absurd h_ (by decide), fun h_ => absurd h_ (by decide), fun h_ => absurd h_ (by decide), fun h_ => absurd h_ (by decide), fun h_ => absurd h_ (by decide), fun h_ => absurd h_ (by decide)⟩
                            · skip
                              clear HB
                              refine steps_cons ?_ ?_
                              · rintro b a w' ⟨v154, adz_v154, v158, adz_v158, m5_, m9_, ha, Q_HB, Q_HO155, Q_HA_HO155, Q_HO159, Q_HA_HO159, Q_X5_, Q_X9_⟩ hb_ hon hoff
                                refine ⟨_, rfl, fun K hK => ?_⟩
                                replace ha := Aside0.mk ha
                                have HB := Aside0.mk Q_HB
                                refine Kd.R_lit_step Kd.string _ 9 ?hg (N := 14) ?hd (xs := ([(⟨#[33]⟩ : ByteArray), (⟨#[]⟩ : ByteArray)] : List ByteArray)) (inner := [.string (⟨#[33]⟩ : ByteArray), .string (⟨#[]⟩ : ByteArray)]) (ok := fun _ => True) (okp := fun _ => True) ?hr ?hp (fun _ hk => hk) trivial (Below.refl _ _) (Nat.le_refl _) (by simp) ?_; (case hd => rfl); (case hg => rfl); (case hr => first | (go_simp; done) | (go_simp; rfl)); (case hp => exact (Reps.one (show Kd.M Kd.string _ _ _ (⟨#[33]⟩ : ByteArray) [.string (⟨#[33]⟩ : ByteArray)] from rfl) (Reps.one (show Kd.M Kd.string _ _ _ (⟨#[]⟩ : ByteArray) [.string (⟨#[]⟩ : ByteArray)] from rfl) (Reps.none _ _))))
                                intro v154 w27 ho28 hb hg_ hnew_
                                clear hg_ hnew_
                                (first | rw [← Ny153.out] at ho28 | (simp only [Int.reduceToNat] at ho28; rw [← Ny153.out] at ho28))
                                have n0_ := Aside0.mk (Kd.R_lower ho28 (below_size (by repeat (first | (with_reducible first | exact HB.out | apply below_alloc | apply pw_below_drewN | apply below_drew1) | exact HB.out))))
                                have n1_ := Aside0.mk (below_step (by repeat (first | (with_reducible first | exact HB.out | apply below_alloc | apply pw_below_drewN | apply below_drew1) | exact HB.out)) hb)
                                have z_HO159 := fun (h0_ : b 7 = true) => (show Kd.R Kd.string 9 w27 w.heap.size (fun _ => True) v158 y157 from by first | exact (Kd.R_elder' (by (with_reducible repeat (first | apply Kd.R_alloc | apply Kd.R_drewN | apply Kd.R_drew)); exact (Q_HO159 h0_)) (Kd.R_base ho28) hb) | exact Kd.R_mono (Kd.R_elder' (by (with_reducible repeat (first | apply Kd.R_alloc | apply Kd.R_drewN | apply Kd.R_drew)); exact (Q_HO159 h0_)) (Kd.R_base ho28) hb) (fun _ h_ => by first | trivial | exact h_ | exact h_.1))
                                clear HB
                                have HO155 := n0_
                                have HB := n1_
                                clear n0_ n1_
                                clear hb ho28
                                obtain ⟨Ao29, co29, eo29⟩ := Kd.R_slice HO155.out
                                subst eo29
                                obtain ⟨ado29, fo29, _⟩ := Kd.at_string (Kd.R_reads' HO155.out).2.2 0 (by decide) (by rw [Ny153.out]; simp)
                                cases fo29
                                refine hK.out _ _ ⟨.slice (some ado29) y153.length co29, ado29, v158, adz_v158, m5_, m9_, (by rw [ha.out]; exact putSel_upk 0 hb_ rfl rfl rfl), (by repeat (first | (with_reducible first | exact HB.out | apply below_alloc | apply pw_below_drewN | apply below_drew1) | exact HB.out)), fun _ => (by (with_reducible repeat (first | apply Kd.R_alloc | apply Kd.R_drewN | apply Kd.R_drew)); exact HO155.out), fun _ => ⟨_, rfl⟩, z_HO159, Q_HA_HO159, fun h0_ => absurd ((hoff 5 (by kernel_rfl)).symm.trans h0_) (by decide), Q_X9_⟩
                              refine steps_cons ?_ ?_
                              · rintro b a w' ⟨v154, adz_v154, v158, adz_v158, m5_, m9_, ha, Q_HB, Q_HO155, Q_HA_HO155, Q_HO159, Q_HA_HO159, Q_X5_, Q_X9_⟩ hb_ hon hoff
                                refine ⟨_, rfl, fun K hK => ?_⟩
                                have e15 : a.tmps[15]? = some (.int .i64 a1) := by rw [ha]; exact (putSel_off rfl).trans rfl
                                have e16 : a.tmps[16]? = some (.int .i64 x6_1) := by rw [ha]; exact (putSel_off rfl).trans rfl
                                replace ha := Aside0.mk ha
                                have HB := Aside0.mk Q_HB
                                refine value_ (w1 := w') (v := .int .i64 ji5) (by rfl) rfl ?_ ?_
                                · go_simp
                                  (try simp only [i64_w])
                                  try rfl
                                refine hK.out _ _ ⟨v154, adz_v154, v158, adz_v158, m5_, m9_, (by rw [ha.out]; exact putSel_upk 1 hb_ rfl rfl rfl), Q_HB, Q_HO155, Q_HA_HO155, Q_HO159, Q_HA_HO159, fun h0_ => absurd ((hoff 5 (by kernel_rfl)).symm.trans h0_) (by decide), Q_X9_⟩
                              refine steps_cons ?_ ?_
                              · rintro b a w' ⟨v154, adz_v154, v158, adz_v158, m5_, m9_, ha, Q_HB, Q_HO155, Q_HA_HO155, Q_HO159, Q_HA_HO159, Q_X5_, Q_X9_⟩ hb_ hon hoff
                                refine ⟨_, rfl, fun K hK => ?_⟩
                                have e17 : a.tmps[17]? = some (.int .i64 ji5) := by rw [ha]; exact putSel_on (e := (3, 17, .int .i64 ji5)) 1 rfl rfl (hon 3 (by kernel_rfl)) rfl
                                replace ha := Aside0.mk ha
                                have HB := Aside0.mk Q_HB
                                refine value_ (w1 := w') (v := .int .i64 ji6) (by rfl) rfl ?_ ?_
                                · go_simp
                                  (try simp only [i64_w])
                                  try rfl
                                refine hK.out _ _ ⟨v154, adz_v154, v158, adz_v158, m5_, m9_, (by rw [ha.out]; exact putSel_upk 2 hb_ rfl rfl rfl), Q_HB, Q_HO155, Q_HA_HO155, Q_HO159, Q_HA_HO159, fun h0_ => absurd ((hoff 5 (by kernel_rfl)).symm.trans h0_) (by decide), Q_X9_⟩
                              refine steps_cons ?_ ?_
                              · rintro b a w' ⟨v154, adz_v154, v158, adz_v158, m5_, m9_, ha, Q_HB, Q_HO155, Q_HA_HO155, Q_HO159, Q_HA_HO159, Q_X5_, Q_X9_⟩ hb_ hon hoff
                                refine ⟨_, rfl, fun K hK => ?_⟩
                                have e14 : a.tmps[14]? = some (v154) := by rw [ha]; exact putSel_on (e := (0, 14, v154)) 0 rfl rfl (hon 0 (by kernel_rfl)) rfl
                                have e18 : a.tmps[18]? = some (.int .i64 ji6) := by rw [ha]; exact putSel_on (e := (4, 18, .int .i64 ji6)) 2 rfl rfl (hon 4 (by kernel_rfl)) rfl
                                replace ha := Aside0.mk ha
                                have HB := Aside0.mk Q_HB
                                have HO155 := Aside0.mk (Q_HO155 (hon 0 (by kernel_rfl)))
                                have HA_HO155 := Aside0.mk (Q_HA_HO155 (hon 0 (by kernel_rfl)))
                                obtain ⟨c_, hv_⟩ := HA_HO155.out
                                rw [hv_] at e14
                                refine value_ (w1 := w') (v := .pointer (some (adz_v154.add ((ji6)).toNat))) (by rfl) rfl ?_ ?_
                                · go_simp
                                  (try simp only [i64_w])
                                  try rfl
                                refine hK.out _ _ ⟨v154, adz_v154, v158, adz_v158, (.pointer (some (adz_v154.add ((ji6)).toNat))), m9_, (by rw [ha.out]; exact putSel_upk 3 hb_ rfl rfl rfl), Q_HB, Q_HO155, Q_HA_HO155, Q_HO159, Q_HA_HO159, fun _ => rfl, Q_X9_⟩
                              refine steps_cons ?_ ?_
                              · rintro b a w' ⟨v154, adz_v154, v158, adz_v158, m5_, m9_, ha, Q_HB, Q_HO155, Q_HA_HO155, Q_HO159, Q_HA_HO159, Q_X5_, Q_X9_⟩ hb_ hon hoff
                                refine ⟨_, rfl, fun K hK => ?_⟩
                                have e19 : a.tmps[19]? = some (m5_) := by rw [ha]; exact putSel_on (e := (5, 19, m5_)) 3 rfl rfl (hon 5 (by kernel_rfl)) rfl
                                rw [Q_X5_ (hon 5 (by kernel_rfl))] at e19
                                replace ha := Aside0.mk ha
                                have HB := Aside0.mk Q_HB
                                have HO155 := Aside0.mk (Q_HO155 (hon 0 (by kernel_rfl)))
                                have HA_HO155 := Aside0.mk (Q_HA_HO155 (hon 0 (by kernel_rfl)))
                                obtain ⟨c_, hv_⟩ := HA_HO155.out
                                have hF_ := HO155.out
                                rw [hv_] at hF_
                                obtain ⟨ad_, ea_, hx_⟩ := Kd.at_string (Kd.R_reads' hF_).2.2 (ji6) (of_eq_true pi156) (of_eq_true qi156)
                                cases ea_
                                refine value_ (w1 := w') (v := .string (rdOf ByteArray.empty y153 (ji6))) (by rfl) rfl ?_ ?_
                                · go_simp
                                  (try simp only [i64_w])
                                  try rfl
                                refine hK.out _ _ ⟨v154, adz_v154, v158, adz_v158, m5_, m9_, (by rw [ha.out]; exact putSel_upk 4 hb_ rfl rfl rfl), Q_HB, Q_HO155, Q_HA_HO155, Q_HO159, Q_HA_HO159, Q_X5_, Q_X9_⟩
                              refine steps_cons ?_ ?_
                              · rintro b a w' ⟨v154, adz_v154, v158, adz_v158, m5_, m9_, ha, Q_HB, Q_HO155, Q_HA_HO155, Q_HO159, Q_HA_HO159, Q_X5_, Q_X9_⟩ hb_ hon hoff
                                refine ⟨_, rfl, fun K hK => ?_⟩
                                replace ha := Aside0.mk ha
                                have HB := Aside0.mk Q_HB
                                refine Kd.R_lit_step Kd.string _ 9 ?hg (N := 21) ?hd (xs := ([(⟨#[97]⟩ : ByteArray), (⟨#[98]⟩ : ByteArray), (⟨#[99]⟩ : ByteArray)] : List ByteArray)) (inner := [.string (⟨#[97]⟩ : ByteArray), .string (⟨#[98]⟩ : ByteArray), .string (⟨#[99]⟩ : ByteArray)]) (ok := fun _ => True) (okp := fun _ => True) ?hr ?hp (fun _ hk => hk) trivial (Below.refl _ _) (Nat.le_refl _) (by simp) ?_; (case hd => rfl); (case hg => rfl); (case hr => first | (go_simp; done) | (go_simp; rfl)); (case hp => exact (Reps.one (show Kd.M Kd.string _ _ _ (⟨#[97]⟩ : ByteArray) [.string (⟨#[97]⟩ : ByteArray)] from rfl) (Reps.one (show Kd.M Kd.string _ _ _ (⟨#[98]⟩ : ByteArray) [.string (⟨#[98]⟩ : ByteArray)] from rfl) (Reps.one (show Kd.M Kd.string _ _ _ (⟨#[99]⟩ : ByteArray) [.string (⟨#[99]⟩ : ByteArray)] from rfl) (Reps.none _ _)))))
                                intro v158 w27 ho28 hb hg_ hnew_
                                clear hg_ hnew_
                                (first | rw [← Ny157.out] at ho28 | (simp only [Int.reduceToNat] at ho28; rw [← Ny157.out] at ho28))
                                have n0_ := Aside0.mk (Kd.R_lower ho28 (below_size (by repeat (first | (with_reducible first | exact HB.out | apply below_alloc | apply pw_below_drewN | apply below_drew1) | exact HB.out))))
                                have n1_ := Aside0.mk (below_step (by repeat (first | (with_reducible first | exact HB.out | apply below_alloc | apply pw_below_drewN | apply below_drew1) | exact HB.out)) hb)
                                have z_HO155 := fun (h0_ : b 0 = true) => (show Kd.R Kd.string 9 w27 w.heap.size (fun _ => True) v154 y153 from by first | exact (Kd.R_elder' (by (with_reducible repeat (first | apply Kd.R_alloc | apply Kd.R_drewN | apply Kd.R_drew)); exact (Q_HO155 h0_)) (Kd.R_base ho28) hb) | exact Kd.R_mono (Kd.R_elder' (by (with_reducible repeat (first | apply Kd.R_alloc | apply Kd.R_drewN | apply Kd.R_drew)); exact (Q_HO155 h0_)) (Kd.R_base ho28) hb) (fun _ h_ => by first | trivial | exact h_ | exact h_.1))
                                clear HB
                                have HO159 := n0_
                                have HB := n1_
                                clear n0_ n1_
                                clear hb ho28
                                obtain ⟨Ao29, co29, eo29⟩ := Kd.R_slice HO159.out
                                subst eo29
                                obtain ⟨ado29, fo29, _⟩ := Kd.at_string (Kd.R_reads' HO159.out).2.2 0 (by decide) (by rw [Ny157.out]; simp)
                                cases fo29
                                refine hK.out _ _ ⟨v154, adz_v154, .slice (some ado29) y157.length co29, ado29, m5_, m9_, (by rw [ha.out]; exact putSel_upk 5 hb_ rfl rfl rfl), (by repeat (first | (with_reducible first | exact HB.out | apply below_alloc | apply pw_below_drewN | apply below_drew1) | exact HB.out)), z_HO155, Q_HA_HO155, fun _ => (by (with_reducible repeat (first | apply Kd.R_alloc | apply Kd.R_drewN | apply Kd.R_drew)); exact HO159.out), fun _ => ⟨_, rfl⟩, Q_X5_, fun h0_ => absurd ((hoff 9 (by kernel_rfl)).symm.trans h0_) (by decide)⟩
                              refine steps_cons ?_ ?_
                              · rintro b a w' ⟨v154, adz_v154, v158, adz_v158, m5_, m9_, ha, Q_HB, Q_HO155, Q_HA_HO155, Q_HO159, Q_HA_HO159, Q_X5_, Q_X9_⟩ hb_ hon hoff
                                refine ⟨_, rfl, fun K hK => ?_⟩
                                have e21 : a.tmps[21]? = some (v158) := by rw [ha]; exact putSel_on (e := (7, 21, v158)) 5 rfl rfl (hon 7 (by kernel_rfl)) rfl
                                have e22 : a.tmps[22]? = some (.int .i64 x6_1) := by rw [ha]; exact (putSel_off rfl).trans rfl
                                replace ha := Aside0.mk ha
                                have HB := Aside0.mk Q_HB
                                have HO159 := Aside0.mk (Q_HO159 (hon 7 (by kernel_rfl)))
                                have HA_HO159 := Aside0.mk (Q_HA_HO159 (hon 7 (by kernel_rfl)))
                                obtain ⟨c_, hv_⟩ := HA_HO159.out
                                rw [hv_] at e21
                                refine value_ (w1 := w') (v := .pointer (some (adz_v158.add (x6_1).toNat))) (by rfl) rfl ?_ ?_
                                · go_simp
                                  (try simp only [i64_w])
                                  try rfl
                                refine hK.out _ _ ⟨v154, adz_v154, v158, adz_v158, m5_, (.pointer (some (adz_v158.add (x6_1).toNat))), (by rw [ha.out]; exact putSel_upk 6 hb_ rfl rfl rfl), Q_HB, Q_HO155, Q_HA_HO155, Q_HO159, Q_HA_HO159, Q_X5_, fun _ => rfl⟩
                              refine steps_cons ?_ ?_
                              · rintro b a w' ⟨v154, adz_v154, v158, adz_v158, m5_, m9_, ha, Q_HB, Q_HO155, Q_HA_HO155, Q_HO159, Q_HA_HO159, Q_X5_, Q_X9_⟩ hb_ hon hoff
                                refine ⟨_, rfl, fun K hK => ?_⟩
                                have e23 : a.tmps[23]? = some (m9_) := by rw [ha]; exact putSel_on (e := (9, 23, m9_)) 6 rfl rfl (hon 9 (by kernel_rfl)) rfl
                                rw [Q_X9_ (hon 9 (by kernel_rfl))] at e23
                                replace ha := Aside0.mk ha
                                have HB := Aside0.mk Q_HB
                                have HO159 := Aside0.mk (Q_HO159 (hon 7 (by kernel_rfl)))
                                have HA_HO159 := Aside0.mk (Q_HA_HO159 (hon 7 (by kernel_rfl)))
                                obtain ⟨c_, hv_⟩ := HA_HO159.out
                                have hF_ := HO159.out
                                rw [hv_] at hF_
                                obtain ⟨ad_, ea_, hx_⟩ := Kd.at_string (Kd.R_reads' hF_).2.2 x6_1 (of_eq_true pi160) (of_eq_true qi160)
                                cases ea_
                                refine value_ (w1 := w') (v := .string (rdOf ByteArray.empty y157 x6_1)) (by rfl) rfl ?_ ?_
                                · go_simp
                                  (try simp only [i64_w])
                                  try rfl
                                refine hK.out _ _ ⟨v154, adz_v154, v158, adz_v158, m5_, m9_, (by rw [ha.out]; exact putSel_upk 7 hb_ rfl rfl rfl), Q_HB, Q_HO155, Q_HA_HO155, Q_HO159, Q_HA_HO159, Q_X5_, Q_X9_⟩
                              refine steps_cons ?_ ?_
                              · rintro b a w' ⟨v154, adz_v154, v158, adz_v158, m5_, m9_, ha, Q_HB, Q_HO155, Q_HA_HO155, Q_HO159, Q_HA_HO159, Q_X5_, Q_X9_⟩ hb_ hon hoff
                                refine ⟨_, rfl, fun K hK => ?_⟩
                                have e20 : a.tmps[20]? = some (.string (rdOf ByteArray.empty y153 (ji6))) := by rw [ha]; exact putSel_on (e := (6, 20, .string (rdOf ByteArray.empty y153 (ji6)))) 4 rfl rfl (hon 6 (by kernel_rfl)) rfl
                                have e24 : a.tmps[24]? = some (.string (rdOf ByteArray.empty y157 x6_1)) := by rw [ha]; exact putSel_on (e := (10, 24, .string (rdOf ByteArray.empty y157 x6_1))) 7 rfl rfl (hon 10 (by kernel_rfl)) rfl
                                replace ha := Aside0.mk ha
                                have HB := Aside0.mk Q_HB
                                have HO155 := Aside0.mk (Q_HO155 (hon 0 (by kernel_rfl)))
                                have HA_HO155 := Aside0.mk (Q_HA_HO155 (hon 0 (by kernel_rfl)))
                                have HO159 := Aside0.mk (Q_HO159 (hon 7 (by kernel_rfl)))
                                have HA_HO159 := Aside0.mk (Q_HA_HO159 (hon 7 (by kernel_rfl)))
                                refine value_ (w1 := w') (v := .string ((rdOf ByteArray.empty y153 (ji6)) ++ (rdOf ByteArray.empty y157 x6_1))) (by rfl) rfl ?_ ?_
                                · go_simp
                                  (try simp only [i64_w])
                                  try rfl
                                refine hK.out _ _ ⟨v154, adz_v154, v158, adz_v158, m5_, m9_, (by rw [ha.out]; exact putSel_upk 8 hb_ rfl rfl rfl), Q_HB, Q_HO155, Q_HA_HO155, Q_HO159, Q_HA_HO159, Q_X5_, Q_X9_⟩
                              refine steps_cons ?_ ?_
                              · rintro b a w' ⟨v154, adz_v154, v158, adz_v158, m5_, m9_, ha, Q_HB, Q_HO155, Q_HA_HO155, Q_HO159, Q_HA_HO159, Q_X5_, Q_X9_⟩ hb_ hon hoff
                                refine ⟨_, rfl, fun K hK => ?_⟩
                                have e25 : a.tmps[25]? = some (.string ((rdOf ByteArray.empty y153 (ji6)) ++ (rdOf ByteArray.empty y157 x6_1))) := by rw [ha]; exact putSel_on (e := (11, 25, .string ((rdOf ByteArray.empty y153 (ji6)) ++ (rdOf ByteArray.empty y157 x6_1)))) 8 rfl rfl (hon 11 (by kernel_rfl)) rfl
                                replace ha := Aside0.mk ha
                                have HB := Aside0.mk Q_HB
                                have HO155 := Aside0.mk (Q_HO155 (hon 0 (by kernel_rfl)))
                                have HA_HO155 := Aside0.mk (Q_HA_HO155 (hon 0 (by kernel_rfl)))
                                have HO159 := Aside0.mk (Q_HO159 (hon 7 (by kernel_rfl)))
                                have HA_HO159 := Aside0.mk (Q_HA_HO159 (hon 7 (by kernel_rfl)))
                                refine value_ (w1 := w') (v := .string ((rdOf ByteArray.empty y153 (ji6)) ++ (rdOf ByteArray.empty y157 x6_1))) (by rfl) rfl ?_ ?_
                                · go_simp
                                  (try simp only [i64_w])
                                  try rfl
                                refine hK.out _ _ ⟨v154, adz_v154, v158, adz_v158, m5_, m9_, (by rw [ha.out]; exact putSel_upk 9 hb_ rfl rfl rfl), Q_HB, Q_HO155, Q_HA_HO155, Q_HO159, Q_HA_HO159, Q_X5_, Q_X9_⟩
                              exact steps_nil
                            rintro b a w33 hall ⟨v154, adz_v154, v158, adz_v158, m5_, m9_, ha, Q_HB, Q_HO155, Q_HA_HO155, Q_HO159, Q_HA_HO159, Q_X5_, Q_X9_⟩
                            clear HB
                            have hb0_ := hall 0 (by kernel_rfl)
                            have hb3_ := hall 3 (by kernel_rfl)
                            have hb4_ := hall 4 (by kernel_rfl)
                            have hb5_ := hall 5 (by kernel_rfl)
                            have hb6_ := hall 6 (by kernel_rfl)
                            have hb7_ := hall 7 (by kernel_rfl)
                            have hb9_ := hall 9 (by kernel_rfl)
                            have hb10_ := hall 10 (by kernel_rfl)
                            have hb11_ := hall 11 (by kernel_rfl)
                            have hb12_ := hall 12 (by kernel_rfl)
                            subst ha
                            obtain rfl := Q_X5_ hb5_
                            obtain rfl := Q_X9_ hb9_
                            simp only [putSel, hb0_, hb3_, hb4_, hb5_, hb6_, hb7_, hb9_, hb10_, hb11_, hb12_, if_true, Act.put, List.setIfInBounds_toArray, List.set_cons_zero, List.set_cons_succ]
                            have HB := Aside0.mk Q_HB
                            clear Q_HB
                            have HO155 := Aside0.mk (Q_HO155 hb0_)
                            clear Q_HO155
                            have HA_HO155 := Aside0.mk (Q_HA_HO155 hb0_)
                            clear Q_HA_HO155
                            have HO159 := Aside0.mk (Q_HO159 hb7_)
                            clear Q_HO159
                            have HA_HO159 := Aside0.mk (Q_HA_HO159 hb7_)
                            clear Q_HA_HO159
                            clear hall hb0_ hb3_ hb4_ hb5_ hb6_ hb7_ hb9_ hb10_ hb11_ hb12_
                            obtain ⟨co34, eo34⟩ := HA_HO155.out
                            clear HA_HO155
                            subst eo34
                            obtain ⟨co35, eo35⟩ := HA_HO159.out
                            clear HA_HO159
                            subst eo35
                            try go_wp2
                            all_goals try (exfalso; simp only [ByteArray.size_append, ByteArray.size_extract, show (⟨#[40]⟩ : ByteArray).size = 1 from rfl, show (⟨#[33]⟩ : ByteArray).size = 1 from rfl, show (⟨#[38]⟩ : ByteArray).size = 1 from rfl, show (⟨#[97, 98, 99]⟩ : ByteArray).size = 3 from rfl] at c10 c22 c23 c24 c25; omega)
                            go_roundg k1
                            case measure => have := HK1.out; omega
                            case rel => exact ⟨(((((⟨#[40]⟩ : ByteArray) ++ ((rdOf ByteArray.empty y153 (ji6)) ++ (rdOf ByteArray.empty y157 x6_1))) ++ (⟨#[38]⟩ : ByteArray)) ++ x5_1) ++ (⟨#[41]⟩ : ByteArray)), (wrap64 (x6_1 - 1)), (by first | rfl | (simp; done) | (simp only [← hji6] <;> (first | rfl | simp)) | (simp [*]; done)), (by first | rfl | (simp; done) | (simp [*]; done)), H', ⟨by have := HK1.out; omega⟩, ⟨by repeat (first | (with_reducible first | exact HB.out | apply below_alloc | apply pw_below_drewN | apply below_drew1) | exact HB.out)⟩⟩
                          · rw [if_neg c25] at H
                            exact absurd H (by simp)
                        · rw [if_neg c24] at H
                          exact absurd H (by simp)
                      · rw [if_neg c23] at H
                        exact absurd H (by simp)
                    · rw [if_neg c22] at H
                      exact absurd H (by simp)
                · rw [if_neg c10] at H
                  exact absurd H (by simp)
              · rw [if_neg c9] at H
                exact absurd H (by simp)
            · rw [if_neg c8] at H
              exact absurd H (by simp)
          · rw [if_neg c7] at H
            exact absurd H (by simp)
        · rw [if_neg c4] at H
          exact absurd H (by simp)
      · rw [if_neg c3] at H
        have c3b0 : decide (0 ≤ x6_1) = false := decide_eq_false c3
        clear c3
        obtain rfl := Option.some.inj H
        go_wp2
        go_ret
        exact ⟨by first | rfl | (simp [errW_none, errW_some] <;> rfl) | (simp [*, errW_none, errW_some] <;> rfl), by repeat (first | (with_reducible first | exact HB.out | apply below_alloc | apply pw_below_drewN | apply below_drew1) | exact HB.out)⟩

end Go.Proofs.Ytfleephpcomimaa.V

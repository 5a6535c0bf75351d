/- Contracts of functions of the program: whatever a function's pure reading answers, the call returns. Printed by a program of this session (the kit's print, with contracts by hand beside it). Conditions: those of each theorem. -/
import Derived.Test.YthgddbnmieodkaaP0
import Derived.Test.YthgddbnmieodkaaP2
import Derived.Test.YthgddbnmieodkaaP10
import Derived.Test.YthgddbnmieodkaaP11
import Derived.Test.YthgddbnmieodkaaP12
namespace Go.Proofs.Ythgddbnmieodkaa.P
open Go.Proofs.BelM
open Go.RowKit Go.Proofs.YthgddbnmieodkaaW.PrintWords Go.Proofs.YthgddbnmieodkaaW.PrintLast Go.Proofs.YthgddbnmieodkaaW.PrintMore
attribute [local go_sem] max2_int min2_int max_two min_two max_three min_three max_four min_four   -- for this text's walks alone
set_option linter.unusedVariables false
set_option linter.unusedSimpArgs false

/-! ### laws_FnGivenUp: function 6 -/
mutual
def laws_FnGivenUp.j0 : Nat → List Int → List Int → Bool → Option (Bool)
  | 0, _, _, _ => none
  | k + 1, x0, x1, x21 => if x21 = true then (some true) else ((spec_DrawGivenUp.f k x0).bind fun bt290 => ((impl_GivenUp.f k bt290.1 bt290.2.1 bt290.2.2).bind fun t295 => ((spec_GivenUp.f k bt290.1 bt290.2.1 bt290.2.2).bind fun t296 => (if t295 = t296 then (if t295 < 0 then (if t295 = (-1) then ((laws_alive.f).bind fun t297 => (some t297)) else (some false)) else ((impl_CoreOf.f k bt290.1 bt290.2.1).bind fun t298 => ((laws_whole.f bt290.1).bind fun t299 => ((laws_within.f k t298 t295).bind fun t300 => (if t300 = true then (if bt290.2.2 = t299 then ((laws_within.f k t298 bt290.2.2).bind fun t301 => (if t301 = true then ((laws_both.f k t295 bt290.2.2).bind fun t302 => (laws_FnGivenUp.j1 k x1 bt290.1 bt290.2.1 bt290.2.2 t295 t299 (t302 != t298))) else (if t295 = t298 then (laws_FnGivenUp.j1 k x1 bt290.1 bt290.2.1 bt290.2.2 t295 t299 false) else (laws_FnGivenUp.j1 k x1 bt290.1 bt290.2.1 bt290.2.2 t295 t299 true)))) else ((laws_within.f k t295 bt290.2.2).bind fun t303 => (if t303 = true then (laws_FnGivenUp.j1 k x1 bt290.1 bt290.2.1 bt290.2.2 t295 t299 true) else ((laws_within.f k t298 bt290.2.2).bind fun t304 => (if t304 = true then ((laws_both.f k t295 bt290.2.2).bind fun t305 => (laws_FnGivenUp.j1 k x1 bt290.1 bt290.2.1 bt290.2.2 t295 t299 (t305 != t298))) else (if t295 = t298 then (laws_FnGivenUp.j1 k x1 bt290.1 bt290.2.1 bt290.2.2 t295 t299 false) else (laws_FnGivenUp.j1 k x1 bt290.1 bt290.2.1 bt290.2.2 t295 t299 true))))))) else (laws_FnGivenUp.j1 k x1 bt290.1 bt290.2.1 bt290.2.2 t295 t299 true)))))) else (some false)))))
def laws_FnGivenUp.j1 : Nat → List Int → Int → List Int → Int → Int → Int → Bool → Option (Bool)
  | 0, _, _, _, _, _, _, _ => none
  | k + 1, x1, x5, x6, x7, x8, x10, x86 => if x86 = true then (some false) else (if (wrap64 (x10 + 1)) = 0 then (none) else ((impl_GivenUp.f k x5 x6 (Int.tmod (wrap64 ((x1.length : Int) * 37)) (wrap64 (x10 + 1)))).bind fun t306 => ((laws_both.f k x7 (Int.tmod (wrap64 ((x1.length : Int) * 37)) (wrap64 (x10 + 1)))).bind fun t307 => ((impl_GivenUp.f k x5 x6 t307).bind fun t308 => (if t308 = x8 then (some true) else (if t308 = t306 then (some true) else ((laws_either.f k x8 t306).bind fun t309 => (some (t308 == t309)))))))))
end
def laws_FnGivenUp.f (k : Nat) (l0 : List Int) (l1 : List Int) : Option (Bool) := if (l0.length : Int) > 1048576 then (laws_FnGivenUp.j0 k l0 l1 true) else (laws_FnGivenUp.j0 k l0 l1 (decide ((l1.length : Int) > 1048576)))
theorem laws_FnGivenUp.mono_l : ∀ k, (∀ y0 y1 y2, LeO (laws_FnGivenUp.j0 k y0 y1 y2) (laws_FnGivenUp.j0 (k + 1) y0 y1 y2)) ∧ (∀ y0 y1 y2 y3 y4 y5 y6, LeO (laws_FnGivenUp.j1 k y0 y1 y2 y3 y4 y5 y6) (laws_FnGivenUp.j1 (k + 1) y0 y1 y2 y3 y4 y5 y6))
  | 0 => ⟨fun _ _ _ r h => by simp [laws_FnGivenUp.j0] at h, fun _ _ _ _ _ _ _ r h => by simp [laws_FnGivenUp.j1] at h⟩
  | k + 1 => by
    obtain ⟨ih0, ih1⟩ := laws_FnGivenUp.mono_l k
    refine ⟨?_, ?_⟩
    · intro y0 y1 y2
      unfold laws_FnGivenUp.j0
      repeat' first
      | (with_reducible exact ih0 _ _ _)
      | (with_reducible exact ih1 _ _ _ _ _ _ _)
      | (with_reducible exact impl_CoreOf.mono _ _ _)
      | (with_reducible exact impl_GivenUp.mono _ _ _ _)
      | (with_reducible exact laws_both.mono _ _ _)
      | (with_reducible exact laws_either.mono _ _ _)
      | (with_reducible exact laws_within.mono _ _ _)
      | (with_reducible exact spec_DrawGivenUp.mono _ _)
      | (with_reducible exact spec_GivenUp.mono _ _ _ _)
      | (with_reducible exact LeO.refl _)
      | (with_reducible exact LeO.none _)
      | (with_reducible refine LeO.ite ?_ ?_)
      | (with_reducible refine LeO.bind ?_ (fun _ => ?_))
      | exact ih0 _ _ _
      | exact ih1 _ _ _ _ _ _ _
      | exact impl_CoreOf.mono _ _ _
      | exact impl_GivenUp.mono _ _ _ _
      | exact laws_both.mono _ _ _
      | exact laws_either.mono _ _ _
      | exact laws_within.mono _ _ _
      | exact spec_DrawGivenUp.mono _ _
      | exact spec_GivenUp.mono _ _ _ _
      | exact LeO.none _
      | refine LeO.ite ?_ ?_
      | refine LeO.bind ?_ (fun _ => ?_)
    · intro y0 y1 y2 y3 y4 y5 y6
      unfold laws_FnGivenUp.j1
      repeat' first
      | (with_reducible exact ih0 _ _ _)
      | (with_reducible exact ih1 _ _ _ _ _ _ _)
      | (with_reducible exact impl_CoreOf.mono _ _ _)
      | (with_reducible exact impl_GivenUp.mono _ _ _ _)
      | (with_reducible exact laws_both.mono _ _ _)
      | (with_reducible exact laws_either.mono _ _ _)
      | (with_reducible exact laws_within.mono _ _ _)
      | (with_reducible exact spec_DrawGivenUp.mono _ _)
      | (with_reducible exact spec_GivenUp.mono _ _ _ _)
      | (with_reducible exact LeO.refl _)
      | (with_reducible exact LeO.none _)
      | (with_reducible refine LeO.ite ?_ ?_)
      | (with_reducible refine LeO.bind ?_ (fun _ => ?_))
      | exact ih0 _ _ _
      | exact ih1 _ _ _ _ _ _ _
      | exact impl_CoreOf.mono _ _ _
      | exact impl_GivenUp.mono _ _ _ _
      | exact laws_both.mono _ _ _
      | exact laws_either.mono _ _ _
      | exact laws_within.mono _ _ _
      | exact spec_DrawGivenUp.mono _ _
      | exact spec_GivenUp.mono _ _ _ _
      | exact LeO.none _
      | refine LeO.ite ?_ ?_
      | refine LeO.bind ?_ (fun _ => ?_)
theorem laws_FnGivenUp.mono : ∀ a0 a1 k, LeO (laws_FnGivenUp.f k a0 a1) (laws_FnGivenUp.f (k + 1) a0 a1) := by
  intro a0 a1 k
  obtain ⟨ih0, ih1⟩ := laws_FnGivenUp.mono_l k
  unfold laws_FnGivenUp.f
  repeat' first
      | (with_reducible exact ih0 _ _ _)
      | (with_reducible exact ih1 _ _ _ _ _ _ _)
      | (with_reducible exact impl_CoreOf.mono _ _ _)
      | (with_reducible exact impl_GivenUp.mono _ _ _ _)
      | (with_reducible exact laws_both.mono _ _ _)
      | (with_reducible exact laws_either.mono _ _ _)
      | (with_reducible exact laws_within.mono _ _ _)
      | (with_reducible exact spec_DrawGivenUp.mono _ _)
      | (with_reducible exact spec_GivenUp.mono _ _ _ _)
      | (with_reducible exact LeO.refl _)
      | (with_reducible exact LeO.none _)
      | (with_reducible refine LeO.ite ?_ ?_)
      | (with_reducible refine LeO.bind ?_ (fun _ => ?_))
      | exact ih0 _ _ _
      | exact ih1 _ _ _ _ _ _ _
      | exact impl_CoreOf.mono _ _ _
      | exact impl_GivenUp.mono _ _ _ _
      | exact laws_both.mono _ _ _
      | exact laws_either.mono _ _ _
      | exact laws_within.mono _ _ _
      | exact spec_DrawGivenUp.mono _ _
      | exact spec_GivenUp.mono _ _ _ _
      | exact LeO.none _
      | refine LeO.ite ?_ ?_
      | refine LeO.bind ?_ (fun _ => ?_)
set_option maxHeartbeats 8000000 in
set_option maxRecDepth 100000 in
theorem laws_FnGivenUp.calls (k : Nat) (A0 : Option Addr) (c0 : Nat) (l0 : List Int) (A1 : Option Addr) (c1 : Nat) (l1 : List Int) (r : Bool) (w : World) (hr0 : Kd.C (Kd.int .u8) w A0 l0.length l0) (hc0 : l0.length ≤ c0) (hr1 : Kd.C (Kd.int .u8) w A1 l1.length l1) (hc1 : l1.length ≤ c1) (h : laws_FnGivenUp.f k l0 l1 = some r) :
    Calls Try.prog 6 #[.slice A0 l0.length c0, .slice A1 l1.length c1] w fun e w' => e = .returned (.bool r) ∧ Below w.heap.size w w' := by
  have HR0 := Aside0.mk hr0
  have HC0 := Aside0.mk hc0
  clear hr0 hc0
  have HR1 := Aside0.mk hr1
  have HC1 := Aside0.mk hc1
  clear hr1 hc1
  have HB := Aside0.mk (Below.refl w.heap.size w)
  have H : (if (l0.length : Int) > 1048576 then (laws_FnGivenUp.j0 k l0 l1 true) else (laws_FnGivenUp.j0 k l0 l1 (decide ((l1.length : Int) > 1048576)))) = some r := h
  clear h
  have HC3 := Aside0.mk H
  clear H
  go_enter Try.func6, Try.ntmps6
  go_upto_region 1 with (fail)
  go_cut [21] (fun v21 wc => ∃ (kq : Nat) (x21_2 : Bool), v21 = .bool x21_2 ∧ Aside0 (laws_FnGivenUp.j0 kq l0 l1 x21_2 = some r) ∧ Aside0 (kq ≤ k) ∧ Aside0 (Below w.heap.size w wc))
  case first =>
    have H := HC3.out
    clear HC3
    by_cases c4 : (l0.length : Int) > 1048576
    · rw [if_pos c4] at H
      have c4b0 : decide (1048576 < (l0.length : Int)) = true := decide_eq_true c4
      have c4b1 : decide (1048576 < l0.length) = true := decide_eq_true (by omega)
      clear c4
      (first | rw [c4b0] | (simp only [i64_w, i32_w]; rw [c4b0]) | skip)
      have H' := Aside0.mk H
      clear H
      go_wp2
      go_meet
      case rel => exact ⟨_, (true), (by first | rfl | (simp; done) | (simp [*]; done)), H', ⟨by first | omega | exact Nat.le_refl _⟩, ⟨by repeat (first | (with_reducible first | exact HB.out | apply below_alloc | apply pw_below_drewN | apply below_drew1) | exact HB.out)⟩⟩
    · rw [if_neg c4] at H
      have c4b0 : decide (1048576 < (l0.length : Int)) = false := decide_eq_false c4
      have c4b1 : decide (1048576 < l0.length) = false := decide_eq_false (by omega)
      clear c4
      (first | rw [c4b0] | (simp only [i64_w, i32_w]; rw [c4b0]) | skip)
      have H' := Aside0.mk H
      clear H
      go_wp2
      go_meet
      case rel => exact ⟨_, (decide ((l1.length : Int) > 1048576)), (by first | rfl | (simp; done) | (simp [*]; done)), H', ⟨by first | omega | exact Nat.le_refl _⟩, ⟨by repeat (first | (with_reducible first | exact HB.out | apply below_alloc | apply pw_below_drewN | apply below_drew1) | exact HB.out)⟩⟩
  case rest =>
    clear HC3
    try clear c1
    try clear p2
    try clear c4
    try clear c4b0
    try clear c4b1
    obtain ⟨kq, x21_2, rfl, HA, HJ2, HB⟩ := hcut
    cases kq with
    | zero => exact absurd HA.out (by simp [laws_FnGivenUp.j0])
    | succ kj2 =>
      have H := HA.out
      clear HA
      simp only [laws_FnGivenUp.j0] at H
      by_cases c5 : x21_2 = true
      · subst c5
        have H1 : (some true) = some r := by rw [if_pos rfl] at H; exact H
        clear H
        have H := H1
        clear H1
        obtain rfl := Option.some.inj H
        go_wp2
        go_ret
        exact ⟨by first | rfl | (simp [errW_none, errW_some] <;> rfl) | (simp [*, errW_none, errW_some] <;> rfl), by repeat (first | (with_reducible first | exact HB.out | apply below_alloc | apply pw_below_drewN | apply below_drew1) | exact HB.out)⟩
      · replace c5 := Bool.eq_false_iff.mpr c5
        subst c5
        have H1 : ((spec_DrawGivenUp.f kj2 l0).bind fun bt290 => ((impl_GivenUp.f kj2 bt290.1 bt290.2.1 bt290.2.2).bind fun t295 => ((spec_GivenUp.f kj2 bt290.1 bt290.2.1 bt290.2.2).bind fun t296 => (if t295 = t296 then (if t295 < 0 then (if t295 = (-1) then ((laws_alive.f).bind fun t297 => (some t297)) else (some false)) else ((impl_CoreOf.f kj2 bt290.1 bt290.2.1).bind fun t298 => ((laws_whole.f bt290.1).bind fun t299 => ((laws_within.f kj2 t298 t295).bind fun t300 => (if t300 = true then (if bt290.2.2 = t299 then ((laws_within.f kj2 t298 bt290.2.2).bind fun t301 => (if t301 = true then ((laws_both.f kj2 t295 bt290.2.2).bind fun t302 => (laws_FnGivenUp.j1 kj2 l1 bt290.1 bt290.2.1 bt290.2.2 t295 t299 (t302 != t298))) else (if t295 = t298 then (laws_FnGivenUp.j1 kj2 l1 bt290.1 bt290.2.1 bt290.2.2 t295 t299 false) else (laws_FnGivenUp.j1 kj2 l1 bt290.1 bt290.2.1 bt290.2.2 t295 t299 true)))) else ((laws_within.f kj2 t295 bt290.2.2).bind fun t303 => (if t303 = true then (laws_FnGivenUp.j1 kj2 l1 bt290.1 bt290.2.1 bt290.2.2 t295 t299 true) else ((laws_within.f kj2 t298 bt290.2.2).bind fun t304 => (if t304 = true then ((laws_both.f kj2 t295 bt290.2.2).bind fun t305 => (laws_FnGivenUp.j1 kj2 l1 bt290.1 bt290.2.1 bt290.2.2 t295 t299 (t305 != t298))) else (if t295 = t298 then (laws_FnGivenUp.j1 kj2 l1 bt290.1 bt290.2.1 bt290.2.2 t295 t299 false) else (laws_FnGivenUp.j1 kj2 l1 bt290.1 bt290.2.1 bt290.2.2 t295 t299 true))))))) else (laws_FnGivenUp.j1 kj2 l1 bt290.1 bt290.2.1 bt290.2.2 t295 t299 true)))))) else (some false))))) = some r := by rw [if_neg (show ¬ (false = true) by decide)] at H; exact H
        clear H
        have H := H1
        clear H1
        replace H := Option.bind_eq_some_iff.mp H
        obtain ⟨⟨t290, t291, t292⟩, A60, H⟩ := H
        replace H : ((impl_GivenUp.f kj2 t290 t291 t292).bind fun t295 => ((spec_GivenUp.f kj2 t290 t291 t292).bind fun t296 => (if t295 = t296 then (if t295 < 0 then (if t295 = (-1) then ((laws_alive.f).bind fun t297 => (some t297)) else (some false)) else ((impl_CoreOf.f kj2 t290 t291).bind fun t298 => ((laws_whole.f t290).bind fun t299 => ((laws_within.f kj2 t298 t295).bind fun t300 => (if t300 = true then (if t292 = t299 then ((laws_within.f kj2 t298 t292).bind fun t301 => (if t301 = true then ((laws_both.f kj2 t295 t292).bind fun t302 => (laws_FnGivenUp.j1 kj2 l1 t290 t291 t292 t295 t299 (t302 != t298))) else (if t295 = t298 then (laws_FnGivenUp.j1 kj2 l1 t290 t291 t292 t295 t299 false) else (laws_FnGivenUp.j1 kj2 l1 t290 t291 t292 t295 t299 true)))) else ((laws_within.f kj2 t295 t292).bind fun t303 => (if t303 = true then (laws_FnGivenUp.j1 kj2 l1 t290 t291 t292 t295 t299 true) else ((laws_within.f kj2 t298 t292).bind fun t304 => (if t304 = true then ((laws_both.f kj2 t295 t292).bind fun t305 => (laws_FnGivenUp.j1 kj2 l1 t290 t291 t292 t295 t299 (t305 != t298))) else (if t295 = t298 then (laws_FnGivenUp.j1 kj2 l1 t290 t291 t292 t295 t299 false) else (laws_FnGivenUp.j1 kj2 l1 t290 t291 t292 t295 t299 true))))))) else (laws_FnGivenUp.j1 kj2 l1 t290 t291 t292 t295 t299 true)))))) else (some false)))) = some r := H
        have A6 := Aside0.mk A60
        clear A60
        replace H := Option.bind_eq_some_iff.mp H
        obtain ⟨t295, A70, H⟩ := H
        replace H : ((spec_GivenUp.f kj2 t290 t291 t292).bind fun t296 => (if t295 = t296 then (if t295 < 0 then (if t295 = (-1) then ((laws_alive.f).bind fun t297 => (some t297)) else (some false)) else ((impl_CoreOf.f kj2 t290 t291).bind fun t298 => ((laws_whole.f t290).bind fun t299 => ((laws_within.f kj2 t298 t295).bind fun t300 => (if t300 = true then (if t292 = t299 then ((laws_within.f kj2 t298 t292).bind fun t301 => (if t301 = true then ((laws_both.f kj2 t295 t292).bind fun t302 => (laws_FnGivenUp.j1 kj2 l1 t290 t291 t292 t295 t299 (t302 != t298))) else (if t295 = t298 then (laws_FnGivenUp.j1 kj2 l1 t290 t291 t292 t295 t299 false) else (laws_FnGivenUp.j1 kj2 l1 t290 t291 t292 t295 t299 true)))) else ((laws_within.f kj2 t295 t292).bind fun t303 => (if t303 = true then (laws_FnGivenUp.j1 kj2 l1 t290 t291 t292 t295 t299 true) else ((laws_within.f kj2 t298 t292).bind fun t304 => (if t304 = true then ((laws_both.f kj2 t295 t292).bind fun t305 => (laws_FnGivenUp.j1 kj2 l1 t290 t291 t292 t295 t299 (t305 != t298))) else (if t295 = t298 then (laws_FnGivenUp.j1 kj2 l1 t290 t291 t292 t295 t299 false) else (laws_FnGivenUp.j1 kj2 l1 t290 t291 t292 t295 t299 true))))))) else (laws_FnGivenUp.j1 kj2 l1 t290 t291 t292 t295 t299 true)))))) else (some false))) = some r := H
        have A7 := Aside0.mk A70
        clear A70
        replace H := Option.bind_eq_some_iff.mp H
        obtain ⟨t296, A80, H⟩ := H
        replace H : (if t295 = t296 then (if t295 < 0 then (if t295 = (-1) then ((laws_alive.f).bind fun t297 => (some t297)) else (some false)) else ((impl_CoreOf.f kj2 t290 t291).bind fun t298 => ((laws_whole.f t290).bind fun t299 => ((laws_within.f kj2 t298 t295).bind fun t300 => (if t300 = true then (if t292 = t299 then ((laws_within.f kj2 t298 t292).bind fun t301 => (if t301 = true then ((laws_both.f kj2 t295 t292).bind fun t302 => (laws_FnGivenUp.j1 kj2 l1 t290 t291 t292 t295 t299 (t302 != t298))) else (if t295 = t298 then (laws_FnGivenUp.j1 kj2 l1 t290 t291 t292 t295 t299 false) else (laws_FnGivenUp.j1 kj2 l1 t290 t291 t292 t295 t299 true)))) else ((laws_within.f kj2 t295 t292).bind fun t303 => (if t303 = true then (laws_FnGivenUp.j1 kj2 l1 t290 t291 t292 t295 t299 true) else ((laws_within.f kj2 t298 t292).bind fun t304 => (if t304 = true then ((laws_both.f kj2 t295 t292).bind fun t305 => (laws_FnGivenUp.j1 kj2 l1 t290 t291 t292 t295 t299 (t305 != t298))) else (if t295 = t298 then (laws_FnGivenUp.j1 kj2 l1 t290 t291 t292 t295 t299 false) else (laws_FnGivenUp.j1 kj2 l1 t290 t291 t292 t295 t299 true))))))) else (laws_FnGivenUp.j1 kj2 l1 t290 t291 t292 t295 t299 true)))))) else (some false)) = some r := H
        have A8 := Aside0.mk A80
        clear A80
        by_cases c9 : t295 = t296
        · rw [if_pos c9] at H
          have c9b0 : (t295 == t296) = true := beq_iff_eq.mpr c9
          have c9b1 : (t295 != t296) = false := bne_eq_false_iff_eq.mpr c9
          clear c9
          by_cases c10 : t295 < 0
          · rw [if_pos c10] at H
            have c10b0 : decide (t295 < 0) = true := decide_eq_true c10
            clear c10
            by_cases c11 : t295 = (-1)
            · rw [if_pos c11] at H
              have c11b0 : (t295 == (-1)) = true := beq_iff_eq.mpr c11
              have c11b1 : (t295 != (-1)) = false := bne_eq_false_iff_eq.mpr c11
              clear c11
              replace H := Option.bind_eq_some_iff.mp H
              obtain ⟨t297, A120, H⟩ := H
              replace H : (some t297) = some r := H
              have A12 := Aside0.mk A120
              clear A120
              obtain rfl := Option.some.inj H
              go_wp2_with (first | ((with_reducible refine gate_callee (f := 27) rfl ?_); refine goesL_ (some 24) rfl rfl Try.func27 (by kernel_rfl) rfl #[.slice A0 l0.length c0] rfl (by (try simp only [List.map_toArray, List.map_cons, List.map_nil]); first | done | rfl | (simp only [List.length_drop, List.length_take]; rfl)) ?_; (with_reducible refine (spec_DrawGivenUp.calls kj2 _ _ l0 t290 t291 t292 _ ?side1 ?side2 A6.out).mono ?_); (case side1 => repeat (first | exact (Kd.C_below HR0.out HB.out) | (with_reducible refine Kd.C_alloc ?_ _) | (with_reducible refine Kd.C_drewN ?_ _) | (with_reducible refine Kd.C_drew ?_))); (case side2 => exact HC0.out); rintro e w13 ⟨v293, rfl, ho0, hb⟩; refine ⟨_, rfl, ?_⟩; have n0_ := Aside0.mk (Kd.R_lower ho0 (below_size (by repeat (first | (with_reducible first | exact HB.out | apply below_alloc | apply pw_below_drewN | apply below_drew1) | exact HB.out)))); have n1_ := Aside0.mk (below_step (by repeat (first | (with_reducible first | exact HB.out | apply below_alloc | apply pw_below_drewN | apply below_drew1) | exact HB.out)) hb); clear HB; have HO294 := n0_; have HB := n1_; clear n0_ n1_; (try clear hb); (try clear hb2); (try clear hk); (try clear hi); (try clear ho0); obtain ⟨Ao14, co14, eo14⟩ := Kd.R_slice HO294.out; subst eo14) | ((with_reducible refine gate_callee (f := 28) rfl ?_); refine goesL_ (some 31) rfl rfl Try.func28 (by kernel_rfl) rfl #[.int .i64 t290, .slice Ao14 t291.length co14, .int .i64 t292] rfl (by (try simp only [List.map_toArray, List.map_cons, List.map_nil]); first | done | rfl | (simp only [List.length_drop, List.length_take]; rfl)) ?_; (with_reducible refine (impl_GivenUp.calls kj2 t290 _ _ t291 t292 t295 _ ?side1 ?side2 A7.out).mono ?_); (case side1 => repeat (first | exact (Kd.R_reads' HO294.out).2.2 | (with_reducible refine Kd.C_alloc ?_ _) | (with_reducible refine Kd.C_drewN ?_ _) | (with_reducible refine Kd.C_drew ?_))); (case side2 => exact (Kd.R_reads' HO294.out).2.1); rintro e w15 ⟨rfl, hb⟩; refine ⟨_, rfl, ?_⟩; have n0_ := Aside0.mk (Kd.R_below (by (with_reducible repeat (first | apply Kd.R_alloc | apply Kd.R_drewN | apply Kd.R_drew)); exact HO294.out) hb); have n1_ := Aside0.mk (below_step (by repeat (first | (with_reducible first | exact HB.out | apply below_alloc | apply pw_below_drewN | apply below_drew1) | exact HB.out)) hb); clear HO294; clear HB; have HO294 := n0_; have HB := n1_; clear n0_ n1_; (try clear hb); (try clear hb2); (try clear hk); (try clear hi)) | ((with_reducible refine gate_callee (f := 29) rfl ?_); refine goesL_ (some 36) rfl rfl Try.func29 (by kernel_rfl) rfl #[.int .i64 t290, .slice Ao14 t291.length co14, .int .i64 t292] rfl (by (try simp only [List.map_toArray, List.map_cons, List.map_nil]); first | done | rfl | (simp only [List.length_drop, List.length_take]; rfl)) ?_; (with_reducible refine (spec_GivenUp.calls kj2 t290 _ _ t291 t292 t296 _ ?side1 ?side2 A8.out).mono ?_); (case side1 => repeat (first | exact (Kd.R_reads' HO294.out).2.2 | (with_reducible refine Kd.C_alloc ?_ _) | (with_reducible refine Kd.C_drewN ?_ _) | (with_reducible refine Kd.C_drew ?_))); (case side2 => exact (Kd.R_reads' HO294.out).2.1); rintro e w16 ⟨rfl, hb⟩; refine ⟨_, rfl, ?_⟩; have n0_ := Aside0.mk (Kd.R_below (by (with_reducible repeat (first | apply Kd.R_alloc | apply Kd.R_drewN | apply Kd.R_drew)); exact HO294.out) hb); have n1_ := Aside0.mk (below_step (by repeat (first | (with_reducible first | exact HB.out | apply below_alloc | apply pw_below_drewN | apply below_drew1) | exact HB.out)) hb); clear HO294; clear HB; have HO294 := n0_; have HB := n1_; clear n0_ n1_; (try clear hb); (try clear hb2); (try clear hk); (try clear hi)) | (go_at_call 22; (with_reducible refine (laws_alive.calls  t297 _ A12.out).mono ?_); rintro e w' ⟨rfl, ⟨nd, rfl⟩⟩))
              go_ret
              exact ⟨by first | rfl | (simp [errW_none, errW_some] <;> rfl) | (simp [*, errW_none, errW_some] <;> rfl), by repeat (first | (with_reducible first | exact HB.out | apply below_alloc | apply pw_below_drewN | apply below_drew1) | exact HB.out)⟩
            · rw [if_neg c11] at H
              have c11b0 : (t295 == (-1)) = false := beq_eq_false_iff_ne.mpr c11
              have c11b1 : (t295 != (-1)) = true := bne_iff_ne.mpr c11
              obtain rfl := Option.some.inj H
              go_wp2_with (first | ((with_reducible refine gate_callee (f := 27) rfl ?_); refine goesL_ (some 24) rfl rfl Try.func27 (by kernel_rfl) rfl #[.slice A0 l0.length c0] rfl (by (try simp only [List.map_toArray, List.map_cons, List.map_nil]); first | done | rfl | (simp only [List.length_drop, List.length_take]; rfl)) ?_; (with_reducible refine (spec_DrawGivenUp.calls kj2 _ _ l0 t290 t291 t292 _ ?side1 ?side2 A6.out).mono ?_); (case side1 => repeat (first | exact (Kd.C_below HR0.out HB.out) | (with_reducible refine Kd.C_alloc ?_ _) | (with_reducible refine Kd.C_drewN ?_ _) | (with_reducible refine Kd.C_drew ?_))); (case side2 => exact HC0.out); rintro e w17 ⟨v293, rfl, ho0, hb⟩; refine ⟨_, rfl, ?_⟩; have n0_ := Aside0.mk (Kd.R_lower ho0 (below_size (by repeat (first | (with_reducible first | exact HB.out | apply below_alloc | apply pw_below_drewN | apply below_drew1) | exact HB.out)))); have n1_ := Aside0.mk (below_step (by repeat (first | (with_reducible first | exact HB.out | apply below_alloc | apply pw_below_drewN | apply below_drew1) | exact HB.out)) hb); clear HB; have HO294 := n0_; have HB := n1_; clear n0_ n1_; (try clear hb); (try clear hb2); (try clear hk); (try clear hi); (try clear ho0); obtain ⟨Ao18, co18, eo18⟩ := Kd.R_slice HO294.out; subst eo18) | ((with_reducible refine gate_callee (f := 28) rfl ?_); refine goesL_ (some 31) rfl rfl Try.func28 (by kernel_rfl) rfl #[.int .i64 t290, .slice Ao18 t291.length co18, .int .i64 t292] rfl (by (try simp only [List.map_toArray, List.map_cons, List.map_nil]); first | done | rfl | (simp only [List.length_drop, List.length_take]; rfl)) ?_; (with_reducible refine (impl_GivenUp.calls kj2 t290 _ _ t291 t292 t295 _ ?side1 ?side2 A7.out).mono ?_); (case side1 => repeat (first | exact (Kd.R_reads' HO294.out).2.2 | (with_reducible refine Kd.C_alloc ?_ _) | (with_reducible refine Kd.C_drewN ?_ _) | (with_reducible refine Kd.C_drew ?_))); (case side2 => exact (Kd.R_reads' HO294.out).2.1); rintro e w19 ⟨rfl, hb⟩; refine ⟨_, rfl, ?_⟩; have n0_ := Aside0.mk (Kd.R_below (by (with_reducible repeat (first | apply Kd.R_alloc | apply Kd.R_drewN | apply Kd.R_drew)); exact HO294.out) hb); have n1_ := Aside0.mk (below_step (by repeat (first | (with_reducible first | exact HB.out | apply below_alloc | apply pw_below_drewN | apply below_drew1) | exact HB.out)) hb); clear HO294; clear HB; have HO294 := n0_; have HB := n1_; clear n0_ n1_; (try clear hb); (try clear hb2); (try clear hk); (try clear hi)) | ((with_reducible refine gate_callee (f := 29) rfl ?_); refine goesL_ (some 36) rfl rfl Try.func29 (by kernel_rfl) rfl #[.int .i64 t290, .slice Ao18 t291.length co18, .int .i64 t292] rfl (by (try simp only [List.map_toArray, List.map_cons, List.map_nil]); first | done | rfl | (simp only [List.length_drop, List.length_take]; rfl)) ?_; (with_reducible refine (spec_GivenUp.calls kj2 t290 _ _ t291 t292 t296 _ ?side1 ?side2 A8.out).mono ?_); (case side1 => repeat (first | exact (Kd.R_reads' HO294.out).2.2 | (with_reducible refine Kd.C_alloc ?_ _) | (with_reducible refine Kd.C_drewN ?_ _) | (with_reducible refine Kd.C_drew ?_))); (case side2 => exact (Kd.R_reads' HO294.out).2.1); rintro e w20 ⟨rfl, hb⟩; refine ⟨_, rfl, ?_⟩; have n0_ := Aside0.mk (Kd.R_below (by (with_reducible repeat (first | apply Kd.R_alloc | apply Kd.R_drewN | apply Kd.R_drew)); exact HO294.out) hb); have n1_ := Aside0.mk (below_step (by repeat (first | (with_reducible first | exact HB.out | apply below_alloc | apply pw_below_drewN | apply below_drew1) | exact HB.out)) hb); clear HO294; clear HB; have HO294 := n0_; have HB := n1_; clear n0_ n1_; (try clear hb); (try clear hb2); (try clear hk); (try clear hi)))
              go_ret
              exact ⟨by first | rfl | (simp [errW_none, errW_some] <;> rfl) | (simp [*, errW_none, errW_some] <;> rfl), by repeat (first | (with_reducible first | exact HB.out | apply below_alloc | apply pw_below_drewN | apply below_drew1) | exact HB.out)⟩
          · rw [if_neg c10] at H
            have c10b0 : decide (t295 < 0) = false := decide_eq_false c10
            clear c10
            replace H := Option.bind_eq_some_iff.mp H
            obtain ⟨t298, A210, H⟩ := H
            replace H : ((laws_whole.f t290).bind fun t299 => ((laws_within.f kj2 t298 t295).bind fun t300 => (if t300 = true then (if t292 = t299 then ((laws_within.f kj2 t298 t292).bind fun t301 => (if t301 = true then ((laws_both.f kj2 t295 t292).bind fun t302 => (laws_FnGivenUp.j1 kj2 l1 t290 t291 t292 t295 t299 (t302 != t298))) else (if t295 = t298 then (laws_FnGivenUp.j1 kj2 l1 t290 t291 t292 t295 t299 false) else (laws_FnGivenUp.j1 kj2 l1 t290 t291 t292 t295 t299 true)))) else ((laws_within.f kj2 t295 t292).bind fun t303 => (if t303 = true then (laws_FnGivenUp.j1 kj2 l1 t290 t291 t292 t295 t299 true) else ((laws_within.f kj2 t298 t292).bind fun t304 => (if t304 = true then ((laws_both.f kj2 t295 t292).bind fun t305 => (laws_FnGivenUp.j1 kj2 l1 t290 t291 t292 t295 t299 (t305 != t298))) else (if t295 = t298 then (laws_FnGivenUp.j1 kj2 l1 t290 t291 t292 t295 t299 false) else (laws_FnGivenUp.j1 kj2 l1 t290 t291 t292 t295 t299 true))))))) else (laws_FnGivenUp.j1 kj2 l1 t290 t291 t292 t295 t299 true)))) = some r := H
            have A21 := Aside0.mk A210
            clear A210
            replace H := Option.bind_eq_some_iff.mp H
            obtain ⟨t299, A220, H⟩ := H
            replace H : ((laws_within.f kj2 t298 t295).bind fun t300 => (if t300 = true then (if t292 = t299 then ((laws_within.f kj2 t298 t292).bind fun t301 => (if t301 = true then ((laws_both.f kj2 t295 t292).bind fun t302 => (laws_FnGivenUp.j1 kj2 l1 t290 t291 t292 t295 t299 (t302 != t298))) else (if t295 = t298 then (laws_FnGivenUp.j1 kj2 l1 t290 t291 t292 t295 t299 false) else (laws_FnGivenUp.j1 kj2 l1 t290 t291 t292 t295 t299 true)))) else ((laws_within.f kj2 t295 t292).bind fun t303 => (if t303 = true then (laws_FnGivenUp.j1 kj2 l1 t290 t291 t292 t295 t299 true) else ((laws_within.f kj2 t298 t292).bind fun t304 => (if t304 = true then ((laws_both.f kj2 t295 t292).bind fun t305 => (laws_FnGivenUp.j1 kj2 l1 t290 t291 t292 t295 t299 (t305 != t298))) else (if t295 = t298 then (laws_FnGivenUp.j1 kj2 l1 t290 t291 t292 t295 t299 false) else (laws_FnGivenUp.j1 kj2 l1 t290 t291 t292 t295 t299 true))))))) else (laws_FnGivenUp.j1 kj2 l1 t290 t291 t292 t295 t299 true))) = some r := H
            have A22 := Aside0.mk A220
            clear A220
            have HC23 := Aside0.mk H
            clear H
            go_upto_region 11 with (first | ((with_reducible refine gate_callee (f := 27) rfl ?_); refine goesL_ (some 24) rfl rfl Try.func27 (by kernel_rfl) rfl #[.slice A0 l0.length c0] rfl (by (try simp only [List.map_toArray, List.map_cons, List.map_nil]); first | done | rfl | (simp only [List.length_drop, List.length_take]; rfl)) ?_; (with_reducible refine (spec_DrawGivenUp.calls kj2 _ _ l0 t290 t291 t292 _ ?side1 ?side2 A6.out).mono ?_); (case side1 => repeat (first | exact (Kd.C_below HR0.out HB.out) | (with_reducible refine Kd.C_alloc ?_ _) | (with_reducible refine Kd.C_drewN ?_ _) | (with_reducible refine Kd.C_drew ?_))); (case side2 => exact HC0.out); rintro e w24 ⟨v293, rfl, ho0, hb⟩; refine ⟨_, rfl, ?_⟩; have n0_ := Aside0.mk (Kd.R_lower ho0 (below_size (by repeat (first | (with_reducible first | exact HB.out | apply below_alloc | apply pw_below_drewN | apply below_drew1) | exact HB.out)))); have n1_ := Aside0.mk (below_step (by repeat (first | (with_reducible first | exact HB.out | apply below_alloc | apply pw_below_drewN | apply below_drew1) | exact HB.out)) hb); clear HB; have HO294 := n0_; have HB := n1_; clear n0_ n1_; (try clear hb); (try clear hb2); (try clear hk); (try clear hi); (try clear ho0); obtain ⟨Ao25, co25, eo25⟩ := Kd.R_slice HO294.out; subst eo25) | ((with_reducible refine gate_callee (f := 28) rfl ?_); refine goesL_ (some 31) rfl rfl Try.func28 (by kernel_rfl) rfl #[.int .i64 t290, .slice Ao25 t291.length co25, .int .i64 t292] rfl (by (try simp only [List.map_toArray, List.map_cons, List.map_nil]); first | done | rfl | (simp only [List.length_drop, List.length_take]; rfl)) ?_; (with_reducible refine (impl_GivenUp.calls kj2 t290 _ _ t291 t292 t295 _ ?side1 ?side2 A7.out).mono ?_); (case side1 => repeat (first | exact (Kd.R_reads' HO294.out).2.2 | (with_reducible refine Kd.C_alloc ?_ _) | (with_reducible refine Kd.C_drewN ?_ _) | (with_reducible refine Kd.C_drew ?_))); (case side2 => exact (Kd.R_reads' HO294.out).2.1); rintro e w26 ⟨rfl, hb⟩; refine ⟨_, rfl, ?_⟩; have n0_ := Aside0.mk (Kd.R_below (by (with_reducible repeat (first | apply Kd.R_alloc | apply Kd.R_drewN | apply Kd.R_drew)); exact HO294.out) hb); have n1_ := Aside0.mk (below_step (by repeat (first | (with_reducible first | exact HB.out | apply below_alloc | apply pw_below_drewN | apply below_drew1) | exact HB.out)) hb); clear HO294; clear HB; have HO294 := n0_; have HB := n1_; clear n0_ n1_; (try clear hb); (try clear hb2); (try clear hk); (try clear hi)) | ((with_reducible refine gate_callee (f := 29) rfl ?_); refine goesL_ (some 36) rfl rfl Try.func29 (by kernel_rfl) rfl #[.int .i64 t290, .slice Ao25 t291.length co25, .int .i64 t292] rfl (by (try simp only [List.map_toArray, List.map_cons, List.map_nil]); first | done | rfl | (simp only [List.length_drop, List.length_take]; rfl)) ?_; (with_reducible refine (spec_GivenUp.calls kj2 t290 _ _ t291 t292 t296 _ ?side1 ?side2 A8.out).mono ?_); (case side1 => repeat (first | exact (Kd.R_reads' HO294.out).2.2 | (with_reducible refine Kd.C_alloc ?_ _) | (with_reducible refine Kd.C_drewN ?_ _) | (with_reducible refine Kd.C_drew ?_))); (case side2 => exact (Kd.R_reads' HO294.out).2.1); rintro e w27 ⟨rfl, hb⟩; refine ⟨_, rfl, ?_⟩; have n0_ := Aside0.mk (Kd.R_below (by (with_reducible repeat (first | apply Kd.R_alloc | apply Kd.R_drewN | apply Kd.R_drew)); exact HO294.out) hb); have n1_ := Aside0.mk (below_step (by repeat (first | (with_reducible first | exact HB.out | apply below_alloc | apply pw_below_drewN | apply below_drew1) | exact HB.out)) hb); clear HO294; clear HB; have HO294 := n0_; have HB := n1_; clear n0_ n1_; (try clear hb); (try clear hb2); (try clear hk); (try clear hi)) | ((with_reducible refine gate_callee (f := 26) rfl ?_); refine goesL_ (some 47) rfl rfl Try.func26 (by kernel_rfl) rfl #[.int .i64 t290, .slice Ao25 t291.length co25] rfl (by (try simp only [List.map_toArray, List.map_cons, List.map_nil]); first | done | rfl | (simp only [List.length_drop, List.length_take]; rfl)) ?_; (with_reducible refine (impl_CoreOf.calls kj2 t290 _ _ t291 t298 _ ?side1 ?side2 A21.out).mono ?_); (case side1 => repeat (first | exact (Kd.R_reads' HO294.out).2.2 | (with_reducible refine Kd.C_alloc ?_ _) | (with_reducible refine Kd.C_drewN ?_ _) | (with_reducible refine Kd.C_drew ?_))); (case side2 => exact (Kd.R_reads' HO294.out).2.1); rintro e w28 ⟨rfl, hb⟩; refine ⟨_, rfl, ?_⟩; have n0_ := Aside0.mk (Kd.R_below (by (with_reducible repeat (first | apply Kd.R_alloc | apply Kd.R_drewN | apply Kd.R_drew)); exact HO294.out) hb); have n1_ := Aside0.mk (below_step (by repeat (first | (with_reducible first | exact HB.out | apply below_alloc | apply pw_below_drewN | apply below_drew1) | exact HB.out)) hb); clear HO294; clear HB; have HO294 := n0_; have HB := n1_; clear n0_ n1_; (try clear hb); (try clear hb2); (try clear hk); (try clear hi)) | ((with_reducible refine gate_callee (f := 23) rfl ?_); refine goesL_ (some 49) rfl rfl Try.func23 (by kernel_rfl) rfl #[.int .i64 t290] rfl (by (try simp only [List.map_toArray, List.map_cons, List.map_nil]); first | done | rfl | (simp only [List.length_drop, List.length_take]; rfl)) ?_; (with_reducible refine (laws_whole.calls t290 t299 _ A22.out).mono ?_); rintro e w29 ⟨rfl, hb⟩; refine ⟨_, rfl, ?_⟩; have n0_ := Aside0.mk (Kd.R_below (by (with_reducible repeat (first | apply Kd.R_alloc | apply Kd.R_drewN | apply Kd.R_drew)); exact HO294.out) hb); have n1_ := Aside0.mk (below_step (by repeat (first | (with_reducible first | exact HB.out | apply below_alloc | apply pw_below_drewN | apply below_drew1) | exact HB.out)) hb); clear HO294; clear HB; have HO294 := n0_; have HB := n1_; clear n0_ n1_; (try clear hb); (try clear hb2); (try clear hk); (try clear hi)))
            (try simp only [Act.put, List.setIfInBounds_toArray, List.set_cons_zero, List.set_cons_succ])
            go_cut [86] (fun v86 wc => ∃ (kq : Nat) (x86_22 : Bool), v86 = .bool x86_22 ∧ Aside0 (laws_FnGivenUp.j1 kq l1 t290 t291 t292 t295 t299 x86_22 = some r) ∧ Aside0 (kq ≤ kj2) ∧ Aside0 (Kd.R (Kd.int .i64) 3 wc w.heap.size (fun _ => True) (.slice Ao25 t291.length co25) t291) ∧ Aside0 (Below w.heap.size w wc))
            case first =>
              have H := HC23.out
              clear HC23
              replace H := Option.bind_eq_some_iff.mp H
              obtain ⟨t300, A300, H⟩ := H
              replace H : (if t300 = true then (if t292 = t299 then ((laws_within.f kj2 t298 t292).bind fun t301 => (if t301 = true then ((laws_both.f kj2 t295 t292).bind fun t302 => (laws_FnGivenUp.j1 kj2 l1 t290 t291 t292 t295 t299 (t302 != t298))) else (if t295 = t298 then (laws_FnGivenUp.j1 kj2 l1 t290 t291 t292 t295 t299 false) else (laws_FnGivenUp.j1 kj2 l1 t290 t291 t292 t295 t299 true)))) else ((laws_within.f kj2 t295 t292).bind fun t303 => (if t303 = true then (laws_FnGivenUp.j1 kj2 l1 t290 t291 t292 t295 t299 true) else ((laws_within.f kj2 t298 t292).bind fun t304 => (if t304 = true then ((laws_both.f kj2 t295 t292).bind fun t305 => (laws_FnGivenUp.j1 kj2 l1 t290 t291 t292 t295 t299 (t305 != t298))) else (if t295 = t298 then (laws_FnGivenUp.j1 kj2 l1 t290 t291 t292 t295 t299 false) else (laws_FnGivenUp.j1 kj2 l1 t290 t291 t292 t295 t299 true))))))) else (laws_FnGivenUp.j1 kj2 l1 t290 t291 t292 t295 t299 true)) = some r := H
              have A30 := Aside0.mk A300
              clear A300
              by_cases c31 : t300 = true
              · subst c31
                have H1 : (if t292 = t299 then ((laws_within.f kj2 t298 t292).bind fun t301 => (if t301 = true then ((laws_both.f kj2 t295 t292).bind fun t302 => (laws_FnGivenUp.j1 kj2 l1 t290 t291 t292 t295 t299 (t302 != t298))) else (if t295 = t298 then (laws_FnGivenUp.j1 kj2 l1 t290 t291 t292 t295 t299 false) else (laws_FnGivenUp.j1 kj2 l1 t290 t291 t292 t295 t299 true)))) else ((laws_within.f kj2 t295 t292).bind fun t303 => (if t303 = true then (laws_FnGivenUp.j1 kj2 l1 t290 t291 t292 t295 t299 true) else ((laws_within.f kj2 t298 t292).bind fun t304 => (if t304 = true then ((laws_both.f kj2 t295 t292).bind fun t305 => (laws_FnGivenUp.j1 kj2 l1 t290 t291 t292 t295 t299 (t305 != t298))) else (if t295 = t298 then (laws_FnGivenUp.j1 kj2 l1 t290 t291 t292 t295 t299 false) else (laws_FnGivenUp.j1 kj2 l1 t290 t291 t292 t295 t299 true))))))) = some r := by rw [if_pos rfl] at H; exact H
                clear H
                have H := H1
                clear H1
                by_cases c32 : t292 = t299
                · rw [if_pos c32] at H
                  have c32b0 : (t292 == t299) = true := beq_iff_eq.mpr c32
                  have c32b1 : (t292 != t299) = false := bne_eq_false_iff_eq.mpr c32
                  clear c32
                  (first | rw [c32b0] | (simp only [i64_w, i32_w]; rw [c32b0]) | skip)
                  replace H := Option.bind_eq_some_iff.mp H
                  obtain ⟨t301, A330, H⟩ := H
                  replace H : (if t301 = true then ((laws_both.f kj2 t295 t292).bind fun t302 => (laws_FnGivenUp.j1 kj2 l1 t290 t291 t292 t295 t299 (t302 != t298))) else (if t295 = t298 then (laws_FnGivenUp.j1 kj2 l1 t290 t291 t292 t295 t299 false) else (laws_FnGivenUp.j1 kj2 l1 t290 t291 t292 t295 t299 true))) = some r := H
                  have A33 := Aside0.mk A330
                  clear A330
                  by_cases c34 : t301 = true
                  · subst c34
                    have H1 : ((laws_both.f kj2 t295 t292).bind fun t302 => (laws_FnGivenUp.j1 kj2 l1 t290 t291 t292 t295 t299 (t302 != t298))) = some r := by rw [if_pos rfl] at H; exact H
                    clear H
                    have H := H1
                    clear H1
                    replace H := Option.bind_eq_some_iff.mp H
                    obtain ⟨t302, A350, H⟩ := H
                    replace H : (laws_FnGivenUp.j1 kj2 l1 t290 t291 t292 t295 t299 (t302 != t298)) = some r := H
                    have A35 := Aside0.mk A350
                    clear A350
                    have H' := Aside0.mk H
                    clear H
                    go_wp2_with (first | ((with_reducible refine gate_callee (f := 25) rfl ?_); refine goesL_ (some 52) rfl rfl Try.func25 (by kernel_rfl) rfl #[.int .i64 t298, .int .i64 t295] rfl (by (try simp only [List.map_toArray, List.map_cons, List.map_nil]); first | done | rfl | (simp only [List.length_drop, List.length_take]; rfl)) ?_; (with_reducible refine (laws_within.calls kj2 t298 t295 true _ A30.out).mono ?_); rintro e w' ⟨rfl, ⟨nd, rfl⟩⟩; refine ⟨_, rfl, ?_⟩) | (go_at_call 25; (with_reducible refine (laws_within.calls kj2 t298 t292 true _ A33.out).mono ?_); rintro e w' ⟨rfl, ⟨nd, rfl⟩⟩) | (go_at_call 24; (with_reducible refine (laws_both.calls kj2 t295 t292 t302 _ A35.out).mono ?_); rintro e w' ⟨rfl, ⟨nd, rfl⟩⟩))
                    go_meet
                    case rel => exact ⟨_, ((t302 != t298)), (by first | rfl | (simp; done) | (simp [*]; done)), H', ⟨by have := HJ2.out; first | omega | exact Nat.le_refl _⟩, ⟨by (with_reducible repeat (first | apply Kd.R_alloc | apply Kd.R_drewN | apply Kd.R_drew)); exact HO294.out⟩, ⟨by repeat (first | (with_reducible first | exact HB.out | apply below_alloc | apply pw_below_drewN | apply below_drew1) | exact HB.out)⟩⟩
                  · replace c34 := Bool.eq_false_iff.mpr c34
                    subst c34
                    have H1 : (if t295 = t298 then (laws_FnGivenUp.j1 kj2 l1 t290 t291 t292 t295 t299 false) else (laws_FnGivenUp.j1 kj2 l1 t290 t291 t292 t295 t299 true)) = some r := by rw [if_neg (show ¬ (false = true) by decide)] at H; exact H
                    clear H
                    have H := H1
                    clear H1
                    by_cases c36 : t295 = t298
                    · rw [if_pos c36] at H
                      have c36b0 : (t295 == t298) = true := beq_iff_eq.mpr c36
                      have c36b1 : (t295 != t298) = false := bne_eq_false_iff_eq.mpr c36
                      clear c36
                      have H' := Aside0.mk H
                      clear H
                      go_wp2_with (first | ((with_reducible refine gate_callee (f := 25) rfl ?_); refine goesL_ (some 52) rfl rfl Try.func25 (by kernel_rfl) rfl #[.int .i64 t298, .int .i64 t295] rfl (by (try simp only [List.map_toArray, List.map_cons, List.map_nil]); first | done | rfl | (simp only [List.length_drop, List.length_take]; rfl)) ?_; (with_reducible refine (laws_within.calls kj2 t298 t295 true _ A30.out).mono ?_); rintro e w' ⟨rfl, ⟨nd, rfl⟩⟩; refine ⟨_, rfl, ?_⟩) | (go_at_call 25; (with_reducible refine (laws_within.calls kj2 t298 t292 false _ A33.out).mono ?_); rintro e w' ⟨rfl, ⟨nd, rfl⟩⟩))
                      go_meet
                      case rel => exact ⟨_, (false), (by first | rfl | (simp; done) | (simp [*]; done)), H', ⟨by have := HJ2.out; first | omega | exact Nat.le_refl _⟩, ⟨by (with_reducible repeat (first | apply Kd.R_alloc | apply Kd.R_drewN | apply Kd.R_drew)); exact HO294.out⟩, ⟨by repeat (first | (with_reducible first | exact HB.out | apply below_alloc | apply pw_below_drewN | apply below_drew1) | exact HB.out)⟩⟩
                    · rw [if_neg c36] at H
                      have c36b0 : (t295 == t298) = false := beq_eq_false_iff_ne.mpr c36
                      have c36b1 : (t295 != t298) = true := bne_iff_ne.mpr c36
                      have H' := Aside0.mk H
                      clear H
                      go_wp2_with (first | ((with_reducible refine gate_callee (f := 25) rfl ?_); refine goesL_ (some 52) rfl rfl Try.func25 (by kernel_rfl) rfl #[.int .i64 t298, .int .i64 t295] rfl (by (try simp only [List.map_toArray, List.map_cons, List.map_nil]); first | done | rfl | (simp only [List.length_drop, List.length_take]; rfl)) ?_; (with_reducible refine (laws_within.calls kj2 t298 t295 true _ A30.out).mono ?_); rintro e w' ⟨rfl, ⟨nd, rfl⟩⟩; refine ⟨_, rfl, ?_⟩) | (go_at_call 25; (with_reducible refine (laws_within.calls kj2 t298 t292 false _ A33.out).mono ?_); rintro e w' ⟨rfl, ⟨nd, rfl⟩⟩))
                      go_meet
                      case rel => exact ⟨_, (true), (by first | rfl | (simp; done) | (simp [*]; done)), H', ⟨by have := HJ2.out; first | omega | exact Nat.le_refl _⟩, ⟨by (with_reducible repeat (first | apply Kd.R_alloc | apply Kd.R_drewN | apply Kd.R_drew)); exact HO294.out⟩, ⟨by repeat (first | (with_reducible first | exact HB.out | apply below_alloc | apply pw_below_drewN | apply below_drew1) | exact HB.out)⟩⟩
                · rw [if_neg c32] at H
                  have c32b0 : (t292 == t299) = false := beq_eq_false_iff_ne.mpr c32
                  have c32b1 : (t292 != t299) = true := bne_iff_ne.mpr c32
                  (first | rw [c32b0] | (simp only [i64_w, i32_w]; rw [c32b0]) | skip)
                  replace H := Option.bind_eq_some_iff.mp H
                  obtain ⟨t303, A370, H⟩ := H
                  replace H : (if t303 = true then (laws_FnGivenUp.j1 kj2 l1 t290 t291 t292 t295 t299 true) else ((laws_within.f kj2 t298 t292).bind fun t304 => (if t304 = true then ((laws_both.f kj2 t295 t292).bind fun t305 => (laws_FnGivenUp.j1 kj2 l1 t290 t291 t292 t295 t299 (t305 != t298))) else (if t295 = t298 then (laws_FnGivenUp.j1 kj2 l1 t290 t291 t292 t295 t299 false) else (laws_FnGivenUp.j1 kj2 l1 t290 t291 t292 t295 t299 true))))) = some r := H
                  have A37 := Aside0.mk A370
                  clear A370
                  by_cases c38 : t303 = true
                  · subst c38
                    have H1 : (laws_FnGivenUp.j1 kj2 l1 t290 t291 t292 t295 t299 true) = some r := by rw [if_pos rfl] at H; exact H
                    clear H
                    have H := H1
                    clear H1
                    have H' := Aside0.mk H
                    clear H
                    go_wp2_with (first | ((with_reducible refine gate_callee (f := 25) rfl ?_); refine goesL_ (some 52) rfl rfl Try.func25 (by kernel_rfl) rfl #[.int .i64 t298, .int .i64 t295] rfl (by (try simp only [List.map_toArray, List.map_cons, List.map_nil]); first | done | rfl | (simp only [List.length_drop, List.length_take]; rfl)) ?_; (with_reducible refine (laws_within.calls kj2 t298 t295 true _ A30.out).mono ?_); rintro e w' ⟨rfl, ⟨nd, rfl⟩⟩; refine ⟨_, rfl, ?_⟩) | (go_at_call 25; (with_reducible refine (laws_within.calls kj2 t295 t292 true _ A37.out).mono ?_); rintro e w' ⟨rfl, ⟨nd, rfl⟩⟩))
                    go_meet
                    case rel => exact ⟨_, (true), (by first | rfl | (simp; done) | (simp [*]; done)), H', ⟨by have := HJ2.out; first | omega | exact Nat.le_refl _⟩, ⟨by (with_reducible repeat (first | apply Kd.R_alloc | apply Kd.R_drewN | apply Kd.R_drew)); exact HO294.out⟩, ⟨by repeat (first | (with_reducible first | exact HB.out | apply below_alloc | apply pw_below_drewN | apply below_drew1) | exact HB.out)⟩⟩
                  · replace c38 := Bool.eq_false_iff.mpr c38
                    subst c38
                    have H1 : ((laws_within.f kj2 t298 t292).bind fun t304 => (if t304 = true then ((laws_both.f kj2 t295 t292).bind fun t305 => (laws_FnGivenUp.j1 kj2 l1 t290 t291 t292 t295 t299 (t305 != t298))) else (if t295 = t298 then (laws_FnGivenUp.j1 kj2 l1 t290 t291 t292 t295 t299 false) else (laws_FnGivenUp.j1 kj2 l1 t290 t291 t292 t295 t299 true)))) = some r := by rw [if_neg (show ¬ (false = true) by decide)] at H; exact H
                    clear H
                    have H := H1
                    clear H1
                    replace H := Option.bind_eq_some_iff.mp H
                    obtain ⟨t304, A390, H⟩ := H
                    replace H : (if t304 = true then ((laws_both.f kj2 t295 t292).bind fun t305 => (laws_FnGivenUp.j1 kj2 l1 t290 t291 t292 t295 t299 (t305 != t298))) else (if t295 = t298 then (laws_FnGivenUp.j1 kj2 l1 t290 t291 t292 t295 t299 false) else (laws_FnGivenUp.j1 kj2 l1 t290 t291 t292 t295 t299 true))) = some r := H
                    have A39 := Aside0.mk A390
                    clear A390
                    by_cases c40 : t304 = true
                    · subst c40
                      have H1 : ((laws_both.f kj2 t295 t292).bind fun t305 => (laws_FnGivenUp.j1 kj2 l1 t290 t291 t292 t295 t299 (t305 != t298))) = some r := by rw [if_pos rfl] at H; exact H
                      clear H
                      have H := H1
                      clear H1
                      replace H := Option.bind_eq_some_iff.mp H
                      obtain ⟨t305, A410, H⟩ := H
                      replace H : (laws_FnGivenUp.j1 kj2 l1 t290 t291 t292 t295 t299 (t305 != t298)) = some r := H
                      have A41 := Aside0.mk A410
                      clear A410
                      have H' := Aside0.mk H
                      clear H
                      go_wp2_with (first | ((with_reducible refine gate_callee (f := 25) rfl ?_); refine goesL_ (some 52) rfl rfl Try.func25 (by kernel_rfl) rfl #[.int .i64 t298, .int .i64 t295] rfl (by (try simp only [List.map_toArray, List.map_cons, List.map_nil]); first | done | rfl | (simp only [List.length_drop, List.length_take]; rfl)) ?_; (with_reducible refine (laws_within.calls kj2 t298 t295 true _ A30.out).mono ?_); rintro e w' ⟨rfl, ⟨nd, rfl⟩⟩; refine ⟨_, rfl, ?_⟩) | (go_at_call 25; (with_reducible refine (laws_within.calls kj2 t295 t292 false _ A37.out).mono ?_); rintro e w' ⟨rfl, ⟨nd, rfl⟩⟩) | (go_at_call 25; (with_reducible refine (laws_within.calls kj2 t298 t292 true _ A39.out).mono ?_); rintro e w' ⟨rfl, ⟨nd, rfl⟩⟩) | (go_at_call 24; (with_reducible refine (laws_both.calls kj2 t295 t292 t305 _ A41.out).mono ?_); rintro e w' ⟨rfl, ⟨nd, rfl⟩⟩))
                      go_meet
                      case rel => exact ⟨_, ((t305 != t298)), (by first | rfl | (simp; done) | (simp [*]; done)), H', ⟨by have := HJ2.out; first | omega | exact Nat.le_refl _⟩, ⟨by (with_reducible repeat (first | apply Kd.R_alloc | apply Kd.R_drewN | apply Kd.R_drew)); exact HO294.out⟩, ⟨by repeat (first | (with_reducible first | exact HB.out | apply below_alloc | apply pw_below_drewN | apply below_drew1) | exact HB.out)⟩⟩
                    · replace c40 := Bool.eq_false_iff.mpr c40
                      subst c40
                      have H1 : (if t295 = t298 then (laws_FnGivenUp.j1 kj2 l1 t290 t291 t292 t295 t299 false) else (laws_FnGivenUp.j1 kj2 l1 t290 t291 t292 t295 t299 true)) = some r := by rw [if_neg (show ¬ (false = true) by decide)] at H; exact H
                      clear H
                      have H := H1
                      clear H1
                      by_cases c42 : t295 = t298
                      · rw [if_pos c42] at H
                        have c42b0 : (t295 == t298) = true := beq_iff_eq.mpr c42
                        have c42b1 : (t295 != t298) = false := bne_eq_false_iff_eq.mpr c42
                        clear c42
                        have H' := Aside0.mk H
                        clear H
                        go_wp2_with (first | ((with_reducible refine gate_callee (f := 25) rfl ?_); refine goesL_ (some 52) rfl rfl Try.func25 (by kernel_rfl) rfl #[.int .i64 t298, .int .i64 t295] rfl (by (try simp only [List.map_toArray, List.map_cons, List.map_nil]); first | done | rfl | (simp only [List.length_drop, List.length_take]; rfl)) ?_; (with_reducible refine (laws_within.calls kj2 t298 t295 true _ A30.out).mono ?_); rintro e w' ⟨rfl, ⟨nd, rfl⟩⟩; refine ⟨_, rfl, ?_⟩) | (go_at_call 25; (with_reducible refine (laws_within.calls kj2 t295 t292 false _ A37.out).mono ?_); rintro e w' ⟨rfl, ⟨nd, rfl⟩⟩) | (go_at_call 25; (with_reducible refine (laws_within.calls kj2 t298 t292 false _ A39.out).mono ?_); rintro e w' ⟨rfl, ⟨nd, rfl⟩⟩))
                        go_meet
                        case rel => exact ⟨_, (false), (by first | rfl | (simp; done) | (simp [*]; done)), H', ⟨by have := HJ2.out; first | omega | exact Nat.le_refl _⟩, ⟨by (with_reducible repeat (first | apply Kd.R_alloc | apply Kd.R_drewN | apply Kd.R_drew)); exact HO294.out⟩, ⟨by repeat (first | (with_reducible first | exact HB.out | apply below_alloc | apply pw_below_drewN | apply below_drew1) | exact HB.out)⟩⟩
                      · rw [if_neg c42] at H
                        have c42b0 : (t295 == t298) = false := beq_eq_false_iff_ne.mpr c42
                        have c42b1 : (t295 != t298) = true := bne_iff_ne.mpr c42
                        have H' := Aside0.mk H
                        clear H
                        go_wp2_with (first | ((with_reducible refine gate_callee (f := 25) rfl ?_); refine goesL_ (some 52) rfl rfl Try.func25 (by kernel_rfl) rfl #[.int .i64 t298, .int .i64 t295] rfl (by (try simp only [List.map_toArray, List.map_cons, List.map_nil]); first | done | rfl | (simp only [List.length_drop, List.length_take]; rfl)) ?_; (with_reducible refine (laws_within.calls kj2 t298 t295 true _ A30.out).mono ?_); rintro e w' ⟨rfl, ⟨nd, rfl⟩⟩; refine ⟨_, rfl, ?_⟩) | (go_at_call 25; (with_reducible refine (laws_within.calls kj2 t295 t292 false _ A37.out).mono ?_); rintro e w' ⟨rfl, ⟨nd, rfl⟩⟩) | (go_at_call 25; (with_reducible refine (laws_within.calls kj2 t298 t292 false _ A39.out).mono ?_); rintro e w' ⟨rfl, ⟨nd, rfl⟩⟩))
                        go_meet
                        case rel => exact ⟨_, (true), (by first | rfl | (simp; done) | (simp [*]; done)), H', ⟨by have := HJ2.out; first | omega | exact Nat.le_refl _⟩, ⟨by (with_reducible repeat (first | apply Kd.R_alloc | apply Kd.R_drewN | apply Kd.R_drew)); exact HO294.out⟩, ⟨by repeat (first | (with_reducible first | exact HB.out | apply below_alloc | apply pw_below_drewN | apply below_drew1) | exact HB.out)⟩⟩
              · replace c31 := Bool.eq_false_iff.mpr c31
                subst c31
                have H1 : (laws_FnGivenUp.j1 kj2 l1 t290 t291 t292 t295 t299 true) = some r := by rw [if_neg (show ¬ (false = true) by decide)] at H; exact H
                clear H
                have H := H1
                clear H1
                have H' := Aside0.mk H
                clear H
                go_wp2_with (first | ((with_reducible refine gate_callee (f := 25) rfl ?_); refine goesL_ (some 52) rfl rfl Try.func25 (by kernel_rfl) rfl #[.int .i64 t298, .int .i64 t295] rfl (by (try simp only [List.map_toArray, List.map_cons, List.map_nil]); first | done | rfl | (simp only [List.length_drop, List.length_take]; rfl)) ?_; (with_reducible refine (laws_within.calls kj2 t298 t295 false _ A30.out).mono ?_); rintro e w' ⟨rfl, ⟨nd, rfl⟩⟩; refine ⟨_, rfl, ?_⟩))
                go_meet
                case rel => exact ⟨_, (true), (by first | rfl | (simp; done) | (simp [*]; done)), H', ⟨by have := HJ2.out; first | omega | exact Nat.le_refl _⟩, ⟨by (with_reducible repeat (first | apply Kd.R_alloc | apply Kd.R_drewN | apply Kd.R_drew)); exact HO294.out⟩, ⟨by repeat (first | (with_reducible first | exact HB.out | apply below_alloc | apply pw_below_drewN | apply below_drew1) | exact HB.out)⟩⟩
            case rest =>
              clear HC23
              try clear c1
              try clear c2
              try clear p2
              try clear c3
              try clear c4
              try clear c4b0
              try clear c4b1
              try clear c5
              try clear c6
              try clear c9
              try clear c9b0
              try clear c9b1
              try clear c10
              try clear c10b0
              try clear c11
              try clear c11b0
              try clear c11b1
              try clear c23
              try clear c25
              try clear c26
              try clear c27
              try clear c28
              try clear c29
              try clear c31
              try clear c32
              try clear c32b0
              try clear c32b1
              try clear c34
              try clear c36
              try clear c36b0
              try clear c36b1
              try clear c38
              try clear c40
              try clear c42
              try clear c42b0
              try clear c42b1
              try clear p2
              obtain ⟨kq, x86_22, rfl, HA, HJ22, HO_6, HB⟩ := hcut
              cases kq with
              | zero => exact absurd HA.out (by simp [laws_FnGivenUp.j1])
              | succ kj22 =>
                have H := HA.out
                clear HA
                simp only [laws_FnGivenUp.j1] at H
                by_cases c43 : x86_22 = true
                · subst c43
                  have H1 : (some false) = some r := by rw [if_pos rfl] at H; exact H
                  clear H
                  have H := H1
                  clear H1
                  obtain rfl := Option.some.inj H
                  go_wp2
                  go_ret
                  exact ⟨by first | rfl | (simp [errW_none, errW_some] <;> rfl) | (simp [*, errW_none, errW_some] <;> rfl), by repeat (first | (with_reducible first | exact HB.out | apply below_alloc | apply pw_below_drewN | apply below_drew1) | exact HB.out)⟩
                · replace c43 := Bool.eq_false_iff.mpr c43
                  subst c43
                  have H1 : (if (wrap64 (t299 + 1)) = 0 then (none) else ((impl_GivenUp.f kj22 t290 t291 (Int.tmod (wrap64 ((l1.length : Int) * 37)) (wrap64 (t299 + 1)))).bind fun t306 => ((laws_both.f kj22 t292 (Int.tmod (wrap64 ((l1.length : Int) * 37)) (wrap64 (t299 + 1)))).bind fun t307 => ((impl_GivenUp.f kj22 t290 t291 t307).bind fun t308 => (if t308 = t295 then (some true) else (if t308 = t306 then (some true) else ((laws_either.f kj22 t295 t306).bind fun t309 => (some (t308 == t309))))))))) = some r := by rw [if_neg (show ¬ (false = true) by decide)] at H; exact H
                  clear H
                  have H := H1
                  clear H1
                  by_cases c44 : (wrap64 (t299 + 1)) = 0
                  · rw [if_pos c44] at H
                    exact absurd H (by simp)
                  · rw [if_neg c44] at H
                    have c44b0 : ((wrap64 (t299 + 1)) == 0) = false := beq_eq_false_iff_ne.mpr c44
                    have c44b1 : ((wrap64 (t299 + 1)) != 0) = true := bne_iff_ne.mpr c44
                    replace H := Option.bind_eq_some_iff.mp H
                    obtain ⟨t306, A450, H⟩ := H
                    replace H : ((laws_both.f kj22 t292 (Int.tmod (wrap64 ((l1.length : Int) * 37)) (wrap64 (t299 + 1)))).bind fun t307 => ((impl_GivenUp.f kj22 t290 t291 t307).bind fun t308 => (if t308 = t295 then (some true) else (if t308 = t306 then (some true) else ((laws_either.f kj22 t295 t306).bind fun t309 => (some (t308 == t309))))))) = some r := H
                    have A45 := Aside0.mk A450
                    clear A450
                    replace H := Option.bind_eq_some_iff.mp H
                    obtain ⟨t307, A460, H⟩ := H
                    replace H : ((impl_GivenUp.f kj22 t290 t291 t307).bind fun t308 => (if t308 = t295 then (some true) else (if t308 = t306 then (some true) else ((laws_either.f kj22 t295 t306).bind fun t309 => (some (t308 == t309)))))) = some r := H
                    have A46 := Aside0.mk A460
                    clear A460
                    replace H := Option.bind_eq_some_iff.mp H
                    obtain ⟨t308, A470, H⟩ := H
                    replace H : (if t308 = t295 then (some true) else (if t308 = t306 then (some true) else ((laws_either.f kj22 t295 t306).bind fun t309 => (some (t308 == t309))))) = some r := H
                    have A47 := Aside0.mk A470
                    clear A470
                    by_cases c48 : t308 = t295
                    · rw [if_pos c48] at H
                      have c48b0 : (t308 == t295) = true := beq_iff_eq.mpr c48
                      have c48b1 : (t308 != t295) = false := bne_eq_false_iff_eq.mpr c48
                      clear c48
                      obtain rfl := Option.some.inj H
                      go_wp2_with (first | ((with_reducible refine gate_callee (f := 28) rfl ?_); refine goesL_ (some 96) rfl rfl Try.func28 (by kernel_rfl) rfl #[.int .i64 t290, .slice Ao25 t291.length co25, .int .i64 (Int.tmod (wrap64 ((l1.length : Int) * 37)) (wrap64 (t299 + 1)))] rfl (by (try simp only [List.map_toArray, List.map_cons, List.map_nil]); first | done | rfl | (simp only [List.length_drop, List.length_take]; rfl)) ?_; (with_reducible refine (impl_GivenUp.calls kj22 t290 _ _ t291 (Int.tmod (wrap64 ((l1.length : Int) * 37)) (wrap64 (t299 + 1))) t306 _ ?side1 ?side2 A45.out).mono ?_); (case side1 => repeat (first | exact (Kd.R_reads' HO_6.out).2.2 | (with_reducible refine Kd.C_alloc ?_ _) | (with_reducible refine Kd.C_drewN ?_ _) | (with_reducible refine Kd.C_drew ?_))); (case side2 => exact (Kd.R_reads' HO_6.out).2.1); rintro e w49 ⟨rfl, hb⟩; refine ⟨_, rfl, ?_⟩; have n0_ := Aside0.mk (Kd.R_below (by (with_reducible repeat (first | apply Kd.R_alloc | apply Kd.R_drewN | apply Kd.R_drew)); exact HO_6.out) hb); have n1_ := Aside0.mk (below_step (by repeat (first | (with_reducible first | exact HB.out | apply below_alloc | apply pw_below_drewN | apply below_drew1) | exact HB.out)) hb); clear HO_6; clear HB; have HO_6 := n0_; have HB := n1_; clear n0_ n1_; (try clear hb); (try clear hb2); (try clear hk); (try clear hi)) | ((with_reducible refine gate_callee (f := 24) rfl ?_); refine goesL_ (some 101) rfl rfl Try.func24 (by kernel_rfl) rfl #[.int .i64 t292, .int .i64 (Int.tmod (wrap64 ((l1.length : Int) * 37)) (wrap64 (t299 + 1)))] rfl (by (try simp only [List.map_toArray, List.map_cons, List.map_nil]); first | done | rfl | (simp only [List.length_drop, List.length_take]; rfl)) ?_; (with_reducible refine (laws_both.calls kj22 t292 (Int.tmod (wrap64 ((l1.length : Int) * 37)) (wrap64 (t299 + 1))) t307 _ A46.out).mono ?_); rintro e w' ⟨rfl, ⟨nd, rfl⟩⟩; refine ⟨_, rfl, ?_⟩) | ((with_reducible refine gate_callee (f := 28) rfl ?_); refine goesL_ (some 102) rfl rfl Try.func28 (by kernel_rfl) rfl #[.int .i64 t290, .slice Ao25 t291.length co25, .int .i64 t307] rfl (by (try simp only [List.map_toArray, List.map_cons, List.map_nil]); first | done | rfl | (simp only [List.length_drop, List.length_take]; rfl)) ?_; (with_reducible refine (impl_GivenUp.calls kj22 t290 _ _ t291 t307 t308 _ ?side1 ?side2 A47.out).mono ?_); (case side1 => repeat (first | exact (Kd.R_reads' HO_6.out).2.2 | (with_reducible refine Kd.C_alloc ?_ _) | (with_reducible refine Kd.C_drewN ?_ _) | (with_reducible refine Kd.C_drew ?_))); (case side2 => exact (Kd.R_reads' HO_6.out).2.1); rintro e w50 ⟨rfl, hb⟩; refine ⟨_, rfl, ?_⟩; have n0_ := Aside0.mk (Kd.R_below (by (with_reducible repeat (first | apply Kd.R_alloc | apply Kd.R_drewN | apply Kd.R_drew)); exact HO_6.out) hb); have n1_ := Aside0.mk (below_step (by repeat (first | (with_reducible first | exact HB.out | apply below_alloc | apply pw_below_drewN | apply below_drew1) | exact HB.out)) hb); clear HO_6; clear HB; have HO_6 := n0_; have HB := n1_; clear n0_ n1_; (try clear hb); (try clear hb2); (try clear hk); (try clear hi)))
                      go_ret
                      exact ⟨by first | rfl | (simp [errW_none, errW_some] <;> rfl) | (simp [*, errW_none, errW_some] <;> rfl), by repeat (first | (with_reducible first | exact HB.out | apply below_alloc | apply pw_below_drewN | apply below_drew1) | exact HB.out)⟩
                    · rw [if_neg c48] at H
                      have c48b0 : (t308 == t295) = false := beq_eq_false_iff_ne.mpr c48
                      have c48b1 : (t308 != t295) = true := bne_iff_ne.mpr c48
                      by_cases c51 : t308 = t306
                      · rw [if_pos c51] at H
                        have c51b0 : (t308 == t306) = true := beq_iff_eq.mpr c51
                        have c51b1 : (t308 != t306) = false := bne_eq_false_iff_eq.mpr c51
                        clear c51
                        obtain rfl := Option.some.inj H
                        go_wp2_with (first | ((with_reducible refine gate_callee (f := 28) rfl ?_); refine goesL_ (some 96) rfl rfl Try.func28 (by kernel_rfl) rfl #[.int .i64 t290, .slice Ao25 t291.length co25, .int .i64 (Int.tmod (wrap64 ((l1.length : Int) * 37)) (wrap64 (t299 + 1)))] rfl (by (try simp only [List.map_toArray, List.map_cons, List.map_nil]); first | done | rfl | (simp only [List.length_drop, List.length_take]; rfl)) ?_; (with_reducible refine (impl_GivenUp.calls kj22 t290 _ _ t291 (Int.tmod (wrap64 ((l1.length : Int) * 37)) (wrap64 (t299 + 1))) t306 _ ?side1 ?side2 A45.out).mono ?_); (case side1 => repeat (first | exact (Kd.R_reads' HO_6.out).2.2 | (with_reducible refine Kd.C_alloc ?_ _) | (with_reducible refine Kd.C_drewN ?_ _) | (with_reducible refine Kd.C_drew ?_))); (case side2 => exact (Kd.R_reads' HO_6.out).2.1); rintro e w52 ⟨rfl, hb⟩; refine ⟨_, rfl, ?_⟩; have n0_ := Aside0.mk (Kd.R_below (by (with_reducible repeat (first | apply Kd.R_alloc | apply Kd.R_drewN | apply Kd.R_drew)); exact HO_6.out) hb); have n1_ := Aside0.mk (below_step (by repeat (first | (with_reducible first | exact HB.out | apply below_alloc | apply pw_below_drewN | apply below_drew1) | exact HB.out)) hb); clear HO_6; clear HB; have HO_6 := n0_; have HB := n1_; clear n0_ n1_; (try clear hb); (try clear hb2); (try clear hk); (try clear hi)) | ((with_reducible refine gate_callee (f := 24) rfl ?_); refine goesL_ (some 101) rfl rfl Try.func24 (by kernel_rfl) rfl #[.int .i64 t292, .int .i64 (Int.tmod (wrap64 ((l1.length : Int) * 37)) (wrap64 (t299 + 1)))] rfl (by (try simp only [List.map_toArray, List.map_cons, List.map_nil]); first | done | rfl | (simp only [List.length_drop, List.length_take]; rfl)) ?_; (with_reducible refine (laws_both.calls kj22 t292 (Int.tmod (wrap64 ((l1.length : Int) * 37)) (wrap64 (t299 + 1))) t307 _ A46.out).mono ?_); rintro e w' ⟨rfl, ⟨nd, rfl⟩⟩; refine ⟨_, rfl, ?_⟩) | ((with_reducible refine gate_callee (f := 28) rfl ?_); refine goesL_ (some 102) rfl rfl Try.func28 (by kernel_rfl) rfl #[.int .i64 t290, .slice Ao25 t291.length co25, .int .i64 t307] rfl (by (try simp only [List.map_toArray, List.map_cons, List.map_nil]); first | done | rfl | (simp only [List.length_drop, List.length_take]; rfl)) ?_; (with_reducible refine (impl_GivenUp.calls kj22 t290 _ _ t291 t307 t308 _ ?side1 ?side2 A47.out).mono ?_); (case side1 => repeat (first | exact (Kd.R_reads' HO_6.out).2.2 | (with_reducible refine Kd.C_alloc ?_ _) | (with_reducible refine Kd.C_drewN ?_ _) | (with_reducible refine Kd.C_drew ?_))); (case side2 => exact (Kd.R_reads' HO_6.out).2.1); rintro e w53 ⟨rfl, hb⟩; refine ⟨_, rfl, ?_⟩; have n0_ := Aside0.mk (Kd.R_below (by (with_reducible repeat (first | apply Kd.R_alloc | apply Kd.R_drewN | apply Kd.R_drew)); exact HO_6.out) hb); have n1_ := Aside0.mk (below_step (by repeat (first | (with_reducible first | exact HB.out | apply below_alloc | apply pw_below_drewN | apply below_drew1) | exact HB.out)) hb); clear HO_6; clear HB; have HO_6 := n0_; have HB := n1_; clear n0_ n1_; (try clear hb); (try clear hb2); (try clear hk); (try clear hi)))
                        go_ret
                        exact ⟨by first | rfl | (simp [errW_none, errW_some] <;> rfl) | (simp [*, errW_none, errW_some] <;> rfl), by repeat (first | (with_reducible first | exact HB.out | apply below_alloc | apply pw_below_drewN | apply below_drew1) | exact HB.out)⟩
                      · rw [if_neg c51] at H
                        have c51b0 : (t308 == t306) = false := beq_eq_false_iff_ne.mpr c51
                        have c51b1 : (t308 != t306) = true := bne_iff_ne.mpr c51
                        replace H := Option.bind_eq_some_iff.mp H
                        obtain ⟨t309, A540, H⟩ := H
                        replace H : (some (t308 == t309)) = some r := H
                        have A54 := Aside0.mk A540
                        clear A540
                        obtain rfl := Option.some.inj H
                        go_wp2_with (first | ((with_reducible refine gate_callee (f := 28) rfl ?_); refine goesL_ (some 96) rfl rfl Try.func28 (by kernel_rfl) rfl #[.int .i64 t290, .slice Ao25 t291.length co25, .int .i64 (Int.tmod (wrap64 ((l1.length : Int) * 37)) (wrap64 (t299 + 1)))] rfl (by (try simp only [List.map_toArray, List.map_cons, List.map_nil]); first | done | rfl | (simp only [List.length_drop, List.length_take]; rfl)) ?_; (with_reducible refine (impl_GivenUp.calls kj22 t290 _ _ t291 (Int.tmod (wrap64 ((l1.length : Int) * 37)) (wrap64 (t299 + 1))) t306 _ ?side1 ?side2 A45.out).mono ?_); (case side1 => repeat (first | exact (Kd.R_reads' HO_6.out).2.2 | (with_reducible refine Kd.C_alloc ?_ _) | (with_reducible refine Kd.C_drewN ?_ _) | (with_reducible refine Kd.C_drew ?_))); (case side2 => exact (Kd.R_reads' HO_6.out).2.1); rintro e w55 ⟨rfl, hb⟩; refine ⟨_, rfl, ?_⟩; have n0_ := Aside0.mk (Kd.R_below (by (with_reducible repeat (first | apply Kd.R_alloc | apply Kd.R_drewN | apply Kd.R_drew)); exact HO_6.out) hb); have n1_ := Aside0.mk (below_step (by repeat (first | (with_reducible first | exact HB.out | apply below_alloc | apply pw_below_drewN | apply below_drew1) | exact HB.out)) hb); clear HO_6; clear HB; have HO_6 := n0_; have HB := n1_; clear n0_ n1_; (try clear hb); (try clear hb2); (try clear hk); (try clear hi)) | ((with_reducible refine gate_callee (f := 24) rfl ?_); refine goesL_ (some 101) rfl rfl Try.func24 (by kernel_rfl) rfl #[.int .i64 t292, .int .i64 (Int.tmod (wrap64 ((l1.length : Int) * 37)) (wrap64 (t299 + 1)))] rfl (by (try simp only [List.map_toArray, List.map_cons, List.map_nil]); first | done | rfl | (simp only [List.length_drop, List.length_take]; rfl)) ?_; (with_reducible refine (laws_both.calls kj22 t292 (Int.tmod (wrap64 ((l1.length : Int) * 37)) (wrap64 (t299 + 1))) t307 _ A46.out).mono ?_); rintro e w' ⟨rfl, ⟨nd, rfl⟩⟩; refine ⟨_, rfl, ?_⟩) | ((with_reducible refine gate_callee (f := 28) rfl ?_); refine goesL_ (some 102) rfl rfl Try.func28 (by kernel_rfl) rfl #[.int .i64 t290, .slice Ao25 t291.length co25, .int .i64 t307] rfl (by (try simp only [List.map_toArray, List.map_cons, List.map_nil]); first | done | rfl | (simp only [List.length_drop, List.length_take]; rfl)) ?_; (with_reducible refine (impl_GivenUp.calls kj22 t290 _ _ t291 t307 t308 _ ?side1 ?side2 A47.out).mono ?_); (case side1 => repeat (first | exact (Kd.R_reads' HO_6.out).2.2 | (with_reducible refine Kd.C_alloc ?_ _) | (with_reducible refine Kd.C_drewN ?_ _) | (with_reducible refine Kd.C_drew ?_))); (case side2 => exact (Kd.R_reads' HO_6.out).2.1); rintro e w56 ⟨rfl, hb⟩; refine ⟨_, rfl, ?_⟩; have n0_ := Aside0.mk (Kd.R_below (by (with_reducible repeat (first | apply Kd.R_alloc | apply Kd.R_drewN | apply Kd.R_drew)); exact HO_6.out) hb); have n1_ := Aside0.mk (below_step (by repeat (first | (with_reducible first | exact HB.out | apply below_alloc | apply pw_below_drewN | apply below_drew1) | exact HB.out)) hb); clear HO_6; clear HB; have HO_6 := n0_; have HB := n1_; clear n0_ n1_; (try clear hb); (try clear hb2); (try clear hk); (try clear hi)) | (go_at_call 30; (with_reducible refine (laws_either.calls kj22 t295 t306 t309 _ A54.out).mono ?_); rintro e w' ⟨rfl, ⟨nd, rfl⟩⟩))
                        go_ret
                        exact ⟨by first | rfl | (simp [errW_none, errW_some] <;> rfl) | (simp [*, errW_none, errW_some] <;> rfl), by repeat (first | (with_reducible first | exact HB.out | apply below_alloc | apply pw_below_drewN | apply below_drew1) | exact HB.out)⟩
        · rw [if_neg c9] at H
          have c9b0 : (t295 == t296) = false := beq_eq_false_iff_ne.mpr c9
          have c9b1 : (t295 != t296) = true := bne_iff_ne.mpr c9
          obtain rfl := Option.some.inj H
          go_wp2_with (first | ((with_reducible refine gate_callee (f := 27) rfl ?_); refine goesL_ (some 24) rfl rfl Try.func27 (by kernel_rfl) rfl #[.slice A0 l0.length c0] rfl (by (try simp only [List.map_toArray, List.map_cons, List.map_nil]); first | done | rfl | (simp only [List.length_drop, List.length_take]; rfl)) ?_; (with_reducible refine (spec_DrawGivenUp.calls kj2 _ _ l0 t290 t291 t292 _ ?side1 ?side2 A6.out).mono ?_); (case side1 => repeat (first | exact (Kd.C_below HR0.out HB.out) | (with_reducible refine Kd.C_alloc ?_ _) | (with_reducible refine Kd.C_drewN ?_ _) | (with_reducible refine Kd.C_drew ?_))); (case side2 => exact HC0.out); rintro e w57 ⟨v293, rfl, ho0, hb⟩; refine ⟨_, rfl, ?_⟩; have n0_ := Aside0.mk (Kd.R_lower ho0 (below_size (by repeat (first | (with_reducible first | exact HB.out | apply below_alloc | apply pw_below_drewN | apply below_drew1) | exact HB.out)))); have n1_ := Aside0.mk (below_step (by repeat (first | (with_reducible first | exact HB.out | apply below_alloc | apply pw_below_drewN | apply below_drew1) | exact HB.out)) hb); clear HB; have HO294 := n0_; have HB := n1_; clear n0_ n1_; (try clear hb); (try clear hb2); (try clear hk); (try clear hi); (try clear ho0); obtain ⟨Ao58, co58, eo58⟩ := Kd.R_slice HO294.out; subst eo58) | ((with_reducible refine gate_callee (f := 28) rfl ?_); refine goesL_ (some 31) rfl rfl Try.func28 (by kernel_rfl) rfl #[.int .i64 t290, .slice Ao58 t291.length co58, .int .i64 t292] rfl (by (try simp only [List.map_toArray, List.map_cons, List.map_nil]); first | done | rfl | (simp only [List.length_drop, List.length_take]; rfl)) ?_; (with_reducible refine (impl_GivenUp.calls kj2 t290 _ _ t291 t292 t295 _ ?side1 ?side2 A7.out).mono ?_); (case side1 => repeat (first | exact (Kd.R_reads' HO294.out).2.2 | (with_reducible refine Kd.C_alloc ?_ _) | (with_reducible refine Kd.C_drewN ?_ _) | (with_reducible refine Kd.C_drew ?_))); (case side2 => exact (Kd.R_reads' HO294.out).2.1); rintro e w59 ⟨rfl, hb⟩; refine ⟨_, rfl, ?_⟩; have n0_ := Aside0.mk (Kd.R_below (by (with_reducible repeat (first | apply Kd.R_alloc | apply Kd.R_drewN | apply Kd.R_drew)); exact HO294.out) hb); have n1_ := Aside0.mk (below_step (by repeat (first | (with_reducible first | exact HB.out | apply below_alloc | apply pw_below_drewN | apply below_drew1) | exact HB.out)) hb); clear HO294; clear HB; have HO294 := n0_; have HB := n1_; clear n0_ n1_; (try clear hb); (try clear hb2); (try clear hk); (try clear hi)) | ((with_reducible refine gate_callee (f := 29) rfl ?_); refine goesL_ (some 36) rfl rfl Try.func29 (by kernel_rfl) rfl #[.int .i64 t290, .slice Ao58 t291.length co58, .int .i64 t292] rfl (by (try simp only [List.map_toArray, List.map_cons, List.map_nil]); first | done | rfl | (simp only [List.length_drop, List.length_take]; rfl)) ?_; (with_reducible refine (spec_GivenUp.calls kj2 t290 _ _ t291 t292 t296 _ ?side1 ?side2 A8.out).mono ?_); (case side1 => repeat (first | exact (Kd.R_reads' HO294.out).2.2 | (with_reducible refine Kd.C_alloc ?_ _) | (with_reducible refine Kd.C_drewN ?_ _) | (with_reducible refine Kd.C_drew ?_))); (case side2 => exact (Kd.R_reads' HO294.out).2.1); rintro e w60 ⟨rfl, hb⟩; refine ⟨_, rfl, ?_⟩; have n0_ := Aside0.mk (Kd.R_below (by (with_reducible repeat (first | apply Kd.R_alloc | apply Kd.R_drewN | apply Kd.R_drew)); exact HO294.out) hb); have n1_ := Aside0.mk (below_step (by repeat (first | (with_reducible first | exact HB.out | apply below_alloc | apply pw_below_drewN | apply below_drew1) | exact HB.out)) hb); clear HO294; clear HB; have HO294 := n0_; have HB := n1_; clear n0_ n1_; (try clear hb); (try clear hb2); (try clear hk); (try clear hi)))
          go_ret
          exact ⟨by first | rfl | (simp [errW_none, errW_some] <;> rfl) | (simp [*, errW_none, errW_some] <;> rfl), by repeat (first | (with_reducible first | exact HB.out | apply below_alloc | apply pw_below_drewN | apply below_drew1) | exact HB.out)⟩

/-- THE ONE PURE STATEMENT of laws_FnGivenUp: yours. -/
def laws_FnGivenUp.Pure : Prop := ∀ (l0 : List Int) (l1 : List Int), l0.length ≤ maxLen → l0.length * 1 ≤ 140737488351232 → (∀ x ∈ l0, (Lit.int .u8 x).wf = true) → l1.length ≤ maxLen → l1.length * 1 ≤ 140737488351232 → (∀ x ∈ l1, (Lit.int .u8 x).wf = true) → ∃ k, laws_FnGivenUp.f k l0 l1 = some true
theorem laws_FnGivenUp.walk (P : laws_FnGivenUp.Pure) (a0 : Option Addr) (len0 cap0 : Nat) (z0 : List Int) (a1 : Option Addr) (len1 cap1 : Nat) (z1 : List Int) (w : World) (w0 : (a0 = none ∧ len0 = 0 ∧ cap0 = 0 ∧ z0 = []) ∨ ∃ x, a0 = some x ∧ len0 ≤ cap0 ∧ cap0 ≤ maxLen ∧ z0.length = cap0 ∧ (∀ i, i < z0.length → w.cell? (x.add i) = some (.int .u8 (z0.getD i 0))) ∧ ∀ n ∈ z0, (Lit.int .u8 n).wf = true) (y0 : len0 * 1 ≤ 140737488351232) (w1 : (a1 = none ∧ len1 = 0 ∧ cap1 = 0 ∧ z1 = []) ∨ ∃ x, a1 = some x ∧ len1 ≤ cap1 ∧ cap1 ≤ maxLen ∧ z1.length = cap1 ∧ (∀ i, i < z1.length → w.cell? (x.add i) = some (.int .u8 (z1.getD i 0))) ∧ ∀ n ∈ z1, (Lit.int .u8 n).wf = true) (y1 : len1 * 1 ≤ 140737488351232) :
    Calls Try.prog 6 #[.slice a0 len0 cap0, .slice a1 len1 cap1] w fun e w' => e = .returned (.bool true) ∧ Below w.heap.size w w' := by
  obtain ⟨l0, rfl, hr0, hm0, hw0, hc0⟩ := ReadsInt.ofRowC w0
  obtain ⟨l1, rfl, hr1, hm1, hw1, hc1⟩ := ReadsInt.ofRowC w1
  obtain ⟨k, h⟩ := P l0 l1 hm0 y0 hw0 hm1 y1 hw1
  refine (laws_FnGivenUp.calls k _ _ l0 _ _ l1 true w (Kd.C_of_reads (d := (0 : Int)) (h1 := fun _ => rfl) hr0) hc0 (Kd.C_of_reads (d := (0 : Int)) (h1 := fun _ => rfl) hr1) hc1 h).mono ?_
  rintro e w' ⟨rfl, hd⟩
  exact ⟨rfl, hd⟩

end Go.Proofs.Ythgddbnmieodkaa.P

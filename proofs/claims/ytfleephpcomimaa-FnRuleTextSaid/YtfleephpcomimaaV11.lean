/- Contracts of functions of the program: whatever a function's pure reading answers, the call returns. Printed by a program of this session (the kit's print, with contracts by hand beside it). Conditions: those of each theorem. -/
import Derived.Test.YtfleephpcomimaaV0
import Derived.Test.YtfleephpcomimaaV5
namespace Go.Proofs.Ytfleephpcomimaa.V
open Go.Proofs.BelM
open Go.RowKit Go.Proofs.YtfleephpcomimaaW.PrintWords Go.Proofs.YtfleephpcomimaaW.PrintLast Go.Proofs.YtfleephpcomimaaW.PrintMore
attribute [local go_sem] max2_int min2_int max_two min_two max_three min_three max_four min_four   -- for this text's walks alone
set_option linter.unusedVariables false
set_option linter.unusedSimpArgs false

/-! ### impl_isSet: function 54 -/
def impl_isSet.f (a0 : Int) (a1 : Int) : Option (Bool) := (impl_areThings.f a0).bind fun t170 => (if t170 = true then (if a1 ≥ 0 then ((impl_allWorlds.f a0).bind fun t171 => (some (decide (a1 ≤ t171)))) else (some false)) else (some false))
set_option maxHeartbeats 8000000 in
set_option maxRecDepth 100000 in
theorem impl_isSet.calls (a0 : Int) (a1 : Int) (r : Bool) (w : World) (h : impl_isSet.f a0 a1 = some r) :
    Calls Try.prog 54 #[.int .i64 a0, .int .i64 a1] w fun e w' => e = .returned (.bool r) ∧ Drawn0 w w' := by
  have H : ((impl_areThings.f a0).bind fun t170 => (if t170 = true then (if a1 ≥ 0 then ((impl_allWorlds.f a0).bind fun t171 => (some (decide (a1 ≤ t171)))) else (some false)) else (some false))) = some r := h
  clear h
  replace H := Option.bind_eq_some_iff.mp H
  obtain ⟨t170, A30, H⟩ := H
  replace H : (if t170 = true then (if a1 ≥ 0 then ((impl_allWorlds.f a0).bind fun t171 => (some (decide (a1 ≤ t171)))) else (some false)) else (some false)) = some r := H
  have A3 := Aside0.mk A30
  clear A30
  by_cases c4 : t170 = true
  · subst c4
    have H1 : (if a1 ≥ 0 then ((impl_allWorlds.f a0).bind fun t171 => (some (decide (a1 ≤ t171)))) else (some false)) = some r := by rw [if_pos rfl] at H; exact H
    clear H
    have H := H1
    clear H1
    by_cases c5 : a1 ≥ 0
    · rw [if_pos c5] at H
      have c5b0 : decide (0 ≤ a1) = true := decide_eq_true c5
      clear c5
      replace H := Option.bind_eq_some_iff.mp H
      obtain ⟨t171, A60, H⟩ := H
      replace H : (some (decide (a1 ≤ t171))) = some r := H
      have A6 := Aside0.mk A60
      clear A60
      obtain rfl := Option.some.inj H
      go_enter Try.func54, Try.ntmps54
      go_wp2_with (first | ((with_reducible refine gate_callee (f := 83) rfl ?_); refine goesL_ (some 6) rfl rfl Try.func83 (by kernel_rfl) rfl #[.int .i64 a0] rfl (by (try simp only [List.map_toArray, List.map_cons, List.map_nil]); first | done | rfl | (simp only [List.length_drop, List.length_take]; rfl)) ?_; (with_reducible refine (impl_areThings.calls a0 true _ A3.out).mono ?_); rintro e w' ⟨rfl, ⟨nd, rfl⟩⟩; refine ⟨_, rfl, ?_⟩) | (go_at_call 70; (with_reducible refine (impl_allWorlds.calls a0 t171 _ A6.out).mono ?_); rintro e w' ⟨rfl, ⟨nd, rfl⟩⟩))
      go_ret
      exact ⟨by first | rfl | (simp; done) | (simp [*]; done), by repeat (first | exact Drawn0.refl _ | apply Drawn0.step)⟩
    · rw [if_neg c5] at H
      have c5b0 : decide (0 ≤ a1) = false := decide_eq_false c5
      clear c5
      obtain rfl := Option.some.inj H
      go_enter Try.func54, Try.ntmps54
      go_wp2_with (first | ((with_reducible refine gate_callee (f := 83) rfl ?_); refine goesL_ (some 6) rfl rfl Try.func83 (by kernel_rfl) rfl #[.int .i64 a0] rfl (by (try simp only [List.map_toArray, List.map_cons, List.map_nil]); first | done | rfl | (simp only [List.length_drop, List.length_take]; rfl)) ?_; (with_reducible refine (impl_areThings.calls a0 true _ A3.out).mono ?_); rintro e w' ⟨rfl, ⟨nd, rfl⟩⟩; refine ⟨_, rfl, ?_⟩))
      go_ret
      exact ⟨by first | rfl | (simp; done) | (simp [*]; done), by repeat (first | exact Drawn0.refl _ | apply Drawn0.step)⟩
  · replace c4 := Bool.eq_false_iff.mpr c4
    subst c4
    have H1 : (some false) = some r := by rw [if_neg (show ¬ (false = true) by decide)] at H; exact H
    clear H
    have H := H1
    clear H1
    obtain rfl := Option.some.inj H
    go_enter Try.func54, Try.ntmps54
    go_wp2_with (first | ((with_reducible refine gate_callee (f := 83) rfl ?_); refine goesL_ (some 6) rfl rfl Try.func83 (by kernel_rfl) rfl #[.int .i64 a0] rfl (by (try simp only [List.map_toArray, List.map_cons, List.map_nil]); first | done | rfl | (simp only [List.length_drop, List.length_take]; rfl)) ?_; (with_reducible refine (impl_areThings.calls a0 false _ A3.out).mono ?_); rintro e w' ⟨rfl, ⟨nd, rfl⟩⟩; refine ⟨_, rfl, ?_⟩))
    go_ret
    exact ⟨by first | rfl | (simp; done) | (simp [*]; done), by repeat (first | exact Drawn0.refl _ | apply Drawn0.step)⟩

/-! ### impl_isRule: function 77 -/
def impl_isRule.f (a0 : Int) (a1_0 : Int) (a1_1 : Int) : Option (Bool) := (impl_isSet.f a0 a1_0).bind fun t173 => (if t173 = true then ((impl_isSet.f a0 a1_1).bind fun t174 => (if t174 = true then (some (a1_0 != 0)) else (some false))) else (some false))
set_option maxHeartbeats 8000000 in
set_option maxRecDepth 100000 in
theorem impl_isRule.calls (a0 : Int) (a1_0 : Int) (a1_1 : Int) (r : Bool) (w : World) (h : impl_isRule.f a0 a1_0 a1_1 = some r) :
    Calls Try.prog 77 #[.int .i64 a0, .agg #[.int .i64 a1_0, .int .i64 a1_1]] w fun e w' => e = .returned (.bool r) ∧ Below w.heap.size w w' := by
  have hu51 := Try.underlying51
  have HB := Aside0.mk (Below.refl w.heap.size w)
  have H : ((impl_isSet.f a0 a1_0).bind fun t173 => (if t173 = true then ((impl_isSet.f a0 a1_1).bind fun t174 => (if t174 = true then (some (a1_0 != 0)) else (some false))) else (some false))) = some r := h
  clear h
  replace H := Option.bind_eq_some_iff.mp H
  obtain ⟨t173, A30, H⟩ := H
  replace H : (if t173 = true then ((impl_isSet.f a0 a1_1).bind fun t174 => (if t174 = true then (some (a1_0 != 0)) else (some false))) else (some false)) = some r := H
  have A3 := Aside0.mk A30
  clear A30
  by_cases c4 : t173 = true
  · subst c4
    have H1 : ((impl_isSet.f a0 a1_1).bind fun t174 => (if t174 = true then (some (a1_0 != 0)) else (some false))) = some r := by rw [if_pos rfl] at H; exact H
    clear H
    have H := H1
    clear H1
    replace H := Option.bind_eq_some_iff.mp H
    obtain ⟨t174, A50, H⟩ := H
    replace H : (if t174 = true then (some (a1_0 != 0)) else (some false)) = some r := H
    have A5 := Aside0.mk A50
    clear A50
    by_cases c6 : t174 = true
    · subst c6
      have H1 : (some (a1_0 != 0)) = some r := by rw [if_pos rfl] at H; exact H
      clear H
      have H := H1
      clear H1
      obtain rfl := Option.some.inj H
      go_enter Try.func77, Try.ntmps77
      go_wp2_with (first | ((with_reducible refine gate_dst (N := 3) rfl ?_); refine box_event ?hg (N := 3) ?hd (cs := #[.int .i64 a1_0, .int .i64 a1_1]) (t := 51) ?hr ?_; (case hd => rfl); (case hg => rfl); (case hr => first | (go_simp; done) | (go_simp; rfl)); intro gb172 hg w7 hbox hb; have n0_ := Aside0.mk (below_step (by repeat (first | (with_reducible first | exact HB.out | apply below_alloc | apply pw_below_drewN | apply below_drew1) | exact HB.out)) hb); have n1_ := Aside0.mk (hbox); have n2_ := Aside0.mk ((by rw [hg]; exact (below_size (by repeat (first | (with_reducible first | exact HB.out | apply below_alloc | apply pw_below_drewN | apply below_drew1) | exact HB.out))) : w.heap.size ≤ gb172)); have n3_ := Aside0.mk ((by rw [hg]; exact (below_size (by repeat (first | (with_reducible first | exact HB.out | apply below_alloc | apply pw_below_drewN | apply below_drew1) | exact HB.out))) : w.heap.size ≤ gb172)); clear HB; have HB := n0_; have BK172 := n1_; have GW172 := n2_; have GE172 := n3_; clear n0_ n1_ n2_ n3_; clear hb hbox hg; have hcz8_0 : w7.cell? ⟨gb172, 0, none⟩ = some (.int .i64 a1_0) := (blk_cell BK172.out 0).trans rfl; have hcz8_1 : w7.cell? ⟨gb172, 1, none⟩ = some (.int .i64 a1_1) := (blk_cell BK172.out 1).trans rfl; have hfz8_0 := blk_frozen BK172.out 0; have hfz8_1 := blk_frozen BK172.out 1) | ((with_reducible refine gate_callee (f := 54) rfl ?_); refine goesL_ (some 8) rfl rfl Try.func54 (by kernel_rfl) rfl #[.int .i64 a0, .int .i64 a1_0] rfl (by (try simp only [List.map_toArray, List.map_cons, List.map_nil]); first | done | rfl | (simp only [List.length_drop, List.length_take]; rfl)) ?_; (with_reducible refine (impl_isSet.calls a0 a1_0 true _ A3.out).mono ?_); rintro e w' ⟨rfl, ⟨nd, rfl⟩⟩; refine ⟨_, rfl, ?_⟩) | (go_at_call 54; (with_reducible refine (impl_isSet.calls a0 a1_1 true _ A5.out).mono ?_); rintro e w' ⟨rfl, ⟨nd, rfl⟩⟩))
      go_ret
      exact ⟨by first | rfl | (simp [errW_none, errW_some] <;> rfl) | (simp [*, errW_none, errW_some] <;> rfl), by repeat (first | (with_reducible first | exact HB.out | apply below_alloc | apply pw_below_drewN | apply below_drew1 | refine below_set ?_ GE172.out) | exact HB.out)⟩
    · replace c6 := Bool.eq_false_iff.mpr c6
      subst c6
      have H1 : (some false) = some r := by rw [if_neg (show ¬ (false = true) by decide)] at H; exact H
      clear H
      have H := H1
      clear H1
      obtain rfl := Option.some.inj H
      go_enter Try.func77, Try.ntmps77
      go_wp2_with (first | ((with_reducible refine gate_dst (N := 3) rfl ?_); refine box_event ?hg (N := 3) ?hd (cs := #[.int .i64 a1_0, .int .i64 a1_1]) (t := 51) ?hr ?_; (case hd => rfl); (case hg => rfl); (case hr => first | (go_simp; done) | (go_simp; rfl)); intro gb172 hg w9 hbox hb; have n0_ := Aside0.mk (below_step (by repeat (first | (with_reducible first | exact HB.out | apply below_alloc | apply pw_below_drewN | apply below_drew1) | exact HB.out)) hb); have n1_ := Aside0.mk (hbox); have n2_ := Aside0.mk ((by rw [hg]; exact (below_size (by repeat (first | (with_reducible first | exact HB.out | apply below_alloc | apply pw_below_drewN | apply below_drew1) | exact HB.out))) : w.heap.size ≤ gb172)); have n3_ := Aside0.mk ((by rw [hg]; exact (below_size (by repeat (first | (with_reducible first | exact HB.out | apply below_alloc | apply pw_below_drewN | apply below_drew1) | exact HB.out))) : w.heap.size ≤ gb172)); clear HB; have HB := n0_; have BK172 := n1_; have GW172 := n2_; have GE172 := n3_; clear n0_ n1_ n2_ n3_; clear hb hbox hg; have hcz10_0 : w9.cell? ⟨gb172, 0, none⟩ = some (.int .i64 a1_0) := (blk_cell BK172.out 0).trans rfl; have hcz10_1 : w9.cell? ⟨gb172, 1, none⟩ = some (.int .i64 a1_1) := (blk_cell BK172.out 1).trans rfl; have hfz10_0 := blk_frozen BK172.out 0; have hfz10_1 := blk_frozen BK172.out 1) | ((with_reducible refine gate_callee (f := 54) rfl ?_); refine goesL_ (some 8) rfl rfl Try.func54 (by kernel_rfl) rfl #[.int .i64 a0, .int .i64 a1_0] rfl (by (try simp only [List.map_toArray, List.map_cons, List.map_nil]); first | done | rfl | (simp only [List.length_drop, List.length_take]; rfl)) ?_; (with_reducible refine (impl_isSet.calls a0 a1_0 true _ A3.out).mono ?_); rintro e w' ⟨rfl, ⟨nd, rfl⟩⟩; refine ⟨_, rfl, ?_⟩) | (go_at_call 54; (with_reducible refine (impl_isSet.calls a0 a1_1 false _ A5.out).mono ?_); rintro e w' ⟨rfl, ⟨nd, rfl⟩⟩))
      go_ret
      exact ⟨by first | rfl | (simp [errW_none, errW_some] <;> rfl) | (simp [*, errW_none, errW_some] <;> rfl), by repeat (first | (with_reducible first | exact HB.out | apply below_alloc | apply pw_below_drewN | apply below_drew1 | refine below_set ?_ GE172.out) | exact HB.out)⟩
  · replace c4 := Bool.eq_false_iff.mpr c4
    subst c4
    have H1 : (some false) = some r := by rw [if_neg (show ¬ (false = true) by decide)] at H; exact H
    clear H
    have H := H1
    clear H1
    obtain rfl := Option.some.inj H
    go_enter Try.func77, Try.ntmps77
    go_wp2_with (first | ((with_reducible refine gate_dst (N := 3) rfl ?_); refine box_event ?hg (N := 3) ?hd (cs := #[.int .i64 a1_0, .int .i64 a1_1]) (t := 51) ?hr ?_; (case hd => rfl); (case hg => rfl); (case hr => first | (go_simp; done) | (go_simp; rfl)); intro gb172 hg w11 hbox hb; have n0_ := Aside0.mk (below_step (by repeat (first | (with_reducible first | exact HB.out | apply below_alloc | apply pw_below_drewN | apply below_drew1) | exact HB.out)) hb); have n1_ := Aside0.mk (hbox); have n2_ := Aside0.mk ((by rw [hg]; exact (below_size (by repeat (first | (with_reducible first | exact HB.out | apply below_alloc | apply pw_below_drewN | apply below_drew1) | exact HB.out))) : w.heap.size ≤ gb172)); have n3_ := Aside0.mk ((by rw [hg]; exact (below_size (by repeat (first | (with_reducible first | exact HB.out | apply below_alloc | apply pw_below_drewN | apply below_drew1) | exact HB.out))) : w.heap.size ≤ gb172)); clear HB; have HB := n0_; have BK172 := n1_; have GW172 := n2_; have GE172 := n3_; clear n0_ n1_ n2_ n3_; clear hb hbox hg; have hcz12_0 : w11.cell? ⟨gb172, 0, none⟩ = some (.int .i64 a1_0) := (blk_cell BK172.out 0).trans rfl; have hcz12_1 : w11.cell? ⟨gb172, 1, none⟩ = some (.int .i64 a1_1) := (blk_cell BK172.out 1).trans rfl; have hfz12_0 := blk_frozen BK172.out 0; have hfz12_1 := blk_frozen BK172.out 1) | ((with_reducible refine gate_callee (f := 54) rfl ?_); refine goesL_ (some 8) rfl rfl Try.func54 (by kernel_rfl) rfl #[.int .i64 a0, .int .i64 a1_0] rfl (by (try simp only [List.map_toArray, List.map_cons, List.map_nil]); first | done | rfl | (simp only [List.length_drop, List.length_take]; rfl)) ?_; (with_reducible refine (impl_isSet.calls a0 a1_0 false _ A3.out).mono ?_); rintro e w' ⟨rfl, ⟨nd, rfl⟩⟩; refine ⟨_, rfl, ?_⟩))
    go_ret
    exact ⟨by first | rfl | (simp [errW_none, errW_some] <;> rfl) | (simp [*, errW_none, errW_some] <;> rfl), by repeat (first | (with_reducible first | exact HB.out | apply below_alloc | apply pw_below_drewN | apply below_drew1 | refine below_set ?_ GE172.out) | exact HB.out)⟩

/-! ### impl_worldText: function 96 -/
def impl_worldText.f : Nat → Int → Int → Int → Option (ByteArray)
  | 0, _, _, _ => none
  | k + 1, a0, a1, a2 => if 0 ≤ a2 then (if a2 ≤ (wrap64 (a2 + 1)) then (if (wrap64 (a2 + 1)) ≤ 3 then (if (Go.bits .and .i64 (shr .i64 a1 a2) 1) = 0 then (if 1 + ((⟨#[97, 98, 99]⟩ : ByteArray).extract (a2 : Int).toNat ((wrap64 (a2 + 1)) : Int).toNat).size ≤ 9223372036854775807 then (if a2 = (wrap64 (a0 - 1)) then (some ((⟨#[33]⟩ : ByteArray) ++ ((⟨#[97, 98, 99]⟩ : ByteArray).extract (a2 : Int).toNat ((wrap64 (a2 + 1)) : Int).toNat))) else (if 1 + ((⟨#[33]⟩ : ByteArray) ++ ((⟨#[97, 98, 99]⟩ : ByteArray).extract (a2 : Int).toNat ((wrap64 (a2 + 1)) : Int).toNat)).size ≤ 9223372036854775807 then (if ((⟨#[40]⟩ : ByteArray) ++ ((⟨#[33]⟩ : ByteArray) ++ ((⟨#[97, 98, 99]⟩ : ByteArray).extract (a2 : Int).toNat ((wrap64 (a2 + 1)) : Int).toNat))).size + 1 ≤ 9223372036854775807 then ((impl_worldText.f k a0 a1 (wrap64 (a2 + 1))).bind fun t175 => (if (((⟨#[40]⟩ : ByteArray) ++ ((⟨#[33]⟩ : ByteArray) ++ ((⟨#[97, 98, 99]⟩ : ByteArray).extract (a2 : Int).toNat ((wrap64 (a2 + 1)) : Int).toNat))) ++ (⟨#[38]⟩ : ByteArray)).size + t175.size ≤ 9223372036854775807 then (if ((((⟨#[40]⟩ : ByteArray) ++ ((⟨#[33]⟩ : ByteArray) ++ ((⟨#[97, 98, 99]⟩ : ByteArray).extract (a2 : Int).toNat ((wrap64 (a2 + 1)) : Int).toNat))) ++ (⟨#[38]⟩ : ByteArray)) ++ t175).size + 1 ≤ 9223372036854775807 then (some (((((⟨#[40]⟩ : ByteArray) ++ ((⟨#[33]⟩ : ByteArray) ++ ((⟨#[97, 98, 99]⟩ : ByteArray).extract (a2 : Int).toNat ((wrap64 (a2 + 1)) : Int).toNat))) ++ (⟨#[38]⟩ : ByteArray)) ++ t175) ++ (⟨#[41]⟩ : ByteArray))) else (none)) else (none))) else (none)) else (none))) else (none)) else (if a2 = (wrap64 (a0 - 1)) then (some ((⟨#[97, 98, 99]⟩ : ByteArray).extract (a2 : Int).toNat ((wrap64 (a2 + 1)) : Int).toNat)) else (if 1 + ((⟨#[97, 98, 99]⟩ : ByteArray).extract (a2 : Int).toNat ((wrap64 (a2 + 1)) : Int).toNat).size ≤ 9223372036854775807 then (if ((⟨#[40]⟩ : ByteArray) ++ ((⟨#[97, 98, 99]⟩ : ByteArray).extract (a2 : Int).toNat ((wrap64 (a2 + 1)) : Int).toNat)).size + 1 ≤ 9223372036854775807 then ((impl_worldText.f k a0 a1 (wrap64 (a2 + 1))).bind fun t176 => (if (((⟨#[40]⟩ : ByteArray) ++ ((⟨#[97, 98, 99]⟩ : ByteArray).extract (a2 : Int).toNat ((wrap64 (a2 + 1)) : Int).toNat)) ++ (⟨#[38]⟩ : ByteArray)).size + t176.size ≤ 9223372036854775807 then (if ((((⟨#[40]⟩ : ByteArray) ++ ((⟨#[97, 98, 99]⟩ : ByteArray).extract (a2 : Int).toNat ((wrap64 (a2 + 1)) : Int).toNat)) ++ (⟨#[38]⟩ : ByteArray)) ++ t176).size + 1 ≤ 9223372036854775807 then (some (((((⟨#[40]⟩ : ByteArray) ++ ((⟨#[97, 98, 99]⟩ : ByteArray).extract (a2 : Int).toNat ((wrap64 (a2 + 1)) : Int).toNat)) ++ (⟨#[38]⟩ : ByteArray)) ++ t176) ++ (⟨#[41]⟩ : ByteArray))) else (none)) else (none))) else (none)) else (none)))) else (none)) else (none)) else (none)
theorem impl_worldText.mono_l : ∀ k, (∀ y0 y1 y2, LeO (impl_worldText.f k y0 y1 y2) (impl_worldText.f (k + 1) y0 y1 y2))
  | 0 => fun _ _ _ r h => by simp [impl_worldText.f] at h
  | k + 1 => by
    have ih0 := impl_worldText.mono_l k
    · intro y0 y1 y2
      unfold impl_worldText.f
      repeat' first
      | (with_reducible exact ih0 _ _ _)
      | (with_reducible exact LeO.refl _)
      | (with_reducible exact LeO.none _)
      | (with_reducible refine LeO.ite ?_ ?_)
      | (with_reducible refine LeO.bind ?_ (fun _ => ?_))
      | exact ih0 _ _ _
      | exact LeO.none _
      | refine LeO.ite ?_ ?_
      | refine LeO.bind ?_ (fun _ => ?_)
theorem impl_worldText.mono : ∀ a0 a1 a2 k, LeO (impl_worldText.f k a0 a1 a2) (impl_worldText.f (k + 1) a0 a1 a2) := by
  intro a0 a1 a2 k
  have ih0 := impl_worldText.mono_l k
  exact ih0 a0 a1 a2
set_option maxHeartbeats 8000000 in
set_option maxRecDepth 100000 in
theorem impl_worldText.calls (k : Nat) : ∀ (a0 : Int) (a1 : Int) (a2 : Int) (r : ByteArray) (w : World) (h : impl_worldText.f k a0 a1 a2 = some r),
    Calls Try.prog 96 #[.int .i64 a0, .int .i64 a1, .int .i64 a2] w fun e w' => e = .returned (.string r) ∧ Drawn0 w w' := by
  induction k using Nat.strongRecOn with
  | _ k ih =>
  intro a0 a1 a2 r w h
  cases k with
  | zero => exact absurd h (by simp [impl_worldText.f])
  | succ k =>
  simp only [impl_worldText.f] at h
  have H : (if 0 ≤ a2 then (if a2 ≤ (wrap64 (a2 + 1)) then (if (wrap64 (a2 + 1)) ≤ 3 then (if (Go.bits .and .i64 (shr .i64 a1 a2) 1) = 0 then (if 1 + ((⟨#[97, 98, 99]⟩ : ByteArray).extract (a2 : Int).toNat ((wrap64 (a2 + 1)) : Int).toNat).size ≤ 9223372036854775807 then (if a2 = (wrap64 (a0 - 1)) then (some ((⟨#[33]⟩ : ByteArray) ++ ((⟨#[97, 98, 99]⟩ : ByteArray).extract (a2 : Int).toNat ((wrap64 (a2 + 1)) : Int).toNat))) else (if 1 + ((⟨#[33]⟩ : ByteArray) ++ ((⟨#[97, 98, 99]⟩ : ByteArray).extract (a2 : Int).toNat ((wrap64 (a2 + 1)) : Int).toNat)).size ≤ 9223372036854775807 then (if ((⟨#[40]⟩ : ByteArray) ++ ((⟨#[33]⟩ : ByteArray) ++ ((⟨#[97, 98, 99]⟩ : ByteArray).extract (a2 : Int).toNat ((wrap64 (a2 + 1)) : Int).toNat))).size + 1 ≤ 9223372036854775807 then ((impl_worldText.f k a0 a1 (wrap64 (a2 + 1))).bind fun t175 => (if (((⟨#[40]⟩ : ByteArray) ++ ((⟨#[33]⟩ : ByteArray) ++ ((⟨#[97, 98, 99]⟩ : ByteArray).extract (a2 : Int).toNat ((wrap64 (a2 + 1)) : Int).toNat))) ++ (⟨#[38]⟩ : ByteArray)).size + t175.size ≤ 9223372036854775807 then (if ((((⟨#[40]⟩ : ByteArray) ++ ((⟨#[33]⟩ : ByteArray) ++ ((⟨#[97, 98, 99]⟩ : ByteArray).extract (a2 : Int).toNat ((wrap64 (a2 + 1)) : Int).toNat))) ++ (⟨#[38]⟩ : ByteArray)) ++ t175).size + 1 ≤ 9223372036854775807 then (some (((((⟨#[40]⟩ : ByteArray) ++ ((⟨#[33]⟩ : ByteArray) ++ ((⟨#[97, 98, 99]⟩ : ByteArray).extract (a2 : Int).toNat ((wrap64 (a2 + 1)) : Int).toNat))) ++ (⟨#[38]⟩ : ByteArray)) ++ t175) ++ (⟨#[41]⟩ : ByteArray))) else (none)) else (none))) else (none)) else (none))) else (none)) else (if a2 = (wrap64 (a0 - 1)) then (some ((⟨#[97, 98, 99]⟩ : ByteArray).extract (a2 : Int).toNat ((wrap64 (a2 + 1)) : Int).toNat)) else (if 1 + ((⟨#[97, 98, 99]⟩ : ByteArray).extract (a2 : Int).toNat ((wrap64 (a2 + 1)) : Int).toNat).size ≤ 9223372036854775807 then (if ((⟨#[40]⟩ : ByteArray) ++ ((⟨#[97, 98, 99]⟩ : ByteArray).extract (a2 : Int).toNat ((wrap64 (a2 + 1)) : Int).toNat)).size + 1 ≤ 9223372036854775807 then ((impl_worldText.f k a0 a1 (wrap64 (a2 + 1))).bind fun t176 => (if (((⟨#[40]⟩ : ByteArray) ++ ((⟨#[97, 98, 99]⟩ : ByteArray).extract (a2 : Int).toNat ((wrap64 (a2 + 1)) : Int).toNat)) ++ (⟨#[38]⟩ : ByteArray)).size + t176.size ≤ 9223372036854775807 then (if ((((⟨#[40]⟩ : ByteArray) ++ ((⟨#[97, 98, 99]⟩ : ByteArray).extract (a2 : Int).toNat ((wrap64 (a2 + 1)) : Int).toNat)) ++ (⟨#[38]⟩ : ByteArray)) ++ t176).size + 1 ≤ 9223372036854775807 then (some (((((⟨#[40]⟩ : ByteArray) ++ ((⟨#[97, 98, 99]⟩ : ByteArray).extract (a2 : Int).toNat ((wrap64 (a2 + 1)) : Int).toNat)) ++ (⟨#[38]⟩ : ByteArray)) ++ t176) ++ (⟨#[41]⟩ : ByteArray))) else (none)) else (none))) else (none)) else (none)))) else (none)) else (none)) else (none)) = some r := h
  clear h
  by_cases c4 : 0 ≤ a2
  · rw [if_pos c4] at H
    have c4b0 := eq_true c4
    have c4b1 : decide (0 ≤ a2) = true := decide_eq_true c4
    clear c4
    by_cases c5 : a2 ≤ (wrap64 (a2 + 1))
    · rw [if_pos c5] at H
      have c5b0 := eq_true c5
      have c5b1 : decide (a2 ≤ (wrap64 (a2 + 1))) = true := decide_eq_true c5
      by_cases c6 : (wrap64 (a2 + 1)) ≤ 3
      · rw [if_pos c6] at H
        have c6b0 := eq_true c6
        have c6b1 : decide ((wrap64 (a2 + 1)) ≤ 3) = true := decide_eq_true c6
        have c7b0 := eq_true (of_decide_eq_true (by first | (with_reducible assumption) | assumption) : 0 ≤ a2)
        obtain ⟨ji8, hji8⟩ : ∃ j_ : Int, (shr .i64 a1 a2) = j_ := ⟨_, rfl⟩
        replace H : (if (Go.bits .and .i64 (ji8) 1) = 0 then (if 1 + ((⟨#[97, 98, 99]⟩ : ByteArray).extract (a2 : Int).toNat ((wrap64 (a2 + 1)) : Int).toNat).size ≤ 9223372036854775807 then (if a2 = (wrap64 (a0 - 1)) then (some ((⟨#[33]⟩ : ByteArray) ++ ((⟨#[97, 98, 99]⟩ : ByteArray).extract (a2 : Int).toNat ((wrap64 (a2 + 1)) : Int).toNat))) else (if 1 + ((⟨#[33]⟩ : ByteArray) ++ ((⟨#[97, 98, 99]⟩ : ByteArray).extract (a2 : Int).toNat ((wrap64 (a2 + 1)) : Int).toNat)).size ≤ 9223372036854775807 then (if ((⟨#[40]⟩ : ByteArray) ++ ((⟨#[33]⟩ : ByteArray) ++ ((⟨#[97, 98, 99]⟩ : ByteArray).extract (a2 : Int).toNat ((wrap64 (a2 + 1)) : Int).toNat))).size + 1 ≤ 9223372036854775807 then ((impl_worldText.f k a0 a1 (wrap64 (a2 + 1))).bind fun t175 => (if (((⟨#[40]⟩ : ByteArray) ++ ((⟨#[33]⟩ : ByteArray) ++ ((⟨#[97, 98, 99]⟩ : ByteArray).extract (a2 : Int).toNat ((wrap64 (a2 + 1)) : Int).toNat))) ++ (⟨#[38]⟩ : ByteArray)).size + t175.size ≤ 9223372036854775807 then (if ((((⟨#[40]⟩ : ByteArray) ++ ((⟨#[33]⟩ : ByteArray) ++ ((⟨#[97, 98, 99]⟩ : ByteArray).extract (a2 : Int).toNat ((wrap64 (a2 + 1)) : Int).toNat))) ++ (⟨#[38]⟩ : ByteArray)) ++ t175).size + 1 ≤ 9223372036854775807 then (some (((((⟨#[40]⟩ : ByteArray) ++ ((⟨#[33]⟩ : ByteArray) ++ ((⟨#[97, 98, 99]⟩ : ByteArray).extract (a2 : Int).toNat ((wrap64 (a2 + 1)) : Int).toNat))) ++ (⟨#[38]⟩ : ByteArray)) ++ t175) ++ (⟨#[41]⟩ : ByteArray))) else (none)) else (none))) else (none)) else (none))) else (none)) else (if a2 = (wrap64 (a0 - 1)) then (some ((⟨#[97, 98, 99]⟩ : ByteArray).extract (a2 : Int).toNat ((wrap64 (a2 + 1)) : Int).toNat)) else (if 1 + ((⟨#[97, 98, 99]⟩ : ByteArray).extract (a2 : Int).toNat ((wrap64 (a2 + 1)) : Int).toNat).size ≤ 9223372036854775807 then (if ((⟨#[40]⟩ : ByteArray) ++ ((⟨#[97, 98, 99]⟩ : ByteArray).extract (a2 : Int).toNat ((wrap64 (a2 + 1)) : Int).toNat)).size + 1 ≤ 9223372036854775807 then ((impl_worldText.f k a0 a1 (wrap64 (a2 + 1))).bind fun t176 => (if (((⟨#[40]⟩ : ByteArray) ++ ((⟨#[97, 98, 99]⟩ : ByteArray).extract (a2 : Int).toNat ((wrap64 (a2 + 1)) : Int).toNat)) ++ (⟨#[38]⟩ : ByteArray)).size + t176.size ≤ 9223372036854775807 then (if ((((⟨#[40]⟩ : ByteArray) ++ ((⟨#[97, 98, 99]⟩ : ByteArray).extract (a2 : Int).toNat ((wrap64 (a2 + 1)) : Int).toNat)) ++ (⟨#[38]⟩ : ByteArray)) ++ t176).size + 1 ≤ 9223372036854775807 then (some (((((⟨#[40]⟩ : ByteArray) ++ ((⟨#[97, 98, 99]⟩ : ByteArray).extract (a2 : Int).toNat ((wrap64 (a2 + 1)) : Int).toNat)) ++ (⟨#[38]⟩ : ByteArray)) ++ t176) ++ (⟨#[41]⟩ : ByteArray))) else (none)) else (none))) else (none)) else (none)))) = some r := by first | (rw [hji8] at H; exact H) | (simp only [hji8] at H ⊢; exact H)
        have hji8_ : (a1 / 2 ^ min a2.toNat 64) = ji8 := hji8
        have hji8z : a2 ≤ 64 → (a1 / 2 ^ a2.toNat) = ji8 := shr_small hji8
        by_cases c9 : (Go.bits .and .i64 (ji8) 1) = 0
        · rw [if_pos c9] at H
          have c9b0 : ((Go.bits .and .i64 (ji8) 1) == 0) = true := beq_iff_eq.mpr c9
          have c9b1 : ((Go.bits .and .i64 (ji8) 1) != 0) = false := bne_eq_false_iff_eq.mpr c9
          clear c9
          by_cases c10 : 1 + ((⟨#[97, 98, 99]⟩ : ByteArray).extract (a2 : Int).toNat ((wrap64 (a2 + 1)) : Int).toNat).size ≤ 9223372036854775807
          · rw [if_pos c10] at H
            have c10b0 := eq_true c10
            have c10b1 : decide (1 + ((⟨#[97, 98, 99]⟩ : ByteArray).extract (a2 : Int).toNat ((wrap64 (a2 + 1)) : Int).toNat).size ≤ 9223372036854775807) = true := decide_eq_true c10
            try have c10b2 : (9223372036854775807 < 1 + ((⟨#[97, 98, 99]⟩ : ByteArray).extract (a2 : Int).toNat ((wrap64 (a2 + 1)) : Int).toNat).size) = False := eq_false (Nat.not_lt.2 c10)
            by_cases c11 : a2 = (wrap64 (a0 - 1))
            · rw [if_pos c11] at H
              have c11b0 : (a2 == (wrap64 (a0 - 1))) = true := beq_iff_eq.mpr c11
              have c11b1 : (a2 != (wrap64 (a0 - 1))) = false := bne_eq_false_iff_eq.mpr c11
              clear c11
              obtain rfl := Option.some.inj H
              go_enter Try.func96, Try.ntmps96
              go_wp2
              go_ret
              exact ⟨by first | rfl | (simp; done) | (simp only [← hji8] <;> (first | rfl | simp)) | (simp [*]; done), by repeat (first | exact Drawn0.refl _ | apply Drawn0.step)⟩
            · rw [if_neg c11] at H
              have c11b0 : (a2 == (wrap64 (a0 - 1))) = false := beq_eq_false_iff_ne.mpr c11
              have c11b1 : (a2 != (wrap64 (a0 - 1))) = true := bne_iff_ne.mpr c11
              by_cases c12 : 1 + ((⟨#[33]⟩ : ByteArray) ++ ((⟨#[97, 98, 99]⟩ : ByteArray).extract (a2 : Int).toNat ((wrap64 (a2 + 1)) : Int).toNat)).size ≤ 9223372036854775807
              · rw [if_pos c12] at H
                have c12b0 := eq_true c12
                have c12b1 : decide (1 + ((⟨#[33]⟩ : ByteArray) ++ ((⟨#[97, 98, 99]⟩ : ByteArray).extract (a2 : Int).toNat ((wrap64 (a2 + 1)) : Int).toNat)).size ≤ 9223372036854775807) = true := decide_eq_true c12
                try have c12b2 : (9223372036854775807 < 1 + ((⟨#[33]⟩ : ByteArray) ++ ((⟨#[97, 98, 99]⟩ : ByteArray).extract (a2 : Int).toNat ((wrap64 (a2 + 1)) : Int).toNat)).size) = False := eq_false (Nat.not_lt.2 c12)
                by_cases c13 : ((⟨#[40]⟩ : ByteArray) ++ ((⟨#[33]⟩ : ByteArray) ++ ((⟨#[97, 98, 99]⟩ : ByteArray).extract (a2 : Int).toNat ((wrap64 (a2 + 1)) : Int).toNat))).size + 1 ≤ 9223372036854775807
                · rw [if_pos c13] at H
                  have c13b0 := eq_true c13
                  have c13b1 : decide (((⟨#[40]⟩ : ByteArray) ++ ((⟨#[33]⟩ : ByteArray) ++ ((⟨#[97, 98, 99]⟩ : ByteArray).extract (a2 : Int).toNat ((wrap64 (a2 + 1)) : Int).toNat))).size + 1 ≤ 9223372036854775807) = true := decide_eq_true c13
                  try have c13b2 : (9223372036854775807 < ((⟨#[40]⟩ : ByteArray) ++ ((⟨#[33]⟩ : ByteArray) ++ ((⟨#[97, 98, 99]⟩ : ByteArray).extract (a2 : Int).toNat ((wrap64 (a2 + 1)) : Int).toNat))).size + 1) = False := eq_false (Nat.not_lt.2 c13)
                  replace H := Option.bind_eq_some_iff.mp H
                  obtain ⟨t175, A140, H⟩ := H
                  replace H : (if (((⟨#[40]⟩ : ByteArray) ++ ((⟨#[33]⟩ : ByteArray) ++ ((⟨#[97, 98, 99]⟩ : ByteArray).extract (a2 : Int).toNat ((wrap64 (a2 + 1)) : Int).toNat))) ++ (⟨#[38]⟩ : ByteArray)).size + t175.size ≤ 9223372036854775807 then (if ((((⟨#[40]⟩ : ByteArray) ++ ((⟨#[33]⟩ : ByteArray) ++ ((⟨#[97, 98, 99]⟩ : ByteArray).extract (a2 : Int).toNat ((wrap64 (a2 + 1)) : Int).toNat))) ++ (⟨#[38]⟩ : ByteArray)) ++ t175).size + 1 ≤ 9223372036854775807 then (some (((((⟨#[40]⟩ : ByteArray) ++ ((⟨#[33]⟩ : ByteArray) ++ ((⟨#[97, 98, 99]⟩ : ByteArray).extract (a2 : Int).toNat ((wrap64 (a2 + 1)) : Int).toNat))) ++ (⟨#[38]⟩ : ByteArray)) ++ t175) ++ (⟨#[41]⟩ : ByteArray))) else (none)) else (none)) = some r := H
                  have A14 := Aside0.mk A140
                  clear A140
                  by_cases c15 : (((⟨#[40]⟩ : ByteArray) ++ ((⟨#[33]⟩ : ByteArray) ++ ((⟨#[97, 98, 99]⟩ : ByteArray).extract (a2 : Int).toNat ((wrap64 (a2 + 1)) : Int).toNat))) ++ (⟨#[38]⟩ : ByteArray)).size + t175.size ≤ 9223372036854775807
                  · rw [if_pos c15] at H
                    have c15b0 := eq_true c15
                    have c15b1 : decide ((((⟨#[40]⟩ : ByteArray) ++ ((⟨#[33]⟩ : ByteArray) ++ ((⟨#[97, 98, 99]⟩ : ByteArray).extract (a2 : Int).toNat ((wrap64 (a2 + 1)) : Int).toNat))) ++ (⟨#[38]⟩ : ByteArray)).size + t175.size ≤ 9223372036854775807) = true := decide_eq_true c15
                    try have c15b2 : (9223372036854775807 < (((⟨#[40]⟩ : ByteArray) ++ ((⟨#[33]⟩ : ByteArray) ++ ((⟨#[97, 98, 99]⟩ : ByteArray).extract (a2 : Int).toNat ((wrap64 (a2 + 1)) : Int).toNat))) ++ (⟨#[38]⟩ : ByteArray)).size + t175.size) = False := eq_false (Nat.not_lt.2 c15)
                    by_cases c16 : ((((⟨#[40]⟩ : ByteArray) ++ ((⟨#[33]⟩ : ByteArray) ++ ((⟨#[97, 98, 99]⟩ : ByteArray).extract (a2 : Int).toNat ((wrap64 (a2 + 1)) : Int).toNat))) ++ (⟨#[38]⟩ : ByteArray)) ++ t175).size + 1 ≤ 9223372036854775807
                    · rw [if_pos c16] at H
                      have c16b0 := eq_true c16
                      have c16b1 : decide (((((⟨#[40]⟩ : ByteArray) ++ ((⟨#[33]⟩ : ByteArray) ++ ((⟨#[97, 98, 99]⟩ : ByteArray).extract (a2 : Int).toNat ((wrap64 (a2 + 1)) : Int).toNat))) ++ (⟨#[38]⟩ : ByteArray)) ++ t175).size + 1 ≤ 9223372036854775807) = true := decide_eq_true c16
                      try have c16b2 : (9223372036854775807 < ((((⟨#[40]⟩ : ByteArray) ++ ((⟨#[33]⟩ : ByteArray) ++ ((⟨#[97, 98, 99]⟩ : ByteArray).extract (a2 : Int).toNat ((wrap64 (a2 + 1)) : Int).toNat))) ++ (⟨#[38]⟩ : ByteArray)) ++ t175).size + 1) = False := eq_false (Nat.not_lt.2 c16)
                      obtain rfl := Option.some.inj H
                      go_enter Try.func96, Try.ntmps96
                      go_wp2_with (first | ((with_reducible refine gate_callee (f := 96) rfl ?_); refine goesL_ (some 31) rfl rfl Try.func96 (by kernel_rfl) rfl #[.int .i64 a0, .int .i64 a1, .int .i64 (wrap64 (a2 + 1))] rfl (by (try simp only [List.map_toArray, List.map_cons, List.map_nil]); first | done | rfl | (simp only [List.length_drop, List.length_take]; rfl)) ?_; (with_reducible refine (ih k (by omega) a0 a1 (wrap64 (a2 + 1)) t175 _ A14.out).mono ?_); rintro e w' ⟨rfl, ⟨nd, rfl⟩⟩; refine ⟨_, rfl, ?_⟩))
                      all_goals try (exfalso; simp only [ByteArray.size_append, ByteArray.size_extract, show (⟨#[40]⟩ : ByteArray).size = 1 from rfl, show (⟨#[33]⟩ : ByteArray).size = 1 from rfl, show (⟨#[38]⟩ : ByteArray).size = 1 from rfl, show (⟨#[97, 98, 99]⟩ : ByteArray).size = 3 from rfl] at c15 c16; omega)
                      go_ret
                      exact ⟨by first | rfl | (simp; done) | (simp only [← hji8] <;> (first | rfl | simp)) | (simp [*]; done), by repeat (first | exact Drawn0.refl _ | apply Drawn0.step)⟩
                    · rw [if_neg c16] at H
                      exact absurd H (by simp)
                  · rw [if_neg c15] at H
                    exact absurd H (by simp)
                · rw [if_neg c13] at H
                  exact absurd H (by simp)
              · rw [if_neg c12] at H
                exact absurd H (by simp)
          · rw [if_neg c10] at H
            exact absurd H (by simp)
        · rw [if_neg c9] at H
          have c9b0 : ((Go.bits .and .i64 (ji8) 1) == 0) = false := beq_eq_false_iff_ne.mpr c9
          have c9b1 : ((Go.bits .and .i64 (ji8) 1) != 0) = true := bne_iff_ne.mpr c9
          by_cases c17 : a2 = (wrap64 (a0 - 1))
          · rw [if_pos c17] at H
            have c17b0 : (a2 == (wrap64 (a0 - 1))) = true := beq_iff_eq.mpr c17
            have c17b1 : (a2 != (wrap64 (a0 - 1))) = false := bne_eq_false_iff_eq.mpr c17
            clear c17
            obtain rfl := Option.some.inj H
            go_enter Try.func96, Try.ntmps96
            go_wp2
            go_ret
            exact ⟨by first | rfl | (simp; done) | (simp only [← hji8] <;> (first | rfl | simp)) | (simp [*]; done), by repeat (first | exact Drawn0.refl _ | apply Drawn0.step)⟩
          · rw [if_neg c17] at H
            have c17b0 : (a2 == (wrap64 (a0 - 1))) = false := beq_eq_false_iff_ne.mpr c17
            have c17b1 : (a2 != (wrap64 (a0 - 1))) = true := bne_iff_ne.mpr c17
            by_cases c18 : 1 + ((⟨#[97, 98, 99]⟩ : ByteArray).extract (a2 : Int).toNat ((wrap64 (a2 + 1)) : Int).toNat).size ≤ 9223372036854775807
            · rw [if_pos c18] at H
              have c18b0 := eq_true c18
              have c18b1 : decide (1 + ((⟨#[97, 98, 99]⟩ : ByteArray).extract (a2 : Int).toNat ((wrap64 (a2 + 1)) : Int).toNat).size ≤ 9223372036854775807) = true := decide_eq_true c18
              try have c18b2 : (9223372036854775807 < 1 + ((⟨#[97, 98, 99]⟩ : ByteArray).extract (a2 : Int).toNat ((wrap64 (a2 + 1)) : Int).toNat).size) = False := eq_false (Nat.not_lt.2 c18)
              by_cases c19 : ((⟨#[40]⟩ : ByteArray) ++ ((⟨#[97, 98, 99]⟩ : ByteArray).extract (a2 : Int).toNat ((wrap64 (a2 + 1)) : Int).toNat)).size + 1 ≤ 9223372036854775807
              · rw [if_pos c19] at H
                have c19b0 := eq_true c19
                have c19b1 : decide (((⟨#[40]⟩ : ByteArray) ++ ((⟨#[97, 98, 99]⟩ : ByteArray).extract (a2 : Int).toNat ((wrap64 (a2 + 1)) : Int).toNat)).size + 1 ≤ 9223372036854775807) = true := decide_eq_true c19
                try have c19b2 : (9223372036854775807 < ((⟨#[40]⟩ : ByteArray) ++ ((⟨#[97, 98, 99]⟩ : ByteArray).extract (a2 : Int).toNat ((wrap64 (a2 + 1)) : Int).toNat)).size + 1) = False := eq_false (Nat.not_lt.2 c19)
                replace H := Option.bind_eq_some_iff.mp H
                obtain ⟨t176, A200, H⟩ := H
                replace H : (if (((⟨#[40]⟩ : ByteArray) ++ ((⟨#[97, 98, 99]⟩ : ByteArray).extract (a2 : Int).toNat ((wrap64 (a2 + 1)) : Int).toNat)) ++ (⟨#[38]⟩ : ByteArray)).size + t176.size ≤ 9223372036854775807 then (if ((((⟨#[40]⟩ : ByteArray) ++ ((⟨#[97, 98, 99]⟩ : ByteArray).extract (a2 : Int).toNat ((wrap64 (a2 + 1)) : Int).toNat)) ++ (⟨#[38]⟩ : ByteArray)) ++ t176).size + 1 ≤ 9223372036854775807 then (some (((((⟨#[40]⟩ : ByteArray) ++ ((⟨#[97, 98, 99]⟩ : ByteArray).extract (a2 : Int).toNat ((wrap64 (a2 + 1)) : Int).toNat)) ++ (⟨#[38]⟩ : ByteArray)) ++ t176) ++ (⟨#[41]⟩ : ByteArray))) else (none)) else (none)) = some r := H
                have A20 := Aside0.mk A200
                clear A200
                by_cases c21 : (((⟨#[40]⟩ : ByteArray) ++ ((⟨#[97, 98, 99]⟩ : ByteArray).extract (a2 : Int).toNat ((wrap64 (a2 + 1)) : Int).toNat)) ++ (⟨#[38]⟩ : ByteArray)).size + t176.size ≤ 9223372036854775807
                · rw [if_pos c21] at H
                  have c21b0 := eq_true c21
                  have c21b1 : decide ((((⟨#[40]⟩ : ByteArray) ++ ((⟨#[97, 98, 99]⟩ : ByteArray).extract (a2 : Int).toNat ((wrap64 (a2 + 1)) : Int).toNat)) ++ (⟨#[38]⟩ : ByteArray)).size + t176.size ≤ 9223372036854775807) = true := decide_eq_true c21
                  try have c21b2 : (9223372036854775807 < (((⟨#[40]⟩ : ByteArray) ++ ((⟨#[97, 98, 99]⟩ : ByteArray).extract (a2 : Int).toNat ((wrap64 (a2 + 1)) : Int).toNat)) ++ (⟨#[38]⟩ : ByteArray)).size + t176.size) = False := eq_false (Nat.not_lt.2 c21)
                  by_cases c22 : ((((⟨#[40]⟩ : ByteArray) ++ ((⟨#[97, 98, 99]⟩ : ByteArray).extract (a2 : Int).toNat ((wrap64 (a2 + 1)) : Int).toNat)) ++ (⟨#[38]⟩ : ByteArray)) ++ t176).size + 1 ≤ 9223372036854775807
                  · rw [if_pos c22] at H
                    have c22b0 := eq_true c22
                    have c22b1 : decide (((((⟨#[40]⟩ : ByteArray) ++ ((⟨#[97, 98, 99]⟩ : ByteArray).extract (a2 : Int).toNat ((wrap64 (a2 + 1)) : Int).toNat)) ++ (⟨#[38]⟩ : ByteArray)) ++ t176).size + 1 ≤ 9223372036854775807) = true := decide_eq_true c22
                    try have c22b2 : (9223372036854775807 < ((((⟨#[40]⟩ : ByteArray) ++ ((⟨#[97, 98, 99]⟩ : ByteArray).extract (a2 : Int).toNat ((wrap64 (a2 + 1)) : Int).toNat)) ++ (⟨#[38]⟩ : ByteArray)) ++ t176).size + 1) = False := eq_false (Nat.not_lt.2 c22)
                    obtain rfl := Option.some.inj H
                    go_enter Try.func96, Try.ntmps96
                    go_wp2_with (first | ((with_reducible refine gate_callee (f := 96) rfl ?_); refine goesL_ (some 31) rfl rfl Try.func96 (by kernel_rfl) rfl #[.int .i64 a0, .int .i64 a1, .int .i64 (wrap64 (a2 + 1))] rfl (by (try simp only [List.map_toArray, List.map_cons, List.map_nil]); first | done | rfl | (simp only [List.length_drop, List.length_take]; rfl)) ?_; (with_reducible refine (ih k (by omega) a0 a1 (wrap64 (a2 + 1)) t176 _ A20.out).mono ?_); rintro e w' ⟨rfl, ⟨nd, rfl⟩⟩; refine ⟨_, rfl, ?_⟩))
                    all_goals try (exfalso; simp only [ByteArray.size_append, ByteArray.size_extract, show (⟨#[40]⟩ : ByteArray).size = 1 from rfl, show (⟨#[33]⟩ : ByteArray).size = 1 from rfl, show (⟨#[38]⟩ : ByteArray).size = 1 from rfl, show (⟨#[97, 98, 99]⟩ : ByteArray).size = 3 from rfl] at c21 c22; omega)
                    go_ret
                    exact ⟨by first | rfl | (simp; done) | (simp only [← hji8] <;> (first | rfl | simp)) | (simp [*]; done), by repeat (first | exact Drawn0.refl _ | apply Drawn0.step)⟩
                  · rw [if_neg c22] at H
                    exact absurd H (by simp)
                · rw [if_neg c21] at H
                  exact absurd H (by simp)
              · rw [if_neg c19] at H
                exact absurd H (by simp)
            · rw [if_neg c18] at H
              exact absurd H (by simp)
      · rw [if_neg c6] at H
        exact absurd H (by simp)
    · rw [if_neg c5] at H
      exact absurd H (by simp)
  · rw [if_neg c4] at H
    exact absurd H (by simp)

end Go.Proofs.Ytfleephpcomimaa.V

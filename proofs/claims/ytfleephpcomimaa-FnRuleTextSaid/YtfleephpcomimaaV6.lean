/- Contracts of functions of the program: whatever a function's pure reading answers, the call returns. Printed by a program of this session (the kit's print, with contracts by hand beside it). Conditions: those of each theorem. -/
import Derived.Test.YtfleephpcomimaaV0
import Derived.Test.YtfleephpcomimaaV5
namespace Go.Proofs.Ytfleephpcomimaa.V
open Go.Proofs.BelM
open Go.RowKit Go.Proofs.YtfleephpcomimaaW.PrintWords Go.Proofs.YtfleephpcomimaaW.PrintLast Go.Proofs.YtfleephpcomimaaW.PrintMore
attribute [local go_sem] max2_int min2_int max_two min_two max_three min_three max_four min_four   -- for this text's walks alone
set_option linter.unusedVariables false
set_option linter.unusedSimpArgs false

/-- A state of type 94 at block g of W; what its slices lead to came in by w0. -/
def IsS94 (w0 W : World) (g : Nat) (f0 : Int) (f1 : ByteArray) (f2 : Int) : Prop := W.heap[g]? = some (.cells #[.int .i64 f0, .string f1, .int .i64 f2] 94 (0, 0)) ∧ w0.heap.size ≤ g
theorem IsS94.grown {w0 W : World} {g : Nat} {f0 : Int} {f1 : ByteArray} {f2 : Int} {W1 : World} {row : Option Nat} (h : IsS94 w0 W g f0 f1 f2) (hw : W.grownBy W1 row) (hne : some g ≠ row) : IsS94 w0 W1 g f0 f1 f2 := by
  obtain ⟨hb, hg⟩ := h
  exact ⟨blk_grown hb hw hne, hg⟩
theorem IsS94.own_neN {w0 W : World} {g : Nat} {f0 : Int} {f1 : ByteArray} {f2 : Int} {α : Type} {d : Kd α} {e : Nat} {base : Nat} {ok : Nat → Prop} {v : Value} {xs : List α} (h : IsS94 w0 W g f0 f1 f2) (ho : Kd.N d e W base ok v xs) (ht : e ≠ 94) : some g ≠ v.ownBlock := by
  obtain ⟨hb, hg⟩ := h
  exact Kd.N_ne ho hb ht
theorem IsS94.fresh {w0 W : World} {g : Nat} {f0 : Int} {f1 : ByteArray} {f2 : Int} (h : IsS94 w0 W g f0 f1 f2) : ∀ k, W.heap.size ≤ k → k ≠ g := by
  obtain ⟨hb, hg⟩ := h
  exact Kd.freshB hb
theorem IsS94.kept {w0 W : World} {g : Nat} {f0 : Int} {f1 : ByteArray} {f2 : Int} {W1 : World} {S : Nat → Prop} (h : IsS94 w0 W g f0 f1 f2) (hk : Kept W W1 S) (hne : ¬ S g) : IsS94 w0 W1 g f0 f1 f2 := by
  obtain ⟨hb, hg⟩ := h
  exact ⟨blk_kept hb hk hne, hg⟩
theorem IsS94.below {w0 W : World} {g : Nat} {f0 : Int} {f1 : ByteArray} {f2 : Int} {W1 : World} (h : IsS94 w0 W g f0 f1 f2) (hw : Below W.heap.size W W1) : IsS94 w0 W1 g f0 f1 f2 := h.grown (grown_of_below hw none) (by simp)
theorem IsS94.alloc {w0 W : World} {g : Nat} {f0 : Int} {f1 : ByteArray} {f2 : Int} (h : IsS94 w0 W g f0 f1 f2) (o : Obj) : IsS94 w0 (W.alloc o) g f0 f1 f2 := h.below (below_alloc (Below.refl _ _) o)
theorem IsS94.drewN {w0 W : World} {g : Nat} {f0 : Int} {f1 : ByteArray} {f2 : Int} (h : IsS94 w0 W g f0 f1 f2) (m : Nat) : IsS94 w0 (W.drewN m) g f0 f1 f2 := h
theorem IsS94.drew {w0 W : World} {g : Nat} {f0 : Int} {f1 : ByteArray} {f2 : Int} (h : IsS94 w0 W g f0 f1 f2) : IsS94 w0 W.drew g f0 f1 f2 := h
theorem IsS94.at_ {w0 W : World} {g : Nat} {f0 : Int} {f1 : ByteArray} {f2 : Int} {w' : World} {m : Nat} (hq : W.drewN m = w') (h : IsS94 w0 W g f0 f1 f2) : IsS94 w0 w' g f0 f1 f2 := by subst hq; exact IsS94.drewN h m
theorem IsS94.apart {w0 W : World} {g : Nat} {f0 : Int} {f1 : ByteArray} {f2 : Int} {α : Type} {d : Kd α} {e : Nat} {base : Nat} {ok : Nat → Prop} {v : Value} {xs : List α} (h : IsS94 w0 W g f0 f1 f2) (ho : d.R e W base ok v xs) (ht : ∀ q, q ∈ e :: d.E → q ≠ 94) : d.R e W base (fun k => ok k ∧ k ≠ g) v xs := by
  obtain ⟨hb, hg⟩ := h
  exact Kd.R_types ho hb ht
theorem IsS94.own_ne {w0 W : World} {g : Nat} {f0 : Int} {f1 : ByteArray} {f2 : Int} {α : Type} {d : Kd α} {e : Nat} {base : Nat} {ok : Nat → Prop} {v : Value} {xs : List α} (h : IsS94 w0 W g f0 f1 f2) (ho : d.R e W base ok v xs) (ht : e ≠ 94) : some g ≠ v.ownBlock := by
  obtain ⟨hb, hg⟩ := h
  exact Kd.R_ne ho hb ht
theorem IsS94.apartQ {w0 W : World} {g : Nat} {f0 : Int} {f1 : ByteArray} {f2 : Int} {α : Type} {d : Kd α} {e : Nat} {base : Nat} {ok : Nat → Prop} {v : Value} {xs : List α} (h : IsS94 w0 W g f0 f1 f2) (ho : d.Q e W base ok v xs) (ht : ∀ q, q ∈ e :: d.E → q ≠ 94) : d.Q e W base (fun k => ok k ∧ k ≠ g) v xs := by
  obtain ⟨hb, hg⟩ := h
  exact Kd.Q_types ho hb ht
theorem IsS94.own_neQ {w0 W : World} {g : Nat} {f0 : Int} {f1 : ByteArray} {f2 : Int} {α : Type} {d : Kd α} {e : Nat} {base : Nat} {ok : Nat → Prop} {v : Value} {xs : List α} (h : IsS94 w0 W g f0 f1 f2) (ho : d.Q e W base ok v xs) (ht : e ≠ 94) : some g ≠ v.ownBlock := by
  obtain ⟨hb, hg⟩ := h
  exact Kd.Q_ne ho hb ht
theorem IsS94.apartS {w0 W : World} {g : Nat} {f0 : Int} {f1 : ByteArray} {f2 : Int} {α : Type} {d : Kd α} {e : Nat} {base : Nat} {ok : Nat → Prop} {v : Value} {xs : List α} (h : IsS94 w0 W g f0 f1 f2) (ho : d.S e W base ok v xs) (ht : ∀ q, q ∈ e :: d.E → q ≠ 94) : d.S e W base (fun k => ok k ∧ k ≠ g) v xs := by
  obtain ⟨hb, hg⟩ := h
  exact Kd.S_types ho hb ht
theorem IsS94.own_neS {w0 W : World} {g : Nat} {f0 : Int} {f1 : ByteArray} {f2 : Int} {α : Type} {d : Kd α} {e : Nat} {base : Nat} {ok : Nat → Prop} {v : Value} {xs : List α} (h : IsS94 w0 W g f0 f1 f2) (ho : d.S e W base ok v xs) (ht : e ≠ 94) : some g ≠ v.ownBlock := by
  obtain ⟨hb, hg⟩ := h
  exact Kd.S_ne ho hb ht
theorem IsS94.lt {w0 W : World} {g : Nat} {f0 : Int} {f1 : ByteArray} {f2 : Int} (h : IsS94 w0 W g f0 f1 f2) : g < W.heap.size := by
  obtain ⟨hb, hg⟩ := h
  exact blk_lt hb
theorem IsS94.ge {w0 W : World} {g : Nat} {f0 : Int} {f1 : ByteArray} {f2 : Int} (h : IsS94 w0 W g f0 f1 f2) : w0.heap.size ≤ g := by
  obtain ⟨hb, hg⟩ := h
  exact hg
theorem IsS94.ne_blk {w0 W : World} {g : Nat} {f0 : Int} {f1 : ByteArray} {f2 : Int} {a : Nat} {cs : Array Value} {t : TypeId} {fr : Nat × Nat} (h : IsS94 w0 W g f0 f1 f2) (hb2 : W.heap[a]? = some (.cells cs t fr)) (ht : t ≠ 94) : g ≠ a := by
  obtain ⟨hb, hg⟩ := h
  rintro rfl
  rw [hb] at hb2
  injection hb2 with hb2
  injection hb2 with _ ht2
  exact ht ht2.symm
theorem IsS94.far {w0 W : World} {g : Nat} {f0 : Int} {f1 : ByteArray} {f2 : Int} {p : Addr} (h : IsS94 w0 W g f0 f1 f2) (hne : g ≠ p.block) (u : Value) : IsS94 w0 (W.setCell p u) g f0 f1 f2 := by
  obtain ⟨hb, hg⟩ := h
  exact ⟨blk_far hb hne u, hg⟩
theorem cellS94_0 {W : World} {g : Nat} {f0 : Int} {f1 : ByteArray} {f2 : Int} (h : W.heap[g]? = some (.cells #[.int .i64 f0, .string f1, .int .i64 f2] 94 (0, 0))) : W.cell? ⟨g, 0, none⟩ = some (.int .i64 f0) := (blk_cell h 0).trans rfl
theorem IsS94.set_0 {w0 W : World} {g : Nat} {f0 : Int} {f1 : ByteArray} {f2 : Int} (h : IsS94 w0 W g f0 f1 f2) (x : Int) : IsS94 w0 (W.setCell ⟨g, 0, none⟩ (.int .i64 x)) g x f1 f2 := by
  obtain ⟨hb, hg⟩ := h
  exact ⟨by simpa using blk_set hb 0 (.int .i64 x), hg⟩
theorem cellS94_1 {W : World} {g : Nat} {f0 : Int} {f1 : ByteArray} {f2 : Int} (h : W.heap[g]? = some (.cells #[.int .i64 f0, .string f1, .int .i64 f2] 94 (0, 0))) : W.cell? ⟨g, 1, none⟩ = some (.string f1) := (blk_cell h 1).trans rfl
theorem IsS94.set_1 {w0 W : World} {g : Nat} {f0 : Int} {f1 : ByteArray} {f2 : Int} (h : IsS94 w0 W g f0 f1 f2) (x : ByteArray) : IsS94 w0 (W.setCell ⟨g, 1, none⟩ (.string x)) g f0 x f2 := by
  obtain ⟨hb, hg⟩ := h
  exact ⟨by simpa using blk_set hb 1 (.string x), hg⟩
theorem cellS94_2 {W : World} {g : Nat} {f0 : Int} {f1 : ByteArray} {f2 : Int} (h : W.heap[g]? = some (.cells #[.int .i64 f0, .string f1, .int .i64 f2] 94 (0, 0))) : W.cell? ⟨g, 2, none⟩ = some (.int .i64 f2) := (blk_cell h 2).trans rfl
theorem IsS94.set_2 {w0 W : World} {g : Nat} {f0 : Int} {f1 : ByteArray} {f2 : Int} (h : IsS94 w0 W g f0 f1 f2) (x : Int) : IsS94 w0 (W.setCell ⟨g, 2, none⟩ (.int .i64 x)) g f0 f1 x := by
  obtain ⟨hb, hg⟩ := h
  exact ⟨by simpa using blk_set hb 2 (.int .i64 x), hg⟩
theorem IsS94.new (w0 W : World) (f0 : Int) (f1 : ByteArray) (f2 : Int) (hB : Below w0.heap.size w0 W) : IsS94 w0 (W.alloc (.cells #[.int .i64 f0, .string f1, .int .i64 f2] 94)) W.heap.size f0 f1 f2 := ⟨by simpa using heap_alloc_new W _, hB.size⟩

/-! ### impl_sentenceReader_next: function 121 -/
def impl_sentenceReader_next.f (s0_0 : Int) (s0_1 : ByteArray) (s0_2 : Int) : Option (Int × Int × ByteArray × Int) := if s0_2 = (s0_1.size : Int) then (some (0, s0_0, s0_1, s0_2)) else (if 0 ≤ (wrap64 ((wrap64 (s0_2 + 1)) - 1)) then (if (wrap64 ((wrap64 (s0_2 + 1)) - 1)) < (s0_1.size : Int) then (some (bt s0_1 (wrap64 ((wrap64 (s0_2 + 1)) - 1)), s0_0, s0_1, wrap64 (s0_2 + 1))) else (none)) else (none))
set_option maxHeartbeats 8000000 in
set_option maxRecDepth 100000 in
theorem impl_sentenceReader_next.calls (g : Nat) (s0_0 : Int) (s0_1 : ByteArray) (s0_2 : Int) (r1 : Int) (r2 : Int) (r3 : ByteArray) (r4 : Int) (w0 w : World) (hI : IsS94 w0 w g s0_0 s0_1 s0_2) (hB : Below w0.heap.size w0 w) (h : impl_sentenceReader_next.f s0_0 s0_1 s0_2 = some (r1, r2, r3, r4)) :
    Calls Try.prog 121 #[.pointer (some ⟨g, 0, none⟩)] w fun e w' => e = .returned (.int .u8 r1) ∧ IsS94 w0 w' g r2 r3 r4 ∧ Below w0.heap.size w0 w' ∧ KeepBut w w' g none := by
  have HI0 := Aside0.mk hI
  have HK := Aside0.mk (KeepBut.refl w g none)
  have HL := Aside0.mk hB.size
  clear hI
  have HW0 := Aside0.mk hB.size
  have HB := Aside0.mk hB
  clear hB
  have H : (if s0_2 = (s0_1.size : Int) then (some (0, s0_0, s0_1, s0_2)) else (if 0 ≤ (wrap64 ((wrap64 (s0_2 + 1)) - 1)) then (if (wrap64 ((wrap64 (s0_2 + 1)) - 1)) < (s0_1.size : Int) then (some (bt s0_1 (wrap64 ((wrap64 (s0_2 + 1)) - 1)), s0_0, s0_1, wrap64 (s0_2 + 1))) else (none)) else (none))) = some (r1, r2, r3, r4) := h
  clear h
  by_cases c2 : s0_2 = (s0_1.size : Int)
  · rw [if_pos c2] at H
    have c2b0 : (s0_2 == (s0_1.size : Int)) = true := beq_iff_eq.mpr c2
    have c2b1 : (s0_2 != (s0_1.size : Int)) = false := bne_eq_false_iff_eq.mpr c2
    clear c2
    simp only [Option.some.injEq, Prod.mk.injEq] at H
    obtain ⟨rfl, rfl, rfl, rfl⟩ := H
    obtain ⟨HGz3, hgz3⟩ := HI0.out
    have hcz3_0 := cellS94_0 HGz3
    have hcz3_1 := cellS94_1 HGz3
    have hcz3_2 := cellS94_2 HGz3
    have hfz3_0 := blk_frozen HGz3 0
    have hfz3_1 := blk_frozen HGz3 1
    have hfz3_2 := blk_frozen HGz3 2
    clear HGz3 hgz3
    go_enter Try.func121, Try.ntmps121
    go_wp2
    repeat (go_quiet (fail); try go_wp2)
    go_ret
    exact ⟨by first | rfl | (simp [errW_none, errW_some] <;> rfl) | (simp [*, errW_none, errW_some] <;> rfl), by repeat (first | (with_reducible first | exact HI0.out | apply IsS94.alloc | apply IsS94.drewN | apply IsS94.drew | apply IsS94.set_0 | apply IsS94.set_1 | apply IsS94.set_2) | exact HI0.out), by repeat (first | (with_reducible first | exact HB.out | apply below_alloc | apply pw_below_drewN | apply below_drew1 | refine below_set ?_ (IsS94.ge HI0.out)) | exact HB.out), by repeat (first | (with_reducible first | exact HK.out | apply KeepBut.set_ | apply keep_drewN | apply keep_drew | apply keep_alloc) | exact HK.out)⟩
  · rw [if_neg c2] at H
    have c2b0 : (s0_2 == (s0_1.size : Int)) = false := beq_eq_false_iff_ne.mpr c2
    have c2b1 : (s0_2 != (s0_1.size : Int)) = true := bne_iff_ne.mpr c2
    obtain ⟨ji4, hji4⟩ : ∃ j_ : Int, (wrap64 ((wrap64 (s0_2 + 1)) - 1)) = j_ := ⟨_, rfl⟩
    replace H : (if 0 ≤ (ji4) then (if (ji4) < (s0_1.size : Int) then (some (bt s0_1 (ji4), s0_0, s0_1, wrap64 (s0_2 + 1))) else (none)) else (none)) = some (r1, r2, r3, r4) := by first | (rw [hji4] at H; exact H) | (simp only [hji4] at H ⊢; exact H)
    have hji4w : (IntKind.i64.wrap ((wrap64 (s0_2 + 1)) - 1)) = ji4 := (i64_w _).trans hji4
    by_cases c5 : 0 ≤ (ji4)
    · rw [if_pos c5] at H
      have c5b0 : decide (0 ≤ (ji4)) = true := decide_eq_true c5
      clear c5
      by_cases c6 : (ji4) < (s0_1.size : Int)
      · rw [if_pos c6] at H
        have c6b0 : decide ((ji4) < (s0_1.size : Int)) = true := decide_eq_true c6
        clear c6
        simp only [Option.some.injEq, Prod.mk.injEq] at H
        obtain ⟨rfl, rfl, rfl, rfl⟩ := H
        obtain ⟨HGz8, hgz8⟩ := HI0.out
        have hcz8_0 := cellS94_0 HGz8
        have hcz8_1 := cellS94_1 HGz8
        have hcz8_2 := cellS94_2 HGz8
        have hfz8_0 := blk_frozen HGz8 0
        have hfz8_1 := blk_frozen HGz8 1
        have hfz8_2 := blk_frozen HGz8 2
        clear HGz8 hgz8
        have p7 : 0 ≤ ((ji4) : Int) := of_decide_eq_true (by first | (with_reducible assumption) | assumption)
        have q7 : (ji4) < (s0_1.size : Int) := of_decide_eq_true (by first | (with_reducible assumption) | assumption)
        have hx7 := bt_at s0_1 (ji4)
        replace p7 := eq_true p7
        replace q7 := eq_true q7
        go_enter Try.func121, Try.ntmps121
        go_wp2
        repeat (go_quiet (fail); try go_wp2)
        go_ret
        exact ⟨by first | rfl | (simp [errW_none, errW_some] <;> rfl) | (simp only [← hji4]; first | rfl | (simp [errW_none, errW_some] <;> rfl)) | (simp [*, errW_none, errW_some] <;> rfl), by repeat (first | (with_reducible first | exact HI0.out | apply IsS94.alloc | apply IsS94.drewN | apply IsS94.drew | apply IsS94.set_0 | apply IsS94.set_1 | apply IsS94.set_2) | exact HI0.out), by repeat (first | (with_reducible first | exact HB.out | apply below_alloc | apply pw_below_drewN | apply below_drew1 | refine below_set ?_ (IsS94.ge HI0.out)) | exact HB.out), by repeat (first | (with_reducible first | exact HK.out | apply KeepBut.set_ | apply keep_drewN | apply keep_drew | apply keep_alloc) | exact HK.out)⟩
      · rw [if_neg c6] at H
        exact absurd H (by simp)
    · rw [if_neg c5] at H
      exact absurd H (by simp)

/-! ### impl_sentenceReader_sentence: function 105, by hand -/
/-- Where a thing is so, told by its letter. -/
def impl_sentenceReader_sentence.set (t b : Int) : Int := mk (fun w => w.testBit (b - 97).toNat) (2 ^ t.toNat)
def impl_sentenceReader_sentence.f : Nat → Int → ByteArray → Int → Option (Int × Bool × Int × ByteArray × Int)
  | 0, _, _, _ => none
  | k + 1, s0, s1, s2 => if 1 ≤ s0 ∧ s0 ≤ 3 then ((impl_sentenceReader_next.f s0 s1 s2).bind fun n =>
      (if n.1 = 48 then some (0, true, n.2) else (if n.1 = 49 then some (2 ^ 2 ^ s0.toNat - 1, true, n.2) else
      (if n.1 = 97 ∨ n.1 = 98 ∨ n.1 = 99 then some (impl_sentenceReader_sentence.set s0 n.1, decide (n.1 - 97 < s0), n.2) else
      (if n.1 = 33 then ((impl_sentenceReader_sentence.f k n.2.1 n.2.2.1 n.2.2.2).bind fun p => some (Go.bits .xor .i64 (2 ^ 2 ^ s0.toNat - 1) p.1, p.2.1, p.2.2)) else
      (if n.1 = 40 then ((impl_sentenceReader_sentence.f k n.2.1 n.2.2.1 n.2.2.2).bind fun p => (if p.2.1 = true then ((impl_sentenceReader_next.f p.2.2.1 p.2.2.2.1 p.2.2.2.2).bind fun g => ((impl_sentenceReader_sentence.f k g.2.1 g.2.2.1 g.2.2.2).bind fun q => (if q.2.1 = true then ((impl_sentenceReader_next.f q.2.2.1 q.2.2.2.1 q.2.2.2.2).bind fun c => (if c.1 = 41 then (if g.1 = 38 then some (Go.bits .and .i64 p.1 q.1, true, c.2) else (if g.1 = 124 then some (Go.bits .or .i64 p.1 q.1, true, c.2) else (if g.1 = 62 then some (Go.bits .or .i64 (Go.bits .xor .i64 (2 ^ 2 ^ s0.toNat - 1) p.1) q.1, true, c.2) else some (0, false, c.2)))) else some (0, false, c.2))) else some (0, false, q.2.2)))) else some (0, false, p.2.2))) else
      some (0, false, n.2))))))) else none
theorem impl_sentenceReader_sentence.mono : ∀ a0 a1 a2 k, LeO (impl_sentenceReader_sentence.f k a0 a1 a2) (impl_sentenceReader_sentence.f (k + 1) a0 a1 a2) := by
  intro a0 a1 a2 k
  induction k generalizing a0 a1 a2 with
  | zero => intro r h; simp [impl_sentenceReader_sentence.f] at h
  | succ k ih =>
    rw [impl_sentenceReader_sentence.f, impl_sentenceReader_sentence.f]
    repeat' first
      | (with_reducible exact ih _ _ _)
      | (with_reducible exact LeO.refl _)
      | (with_reducible exact LeO.none _)
      | (with_reducible refine LeO.ite ?_ ?_)
      | (with_reducible refine LeO.bind ?_ (fun _ => ?_))
set_option maxHeartbeats 8000000 in
set_option maxRecDepth 100000 in
theorem impl_sentenceReader_sentence.setThat (c1 : Value) (p : Nat → Bool) (a0 : Int) (w : World) (h0 : 1 ≤ a0) (h0' : a0 ≤ 3) (hs : SaysOf Try.prog 122 [c1] p (2 ^ a0.toNat) w) :
    Calls Try.prog 90 #[.int .i64 a0, .func (.func 122) #[] #[c1]] w fun e w' => e = .returned (.int .i64 (mk p (2 ^ a0.toNat))) ∧ Drawn0 w w' := by
  have hn : 2 ^ a0.toNat ≤ 8 := by
    have : 2 ^ a0.toNat ≤ 2 ^ 3 := Nat.pow_le_pow_right (by decide) (by omega)
    omega
  have h3 : (2 : Int) ^ a0.toNat = ((2 ^ a0.toNat : Nat) : Int) := by simp
  obtain ⟨n, hn0⟩ : ∃ n : Nat, 2 ^ a0.toNat = n := ⟨_, rfl⟩
  rw [hn0] at hn h3 hs ⊢
  have hq : wrap64 (2 ^ a0.toNat) = (n : Int) := by
    rw [h3]; unfold wrap64; omega
  clear h3 hn0
  have HS := Aside0.mk hs
  clear hs
  go_enter Try.func90, Try.ntmps90
  go_wp2_with (fail)
  rw [hq]
  clear hq
  go_loopw [5, 9] (fun s i wr => ∃ k : Nat, k ≤ n ∧ i = .int .i64 k ∧ s = .int .i64 (mk p k) ∧ Drawn0 w wr) (fun _ i _ => n - (intOf i).toNat)
  case atStart => exact ⟨0, Nat.zero_le _, rfl, rfl, Drawn0.refl _⟩
  case round =>
    obtain ⟨k, hk, rfl, rfl, hw⟩ := hrel
    by_cases hlt : k < n
    · have hc := HS.out k wr hlt hw
      have hnx := mk_next (p := p) (k := k) rfl (by omega)
      obtain ⟨b, hb⟩ : ∃ b : Bool, p k = b := ⟨_, rfl⟩
      rw [hb] at hc hnx
      have HX := Aside0.mk hnx
      clear hnx hb
      cases b
      all_goals
        go_wp2_with (refine hc.mono ?_; rintro e w1 ⟨rfl, hw1⟩)
        go_roundw
        case rel => exact ⟨k + 1, by omega, by go_num, by rw [← HX.out]; rfl, drawn_trans hw hw1⟩
        case measure => simp [intOf]; omega
    · go_wp2_with (fail)
      go_ret
      have : k = n := by omega
      subst this
      exact ⟨rfl, hw⟩

set_option maxHeartbeats 8000000 in
set_option maxRecDepth 100000 in
theorem impl_sentenceReader_sentence.closure (th : Int) (g1 : Nat) (k : Nat) (w : World) (hk : k < 8) (h0 : 0 ≤ th) (h1 : th < 3) (hg1 : w.cell? ⟨g1, 0, none⟩ = some (.int .i64 th)) :
    Calls Try.prog 122 #[.int .i64 k, .pointer (some ⟨g1, 0, none⟩)] w fun e w' => e = .returned (.bool (k.testBit th.toNat)) ∧ Drawn0 w w' := by
  have e1 : (bits .and .i64 ((k : Int) / 2 ^ th.toNat) 1 == 1) = k.testBit th.toNat := by
    obtain rfl | rfl | rfl : th = 0 ∨ th = 1 ∨ th = 2 := by omega
    all_goals (obtain rfl | rfl | rfl | rfl | rfl | rfl | rfl | rfl : k = 0 ∨ k = 1 ∨ k = 2 ∨ k = 3 ∨ k = 4 ∨ k = 5 ∨ k = 6 ∨ k = 7 := by omega) <;> decide +kernel
  obtain ⟨z, hz⟩ : ∃ z : Bool, k.testBit th.toNat = z := ⟨_, rfl⟩
  rw [hz] at e1 ⊢
  clear hz
  have h0b : decide (0 ≤ th) = true := decide_eq_true h0
  go_enter Try.func122, Try.ntmps122
  go_wp2_with (fail)
  repeat (go_quiet (fail); try go_wp2_with (fail))
  go_ret
  exact ⟨by first | rfl | (simp; done) | (simp [*]; done), by repeat (first | exact Drawn0.refl _ | apply Drawn0.step)⟩
theorem impl_sentenceReader_sentence.setA (t th b : Int) (g1 : Nat) (w : World) (ht : 1 ≤ t ∧ t ≤ 3) (h0 : 0 ≤ th) (h1 : th < 3) (hb : th + 97 = b) (hg1 : w.cell? ⟨g1, 0, none⟩ = some (.int .i64 th)) :
    Calls Try.prog 90 #[.int .i64 t, .func (.func 122) #[] #[.pointer (some ⟨g1, 0, none⟩)]] w fun e w' => e = .returned (.int .i64 (impl_sentenceReader_sentence.set t b)) ∧ ∃ m, w' = w.drewN m := by
  subst hb
  have hn : 2 ^ t.toNat ≤ 8 := by
    have : 2 ^ t.toNat ≤ 2 ^ 3 := Nat.pow_le_pow_right (by decide) (by omega)
    omega
  refine (impl_sentenceReader_sentence.setThat (.pointer (some ⟨g1, 0, none⟩)) (fun v => v.testBit th.toNat) t w ht.1 ht.2 ?_).mono fun e w' h => ⟨?_, h.2.out⟩
  · intro k W hk hd
    obtain ⟨n, rfl⟩ := hd
    exact impl_sentenceReader_sentence.closure th g1 k _ (by omega) h0 h1 hg1
  · rw [h.1, impl_sentenceReader_sentence.set, show th + 97 - 97 = th by omega]
theorem impl_sentenceReader_sentence.kept {s0 s2 : Int} {s1 : ByteArray} {b n0 n2 : Int} {n1 : ByteArray} (h : impl_sentenceReader_next.f s0 s1 s2 = some (b, n0, n1, n2)) : n0 = s0 ∧ n1 = s1 := by
  unfold impl_sentenceReader_next.f at h
  repeat' split at h
  all_goals first | (simp only [Option.some.injEq, Prod.mk.injEq] at h; exact ⟨h.2.1.symm, h.2.2.1.symm⟩) | (exact absurd h (by simp))
set_option maxHeartbeats 8000000 in
set_option maxRecDepth 100000 in
theorem impl_sentenceReader_sentence.calls : ∀ (k : Nat) (g : Nat) (s0_0 : Int) (s0_1 : ByteArray) (s0_2 : Int) (r1 : Int) (r2 : Bool) (r3 : Int) (r4 : ByteArray) (r5 : Int) (w0 w : World) (hI : IsS94 w0 w g s0_0 s0_1 s0_2) (hB : Below w0.heap.size w0 w) (h : impl_sentenceReader_sentence.f k s0_0 s0_1 s0_2 = some (r1, r2, r3, r4, r5)),
    Calls Try.prog 105 #[.pointer (some ⟨g, 0, none⟩)] w fun e w' => e = .returned (.tuple #[.int .i64 r1, .bool r2]) ∧ IsS94 w0 w' g r3 r4 r5 ∧ Below w0.heap.size w0 w' ∧ KeepBut w w' g none := by
  intro k
  induction k with
  | zero => intro g s0_0 s0_1 s0_2 r1 r2 r3 r4 r5 w0 w hI hB h; simp [impl_sentenceReader_sentence.f] at h
  | succ k ih =>
    intro g s0_0 s0_1 s0_2 r1 r2 r3 r4 r5 w0 w hI hB h
    rw [impl_sentenceReader_sentence.f] at h
    by_cases ht : 1 ≤ s0_0 ∧ s0_0 ≤ 3
    case neg => rw [if_neg ht] at h; exact absurd h (by simp)
    rw [if_pos ht] at h
    have HALL := Aside0.mk (show impl_allWorlds.f s0_0 = some (2 ^ 2 ^ s0_0.toNat - 1) by unfold impl_allWorlds.f; rw [if_pos ht])
    generalize (2 : Int) ^ 2 ^ s0_0.toNat - 1 = M at HALL h
    obtain ⟨⟨b, n0, n1, n2⟩, hn, h⟩ := Option.bind_eq_some_iff.mp h
    have HN := Aside0.mk hn
    clear hn
    dsimp only at h
    have HI0 := Aside0.mk hI
    have HK0 := Aside0.mk (KeepBut.refl w g none)
    have HB0 := Aside0.mk hB
    obtain ⟨HGz, hgz⟩ := hI
    have hcz_0 := cellS94_0 HGz
    have hcz_1 := cellS94_1 HGz
    have hcz_2 := cellS94_2 HGz
    have hfz_0 := blk_frozen HGz 0
    have hfz_1 := blk_frozen HGz 1
    have hfz_2 := blk_frozen HGz 2
    clear HGz hgz hB
    by_cases cb48 : b = 48
    · subst cb48
      rw [if_pos rfl] at h
      simp only [Option.some.injEq, Prod.mk.injEq] at h
      obtain ⟨rfl, rfl, rfl, rfl, rfl⟩ := h
      go_enter Try.func105, Try.ntmps105
      go_wp2_with (first | (go_at_call 70; (with_reducible refine (impl_allWorlds.calls _ _ _ HALL.out).mono ?_); rintro e w' ⟨rfl, ⟨nd, rfl⟩⟩) | (go_at_call 121; (with_reducible refine (impl_sentenceReader_next.calls g _ _ _ _ _ _ _ w0 _ ?side1 ?side2 HN.out).mono ?_); (case side1 => repeat (first | (with_reducible first | exact HI0.out | apply IsS94.alloc | apply IsS94.drewN | apply IsS94.drew) | exact HI0.out)); (case side2 => repeat (first | (with_reducible first | exact HB0.out | apply below_alloc | apply pw_below_drewN | apply below_drew1) | exact HB0.out)); rintro e w10 ⟨rfl, hi, hb, hk⟩; have HK1 := Aside0.mk (KeepBut.trans (by repeat (first | (with_reducible first | exact HK0.out | apply keep_drewN | apply keep_drew | apply keep_alloc) | exact HK0.out)) hk (.inl rfl)); have HB1 := Aside0.mk hb; have HI1 := Aside0.mk hi; clear HI0 HB0 HK0 hk hb hi))
      go_ret2
      exact ⟨by first | rfl | (simp; done), by repeat (first | (with_reducible first | exact HI1.out | apply IsS94.alloc | apply IsS94.drewN | apply IsS94.drew) | exact HI1.out), by repeat (first | (with_reducible first | exact HB1.out | apply below_alloc | apply pw_below_drewN | apply below_drew1) | exact HB1.out), by repeat (first | (with_reducible first | exact HK1.out | apply keep_drewN | apply keep_drew | apply keep_alloc) | exact HK1.out)⟩
    rw [if_neg cb48] at h
    have eb48 : (b == 48) = false := beq_eq_false_iff_ne.mpr cb48
    by_cases cb49 : b = 49
    · subst cb49
      rw [if_pos rfl] at h
      simp only [Option.some.injEq, Prod.mk.injEq] at h
      obtain ⟨rfl, rfl, rfl, rfl, rfl⟩ := h
      go_enter Try.func105, Try.ntmps105
      go_wp2_with (first | (go_at_call 70; (with_reducible refine (impl_allWorlds.calls _ _ _ HALL.out).mono ?_); rintro e w' ⟨rfl, ⟨nd, rfl⟩⟩) | (go_at_call 121; (with_reducible refine (impl_sentenceReader_next.calls g _ _ _ _ _ _ _ w0 _ ?side1 ?side2 HN.out).mono ?_); (case side1 => repeat (first | (with_reducible first | exact HI0.out | apply IsS94.alloc | apply IsS94.drewN | apply IsS94.drew) | exact HI0.out)); (case side2 => repeat (first | (with_reducible first | exact HB0.out | apply below_alloc | apply pw_below_drewN | apply below_drew1) | exact HB0.out)); rintro e w10 ⟨rfl, hi, hb, hk⟩; have HK1 := Aside0.mk (KeepBut.trans (by repeat (first | (with_reducible first | exact HK0.out | apply keep_drewN | apply keep_drew | apply keep_alloc) | exact HK0.out)) hk (.inl rfl)); have HB1 := Aside0.mk hb; have HI1 := Aside0.mk hi; clear HI0 HB0 HK0 hk hb hi))
      go_ret2
      exact ⟨by first | rfl | (simp; done), by repeat (first | (with_reducible first | exact HI1.out | apply IsS94.alloc | apply IsS94.drewN | apply IsS94.drew) | exact HI1.out), by repeat (first | (with_reducible first | exact HB1.out | apply below_alloc | apply pw_below_drewN | apply below_drew1) | exact HB1.out), by repeat (first | (with_reducible first | exact HK1.out | apply keep_drewN | apply keep_drew | apply keep_alloc) | exact HK1.out)⟩
    rw [if_neg cb49] at h
    have eb49 : (b == 49) = false := beq_eq_false_iff_ne.mpr cb49
    by_cases cl : b = 97 ∨ b = 98 ∨ b = 99
    · rw [if_pos cl] at h
      simp only [Option.some.injEq, Prod.mk.injEq] at h
      obtain ⟨rfl, rfl, rfl, rfl, rfl⟩ := h
      clear ih cb48 cb49
      obtain ⟨en0, en1⟩ := impl_sentenceReader_sentence.kept HN.out
      subst en0
      subst en1
      rcases cl with rfl | rfl | rfl
      · go_enter Try.func105, Try.ntmps105
        go_wp2_with (first | (go_at_call 70; (with_reducible refine (impl_allWorlds.calls _ _ _ HALL.out).mono ?_); rintro e w' ⟨rfl, ⟨nd, rfl⟩⟩) | (go_at_call 121; (with_reducible refine (impl_sentenceReader_next.calls g _ _ _ _ _ _ _ w0 _ ?side1 ?side2 HN.out).mono ?_); (case side1 => repeat (first | (with_reducible first | exact HI0.out | apply IsS94.alloc | apply IsS94.drewN | apply IsS94.drew) | exact HI0.out)); (case side2 => repeat (first | (with_reducible first | exact HB0.out | apply below_alloc | apply pw_below_drewN | apply below_drew1) | exact HB0.out)); rintro e w10 ⟨rfl, hi, hb, hk⟩; have HK1 := Aside0.mk (KeepBut.trans (by repeat (first | (with_reducible first | exact HK0.out | apply keep_drewN | apply keep_drew | apply keep_alloc) | exact HK0.out)) hk (.inl rfl)); have HB1 := Aside0.mk hb; have HI1 := Aside0.mk hi; clear HI0 HB0 HK0 hk hb hi))
        obtain ⟨HGy, hgy⟩ := IsS94.alloc HI1.out (.cells #[.int .i64 0] 3)
        have hcy_0 := cellS94_0 HGy
        have hfy_0 := blk_frozen HGy 0
        clear HGy hgy
        have hcx : (w10.alloc (.cells #[.int .i64 0] 3)).cell? ⟨w10.heap.size, 0, none⟩ = some (.int .i64 0) := (World.cell?_alloc_at _ 3 w10.heap.size 0 rfl).trans rfl
        go_quiet (first | (go_at_call 90; exact Calls.quiet_of (impl_sentenceReader_sentence.setA _ 0 97 w10.heap.size _ ht (by decide) (by decide) rfl hcx)))
        try go_wp2_with (fail)
        go_ret2
        exact ⟨by first | rfl | (simp; done), by repeat (first | (with_reducible first | exact HI1.out | apply IsS94.alloc | apply IsS94.drewN | apply IsS94.drew) | exact HI1.out), by repeat (first | (with_reducible first | exact HB1.out | apply below_alloc | apply pw_below_drewN | apply below_drew1) | exact HB1.out), by repeat (first | (with_reducible first | exact HK1.out | apply keep_drewN | apply keep_drew | apply keep_alloc) | exact HK1.out)⟩
      · go_enter Try.func105, Try.ntmps105
        go_wp2_with (first | (go_at_call 70; (with_reducible refine (impl_allWorlds.calls _ _ _ HALL.out).mono ?_); rintro e w' ⟨rfl, ⟨nd, rfl⟩⟩) | (go_at_call 121; (with_reducible refine (impl_sentenceReader_next.calls g _ _ _ _ _ _ _ w0 _ ?side1 ?side2 HN.out).mono ?_); (case side1 => repeat (first | (with_reducible first | exact HI0.out | apply IsS94.alloc | apply IsS94.drewN | apply IsS94.drew) | exact HI0.out)); (case side2 => repeat (first | (with_reducible first | exact HB0.out | apply below_alloc | apply pw_below_drewN | apply below_drew1) | exact HB0.out)); rintro e w10 ⟨rfl, hi, hb, hk⟩; have HK1 := Aside0.mk (KeepBut.trans (by repeat (first | (with_reducible first | exact HK0.out | apply keep_drewN | apply keep_drew | apply keep_alloc) | exact HK0.out)) hk (.inl rfl)); have HB1 := Aside0.mk hb; have HI1 := Aside0.mk hi; clear HI0 HB0 HK0 hk hb hi))
        obtain ⟨HGy, hgy⟩ := IsS94.alloc HI1.out (.cells #[.int .i64 1] 3)
        have hcy_0 := cellS94_0 HGy
        have hfy_0 := blk_frozen HGy 0
        clear HGy hgy
        have hcx : (w10.alloc (.cells #[.int .i64 1] 3)).cell? ⟨w10.heap.size, 0, none⟩ = some (.int .i64 1) := (World.cell?_alloc_at _ 3 w10.heap.size 0 rfl).trans rfl
        go_quiet (first | (go_at_call 90; exact Calls.quiet_of (impl_sentenceReader_sentence.setA _ 1 98 w10.heap.size _ ht (by decide) (by decide) rfl hcx)))
        try go_wp2_with (fail)
        go_ret2
        exact ⟨by first | rfl | (simp; done), by repeat (first | (with_reducible first | exact HI1.out | apply IsS94.alloc | apply IsS94.drewN | apply IsS94.drew) | exact HI1.out), by repeat (first | (with_reducible first | exact HB1.out | apply below_alloc | apply pw_below_drewN | apply below_drew1) | exact HB1.out), by repeat (first | (with_reducible first | exact HK1.out | apply keep_drewN | apply keep_drew | apply keep_alloc) | exact HK1.out)⟩
      · go_enter Try.func105, Try.ntmps105
        go_wp2_with (first | (go_at_call 70; (with_reducible refine (impl_allWorlds.calls _ _ _ HALL.out).mono ?_); rintro e w' ⟨rfl, ⟨nd, rfl⟩⟩) | (go_at_call 121; (with_reducible refine (impl_sentenceReader_next.calls g _ _ _ _ _ _ _ w0 _ ?side1 ?side2 HN.out).mono ?_); (case side1 => repeat (first | (with_reducible first | exact HI0.out | apply IsS94.alloc | apply IsS94.drewN | apply IsS94.drew) | exact HI0.out)); (case side2 => repeat (first | (with_reducible first | exact HB0.out | apply below_alloc | apply pw_below_drewN | apply below_drew1) | exact HB0.out)); rintro e w10 ⟨rfl, hi, hb, hk⟩; have HK1 := Aside0.mk (KeepBut.trans (by repeat (first | (with_reducible first | exact HK0.out | apply keep_drewN | apply keep_drew | apply keep_alloc) | exact HK0.out)) hk (.inl rfl)); have HB1 := Aside0.mk hb; have HI1 := Aside0.mk hi; clear HI0 HB0 HK0 hk hb hi))
        obtain ⟨HGy, hgy⟩ := IsS94.alloc HI1.out (.cells #[.int .i64 2] 3)
        have hcy_0 := cellS94_0 HGy
        have hfy_0 := blk_frozen HGy 0
        clear HGy hgy
        have hcx : (w10.alloc (.cells #[.int .i64 2] 3)).cell? ⟨w10.heap.size, 0, none⟩ = some (.int .i64 2) := (World.cell?_alloc_at _ 3 w10.heap.size 0 rfl).trans rfl
        go_quiet (first | (go_at_call 90; exact Calls.quiet_of (impl_sentenceReader_sentence.setA _ 2 99 w10.heap.size _ ht (by decide) (by decide) rfl hcx)))
        try go_wp2_with (fail)
        go_ret2
        exact ⟨by first | rfl | (simp; done), by repeat (first | (with_reducible first | exact HI1.out | apply IsS94.alloc | apply IsS94.drewN | apply IsS94.drew) | exact HI1.out), by repeat (first | (with_reducible first | exact HB1.out | apply below_alloc | apply pw_below_drewN | apply below_drew1) | exact HB1.out), by repeat (first | (with_reducible first | exact HK1.out | apply keep_drewN | apply keep_drew | apply keep_alloc) | exact HK1.out)⟩
    rw [if_neg cl] at h
    have eb97 : (b == 97) = false := beq_eq_false_iff_ne.mpr (fun e => cl (.inl e))
    have eb98 : (b == 98) = false := beq_eq_false_iff_ne.mpr (fun e => cl (.inr (.inl e)))
    have eb99 : (b == 99) = false := beq_eq_false_iff_ne.mpr (fun e => cl (.inr (.inr e)))
    by_cases cb33 : b = 33
    · subst cb33
      rw [if_pos rfl] at h
      obtain ⟨⟨p1, p2, p3, p4, p5⟩, hp, h⟩ := Option.bind_eq_some_iff.mp h
      have HP := Aside0.mk hp
      clear hp
      dsimp only at h
      simp only [Option.some.injEq, Prod.mk.injEq] at h
      obtain ⟨rfl, rfl, rfl, rfl, rfl⟩ := h
      go_enter Try.func105, Try.ntmps105
      go_wp2_with (first | (go_at_call 70; (with_reducible refine (impl_allWorlds.calls _ _ _ HALL.out).mono ?_); rintro e w' ⟨rfl, ⟨nd, rfl⟩⟩) | (go_at_call 121; (with_reducible refine (impl_sentenceReader_next.calls g _ _ _ _ _ _ _ w0 _ ?side1 ?side2 HN.out).mono ?_); (case side1 => repeat (first | (with_reducible first | exact HI0.out | apply IsS94.alloc | apply IsS94.drewN | apply IsS94.drew) | exact HI0.out)); (case side2 => repeat (first | (with_reducible first | exact HB0.out | apply below_alloc | apply pw_below_drewN | apply below_drew1) | exact HB0.out)); rintro e w10 ⟨rfl, hi, hb, hk⟩; have HK1 := Aside0.mk (KeepBut.trans (by repeat (first | (with_reducible first | exact HK0.out | apply keep_drewN | apply keep_drew | apply keep_alloc) | exact HK0.out)) hk (.inl rfl)); have HB1 := Aside0.mk hb; have HI1 := Aside0.mk hi; clear HI0 HB0 HK0 hk hb hi) | (go_at_call 105; (with_reducible refine (ih g _ _ _ _ _ _ _ _ w0 _ ?side1 ?side2 HP.out).mono ?_); (case side1 => repeat (first | (with_reducible first | exact HI1.out | apply IsS94.alloc | apply IsS94.drewN | apply IsS94.drew) | exact HI1.out)); (case side2 => repeat (first | (with_reducible first | exact HB1.out | apply below_alloc | apply pw_below_drewN | apply below_drew1) | exact HB1.out)); rintro e w11 ⟨rfl, hi, hb, hk⟩; have HK2 := Aside0.mk (KeepBut.trans (by repeat (first | (with_reducible first | exact HK1.out | apply keep_drewN | apply keep_drew | apply keep_alloc) | exact HK1.out)) hk (.inl rfl)); have HB2 := Aside0.mk hb; have HI2 := Aside0.mk hi; clear HI1 HB1 HK1 hk hb hi))
      go_ret2
      exact ⟨by first | rfl | (simp; done), by repeat (first | (with_reducible first | exact HI2.out | apply IsS94.alloc | apply IsS94.drewN | apply IsS94.drew) | exact HI2.out), by repeat (first | (with_reducible first | exact HB2.out | apply below_alloc | apply pw_below_drewN | apply below_drew1) | exact HB2.out), by repeat (first | (with_reducible first | exact HK2.out | apply keep_drewN | apply keep_drew | apply keep_alloc) | exact HK2.out)⟩
    rw [if_neg cb33] at h
    have eb33 : (b == 33) = false := beq_eq_false_iff_ne.mpr cb33
    by_cases cb40 : b = 40
    case neg =>
      rw [if_neg cb40] at h
      have eb40 : (b == 40) = false := beq_eq_false_iff_ne.mpr cb40
      simp only [Option.some.injEq, Prod.mk.injEq] at h
      obtain ⟨rfl, rfl, rfl, rfl, rfl⟩ := h
      go_enter Try.func105, Try.ntmps105
      go_wp2_with (first | (go_at_call 70; (with_reducible refine (impl_allWorlds.calls _ _ _ HALL.out).mono ?_); rintro e w' ⟨rfl, ⟨nd, rfl⟩⟩) | (go_at_call 121; (with_reducible refine (impl_sentenceReader_next.calls g _ _ _ _ _ _ _ w0 _ ?side1 ?side2 HN.out).mono ?_); (case side1 => repeat (first | (with_reducible first | exact HI0.out | apply IsS94.alloc | apply IsS94.drewN | apply IsS94.drew) | exact HI0.out)); (case side2 => repeat (first | (with_reducible first | exact HB0.out | apply below_alloc | apply pw_below_drewN | apply below_drew1) | exact HB0.out)); rintro e w10 ⟨rfl, hi, hb, hk⟩; have HK1 := Aside0.mk (KeepBut.trans (by repeat (first | (with_reducible first | exact HK0.out | apply keep_drewN | apply keep_drew | apply keep_alloc) | exact HK0.out)) hk (.inl rfl)); have HB1 := Aside0.mk hb; have HI1 := Aside0.mk hi; clear HI0 HB0 HK0 hk hb hi))
      go_ret2
      exact ⟨by first | rfl | (simp; done), by repeat (first | (with_reducible first | exact HI1.out | apply IsS94.alloc | apply IsS94.drewN | apply IsS94.drew) | exact HI1.out), by repeat (first | (with_reducible first | exact HB1.out | apply below_alloc | apply pw_below_drewN | apply below_drew1) | exact HB1.out), by repeat (first | (with_reducible first | exact HK1.out | apply keep_drewN | apply keep_drew | apply keep_alloc) | exact HK1.out)⟩
    subst cb40
    rw [if_pos rfl] at h
    obtain ⟨⟨p1, p2, p3, p4, p5⟩, hp, h⟩ := Option.bind_eq_some_iff.mp h
    have HP := Aside0.mk hp
    clear hp
    dsimp only at h
    cases p2
    case false =>
      rw [if_neg (by decide)] at h
      simp only [Option.some.injEq, Prod.mk.injEq] at h
      obtain ⟨rfl, rfl, rfl, rfl, rfl⟩ := h
      go_enter Try.func105, Try.ntmps105
      go_wp2_with (first | (go_at_call 70; (with_reducible refine (impl_allWorlds.calls _ _ _ HALL.out).mono ?_); rintro e w' ⟨rfl, ⟨nd, rfl⟩⟩) | (go_at_call 121; (with_reducible refine (impl_sentenceReader_next.calls g _ _ _ _ _ _ _ w0 _ ?side1 ?side2 HN.out).mono ?_); (case side1 => repeat (first | (with_reducible first | exact HI0.out | apply IsS94.alloc | apply IsS94.drewN | apply IsS94.drew) | exact HI0.out)); (case side2 => repeat (first | (with_reducible first | exact HB0.out | apply below_alloc | apply pw_below_drewN | apply below_drew1) | exact HB0.out)); rintro e w10 ⟨rfl, hi, hb, hk⟩; have HK1 := Aside0.mk (KeepBut.trans (by repeat (first | (with_reducible first | exact HK0.out | apply keep_drewN | apply keep_drew | apply keep_alloc) | exact HK0.out)) hk (.inl rfl)); have HB1 := Aside0.mk hb; have HI1 := Aside0.mk hi; clear HI0 HB0 HK0 hk hb hi) | (go_at_call 105; (with_reducible refine (ih g _ _ _ _ _ _ _ _ w0 _ ?side1 ?side2 HP.out).mono ?_); (case side1 => repeat (first | (with_reducible first | exact HI1.out | apply IsS94.alloc | apply IsS94.drewN | apply IsS94.drew) | exact HI1.out)); (case side2 => repeat (first | (with_reducible first | exact HB1.out | apply below_alloc | apply pw_below_drewN | apply below_drew1) | exact HB1.out)); rintro e w11 ⟨rfl, hi, hb, hk⟩; have HK2 := Aside0.mk (KeepBut.trans (by repeat (first | (with_reducible first | exact HK1.out | apply keep_drewN | apply keep_drew | apply keep_alloc) | exact HK1.out)) hk (.inl rfl)); have HB2 := Aside0.mk hb; have HI2 := Aside0.mk hi; clear HI1 HB1 HK1 hk hb hi))
      go_ret2
      exact ⟨by first | rfl | (simp; done), by repeat (first | (with_reducible first | exact HI2.out | apply IsS94.alloc | apply IsS94.drewN | apply IsS94.drew) | exact HI2.out), by repeat (first | (with_reducible first | exact HB2.out | apply below_alloc | apply pw_below_drewN | apply below_drew1) | exact HB2.out), by repeat (first | (with_reducible first | exact HK2.out | apply keep_drewN | apply keep_drew | apply keep_alloc) | exact HK2.out)⟩
    rw [if_pos rfl] at h
    obtain ⟨⟨gg, g0, g1, g2⟩, hg, h⟩ := Option.bind_eq_some_iff.mp h
    have HG := Aside0.mk hg
    clear hg
    dsimp only at h
    obtain ⟨⟨q1, q2, q3, q4, q5⟩, hq, h⟩ := Option.bind_eq_some_iff.mp h
    have HQ := Aside0.mk hq
    clear hq
    dsimp only at h
    cases q2
    case false =>
      rw [if_neg (by decide)] at h
      simp only [Option.some.injEq, Prod.mk.injEq] at h
      obtain ⟨rfl, rfl, rfl, rfl, rfl⟩ := h
      go_enter Try.func105, Try.ntmps105
      go_wp2_with (first | (go_at_call 70; (with_reducible refine (impl_allWorlds.calls _ _ _ HALL.out).mono ?_); rintro e w' ⟨rfl, ⟨nd, rfl⟩⟩) | (go_at_call 121; (with_reducible refine (impl_sentenceReader_next.calls g _ _ _ _ _ _ _ w0 _ ?side1 ?side2 HN.out).mono ?_); (case side1 => repeat (first | (with_reducible first | exact HI0.out | apply IsS94.alloc | apply IsS94.drewN | apply IsS94.drew) | exact HI0.out)); (case side2 => repeat (first | (with_reducible first | exact HB0.out | apply below_alloc | apply pw_below_drewN | apply below_drew1) | exact HB0.out)); rintro e w10 ⟨rfl, hi, hb, hk⟩; have HK1 := Aside0.mk (KeepBut.trans (by repeat (first | (with_reducible first | exact HK0.out | apply keep_drewN | apply keep_drew | apply keep_alloc) | exact HK0.out)) hk (.inl rfl)); have HB1 := Aside0.mk hb; have HI1 := Aside0.mk hi; clear HI0 HB0 HK0 hk hb hi) | (go_at_call 105; (with_reducible refine (ih g _ _ _ _ _ _ _ _ w0 _ ?side1 ?side2 HP.out).mono ?_); (case side1 => repeat (first | (with_reducible first | exact HI1.out | apply IsS94.alloc | apply IsS94.drewN | apply IsS94.drew) | exact HI1.out)); (case side2 => repeat (first | (with_reducible first | exact HB1.out | apply below_alloc | apply pw_below_drewN | apply below_drew1) | exact HB1.out)); rintro e w11 ⟨rfl, hi, hb, hk⟩; have HK2 := Aside0.mk (KeepBut.trans (by repeat (first | (with_reducible first | exact HK1.out | apply keep_drewN | apply keep_drew | apply keep_alloc) | exact HK1.out)) hk (.inl rfl)); have HB2 := Aside0.mk hb; have HI2 := Aside0.mk hi; clear HI1 HB1 HK1 hk hb hi) | (go_at_call 121; (with_reducible refine (impl_sentenceReader_next.calls g _ _ _ _ _ _ _ w0 _ ?side1 ?side2 HG.out).mono ?_); (case side1 => repeat (first | (with_reducible first | exact HI2.out | apply IsS94.alloc | apply IsS94.drewN | apply IsS94.drew) | exact HI2.out)); (case side2 => repeat (first | (with_reducible first | exact HB2.out | apply below_alloc | apply pw_below_drewN | apply below_drew1) | exact HB2.out)); rintro e w12 ⟨rfl, hi, hb, hk⟩; have HK3 := Aside0.mk (KeepBut.trans (by repeat (first | (with_reducible first | exact HK2.out | apply keep_drewN | apply keep_drew | apply keep_alloc) | exact HK2.out)) hk (.inl rfl)); have HB3 := Aside0.mk hb; have HI3 := Aside0.mk hi; clear HI2 HB2 HK2 hk hb hi) | (go_at_call 105; (with_reducible refine (ih g _ _ _ _ _ _ _ _ w0 _ ?side1 ?side2 HQ.out).mono ?_); (case side1 => repeat (first | (with_reducible first | exact HI3.out | apply IsS94.alloc | apply IsS94.drewN | apply IsS94.drew) | exact HI3.out)); (case side2 => repeat (first | (with_reducible first | exact HB3.out | apply below_alloc | apply pw_below_drewN | apply below_drew1) | exact HB3.out)); rintro e w13 ⟨rfl, hi, hb, hk⟩; have HK4 := Aside0.mk (KeepBut.trans (by repeat (first | (with_reducible first | exact HK3.out | apply keep_drewN | apply keep_drew | apply keep_alloc) | exact HK3.out)) hk (.inl rfl)); have HB4 := Aside0.mk hb; have HI4 := Aside0.mk hi; clear HI3 HB3 HK3 hk hb hi))
      go_ret2
      exact ⟨by first | rfl | (simp; done), by repeat (first | (with_reducible first | exact HI4.out | apply IsS94.alloc | apply IsS94.drewN | apply IsS94.drew) | exact HI4.out), by repeat (first | (with_reducible first | exact HB4.out | apply below_alloc | apply pw_below_drewN | apply below_drew1) | exact HB4.out), by repeat (first | (with_reducible first | exact HK4.out | apply keep_drewN | apply keep_drew | apply keep_alloc) | exact HK4.out)⟩
    rw [if_pos rfl] at h
    obtain ⟨⟨cc, d0, d1, d2⟩, hc, h⟩ := Option.bind_eq_some_iff.mp h
    have HC := Aside0.mk hc
    clear hc
    dsimp only at h
    by_cases ccc41 : cc = 41
    case neg =>
      rw [if_neg ccc41] at h
      have ecc41 : (cc == 41) = false := beq_eq_false_iff_ne.mpr ccc41
      have fcc41 : (cc != 41) = true := bne_iff_ne.mpr ccc41
      simp only [Option.some.injEq, Prod.mk.injEq] at h
      obtain ⟨rfl, rfl, rfl, rfl, rfl⟩ := h
      go_enter Try.func105, Try.ntmps105
      go_wp2_with (first | (go_at_call 70; (with_reducible refine (impl_allWorlds.calls _ _ _ HALL.out).mono ?_); rintro e w' ⟨rfl, ⟨nd, rfl⟩⟩) | (go_at_call 121; (with_reducible refine (impl_sentenceReader_next.calls g _ _ _ _ _ _ _ w0 _ ?side1 ?side2 HN.out).mono ?_); (case side1 => repeat (first | (with_reducible first | exact HI0.out | apply IsS94.alloc | apply IsS94.drewN | apply IsS94.drew) | exact HI0.out)); (case side2 => repeat (first | (with_reducible first | exact HB0.out | apply below_alloc | apply pw_below_drewN | apply below_drew1) | exact HB0.out)); rintro e w10 ⟨rfl, hi, hb, hk⟩; have HK1 := Aside0.mk (KeepBut.trans (by repeat (first | (with_reducible first | exact HK0.out | apply keep_drewN | apply keep_drew | apply keep_alloc) | exact HK0.out)) hk (.inl rfl)); have HB1 := Aside0.mk hb; have HI1 := Aside0.mk hi; clear HI0 HB0 HK0 hk hb hi) | (go_at_call 105; (with_reducible refine (ih g _ _ _ _ _ _ _ _ w0 _ ?side1 ?side2 HP.out).mono ?_); (case side1 => repeat (first | (with_reducible first | exact HI1.out | apply IsS94.alloc | apply IsS94.drewN | apply IsS94.drew) | exact HI1.out)); (case side2 => repeat (first | (with_reducible first | exact HB1.out | apply below_alloc | apply pw_below_drewN | apply below_drew1) | exact HB1.out)); rintro e w11 ⟨rfl, hi, hb, hk⟩; have HK2 := Aside0.mk (KeepBut.trans (by repeat (first | (with_reducible first | exact HK1.out | apply keep_drewN | apply keep_drew | apply keep_alloc) | exact HK1.out)) hk (.inl rfl)); have HB2 := Aside0.mk hb; have HI2 := Aside0.mk hi; clear HI1 HB1 HK1 hk hb hi) | (go_at_call 121; (with_reducible refine (impl_sentenceReader_next.calls g _ _ _ _ _ _ _ w0 _ ?side1 ?side2 HG.out).mono ?_); (case side1 => repeat (first | (with_reducible first | exact HI2.out | apply IsS94.alloc | apply IsS94.drewN | apply IsS94.drew) | exact HI2.out)); (case side2 => repeat (first | (with_reducible first | exact HB2.out | apply below_alloc | apply pw_below_drewN | apply below_drew1) | exact HB2.out)); rintro e w12 ⟨rfl, hi, hb, hk⟩; have HK3 := Aside0.mk (KeepBut.trans (by repeat (first | (with_reducible first | exact HK2.out | apply keep_drewN | apply keep_drew | apply keep_alloc) | exact HK2.out)) hk (.inl rfl)); have HB3 := Aside0.mk hb; have HI3 := Aside0.mk hi; clear HI2 HB2 HK2 hk hb hi) | (go_at_call 105; (with_reducible refine (ih g _ _ _ _ _ _ _ _ w0 _ ?side1 ?side2 HQ.out).mono ?_); (case side1 => repeat (first | (with_reducible first | exact HI3.out | apply IsS94.alloc | apply IsS94.drewN | apply IsS94.drew) | exact HI3.out)); (case side2 => repeat (first | (with_reducible first | exact HB3.out | apply below_alloc | apply pw_below_drewN | apply below_drew1) | exact HB3.out)); rintro e w13 ⟨rfl, hi, hb, hk⟩; have HK4 := Aside0.mk (KeepBut.trans (by repeat (first | (with_reducible first | exact HK3.out | apply keep_drewN | apply keep_drew | apply keep_alloc) | exact HK3.out)) hk (.inl rfl)); have HB4 := Aside0.mk hb; have HI4 := Aside0.mk hi; clear HI3 HB3 HK3 hk hb hi) | (go_at_call 121; (with_reducible refine (impl_sentenceReader_next.calls g _ _ _ _ _ _ _ w0 _ ?side1 ?side2 HC.out).mono ?_); (case side1 => repeat (first | (with_reducible first | exact HI4.out | apply IsS94.alloc | apply IsS94.drewN | apply IsS94.drew) | exact HI4.out)); (case side2 => repeat (first | (with_reducible first | exact HB4.out | apply below_alloc | apply pw_below_drewN | apply below_drew1) | exact HB4.out)); rintro e w14 ⟨rfl, hi, hb, hk⟩; have HK5 := Aside0.mk (KeepBut.trans (by repeat (first | (with_reducible first | exact HK4.out | apply keep_drewN | apply keep_drew | apply keep_alloc) | exact HK4.out)) hk (.inl rfl)); have HB5 := Aside0.mk hb; have HI5 := Aside0.mk hi; clear HI4 HB4 HK4 hk hb hi))
      go_ret2
      exact ⟨by first | rfl | (simp; done), by repeat (first | (with_reducible first | exact HI5.out | apply IsS94.alloc | apply IsS94.drewN | apply IsS94.drew) | exact HI5.out), by repeat (first | (with_reducible first | exact HB5.out | apply below_alloc | apply pw_below_drewN | apply below_drew1) | exact HB5.out), by repeat (first | (with_reducible first | exact HK5.out | apply keep_drewN | apply keep_drew | apply keep_alloc) | exact HK5.out)⟩
    subst ccc41
    rw [if_pos rfl] at h
    by_cases cgg38 : gg = 38
    · subst cgg38
      rw [if_pos rfl] at h
      simp only [Option.some.injEq, Prod.mk.injEq] at h
      obtain ⟨rfl, rfl, rfl, rfl, rfl⟩ := h
      go_enter Try.func105, Try.ntmps105
      go_wp2_with (first | (go_at_call 70; (with_reducible refine (impl_allWorlds.calls _ _ _ HALL.out).mono ?_); rintro e w' ⟨rfl, ⟨nd, rfl⟩⟩) | (go_at_call 121; (with_reducible refine (impl_sentenceReader_next.calls g _ _ _ _ _ _ _ w0 _ ?side1 ?side2 HN.out).mono ?_); (case side1 => repeat (first | (with_reducible first | exact HI0.out | apply IsS94.alloc | apply IsS94.drewN | apply IsS94.drew) | exact HI0.out)); (case side2 => repeat (first | (with_reducible first | exact HB0.out | apply below_alloc | apply pw_below_drewN | apply below_drew1) | exact HB0.out)); rintro e w10 ⟨rfl, hi, hb, hk⟩; have HK1 := Aside0.mk (KeepBut.trans (by repeat (first | (with_reducible first | exact HK0.out | apply keep_drewN | apply keep_drew | apply keep_alloc) | exact HK0.out)) hk (.inl rfl)); have HB1 := Aside0.mk hb; have HI1 := Aside0.mk hi; clear HI0 HB0 HK0 hk hb hi) | (go_at_call 105; (with_reducible refine (ih g _ _ _ _ _ _ _ _ w0 _ ?side1 ?side2 HP.out).mono ?_); (case side1 => repeat (first | (with_reducible first | exact HI1.out | apply IsS94.alloc | apply IsS94.drewN | apply IsS94.drew) | exact HI1.out)); (case side2 => repeat (first | (with_reducible first | exact HB1.out | apply below_alloc | apply pw_below_drewN | apply below_drew1) | exact HB1.out)); rintro e w11 ⟨rfl, hi, hb, hk⟩; have HK2 := Aside0.mk (KeepBut.trans (by repeat (first | (with_reducible first | exact HK1.out | apply keep_drewN | apply keep_drew | apply keep_alloc) | exact HK1.out)) hk (.inl rfl)); have HB2 := Aside0.mk hb; have HI2 := Aside0.mk hi; clear HI1 HB1 HK1 hk hb hi) | (go_at_call 121; (with_reducible refine (impl_sentenceReader_next.calls g _ _ _ _ _ _ _ w0 _ ?side1 ?side2 HG.out).mono ?_); (case side1 => repeat (first | (with_reducible first | exact HI2.out | apply IsS94.alloc | apply IsS94.drewN | apply IsS94.drew) | exact HI2.out)); (case side2 => repeat (first | (with_reducible first | exact HB2.out | apply below_alloc | apply pw_below_drewN | apply below_drew1) | exact HB2.out)); rintro e w12 ⟨rfl, hi, hb, hk⟩; have HK3 := Aside0.mk (KeepBut.trans (by repeat (first | (with_reducible first | exact HK2.out | apply keep_drewN | apply keep_drew | apply keep_alloc) | exact HK2.out)) hk (.inl rfl)); have HB3 := Aside0.mk hb; have HI3 := Aside0.mk hi; clear HI2 HB2 HK2 hk hb hi) | (go_at_call 105; (with_reducible refine (ih g _ _ _ _ _ _ _ _ w0 _ ?side1 ?side2 HQ.out).mono ?_); (case side1 => repeat (first | (with_reducible first | exact HI3.out | apply IsS94.alloc | apply IsS94.drewN | apply IsS94.drew) | exact HI3.out)); (case side2 => repeat (first | (with_reducible first | exact HB3.out | apply below_alloc | apply pw_below_drewN | apply below_drew1) | exact HB3.out)); rintro e w13 ⟨rfl, hi, hb, hk⟩; have HK4 := Aside0.mk (KeepBut.trans (by repeat (first | (with_reducible first | exact HK3.out | apply keep_drewN | apply keep_drew | apply keep_alloc) | exact HK3.out)) hk (.inl rfl)); have HB4 := Aside0.mk hb; have HI4 := Aside0.mk hi; clear HI3 HB3 HK3 hk hb hi) | (go_at_call 121; (with_reducible refine (impl_sentenceReader_next.calls g _ _ _ _ _ _ _ w0 _ ?side1 ?side2 HC.out).mono ?_); (case side1 => repeat (first | (with_reducible first | exact HI4.out | apply IsS94.alloc | apply IsS94.drewN | apply IsS94.drew) | exact HI4.out)); (case side2 => repeat (first | (with_reducible first | exact HB4.out | apply below_alloc | apply pw_below_drewN | apply below_drew1) | exact HB4.out)); rintro e w14 ⟨rfl, hi, hb, hk⟩; have HK5 := Aside0.mk (KeepBut.trans (by repeat (first | (with_reducible first | exact HK4.out | apply keep_drewN | apply keep_drew | apply keep_alloc) | exact HK4.out)) hk (.inl rfl)); have HB5 := Aside0.mk hb; have HI5 := Aside0.mk hi; clear HI4 HB4 HK4 hk hb hi))
      go_ret2
      exact ⟨by first | rfl | (simp; done), by repeat (first | (with_reducible first | exact HI5.out | apply IsS94.alloc | apply IsS94.drewN | apply IsS94.drew) | exact HI5.out), by repeat (first | (with_reducible first | exact HB5.out | apply below_alloc | apply pw_below_drewN | apply below_drew1) | exact HB5.out), by repeat (first | (with_reducible first | exact HK5.out | apply keep_drewN | apply keep_drew | apply keep_alloc) | exact HK5.out)⟩
    rw [if_neg cgg38] at h
    have egg38 : (gg == 38) = false := beq_eq_false_iff_ne.mpr cgg38
    by_cases cgg124 : gg = 124
    · subst cgg124
      rw [if_pos rfl] at h
      simp only [Option.some.injEq, Prod.mk.injEq] at h
      obtain ⟨rfl, rfl, rfl, rfl, rfl⟩ := h
      go_enter Try.func105, Try.ntmps105
      go_wp2_with (first | (go_at_call 70; (with_reducible refine (impl_allWorlds.calls _ _ _ HALL.out).mono ?_); rintro e w' ⟨rfl, ⟨nd, rfl⟩⟩) | (go_at_call 121; (with_reducible refine (impl_sentenceReader_next.calls g _ _ _ _ _ _ _ w0 _ ?side1 ?side2 HN.out).mono ?_); (case side1 => repeat (first | (with_reducible first | exact HI0.out | apply IsS94.alloc | apply IsS94.drewN | apply IsS94.drew) | exact HI0.out)); (case side2 => repeat (first | (with_reducible first | exact HB0.out | apply below_alloc | apply pw_below_drewN | apply below_drew1) | exact HB0.out)); rintro e w10 ⟨rfl, hi, hb, hk⟩; have HK1 := Aside0.mk (KeepBut.trans (by repeat (first | (with_reducible first | exact HK0.out | apply keep_drewN | apply keep_drew | apply keep_alloc) | exact HK0.out)) hk (.inl rfl)); have HB1 := Aside0.mk hb; have HI1 := Aside0.mk hi; clear HI0 HB0 HK0 hk hb hi) | (go_at_call 105; (with_reducible refine (ih g _ _ _ _ _ _ _ _ w0 _ ?side1 ?side2 HP.out).mono ?_); (case side1 => repeat (first | (with_reducible first | exact HI1.out | apply IsS94.alloc | apply IsS94.drewN | apply IsS94.drew) | exact HI1.out)); (case side2 => repeat (first | (with_reducible first | exact HB1.out | apply below_alloc | apply pw_below_drewN | apply below_drew1) | exact HB1.out)); rintro e w11 ⟨rfl, hi, hb, hk⟩; have HK2 := Aside0.mk (KeepBut.trans (by repeat (first | (with_reducible first | exact HK1.out | apply keep_drewN | apply keep_drew | apply keep_alloc) | exact HK1.out)) hk (.inl rfl)); have HB2 := Aside0.mk hb; have HI2 := Aside0.mk hi; clear HI1 HB1 HK1 hk hb hi) | (go_at_call 121; (with_reducible refine (impl_sentenceReader_next.calls g _ _ _ _ _ _ _ w0 _ ?side1 ?side2 HG.out).mono ?_); (case side1 => repeat (first | (with_reducible first | exact HI2.out | apply IsS94.alloc | apply IsS94.drewN | apply IsS94.drew) | exact HI2.out)); (case side2 => repeat (first | (with_reducible first | exact HB2.out | apply below_alloc | apply pw_below_drewN | apply below_drew1) | exact HB2.out)); rintro e w12 ⟨rfl, hi, hb, hk⟩; have HK3 := Aside0.mk (KeepBut.trans (by repeat (first | (with_reducible first | exact HK2.out | apply keep_drewN | apply keep_drew | apply keep_alloc) | exact HK2.out)) hk (.inl rfl)); have HB3 := Aside0.mk hb; have HI3 := Aside0.mk hi; clear HI2 HB2 HK2 hk hb hi) | (go_at_call 105; (with_reducible refine (ih g _ _ _ _ _ _ _ _ w0 _ ?side1 ?side2 HQ.out).mono ?_); (case side1 => repeat (first | (with_reducible first | exact HI3.out | apply IsS94.alloc | apply IsS94.drewN | apply IsS94.drew) | exact HI3.out)); (case side2 => repeat (first | (with_reducible first | exact HB3.out | apply below_alloc | apply pw_below_drewN | apply below_drew1) | exact HB3.out)); rintro e w13 ⟨rfl, hi, hb, hk⟩; have HK4 := Aside0.mk (KeepBut.trans (by repeat (first | (with_reducible first | exact HK3.out | apply keep_drewN | apply keep_drew | apply keep_alloc) | exact HK3.out)) hk (.inl rfl)); have HB4 := Aside0.mk hb; have HI4 := Aside0.mk hi; clear HI3 HB3 HK3 hk hb hi) | (go_at_call 121; (with_reducible refine (impl_sentenceReader_next.calls g _ _ _ _ _ _ _ w0 _ ?side1 ?side2 HC.out).mono ?_); (case side1 => repeat (first | (with_reducible first | exact HI4.out | apply IsS94.alloc | apply IsS94.drewN | apply IsS94.drew) | exact HI4.out)); (case side2 => repeat (first | (with_reducible first | exact HB4.out | apply below_alloc | apply pw_below_drewN | apply below_drew1) | exact HB4.out)); rintro e w14 ⟨rfl, hi, hb, hk⟩; have HK5 := Aside0.mk (KeepBut.trans (by repeat (first | (with_reducible first | exact HK4.out | apply keep_drewN | apply keep_drew | apply keep_alloc) | exact HK4.out)) hk (.inl rfl)); have HB5 := Aside0.mk hb; have HI5 := Aside0.mk hi; clear HI4 HB4 HK4 hk hb hi))
      go_ret2
      exact ⟨by first | rfl | (simp; done), by repeat (first | (with_reducible first | exact HI5.out | apply IsS94.alloc | apply IsS94.drewN | apply IsS94.drew) | exact HI5.out), by repeat (first | (with_reducible first | exact HB5.out | apply below_alloc | apply pw_below_drewN | apply below_drew1) | exact HB5.out), by repeat (first | (with_reducible first | exact HK5.out | apply keep_drewN | apply keep_drew | apply keep_alloc) | exact HK5.out)⟩
    rw [if_neg cgg124] at h
    have egg124 : (gg == 124) = false := beq_eq_false_iff_ne.mpr cgg124
    by_cases cgg62 : gg = 62
    · subst cgg62
      rw [if_pos rfl] at h
      simp only [Option.some.injEq, Prod.mk.injEq] at h
      obtain ⟨rfl, rfl, rfl, rfl, rfl⟩ := h
      go_enter Try.func105, Try.ntmps105
      go_wp2_with (first | (go_at_call 70; (with_reducible refine (impl_allWorlds.calls _ _ _ HALL.out).mono ?_); rintro e w' ⟨rfl, ⟨nd, rfl⟩⟩) | (go_at_call 121; (with_reducible refine (impl_sentenceReader_next.calls g _ _ _ _ _ _ _ w0 _ ?side1 ?side2 HN.out).mono ?_); (case side1 => repeat (first | (with_reducible first | exact HI0.out | apply IsS94.alloc | apply IsS94.drewN | apply IsS94.drew) | exact HI0.out)); (case side2 => repeat (first | (with_reducible first | exact HB0.out | apply below_alloc | apply pw_below_drewN | apply below_drew1) | exact HB0.out)); rintro e w10 ⟨rfl, hi, hb, hk⟩; have HK1 := Aside0.mk (KeepBut.trans (by repeat (first | (with_reducible first | exact HK0.out | apply keep_drewN | apply keep_drew | apply keep_alloc) | exact HK0.out)) hk (.inl rfl)); have HB1 := Aside0.mk hb; have HI1 := Aside0.mk hi; clear HI0 HB0 HK0 hk hb hi) | (go_at_call 105; (with_reducible refine (ih g _ _ _ _ _ _ _ _ w0 _ ?side1 ?side2 HP.out).mono ?_); (case side1 => repeat (first | (with_reducible first | exact HI1.out | apply IsS94.alloc | apply IsS94.drewN | apply IsS94.drew) | exact HI1.out)); (case side2 => repeat (first | (with_reducible first | exact HB1.out | apply below_alloc | apply pw_below_drewN | apply below_drew1) | exact HB1.out)); rintro e w11 ⟨rfl, hi, hb, hk⟩; have HK2 := Aside0.mk (KeepBut.trans (by repeat (first | (with_reducible first | exact HK1.out | apply keep_drewN | apply keep_drew | apply keep_alloc) | exact HK1.out)) hk (.inl rfl)); have HB2 := Aside0.mk hb; have HI2 := Aside0.mk hi; clear HI1 HB1 HK1 hk hb hi) | (go_at_call 121; (with_reducible refine (impl_sentenceReader_next.calls g _ _ _ _ _ _ _ w0 _ ?side1 ?side2 HG.out).mono ?_); (case side1 => repeat (first | (with_reducible first | exact HI2.out | apply IsS94.alloc | apply IsS94.drewN | apply IsS94.drew) | exact HI2.out)); (case side2 => repeat (first | (with_reducible first | exact HB2.out | apply below_alloc | apply pw_below_drewN | apply below_drew1) | exact HB2.out)); rintro e w12 ⟨rfl, hi, hb, hk⟩; have HK3 := Aside0.mk (KeepBut.trans (by repeat (first | (with_reducible first | exact HK2.out | apply keep_drewN | apply keep_drew | apply keep_alloc) | exact HK2.out)) hk (.inl rfl)); have HB3 := Aside0.mk hb; have HI3 := Aside0.mk hi; clear HI2 HB2 HK2 hk hb hi) | (go_at_call 105; (with_reducible refine (ih g _ _ _ _ _ _ _ _ w0 _ ?side1 ?side2 HQ.out).mono ?_); (case side1 => repeat (first | (with_reducible first | exact HI3.out | apply IsS94.alloc | apply IsS94.drewN | apply IsS94.drew) | exact HI3.out)); (case side2 => repeat (first | (with_reducible first | exact HB3.out | apply below_alloc | apply pw_below_drewN | apply below_drew1) | exact HB3.out)); rintro e w13 ⟨rfl, hi, hb, hk⟩; have HK4 := Aside0.mk (KeepBut.trans (by repeat (first | (with_reducible first | exact HK3.out | apply keep_drewN | apply keep_drew | apply keep_alloc) | exact HK3.out)) hk (.inl rfl)); have HB4 := Aside0.mk hb; have HI4 := Aside0.mk hi; clear HI3 HB3 HK3 hk hb hi) | (go_at_call 121; (with_reducible refine (impl_sentenceReader_next.calls g _ _ _ _ _ _ _ w0 _ ?side1 ?side2 HC.out).mono ?_); (case side1 => repeat (first | (with_reducible first | exact HI4.out | apply IsS94.alloc | apply IsS94.drewN | apply IsS94.drew) | exact HI4.out)); (case side2 => repeat (first | (with_reducible first | exact HB4.out | apply below_alloc | apply pw_below_drewN | apply below_drew1) | exact HB4.out)); rintro e w14 ⟨rfl, hi, hb, hk⟩; have HK5 := Aside0.mk (KeepBut.trans (by repeat (first | (with_reducible first | exact HK4.out | apply keep_drewN | apply keep_drew | apply keep_alloc) | exact HK4.out)) hk (.inl rfl)); have HB5 := Aside0.mk hb; have HI5 := Aside0.mk hi; clear HI4 HB4 HK4 hk hb hi))
      go_ret2
      exact ⟨by first | rfl | (simp; done), by repeat (first | (with_reducible first | exact HI5.out | apply IsS94.alloc | apply IsS94.drewN | apply IsS94.drew) | exact HI5.out), by repeat (first | (with_reducible first | exact HB5.out | apply below_alloc | apply pw_below_drewN | apply below_drew1) | exact HB5.out), by repeat (first | (with_reducible first | exact HK5.out | apply keep_drewN | apply keep_drew | apply keep_alloc) | exact HK5.out)⟩
    rw [if_neg cgg62] at h
    have egg62 : (gg == 62) = false := beq_eq_false_iff_ne.mpr cgg62
    simp only [Option.some.injEq, Prod.mk.injEq] at h
    obtain ⟨rfl, rfl, rfl, rfl, rfl⟩ := h
    go_enter Try.func105, Try.ntmps105
    go_wp2_with (first | (go_at_call 70; (with_reducible refine (impl_allWorlds.calls _ _ _ HALL.out).mono ?_); rintro e w' ⟨rfl, ⟨nd, rfl⟩⟩) | (go_at_call 121; (with_reducible refine (impl_sentenceReader_next.calls g _ _ _ _ _ _ _ w0 _ ?side1 ?side2 HN.out).mono ?_); (case side1 => repeat (first | (with_reducible first | exact HI0.out | apply IsS94.alloc | apply IsS94.drewN | apply IsS94.drew) | exact HI0.out)); (case side2 => repeat (first | (with_reducible first | exact HB0.out | apply below_alloc | apply pw_below_drewN | apply below_drew1) | exact HB0.out)); rintro e w10 ⟨rfl, hi, hb, hk⟩; have HK1 := Aside0.mk (KeepBut.trans (by repeat (first | (with_reducible first | exact HK0.out | apply keep_drewN | apply keep_drew | apply keep_alloc) | exact HK0.out)) hk (.inl rfl)); have HB1 := Aside0.mk hb; have HI1 := Aside0.mk hi; clear HI0 HB0 HK0 hk hb hi) | (go_at_call 105; (with_reducible refine (ih g _ _ _ _ _ _ _ _ w0 _ ?side1 ?side2 HP.out).mono ?_); (case side1 => repeat (first | (with_reducible first | exact HI1.out | apply IsS94.alloc | apply IsS94.drewN | apply IsS94.drew) | exact HI1.out)); (case side2 => repeat (first | (with_reducible first | exact HB1.out | apply below_alloc | apply pw_below_drewN | apply below_drew1) | exact HB1.out)); rintro e w11 ⟨rfl, hi, hb, hk⟩; have HK2 := Aside0.mk (KeepBut.trans (by repeat (first | (with_reducible first | exact HK1.out | apply keep_drewN | apply keep_drew | apply keep_alloc) | exact HK1.out)) hk (.inl rfl)); have HB2 := Aside0.mk hb; have HI2 := Aside0.mk hi; clear HI1 HB1 HK1 hk hb hi) | (go_at_call 121; (with_reducible refine (impl_sentenceReader_next.calls g _ _ _ _ _ _ _ w0 _ ?side1 ?side2 HG.out).mono ?_); (case side1 => repeat (first | (with_reducible first | exact HI2.out | apply IsS94.alloc | apply IsS94.drewN | apply IsS94.drew) | exact HI2.out)); (case side2 => repeat (first | (with_reducible first | exact HB2.out | apply below_alloc | apply pw_below_drewN | apply below_drew1) | exact HB2.out)); rintro e w12 ⟨rfl, hi, hb, hk⟩; have HK3 := Aside0.mk (KeepBut.trans (by repeat (first | (with_reducible first | exact HK2.out | apply keep_drewN | apply keep_drew | apply keep_alloc) | exact HK2.out)) hk (.inl rfl)); have HB3 := Aside0.mk hb; have HI3 := Aside0.mk hi; clear HI2 HB2 HK2 hk hb hi) | (go_at_call 105; (with_reducible refine (ih g _ _ _ _ _ _ _ _ w0 _ ?side1 ?side2 HQ.out).mono ?_); (case side1 => repeat (first | (with_reducible first | exact HI3.out | apply IsS94.alloc | apply IsS94.drewN | apply IsS94.drew) | exact HI3.out)); (case side2 => repeat (first | (with_reducible first | exact HB3.out | apply below_alloc | apply pw_below_drewN | apply below_drew1) | exact HB3.out)); rintro e w13 ⟨rfl, hi, hb, hk⟩; have HK4 := Aside0.mk (KeepBut.trans (by repeat (first | (with_reducible first | exact HK3.out | apply keep_drewN | apply keep_drew | apply keep_alloc) | exact HK3.out)) hk (.inl rfl)); have HB4 := Aside0.mk hb; have HI4 := Aside0.mk hi; clear HI3 HB3 HK3 hk hb hi) | (go_at_call 121; (with_reducible refine (impl_sentenceReader_next.calls g _ _ _ _ _ _ _ w0 _ ?side1 ?side2 HC.out).mono ?_); (case side1 => repeat (first | (with_reducible first | exact HI4.out | apply IsS94.alloc | apply IsS94.drewN | apply IsS94.drew) | exact HI4.out)); (case side2 => repeat (first | (with_reducible first | exact HB4.out | apply below_alloc | apply pw_below_drewN | apply below_drew1) | exact HB4.out)); rintro e w14 ⟨rfl, hi, hb, hk⟩; have HK5 := Aside0.mk (KeepBut.trans (by repeat (first | (with_reducible first | exact HK4.out | apply keep_drewN | apply keep_drew | apply keep_alloc) | exact HK4.out)) hk (.inl rfl)); have HB5 := Aside0.mk hb; have HI5 := Aside0.mk hi; clear HI4 HB4 HK4 hk hb hi))
    go_ret2
    exact ⟨by first | rfl | (simp; done), by repeat (first | (with_reducible first | exact HI5.out | apply IsS94.alloc | apply IsS94.drewN | apply IsS94.drew) | exact HI5.out), by repeat (first | (with_reducible first | exact HB5.out | apply below_alloc | apply pw_below_drewN | apply below_drew1) | exact HB5.out), by repeat (first | (with_reducible first | exact HK5.out | apply keep_drewN | apply keep_drew | apply keep_alloc) | exact HK5.out)⟩

end Go.Proofs.Ytfleephpcomimaa.V

/- Small facts for the contracts by hand: a world more in a set, a bit read, a function value that leaves memory alone. No condition. -/
import Derived.Test.YtfleephpcomimaaProg
import Derived.Below
import Derived.Deep.Draws
import Derived.Deep.AppendLies
import Derived.Maps.AppendAt
import Derived.OwnWalk
import Derived.Laws.BytesArg
import Derived.Laws.MakeOwn
import Derived.Laws.OwnMore
import Derived.Deep.OwnRows
import Derived.Tactics
import Derived.Lib.ConvBytes
import Derived.Laws.Slices
import Derived.WalkKit
import Derived.KernelRfl
import Derived.RowKit3
import Derived.Deep.LoopGhost
import Derived.Deep.QuietTactic
import Derived.BigQuiet
import Derived.WideLaws
import Derived.Deep.DeepCutAuto
import Derived.Deep.CutBlock
import Derived.Deep.RegionHeld3
import Derived.Laws.Rows
import Derived.Lib.AppendStr
import Derived.ArgAppend
import Derived.Laws.IdiomCopy
import Derived.OrdersHeld
import Derived.Laws.BitsLemmas
import Derived.RowKit
import Derived.Test.YtfleephpcomimaaWWords
import Derived.Test.YtfleephpcomimaaWLast
import Derived.Test.YtfleephpcomimaaWTab
import Derived.Test.YtfleephpcomimaaWFour
import Derived.Test.YtfleephpcomimaaWQPut
import Derived.Test.YtfleephpcomimaaWApart
import Derived.Test.YtfleephpcomimaaWArr
import Derived.Test.YtfleephpcomimaaWZeros
import Derived.Test.YtfleephpcomimaaWFoot
import Derived.Test.YtfleephpcomimaaWKept
import Derived.Test.YtfleephpcomimaaWShare
import Derived.Test.YtfleephpcomimaaWN
import Derived.Test.YtfleephpcomimaaWFootNe
import Derived.Test.YtfleephpcomimaaWAt
import Derived.Test.YtfleephpcomimaaWEqStruct
import Derived.Test.YtfleephpcomimaaWRepsOne
import Derived.Test.YtfleephpcomimaaWInv
import Derived.Test.YtfleephpcomimaaWInvWords
import Derived.Test.YtfleephpcomimaaWGuard
import Derived.Test.YtfleephpcomimaaWNEv
import Derived.Test.YtfleephpcomimaaWMore
import Derived.Test.YtfleephpcomimaaMath
set_option linter.unusedVariables false
set_option linter.unusedSimpArgs false
namespace Go.Proofs.BelM
open Go.RowKit Go.Proofs.YtfleephpcomimaaW.PrintWords Go.Proofs.YtfleephpcomimaaW.PrintLast Go.Proofs.YtfleephpcomimaaW.PrintMore
/-- One more world. -/
theorem or_next {p : Nat → Bool} {k : Nat} (hk : k < 8) (hp : p k = true) : bits .or .i64 (mk p k) (wrap64 (2 ^ k)) = mk p (k + 1) := by
  have h1 : mkN p k < 2 ^ k := mkN_lt p k
  have h2 : 2 ^ k ≤ 2 ^ 7 := Nat.pow_le_pow_right (by decide) (by omega)
  have h3 : (2 : Int) ^ k = ((2 ^ k : Nat) : Int) := by simp
  have h4 : wrap64 (2 ^ k) = ((2 ^ k : Nat) : Int) := by rw [h3]; unfold wrap64; omega
  rw [h4]
  unfold mk
  rw [(bits_nat .i64 63 (by decide) (fun n h0 h1 => by rw [IntKind.wrap_i64]; omega) _ _ (by omega) (by omega)).2]
  congr 1
  simp only [mkN, if_pos hp]
  have := Nat.two_pow_add_eq_or_of_lt (i := k) h1 1
  rw [Nat.mul_one] at this
  rw [Nat.or_comm, ← this, Nat.add_comm]
theorem mk_skip {p : Nat → Bool} {k : Nat} (hp : p k = false) : mk p k = mk p (k + 1) := by
  rw [mk_succ, if_neg (by simp [hp])]; omega
theorem and1 {s : Int} {k : Nat} (h0 : 0 ≤ s) (h1 : s < 256) : bits .and .i64 (s / 2 ^ k) 1 = if mem s k = true then 1 else 0 := by
  have e : s / 2 ^ k = ((s.toNat / 2 ^ k : Nat) : Int) := by
    have : s = (s.toNat : Int) := by omega
    rw [this, Int.toNat_natCast]; simp
  have hlt : s.toNat / 2 ^ k < 2 ^ 63 := Nat.lt_of_le_of_lt (Nat.div_le_self _ _) (by omega)
  rw [e, show (1 : Int) = ((1 : Nat) : Int) from rfl, (bits_nat .i64 63 (by decide) (fun n h0 h1 => by rw [IntKind.wrap_i64]; omega) _ 1 hlt (by decide)).1]
  rw [Nat.and_one_is_mod]
  unfold mem
  rw [Nat.testBit_eq_decide_div_mod_eq]
  by_cases h : s.toNat / 2 ^ k % 2 = 1
  · simp [h]
  · have : s.toNat / 2 ^ k % 2 = 0 := by omega
    simp [this]
theorem and1b {s : Int} {k : Nat} (h0 : 0 ≤ s) (h1 : s < 256) : (bits .and .i64 (s / 2 ^ k) 1 == 1) = mem s k := by
  rw [and1 h0 h1]
  cases mem s k <;> rfl
theorem xor_thing {k : Nat} {a2 : Int} (hk : k < 8) (h2 : 0 ≤ a2) (h2' : a2 < 3) : bits .xor .i64 k (IntKind.i64.wrap (2 ^ a2.toNat)) = ((k ^^^ 2 ^ a2.toNat : Nat) : Int) := by
  obtain rfl | rfl | rfl : a2 = 0 ∨ a2 = 1 ∨ a2 = 2 := by omega
  all_goals (revert k; decide)
theorem xor_thing_lt {k : Nat} {a2 : Int} (hk : k < 8) (h2 : 0 ≤ a2) (h2' : a2 < 3) : k ^^^ 2 ^ a2.toNat < 8 := by
  obtain rfl | rfl | rfl : a2 = 0 ∨ a2 = 1 ∨ a2 = 2 := by omega
  all_goals (revert k; decide)
theorem mk_next {p : Nat → Bool} {k : Nat} {b : Bool} (hb : p k = b) (hk : k < 8) : (if b = true then bits .or .i64 (mk p k) (wrap64 (2 ^ k)) else mk p k) = mk p (k + 1) := by
  cases b
  · simp; exact mk_skip hb
  · simp; exact or_next hk hb
/-! ### Go's operators on small sets -/
theorem wrap_small {n : Nat} (h : n < 256) : IntKind.i64.wrap (n : Int) = n := by rw [IntKind.wrap_i64]; omega
theorem nat_of {a : Int} (h0 : 0 ≤ a) (h1 : a < 256) : ∃ n : Nat, a = n ∧ n < 256 := ⟨a.toNat, by omega, by omega⟩
theorem lt8 {x : Nat} (h : ∀ w, 8 ≤ w → x.testBit w = false) : x < 256 := Nat.lt_pow_two_of_testBit (n := 8) x (fun i hi => h i hi)
theorem hi8 {n w : Nat} (h : n < 256) (hw : 8 ≤ w) : n.testBit w = false := Nat.testBit_lt_two_pow (Nat.lt_of_lt_of_le h (Nat.pow_le_pow_right (n := 2) (by decide) hw))
theorem ofInt_nat (n : Nat) : BitVec.ofInt 64 (n : Int) = BitVec.ofNat 64 n := BitVec.ofInt_natCast ..
def bvop (op : BinOp) (a b : BitVec 64) : BitVec 64 :=
  match op with
  | .and => a &&& b
  | .or => a ||| b
  | .xor => a ^^^ b
  | _ => a &&& ~~~b
theorem bits_bv (op : BinOp) (a b : Int) : bits op .i64 a b = IntKind.i64.wrap ((bvop op (BitVec.ofInt 64 a) (BitVec.ofInt 64 b)).toNat : Int) := by cases op <;> rfl
theorem bits_eq (op : BinOp) (f : Bool → Bool → Bool) (hf : f false false = false) (hop : ∀ (a b : BitVec 64) (i : Nat), i < 64 → (bvop op a b).getLsbD i = f (a.getLsbD i) (b.getLsbD i))
    {a b : Int} (ha : 0 ≤ a) (ha' : a < 256) (hb : 0 ≤ b) (hb' : b < 256) : bits op .i64 a b = mk (fun v => f (mem a v) (mem b v)) 8 := by
  obtain ⟨m, rfl, hm⟩ := nat_of ha ha'
  obtain ⟨n, rfl, hn⟩ := nat_of hb hb'
  rw [bits_bv]
  obtain ⟨X, hX⟩ : ∃ X, bvop op (BitVec.ofInt 64 (m : Int)) (BitVec.ofInt 64 (n : Int)) = X := ⟨_, rfl⟩
  have key : ∀ i, X.toNat.testBit i = f (m.testBit i) (n.testBit i) := by
    intro i
    rw [BitVec.testBit_toNat]
    by_cases hi : i < 64
    · rw [← hX, hop _ _ i hi, ofInt_nat, ofInt_nat, BitVec.getLsbD_ofNat, BitVec.getLsbD_ofNat]
      simp [hi]
    · rw [BitVec.getLsbD_of_ge _ _ (by omega), hi8 hm (by omega), hi8 hn (by omega), hf]
  have hlt := lt8 (x := X.toNat) (fun w hw => by rw [key, hi8 hm hw, hi8 hn hw, hf])
  rw [hX, wrap_small hlt]
  refine ext (n := 8) (by omega) (by omega) (mk_nonneg _ _) (mk_lt _ _) (fun w hw => ?_)
  rw [mem_mk_lt _ hw]
  show Nat.testBit (Int.toNat _) w = _
  rw [Int.toNat_natCast, key]
  rfl
theorem bits_and8 {a b : Int} (ha : 0 ≤ a) (ha' : a < 256) (hb : 0 ≤ b) (hb' : b < 256) : bits .and .i64 a b = mk (fun v => mem a v && mem b v) 8 :=
  bits_eq .and (fun x y => x && y) rfl (fun a b i hi => by simp [bvop]) ha ha' hb hb'
theorem bits_or8 {a b : Int} (ha : 0 ≤ a) (ha' : a < 256) (hb : 0 ≤ b) (hb' : b < 256) : bits .or .i64 a b = mk (fun v => mem a v || mem b v) 8 :=
  bits_eq .or (fun x y => x || y) rfl (fun a b i hi => by simp [bvop]) ha ha' hb hb'
theorem bits_xor8 {a b : Int} (ha : 0 ≤ a) (ha' : a < 256) (hb : 0 ≤ b) (hb' : b < 256) : bits .xor .i64 a b = mk (fun v => mem a v ^^ mem b v) 8 :=
  bits_eq .xor (fun x y => x ^^ y) rfl (fun a b i hi => by simp [bvop]) ha ha' hb hb'
theorem bits_andNot8 {a b : Int} (ha : 0 ≤ a) (ha' : a < 256) (hb : 0 ≤ b) (hb' : b < 256) : bits .andNot .i64 a b = mk (fun v => mem a v && !mem b v) 8 :=
  bits_eq .andNot (fun x y => x && !y) rfl (fun a b i hi => by simp [bvop, hi]) ha ha' hb hb'
/-- A set of few worlds is one of eight, and the other way. -/
theorem mk_of8 {p : Nat → Bool} {n : Nat} (hn : n ≤ 8) (h : ∀ w, n ≤ w → p w = false) : mk p 8 = mk p n := by
  have h1 : (2 : Int) ^ n ≤ 2 ^ 8 := by
    have : 2 ^ n ≤ 2 ^ 8 := Nat.pow_le_pow_right (by decide) hn
    exact_mod_cast this
  refine ext (n := 8) (mk_nonneg _ _) (mk_lt _ _) (mk_nonneg _ _) (Int.lt_of_lt_of_le (mk_lt p n) h1) (fun w hw => ?_)
  rw [mem_mk, mem_mk]
  by_cases hwn : w < n
  · simp [hw, hwn]
  · simp [hwn, h w (by omega)]
theorem lt256 {s : Int} {n : Nat} (hn : n ≤ 8) (h : s < 2 ^ n) : s < 256 := by
  have h1 : (2 : Int) ^ n ≤ 2 ^ 8 := by
    have : 2 ^ n ≤ 2 ^ 8 := Nat.pow_le_pow_right (by decide) hn
    exact_mod_cast this
  have : (2 : Int) ^ 8 = 256 := by decide
  omega
theorem and_mk {s : Int} {q : Nat → Bool} {n : Nat} (h0 : 0 ≤ s) (h1 : s < 256) (hn : n ≤ 8) : bits .and .i64 s (mk q n) = mk (fun v => mem s v && q v) n := by
  rw [bits_and8 h0 h1 (mk_nonneg _ _) (lt256 hn (mk_lt _ _)), mk_of8 hn (fun w hw => by rw [mem_high (mk_nonneg q n) (mk_lt q n) hw, Bool.and_false])]
  exact mk_congr (fun w hw => by rw [mem_mk_lt _ hw])
/-- A function value that answers p and leaves memory alone. -/
def SaysOf (P : Program) (F : Nat) (caps : List Value) (p : Nat → Bool) (n : Nat) (w : World) : Prop :=
  ∀ (k : Nat) (W : World), k < n → Drawn0 w W → Calls P F (#[.int .i64 k] ++ caps.toArray) W fun e w' => e = .returned (.bool (p k)) ∧ Drawn0 W w'
theorem drawn_trans {a b c : World} (h : Drawn0 a b) (k : Drawn0 b c) : Drawn0 a c := by
  obtain ⟨m, rfl⟩ := k
  exact h.step m
end Go.Proofs.BelM

/-
  No cell of these rows narrows 'for every input' (looked for: loops, veiled, ifaces, maps, wideKeys, modest, calm, conditions, laid).
  DERIVED. THE GIVEN ROWS OF THIS SEAT. 12 by the template 'for every input the law returns true; each argument reads behind the call as it read before'; 0 by the template 'total and deterministic' (their statements: YtjhcpcahnngofaaTotals.lean).
  GIVEN WITH THE SEED: the statements are not yours to turn. If you find one false, say at which input.
  Laid BY PROGRAM, IN A SANDBOX (cutbox-rows.mjs): the forced cells as the released guide's own fill.sh prints them over the translation 666c8b1e5759333b… (all of the seat's roots in one cut). By AI agents, Wed Nov 11 2026. No macro, syntax, notation, axiom, sorry.
-/
import Derived.Test.YtjhcpcahnngofaaChecked
import GoSem.Claim
import GoSem.ClaimJoined
import GoSem.ClaimMapViews
import Derived.JoinedTies
import Derived.KernelRfl
namespace Go.Proofs.Ytjhcpcahnngofaa
/- THE CELL 'sum', in the pinned program and in every row, IS THE sha256 OF THE DUMP (.gsa) THAT YtjhcpcahnngofaaProg.lean LOADS. Nothing in Lean hashes anything: it is a label: what it is worth is what the hold of that sum in a sandbox is worth. -/
noncomputable def Try.pinned : Pinned := { name := "ytjhcpcahnngofaa", sum := "666c8b1e5759333be5b91e49251bcae5e3b62233e8d7b61283dd4568216cbfb4", checked := Try.checked }
namespace Rows
def none {H : Type} : Left H := { results := [], args := [] }

/-- 'laws.FnExactForgotOf': WHATEVER THE INPUT: true; the input reads as it did. -/
def fnExactForgotOfSpec : ChangeSpec := { name := "fnExactForgotOf", fn := fun _ => fun
  | [d1, d2, d3] => { results := [.lit (.bool true)], args := [d1, d2, d3] }
  | _ => none }
def fnExactForgotOfRow : OpenClaim := { program := "ytjhcpcahnngofaa", sum := "666c8b1e5759333be5b91e49251bcae5e3b62233e8d7b61283dd4568216cbfb4", func := "loop.example/beliefchanges/laws.FnExactForgotOf", spec := "fnExactForgotOf", unfollowed := true, recurses := true, apart := false }
def FnExactForgotOfSaid : Prop := fnExactForgotOfRow.holds Try.pinned (OpenSpec.ofChange fnExactForgotOfSpec)

/-- ITS FALSE NEIGHBOUR: 'it returns false'. Refute it at one input. -/
def fnExactForgotOfWrong : ChangeSpec := { name := "fnExactForgotOf", fn := fun _ => fun
  | [d1, d2, d3] => { results := [.lit (.bool false)], args := [d1, d2, d3] }
  | _ => none }
def FnExactForgotOfWrongFalsely : Prop := fnExactForgotOfRow.holds Try.pinned (OpenSpec.ofChange fnExactForgotOfWrong)

/-- 'laws.FnExactHangsOn': WHATEVER THE INPUT: true; the input reads as it did. -/
def fnExactHangsOnSpec : ChangeSpec := { name := "fnExactHangsOn", fn := fun _ => fun
  | [d1, d2, d3] => { results := [.lit (.bool true)], args := [d1, d2, d3] }
  | _ => none }
def fnExactHangsOnRow : OpenClaim := { program := "ytjhcpcahnngofaa", sum := "666c8b1e5759333be5b91e49251bcae5e3b62233e8d7b61283dd4568216cbfb4", func := "loop.example/beliefchanges/laws.FnExactHangsOn", spec := "fnExactHangsOn", unfollowed := true, recurses := true, apart := false }
def FnExactHangsOnSaid : Prop := fnExactHangsOnRow.holds Try.pinned (OpenSpec.ofChange fnExactHangsOnSpec)

/-- ITS FALSE NEIGHBOUR: 'it returns false'. Refute it at one input. -/
def fnExactHangsOnWrong : ChangeSpec := { name := "fnExactHangsOn", fn := fun _ => fun
  | [d1, d2, d3] => { results := [.lit (.bool false)], args := [d1, d2, d3] }
  | _ => none }
def FnExactHangsOnWrongFalsely : Prop := fnExactHangsOnRow.holds Try.pinned (OpenSpec.ofChange fnExactHangsOnWrong)

/-- 'laws.FnExactApartOf': WHATEVER THE INPUT: true; the input reads as it did. -/
def fnExactApartOfSpec : ChangeSpec := { name := "fnExactApartOf", fn := fun _ => fun
  | [d1, d2, d3] => { results := [.lit (.bool true)], args := [d1, d2, d3] }
  | _ => none }
def fnExactApartOfRow : OpenClaim := { program := "ytjhcpcahnngofaa", sum := "666c8b1e5759333be5b91e49251bcae5e3b62233e8d7b61283dd4568216cbfb4", func := "loop.example/beliefchanges/laws.FnExactApartOf", spec := "fnExactApartOf", apart := false }
def FnExactApartOfSaid : Prop := fnExactApartOfRow.holds Try.pinned (OpenSpec.ofChange fnExactApartOfSpec)

/-- ITS FALSE NEIGHBOUR: 'it returns false'. Refute it at one input. -/
def fnExactApartOfWrong : ChangeSpec := { name := "fnExactApartOf", fn := fun _ => fun
  | [d1, d2, d3] => { results := [.lit (.bool false)], args := [d1, d2, d3] }
  | _ => none }
def FnExactApartOfWrongFalsely : Prop := fnExactApartOfRow.holds Try.pinned (OpenSpec.ofChange fnExactApartOfWrong)

/-- 'laws.FnExactFarFrom': WHATEVER THE INPUT: true; the input reads as it did. -/
def fnExactFarFromSpec : ChangeSpec := { name := "fnExactFarFrom", fn := fun _ => fun
  | [d1, d2] => { results := [.lit (.bool true)], args := [d1, d2] }
  | _ => none }
def fnExactFarFromRow : OpenClaim := { program := "ytjhcpcahnngofaa", sum := "666c8b1e5759333be5b91e49251bcae5e3b62233e8d7b61283dd4568216cbfb4", func := "loop.example/beliefchanges/laws.FnExactFarFrom", spec := "fnExactFarFrom", apart := false }
def FnExactFarFromSaid : Prop := fnExactFarFromRow.holds Try.pinned (OpenSpec.ofChange fnExactFarFromSpec)

/-- ITS FALSE NEIGHBOUR: 'it returns false'. Refute it at one input. -/
def fnExactFarFromWrong : ChangeSpec := { name := "fnExactFarFrom", fn := fun _ => fun
  | [d1, d2] => { results := [.lit (.bool false)], args := [d1, d2] }
  | _ => none }
def FnExactFarFromWrongFalsely : Prop := fnExactFarFromRow.holds Try.pinned (OpenSpec.ofChange fnExactFarFromWrong)

/-- 'laws.FnExactNearestOf': WHATEVER THE INPUT: true; the input reads as it did. -/
def fnExactNearestOfSpec : ChangeSpec := { name := "fnExactNearestOf", fn := fun _ => fun
  | [d1, d2, d3] => { results := [.lit (.bool true)], args := [d1, d2, d3] }
  | _ => none }
def fnExactNearestOfRow : OpenClaim := { program := "ytjhcpcahnngofaa", sum := "666c8b1e5759333be5b91e49251bcae5e3b62233e8d7b61283dd4568216cbfb4", func := "loop.example/beliefchanges/laws.FnExactNearestOf", spec := "fnExactNearestOf", unfollowed := true, recurses := true, apart := false }
def FnExactNearestOfSaid : Prop := fnExactNearestOfRow.holds Try.pinned (OpenSpec.ofChange fnExactNearestOfSpec)

/-- ITS FALSE NEIGHBOUR: 'it returns false'. Refute it at one input. -/
def fnExactNearestOfWrong : ChangeSpec := { name := "fnExactNearestOf", fn := fun _ => fun
  | [d1, d2, d3] => { results := [.lit (.bool false)], args := [d1, d2, d3] }
  | _ => none }
def FnExactNearestOfWrongFalsely : Prop := fnExactNearestOfRow.holds Try.pinned (OpenSpec.ofChange fnExactNearestOfWrong)

/-- 'laws.FnExactUpdatedBy': WHATEVER THE INPUT: true; the input reads as it did. -/
def fnExactUpdatedBySpec : ChangeSpec := { name := "fnExactUpdatedBy", fn := fun _ => fun
  | [d1, d2, d3] => { results := [.lit (.bool true)], args := [d1, d2, d3] }
  | _ => none }
def fnExactUpdatedByRow : OpenClaim := { program := "ytjhcpcahnngofaa", sum := "666c8b1e5759333be5b91e49251bcae5e3b62233e8d7b61283dd4568216cbfb4", func := "loop.example/beliefchanges/laws.FnExactUpdatedBy", spec := "fnExactUpdatedBy", unfollowed := true, recurses := true, apart := false }
def FnExactUpdatedBySaid : Prop := fnExactUpdatedByRow.holds Try.pinned (OpenSpec.ofChange fnExactUpdatedBySpec)

/-- ITS FALSE NEIGHBOUR: 'it returns false'. Refute it at one input. -/
def fnExactUpdatedByWrong : ChangeSpec := { name := "fnExactUpdatedBy", fn := fun _ => fun
  | [d1, d2, d3] => { results := [.lit (.bool false)], args := [d1, d2, d3] }
  | _ => none }
def FnExactUpdatedByWrongFalsely : Prop := fnExactUpdatedByRow.holds Try.pinned (OpenSpec.ofChange fnExactUpdatedByWrong)

/-- 'laws.FnApartOf': WHATEVER THE INPUT: true; the input reads as it did. -/
def fnApartOfSpec : ChangeSpec := { name := "fnApartOf", fn := fun _ => fun
  | [d] => { results := [.lit (.bool true)], args := [d] }
  | _ => none }
def fnApartOfRow : OpenClaim := { program := "ytjhcpcahnngofaa", sum := "666c8b1e5759333be5b91e49251bcae5e3b62233e8d7b61283dd4568216cbfb4", func := "loop.example/beliefchanges/laws.FnApartOf", spec := "fnApartOf", apart := false }
def FnApartOfSaid : Prop := fnApartOfRow.holds Try.pinned (OpenSpec.ofChange fnApartOfSpec)

/-- ITS FALSE NEIGHBOUR: 'it returns false'. Refute it at one input. -/
def fnApartOfWrong : ChangeSpec := { name := "fnApartOf", fn := fun _ => fun
  | [d] => { results := [.lit (.bool false)], args := [d] }
  | _ => none }
def FnApartOfWrongFalsely : Prop := fnApartOfRow.holds Try.pinned (OpenSpec.ofChange fnApartOfWrong)

/-- 'laws.FnHangsOn': WHATEVER THE INPUT: true; the input reads as it did. -/
def fnHangsOnSpec : ChangeSpec := { name := "fnHangsOn", fn := fun _ => fun
  | [d] => { results := [.lit (.bool true)], args := [d] }
  | _ => none }
def fnHangsOnRow : OpenClaim := { program := "ytjhcpcahnngofaa", sum := "666c8b1e5759333be5b91e49251bcae5e3b62233e8d7b61283dd4568216cbfb4", func := "loop.example/beliefchanges/laws.FnHangsOn", spec := "fnHangsOn", unfollowed := true, recurses := true, apart := false }
def FnHangsOnSaid : Prop := fnHangsOnRow.holds Try.pinned (OpenSpec.ofChange fnHangsOnSpec)

/-- ITS FALSE NEIGHBOUR: 'it returns false'. Refute it at one input. -/
def fnHangsOnWrong : ChangeSpec := { name := "fnHangsOn", fn := fun _ => fun
  | [d] => { results := [.lit (.bool false)], args := [d] }
  | _ => none }
def FnHangsOnWrongFalsely : Prop := fnHangsOnRow.holds Try.pinned (OpenSpec.ofChange fnHangsOnWrong)

/-- 'laws.FnForgotOf': WHATEVER THE INPUT: true; the input reads as it did. -/
def fnForgotOfSpec : ChangeSpec := { name := "fnForgotOf", fn := fun _ => fun
  | [d] => { results := [.lit (.bool true)], args := [d] }
  | _ => none }
def fnForgotOfRow : OpenClaim := { program := "ytjhcpcahnngofaa", sum := "666c8b1e5759333be5b91e49251bcae5e3b62233e8d7b61283dd4568216cbfb4", func := "loop.example/beliefchanges/laws.FnForgotOf", spec := "fnForgotOf", unfollowed := true, recurses := true, apart := false }
def FnForgotOfSaid : Prop := fnForgotOfRow.holds Try.pinned (OpenSpec.ofChange fnForgotOfSpec)

/-- ITS FALSE NEIGHBOUR: 'it returns false'. Refute it at one input. -/
def fnForgotOfWrong : ChangeSpec := { name := "fnForgotOf", fn := fun _ => fun
  | [d] => { results := [.lit (.bool false)], args := [d] }
  | _ => none }
def FnForgotOfWrongFalsely : Prop := fnForgotOfRow.holds Try.pinned (OpenSpec.ofChange fnForgotOfWrong)

/-- 'laws.FnFarFrom': WHATEVER THE INPUT: true; the input reads as it did. -/
def fnFarFromSpec : ChangeSpec := { name := "fnFarFrom", fn := fun _ => fun
  | [d] => { results := [.lit (.bool true)], args := [d] }
  | _ => none }
def fnFarFromRow : OpenClaim := { program := "ytjhcpcahnngofaa", sum := "666c8b1e5759333be5b91e49251bcae5e3b62233e8d7b61283dd4568216cbfb4", func := "loop.example/beliefchanges/laws.FnFarFrom", spec := "fnFarFrom", unfollowed := true, recurses := true, apart := false }
def FnFarFromSaid : Prop := fnFarFromRow.holds Try.pinned (OpenSpec.ofChange fnFarFromSpec)

/-- ITS FALSE NEIGHBOUR: 'it returns false'. Refute it at one input. -/
def fnFarFromWrong : ChangeSpec := { name := "fnFarFrom", fn := fun _ => fun
  | [d] => { results := [.lit (.bool false)], args := [d] }
  | _ => none }
def FnFarFromWrongFalsely : Prop := fnFarFromRow.holds Try.pinned (OpenSpec.ofChange fnFarFromWrong)

/-- 'laws.FnNearestOf': WHATEVER THE INPUT: true; the input reads as it did. -/
def fnNearestOfSpec : ChangeSpec := { name := "fnNearestOf", fn := fun _ => fun
  | [d] => { results := [.lit (.bool true)], args := [d] }
  | _ => none }
def fnNearestOfRow : OpenClaim := { program := "ytjhcpcahnngofaa", sum := "666c8b1e5759333be5b91e49251bcae5e3b62233e8d7b61283dd4568216cbfb4", func := "loop.example/beliefchanges/laws.FnNearestOf", spec := "fnNearestOf", unfollowed := true, recurses := true, apart := false }
def FnNearestOfSaid : Prop := fnNearestOfRow.holds Try.pinned (OpenSpec.ofChange fnNearestOfSpec)

/-- ITS FALSE NEIGHBOUR: 'it returns false'. Refute it at one input. -/
def fnNearestOfWrong : ChangeSpec := { name := "fnNearestOf", fn := fun _ => fun
  | [d] => { results := [.lit (.bool false)], args := [d] }
  | _ => none }
def FnNearestOfWrongFalsely : Prop := fnNearestOfRow.holds Try.pinned (OpenSpec.ofChange fnNearestOfWrong)

/-- 'laws.FnUpdatedBy': WHATEVER THE INPUT: true; the input reads as it did. -/
def fnUpdatedBySpec : ChangeSpec := { name := "fnUpdatedBy", fn := fun _ => fun
  | [d1, d2] => { results := [.lit (.bool true)], args := [d1, d2] }
  | _ => none }
def fnUpdatedByRow : OpenClaim := { program := "ytjhcpcahnngofaa", sum := "666c8b1e5759333be5b91e49251bcae5e3b62233e8d7b61283dd4568216cbfb4", func := "loop.example/beliefchanges/laws.FnUpdatedBy", spec := "fnUpdatedBy", unfollowed := true, recurses := true, apart := false }
def FnUpdatedBySaid : Prop := fnUpdatedByRow.holds Try.pinned (OpenSpec.ofChange fnUpdatedBySpec)

/-- ITS FALSE NEIGHBOUR: 'it returns false'. Refute it at one input. -/
def fnUpdatedByWrong : ChangeSpec := { name := "fnUpdatedBy", fn := fun _ => fun
  | [d1, d2] => { results := [.lit (.bool false)], args := [d1, d2] }
  | _ => none }
def FnUpdatedByWrongFalsely : Prop := fnUpdatedByRow.holds Try.pinned (OpenSpec.ofChange fnUpdatedByWrong)

/- THE SECOND FORM. 'bulk': how many values and letters a reading holds, each counted each time it is reached (what is shared counts as often as it is met; a slice's spare places count too). A statement '..UptoSaid' is the law's where the arguments, and the package variables that the reading takes, are together of bulk at most 1048576: NARROWER than '..Said'. Prove '..Said' where nothing that the law and all that it calls make is longer than what came in: it says more and counts as full. Else prove '..UptoSaid'. A law counts once. -/
mutual
def uptoBulk {H : Type} : DataW H → Nat
  | .lit (.string bytes) => bytes.length + 1
  | .lit _ => 1
  | .nil => 1
  | .ptr d => uptoBulk d + 1
  | .slice elems spare => uptoBulkAll elems + uptoBulkAll spare + 1
  | .agg parts => uptoBulkAll parts + 1
  | .iface _ d => uptoBulk d + 1
  | .map entries => uptoBulkEntries entries + 1
  | .held _ => 1
def uptoBulkAll {H : Type} : List (DataW H) → Nat
  | [] => 0
  | d :: r => uptoBulk d + uptoBulkAll r
def uptoBulkEntries {H : Type} : List (Lit × DataW H) → Nat
  | [] => 0
  | x :: r => uptoBulkEntry x + uptoBulkEntries r
def uptoBulkEntry {H : Type} : Lit × DataW H → Nat
  | (.string bytes, d) => bytes.length + uptoBulk d + 1
  | (_, d) => uptoBulk d + 1
 end
def uptoSmall : (H : Type) → List (DataW H) → Bool := fun _ ds => decide (uptoBulkAll ds ≤ 1048576)
def OpenSpec.upto (s : _root_.Go.ChangeSpec) : _root_.Go.OpenSpec := { _root_.Go.OpenSpec.ofChange s with cond := some uptoSmall }

/-- 'laws.FnExactForgotOf', WHERE WHAT IT READS IS OF BULK AT MOST 1048576: true; the input reads as it did. -/
def fnExactForgotOfUptoRow : OpenClaim := { program := "ytjhcpcahnngofaa", sum := "666c8b1e5759333be5b91e49251bcae5e3b62233e8d7b61283dd4568216cbfb4", func := "loop.example/beliefchanges/laws.FnExactForgotOf", spec := "fnExactForgotOf", unfollowed := true, recurses := true, apart := false, narrowed := true }
def FnExactForgotOfUptoSaid : Prop := fnExactForgotOfUptoRow.holds Try.pinned (OpenSpec.upto fnExactForgotOfSpec)

/-- 'laws.FnExactHangsOn', WHERE WHAT IT READS IS OF BULK AT MOST 1048576: true; the input reads as it did. -/
def fnExactHangsOnUptoRow : OpenClaim := { program := "ytjhcpcahnngofaa", sum := "666c8b1e5759333be5b91e49251bcae5e3b62233e8d7b61283dd4568216cbfb4", func := "loop.example/beliefchanges/laws.FnExactHangsOn", spec := "fnExactHangsOn", unfollowed := true, recurses := true, apart := false, narrowed := true }
def FnExactHangsOnUptoSaid : Prop := fnExactHangsOnUptoRow.holds Try.pinned (OpenSpec.upto fnExactHangsOnSpec)

/-- 'laws.FnExactApartOf', WHERE WHAT IT READS IS OF BULK AT MOST 1048576: true; the input reads as it did. -/
def fnExactApartOfUptoRow : OpenClaim := { program := "ytjhcpcahnngofaa", sum := "666c8b1e5759333be5b91e49251bcae5e3b62233e8d7b61283dd4568216cbfb4", func := "loop.example/beliefchanges/laws.FnExactApartOf", spec := "fnExactApartOf", apart := false, narrowed := true }
def FnExactApartOfUptoSaid : Prop := fnExactApartOfUptoRow.holds Try.pinned (OpenSpec.upto fnExactApartOfSpec)

/-- 'laws.FnExactFarFrom', WHERE WHAT IT READS IS OF BULK AT MOST 1048576: true; the input reads as it did. -/
def fnExactFarFromUptoRow : OpenClaim := { program := "ytjhcpcahnngofaa", sum := "666c8b1e5759333be5b91e49251bcae5e3b62233e8d7b61283dd4568216cbfb4", func := "loop.example/beliefchanges/laws.FnExactFarFrom", spec := "fnExactFarFrom", apart := false, narrowed := true }
def FnExactFarFromUptoSaid : Prop := fnExactFarFromUptoRow.holds Try.pinned (OpenSpec.upto fnExactFarFromSpec)

/-- 'laws.FnExactNearestOf', WHERE WHAT IT READS IS OF BULK AT MOST 1048576: true; the input reads as it did. -/
def fnExactNearestOfUptoRow : OpenClaim := { program := "ytjhcpcahnngofaa", sum := "666c8b1e5759333be5b91e49251bcae5e3b62233e8d7b61283dd4568216cbfb4", func := "loop.example/beliefchanges/laws.FnExactNearestOf", spec := "fnExactNearestOf", unfollowed := true, recurses := true, apart := false, narrowed := true }
def FnExactNearestOfUptoSaid : Prop := fnExactNearestOfUptoRow.holds Try.pinned (OpenSpec.upto fnExactNearestOfSpec)

/-- 'laws.FnExactUpdatedBy', WHERE WHAT IT READS IS OF BULK AT MOST 1048576: true; the input reads as it did. -/
def fnExactUpdatedByUptoRow : OpenClaim := { program := "ytjhcpcahnngofaa", sum := "666c8b1e5759333be5b91e49251bcae5e3b62233e8d7b61283dd4568216cbfb4", func := "loop.example/beliefchanges/laws.FnExactUpdatedBy", spec := "fnExactUpdatedBy", unfollowed := true, recurses := true, apart := false, narrowed := true }
def FnExactUpdatedByUptoSaid : Prop := fnExactUpdatedByUptoRow.holds Try.pinned (OpenSpec.upto fnExactUpdatedBySpec)

/-- 'laws.FnApartOf', WHERE WHAT IT READS IS OF BULK AT MOST 1048576: true; the input reads as it did. -/
def fnApartOfUptoRow : OpenClaim := { program := "ytjhcpcahnngofaa", sum := "666c8b1e5759333be5b91e49251bcae5e3b62233e8d7b61283dd4568216cbfb4", func := "loop.example/beliefchanges/laws.FnApartOf", spec := "fnApartOf", apart := false, narrowed := true }
def FnApartOfUptoSaid : Prop := fnApartOfUptoRow.holds Try.pinned (OpenSpec.upto fnApartOfSpec)

/-- 'laws.FnHangsOn', WHERE WHAT IT READS IS OF BULK AT MOST 1048576: true; the input reads as it did. -/
def fnHangsOnUptoRow : OpenClaim := { program := "ytjhcpcahnngofaa", sum := "666c8b1e5759333be5b91e49251bcae5e3b62233e8d7b61283dd4568216cbfb4", func := "loop.example/beliefchanges/laws.FnHangsOn", spec := "fnHangsOn", unfollowed := true, recurses := true, apart := false, narrowed := true }
def FnHangsOnUptoSaid : Prop := fnHangsOnUptoRow.holds Try.pinned (OpenSpec.upto fnHangsOnSpec)

/-- 'laws.FnForgotOf', WHERE WHAT IT READS IS OF BULK AT MOST 1048576: true; the input reads as it did. -/
def fnForgotOfUptoRow : OpenClaim := { program := "ytjhcpcahnngofaa", sum := "666c8b1e5759333be5b91e49251bcae5e3b62233e8d7b61283dd4568216cbfb4", func := "loop.example/beliefchanges/laws.FnForgotOf", spec := "fnForgotOf", unfollowed := true, recurses := true, apart := false, narrowed := true }
def FnForgotOfUptoSaid : Prop := fnForgotOfUptoRow.holds Try.pinned (OpenSpec.upto fnForgotOfSpec)

/-- 'laws.FnFarFrom', WHERE WHAT IT READS IS OF BULK AT MOST 1048576: true; the input reads as it did. -/
def fnFarFromUptoRow : OpenClaim := { program := "ytjhcpcahnngofaa", sum := "666c8b1e5759333be5b91e49251bcae5e3b62233e8d7b61283dd4568216cbfb4", func := "loop.example/beliefchanges/laws.FnFarFrom", spec := "fnFarFrom", unfollowed := true, recurses := true, apart := false, narrowed := true }
def FnFarFromUptoSaid : Prop := fnFarFromUptoRow.holds Try.pinned (OpenSpec.upto fnFarFromSpec)

/-- 'laws.FnNearestOf', WHERE WHAT IT READS IS OF BULK AT MOST 1048576: true; the input reads as it did. -/
def fnNearestOfUptoRow : OpenClaim := { program := "ytjhcpcahnngofaa", sum := "666c8b1e5759333be5b91e49251bcae5e3b62233e8d7b61283dd4568216cbfb4", func := "loop.example/beliefchanges/laws.FnNearestOf", spec := "fnNearestOf", unfollowed := true, recurses := true, apart := false, narrowed := true }
def FnNearestOfUptoSaid : Prop := fnNearestOfUptoRow.holds Try.pinned (OpenSpec.upto fnNearestOfSpec)

/-- 'laws.FnUpdatedBy', WHERE WHAT IT READS IS OF BULK AT MOST 1048576: true; the input reads as it did. -/
def fnUpdatedByUptoRow : OpenClaim := { program := "ytjhcpcahnngofaa", sum := "666c8b1e5759333be5b91e49251bcae5e3b62233e8d7b61283dd4568216cbfb4", func := "loop.example/beliefchanges/laws.FnUpdatedBy", spec := "fnUpdatedBy", unfollowed := true, recurses := true, apart := false, narrowed := true }
def FnUpdatedByUptoSaid : Prop := fnUpdatedByUptoRow.holds Try.pinned (OpenSpec.upto fnUpdatedBySpec)

end Rows
end Go.Proofs.Ytjhcpcahnngofaa

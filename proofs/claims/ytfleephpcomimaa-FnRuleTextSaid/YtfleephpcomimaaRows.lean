/-
  No cell of these rows narrows 'for every input' (looked for: loops, veiled, ifaces, maps, wideKeys, modest, calm, conditions, laid).
  DERIVED. THE GIVEN ROWS OF THIS SEAT. 11 by the template 'for every input the law returns true; each argument reads behind the call as it read before'; 0 by the template 'total and deterministic' (their statements: YtfleephpcomimaaTotals.lean).
  GIVEN WITH THE SEED: the statements are not yours to turn. If you find one false, say at which input.
  Laid BY PROGRAM, IN A SANDBOX (cutbox-rows.mjs): the forced cells as the released guide's own fill.sh prints them over the translation 2c10dd15cee306bc… (all of the seat's roots in one cut). By AI agents, Wed Nov 11 2026. No macro, syntax, notation, axiom, sorry.
-/
import Derived.Test.YtfleephpcomimaaChecked
import GoSem.Claim
import GoSem.ClaimJoined
import GoSem.ClaimMapViews
import Derived.JoinedTies
import Derived.KernelRfl
namespace Go.Proofs.Ytfleephpcomimaa
/- THE CELL 'sum', in the pinned program and in every row, IS THE sha256 OF THE DUMP (.gsa) THAT YtfleephpcomimaaProg.lean LOADS. Nothing in Lean hashes anything: it is a label: what it is worth is what the hold of that sum in a sandbox is worth. -/
noncomputable def Try.pinned : Pinned := { name := "ytfleephpcomimaa", sum := "2c10dd15cee306bc93588fbc0e536d5a9b1f062a550c8161096214c5ea0572eb", checked := Try.checked }
namespace Rows
def none {H : Type} : Left H := { results := [], args := [] }

/-- 'laws.FnExactAfterAll': WHATEVER THE INPUT: true; the input reads as it did. -/
def fnExactAfterAllSpec : ChangeSpec := { name := "fnExactAfterAll", fn := fun _ => fun
  | [d1, d2, d3, d4] => { results := [.lit (.bool true)], args := [d1, d2, d3, d4] }
  | _ => none }
def fnExactAfterAllRow : OpenClaim := { program := "ytfleephpcomimaa", sum := "2c10dd15cee306bc93588fbc0e536d5a9b1f062a550c8161096214c5ea0572eb", func := "loop.example/beliefchanges/laws.FnExactAfterAll", spec := "fnExactAfterAll", unfollowed := true, recurses := true, apart := false }
def FnExactAfterAllSaid : Prop := fnExactAfterAllRow.holds Try.pinned (OpenSpec.ofChange fnExactAfterAllSpec)

/-- ITS FALSE NEIGHBOUR: 'it returns false'. Refute it at one input. -/
def fnExactAfterAllWrong : ChangeSpec := { name := "fnExactAfterAll", fn := fun _ => fun
  | [d1, d2, d3, d4] => { results := [.lit (.bool false)], args := [d1, d2, d3, d4] }
  | _ => none }
def FnExactAfterAllWrongFalsely : Prop := fnExactAfterAllRow.holds Try.pinned (OpenSpec.ofChange fnExactAfterAllWrong)

/-- 'laws.FnExactChangedBy': WHATEVER THE INPUT: true; the input reads as it did. -/
def fnExactChangedBySpec : ChangeSpec := { name := "fnExactChangedBy", fn := fun _ => fun
  | [d1, d2, d3, d4] => { results := [.lit (.bool true)], args := [d1, d2, d3, d4] }
  | _ => none }
def fnExactChangedByRow : OpenClaim := { program := "ytfleephpcomimaa", sum := "2c10dd15cee306bc93588fbc0e536d5a9b1f062a550c8161096214c5ea0572eb", func := "loop.example/beliefchanges/laws.FnExactChangedBy", spec := "fnExactChangedBy", unfollowed := true, recurses := true, apart := false }
def FnExactChangedBySaid : Prop := fnExactChangedByRow.holds Try.pinned (OpenSpec.ofChange fnExactChangedBySpec)

/-- ITS FALSE NEIGHBOUR: 'it returns false'. Refute it at one input. -/
def fnExactChangedByWrong : ChangeSpec := { name := "fnExactChangedBy", fn := fun _ => fun
  | [d1, d2, d3, d4] => { results := [.lit (.bool false)], args := [d1, d2, d3, d4] }
  | _ => none }
def FnExactChangedByWrongFalsely : Prop := fnExactChangedByRow.holds Try.pinned (OpenSpec.ofChange fnExactChangedByWrong)

/-- 'laws.FnChangedBy': WHATEVER THE INPUT: true; the input reads as it did. -/
def fnChangedBySpec : ChangeSpec := { name := "fnChangedBy", fn := fun _ => fun
  | [d] => { results := [.lit (.bool true)], args := [d] }
  | _ => none }
def fnChangedByRow : OpenClaim := { program := "ytfleephpcomimaa", sum := "2c10dd15cee306bc93588fbc0e536d5a9b1f062a550c8161096214c5ea0572eb", func := "loop.example/beliefchanges/laws.FnChangedBy", spec := "fnChangedBy", unfollowed := true, recurses := true, apart := false }
def FnChangedBySaid : Prop := fnChangedByRow.holds Try.pinned (OpenSpec.ofChange fnChangedBySpec)

/-- ITS FALSE NEIGHBOUR: 'it returns false'. Refute it at one input. -/
def fnChangedByWrong : ChangeSpec := { name := "fnChangedBy", fn := fun _ => fun
  | [d] => { results := [.lit (.bool false)], args := [d] }
  | _ => none }
def FnChangedByWrongFalsely : Prop := fnChangedByRow.holds Try.pinned (OpenSpec.ofChange fnChangedByWrong)

/-- 'laws.FnAfterAll': WHATEVER THE INPUT: true; the input reads as it did. -/
def fnAfterAllSpec : ChangeSpec := { name := "fnAfterAll", fn := fun _ => fun
  | [d] => { results := [.lit (.bool true)], args := [d] }
  | _ => none }
def fnAfterAllRow : OpenClaim := { program := "ytfleephpcomimaa", sum := "2c10dd15cee306bc93588fbc0e536d5a9b1f062a550c8161096214c5ea0572eb", func := "loop.example/beliefchanges/laws.FnAfterAll", spec := "fnAfterAll", unfollowed := true, recurses := true, apart := false }
def FnAfterAllSaid : Prop := fnAfterAllRow.holds Try.pinned (OpenSpec.ofChange fnAfterAllSpec)

/-- ITS FALSE NEIGHBOUR: 'it returns false'. Refute it at one input. -/
def fnAfterAllWrong : ChangeSpec := { name := "fnAfterAll", fn := fun _ => fun
  | [d] => { results := [.lit (.bool false)], args := [d] }
  | _ => none }
def FnAfterAllWrongFalsely : Prop := fnAfterAllRow.holds Try.pinned (OpenSpec.ofChange fnAfterAllWrong)

/-- 'laws.FnRuleHolds': WHATEVER THE INPUT: true; the input reads as it did. -/
def fnRuleHoldsSpec : ChangeSpec := { name := "fnRuleHolds", fn := fun _ => fun
  | [d] => { results := [.lit (.bool true)], args := [d] }
  | _ => none }
def fnRuleHoldsRow : OpenClaim := { program := "ytfleephpcomimaa", sum := "2c10dd15cee306bc93588fbc0e536d5a9b1f062a550c8161096214c5ea0572eb", func := "loop.example/beliefchanges/laws.FnRuleHolds", spec := "fnRuleHolds", apart := false }
def FnRuleHoldsSaid : Prop := fnRuleHoldsRow.holds Try.pinned (OpenSpec.ofChange fnRuleHoldsSpec)

/-- ITS FALSE NEIGHBOUR: 'it returns false'. Refute it at one input. -/
def fnRuleHoldsWrong : ChangeSpec := { name := "fnRuleHolds", fn := fun _ => fun
  | [d] => { results := [.lit (.bool false)], args := [d] }
  | _ => none }
def FnRuleHoldsWrongFalsely : Prop := fnRuleHoldsRow.holds Try.pinned (OpenSpec.ofChange fnRuleHoldsWrong)

/-- 'laws.FnMovedBy': WHATEVER THE INPUT: true; the input reads as it did. -/
def fnMovedBySpec : ChangeSpec := { name := "fnMovedBy", fn := fun _ => fun
  | [d] => { results := [.lit (.bool true)], args := [d] }
  | _ => none }
def fnMovedByRow : OpenClaim := { program := "ytfleephpcomimaa", sum := "2c10dd15cee306bc93588fbc0e536d5a9b1f062a550c8161096214c5ea0572eb", func := "loop.example/beliefchanges/laws.FnMovedBy", spec := "fnMovedBy", apart := false }
def FnMovedBySaid : Prop := fnMovedByRow.holds Try.pinned (OpenSpec.ofChange fnMovedBySpec)

/-- ITS FALSE NEIGHBOUR: 'it returns false'. Refute it at one input. -/
def fnMovedByWrong : ChangeSpec := { name := "fnMovedBy", fn := fun _ => fun
  | [d] => { results := [.lit (.bool false)], args := [d] }
  | _ => none }
def FnMovedByWrongFalsely : Prop := fnMovedByRow.holds Try.pinned (OpenSpec.ofChange fnMovedByWrong)

/-- 'laws.FnExactMovedBy': WHATEVER THE INPUT: true; the input reads as it did. -/
def fnExactMovedBySpec : ChangeSpec := { name := "fnExactMovedBy", fn := fun _ => fun
  | [d1, d2, d3, d4] => { results := [.lit (.bool true)], args := [d1, d2, d3, d4] }
  | _ => none }
def fnExactMovedByRow : OpenClaim := { program := "ytfleephpcomimaa", sum := "2c10dd15cee306bc93588fbc0e536d5a9b1f062a550c8161096214c5ea0572eb", func := "loop.example/beliefchanges/laws.FnExactMovedBy", spec := "fnExactMovedBy", apart := false }
def FnExactMovedBySaid : Prop := fnExactMovedByRow.holds Try.pinned (OpenSpec.ofChange fnExactMovedBySpec)

/-- ITS FALSE NEIGHBOUR: 'it returns false'. Refute it at one input. -/
def fnExactMovedByWrong : ChangeSpec := { name := "fnExactMovedBy", fn := fun _ => fun
  | [d1, d2, d3, d4] => { results := [.lit (.bool false)], args := [d1, d2, d3, d4] }
  | _ => none }
def FnExactMovedByWrongFalsely : Prop := fnExactMovedByRow.holds Try.pinned (OpenSpec.ofChange fnExactMovedByWrong)

/-- 'laws.FnExactRuleHolds': WHATEVER THE INPUT: true; the input reads as it did. -/
def fnExactRuleHoldsSpec : ChangeSpec := { name := "fnExactRuleHolds", fn := fun _ => fun
  | [d1, d2, d3, d4, d5] => { results := [.lit (.bool true)], args := [d1, d2, d3, d4, d5] }
  | _ => none }
def fnExactRuleHoldsRow : OpenClaim := { program := "ytfleephpcomimaa", sum := "2c10dd15cee306bc93588fbc0e536d5a9b1f062a550c8161096214c5ea0572eb", func := "loop.example/beliefchanges/laws.FnExactRuleHolds", spec := "fnExactRuleHolds", apart := false }
def FnExactRuleHoldsSaid : Prop := fnExactRuleHoldsRow.holds Try.pinned (OpenSpec.ofChange fnExactRuleHoldsSpec)

/-- ITS FALSE NEIGHBOUR: 'it returns false'. Refute it at one input. -/
def fnExactRuleHoldsWrong : ChangeSpec := { name := "fnExactRuleHolds", fn := fun _ => fun
  | [d1, d2, d3, d4, d5] => { results := [.lit (.bool false)], args := [d1, d2, d3, d4, d5] }
  | _ => none }
def FnExactRuleHoldsWrongFalsely : Prop := fnExactRuleHoldsRow.holds Try.pinned (OpenSpec.ofChange fnExactRuleHoldsWrong)

/-- 'laws.FnExactRuleText': WHATEVER THE INPUT: true; the input reads as it did. -/
def fnExactRuleTextSpec : ChangeSpec := { name := "fnExactRuleText", fn := fun _ => fun
  | [d1, d2] => { results := [.lit (.bool true)], args := [d1, d2] }
  | _ => none }
def fnExactRuleTextRow : OpenClaim := { program := "ytfleephpcomimaa", sum := "2c10dd15cee306bc93588fbc0e536d5a9b1f062a550c8161096214c5ea0572eb", func := "loop.example/beliefchanges/laws.FnExactRuleText", spec := "fnExactRuleText", recurses := true, apart := false }
def FnExactRuleTextSaid : Prop := fnExactRuleTextRow.holds Try.pinned (OpenSpec.ofChange fnExactRuleTextSpec)

/-- ITS FALSE NEIGHBOUR: 'it returns false'. Refute it at one input. -/
def fnExactRuleTextWrong : ChangeSpec := { name := "fnExactRuleText", fn := fun _ => fun
  | [d1, d2] => { results := [.lit (.bool false)], args := [d1, d2] }
  | _ => none }
def FnExactRuleTextWrongFalsely : Prop := fnExactRuleTextRow.holds Try.pinned (OpenSpec.ofChange fnExactRuleTextWrong)

/-- 'laws.FnExactReadRule': WHATEVER THE INPUT: true; the input reads as it did. -/
def fnExactReadRuleSpec : ChangeSpec := { name := "fnExactReadRule", fn := fun _ => fun
  | [d1, d2] => { results := [.lit (.bool true)], args := [d1, d2] }
  | _ => none }
def fnExactReadRuleRow : OpenClaim := { program := "ytfleephpcomimaa", sum := "2c10dd15cee306bc93588fbc0e536d5a9b1f062a550c8161096214c5ea0572eb", func := "loop.example/beliefchanges/laws.FnExactReadRule", spec := "fnExactReadRule", inPlace := ["internal/bytealg.IndexByteString", "internal/bytealg.IndexString"], unfollowed := true, recurses := true, named := ["internal/bytealg.MaxLen"], apart := false }
def FnExactReadRuleSaid : Prop := fnExactReadRuleRow.holds Try.pinned (OpenSpec.ofChange fnExactReadRuleSpec)

/-- ITS FALSE NEIGHBOUR: 'it returns false'. Refute it at one input. -/
def fnExactReadRuleWrong : ChangeSpec := { name := "fnExactReadRule", fn := fun _ => fun
  | [d1, d2] => { results := [.lit (.bool false)], args := [d1, d2] }
  | _ => none }
def FnExactReadRuleWrongFalsely : Prop := fnExactReadRuleRow.holds Try.pinned (OpenSpec.ofChange fnExactReadRuleWrong)

/-- 'laws.FnRuleText': WHATEVER THE INPUT: true; the input reads as it did. -/
def fnRuleTextSpec : ChangeSpec := { name := "fnRuleText", fn := fun _ => fun
  | [d] => { results := [.lit (.bool true)], args := [d] }
  | _ => none }
def fnRuleTextRow : OpenClaim := { program := "ytfleephpcomimaa", sum := "2c10dd15cee306bc93588fbc0e536d5a9b1f062a550c8161096214c5ea0572eb", func := "loop.example/beliefchanges/laws.FnRuleText", spec := "fnRuleText", inPlace := ["internal/bytealg.IndexByteString", "internal/bytealg.IndexString"], unfollowed := true, recurses := true, named := ["internal/bytealg.MaxLen"], apart := false }
def FnRuleTextSaid : Prop := fnRuleTextRow.holds Try.pinned (OpenSpec.ofChange fnRuleTextSpec)

/-- ITS FALSE NEIGHBOUR: 'it returns false'. Refute it at one input. -/
def fnRuleTextWrong : ChangeSpec := { name := "fnRuleText", fn := fun _ => fun
  | [d] => { results := [.lit (.bool false)], args := [d] }
  | _ => none }
def FnRuleTextWrongFalsely : Prop := fnRuleTextRow.holds Try.pinned (OpenSpec.ofChange fnRuleTextWrong)

/- THE SECOND FORM. 'bulk': how many values and letters a reading holds, each counted each time it is reached (what is shared counts as often as it is met; a slice's spare places count too). A statement '..UptoSaid' is the law's where the arguments, and the package variables that the reading takes, are together of bulk at most 1048576: NARROWER than '..Said'. Prove '..Said' where nothing that the law and all that it calls make is longer than what came in: it says more and counts as full. Else prove '..UptoSaid'. A law counts once. -/
mutual
def uptoBulk {H : Type} : DataW H → Nat
  | .lit (.string bytes) => bytes.length + 1
  | .lit _ => 1
  | .nil => 1
  | .ptr d => uptoBulk d + 1
  | .slice elems spare => uptoBulkAll elems + uptoBulkAll spare + 1
  | .agg parts => uptoBulkAll parts + 1
  | .iface _ d => uptoBulk d + 1
  | .map entries => uptoBulkEntries entries + 1
  | .held _ => 1
def uptoBulkAll {H : Type} : List (DataW H) → Nat
  | [] => 0
  | d :: r => uptoBulk d + uptoBulkAll r
def uptoBulkEntries {H : Type} : List (Lit × DataW H) → Nat
  | [] => 0
  | x :: r => uptoBulkEntry x + uptoBulkEntries r
def uptoBulkEntry {H : Type} : Lit × DataW H → Nat
  | (.string bytes, d) => bytes.length + uptoBulk d + 1
  | (_, d) => uptoBulk d + 1
 end
def uptoSmall : (H : Type) → List (DataW H) → Bool := fun _ ds => decide (uptoBulkAll ds ≤ 1048576)
def OpenSpec.upto (s : _root_.Go.ChangeSpec) : _root_.Go.OpenSpec := { _root_.Go.OpenSpec.ofChange s with cond := some uptoSmall }

/-- 'laws.FnExactAfterAll', WHERE WHAT IT READS IS OF BULK AT MOST 1048576: true; the input reads as it did. -/
def fnExactAfterAllUptoRow : OpenClaim := { program := "ytfleephpcomimaa", sum := "2c10dd15cee306bc93588fbc0e536d5a9b1f062a550c8161096214c5ea0572eb", func := "loop.example/beliefchanges/laws.FnExactAfterAll", spec := "fnExactAfterAll", unfollowed := true, recurses := true, apart := false, narrowed := true }
def FnExactAfterAllUptoSaid : Prop := fnExactAfterAllUptoRow.holds Try.pinned (OpenSpec.upto fnExactAfterAllSpec)

/-- 'laws.FnExactChangedBy', WHERE WHAT IT READS IS OF BULK AT MOST 1048576: true; the input reads as it did. -/
def fnExactChangedByUptoRow : OpenClaim := { program := "ytfleephpcomimaa", sum := "2c10dd15cee306bc93588fbc0e536d5a9b1f062a550c8161096214c5ea0572eb", func := "loop.example/beliefchanges/laws.FnExactChangedBy", spec := "fnExactChangedBy", unfollowed := true, recurses := true, apart := false, narrowed := true }
def FnExactChangedByUptoSaid : Prop := fnExactChangedByUptoRow.holds Try.pinned (OpenSpec.upto fnExactChangedBySpec)

/-- 'laws.FnChangedBy', WHERE WHAT IT READS IS OF BULK AT MOST 1048576: true; the input reads as it did. -/
def fnChangedByUptoRow : OpenClaim := { program := "ytfleephpcomimaa", sum := "2c10dd15cee306bc93588fbc0e536d5a9b1f062a550c8161096214c5ea0572eb", func := "loop.example/beliefchanges/laws.FnChangedBy", spec := "fnChangedBy", unfollowed := true, recurses := true, apart := false, narrowed := true }
def FnChangedByUptoSaid : Prop := fnChangedByUptoRow.holds Try.pinned (OpenSpec.upto fnChangedBySpec)

/-- 'laws.FnAfterAll', WHERE WHAT IT READS IS OF BULK AT MOST 1048576: true; the input reads as it did. -/
def fnAfterAllUptoRow : OpenClaim := { program := "ytfleephpcomimaa", sum := "2c10dd15cee306bc93588fbc0e536d5a9b1f062a550c8161096214c5ea0572eb", func := "loop.example/beliefchanges/laws.FnAfterAll", spec := "fnAfterAll", unfollowed := true, recurses := true, apart := false, narrowed := true }
def FnAfterAllUptoSaid : Prop := fnAfterAllUptoRow.holds Try.pinned (OpenSpec.upto fnAfterAllSpec)

/-- 'laws.FnRuleHolds', WHERE WHAT IT READS IS OF BULK AT MOST 1048576: true; the input reads as it did. -/
def fnRuleHoldsUptoRow : OpenClaim := { program := "ytfleephpcomimaa", sum := "2c10dd15cee306bc93588fbc0e536d5a9b1f062a550c8161096214c5ea0572eb", func := "loop.example/beliefchanges/laws.FnRuleHolds", spec := "fnRuleHolds", apart := false, narrowed := true }
def FnRuleHoldsUptoSaid : Prop := fnRuleHoldsUptoRow.holds Try.pinned (OpenSpec.upto fnRuleHoldsSpec)

/-- 'laws.FnMovedBy', WHERE WHAT IT READS IS OF BULK AT MOST 1048576: true; the input reads as it did. -/
def fnMovedByUptoRow : OpenClaim := { program := "ytfleephpcomimaa", sum := "2c10dd15cee306bc93588fbc0e536d5a9b1f062a550c8161096214c5ea0572eb", func := "loop.example/beliefchanges/laws.FnMovedBy", spec := "fnMovedBy", apart := false, narrowed := true }
def FnMovedByUptoSaid : Prop := fnMovedByUptoRow.holds Try.pinned (OpenSpec.upto fnMovedBySpec)

/-- 'laws.FnExactMovedBy', WHERE WHAT IT READS IS OF BULK AT MOST 1048576: true; the input reads as it did. -/
def fnExactMovedByUptoRow : OpenClaim := { program := "ytfleephpcomimaa", sum := "2c10dd15cee306bc93588fbc0e536d5a9b1f062a550c8161096214c5ea0572eb", func := "loop.example/beliefchanges/laws.FnExactMovedBy", spec := "fnExactMovedBy", apart := false, narrowed := true }
def FnExactMovedByUptoSaid : Prop := fnExactMovedByUptoRow.holds Try.pinned (OpenSpec.upto fnExactMovedBySpec)

/-- 'laws.FnExactRuleHolds', WHERE WHAT IT READS IS OF BULK AT MOST 1048576: true; the input reads as it did. -/
def fnExactRuleHoldsUptoRow : OpenClaim := { program := "ytfleephpcomimaa", sum := "2c10dd15cee306bc93588fbc0e536d5a9b1f062a550c8161096214c5ea0572eb", func := "loop.example/beliefchanges/laws.FnExactRuleHolds", spec := "fnExactRuleHolds", apart := false, narrowed := true }
def FnExactRuleHoldsUptoSaid : Prop := fnExactRuleHoldsUptoRow.holds Try.pinned (OpenSpec.upto fnExactRuleHoldsSpec)

/-- 'laws.FnExactRuleText', WHERE WHAT IT READS IS OF BULK AT MOST 1048576: true; the input reads as it did. -/
def fnExactRuleTextUptoRow : OpenClaim := { program := "ytfleephpcomimaa", sum := "2c10dd15cee306bc93588fbc0e536d5a9b1f062a550c8161096214c5ea0572eb", func := "loop.example/beliefchanges/laws.FnExactRuleText", spec := "fnExactRuleText", recurses := true, apart := false, narrowed := true }
def FnExactRuleTextUptoSaid : Prop := fnExactRuleTextUptoRow.holds Try.pinned (OpenSpec.upto fnExactRuleTextSpec)

/-- 'laws.FnExactReadRule', WHERE WHAT IT READS IS OF BULK AT MOST 1048576: true; the input reads as it did. -/
def fnExactReadRuleUptoRow : OpenClaim := { program := "ytfleephpcomimaa", sum := "2c10dd15cee306bc93588fbc0e536d5a9b1f062a550c8161096214c5ea0572eb", func := "loop.example/beliefchanges/laws.FnExactReadRule", spec := "fnExactReadRule", inPlace := ["internal/bytealg.IndexByteString", "internal/bytealg.IndexString"], unfollowed := true, recurses := true, named := ["internal/bytealg.MaxLen"], apart := false, narrowed := true }
def FnExactReadRuleUptoSaid : Prop := fnExactReadRuleUptoRow.holds Try.pinned (OpenSpec.upto fnExactReadRuleSpec)

/-- 'laws.FnRuleText', WHERE WHAT IT READS IS OF BULK AT MOST 1048576: true; the input reads as it did. -/
def fnRuleTextUptoRow : OpenClaim := { program := "ytfleephpcomimaa", sum := "2c10dd15cee306bc93588fbc0e536d5a9b1f062a550c8161096214c5ea0572eb", func := "loop.example/beliefchanges/laws.FnRuleText", spec := "fnRuleText", inPlace := ["internal/bytealg.IndexByteString", "internal/bytealg.IndexString"], unfollowed := true, recurses := true, named := ["internal/bytealg.MaxLen"], apart := false, narrowed := true }
def FnRuleTextUptoSaid : Prop := fnRuleTextUptoRow.holds Try.pinned (OpenSpec.upto fnRuleTextSpec)

end Rows
end Go.Proofs.Ytfleephpcomimaa

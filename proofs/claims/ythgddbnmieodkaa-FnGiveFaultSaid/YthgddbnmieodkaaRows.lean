/-
  No cell of these rows narrows 'for every input' (looked for: loops, veiled, ifaces, maps, wideKeys, modest, calm, conditions, laid).
  DERIVED. THE GIVEN ROWS OF THIS SEAT. 8 by the template 'for every input the law returns true; each argument reads behind the call as it read before'; 0 by the template 'total and deterministic' (their statements: YthgddbnmieodkaaTotals.lean).
  GIVEN WITH THE SEED: the statements are not yours to turn. If you find one false, say at which input.
  Laid BY PROGRAM, IN A SANDBOX (cutbox-rows.mjs): the forced cells as the released guide's own fill.sh prints them over the translation 442339b3f7bcc9fd… (all of the seat's roots in one cut). By AI agents, Wed Nov 11 2026. No macro, syntax, notation, axiom, sorry.
-/
import Derived.Test.YthgddbnmieodkaaChecked
import GoSem.Claim
import GoSem.ClaimJoined
import GoSem.ClaimMapViews
import Derived.JoinedTies
import Derived.KernelRfl
namespace Go.Proofs.Ythgddbnmieodkaa
/- THE CELL 'sum', in the pinned program and in every row, IS THE sha256 OF THE DUMP (.gsa) THAT YthgddbnmieodkaaProg.lean LOADS. Nothing in Lean hashes anything: it is a label: what it is worth is what the hold of that sum in a sandbox is worth. -/
noncomputable def Try.pinned : Pinned := { name := "ythgddbnmieodkaa", sum := "442339b3f7bcc9fdd296d5f7599069625ff4c0559f1f06d72fb6e3507c37addb", checked := Try.checked }
namespace Rows
def none {H : Type} : Left H := { results := [], args := [] }

/-- 'laws.FnExactTakenIn': WHATEVER THE INPUT: true; the input reads as it did. -/
def fnExactTakenInSpec : ChangeSpec := { name := "fnExactTakenIn", fn := fun _ => fun
  | [d1, d2, d3] => { results := [.lit (.bool true)], args := [d1, d2, d3] }
  | _ => none }
def fnExactTakenInRow : OpenClaim := { program := "ythgddbnmieodkaa", sum := "442339b3f7bcc9fdd296d5f7599069625ff4c0559f1f06d72fb6e3507c37addb", func := "loop.example/beliefchanges/laws.FnExactTakenIn", spec := "fnExactTakenIn", unfollowed := true, recurses := true, apart := false }
def FnExactTakenInSaid : Prop := fnExactTakenInRow.holds Try.pinned (OpenSpec.ofChange fnExactTakenInSpec)

/-- ITS FALSE NEIGHBOUR: 'it returns false'. Refute it at one input. -/
def fnExactTakenInWrong : ChangeSpec := { name := "fnExactTakenIn", fn := fun _ => fun
  | [d1, d2, d3] => { results := [.lit (.bool false)], args := [d1, d2, d3] }
  | _ => none }
def FnExactTakenInWrongFalsely : Prop := fnExactTakenInRow.holds Try.pinned (OpenSpec.ofChange fnExactTakenInWrong)

/-- 'laws.FnExactGiveTable': WHATEVER THE INPUT: true; the input reads as it did. -/
def fnExactGiveTableSpec : ChangeSpec := { name := "fnExactGiveTable", fn := fun _ => fun
  | [d1, d2] => { results := [.lit (.bool true)], args := [d1, d2] }
  | _ => none }
def fnExactGiveTableRow : OpenClaim := { program := "ythgddbnmieodkaa", sum := "442339b3f7bcc9fdd296d5f7599069625ff4c0559f1f06d72fb6e3507c37addb", func := "loop.example/beliefchanges/laws.FnExactGiveTable", spec := "fnExactGiveTable", unfollowed := true, recurses := true, apart := false }
def FnExactGiveTableSaid : Prop := fnExactGiveTableRow.holds Try.pinned (OpenSpec.ofChange fnExactGiveTableSpec)

/-- ITS FALSE NEIGHBOUR: 'it returns false'. Refute it at one input. -/
def fnExactGiveTableWrong : ChangeSpec := { name := "fnExactGiveTable", fn := fun _ => fun
  | [d1, d2] => { results := [.lit (.bool false)], args := [d1, d2] }
  | _ => none }
def FnExactGiveTableWrongFalsely : Prop := fnExactGiveTableRow.holds Try.pinned (OpenSpec.ofChange fnExactGiveTableWrong)

/-- 'laws.FnFirmnessOf': WHATEVER THE INPUT: true; the input reads as it did. -/
def fnFirmnessOfSpec : ChangeSpec := { name := "fnFirmnessOf", fn := fun _ => fun
  | [d1, d2] => { results := [.lit (.bool true)], args := [d1, d2] }
  | _ => none }
def fnFirmnessOfRow : OpenClaim := { program := "ythgddbnmieodkaa", sum := "442339b3f7bcc9fdd296d5f7599069625ff4c0559f1f06d72fb6e3507c37addb", func := "loop.example/beliefchanges/laws.FnFirmnessOf", spec := "fnFirmnessOf", unfollowed := true, recurses := true, apart := false }
def FnFirmnessOfSaid : Prop := fnFirmnessOfRow.holds Try.pinned (OpenSpec.ofChange fnFirmnessOfSpec)

/-- ITS FALSE NEIGHBOUR: 'it returns false'. Refute it at one input. -/
def fnFirmnessOfWrong : ChangeSpec := { name := "fnFirmnessOf", fn := fun _ => fun
  | [d1, d2] => { results := [.lit (.bool false)], args := [d1, d2] }
  | _ => none }
def FnFirmnessOfWrongFalsely : Prop := fnFirmnessOfRow.holds Try.pinned (OpenSpec.ofChange fnFirmnessOfWrong)

/-- 'laws.FnGivenUp': WHATEVER THE INPUT: true; the input reads as it did. -/
def fnGivenUpSpec : ChangeSpec := { name := "fnGivenUp", fn := fun _ => fun
  | [d1, d2] => { results := [.lit (.bool true)], args := [d1, d2] }
  | _ => none }
def fnGivenUpRow : OpenClaim := { program := "ythgddbnmieodkaa", sum := "442339b3f7bcc9fdd296d5f7599069625ff4c0559f1f06d72fb6e3507c37addb", func := "loop.example/beliefchanges/laws.FnGivenUp", spec := "fnGivenUp", unfollowed := true, recurses := true, apart := false }
def FnGivenUpSaid : Prop := fnGivenUpRow.holds Try.pinned (OpenSpec.ofChange fnGivenUpSpec)

/-- ITS FALSE NEIGHBOUR: 'it returns false'. Refute it at one input. -/
def fnGivenUpWrong : ChangeSpec := { name := "fnGivenUp", fn := fun _ => fun
  | [d1, d2] => { results := [.lit (.bool false)], args := [d1, d2] }
  | _ => none }
def FnGivenUpWrongFalsely : Prop := fnGivenUpRow.holds Try.pinned (OpenSpec.ofChange fnGivenUpWrong)

/-- 'laws.FnKeptBy': WHATEVER THE INPUT: true; the input reads as it did. -/
def fnKeptBySpec : ChangeSpec := { name := "fnKeptBy", fn := fun _ => fun
  | [d] => { results := [.lit (.bool true)], args := [d] }
  | _ => none }
def fnKeptByRow : OpenClaim := { program := "ythgddbnmieodkaa", sum := "442339b3f7bcc9fdd296d5f7599069625ff4c0559f1f06d72fb6e3507c37addb", func := "loop.example/beliefchanges/laws.FnKeptBy", spec := "fnKeptBy", unfollowed := true, recurses := true, apart := false }
def FnKeptBySaid : Prop := fnKeptByRow.holds Try.pinned (OpenSpec.ofChange fnKeptBySpec)

/-- ITS FALSE NEIGHBOUR: 'it returns false'. Refute it at one input. -/
def fnKeptByWrong : ChangeSpec := { name := "fnKeptBy", fn := fun _ => fun
  | [d] => { results := [.lit (.bool false)], args := [d] }
  | _ => none }
def FnKeptByWrongFalsely : Prop := fnKeptByRow.holds Try.pinned (OpenSpec.ofChange fnKeptByWrong)

/-- 'laws.FnTakenIn': WHATEVER THE INPUT: true; the input reads as it did. -/
def fnTakenInSpec : ChangeSpec := { name := "fnTakenIn", fn := fun _ => fun
  | [d] => { results := [.lit (.bool true)], args := [d] }
  | _ => none }
def fnTakenInRow : OpenClaim := { program := "ythgddbnmieodkaa", sum := "442339b3f7bcc9fdd296d5f7599069625ff4c0559f1f06d72fb6e3507c37addb", func := "loop.example/beliefchanges/laws.FnTakenIn", spec := "fnTakenIn", unfollowed := true, recurses := true, apart := false }
def FnTakenInSaid : Prop := fnTakenInRow.holds Try.pinned (OpenSpec.ofChange fnTakenInSpec)

/-- ITS FALSE NEIGHBOUR: 'it returns false'. Refute it at one input. -/
def fnTakenInWrong : ChangeSpec := { name := "fnTakenIn", fn := fun _ => fun
  | [d] => { results := [.lit (.bool false)], args := [d] }
  | _ => none }
def FnTakenInWrongFalsely : Prop := fnTakenInRow.holds Try.pinned (OpenSpec.ofChange fnTakenInWrong)

/-- 'laws.FnGiveTable': WHATEVER THE INPUT: true; the input reads as it did. -/
def fnGiveTableSpec : ChangeSpec := { name := "fnGiveTable", fn := fun _ => fun
  | [d] => { results := [.lit (.bool true)], args := [d] }
  | _ => none }
def fnGiveTableRow : OpenClaim := { program := "ythgddbnmieodkaa", sum := "442339b3f7bcc9fdd296d5f7599069625ff4c0559f1f06d72fb6e3507c37addb", func := "loop.example/beliefchanges/laws.FnGiveTable", spec := "fnGiveTable", unfollowed := true, recurses := true, apart := false }
def FnGiveTableSaid : Prop := fnGiveTableRow.holds Try.pinned (OpenSpec.ofChange fnGiveTableSpec)

/-- ITS FALSE NEIGHBOUR: 'it returns false'. Refute it at one input. -/
def fnGiveTableWrong : ChangeSpec := { name := "fnGiveTable", fn := fun _ => fun
  | [d] => { results := [.lit (.bool false)], args := [d] }
  | _ => none }
def FnGiveTableWrongFalsely : Prop := fnGiveTableRow.holds Try.pinned (OpenSpec.ofChange fnGiveTableWrong)

/-- 'laws.FnGiveFault': WHATEVER THE INPUT: true; the input reads as it did. -/
def fnGiveFaultSpec : ChangeSpec := { name := "fnGiveFault", fn := fun _ => fun
  | [d] => { results := [.lit (.bool true)], args := [d] }
  | _ => none }
def fnGiveFaultRow : OpenClaim := { program := "ythgddbnmieodkaa", sum := "442339b3f7bcc9fdd296d5f7599069625ff4c0559f1f06d72fb6e3507c37addb", func := "loop.example/beliefchanges/laws.FnGiveFault", spec := "fnGiveFault", unfollowed := true, recurses := true, apart := false }
def FnGiveFaultSaid : Prop := fnGiveFaultRow.holds Try.pinned (OpenSpec.ofChange fnGiveFaultSpec)

/-- ITS FALSE NEIGHBOUR: 'it returns false'. Refute it at one input. -/
def fnGiveFaultWrong : ChangeSpec := { name := "fnGiveFault", fn := fun _ => fun
  | [d] => { results := [.lit (.bool false)], args := [d] }
  | _ => none }
def FnGiveFaultWrongFalsely : Prop := fnGiveFaultRow.holds Try.pinned (OpenSpec.ofChange fnGiveFaultWrong)

/- THE SECOND FORM. 'bulk': how many values and letters a reading holds, each counted each time it is reached (what is shared counts as often as it is met; a slice's spare places count too). A statement '..UptoSaid' is the law's where the arguments, and the package variables that the reading takes, are together of bulk at most 1048576: NARROWER than '..Said'. Prove '..Said' where nothing that the law and all that it calls make is longer than what came in: it says more and counts as full. Else prove '..UptoSaid'. A law counts once. -/
mutual
def uptoBulk {H : Type} : DataW H → Nat
  | .lit (.string bytes) => bytes.length + 1
  | .lit _ => 1
  | .nil => 1
  | .ptr d => uptoBulk d + 1
  | .slice elems spare => uptoBulkAll elems + uptoBulkAll spare + 1
  | .agg parts => uptoBulkAll parts + 1
  | .iface _ d => uptoBulk d + 1
  | .map entries => uptoBulkEntries entries + 1
  | .held _ => 1
def uptoBulkAll {H : Type} : List (DataW H) → Nat
  | [] => 0
  | d :: r => uptoBulk d + uptoBulkAll r
def uptoBulkEntries {H : Type} : List (Lit × DataW H) → Nat
  | [] => 0
  | x :: r => uptoBulkEntry x + uptoBulkEntries r
def uptoBulkEntry {H : Type} : Lit × DataW H → Nat
  | (.string bytes, d) => bytes.length + uptoBulk d + 1
  | (_, d) => uptoBulk d + 1
 end
def uptoSmall : (H : Type) → List (DataW H) → Bool := fun _ ds => decide (uptoBulkAll ds ≤ 1048576)
def OpenSpec.upto (s : _root_.Go.ChangeSpec) : _root_.Go.OpenSpec := { _root_.Go.OpenSpec.ofChange s with cond := some uptoSmall }

/-- 'laws.FnExactTakenIn', WHERE WHAT IT READS IS OF BULK AT MOST 1048576: true; the input reads as it did. -/
def fnExactTakenInUptoRow : OpenClaim := { program := "ythgddbnmieodkaa", sum := "442339b3f7bcc9fdd296d5f7599069625ff4c0559f1f06d72fb6e3507c37addb", func := "loop.example/beliefchanges/laws.FnExactTakenIn", spec := "fnExactTakenIn", unfollowed := true, recurses := true, apart := false, narrowed := true }
def FnExactTakenInUptoSaid : Prop := fnExactTakenInUptoRow.holds Try.pinned (OpenSpec.upto fnExactTakenInSpec)

/-- 'laws.FnExactGiveTable', WHERE WHAT IT READS IS OF BULK AT MOST 1048576: true; the input reads as it did. -/
def fnExactGiveTableUptoRow : OpenClaim := { program := "ythgddbnmieodkaa", sum := "442339b3f7bcc9fdd296d5f7599069625ff4c0559f1f06d72fb6e3507c37addb", func := "loop.example/beliefchanges/laws.FnExactGiveTable", spec := "fnExactGiveTable", unfollowed := true, recurses := true, apart := false, narrowed := true }
def FnExactGiveTableUptoSaid : Prop := fnExactGiveTableUptoRow.holds Try.pinned (OpenSpec.upto fnExactGiveTableSpec)

/-- 'laws.FnFirmnessOf', WHERE WHAT IT READS IS OF BULK AT MOST 1048576: true; the input reads as it did. -/
def fnFirmnessOfUptoRow : OpenClaim := { program := "ythgddbnmieodkaa", sum := "442339b3f7bcc9fdd296d5f7599069625ff4c0559f1f06d72fb6e3507c37addb", func := "loop.example/beliefchanges/laws.FnFirmnessOf", spec := "fnFirmnessOf", unfollowed := true, recurses := true, apart := false, narrowed := true }
def FnFirmnessOfUptoSaid : Prop := fnFirmnessOfUptoRow.holds Try.pinned (OpenSpec.upto fnFirmnessOfSpec)

/-- 'laws.FnGivenUp', WHERE WHAT IT READS IS OF BULK AT MOST 1048576: true; the input reads as it did. -/
def fnGivenUpUptoRow : OpenClaim := { program := "ythgddbnmieodkaa", sum := "442339b3f7bcc9fdd296d5f7599069625ff4c0559f1f06d72fb6e3507c37addb", func := "loop.example/beliefchanges/laws.FnGivenUp", spec := "fnGivenUp", unfollowed := true, recurses := true, apart := false, narrowed := true }
def FnGivenUpUptoSaid : Prop := fnGivenUpUptoRow.holds Try.pinned (OpenSpec.upto fnGivenUpSpec)

/-- 'laws.FnKeptBy', WHERE WHAT IT READS IS OF BULK AT MOST 1048576: true; the input reads as it did. -/
def fnKeptByUptoRow : OpenClaim := { program := "ythgddbnmieodkaa", sum := "442339b3f7bcc9fdd296d5f7599069625ff4c0559f1f06d72fb6e3507c37addb", func := "loop.example/beliefchanges/laws.FnKeptBy", spec := "fnKeptBy", unfollowed := true, recurses := true, apart := false, narrowed := true }
def FnKeptByUptoSaid : Prop := fnKeptByUptoRow.holds Try.pinned (OpenSpec.upto fnKeptBySpec)

/-- 'laws.FnTakenIn', WHERE WHAT IT READS IS OF BULK AT MOST 1048576: true; the input reads as it did. -/
def fnTakenInUptoRow : OpenClaim := { program := "ythgddbnmieodkaa", sum := "442339b3f7bcc9fdd296d5f7599069625ff4c0559f1f06d72fb6e3507c37addb", func := "loop.example/beliefchanges/laws.FnTakenIn", spec := "fnTakenIn", unfollowed := true, recurses := true, apart := false, narrowed := true }
def FnTakenInUptoSaid : Prop := fnTakenInUptoRow.holds Try.pinned (OpenSpec.upto fnTakenInSpec)

/-- 'laws.FnGiveTable', WHERE WHAT IT READS IS OF BULK AT MOST 1048576: true; the input reads as it did. -/
def fnGiveTableUptoRow : OpenClaim := { program := "ythgddbnmieodkaa", sum := "442339b3f7bcc9fdd296d5f7599069625ff4c0559f1f06d72fb6e3507c37addb", func := "loop.example/beliefchanges/laws.FnGiveTable", spec := "fnGiveTable", unfollowed := true, recurses := true, apart := false, narrowed := true }
def FnGiveTableUptoSaid : Prop := fnGiveTableUptoRow.holds Try.pinned (OpenSpec.upto fnGiveTableSpec)

/-- 'laws.FnGiveFault', WHERE WHAT IT READS IS OF BULK AT MOST 1048576: true; the input reads as it did. -/
def fnGiveFaultUptoRow : OpenClaim := { program := "ythgddbnmieodkaa", sum := "442339b3f7bcc9fdd296d5f7599069625ff4c0559f1f06d72fb6e3507c37addb", func := "loop.example/beliefchanges/laws.FnGiveFault", spec := "fnGiveFault", unfollowed := true, recurses := true, apart := false, narrowed := true }
def FnGiveFaultUptoSaid : Prop := fnGiveFaultUptoRow.holds Try.pinned (OpenSpec.upto fnGiveFaultSpec)

end Rows
end Go.Proofs.Ythgddbnmieodkaa

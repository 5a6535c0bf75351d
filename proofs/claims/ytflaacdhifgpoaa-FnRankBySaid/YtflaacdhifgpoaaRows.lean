/-
  No cell of these rows narrows 'for every input' (looked for: loops, veiled, ifaces, maps, wideKeys, modest, calm, conditions, laid).
  DERIVED. THE GIVEN ROWS OF THIS SEAT. 12 by the template 'for every input the law returns true; each argument reads behind the call as it read before'; 0 by the template 'total and deterministic' (their statements: YtflaacdhifgpoaaTotals.lean).
  GIVEN WITH THE SEED: the statements are not yours to turn. If you find one false, say at which input.
  Laid BY PROGRAM, IN A SANDBOX (cutbox-rows.mjs): the forced cells as the released guide's own fill.sh prints them over the translation 80098e805204d02f… (all of the seat's roots in one cut). By AI agents, Wed Nov 11 2026. No macro, syntax, notation, axiom, sorry.
-/
import Derived.Test.YtflaacdhifgpoaaChecked
import GoSem.Claim
import GoSem.ClaimJoined
import GoSem.ClaimMapViews
import Derived.JoinedTies
import Derived.KernelRfl
namespace Go.Proofs.Ytflaacdhifgpoaa
/- THE CELL 'sum', in the pinned program and in every row, IS THE sha256 OF THE DUMP (.gsa) THAT YtflaacdhifgpoaaProg.lean LOADS. Nothing in Lean hashes anything: it is a label: what it is worth is what the hold of that sum in a sandbox is worth. -/
noncomputable def Try.pinned : Pinned := { name := "ytflaacdhifgpoaa", sum := "80098e805204d02f39fbb38bd88d460568967bbec6a91a6539dc99265f3153f8", checked := Try.checked }
namespace Rows
def none {H : Type} : Left H := { results := [], args := [] }

/-- 'laws.FnExactRuleOk': WHATEVER THE INPUT: true; the input reads as it did. -/
def fnExactRuleOkSpec : ChangeSpec := { name := "fnExactRuleOk", fn := fun _ => fun
  | [d1, d2] => { results := [.lit (.bool true)], args := [d1, d2] }
  | _ => none }
def fnExactRuleOkRow : OpenClaim := { program := "ytflaacdhifgpoaa", sum := "80098e805204d02f39fbb38bd88d460568967bbec6a91a6539dc99265f3153f8", func := "loop.example/beliefchanges/laws.FnExactRuleOk", spec := "fnExactRuleOk", apart := false }
def FnExactRuleOkSaid : Prop := fnExactRuleOkRow.holds Try.pinned (OpenSpec.ofChange fnExactRuleOkSpec)

/-- ITS FALSE NEIGHBOUR: 'it returns false'. Refute it at one input. -/
def fnExactRuleOkWrong : ChangeSpec := { name := "fnExactRuleOk", fn := fun _ => fun
  | [d1, d2] => { results := [.lit (.bool false)], args := [d1, d2] }
  | _ => none }
def FnExactRuleOkWrongFalsely : Prop := fnExactRuleOkRow.holds Try.pinned (OpenSpec.ofChange fnExactRuleOkWrong)

/-- 'laws.FnExactRulesOk': WHATEVER THE INPUT: true; the input reads as it did. -/
def fnExactRulesOkSpec : ChangeSpec := { name := "fnExactRulesOk", fn := fun _ => fun
  | [d1, d2] => { results := [.lit (.bool true)], args := [d1, d2] }
  | _ => none }
def fnExactRulesOkRow : OpenClaim := { program := "ytflaacdhifgpoaa", sum := "80098e805204d02f39fbb38bd88d460568967bbec6a91a6539dc99265f3153f8", func := "loop.example/beliefchanges/laws.FnExactRulesOk", spec := "fnExactRulesOk", unfollowed := true, recurses := true, apart := false }
def FnExactRulesOkSaid : Prop := fnExactRulesOkRow.holds Try.pinned (OpenSpec.ofChange fnExactRulesOkSpec)

/-- ITS FALSE NEIGHBOUR: 'it returns false'. Refute it at one input. -/
def fnExactRulesOkWrong : ChangeSpec := { name := "fnExactRulesOk", fn := fun _ => fun
  | [d1, d2] => { results := [.lit (.bool false)], args := [d1, d2] }
  | _ => none }
def FnExactRulesOkWrongFalsely : Prop := fnExactRulesOkRow.holds Try.pinned (OpenSpec.ofChange fnExactRulesOkWrong)

/-- 'laws.FnRuleOk': WHATEVER THE INPUT: true; the input reads as it did. -/
def fnRuleOkSpec : ChangeSpec := { name := "fnRuleOk", fn := fun _ => fun
  | [d] => { results := [.lit (.bool true)], args := [d] }
  | _ => none }
def fnRuleOkRow : OpenClaim := { program := "ytflaacdhifgpoaa", sum := "80098e805204d02f39fbb38bd88d460568967bbec6a91a6539dc99265f3153f8", func := "loop.example/beliefchanges/laws.FnRuleOk", spec := "fnRuleOk", apart := false }
def FnRuleOkSaid : Prop := fnRuleOkRow.holds Try.pinned (OpenSpec.ofChange fnRuleOkSpec)

/-- ITS FALSE NEIGHBOUR: 'it returns false'. Refute it at one input. -/
def fnRuleOkWrong : ChangeSpec := { name := "fnRuleOk", fn := fun _ => fun
  | [d] => { results := [.lit (.bool false)], args := [d] }
  | _ => none }
def FnRuleOkWrongFalsely : Prop := fnRuleOkRow.holds Try.pinned (OpenSpec.ofChange fnRuleOkWrong)

/-- 'laws.FnRulesOk': WHATEVER THE INPUT: true; the input reads as it did. -/
def fnRulesOkSpec : ChangeSpec := { name := "fnRulesOk", fn := fun _ => fun
  | [d] => { results := [.lit (.bool true)], args := [d] }
  | _ => none }
def fnRulesOkRow : OpenClaim := { program := "ytflaacdhifgpoaa", sum := "80098e805204d02f39fbb38bd88d460568967bbec6a91a6539dc99265f3153f8", func := "loop.example/beliefchanges/laws.FnRulesOk", spec := "fnRulesOk", unfollowed := true, recurses := true, apart := false }
def FnRulesOkSaid : Prop := fnRulesOkRow.holds Try.pinned (OpenSpec.ofChange fnRulesOkSpec)

/-- ITS FALSE NEIGHBOUR: 'it returns false'. Refute it at one input. -/
def fnRulesOkWrong : ChangeSpec := { name := "fnRulesOk", fn := fun _ => fun
  | [d] => { results := [.lit (.bool false)], args := [d] }
  | _ => none }
def FnRulesOkWrongFalsely : Prop := fnRulesOkRow.holds Try.pinned (OpenSpec.ofChange fnRulesOkWrong)

/-- 'laws.FnExactAccepts': WHATEVER THE INPUT: true; the input reads as it did. -/
def fnExactAcceptsSpec : ChangeSpec := { name := "fnExactAccepts", fn := fun _ => fun
  | [d1, d2, d3] => { results := [.lit (.bool true)], args := [d1, d2, d3] }
  | _ => none }
def fnExactAcceptsRow : OpenClaim := { program := "ytflaacdhifgpoaa", sum := "80098e805204d02f39fbb38bd88d460568967bbec6a91a6539dc99265f3153f8", func := "loop.example/beliefchanges/laws.FnExactAccepts", spec := "fnExactAccepts", unfollowed := true, recurses := true, apart := false }
def FnExactAcceptsSaid : Prop := fnExactAcceptsRow.holds Try.pinned (OpenSpec.ofChange fnExactAcceptsSpec)

/-- ITS FALSE NEIGHBOUR: 'it returns false'. Refute it at one input. -/
def fnExactAcceptsWrong : ChangeSpec := { name := "fnExactAccepts", fn := fun _ => fun
  | [d1, d2, d3] => { results := [.lit (.bool false)], args := [d1, d2, d3] }
  | _ => none }
def FnExactAcceptsWrongFalsely : Prop := fnExactAcceptsRow.holds Try.pinned (OpenSpec.ofChange fnExactAcceptsWrong)

/-- 'laws.FnAccepts': WHATEVER THE INPUT: true; the input reads as it did. -/
def fnAcceptsSpec : ChangeSpec := { name := "fnAccepts", fn := fun _ => fun
  | [d1, d2] => { results := [.lit (.bool true)], args := [d1, d2] }
  | _ => none }
def fnAcceptsRow : OpenClaim := { program := "ytflaacdhifgpoaa", sum := "80098e805204d02f39fbb38bd88d460568967bbec6a91a6539dc99265f3153f8", func := "loop.example/beliefchanges/laws.FnAccepts", spec := "fnAccepts", unfollowed := true, recurses := true, apart := false }
def FnAcceptsSaid : Prop := fnAcceptsRow.holds Try.pinned (OpenSpec.ofChange fnAcceptsSpec)

/-- ITS FALSE NEIGHBOUR: 'it returns false'. Refute it at one input. -/
def fnAcceptsWrong : ChangeSpec := { name := "fnAccepts", fn := fun _ => fun
  | [d1, d2] => { results := [.lit (.bool false)], args := [d1, d2] }
  | _ => none }
def FnAcceptsWrongFalsely : Prop := fnAcceptsRow.holds Try.pinned (OpenSpec.ofChange fnAcceptsWrong)

/-- 'laws.FnExactLevelsOf': WHATEVER THE INPUT: true; the input reads as it did. -/
def fnExactLevelsOfSpec : ChangeSpec := { name := "fnExactLevelsOf", fn := fun _ => fun
  | [d1, d2] => { results := [.lit (.bool true)], args := [d1, d2] }
  | _ => none }
def fnExactLevelsOfRow : OpenClaim := { program := "ytflaacdhifgpoaa", sum := "80098e805204d02f39fbb38bd88d460568967bbec6a91a6539dc99265f3153f8", func := "loop.example/beliefchanges/laws.FnExactLevelsOf", spec := "fnExactLevelsOf", unfollowed := true, recurses := true, apart := false }
def FnExactLevelsOfSaid : Prop := fnExactLevelsOfRow.holds Try.pinned (OpenSpec.ofChange fnExactLevelsOfSpec)

/-- ITS FALSE NEIGHBOUR: 'it returns false'. Refute it at one input. -/
def fnExactLevelsOfWrong : ChangeSpec := { name := "fnExactLevelsOf", fn := fun _ => fun
  | [d1, d2] => { results := [.lit (.bool false)], args := [d1, d2] }
  | _ => none }
def FnExactLevelsOfWrongFalsely : Prop := fnExactLevelsOfRow.holds Try.pinned (OpenSpec.ofChange fnExactLevelsOfWrong)

/-- 'laws.FnExactRankBy': WHATEVER THE INPUT: true; the input reads as it did. -/
def fnExactRankBySpec : ChangeSpec := { name := "fnExactRankBy", fn := fun _ => fun
  | [d1, d2] => { results := [.lit (.bool true)], args := [d1, d2] }
  | _ => none }
def fnExactRankByRow : OpenClaim := { program := "ytflaacdhifgpoaa", sum := "80098e805204d02f39fbb38bd88d460568967bbec6a91a6539dc99265f3153f8", func := "loop.example/beliefchanges/laws.FnExactRankBy", spec := "fnExactRankBy", unfollowed := true, recurses := true, apart := false }
def FnExactRankBySaid : Prop := fnExactRankByRow.holds Try.pinned (OpenSpec.ofChange fnExactRankBySpec)

/-- ITS FALSE NEIGHBOUR: 'it returns false'. Refute it at one input. -/
def fnExactRankByWrong : ChangeSpec := { name := "fnExactRankBy", fn := fun _ => fun
  | [d1, d2] => { results := [.lit (.bool false)], args := [d1, d2] }
  | _ => none }
def FnExactRankByWrongFalsely : Prop := fnExactRankByRow.holds Try.pinned (OpenSpec.ofChange fnExactRankByWrong)

/-- 'laws.FnExactTells': WHATEVER THE INPUT: true; the input reads as it did. -/
def fnExactTellsSpec : ChangeSpec := { name := "fnExactTells", fn := fun _ => fun
  | [d1, d2, d3] => { results := [.lit (.bool true)], args := [d1, d2, d3] }
  | _ => none }
def fnExactTellsRow : OpenClaim := { program := "ytflaacdhifgpoaa", sum := "80098e805204d02f39fbb38bd88d460568967bbec6a91a6539dc99265f3153f8", func := "loop.example/beliefchanges/laws.FnExactTells", spec := "fnExactTells", unfollowed := true, recurses := true, apart := false }
def FnExactTellsSaid : Prop := fnExactTellsRow.holds Try.pinned (OpenSpec.ofChange fnExactTellsSpec)

/-- ITS FALSE NEIGHBOUR: 'it returns false'. Refute it at one input. -/
def fnExactTellsWrong : ChangeSpec := { name := "fnExactTells", fn := fun _ => fun
  | [d1, d2, d3] => { results := [.lit (.bool false)], args := [d1, d2, d3] }
  | _ => none }
def FnExactTellsWrongFalsely : Prop := fnExactTellsRow.holds Try.pinned (OpenSpec.ofChange fnExactTellsWrong)

/-- 'laws.FnTells': WHATEVER THE INPUT: true; the input reads as it did. -/
def fnTellsSpec : ChangeSpec := { name := "fnTells", fn := fun _ => fun
  | [d] => { results := [.lit (.bool true)], args := [d] }
  | _ => none }
def fnTellsRow : OpenClaim := { program := "ytflaacdhifgpoaa", sum := "80098e805204d02f39fbb38bd88d460568967bbec6a91a6539dc99265f3153f8", func := "loop.example/beliefchanges/laws.FnTells", spec := "fnTells", unfollowed := true, recurses := true, apart := false }
def FnTellsSaid : Prop := fnTellsRow.holds Try.pinned (OpenSpec.ofChange fnTellsSpec)

/-- ITS FALSE NEIGHBOUR: 'it returns false'. Refute it at one input. -/
def fnTellsWrong : ChangeSpec := { name := "fnTells", fn := fun _ => fun
  | [d] => { results := [.lit (.bool false)], args := [d] }
  | _ => none }
def FnTellsWrongFalsely : Prop := fnTellsRow.holds Try.pinned (OpenSpec.ofChange fnTellsWrong)

/-- 'laws.FnLevelsOf': WHATEVER THE INPUT: true; the input reads as it did. -/
def fnLevelsOfSpec : ChangeSpec := { name := "fnLevelsOf", fn := fun _ => fun
  | [d] => { results := [.lit (.bool true)], args := [d] }
  | _ => none }
def fnLevelsOfRow : OpenClaim := { program := "ytflaacdhifgpoaa", sum := "80098e805204d02f39fbb38bd88d460568967bbec6a91a6539dc99265f3153f8", func := "loop.example/beliefchanges/laws.FnLevelsOf", spec := "fnLevelsOf", unfollowed := true, recurses := true, apart := false }
def FnLevelsOfSaid : Prop := fnLevelsOfRow.holds Try.pinned (OpenSpec.ofChange fnLevelsOfSpec)

/-- ITS FALSE NEIGHBOUR: 'it returns false'. Refute it at one input. -/
def fnLevelsOfWrong : ChangeSpec := { name := "fnLevelsOf", fn := fun _ => fun
  | [d] => { results := [.lit (.bool false)], args := [d] }
  | _ => none }
def FnLevelsOfWrongFalsely : Prop := fnLevelsOfRow.holds Try.pinned (OpenSpec.ofChange fnLevelsOfWrong)

/-- 'laws.FnRankBy': WHATEVER THE INPUT: true; the input reads as it did. -/
def fnRankBySpec : ChangeSpec := { name := "fnRankBy", fn := fun _ => fun
  | [d1, d2] => { results := [.lit (.bool true)], args := [d1, d2] }
  | _ => none }
def fnRankByRow : OpenClaim := { program := "ytflaacdhifgpoaa", sum := "80098e805204d02f39fbb38bd88d460568967bbec6a91a6539dc99265f3153f8", func := "loop.example/beliefchanges/laws.FnRankBy", spec := "fnRankBy", unfollowed := true, recurses := true, apart := false }
def FnRankBySaid : Prop := fnRankByRow.holds Try.pinned (OpenSpec.ofChange fnRankBySpec)

/-- ITS FALSE NEIGHBOUR: 'it returns false'. Refute it at one input. -/
def fnRankByWrong : ChangeSpec := { name := "fnRankBy", fn := fun _ => fun
  | [d1, d2] => { results := [.lit (.bool false)], args := [d1, d2] }
  | _ => none }
def FnRankByWrongFalsely : Prop := fnRankByRow.holds Try.pinned (OpenSpec.ofChange fnRankByWrong)

/- THE SECOND FORM. 'bulk': how many values and letters a reading holds, each counted each time it is reached (what is shared counts as often as it is met; a slice's spare places count too). A statement '..UptoSaid' is the law's where the arguments, and the package variables that the reading takes, are together of bulk at most 1048576: NARROWER than '..Said'. Prove '..Said' where nothing that the law and all that it calls make is longer than what came in: it says more and counts as full. Else prove '..UptoSaid'. A law counts once. -/
mutual
def uptoBulk {H : Type} : DataW H → Nat
  | .lit (.string bytes) => bytes.length + 1
  | .lit _ => 1
  | .nil => 1
  | .ptr d => uptoBulk d + 1
  | .slice elems spare => uptoBulkAll elems + uptoBulkAll spare + 1
  | .agg parts => uptoBulkAll parts + 1
  | .iface _ d => uptoBulk d + 1
  | .map entries => uptoBulkEntries entries + 1
  | .held _ => 1
def uptoBulkAll {H : Type} : List (DataW H) → Nat
  | [] => 0
  | d :: r => uptoBulk d + uptoBulkAll r
def uptoBulkEntries {H : Type} : List (Lit × DataW H) → Nat
  | [] => 0
  | x :: r => uptoBulkEntry x + uptoBulkEntries r
def uptoBulkEntry {H : Type} : Lit × DataW H → Nat
  | (.string bytes, d) => bytes.length + uptoBulk d + 1
  | (_, d) => uptoBulk d + 1
 end
def uptoSmall : (H : Type) → List (DataW H) → Bool := fun _ ds => decide (uptoBulkAll ds ≤ 1048576)
def OpenSpec.upto (s : _root_.Go.ChangeSpec) : _root_.Go.OpenSpec := { _root_.Go.OpenSpec.ofChange s with cond := some uptoSmall }

/-- 'laws.FnExactRuleOk', WHERE WHAT IT READS IS OF BULK AT MOST 1048576: true; the input reads as it did. -/
def fnExactRuleOkUptoRow : OpenClaim := { program := "ytflaacdhifgpoaa", sum := "80098e805204d02f39fbb38bd88d460568967bbec6a91a6539dc99265f3153f8", func := "loop.example/beliefchanges/laws.FnExactRuleOk", spec := "fnExactRuleOk", apart := false, narrowed := true }
def FnExactRuleOkUptoSaid : Prop := fnExactRuleOkUptoRow.holds Try.pinned (OpenSpec.upto fnExactRuleOkSpec)

/-- 'laws.FnExactRulesOk', WHERE WHAT IT READS IS OF BULK AT MOST 1048576: true; the input reads as it did. -/
def fnExactRulesOkUptoRow : OpenClaim := { program := "ytflaacdhifgpoaa", sum := "80098e805204d02f39fbb38bd88d460568967bbec6a91a6539dc99265f3153f8", func := "loop.example/beliefchanges/laws.FnExactRulesOk", spec := "fnExactRulesOk", unfollowed := true, recurses := true, apart := false, narrowed := true }
def FnExactRulesOkUptoSaid : Prop := fnExactRulesOkUptoRow.holds Try.pinned (OpenSpec.upto fnExactRulesOkSpec)

/-- 'laws.FnRuleOk', WHERE WHAT IT READS IS OF BULK AT MOST 1048576: true; the input reads as it did. -/
def fnRuleOkUptoRow : OpenClaim := { program := "ytflaacdhifgpoaa", sum := "80098e805204d02f39fbb38bd88d460568967bbec6a91a6539dc99265f3153f8", func := "loop.example/beliefchanges/laws.FnRuleOk", spec := "fnRuleOk", apart := false, narrowed := true }
def FnRuleOkUptoSaid : Prop := fnRuleOkUptoRow.holds Try.pinned (OpenSpec.upto fnRuleOkSpec)

/-- 'laws.FnRulesOk', WHERE WHAT IT READS IS OF BULK AT MOST 1048576: true; the input reads as it did. -/
def fnRulesOkUptoRow : OpenClaim := { program := "ytflaacdhifgpoaa", sum := "80098e805204d02f39fbb38bd88d460568967bbec6a91a6539dc99265f3153f8", func := "loop.example/beliefchanges/laws.FnRulesOk", spec := "fnRulesOk", unfollowed := true, recurses := true, apart := false, narrowed := true }
def FnRulesOkUptoSaid : Prop := fnRulesOkUptoRow.holds Try.pinned (OpenSpec.upto fnRulesOkSpec)

/-- 'laws.FnExactAccepts', WHERE WHAT IT READS IS OF BULK AT MOST 1048576: true; the input reads as it did. -/
def fnExactAcceptsUptoRow : OpenClaim := { program := "ytflaacdhifgpoaa", sum := "80098e805204d02f39fbb38bd88d460568967bbec6a91a6539dc99265f3153f8", func := "loop.example/beliefchanges/laws.FnExactAccepts", spec := "fnExactAccepts", unfollowed := true, recurses := true, apart := false, narrowed := true }
def FnExactAcceptsUptoSaid : Prop := fnExactAcceptsUptoRow.holds Try.pinned (OpenSpec.upto fnExactAcceptsSpec)

/-- 'laws.FnAccepts', WHERE WHAT IT READS IS OF BULK AT MOST 1048576: true; the input reads as it did. -/
def fnAcceptsUptoRow : OpenClaim := { program := "ytflaacdhifgpoaa", sum := "80098e805204d02f39fbb38bd88d460568967bbec6a91a6539dc99265f3153f8", func := "loop.example/beliefchanges/laws.FnAccepts", spec := "fnAccepts", unfollowed := true, recurses := true, apart := false, narrowed := true }
def FnAcceptsUptoSaid : Prop := fnAcceptsUptoRow.holds Try.pinned (OpenSpec.upto fnAcceptsSpec)

/-- 'laws.FnExactLevelsOf', WHERE WHAT IT READS IS OF BULK AT MOST 1048576: true; the input reads as it did. -/
def fnExactLevelsOfUptoRow : OpenClaim := { program := "ytflaacdhifgpoaa", sum := "80098e805204d02f39fbb38bd88d460568967bbec6a91a6539dc99265f3153f8", func := "loop.example/beliefchanges/laws.FnExactLevelsOf", spec := "fnExactLevelsOf", unfollowed := true, recurses := true, apart := false, narrowed := true }
def FnExactLevelsOfUptoSaid : Prop := fnExactLevelsOfUptoRow.holds Try.pinned (OpenSpec.upto fnExactLevelsOfSpec)

/-- 'laws.FnExactRankBy', WHERE WHAT IT READS IS OF BULK AT MOST 1048576: true; the input reads as it did. -/
def fnExactRankByUptoRow : OpenClaim := { program := "ytflaacdhifgpoaa", sum := "80098e805204d02f39fbb38bd88d460568967bbec6a91a6539dc99265f3153f8", func := "loop.example/beliefchanges/laws.FnExactRankBy", spec := "fnExactRankBy", unfollowed := true, recurses := true, apart := false, narrowed := true }
def FnExactRankByUptoSaid : Prop := fnExactRankByUptoRow.holds Try.pinned (OpenSpec.upto fnExactRankBySpec)

/-- 'laws.FnExactTells', WHERE WHAT IT READS IS OF BULK AT MOST 1048576: true; the input reads as it did. -/
def fnExactTellsUptoRow : OpenClaim := { program := "ytflaacdhifgpoaa", sum := "80098e805204d02f39fbb38bd88d460568967bbec6a91a6539dc99265f3153f8", func := "loop.example/beliefchanges/laws.FnExactTells", spec := "fnExactTells", unfollowed := true, recurses := true, apart := false, narrowed := true }
def FnExactTellsUptoSaid : Prop := fnExactTellsUptoRow.holds Try.pinned (OpenSpec.upto fnExactTellsSpec)

/-- 'laws.FnTells', WHERE WHAT IT READS IS OF BULK AT MOST 1048576: true; the input reads as it did. -/
def fnTellsUptoRow : OpenClaim := { program := "ytflaacdhifgpoaa", sum := "80098e805204d02f39fbb38bd88d460568967bbec6a91a6539dc99265f3153f8", func := "loop.example/beliefchanges/laws.FnTells", spec := "fnTells", unfollowed := true, recurses := true, apart := false, narrowed := true }
def FnTellsUptoSaid : Prop := fnTellsUptoRow.holds Try.pinned (OpenSpec.upto fnTellsSpec)

/-- 'laws.FnLevelsOf', WHERE WHAT IT READS IS OF BULK AT MOST 1048576: true; the input reads as it did. -/
def fnLevelsOfUptoRow : OpenClaim := { program := "ytflaacdhifgpoaa", sum := "80098e805204d02f39fbb38bd88d460568967bbec6a91a6539dc99265f3153f8", func := "loop.example/beliefchanges/laws.FnLevelsOf", spec := "fnLevelsOf", unfollowed := true, recurses := true, apart := false, narrowed := true }
def FnLevelsOfUptoSaid : Prop := fnLevelsOfUptoRow.holds Try.pinned (OpenSpec.upto fnLevelsOfSpec)

/-- 'laws.FnRankBy', WHERE WHAT IT READS IS OF BULK AT MOST 1048576: true; the input reads as it did. -/
def fnRankByUptoRow : OpenClaim := { program := "ytflaacdhifgpoaa", sum := "80098e805204d02f39fbb38bd88d460568967bbec6a91a6539dc99265f3153f8", func := "loop.example/beliefchanges/laws.FnRankBy", spec := "fnRankBy", unfollowed := true, recurses := true, apart := false, narrowed := true }
def FnRankByUptoSaid : Prop := fnRankByUptoRow.holds Try.pinned (OpenSpec.upto fnRankBySpec)

end Rows
end Go.Proofs.Ytflaacdhifgpoaa

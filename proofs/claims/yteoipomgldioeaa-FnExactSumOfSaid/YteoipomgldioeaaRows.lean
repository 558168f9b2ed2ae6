/-
  No cell of these rows narrows 'for every input' (looked for: loops, veiled, ifaces, maps, wideKeys, modest, calm, conditions, laid).
  DERIVED. THE GIVEN ROWS OF THIS SEAT. 10 by the template 'for every input the law returns true; each argument reads behind the call as it read before'; 0 by the template 'total and deterministic' (their statements: YteoipomgldioeaaTotals.lean).
  GIVEN WITH THE SEED: the statements are not yours to turn. If you find one false, say at which input.
  Laid BY PROGRAM, IN A SANDBOX (cutbox-rows.mjs): the forced cells as the released guide's own fill.sh prints them over the translation 09b9fcee36d1ca64… (all of the seat's roots in one cut). By AI agents, Wed Nov 11 2026. No macro, syntax, notation, axiom, sorry.
-/
import Derived.Test.YteoipomgldioeaaChecked
import GoSem.Claim
import GoSem.ClaimJoined
import GoSem.ClaimMapViews
import Derived.JoinedTies
import Derived.KernelRfl
namespace Go.Proofs.Yteoipomgldioeaa
/- THE CELL 'sum', in the pinned program and in every row, IS THE sha256 OF THE DUMP (.gsa) THAT YteoipomgldioeaaProg.lean LOADS. Nothing in Lean hashes anything: it is a label: what it is worth is what the hold of that sum in a sandbox is worth. -/
noncomputable def Try.pinned : Pinned := { name := "yteoipomgldioeaa", sum := "09b9fcee36d1ca64f57f60e0bd10b6a63f499ef1fa8ae3e7803eaa1f925de60b", checked := Try.checked }
namespace Rows
def none {H : Type} : Left H := { results := [], args := [] }

/-- 'laws.FnExactWithoutRests': WHATEVER THE INPUT: true; the input reads as it did. -/
def fnExactWithoutRestsSpec : ChangeSpec := { name := "fnExactWithoutRests", fn := fun _ => fun
  | [d] => { results := [.lit (.bool true)], args := [d] }
  | _ => none }
def fnExactWithoutRestsRow : OpenClaim := { program := "yteoipomgldioeaa", sum := "09b9fcee36d1ca64f57f60e0bd10b6a63f499ef1fa8ae3e7803eaa1f925de60b", func := "loop.example/g01283/laws.FnExactWithoutRests", spec := "fnExactWithoutRests", unfollowed := true, recurses := true, apart := false }
def FnExactWithoutRestsSaid : Prop := fnExactWithoutRestsRow.holds Try.pinned (OpenSpec.ofChange fnExactWithoutRestsSpec)

/-- ITS FALSE NEIGHBOUR: 'it returns false'. Refute it at one input. -/
def fnExactWithoutRestsWrong : ChangeSpec := { name := "fnExactWithoutRests", fn := fun _ => fun
  | [d] => { results := [.lit (.bool false)], args := [d] }
  | _ => none }
def FnExactWithoutRestsWrongFalsely : Prop := fnExactWithoutRestsRow.holds Try.pinned (OpenSpec.ofChange fnExactWithoutRestsWrong)

/-- 'laws.FnExactSumOf': WHATEVER THE INPUT: true; the input reads as it did. -/
def fnExactSumOfSpec : ChangeSpec := { name := "fnExactSumOf", fn := fun _ => fun
  | [d1, d2] => { results := [.lit (.bool true)], args := [d1, d2] }
  | _ => none }
def fnExactSumOfRow : OpenClaim := { program := "yteoipomgldioeaa", sum := "09b9fcee36d1ca64f57f60e0bd10b6a63f499ef1fa8ae3e7803eaa1f925de60b", func := "loop.example/g01283/laws.FnExactSumOf", spec := "fnExactSumOf", unfollowed := true, recurses := true, apart := false }
def FnExactSumOfSaid : Prop := fnExactSumOfRow.holds Try.pinned (OpenSpec.ofChange fnExactSumOfSpec)

/-- ITS FALSE NEIGHBOUR: 'it returns false'. Refute it at one input. -/
def fnExactSumOfWrong : ChangeSpec := { name := "fnExactSumOf", fn := fun _ => fun
  | [d1, d2] => { results := [.lit (.bool false)], args := [d1, d2] }
  | _ => none }
def FnExactSumOfWrongFalsely : Prop := fnExactSumOfRow.holds Try.pinned (OpenSpec.ofChange fnExactSumOfWrong)

/-- 'laws.FnExactNodePoly': WHATEVER THE INPUT: true; the input reads as it did. -/
def fnExactNodePolySpec : ChangeSpec := { name := "fnExactNodePoly", fn := fun _ => fun
  | [d] => { results := [.lit (.bool true)], args := [d] }
  | _ => none }
def fnExactNodePolyRow : OpenClaim := { program := "yteoipomgldioeaa", sum := "09b9fcee36d1ca64f57f60e0bd10b6a63f499ef1fa8ae3e7803eaa1f925de60b", func := "loop.example/g01283/laws.FnExactNodePoly", spec := "fnExactNodePoly", unfollowed := true, recurses := true, apart := false }
def FnExactNodePolySaid : Prop := fnExactNodePolyRow.holds Try.pinned (OpenSpec.ofChange fnExactNodePolySpec)

/-- ITS FALSE NEIGHBOUR: 'it returns false'. Refute it at one input. -/
def fnExactNodePolyWrong : ChangeSpec := { name := "fnExactNodePoly", fn := fun _ => fun
  | [d] => { results := [.lit (.bool false)], args := [d] }
  | _ => none }
def FnExactNodePolyWrongFalsely : Prop := fnExactNodePolyRow.holds Try.pinned (OpenSpec.ofChange fnExactNodePolyWrong)

/-- 'laws.FnExactMomentsOfRule': WHATEVER THE INPUT: true; the input reads as it did. -/
def fnExactMomentsOfRuleSpec : ChangeSpec := { name := "fnExactMomentsOfRule", fn := fun _ => fun
  | [d1, d2] => { results := [.lit (.bool true)], args := [d1, d2] }
  | _ => none }
def fnExactMomentsOfRuleRow : OpenClaim := { program := "yteoipomgldioeaa", sum := "09b9fcee36d1ca64f57f60e0bd10b6a63f499ef1fa8ae3e7803eaa1f925de60b", func := "loop.example/g01283/laws.FnExactMomentsOfRule", spec := "fnExactMomentsOfRule", unfollowed := true, recurses := true, apart := false }
def FnExactMomentsOfRuleSaid : Prop := fnExactMomentsOfRuleRow.holds Try.pinned (OpenSpec.ofChange fnExactMomentsOfRuleSpec)

/-- ITS FALSE NEIGHBOUR: 'it returns false'. Refute it at one input. -/
def fnExactMomentsOfRuleWrong : ChangeSpec := { name := "fnExactMomentsOfRule", fn := fun _ => fun
  | [d1, d2] => { results := [.lit (.bool false)], args := [d1, d2] }
  | _ => none }
def FnExactMomentsOfRuleWrongFalsely : Prop := fnExactMomentsOfRuleRow.holds Try.pinned (OpenSpec.ofChange fnExactMomentsOfRuleWrong)

/-- 'laws.FnExactErrorOf': WHATEVER THE INPUT: true; the input reads as it did. -/
def fnExactErrorOfSpec : ChangeSpec := { name := "fnExactErrorOf", fn := fun _ => fun
  | [d1, d2, d3] => { results := [.lit (.bool true)], args := [d1, d2, d3] }
  | _ => none }
def fnExactErrorOfRow : OpenClaim := { program := "yteoipomgldioeaa", sum := "09b9fcee36d1ca64f57f60e0bd10b6a63f499ef1fa8ae3e7803eaa1f925de60b", func := "loop.example/g01283/laws.FnExactErrorOf", spec := "fnExactErrorOf", unfollowed := true, recurses := true, apart := false }
def FnExactErrorOfSaid : Prop := fnExactErrorOfRow.holds Try.pinned (OpenSpec.ofChange fnExactErrorOfSpec)

/-- ITS FALSE NEIGHBOUR: 'it returns false'. Refute it at one input. -/
def fnExactErrorOfWrong : ChangeSpec := { name := "fnExactErrorOf", fn := fun _ => fun
  | [d1, d2, d3] => { results := [.lit (.bool false)], args := [d1, d2, d3] }
  | _ => none }
def FnExactErrorOfWrongFalsely : Prop := fnExactErrorOfRow.holds Try.pinned (OpenSpec.ofChange fnExactErrorOfWrong)

/-- 'laws.FnExactDegreeOfRule': WHATEVER THE INPUT: true; the input reads as it did. -/
def fnExactDegreeOfRuleSpec : ChangeSpec := { name := "fnExactDegreeOfRule", fn := fun _ => fun
  | [d1, d2] => { results := [.lit (.bool true)], args := [d1, d2] }
  | _ => none }
def fnExactDegreeOfRuleRow : OpenClaim := { program := "yteoipomgldioeaa", sum := "09b9fcee36d1ca64f57f60e0bd10b6a63f499ef1fa8ae3e7803eaa1f925de60b", func := "loop.example/g01283/laws.FnExactDegreeOfRule", spec := "fnExactDegreeOfRule", unfollowed := true, recurses := true, apart := false }
def FnExactDegreeOfRuleSaid : Prop := fnExactDegreeOfRuleRow.holds Try.pinned (OpenSpec.ofChange fnExactDegreeOfRuleSpec)

/-- ITS FALSE NEIGHBOUR: 'it returns false'. Refute it at one input. -/
def fnExactDegreeOfRuleWrong : ChangeSpec := { name := "fnExactDegreeOfRule", fn := fun _ => fun
  | [d1, d2] => { results := [.lit (.bool false)], args := [d1, d2] }
  | _ => none }
def FnExactDegreeOfRuleWrongFalsely : Prop := fnExactDegreeOfRuleRow.holds Try.pinned (OpenSpec.ofChange fnExactDegreeOfRuleWrong)

/-- 'laws.FnExactWeightsFor': WHATEVER THE INPUT: true; the input reads as it did. -/
def fnExactWeightsForSpec : ChangeSpec := { name := "fnExactWeightsFor", fn := fun _ => fun
  | [d1, d2] => { results := [.lit (.bool true)], args := [d1, d2] }
  | _ => none }
def fnExactWeightsForRow : OpenClaim := { program := "yteoipomgldioeaa", sum := "09b9fcee36d1ca64f57f60e0bd10b6a63f499ef1fa8ae3e7803eaa1f925de60b", func := "loop.example/g01283/laws.FnExactWeightsFor", spec := "fnExactWeightsFor", unfollowed := true, recurses := true, apart := false }
def FnExactWeightsForSaid : Prop := fnExactWeightsForRow.holds Try.pinned (OpenSpec.ofChange fnExactWeightsForSpec)

/-- ITS FALSE NEIGHBOUR: 'it returns false'. Refute it at one input. -/
def fnExactWeightsForWrong : ChangeSpec := { name := "fnExactWeightsFor", fn := fun _ => fun
  | [d1, d2] => { results := [.lit (.bool false)], args := [d1, d2] }
  | _ => none }
def FnExactWeightsForWrongFalsely : Prop := fnExactWeightsForRow.holds Try.pinned (OpenSpec.ofChange fnExactWeightsForWrong)

/-- 'laws.FnExactGaussRule': WHATEVER THE INPUT: true; the input reads as it did. -/
def fnExactGaussRuleSpec : ChangeSpec := { name := "fnExactGaussRule", fn := fun _ => fun
  | [d] => { results := [.lit (.bool true)], args := [d] }
  | _ => none }
def fnExactGaussRuleRow : OpenClaim := { program := "yteoipomgldioeaa", sum := "09b9fcee36d1ca64f57f60e0bd10b6a63f499ef1fa8ae3e7803eaa1f925de60b", func := "loop.example/g01283/laws.FnExactGaussRule", spec := "fnExactGaussRule", unfollowed := true, recurses := true, apart := false }
def FnExactGaussRuleSaid : Prop := fnExactGaussRuleRow.holds Try.pinned (OpenSpec.ofChange fnExactGaussRuleSpec)

/-- ITS FALSE NEIGHBOUR: 'it returns false'. Refute it at one input. -/
def fnExactGaussRuleWrong : ChangeSpec := { name := "fnExactGaussRule", fn := fun _ => fun
  | [d] => { results := [.lit (.bool false)], args := [d] }
  | _ => none }
def FnExactGaussRuleWrongFalsely : Prop := fnExactGaussRuleRow.holds Try.pinned (OpenSpec.ofChange fnExactGaussRuleWrong)

/-- 'laws.FnExactMergeRules': WHATEVER THE INPUT: true; the input reads as it did. -/
def fnExactMergeRulesSpec : ChangeSpec := { name := "fnExactMergeRules", fn := fun _ => fun
  | [d1, d2, d3] => { results := [.lit (.bool true)], args := [d1, d2, d3] }
  | _ => none }
def fnExactMergeRulesRow : OpenClaim := { program := "yteoipomgldioeaa", sum := "09b9fcee36d1ca64f57f60e0bd10b6a63f499ef1fa8ae3e7803eaa1f925de60b", func := "loop.example/g01283/laws.FnExactMergeRules", spec := "fnExactMergeRules", unfollowed := true, recurses := true, apart := false }
def FnExactMergeRulesSaid : Prop := fnExactMergeRulesRow.holds Try.pinned (OpenSpec.ofChange fnExactMergeRulesSpec)

/-- ITS FALSE NEIGHBOUR: 'it returns false'. Refute it at one input. -/
def fnExactMergeRulesWrong : ChangeSpec := { name := "fnExactMergeRules", fn := fun _ => fun
  | [d1, d2, d3] => { results := [.lit (.bool false)], args := [d1, d2, d3] }
  | _ => none }
def FnExactMergeRulesWrongFalsely : Prop := fnExactMergeRulesRow.holds Try.pinned (OpenSpec.ofChange fnExactMergeRulesWrong)

/-- 'laws.FnExactMoveRule': WHATEVER THE INPUT: true; the input reads as it did. -/
def fnExactMoveRuleSpec : ChangeSpec := { name := "fnExactMoveRule", fn := fun _ => fun
  | [d1, d2, d3] => { results := [.lit (.bool true)], args := [d1, d2, d3] }
  | _ => none }
def fnExactMoveRuleRow : OpenClaim := { program := "yteoipomgldioeaa", sum := "09b9fcee36d1ca64f57f60e0bd10b6a63f499ef1fa8ae3e7803eaa1f925de60b", func := "loop.example/g01283/laws.FnExactMoveRule", spec := "fnExactMoveRule", unfollowed := true, recurses := true, apart := false }
def FnExactMoveRuleSaid : Prop := fnExactMoveRuleRow.holds Try.pinned (OpenSpec.ofChange fnExactMoveRuleSpec)

/-- ITS FALSE NEIGHBOUR: 'it returns false'. Refute it at one input. -/
def fnExactMoveRuleWrong : ChangeSpec := { name := "fnExactMoveRule", fn := fun _ => fun
  | [d1, d2, d3] => { results := [.lit (.bool false)], args := [d1, d2, d3] }
  | _ => none }
def FnExactMoveRuleWrongFalsely : Prop := fnExactMoveRuleRow.holds Try.pinned (OpenSpec.ofChange fnExactMoveRuleWrong)

/- THE SECOND FORM. 'bulk': how many values and letters a reading holds, each counted each time it is reached (what is shared counts as often as it is met; a slice's spare places count too). A statement '..UptoSaid' is the law's where the arguments, and the package variables that the reading takes, are together of bulk at most 1048576: NARROWER than '..Said'. Prove '..Said' where nothing that the law and all that it calls make is longer than what came in: it says more and counts as full. Else prove '..UptoSaid'. A law counts once. -/
mutual
def uptoBulk {H : Type} : DataW H → Nat
  | .lit (.string bytes) => bytes.length + 1
  | .lit _ => 1
  | .nil => 1
  | .ptr d => uptoBulk d + 1
  | .slice elems spare => uptoBulkAll elems + uptoBulkAll spare + 1
  | .agg parts => uptoBulkAll parts + 1
  | .iface _ d => uptoBulk d + 1
  | .map entries => uptoBulkEntries entries + 1
  | .held _ => 1
def uptoBulkAll {H : Type} : List (DataW H) → Nat
  | [] => 0
  | d :: r => uptoBulk d + uptoBulkAll r
def uptoBulkEntries {H : Type} : List (Lit × DataW H) → Nat
  | [] => 0
  | x :: r => uptoBulkEntry x + uptoBulkEntries r
def uptoBulkEntry {H : Type} : Lit × DataW H → Nat
  | (.string bytes, d) => bytes.length + uptoBulk d + 1
  | (_, d) => uptoBulk d + 1
 end
def uptoSmall : (H : Type) → List (DataW H) → Bool := fun _ ds => decide (uptoBulkAll ds ≤ 1048576)
def OpenSpec.upto (s : _root_.Go.ChangeSpec) : _root_.Go.OpenSpec := { _root_.Go.OpenSpec.ofChange s with cond := some uptoSmall }

/-- 'laws.FnExactWithoutRests', WHERE WHAT IT READS IS OF BULK AT MOST 1048576: true; the input reads as it did. -/
def fnExactWithoutRestsUptoRow : OpenClaim := { program := "yteoipomgldioeaa", sum := "09b9fcee36d1ca64f57f60e0bd10b6a63f499ef1fa8ae3e7803eaa1f925de60b", func := "loop.example/g01283/laws.FnExactWithoutRests", spec := "fnExactWithoutRests", unfollowed := true, recurses := true, apart := false, narrowed := true }
def FnExactWithoutRestsUptoSaid : Prop := fnExactWithoutRestsUptoRow.holds Try.pinned (OpenSpec.upto fnExactWithoutRestsSpec)

/-- 'laws.FnExactSumOf', WHERE WHAT IT READS IS OF BULK AT MOST 1048576: true; the input reads as it did. -/
def fnExactSumOfUptoRow : OpenClaim := { program := "yteoipomgldioeaa", sum := "09b9fcee36d1ca64f57f60e0bd10b6a63f499ef1fa8ae3e7803eaa1f925de60b", func := "loop.example/g01283/laws.FnExactSumOf", spec := "fnExactSumOf", unfollowed := true, recurses := true, apart := false, narrowed := true }
def FnExactSumOfUptoSaid : Prop := fnExactSumOfUptoRow.holds Try.pinned (OpenSpec.upto fnExactSumOfSpec)

/-- 'laws.FnExactNodePoly', WHERE WHAT IT READS IS OF BULK AT MOST 1048576: true; the input reads as it did. -/
def fnExactNodePolyUptoRow : OpenClaim := { program := "yteoipomgldioeaa", sum := "09b9fcee36d1ca64f57f60e0bd10b6a63f499ef1fa8ae3e7803eaa1f925de60b", func := "loop.example/g01283/laws.FnExactNodePoly", spec := "fnExactNodePoly", unfollowed := true, recurses := true, apart := false, narrowed := true }
def FnExactNodePolyUptoSaid : Prop := fnExactNodePolyUptoRow.holds Try.pinned (OpenSpec.upto fnExactNodePolySpec)

/-- 'laws.FnExactMomentsOfRule', WHERE WHAT IT READS IS OF BULK AT MOST 1048576: true; the input reads as it did. -/
def fnExactMomentsOfRuleUptoRow : OpenClaim := { program := "yteoipomgldioeaa", sum := "09b9fcee36d1ca64f57f60e0bd10b6a63f499ef1fa8ae3e7803eaa1f925de60b", func := "loop.example/g01283/laws.FnExactMomentsOfRule", spec := "fnExactMomentsOfRule", unfollowed := true, recurses := true, apart := false, narrowed := true }
def FnExactMomentsOfRuleUptoSaid : Prop := fnExactMomentsOfRuleUptoRow.holds Try.pinned (OpenSpec.upto fnExactMomentsOfRuleSpec)

/-- 'laws.FnExactErrorOf', WHERE WHAT IT READS IS OF BULK AT MOST 1048576: true; the input reads as it did. -/
def fnExactErrorOfUptoRow : OpenClaim := { program := "yteoipomgldioeaa", sum := "09b9fcee36d1ca64f57f60e0bd10b6a63f499ef1fa8ae3e7803eaa1f925de60b", func := "loop.example/g01283/laws.FnExactErrorOf", spec := "fnExactErrorOf", unfollowed := true, recurses := true, apart := false, narrowed := true }
def FnExactErrorOfUptoSaid : Prop := fnExactErrorOfUptoRow.holds Try.pinned (OpenSpec.upto fnExactErrorOfSpec)

/-- 'laws.FnExactDegreeOfRule', WHERE WHAT IT READS IS OF BULK AT MOST 1048576: true; the input reads as it did. -/
def fnExactDegreeOfRuleUptoRow : OpenClaim := { program := "yteoipomgldioeaa", sum := "09b9fcee36d1ca64f57f60e0bd10b6a63f499ef1fa8ae3e7803eaa1f925de60b", func := "loop.example/g01283/laws.FnExactDegreeOfRule", spec := "fnExactDegreeOfRule", unfollowed := true, recurses := true, apart := false, narrowed := true }
def FnExactDegreeOfRuleUptoSaid : Prop := fnExactDegreeOfRuleUptoRow.holds Try.pinned (OpenSpec.upto fnExactDegreeOfRuleSpec)

/-- 'laws.FnExactWeightsFor', WHERE WHAT IT READS IS OF BULK AT MOST 1048576: true; the input reads as it did. -/
def fnExactWeightsForUptoRow : OpenClaim := { program := "yteoipomgldioeaa", sum := "09b9fcee36d1ca64f57f60e0bd10b6a63f499ef1fa8ae3e7803eaa1f925de60b", func := "loop.example/g01283/laws.FnExactWeightsFor", spec := "fnExactWeightsFor", unfollowed := true, recurses := true, apart := false, narrowed := true }
def FnExactWeightsForUptoSaid : Prop := fnExactWeightsForUptoRow.holds Try.pinned (OpenSpec.upto fnExactWeightsForSpec)

/-- 'laws.FnExactGaussRule', WHERE WHAT IT READS IS OF BULK AT MOST 1048576: true; the input reads as it did. -/
def fnExactGaussRuleUptoRow : OpenClaim := { program := "yteoipomgldioeaa", sum := "09b9fcee36d1ca64f57f60e0bd10b6a63f499ef1fa8ae3e7803eaa1f925de60b", func := "loop.example/g01283/laws.FnExactGaussRule", spec := "fnExactGaussRule", unfollowed := true, recurses := true, apart := false, narrowed := true }
def FnExactGaussRuleUptoSaid : Prop := fnExactGaussRuleUptoRow.holds Try.pinned (OpenSpec.upto fnExactGaussRuleSpec)

/-- 'laws.FnExactMergeRules', WHERE WHAT IT READS IS OF BULK AT MOST 1048576: true; the input reads as it did. -/
def fnExactMergeRulesUptoRow : OpenClaim := { program := "yteoipomgldioeaa", sum := "09b9fcee36d1ca64f57f60e0bd10b6a63f499ef1fa8ae3e7803eaa1f925de60b", func := "loop.example/g01283/laws.FnExactMergeRules", spec := "fnExactMergeRules", unfollowed := true, recurses := true, apart := false, narrowed := true }
def FnExactMergeRulesUptoSaid : Prop := fnExactMergeRulesUptoRow.holds Try.pinned (OpenSpec.upto fnExactMergeRulesSpec)

/-- 'laws.FnExactMoveRule', WHERE WHAT IT READS IS OF BULK AT MOST 1048576: true; the input reads as it did. -/
def fnExactMoveRuleUptoRow : OpenClaim := { program := "yteoipomgldioeaa", sum := "09b9fcee36d1ca64f57f60e0bd10b6a63f499ef1fa8ae3e7803eaa1f925de60b", func := "loop.example/g01283/laws.FnExactMoveRule", spec := "fnExactMoveRule", unfollowed := true, recurses := true, apart := false, narrowed := true }
def FnExactMoveRuleUptoSaid : Prop := fnExactMoveRuleUptoRow.holds Try.pinned (OpenSpec.upto fnExactMoveRuleSpec)

end Rows
end Go.Proofs.Yteoipomgldioeaa

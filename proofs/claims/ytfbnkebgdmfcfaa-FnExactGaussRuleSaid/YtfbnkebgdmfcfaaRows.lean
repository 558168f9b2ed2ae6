/-
  No cell of these rows narrows 'for every input' (looked for: loops, veiled, ifaces, maps, wideKeys, modest, calm, conditions, laid).
  DERIVED. THE GIVEN ROWS OF THIS SEAT. 12 by the template 'for every input the law returns true; each argument reads behind the call as it read before'; 0 by the template 'total and deterministic' (their statements: YtfbnkebgdmfcfaaTotals.lean).
  GIVEN WITH THE SEED: the statements are not yours to turn. If you find one false, say at which input.
  Laid BY PROGRAM, IN A SANDBOX (cutbox-rows.mjs): the forced cells as the released guide's own fill.sh prints them over the translation f45206288afd57e4… (all of the seat's roots in one cut). By AI agents, Wed Nov 11 2026. No macro, syntax, notation, axiom, sorry.
-/
import Derived.Test.YtfbnkebgdmfcfaaChecked
import GoSem.Claim
import GoSem.ClaimJoined
import GoSem.ClaimMapViews
import Derived.JoinedTies
import Derived.KernelRfl
namespace Go.Proofs.Ytfbnkebgdmfcfaa
/- THE CELL 'sum', in the pinned program and in every row, IS THE sha256 OF THE DUMP (.gsa) THAT YtfbnkebgdmfcfaaProg.lean LOADS. Nothing in Lean hashes anything: it is a label: what it is worth is what the hold of that sum in a sandbox is worth. -/
noncomputable def Try.pinned : Pinned := { name := "ytfbnkebgdmfcfaa", sum := "f45206288afd57e4d914a585f05590102b0e7a8e704b6ae57cbf630d7217f7ca", checked := Try.checked }
namespace Rows
def none {H : Type} : Left H := { results := [], args := [] }

/-- 'laws.FnExactReverseJacobi': WHATEVER THE INPUT: true; the input reads as it did. -/
def fnExactReverseJacobiSpec : ChangeSpec := { name := "fnExactReverseJacobi", fn := fun _ => fun
  | [d] => { results := [.lit (.bool true)], args := [d] }
  | _ => none }
def fnExactReverseJacobiRow : OpenClaim := { program := "ytfbnkebgdmfcfaa", sum := "f45206288afd57e4d914a585f05590102b0e7a8e704b6ae57cbf630d7217f7ca", func := "loop.example/g01283/laws.FnExactReverseJacobi", spec := "fnExactReverseJacobi", unfollowed := true, recurses := true, apart := false }
def FnExactReverseJacobiSaid : Prop := fnExactReverseJacobiRow.holds Try.pinned (OpenSpec.ofChange fnExactReverseJacobiSpec)

/-- ITS FALSE NEIGHBOUR: 'it returns false'. Refute it at one input. -/
def fnExactReverseJacobiWrong : ChangeSpec := { name := "fnExactReverseJacobi", fn := fun _ => fun
  | [d] => { results := [.lit (.bool false)], args := [d] }
  | _ => none }
def FnExactReverseJacobiWrongFalsely : Prop := fnExactReverseJacobiRow.holds Try.pinned (OpenSpec.ofChange fnExactReverseJacobiWrong)

/-- 'laws.FnExactWeightsFor': WHATEVER THE INPUT: true; the input reads as it did. -/
def fnExactWeightsForSpec : ChangeSpec := { name := "fnExactWeightsFor", fn := fun _ => fun
  | [d1, d2] => { results := [.lit (.bool true)], args := [d1, d2] }
  | _ => none }
def fnExactWeightsForRow : OpenClaim := { program := "ytfbnkebgdmfcfaa", sum := "f45206288afd57e4d914a585f05590102b0e7a8e704b6ae57cbf630d7217f7ca", func := "loop.example/g01283/laws.FnExactWeightsFor", spec := "fnExactWeightsFor", unfollowed := true, recurses := true, apart := false }
def FnExactWeightsForSaid : Prop := fnExactWeightsForRow.holds Try.pinned (OpenSpec.ofChange fnExactWeightsForSpec)

/-- ITS FALSE NEIGHBOUR: 'it returns false'. Refute it at one input. -/
def fnExactWeightsForWrong : ChangeSpec := { name := "fnExactWeightsFor", fn := fun _ => fun
  | [d1, d2] => { results := [.lit (.bool false)], args := [d1, d2] }
  | _ => none }
def FnExactWeightsForWrongFalsely : Prop := fnExactWeightsForRow.holds Try.pinned (OpenSpec.ofChange fnExactWeightsForWrong)

/-- 'laws.FnExactGaussRule': WHATEVER THE INPUT: true; the input reads as it did. -/
def fnExactGaussRuleSpec : ChangeSpec := { name := "fnExactGaussRule", fn := fun _ => fun
  | [d] => { results := [.lit (.bool true)], args := [d] }
  | _ => none }
def fnExactGaussRuleRow : OpenClaim := { program := "ytfbnkebgdmfcfaa", sum := "f45206288afd57e4d914a585f05590102b0e7a8e704b6ae57cbf630d7217f7ca", func := "loop.example/g01283/laws.FnExactGaussRule", spec := "fnExactGaussRule", unfollowed := true, recurses := true, apart := false }
def FnExactGaussRuleSaid : Prop := fnExactGaussRuleRow.holds Try.pinned (OpenSpec.ofChange fnExactGaussRuleSpec)

/-- ITS FALSE NEIGHBOUR: 'it returns false'. Refute it at one input. -/
def fnExactGaussRuleWrong : ChangeSpec := { name := "fnExactGaussRule", fn := fun _ => fun
  | [d] => { results := [.lit (.bool false)], args := [d] }
  | _ => none }
def FnExactGaussRuleWrongFalsely : Prop := fnExactGaussRuleRow.holds Try.pinned (OpenSpec.ofChange fnExactGaussRuleWrong)

/-- 'laws.FnExactNormOf': WHATEVER THE INPUT: true; the input reads as it did. -/
def fnExactNormOfSpec : ChangeSpec := { name := "fnExactNormOf", fn := fun _ => fun
  | [d1, d2] => { results := [.lit (.bool true)], args := [d1, d2] }
  | _ => none }
def fnExactNormOfRow : OpenClaim := { program := "ytfbnkebgdmfcfaa", sum := "f45206288afd57e4d914a585f05590102b0e7a8e704b6ae57cbf630d7217f7ca", func := "loop.example/g01283/laws.FnExactNormOf", spec := "fnExactNormOf", unfollowed := true, recurses := true, apart := false }
def FnExactNormOfSaid : Prop := fnExactNormOfRow.holds Try.pinned (OpenSpec.ofChange fnExactNormOfSpec)

/-- ITS FALSE NEIGHBOUR: 'it returns false'. Refute it at one input. -/
def fnExactNormOfWrong : ChangeSpec := { name := "fnExactNormOf", fn := fun _ => fun
  | [d1, d2] => { results := [.lit (.bool false)], args := [d1, d2] }
  | _ => none }
def FnExactNormOfWrongFalsely : Prop := fnExactNormOfRow.holds Try.pinned (OpenSpec.ofChange fnExactNormOfWrong)

/-- 'laws.FnExactOrthogonalPolynomial': WHATEVER THE INPUT: true; the input reads as it did. -/
def fnExactOrthogonalPolynomialSpec : ChangeSpec := { name := "fnExactOrthogonalPolynomial", fn := fun _ => fun
  | [d1, d2] => { results := [.lit (.bool true)], args := [d1, d2] }
  | _ => none }
def fnExactOrthogonalPolynomialRow : OpenClaim := { program := "ytfbnkebgdmfcfaa", sum := "f45206288afd57e4d914a585f05590102b0e7a8e704b6ae57cbf630d7217f7ca", func := "loop.example/g01283/laws.FnExactOrthogonalPolynomial", spec := "fnExactOrthogonalPolynomial", unfollowed := true, recurses := true, apart := false }
def FnExactOrthogonalPolynomialSaid : Prop := fnExactOrthogonalPolynomialRow.holds Try.pinned (OpenSpec.ofChange fnExactOrthogonalPolynomialSpec)

/-- ITS FALSE NEIGHBOUR: 'it returns false'. Refute it at one input. -/
def fnExactOrthogonalPolynomialWrong : ChangeSpec := { name := "fnExactOrthogonalPolynomial", fn := fun _ => fun
  | [d1, d2] => { results := [.lit (.bool false)], args := [d1, d2] }
  | _ => none }
def FnExactOrthogonalPolynomialWrongFalsely : Prop := fnExactOrthogonalPolynomialRow.holds Try.pinned (OpenSpec.ofChange fnExactOrthogonalPolynomialWrong)

/-- 'laws.FnExactNormsOf': WHATEVER THE INPUT: true; the input reads as it did. -/
def fnExactNormsOfSpec : ChangeSpec := { name := "fnExactNormsOf", fn := fun _ => fun
  | [d] => { results := [.lit (.bool true)], args := [d] }
  | _ => none }
def fnExactNormsOfRow : OpenClaim := { program := "ytfbnkebgdmfcfaa", sum := "f45206288afd57e4d914a585f05590102b0e7a8e704b6ae57cbf630d7217f7ca", func := "loop.example/g01283/laws.FnExactNormsOf", spec := "fnExactNormsOf", unfollowed := true, recurses := true, apart := false }
def FnExactNormsOfSaid : Prop := fnExactNormsOfRow.holds Try.pinned (OpenSpec.ofChange fnExactNormsOfSpec)

/-- ITS FALSE NEIGHBOUR: 'it returns false'. Refute it at one input. -/
def fnExactNormsOfWrong : ChangeSpec := { name := "fnExactNormsOf", fn := fun _ => fun
  | [d] => { results := [.lit (.bool false)], args := [d] }
  | _ => none }
def FnExactNormsOfWrongFalsely : Prop := fnExactNormsOfRow.holds Try.pinned (OpenSpec.ofChange fnExactNormsOfWrong)

/-- 'laws.FnExactSumOfExpansion': WHATEVER THE INPUT: true; the input reads as it did. -/
def fnExactSumOfExpansionSpec : ChangeSpec := { name := "fnExactSumOfExpansion", fn := fun _ => fun
  | [d1, d2] => { results := [.lit (.bool true)], args := [d1, d2] }
  | _ => none }
def fnExactSumOfExpansionRow : OpenClaim := { program := "ytfbnkebgdmfcfaa", sum := "f45206288afd57e4d914a585f05590102b0e7a8e704b6ae57cbf630d7217f7ca", func := "loop.example/g01283/laws.FnExactSumOfExpansion", spec := "fnExactSumOfExpansion", unfollowed := true, recurses := true, apart := false }
def FnExactSumOfExpansionSaid : Prop := fnExactSumOfExpansionRow.holds Try.pinned (OpenSpec.ofChange fnExactSumOfExpansionSpec)

/-- ITS FALSE NEIGHBOUR: 'it returns false'. Refute it at one input. -/
def fnExactSumOfExpansionWrong : ChangeSpec := { name := "fnExactSumOfExpansion", fn := fun _ => fun
  | [d1, d2] => { results := [.lit (.bool false)], args := [d1, d2] }
  | _ => none }
def FnExactSumOfExpansionWrongFalsely : Prop := fnExactSumOfExpansionRow.holds Try.pinned (OpenSpec.ofChange fnExactSumOfExpansionWrong)

/-- 'laws.FnExactExpandPolynomial': WHATEVER THE INPUT: true; the input reads as it did. -/
def fnExactExpandPolynomialSpec : ChangeSpec := { name := "fnExactExpandPolynomial", fn := fun _ => fun
  | [d1, d2] => { results := [.lit (.bool true)], args := [d1, d2] }
  | _ => none }
def fnExactExpandPolynomialRow : OpenClaim := { program := "ytfbnkebgdmfcfaa", sum := "f45206288afd57e4d914a585f05590102b0e7a8e704b6ae57cbf630d7217f7ca", func := "loop.example/g01283/laws.FnExactExpandPolynomial", spec := "fnExactExpandPolynomial", unfollowed := true, recurses := true, apart := false }
def FnExactExpandPolynomialSaid : Prop := fnExactExpandPolynomialRow.holds Try.pinned (OpenSpec.ofChange fnExactExpandPolynomialSpec)

/-- ITS FALSE NEIGHBOUR: 'it returns false'. Refute it at one input. -/
def fnExactExpandPolynomialWrong : ChangeSpec := { name := "fnExactExpandPolynomial", fn := fun _ => fun
  | [d1, d2] => { results := [.lit (.bool false)], args := [d1, d2] }
  | _ => none }
def FnExactExpandPolynomialWrongFalsely : Prop := fnExactExpandPolynomialRow.holds Try.pinned (OpenSpec.ofChange fnExactExpandPolynomialWrong)

/-- 'laws.FnExactKernelAt': WHATEVER THE INPUT: true; the input reads as it did. -/
def fnExactKernelAtSpec : ChangeSpec := { name := "fnExactKernelAt", fn := fun _ => fun
  | [d1, d2, d3, d4] => { results := [.lit (.bool true)], args := [d1, d2, d3, d4] }
  | _ => none }
def fnExactKernelAtRow : OpenClaim := { program := "ytfbnkebgdmfcfaa", sum := "f45206288afd57e4d914a585f05590102b0e7a8e704b6ae57cbf630d7217f7ca", func := "loop.example/g01283/laws.FnExactKernelAt", spec := "fnExactKernelAt", unfollowed := true, recurses := true, apart := false }
def FnExactKernelAtSaid : Prop := fnExactKernelAtRow.holds Try.pinned (OpenSpec.ofChange fnExactKernelAtSpec)

/-- ITS FALSE NEIGHBOUR: 'it returns false'. Refute it at one input. -/
def fnExactKernelAtWrong : ChangeSpec := { name := "fnExactKernelAt", fn := fun _ => fun
  | [d1, d2, d3, d4] => { results := [.lit (.bool false)], args := [d1, d2, d3, d4] }
  | _ => none }
def FnExactKernelAtWrongFalsely : Prop := fnExactKernelAtRow.holds Try.pinned (OpenSpec.ofChange fnExactKernelAtWrong)

/-- 'laws.FnExactJacobiOfMoments': WHATEVER THE INPUT: true; the input reads as it did. -/
def fnExactJacobiOfMomentsSpec : ChangeSpec := { name := "fnExactJacobiOfMoments", fn := fun _ => fun
  | [d1, d2] => { results := [.lit (.bool true)], args := [d1, d2] }
  | _ => none }
def fnExactJacobiOfMomentsRow : OpenClaim := { program := "ytfbnkebgdmfcfaa", sum := "f45206288afd57e4d914a585f05590102b0e7a8e704b6ae57cbf630d7217f7ca", func := "loop.example/g01283/laws.FnExactJacobiOfMoments", spec := "fnExactJacobiOfMoments", unfollowed := true, recurses := true, apart := false }
def FnExactJacobiOfMomentsSaid : Prop := fnExactJacobiOfMomentsRow.holds Try.pinned (OpenSpec.ofChange fnExactJacobiOfMomentsSpec)

/-- ITS FALSE NEIGHBOUR: 'it returns false'. Refute it at one input. -/
def fnExactJacobiOfMomentsWrong : ChangeSpec := { name := "fnExactJacobiOfMoments", fn := fun _ => fun
  | [d1, d2] => { results := [.lit (.bool false)], args := [d1, d2] }
  | _ => none }
def FnExactJacobiOfMomentsWrongFalsely : Prop := fnExactJacobiOfMomentsRow.holds Try.pinned (OpenSpec.ofChange fnExactJacobiOfMomentsWrong)

/-- 'laws.FnExactKernelOf': WHATEVER THE INPUT: true; the input reads as it did. -/
def fnExactKernelOfSpec : ChangeSpec := { name := "fnExactKernelOf", fn := fun _ => fun
  | [d1, d2, d3] => { results := [.lit (.bool true)], args := [d1, d2, d3] }
  | _ => none }
def fnExactKernelOfRow : OpenClaim := { program := "ytfbnkebgdmfcfaa", sum := "f45206288afd57e4d914a585f05590102b0e7a8e704b6ae57cbf630d7217f7ca", func := "loop.example/g01283/laws.FnExactKernelOf", spec := "fnExactKernelOf", unfollowed := true, recurses := true, apart := false }
def FnExactKernelOfSaid : Prop := fnExactKernelOfRow.holds Try.pinned (OpenSpec.ofChange fnExactKernelOfSpec)

/-- ITS FALSE NEIGHBOUR: 'it returns false'. Refute it at one input. -/
def fnExactKernelOfWrong : ChangeSpec := { name := "fnExactKernelOf", fn := fun _ => fun
  | [d1, d2, d3] => { results := [.lit (.bool false)], args := [d1, d2, d3] }
  | _ => none }
def FnExactKernelOfWrongFalsely : Prop := fnExactKernelOfRow.holds Try.pinned (OpenSpec.ofChange fnExactKernelOfWrong)

/-- 'laws.FnExactReproduceAt': WHATEVER THE INPUT: true; the input reads as it did. -/
def fnExactReproduceAtSpec : ChangeSpec := { name := "fnExactReproduceAt", fn := fun _ => fun
  | [d1, d2, d3, d4] => { results := [.lit (.bool true)], args := [d1, d2, d3, d4] }
  | _ => none }
def fnExactReproduceAtRow : OpenClaim := { program := "ytfbnkebgdmfcfaa", sum := "f45206288afd57e4d914a585f05590102b0e7a8e704b6ae57cbf630d7217f7ca", func := "loop.example/g01283/laws.FnExactReproduceAt", spec := "fnExactReproduceAt", unfollowed := true, recurses := true, apart := false }
def FnExactReproduceAtSaid : Prop := fnExactReproduceAtRow.holds Try.pinned (OpenSpec.ofChange fnExactReproduceAtSpec)

/-- ITS FALSE NEIGHBOUR: 'it returns false'. Refute it at one input. -/
def fnExactReproduceAtWrong : ChangeSpec := { name := "fnExactReproduceAt", fn := fun _ => fun
  | [d1, d2, d3, d4] => { results := [.lit (.bool false)], args := [d1, d2, d3, d4] }
  | _ => none }
def FnExactReproduceAtWrongFalsely : Prop := fnExactReproduceAtRow.holds Try.pinned (OpenSpec.ofChange fnExactReproduceAtWrong)

/- THE SECOND FORM. 'bulk': how many values and letters a reading holds, each counted each time it is reached (what is shared counts as often as it is met; a slice's spare places count too). A statement '..UptoSaid' is the law's where the arguments, and the package variables that the reading takes, are together of bulk at most 1048576: NARROWER than '..Said'. Prove '..Said' where nothing that the law and all that it calls make is longer than what came in: it says more and counts as full. Else prove '..UptoSaid'. A law counts once. -/
mutual
def uptoBulk {H : Type} : DataW H → Nat
  | .lit (.string bytes) => bytes.length + 1
  | .lit _ => 1
  | .nil => 1
  | .ptr d => uptoBulk d + 1
  | .slice elems spare => uptoBulkAll elems + uptoBulkAll spare + 1
  | .agg parts => uptoBulkAll parts + 1
  | .iface _ d => uptoBulk d + 1
  | .map entries => uptoBulkEntries entries + 1
  | .held _ => 1
def uptoBulkAll {H : Type} : List (DataW H) → Nat
  | [] => 0
  | d :: r => uptoBulk d + uptoBulkAll r
def uptoBulkEntries {H : Type} : List (Lit × DataW H) → Nat
  | [] => 0
  | x :: r => uptoBulkEntry x + uptoBulkEntries r
def uptoBulkEntry {H : Type} : Lit × DataW H → Nat
  | (.string bytes, d) => bytes.length + uptoBulk d + 1
  | (_, d) => uptoBulk d + 1
 end
def uptoSmall : (H : Type) → List (DataW H) → Bool := fun _ ds => decide (uptoBulkAll ds ≤ 1048576)
def OpenSpec.upto (s : _root_.Go.ChangeSpec) : _root_.Go.OpenSpec := { _root_.Go.OpenSpec.ofChange s with cond := some uptoSmall }

/-- 'laws.FnExactReverseJacobi', WHERE WHAT IT READS IS OF BULK AT MOST 1048576: true; the input reads as it did. -/
def fnExactReverseJacobiUptoRow : OpenClaim := { program := "ytfbnkebgdmfcfaa", sum := "f45206288afd57e4d914a585f05590102b0e7a8e704b6ae57cbf630d7217f7ca", func := "loop.example/g01283/laws.FnExactReverseJacobi", spec := "fnExactReverseJacobi", unfollowed := true, recurses := true, apart := false, narrowed := true }
def FnExactReverseJacobiUptoSaid : Prop := fnExactReverseJacobiUptoRow.holds Try.pinned (OpenSpec.upto fnExactReverseJacobiSpec)

/-- 'laws.FnExactWeightsFor', WHERE WHAT IT READS IS OF BULK AT MOST 1048576: true; the input reads as it did. -/
def fnExactWeightsForUptoRow : OpenClaim := { program := "ytfbnkebgdmfcfaa", sum := "f45206288afd57e4d914a585f05590102b0e7a8e704b6ae57cbf630d7217f7ca", func := "loop.example/g01283/laws.FnExactWeightsFor", spec := "fnExactWeightsFor", unfollowed := true, recurses := true, apart := false, narrowed := true }
def FnExactWeightsForUptoSaid : Prop := fnExactWeightsForUptoRow.holds Try.pinned (OpenSpec.upto fnExactWeightsForSpec)

/-- 'laws.FnExactGaussRule', WHERE WHAT IT READS IS OF BULK AT MOST 1048576: true; the input reads as it did. -/
def fnExactGaussRuleUptoRow : OpenClaim := { program := "ytfbnkebgdmfcfaa", sum := "f45206288afd57e4d914a585f05590102b0e7a8e704b6ae57cbf630d7217f7ca", func := "loop.example/g01283/laws.FnExactGaussRule", spec := "fnExactGaussRule", unfollowed := true, recurses := true, apart := false, narrowed := true }
def FnExactGaussRuleUptoSaid : Prop := fnExactGaussRuleUptoRow.holds Try.pinned (OpenSpec.upto fnExactGaussRuleSpec)

/-- 'laws.FnExactNormOf', WHERE WHAT IT READS IS OF BULK AT MOST 1048576: true; the input reads as it did. -/
def fnExactNormOfUptoRow : OpenClaim := { program := "ytfbnkebgdmfcfaa", sum := "f45206288afd57e4d914a585f05590102b0e7a8e704b6ae57cbf630d7217f7ca", func := "loop.example/g01283/laws.FnExactNormOf", spec := "fnExactNormOf", unfollowed := true, recurses := true, apart := false, narrowed := true }
def FnExactNormOfUptoSaid : Prop := fnExactNormOfUptoRow.holds Try.pinned (OpenSpec.upto fnExactNormOfSpec)

/-- 'laws.FnExactOrthogonalPolynomial', WHERE WHAT IT READS IS OF BULK AT MOST 1048576: true; the input reads as it did. -/
def fnExactOrthogonalPolynomialUptoRow : OpenClaim := { program := "ytfbnkebgdmfcfaa", sum := "f45206288afd57e4d914a585f05590102b0e7a8e704b6ae57cbf630d7217f7ca", func := "loop.example/g01283/laws.FnExactOrthogonalPolynomial", spec := "fnExactOrthogonalPolynomial", unfollowed := true, recurses := true, apart := false, narrowed := true }
def FnExactOrthogonalPolynomialUptoSaid : Prop := fnExactOrthogonalPolynomialUptoRow.holds Try.pinned (OpenSpec.upto fnExactOrthogonalPolynomialSpec)

/-- 'laws.FnExactNormsOf', WHERE WHAT IT READS IS OF BULK AT MOST 1048576: true; the input reads as it did. -/
def fnExactNormsOfUptoRow : OpenClaim := { program := "ytfbnkebgdmfcfaa", sum := "f45206288afd57e4d914a585f05590102b0e7a8e704b6ae57cbf630d7217f7ca", func := "loop.example/g01283/laws.FnExactNormsOf", spec := "fnExactNormsOf", unfollowed := true, recurses := true, apart := false, narrowed := true }
def FnExactNormsOfUptoSaid : Prop := fnExactNormsOfUptoRow.holds Try.pinned (OpenSpec.upto fnExactNormsOfSpec)

/-- 'laws.FnExactSumOfExpansion', WHERE WHAT IT READS IS OF BULK AT MOST 1048576: true; the input reads as it did. -/
def fnExactSumOfExpansionUptoRow : OpenClaim := { program := "ytfbnkebgdmfcfaa", sum := "f45206288afd57e4d914a585f05590102b0e7a8e704b6ae57cbf630d7217f7ca", func := "loop.example/g01283/laws.FnExactSumOfExpansion", spec := "fnExactSumOfExpansion", unfollowed := true, recurses := true, apart := false, narrowed := true }
def FnExactSumOfExpansionUptoSaid : Prop := fnExactSumOfExpansionUptoRow.holds Try.pinned (OpenSpec.upto fnExactSumOfExpansionSpec)

/-- 'laws.FnExactExpandPolynomial', WHERE WHAT IT READS IS OF BULK AT MOST 1048576: true; the input reads as it did. -/
def fnExactExpandPolynomialUptoRow : OpenClaim := { program := "ytfbnkebgdmfcfaa", sum := "f45206288afd57e4d914a585f05590102b0e7a8e704b6ae57cbf630d7217f7ca", func := "loop.example/g01283/laws.FnExactExpandPolynomial", spec := "fnExactExpandPolynomial", unfollowed := true, recurses := true, apart := false, narrowed := true }
def FnExactExpandPolynomialUptoSaid : Prop := fnExactExpandPolynomialUptoRow.holds Try.pinned (OpenSpec.upto fnExactExpandPolynomialSpec)

/-- 'laws.FnExactKernelAt', WHERE WHAT IT READS IS OF BULK AT MOST 1048576: true; the input reads as it did. -/
def fnExactKernelAtUptoRow : OpenClaim := { program := "ytfbnkebgdmfcfaa", sum := "f45206288afd57e4d914a585f05590102b0e7a8e704b6ae57cbf630d7217f7ca", func := "loop.example/g01283/laws.FnExactKernelAt", spec := "fnExactKernelAt", unfollowed := true, recurses := true, apart := false, narrowed := true }
def FnExactKernelAtUptoSaid : Prop := fnExactKernelAtUptoRow.holds Try.pinned (OpenSpec.upto fnExactKernelAtSpec)

/-- 'laws.FnExactJacobiOfMoments', WHERE WHAT IT READS IS OF BULK AT MOST 1048576: true; the input reads as it did. -/
def fnExactJacobiOfMomentsUptoRow : OpenClaim := { program := "ytfbnkebgdmfcfaa", sum := "f45206288afd57e4d914a585f05590102b0e7a8e704b6ae57cbf630d7217f7ca", func := "loop.example/g01283/laws.FnExactJacobiOfMoments", spec := "fnExactJacobiOfMoments", unfollowed := true, recurses := true, apart := false, narrowed := true }
def FnExactJacobiOfMomentsUptoSaid : Prop := fnExactJacobiOfMomentsUptoRow.holds Try.pinned (OpenSpec.upto fnExactJacobiOfMomentsSpec)

/-- 'laws.FnExactKernelOf', WHERE WHAT IT READS IS OF BULK AT MOST 1048576: true; the input reads as it did. -/
def fnExactKernelOfUptoRow : OpenClaim := { program := "ytfbnkebgdmfcfaa", sum := "f45206288afd57e4d914a585f05590102b0e7a8e704b6ae57cbf630d7217f7ca", func := "loop.example/g01283/laws.FnExactKernelOf", spec := "fnExactKernelOf", unfollowed := true, recurses := true, apart := false, narrowed := true }
def FnExactKernelOfUptoSaid : Prop := fnExactKernelOfUptoRow.holds Try.pinned (OpenSpec.upto fnExactKernelOfSpec)

/-- 'laws.FnExactReproduceAt', WHERE WHAT IT READS IS OF BULK AT MOST 1048576: true; the input reads as it did. -/
def fnExactReproduceAtUptoRow : OpenClaim := { program := "ytfbnkebgdmfcfaa", sum := "f45206288afd57e4d914a585f05590102b0e7a8e704b6ae57cbf630d7217f7ca", func := "loop.example/g01283/laws.FnExactReproduceAt", spec := "fnExactReproduceAt", unfollowed := true, recurses := true, apart := false, narrowed := true }
def FnExactReproduceAtUptoSaid : Prop := fnExactReproduceAtUptoRow.holds Try.pinned (OpenSpec.upto fnExactReproduceAtSpec)

end Rows
end Go.Proofs.Ytfbnkebgdmfcfaa

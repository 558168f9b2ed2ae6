/-
  No cell of these rows narrows 'for every input' (looked for: loops, veiled, ifaces, maps, wideKeys, modest, calm, conditions, laid).
  DERIVED. THE GIVEN ROWS OF THIS SEAT. 12 by the template 'for every input the law returns true; each argument reads behind the call as it read before'; 0 by the template 'total and deterministic' (their statements: YtokkabgkjhpecaaTotals.lean).
  GIVEN WITH THE SEED: the statements are not yours to turn. If you find one false, say at which input.
  Laid BY PROGRAM, IN A SANDBOX (cutbox-rows.mjs): the forced cells as the released guide's own fill.sh prints them over the translation f8a6a741d9e36ae2… (all of the seat's roots in one cut). By AI agents, Wed Nov 11 2026. No macro, syntax, notation, axiom, sorry.
-/
import Derived.Test.YtokkabgkjhpecaaChecked
import GoSem.Claim
import GoSem.ClaimJoined
import GoSem.ClaimMapViews
import Derived.JoinedTies
import Derived.KernelRfl
namespace Go.Proofs.Ytokkabgkjhpecaa
/- THE CELL 'sum', in the pinned program and in every row, IS THE sha256 OF THE DUMP (.gsa) THAT YtokkabgkjhpecaaProg.lean LOADS. Nothing in Lean hashes anything: it is a label: what it is worth is what the hold of that sum in a sandbox is worth. -/
noncomputable def Try.pinned : Pinned := { name := "ytokkabgkjhpecaa", sum := "f8a6a741d9e36ae2021bc41ce09634ccee4f9e229be9d99c4bc9052804e3e96d", checked := Try.checked }
namespace Rows
def none {H : Type} : Left H := { results := [], args := [] }

/-- 'laws.FnExactErrorOf': WHATEVER THE INPUT: true; the input reads as it did. -/
def fnExactErrorOfSpec : ChangeSpec := { name := "fnExactErrorOf", fn := fun _ => fun
  | [d1, d2, d3] => { results := [.lit (.bool true)], args := [d1, d2, d3] }
  | _ => none }
def fnExactErrorOfRow : OpenClaim := { program := "ytokkabgkjhpecaa", sum := "f8a6a741d9e36ae2021bc41ce09634ccee4f9e229be9d99c4bc9052804e3e96d", func := "loop.example/g01283/laws.FnExactErrorOf", spec := "fnExactErrorOf", unfollowed := true, recurses := true, apart := false }
def FnExactErrorOfSaid : Prop := fnExactErrorOfRow.holds Try.pinned (OpenSpec.ofChange fnExactErrorOfSpec)

/-- ITS FALSE NEIGHBOUR: 'it returns false'. Refute it at one input. -/
def fnExactErrorOfWrong : ChangeSpec := { name := "fnExactErrorOf", fn := fun _ => fun
  | [d1, d2, d3] => { results := [.lit (.bool false)], args := [d1, d2, d3] }
  | _ => none }
def FnExactErrorOfWrongFalsely : Prop := fnExactErrorOfRow.holds Try.pinned (OpenSpec.ofChange fnExactErrorOfWrong)

/-- 'laws.FnExactDegreeOfRule': WHATEVER THE INPUT: true; the input reads as it did. -/
def fnExactDegreeOfRuleSpec : ChangeSpec := { name := "fnExactDegreeOfRule", fn := fun _ => fun
  | [d1, d2] => { results := [.lit (.bool true)], args := [d1, d2] }
  | _ => none }
def fnExactDegreeOfRuleRow : OpenClaim := { program := "ytokkabgkjhpecaa", sum := "f8a6a741d9e36ae2021bc41ce09634ccee4f9e229be9d99c4bc9052804e3e96d", func := "loop.example/g01283/laws.FnExactDegreeOfRule", spec := "fnExactDegreeOfRule", unfollowed := true, recurses := true, apart := false }
def FnExactDegreeOfRuleSaid : Prop := fnExactDegreeOfRuleRow.holds Try.pinned (OpenSpec.ofChange fnExactDegreeOfRuleSpec)

/-- ITS FALSE NEIGHBOUR: 'it returns false'. Refute it at one input. -/
def fnExactDegreeOfRuleWrong : ChangeSpec := { name := "fnExactDegreeOfRule", fn := fun _ => fun
  | [d1, d2] => { results := [.lit (.bool false)], args := [d1, d2] }
  | _ => none }
def FnExactDegreeOfRuleWrongFalsely : Prop := fnExactDegreeOfRuleRow.holds Try.pinned (OpenSpec.ofChange fnExactDegreeOfRuleWrong)

/-- 'laws.FnExactValueOf': WHATEVER THE INPUT: true; the input reads as it did. -/
def fnExactValueOfSpec : ChangeSpec := { name := "fnExactValueOf", fn := fun _ => fun
  | [d1, d2, d3] => { results := [.lit (.bool true)], args := [d1, d2, d3] }
  | _ => none }
def fnExactValueOfRow : OpenClaim := { program := "ytokkabgkjhpecaa", sum := "f8a6a741d9e36ae2021bc41ce09634ccee4f9e229be9d99c4bc9052804e3e96d", func := "loop.example/g01283/laws.FnExactValueOf", spec := "fnExactValueOf", unfollowed := true, recurses := true, apart := false }
def FnExactValueOfSaid : Prop := fnExactValueOfRow.holds Try.pinned (OpenSpec.ofChange fnExactValueOfSpec)

/-- ITS FALSE NEIGHBOUR: 'it returns false'. Refute it at one input. -/
def fnExactValueOfWrong : ChangeSpec := { name := "fnExactValueOf", fn := fun _ => fun
  | [d1, d2, d3] => { results := [.lit (.bool false)], args := [d1, d2, d3] }
  | _ => none }
def FnExactValueOfWrongFalsely : Prop := fnExactValueOfRow.holds Try.pinned (OpenSpec.ofChange fnExactValueOfWrong)

/-- 'laws.FnExactChristoffelAt': WHATEVER THE INPUT: true; the input reads as it did. -/
def fnExactChristoffelAtSpec : ChangeSpec := { name := "fnExactChristoffelAt", fn := fun _ => fun
  | [d1, d2] => { results := [.lit (.bool true)], args := [d1, d2] }
  | _ => none }
def fnExactChristoffelAtRow : OpenClaim := { program := "ytokkabgkjhpecaa", sum := "f8a6a741d9e36ae2021bc41ce09634ccee4f9e229be9d99c4bc9052804e3e96d", func := "loop.example/g01283/laws.FnExactChristoffelAt", spec := "fnExactChristoffelAt", unfollowed := true, recurses := true, apart := false }
def FnExactChristoffelAtSaid : Prop := fnExactChristoffelAtRow.holds Try.pinned (OpenSpec.ofChange fnExactChristoffelAtSpec)

/-- ITS FALSE NEIGHBOUR: 'it returns false'. Refute it at one input. -/
def fnExactChristoffelAtWrong : ChangeSpec := { name := "fnExactChristoffelAt", fn := fun _ => fun
  | [d1, d2] => { results := [.lit (.bool false)], args := [d1, d2] }
  | _ => none }
def FnExactChristoffelAtWrongFalsely : Prop := fnExactChristoffelAtRow.holds Try.pinned (OpenSpec.ofChange fnExactChristoffelAtWrong)

/-- 'laws.FnExactRadauJacobi': WHATEVER THE INPUT: true; the input reads as it did. -/
def fnExactRadauJacobiSpec : ChangeSpec := { name := "fnExactRadauJacobi", fn := fun _ => fun
  | [d1, d2] => { results := [.lit (.bool true)], args := [d1, d2] }
  | _ => none }
def fnExactRadauJacobiRow : OpenClaim := { program := "ytokkabgkjhpecaa", sum := "f8a6a741d9e36ae2021bc41ce09634ccee4f9e229be9d99c4bc9052804e3e96d", func := "loop.example/g01283/laws.FnExactRadauJacobi", spec := "fnExactRadauJacobi", unfollowed := true, recurses := true, apart := false }
def FnExactRadauJacobiSaid : Prop := fnExactRadauJacobiRow.holds Try.pinned (OpenSpec.ofChange fnExactRadauJacobiSpec)

/-- ITS FALSE NEIGHBOUR: 'it returns false'. Refute it at one input. -/
def fnExactRadauJacobiWrong : ChangeSpec := { name := "fnExactRadauJacobi", fn := fun _ => fun
  | [d1, d2] => { results := [.lit (.bool false)], args := [d1, d2] }
  | _ => none }
def FnExactRadauJacobiWrongFalsely : Prop := fnExactRadauJacobiRow.holds Try.pinned (OpenSpec.ofChange fnExactRadauJacobiWrong)

/-- 'laws.FnExactProductMoments': WHATEVER THE INPUT: true; the input reads as it did. -/
def fnExactProductMomentsSpec : ChangeSpec := { name := "fnExactProductMoments", fn := fun _ => fun
  | [d1, d2] => { results := [.lit (.bool true)], args := [d1, d2] }
  | _ => none }
def fnExactProductMomentsRow : OpenClaim := { program := "ytokkabgkjhpecaa", sum := "f8a6a741d9e36ae2021bc41ce09634ccee4f9e229be9d99c4bc9052804e3e96d", func := "loop.example/g01283/laws.FnExactProductMoments", spec := "fnExactProductMoments", unfollowed := true, recurses := true, apart := false }
def FnExactProductMomentsSaid : Prop := fnExactProductMomentsRow.holds Try.pinned (OpenSpec.ofChange fnExactProductMomentsSpec)

/-- ITS FALSE NEIGHBOUR: 'it returns false'. Refute it at one input. -/
def fnExactProductMomentsWrong : ChangeSpec := { name := "fnExactProductMoments", fn := fun _ => fun
  | [d1, d2] => { results := [.lit (.bool false)], args := [d1, d2] }
  | _ => none }
def FnExactProductMomentsWrongFalsely : Prop := fnExactProductMomentsRow.holds Try.pinned (OpenSpec.ofChange fnExactProductMomentsWrong)

/-- 'laws.FnExactAffineMoments': WHATEVER THE INPUT: true; the input reads as it did. -/
def fnExactAffineMomentsSpec : ChangeSpec := { name := "fnExactAffineMoments", fn := fun _ => fun
  | [d1, d2, d3] => { results := [.lit (.bool true)], args := [d1, d2, d3] }
  | _ => none }
def fnExactAffineMomentsRow : OpenClaim := { program := "ytokkabgkjhpecaa", sum := "f8a6a741d9e36ae2021bc41ce09634ccee4f9e229be9d99c4bc9052804e3e96d", func := "loop.example/g01283/laws.FnExactAffineMoments", spec := "fnExactAffineMoments", unfollowed := true, recurses := true, apart := false }
def FnExactAffineMomentsSaid : Prop := fnExactAffineMomentsRow.holds Try.pinned (OpenSpec.ofChange fnExactAffineMomentsSpec)

/-- ITS FALSE NEIGHBOUR: 'it returns false'. Refute it at one input. -/
def fnExactAffineMomentsWrong : ChangeSpec := { name := "fnExactAffineMoments", fn := fun _ => fun
  | [d1, d2, d3] => { results := [.lit (.bool false)], args := [d1, d2, d3] }
  | _ => none }
def FnExactAffineMomentsWrongFalsely : Prop := fnExactAffineMomentsRow.holds Try.pinned (OpenSpec.ofChange fnExactAffineMomentsWrong)

/-- 'laws.FnExactSeriesOfJacobi': WHATEVER THE INPUT: true; the input reads as it did. -/
def fnExactSeriesOfJacobiSpec : ChangeSpec := { name := "fnExactSeriesOfJacobi", fn := fun _ => fun
  | [d1, d2] => { results := [.lit (.bool true)], args := [d1, d2] }
  | _ => none }
def fnExactSeriesOfJacobiRow : OpenClaim := { program := "ytokkabgkjhpecaa", sum := "f8a6a741d9e36ae2021bc41ce09634ccee4f9e229be9d99c4bc9052804e3e96d", func := "loop.example/g01283/laws.FnExactSeriesOfJacobi", spec := "fnExactSeriesOfJacobi", unfollowed := true, recurses := true, apart := false }
def FnExactSeriesOfJacobiSaid : Prop := fnExactSeriesOfJacobiRow.holds Try.pinned (OpenSpec.ofChange fnExactSeriesOfJacobiSpec)

/-- ITS FALSE NEIGHBOUR: 'it returns false'. Refute it at one input. -/
def fnExactSeriesOfJacobiWrong : ChangeSpec := { name := "fnExactSeriesOfJacobi", fn := fun _ => fun
  | [d1, d2] => { results := [.lit (.bool false)], args := [d1, d2] }
  | _ => none }
def FnExactSeriesOfJacobiWrongFalsely : Prop := fnExactSeriesOfJacobiRow.holds Try.pinned (OpenSpec.ofChange fnExactSeriesOfJacobiWrong)

/-- 'laws.FnExactHankelDeterminant': WHATEVER THE INPUT: true; the input reads as it did. -/
def fnExactHankelDeterminantSpec : ChangeSpec := { name := "fnExactHankelDeterminant", fn := fun _ => fun
  | [d1, d2] => { results := [.lit (.bool true)], args := [d1, d2] }
  | _ => none }
def fnExactHankelDeterminantRow : OpenClaim := { program := "ytokkabgkjhpecaa", sum := "f8a6a741d9e36ae2021bc41ce09634ccee4f9e229be9d99c4bc9052804e3e96d", func := "loop.example/g01283/laws.FnExactHankelDeterminant", spec := "fnExactHankelDeterminant", unfollowed := true, recurses := true, apart := false }
def FnExactHankelDeterminantSaid : Prop := fnExactHankelDeterminantRow.holds Try.pinned (OpenSpec.ofChange fnExactHankelDeterminantSpec)

/-- ITS FALSE NEIGHBOUR: 'it returns false'. Refute it at one input. -/
def fnExactHankelDeterminantWrong : ChangeSpec := { name := "fnExactHankelDeterminant", fn := fun _ => fun
  | [d1, d2] => { results := [.lit (.bool false)], args := [d1, d2] }
  | _ => none }
def FnExactHankelDeterminantWrongFalsely : Prop := fnExactHankelDeterminantRow.holds Try.pinned (OpenSpec.ofChange fnExactHankelDeterminantWrong)

/-- 'laws.FnExactOrderOf': WHATEVER THE INPUT: true; the input reads as it did. -/
def fnExactOrderOfSpec : ChangeSpec := { name := "fnExactOrderOf", fn := fun _ => fun
  | [d] => { results := [.lit (.bool true)], args := [d] }
  | _ => none }
def fnExactOrderOfRow : OpenClaim := { program := "ytokkabgkjhpecaa", sum := "f8a6a741d9e36ae2021bc41ce09634ccee4f9e229be9d99c4bc9052804e3e96d", func := "loop.example/g01283/laws.FnExactOrderOf", spec := "fnExactOrderOf", unfollowed := true, recurses := true, apart := false }
def FnExactOrderOfSaid : Prop := fnExactOrderOfRow.holds Try.pinned (OpenSpec.ofChange fnExactOrderOfSpec)

/-- ITS FALSE NEIGHBOUR: 'it returns false'. Refute it at one input. -/
def fnExactOrderOfWrong : ChangeSpec := { name := "fnExactOrderOf", fn := fun _ => fun
  | [d] => { results := [.lit (.bool false)], args := [d] }
  | _ => none }
def FnExactOrderOfWrongFalsely : Prop := fnExactOrderOfRow.holds Try.pinned (OpenSpec.ofChange fnExactOrderOfWrong)

/-- 'laws.FnExactStepsOf': WHATEVER THE INPUT: true; the input reads as it did. -/
def fnExactStepsOfSpec : ChangeSpec := { name := "fnExactStepsOf", fn := fun _ => fun
  | [d] => { results := [.lit (.bool true)], args := [d] }
  | _ => none }
def fnExactStepsOfRow : OpenClaim := { program := "ytokkabgkjhpecaa", sum := "f8a6a741d9e36ae2021bc41ce09634ccee4f9e229be9d99c4bc9052804e3e96d", func := "loop.example/g01283/laws.FnExactStepsOf", spec := "fnExactStepsOf", unfollowed := true, recurses := true, apart := false }
def FnExactStepsOfSaid : Prop := fnExactStepsOfRow.holds Try.pinned (OpenSpec.ofChange fnExactStepsOfSpec)

/-- ITS FALSE NEIGHBOUR: 'it returns false'. Refute it at one input. -/
def fnExactStepsOfWrong : ChangeSpec := { name := "fnExactStepsOf", fn := fun _ => fun
  | [d] => { results := [.lit (.bool false)], args := [d] }
  | _ => none }
def FnExactStepsOfWrongFalsely : Prop := fnExactStepsOfRow.holds Try.pinned (OpenSpec.ofChange fnExactStepsOfWrong)

/-- 'laws.FnExactNormOf': WHATEVER THE INPUT: true; the input reads as it did. -/
def fnExactNormOfSpec : ChangeSpec := { name := "fnExactNormOf", fn := fun _ => fun
  | [d1, d2] => { results := [.lit (.bool true)], args := [d1, d2] }
  | _ => none }
def fnExactNormOfRow : OpenClaim := { program := "ytokkabgkjhpecaa", sum := "f8a6a741d9e36ae2021bc41ce09634ccee4f9e229be9d99c4bc9052804e3e96d", func := "loop.example/g01283/laws.FnExactNormOf", spec := "fnExactNormOf", unfollowed := true, recurses := true, apart := false }
def FnExactNormOfSaid : Prop := fnExactNormOfRow.holds Try.pinned (OpenSpec.ofChange fnExactNormOfSpec)

/-- ITS FALSE NEIGHBOUR: 'it returns false'. Refute it at one input. -/
def fnExactNormOfWrong : ChangeSpec := { name := "fnExactNormOf", fn := fun _ => fun
  | [d1, d2] => { results := [.lit (.bool false)], args := [d1, d2] }
  | _ => none }
def FnExactNormOfWrongFalsely : Prop := fnExactNormOfRow.holds Try.pinned (OpenSpec.ofChange fnExactNormOfWrong)

/- THE SECOND FORM. 'bulk': how many values and letters a reading holds, each counted each time it is reached (what is shared counts as often as it is met; a slice's spare places count too). A statement '..UptoSaid' is the law's where the arguments, and the package variables that the reading takes, are together of bulk at most 1048576: NARROWER than '..Said'. Prove '..Said' where nothing that the law and all that it calls make is longer than what came in: it says more and counts as full. Else prove '..UptoSaid'. A law counts once. -/
mutual
def uptoBulk {H : Type} : DataW H → Nat
  | .lit (.string bytes) => bytes.length + 1
  | .lit _ => 1
  | .nil => 1
  | .ptr d => uptoBulk d + 1
  | .slice elems spare => uptoBulkAll elems + uptoBulkAll spare + 1
  | .agg parts => uptoBulkAll parts + 1
  | .iface _ d => uptoBulk d + 1
  | .map entries => uptoBulkEntries entries + 1
  | .held _ => 1
def uptoBulkAll {H : Type} : List (DataW H) → Nat
  | [] => 0
  | d :: r => uptoBulk d + uptoBulkAll r
def uptoBulkEntries {H : Type} : List (Lit × DataW H) → Nat
  | [] => 0
  | x :: r => uptoBulkEntry x + uptoBulkEntries r
def uptoBulkEntry {H : Type} : Lit × DataW H → Nat
  | (.string bytes, d) => bytes.length + uptoBulk d + 1
  | (_, d) => uptoBulk d + 1
 end
def uptoSmall : (H : Type) → List (DataW H) → Bool := fun _ ds => decide (uptoBulkAll ds ≤ 1048576)
def OpenSpec.upto (s : _root_.Go.ChangeSpec) : _root_.Go.OpenSpec := { _root_.Go.OpenSpec.ofChange s with cond := some uptoSmall }

/-- 'laws.FnExactErrorOf', WHERE WHAT IT READS IS OF BULK AT MOST 1048576: true; the input reads as it did. -/
def fnExactErrorOfUptoRow : OpenClaim := { program := "ytokkabgkjhpecaa", sum := "f8a6a741d9e36ae2021bc41ce09634ccee4f9e229be9d99c4bc9052804e3e96d", func := "loop.example/g01283/laws.FnExactErrorOf", spec := "fnExactErrorOf", unfollowed := true, recurses := true, apart := false, narrowed := true }
def FnExactErrorOfUptoSaid : Prop := fnExactErrorOfUptoRow.holds Try.pinned (OpenSpec.upto fnExactErrorOfSpec)

/-- 'laws.FnExactDegreeOfRule', WHERE WHAT IT READS IS OF BULK AT MOST 1048576: true; the input reads as it did. -/
def fnExactDegreeOfRuleUptoRow : OpenClaim := { program := "ytokkabgkjhpecaa", sum := "f8a6a741d9e36ae2021bc41ce09634ccee4f9e229be9d99c4bc9052804e3e96d", func := "loop.example/g01283/laws.FnExactDegreeOfRule", spec := "fnExactDegreeOfRule", unfollowed := true, recurses := true, apart := false, narrowed := true }
def FnExactDegreeOfRuleUptoSaid : Prop := fnExactDegreeOfRuleUptoRow.holds Try.pinned (OpenSpec.upto fnExactDegreeOfRuleSpec)

/-- 'laws.FnExactValueOf', WHERE WHAT IT READS IS OF BULK AT MOST 1048576: true; the input reads as it did. -/
def fnExactValueOfUptoRow : OpenClaim := { program := "ytokkabgkjhpecaa", sum := "f8a6a741d9e36ae2021bc41ce09634ccee4f9e229be9d99c4bc9052804e3e96d", func := "loop.example/g01283/laws.FnExactValueOf", spec := "fnExactValueOf", unfollowed := true, recurses := true, apart := false, narrowed := true }
def FnExactValueOfUptoSaid : Prop := fnExactValueOfUptoRow.holds Try.pinned (OpenSpec.upto fnExactValueOfSpec)

/-- 'laws.FnExactChristoffelAt', WHERE WHAT IT READS IS OF BULK AT MOST 1048576: true; the input reads as it did. -/
def fnExactChristoffelAtUptoRow : OpenClaim := { program := "ytokkabgkjhpecaa", sum := "f8a6a741d9e36ae2021bc41ce09634ccee4f9e229be9d99c4bc9052804e3e96d", func := "loop.example/g01283/laws.FnExactChristoffelAt", spec := "fnExactChristoffelAt", unfollowed := true, recurses := true, apart := false, narrowed := true }
def FnExactChristoffelAtUptoSaid : Prop := fnExactChristoffelAtUptoRow.holds Try.pinned (OpenSpec.upto fnExactChristoffelAtSpec)

/-- 'laws.FnExactRadauJacobi', WHERE WHAT IT READS IS OF BULK AT MOST 1048576: true; the input reads as it did. -/
def fnExactRadauJacobiUptoRow : OpenClaim := { program := "ytokkabgkjhpecaa", sum := "f8a6a741d9e36ae2021bc41ce09634ccee4f9e229be9d99c4bc9052804e3e96d", func := "loop.example/g01283/laws.FnExactRadauJacobi", spec := "fnExactRadauJacobi", unfollowed := true, recurses := true, apart := false, narrowed := true }
def FnExactRadauJacobiUptoSaid : Prop := fnExactRadauJacobiUptoRow.holds Try.pinned (OpenSpec.upto fnExactRadauJacobiSpec)

/-- 'laws.FnExactProductMoments', WHERE WHAT IT READS IS OF BULK AT MOST 1048576: true; the input reads as it did. -/
def fnExactProductMomentsUptoRow : OpenClaim := { program := "ytokkabgkjhpecaa", sum := "f8a6a741d9e36ae2021bc41ce09634ccee4f9e229be9d99c4bc9052804e3e96d", func := "loop.example/g01283/laws.FnExactProductMoments", spec := "fnExactProductMoments", unfollowed := true, recurses := true, apart := false, narrowed := true }
def FnExactProductMomentsUptoSaid : Prop := fnExactProductMomentsUptoRow.holds Try.pinned (OpenSpec.upto fnExactProductMomentsSpec)

/-- 'laws.FnExactAffineMoments', WHERE WHAT IT READS IS OF BULK AT MOST 1048576: true; the input reads as it did. -/
def fnExactAffineMomentsUptoRow : OpenClaim := { program := "ytokkabgkjhpecaa", sum := "f8a6a741d9e36ae2021bc41ce09634ccee4f9e229be9d99c4bc9052804e3e96d", func := "loop.example/g01283/laws.FnExactAffineMoments", spec := "fnExactAffineMoments", unfollowed := true, recurses := true, apart := false, narrowed := true }
def FnExactAffineMomentsUptoSaid : Prop := fnExactAffineMomentsUptoRow.holds Try.pinned (OpenSpec.upto fnExactAffineMomentsSpec)

/-- 'laws.FnExactSeriesOfJacobi', WHERE WHAT IT READS IS OF BULK AT MOST 1048576: true; the input reads as it did. -/
def fnExactSeriesOfJacobiUptoRow : OpenClaim := { program := "ytokkabgkjhpecaa", sum := "f8a6a741d9e36ae2021bc41ce09634ccee4f9e229be9d99c4bc9052804e3e96d", func := "loop.example/g01283/laws.FnExactSeriesOfJacobi", spec := "fnExactSeriesOfJacobi", unfollowed := true, recurses := true, apart := false, narrowed := true }
def FnExactSeriesOfJacobiUptoSaid : Prop := fnExactSeriesOfJacobiUptoRow.holds Try.pinned (OpenSpec.upto fnExactSeriesOfJacobiSpec)

/-- 'laws.FnExactHankelDeterminant', WHERE WHAT IT READS IS OF BULK AT MOST 1048576: true; the input reads as it did. -/
def fnExactHankelDeterminantUptoRow : OpenClaim := { program := "ytokkabgkjhpecaa", sum := "f8a6a741d9e36ae2021bc41ce09634ccee4f9e229be9d99c4bc9052804e3e96d", func := "loop.example/g01283/laws.FnExactHankelDeterminant", spec := "fnExactHankelDeterminant", unfollowed := true, recurses := true, apart := false, narrowed := true }
def FnExactHankelDeterminantUptoSaid : Prop := fnExactHankelDeterminantUptoRow.holds Try.pinned (OpenSpec.upto fnExactHankelDeterminantSpec)

/-- 'laws.FnExactOrderOf', WHERE WHAT IT READS IS OF BULK AT MOST 1048576: true; the input reads as it did. -/
def fnExactOrderOfUptoRow : OpenClaim := { program := "ytokkabgkjhpecaa", sum := "f8a6a741d9e36ae2021bc41ce09634ccee4f9e229be9d99c4bc9052804e3e96d", func := "loop.example/g01283/laws.FnExactOrderOf", spec := "fnExactOrderOf", unfollowed := true, recurses := true, apart := false, narrowed := true }
def FnExactOrderOfUptoSaid : Prop := fnExactOrderOfUptoRow.holds Try.pinned (OpenSpec.upto fnExactOrderOfSpec)

/-- 'laws.FnExactStepsOf', WHERE WHAT IT READS IS OF BULK AT MOST 1048576: true; the input reads as it did. -/
def fnExactStepsOfUptoRow : OpenClaim := { program := "ytokkabgkjhpecaa", sum := "f8a6a741d9e36ae2021bc41ce09634ccee4f9e229be9d99c4bc9052804e3e96d", func := "loop.example/g01283/laws.FnExactStepsOf", spec := "fnExactStepsOf", unfollowed := true, recurses := true, apart := false, narrowed := true }
def FnExactStepsOfUptoSaid : Prop := fnExactStepsOfUptoRow.holds Try.pinned (OpenSpec.upto fnExactStepsOfSpec)

/-- 'laws.FnExactNormOf', WHERE WHAT IT READS IS OF BULK AT MOST 1048576: true; the input reads as it did. -/
def fnExactNormOfUptoRow : OpenClaim := { program := "ytokkabgkjhpecaa", sum := "f8a6a741d9e36ae2021bc41ce09634ccee4f9e229be9d99c4bc9052804e3e96d", func := "loop.example/g01283/laws.FnExactNormOf", spec := "fnExactNormOf", unfollowed := true, recurses := true, apart := false, narrowed := true }
def FnExactNormOfUptoSaid : Prop := fnExactNormOfUptoRow.holds Try.pinned (OpenSpec.upto fnExactNormOfSpec)

end Rows
end Go.Proofs.Ytokkabgkjhpecaa

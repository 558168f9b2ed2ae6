/-
  No cell of these rows narrows 'for every input' (looked for: loops, veiled, ifaces, maps, wideKeys, modest, calm, conditions, laid).
  DERIVED. THE GIVEN ROWS OF THIS SEAT. 12 by the template 'for every input the law returns true; each argument reads behind the call as it read before'; 0 by the template 'total and deterministic' (their statements: YtgneldhhlfjjaaaTotals.lean).
  GIVEN WITH THE SEED: the statements are not yours to turn. If you find one false, say at which input.
  Laid BY PROGRAM, IN A SANDBOX (cutbox-rows.mjs): the forced cells as the released guide's own fill.sh prints them over the translation 44eb3ef07be5719b… (all of the seat's roots in one cut). By AI agents, Wed Nov 11 2026. No macro, syntax, notation, axiom, sorry.
-/
import Derived.Test.YtgneldhhlfjjaaaChecked
import GoSem.Claim
import GoSem.ClaimJoined
import GoSem.ClaimMapViews
import Derived.JoinedTies
import Derived.KernelRfl
namespace Go.Proofs.Ytgneldhhlfjjaaa
/- THE CELL 'sum', in the pinned program and in every row, IS THE sha256 OF THE DUMP (.gsa) THAT YtgneldhhlfjjaaaProg.lean LOADS. Nothing in Lean hashes anything: it is a label: what it is worth is what the hold of that sum in a sandbox is worth. -/
noncomputable def Try.pinned : Pinned := { name := "ytgneldhhlfjjaaa", sum := "44eb3ef07be5719bcd21ec52c2d634dff0b8e6f870b540ca65c47fef818a06e0", checked := Try.checked }
namespace Rows
def none {H : Type} : Left H := { results := [], args := [] }

/-- 'laws.FnExactShiftJacobi': WHATEVER THE INPUT: true; the input reads as it did. -/
def fnExactShiftJacobiSpec : ChangeSpec := { name := "fnExactShiftJacobi", fn := fun _ => fun
  | [d1, d2] => { results := [.lit (.bool true)], args := [d1, d2] }
  | _ => none }
def fnExactShiftJacobiRow : OpenClaim := { program := "ytgneldhhlfjjaaa", sum := "44eb3ef07be5719bcd21ec52c2d634dff0b8e6f870b540ca65c47fef818a06e0", func := "loop.example/g01283/laws.FnExactShiftJacobi", spec := "fnExactShiftJacobi", unfollowed := true, recurses := true, apart := false }
def FnExactShiftJacobiSaid : Prop := fnExactShiftJacobiRow.holds Try.pinned (OpenSpec.ofChange fnExactShiftJacobiSpec)

/-- ITS FALSE NEIGHBOUR: 'it returns false'. Refute it at one input. -/
def fnExactShiftJacobiWrong : ChangeSpec := { name := "fnExactShiftJacobi", fn := fun _ => fun
  | [d1, d2] => { results := [.lit (.bool false)], args := [d1, d2] }
  | _ => none }
def FnExactShiftJacobiWrongFalsely : Prop := fnExactShiftJacobiRow.holds Try.pinned (OpenSpec.ofChange fnExactShiftJacobiWrong)

/-- 'laws.FnExactCutJacobi': WHATEVER THE INPUT: true; the input reads as it did. -/
def fnExactCutJacobiSpec : ChangeSpec := { name := "fnExactCutJacobi", fn := fun _ => fun
  | [d1, d2] => { results := [.lit (.bool true)], args := [d1, d2] }
  | _ => none }
def fnExactCutJacobiRow : OpenClaim := { program := "ytgneldhhlfjjaaa", sum := "44eb3ef07be5719bcd21ec52c2d634dff0b8e6f870b540ca65c47fef818a06e0", func := "loop.example/g01283/laws.FnExactCutJacobi", spec := "fnExactCutJacobi", unfollowed := true, recurses := true, apart := false }
def FnExactCutJacobiSaid : Prop := fnExactCutJacobiRow.holds Try.pinned (OpenSpec.ofChange fnExactCutJacobiSpec)

/-- ITS FALSE NEIGHBOUR: 'it returns false'. Refute it at one input. -/
def fnExactCutJacobiWrong : ChangeSpec := { name := "fnExactCutJacobi", fn := fun _ => fun
  | [d1, d2] => { results := [.lit (.bool false)], args := [d1, d2] }
  | _ => none }
def FnExactCutJacobiWrongFalsely : Prop := fnExactCutJacobiRow.holds Try.pinned (OpenSpec.ofChange fnExactCutJacobiWrong)

/-- 'laws.FnExactReverseJacobi': WHATEVER THE INPUT: true; the input reads as it did. -/
def fnExactReverseJacobiSpec : ChangeSpec := { name := "fnExactReverseJacobi", fn := fun _ => fun
  | [d] => { results := [.lit (.bool true)], args := [d] }
  | _ => none }
def fnExactReverseJacobiRow : OpenClaim := { program := "ytgneldhhlfjjaaa", sum := "44eb3ef07be5719bcd21ec52c2d634dff0b8e6f870b540ca65c47fef818a06e0", func := "loop.example/g01283/laws.FnExactReverseJacobi", spec := "fnExactReverseJacobi", unfollowed := true, recurses := true, apart := false }
def FnExactReverseJacobiSaid : Prop := fnExactReverseJacobiRow.holds Try.pinned (OpenSpec.ofChange fnExactReverseJacobiSpec)

/-- ITS FALSE NEIGHBOUR: 'it returns false'. Refute it at one input. -/
def fnExactReverseJacobiWrong : ChangeSpec := { name := "fnExactReverseJacobi", fn := fun _ => fun
  | [d] => { results := [.lit (.bool false)], args := [d] }
  | _ => none }
def FnExactReverseJacobiWrongFalsely : Prop := fnExactReverseJacobiRow.holds Try.pinned (OpenSpec.ofChange fnExactReverseJacobiWrong)

/-- 'laws.FnExactAffineJacobi': WHATEVER THE INPUT: true; the input reads as it did. -/
def fnExactAffineJacobiSpec : ChangeSpec := { name := "fnExactAffineJacobi", fn := fun _ => fun
  | [d1, d2, d3] => { results := [.lit (.bool true)], args := [d1, d2, d3] }
  | _ => none }
def fnExactAffineJacobiRow : OpenClaim := { program := "ytgneldhhlfjjaaa", sum := "44eb3ef07be5719bcd21ec52c2d634dff0b8e6f870b540ca65c47fef818a06e0", func := "loop.example/g01283/laws.FnExactAffineJacobi", spec := "fnExactAffineJacobi", unfollowed := true, recurses := true, apart := false }
def FnExactAffineJacobiSaid : Prop := fnExactAffineJacobiRow.holds Try.pinned (OpenSpec.ofChange fnExactAffineJacobiSpec)

/-- ITS FALSE NEIGHBOUR: 'it returns false'. Refute it at one input. -/
def fnExactAffineJacobiWrong : ChangeSpec := { name := "fnExactAffineJacobi", fn := fun _ => fun
  | [d1, d2, d3] => { results := [.lit (.bool false)], args := [d1, d2, d3] }
  | _ => none }
def FnExactAffineJacobiWrongFalsely : Prop := fnExactAffineJacobiRow.holds Try.pinned (OpenSpec.ofChange fnExactAffineJacobiWrong)

/-- 'laws.FnExactMatrixOf': WHATEVER THE INPUT: true; the input reads as it did. -/
def fnExactMatrixOfSpec : ChangeSpec := { name := "fnExactMatrixOf", fn := fun _ => fun
  | [d] => { results := [.lit (.bool true)], args := [d] }
  | _ => none }
def fnExactMatrixOfRow : OpenClaim := { program := "ytgneldhhlfjjaaa", sum := "44eb3ef07be5719bcd21ec52c2d634dff0b8e6f870b540ca65c47fef818a06e0", func := "loop.example/g01283/laws.FnExactMatrixOf", spec := "fnExactMatrixOf", unfollowed := true, recurses := true, apart := false }
def FnExactMatrixOfSaid : Prop := fnExactMatrixOfRow.holds Try.pinned (OpenSpec.ofChange fnExactMatrixOfSpec)

/-- ITS FALSE NEIGHBOUR: 'it returns false'. Refute it at one input. -/
def fnExactMatrixOfWrong : ChangeSpec := { name := "fnExactMatrixOf", fn := fun _ => fun
  | [d] => { results := [.lit (.bool false)], args := [d] }
  | _ => none }
def FnExactMatrixOfWrongFalsely : Prop := fnExactMatrixOfRow.holds Try.pinned (OpenSpec.ofChange fnExactMatrixOfWrong)

/-- 'laws.FnExactAssociatedOf': WHATEVER THE INPUT: true; the input reads as it did. -/
def fnExactAssociatedOfSpec : ChangeSpec := { name := "fnExactAssociatedOf", fn := fun _ => fun
  | [d1, d2] => { results := [.lit (.bool true)], args := [d1, d2] }
  | _ => none }
def fnExactAssociatedOfRow : OpenClaim := { program := "ytgneldhhlfjjaaa", sum := "44eb3ef07be5719bcd21ec52c2d634dff0b8e6f870b540ca65c47fef818a06e0", func := "loop.example/g01283/laws.FnExactAssociatedOf", spec := "fnExactAssociatedOf", unfollowed := true, recurses := true, apart := false }
def FnExactAssociatedOfSaid : Prop := fnExactAssociatedOfRow.holds Try.pinned (OpenSpec.ofChange fnExactAssociatedOfSpec)

/-- ITS FALSE NEIGHBOUR: 'it returns false'. Refute it at one input. -/
def fnExactAssociatedOfWrong : ChangeSpec := { name := "fnExactAssociatedOf", fn := fun _ => fun
  | [d1, d2] => { results := [.lit (.bool false)], args := [d1, d2] }
  | _ => none }
def FnExactAssociatedOfWrongFalsely : Prop := fnExactAssociatedOfRow.holds Try.pinned (OpenSpec.ofChange fnExactAssociatedOfWrong)

/-- 'laws.FnExactPolyOf': WHATEVER THE INPUT: true; the input reads as it did. -/
def fnExactPolyOfSpec : ChangeSpec := { name := "fnExactPolyOf", fn := fun _ => fun
  | [d1, d2] => { results := [.lit (.bool true)], args := [d1, d2] }
  | _ => none }
def fnExactPolyOfRow : OpenClaim := { program := "ytgneldhhlfjjaaa", sum := "44eb3ef07be5719bcd21ec52c2d634dff0b8e6f870b540ca65c47fef818a06e0", func := "loop.example/g01283/laws.FnExactPolyOf", spec := "fnExactPolyOf", unfollowed := true, recurses := true, apart := false }
def FnExactPolyOfSaid : Prop := fnExactPolyOfRow.holds Try.pinned (OpenSpec.ofChange fnExactPolyOfSpec)

/-- ITS FALSE NEIGHBOUR: 'it returns false'. Refute it at one input. -/
def fnExactPolyOfWrong : ChangeSpec := { name := "fnExactPolyOf", fn := fun _ => fun
  | [d1, d2] => { results := [.lit (.bool false)], args := [d1, d2] }
  | _ => none }
def FnExactPolyOfWrongFalsely : Prop := fnExactPolyOfRow.holds Try.pinned (OpenSpec.ofChange fnExactPolyOfWrong)

/-- 'laws.FnExactValueOf': WHATEVER THE INPUT: true; the input reads as it did. -/
def fnExactValueOfSpec : ChangeSpec := { name := "fnExactValueOf", fn := fun _ => fun
  | [d1, d2, d3] => { results := [.lit (.bool true)], args := [d1, d2, d3] }
  | _ => none }
def fnExactValueOfRow : OpenClaim := { program := "ytgneldhhlfjjaaa", sum := "44eb3ef07be5719bcd21ec52c2d634dff0b8e6f870b540ca65c47fef818a06e0", func := "loop.example/g01283/laws.FnExactValueOf", spec := "fnExactValueOf", unfollowed := true, recurses := true, apart := false }
def FnExactValueOfSaid : Prop := fnExactValueOfRow.holds Try.pinned (OpenSpec.ofChange fnExactValueOfSpec)

/-- ITS FALSE NEIGHBOUR: 'it returns false'. Refute it at one input. -/
def fnExactValueOfWrong : ChangeSpec := { name := "fnExactValueOf", fn := fun _ => fun
  | [d1, d2, d3] => { results := [.lit (.bool false)], args := [d1, d2, d3] }
  | _ => none }
def FnExactValueOfWrongFalsely : Prop := fnExactValueOfRow.holds Try.pinned (OpenSpec.ofChange fnExactValueOfWrong)

/-- 'laws.FnExactWronskiAt': WHATEVER THE INPUT: true; the input reads as it did. -/
def fnExactWronskiAtSpec : ChangeSpec := { name := "fnExactWronskiAt", fn := fun _ => fun
  | [d1, d2] => { results := [.lit (.bool true)], args := [d1, d2] }
  | _ => none }
def fnExactWronskiAtRow : OpenClaim := { program := "ytgneldhhlfjjaaa", sum := "44eb3ef07be5719bcd21ec52c2d634dff0b8e6f870b540ca65c47fef818a06e0", func := "loop.example/g01283/laws.FnExactWronskiAt", spec := "fnExactWronskiAt", unfollowed := true, recurses := true, apart := false }
def FnExactWronskiAtSaid : Prop := fnExactWronskiAtRow.holds Try.pinned (OpenSpec.ofChange fnExactWronskiAtSpec)

/-- ITS FALSE NEIGHBOUR: 'it returns false'. Refute it at one input. -/
def fnExactWronskiAtWrong : ChangeSpec := { name := "fnExactWronskiAt", fn := fun _ => fun
  | [d1, d2] => { results := [.lit (.bool false)], args := [d1, d2] }
  | _ => none }
def FnExactWronskiAtWrongFalsely : Prop := fnExactWronskiAtRow.holds Try.pinned (OpenSpec.ofChange fnExactWronskiAtWrong)

/-- 'laws.FnExactChristoffelAt': WHATEVER THE INPUT: true; the input reads as it did. -/
def fnExactChristoffelAtSpec : ChangeSpec := { name := "fnExactChristoffelAt", fn := fun _ => fun
  | [d1, d2] => { results := [.lit (.bool true)], args := [d1, d2] }
  | _ => none }
def fnExactChristoffelAtRow : OpenClaim := { program := "ytgneldhhlfjjaaa", sum := "44eb3ef07be5719bcd21ec52c2d634dff0b8e6f870b540ca65c47fef818a06e0", func := "loop.example/g01283/laws.FnExactChristoffelAt", spec := "fnExactChristoffelAt", unfollowed := true, recurses := true, apart := false }
def FnExactChristoffelAtSaid : Prop := fnExactChristoffelAtRow.holds Try.pinned (OpenSpec.ofChange fnExactChristoffelAtSpec)

/-- ITS FALSE NEIGHBOUR: 'it returns false'. Refute it at one input. -/
def fnExactChristoffelAtWrong : ChangeSpec := { name := "fnExactChristoffelAt", fn := fun _ => fun
  | [d1, d2] => { results := [.lit (.bool false)], args := [d1, d2] }
  | _ => none }
def FnExactChristoffelAtWrongFalsely : Prop := fnExactChristoffelAtRow.holds Try.pinned (OpenSpec.ofChange fnExactChristoffelAtWrong)

/-- 'laws.FnExactRadauJacobi': WHATEVER THE INPUT: true; the input reads as it did. -/
def fnExactRadauJacobiSpec : ChangeSpec := { name := "fnExactRadauJacobi", fn := fun _ => fun
  | [d1, d2] => { results := [.lit (.bool true)], args := [d1, d2] }
  | _ => none }
def fnExactRadauJacobiRow : OpenClaim := { program := "ytgneldhhlfjjaaa", sum := "44eb3ef07be5719bcd21ec52c2d634dff0b8e6f870b540ca65c47fef818a06e0", func := "loop.example/g01283/laws.FnExactRadauJacobi", spec := "fnExactRadauJacobi", unfollowed := true, recurses := true, apart := false }
def FnExactRadauJacobiSaid : Prop := fnExactRadauJacobiRow.holds Try.pinned (OpenSpec.ofChange fnExactRadauJacobiSpec)

/-- ITS FALSE NEIGHBOUR: 'it returns false'. Refute it at one input. -/
def fnExactRadauJacobiWrong : ChangeSpec := { name := "fnExactRadauJacobi", fn := fun _ => fun
  | [d1, d2] => { results := [.lit (.bool false)], args := [d1, d2] }
  | _ => none }
def FnExactRadauJacobiWrongFalsely : Prop := fnExactRadauJacobiRow.holds Try.pinned (OpenSpec.ofChange fnExactRadauJacobiWrong)

/-- 'laws.FnExactSeriesOfJacobi': WHATEVER THE INPUT: true; the input reads as it did. -/
def fnExactSeriesOfJacobiSpec : ChangeSpec := { name := "fnExactSeriesOfJacobi", fn := fun _ => fun
  | [d1, d2] => { results := [.lit (.bool true)], args := [d1, d2] }
  | _ => none }
def fnExactSeriesOfJacobiRow : OpenClaim := { program := "ytgneldhhlfjjaaa", sum := "44eb3ef07be5719bcd21ec52c2d634dff0b8e6f870b540ca65c47fef818a06e0", func := "loop.example/g01283/laws.FnExactSeriesOfJacobi", spec := "fnExactSeriesOfJacobi", unfollowed := true, recurses := true, apart := false }
def FnExactSeriesOfJacobiSaid : Prop := fnExactSeriesOfJacobiRow.holds Try.pinned (OpenSpec.ofChange fnExactSeriesOfJacobiSpec)

/-- ITS FALSE NEIGHBOUR: 'it returns false'. Refute it at one input. -/
def fnExactSeriesOfJacobiWrong : ChangeSpec := { name := "fnExactSeriesOfJacobi", fn := fun _ => fun
  | [d1, d2] => { results := [.lit (.bool false)], args := [d1, d2] }
  | _ => none }
def FnExactSeriesOfJacobiWrongFalsely : Prop := fnExactSeriesOfJacobiRow.holds Try.pinned (OpenSpec.ofChange fnExactSeriesOfJacobiWrong)

/- THE SECOND FORM. 'bulk': how many values and letters a reading holds, each counted each time it is reached (what is shared counts as often as it is met; a slice's spare places count too). A statement '..UptoSaid' is the law's where the arguments, and the package variables that the reading takes, are together of bulk at most 1048576: NARROWER than '..Said'. Prove '..Said' where nothing that the law and all that it calls make is longer than what came in: it says more and counts as full. Else prove '..UptoSaid'. A law counts once. -/
mutual
def uptoBulk {H : Type} : DataW H → Nat
  | .lit (.string bytes) => bytes.length + 1
  | .lit _ => 1
  | .nil => 1
  | .ptr d => uptoBulk d + 1
  | .slice elems spare => uptoBulkAll elems + uptoBulkAll spare + 1
  | .agg parts => uptoBulkAll parts + 1
  | .iface _ d => uptoBulk d + 1
  | .map entries => uptoBulkEntries entries + 1
  | .held _ => 1
def uptoBulkAll {H : Type} : List (DataW H) → Nat
  | [] => 0
  | d :: r => uptoBulk d + uptoBulkAll r
def uptoBulkEntries {H : Type} : List (Lit × DataW H) → Nat
  | [] => 0
  | x :: r => uptoBulkEntry x + uptoBulkEntries r
def uptoBulkEntry {H : Type} : Lit × DataW H → Nat
  | (.string bytes, d) => bytes.length + uptoBulk d + 1
  | (_, d) => uptoBulk d + 1
 end
def uptoSmall : (H : Type) → List (DataW H) → Bool := fun _ ds => decide (uptoBulkAll ds ≤ 1048576)
def OpenSpec.upto (s : _root_.Go.ChangeSpec) : _root_.Go.OpenSpec := { _root_.Go.OpenSpec.ofChange s with cond := some uptoSmall }

/-- 'laws.FnExactShiftJacobi', WHERE WHAT IT READS IS OF BULK AT MOST 1048576: true; the input reads as it did. -/
def fnExactShiftJacobiUptoRow : OpenClaim := { program := "ytgneldhhlfjjaaa", sum := "44eb3ef07be5719bcd21ec52c2d634dff0b8e6f870b540ca65c47fef818a06e0", func := "loop.example/g01283/laws.FnExactShiftJacobi", spec := "fnExactShiftJacobi", unfollowed := true, recurses := true, apart := false, narrowed := true }
def FnExactShiftJacobiUptoSaid : Prop := fnExactShiftJacobiUptoRow.holds Try.pinned (OpenSpec.upto fnExactShiftJacobiSpec)

/-- 'laws.FnExactCutJacobi', WHERE WHAT IT READS IS OF BULK AT MOST 1048576: true; the input reads as it did. -/
def fnExactCutJacobiUptoRow : OpenClaim := { program := "ytgneldhhlfjjaaa", sum := "44eb3ef07be5719bcd21ec52c2d634dff0b8e6f870b540ca65c47fef818a06e0", func := "loop.example/g01283/laws.FnExactCutJacobi", spec := "fnExactCutJacobi", unfollowed := true, recurses := true, apart := false, narrowed := true }
def FnExactCutJacobiUptoSaid : Prop := fnExactCutJacobiUptoRow.holds Try.pinned (OpenSpec.upto fnExactCutJacobiSpec)

/-- 'laws.FnExactReverseJacobi', WHERE WHAT IT READS IS OF BULK AT MOST 1048576: true; the input reads as it did. -/
def fnExactReverseJacobiUptoRow : OpenClaim := { program := "ytgneldhhlfjjaaa", sum := "44eb3ef07be5719bcd21ec52c2d634dff0b8e6f870b540ca65c47fef818a06e0", func := "loop.example/g01283/laws.FnExactReverseJacobi", spec := "fnExactReverseJacobi", unfollowed := true, recurses := true, apart := false, narrowed := true }
def FnExactReverseJacobiUptoSaid : Prop := fnExactReverseJacobiUptoRow.holds Try.pinned (OpenSpec.upto fnExactReverseJacobiSpec)

/-- 'laws.FnExactAffineJacobi', WHERE WHAT IT READS IS OF BULK AT MOST 1048576: true; the input reads as it did. -/
def fnExactAffineJacobiUptoRow : OpenClaim := { program := "ytgneldhhlfjjaaa", sum := "44eb3ef07be5719bcd21ec52c2d634dff0b8e6f870b540ca65c47fef818a06e0", func := "loop.example/g01283/laws.FnExactAffineJacobi", spec := "fnExactAffineJacobi", unfollowed := true, recurses := true, apart := false, narrowed := true }
def FnExactAffineJacobiUptoSaid : Prop := fnExactAffineJacobiUptoRow.holds Try.pinned (OpenSpec.upto fnExactAffineJacobiSpec)

/-- 'laws.FnExactMatrixOf', WHERE WHAT IT READS IS OF BULK AT MOST 1048576: true; the input reads as it did. -/
def fnExactMatrixOfUptoRow : OpenClaim := { program := "ytgneldhhlfjjaaa", sum := "44eb3ef07be5719bcd21ec52c2d634dff0b8e6f870b540ca65c47fef818a06e0", func := "loop.example/g01283/laws.FnExactMatrixOf", spec := "fnExactMatrixOf", unfollowed := true, recurses := true, apart := false, narrowed := true }
def FnExactMatrixOfUptoSaid : Prop := fnExactMatrixOfUptoRow.holds Try.pinned (OpenSpec.upto fnExactMatrixOfSpec)

/-- 'laws.FnExactAssociatedOf', WHERE WHAT IT READS IS OF BULK AT MOST 1048576: true; the input reads as it did. -/
def fnExactAssociatedOfUptoRow : OpenClaim := { program := "ytgneldhhlfjjaaa", sum := "44eb3ef07be5719bcd21ec52c2d634dff0b8e6f870b540ca65c47fef818a06e0", func := "loop.example/g01283/laws.FnExactAssociatedOf", spec := "fnExactAssociatedOf", unfollowed := true, recurses := true, apart := false, narrowed := true }
def FnExactAssociatedOfUptoSaid : Prop := fnExactAssociatedOfUptoRow.holds Try.pinned (OpenSpec.upto fnExactAssociatedOfSpec)

/-- 'laws.FnExactPolyOf', WHERE WHAT IT READS IS OF BULK AT MOST 1048576: true; the input reads as it did. -/
def fnExactPolyOfUptoRow : OpenClaim := { program := "ytgneldhhlfjjaaa", sum := "44eb3ef07be5719bcd21ec52c2d634dff0b8e6f870b540ca65c47fef818a06e0", func := "loop.example/g01283/laws.FnExactPolyOf", spec := "fnExactPolyOf", unfollowed := true, recurses := true, apart := false, narrowed := true }
def FnExactPolyOfUptoSaid : Prop := fnExactPolyOfUptoRow.holds Try.pinned (OpenSpec.upto fnExactPolyOfSpec)

/-- 'laws.FnExactValueOf', WHERE WHAT IT READS IS OF BULK AT MOST 1048576: true; the input reads as it did. -/
def fnExactValueOfUptoRow : OpenClaim := { program := "ytgneldhhlfjjaaa", sum := "44eb3ef07be5719bcd21ec52c2d634dff0b8e6f870b540ca65c47fef818a06e0", func := "loop.example/g01283/laws.FnExactValueOf", spec := "fnExactValueOf", unfollowed := true, recurses := true, apart := false, narrowed := true }
def FnExactValueOfUptoSaid : Prop := fnExactValueOfUptoRow.holds Try.pinned (OpenSpec.upto fnExactValueOfSpec)

/-- 'laws.FnExactWronskiAt', WHERE WHAT IT READS IS OF BULK AT MOST 1048576: true; the input reads as it did. -/
def fnExactWronskiAtUptoRow : OpenClaim := { program := "ytgneldhhlfjjaaa", sum := "44eb3ef07be5719bcd21ec52c2d634dff0b8e6f870b540ca65c47fef818a06e0", func := "loop.example/g01283/laws.FnExactWronskiAt", spec := "fnExactWronskiAt", unfollowed := true, recurses := true, apart := false, narrowed := true }
def FnExactWronskiAtUptoSaid : Prop := fnExactWronskiAtUptoRow.holds Try.pinned (OpenSpec.upto fnExactWronskiAtSpec)

/-- 'laws.FnExactChristoffelAt', WHERE WHAT IT READS IS OF BULK AT MOST 1048576: true; the input reads as it did. -/
def fnExactChristoffelAtUptoRow : OpenClaim := { program := "ytgneldhhlfjjaaa", sum := "44eb3ef07be5719bcd21ec52c2d634dff0b8e6f870b540ca65c47fef818a06e0", func := "loop.example/g01283/laws.FnExactChristoffelAt", spec := "fnExactChristoffelAt", unfollowed := true, recurses := true, apart := false, narrowed := true }
def FnExactChristoffelAtUptoSaid : Prop := fnExactChristoffelAtUptoRow.holds Try.pinned (OpenSpec.upto fnExactChristoffelAtSpec)

/-- 'laws.FnExactRadauJacobi', WHERE WHAT IT READS IS OF BULK AT MOST 1048576: true; the input reads as it did. -/
def fnExactRadauJacobiUptoRow : OpenClaim := { program := "ytgneldhhlfjjaaa", sum := "44eb3ef07be5719bcd21ec52c2d634dff0b8e6f870b540ca65c47fef818a06e0", func := "loop.example/g01283/laws.FnExactRadauJacobi", spec := "fnExactRadauJacobi", unfollowed := true, recurses := true, apart := false, narrowed := true }
def FnExactRadauJacobiUptoSaid : Prop := fnExactRadauJacobiUptoRow.holds Try.pinned (OpenSpec.upto fnExactRadauJacobiSpec)

/-- 'laws.FnExactSeriesOfJacobi', WHERE WHAT IT READS IS OF BULK AT MOST 1048576: true; the input reads as it did. -/
def fnExactSeriesOfJacobiUptoRow : OpenClaim := { program := "ytgneldhhlfjjaaa", sum := "44eb3ef07be5719bcd21ec52c2d634dff0b8e6f870b540ca65c47fef818a06e0", func := "loop.example/g01283/laws.FnExactSeriesOfJacobi", spec := "fnExactSeriesOfJacobi", unfollowed := true, recurses := true, apart := false, narrowed := true }
def FnExactSeriesOfJacobiUptoSaid : Prop := fnExactSeriesOfJacobiUptoRow.holds Try.pinned (OpenSpec.upto fnExactSeriesOfJacobiSpec)

end Rows
end Go.Proofs.Ytgneldhhlfjjaaa

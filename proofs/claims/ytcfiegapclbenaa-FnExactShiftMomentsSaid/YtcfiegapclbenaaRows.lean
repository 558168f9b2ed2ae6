/-
  No cell of these rows narrows 'for every input' (looked for: loops, veiled, ifaces, maps, wideKeys, modest, calm, conditions, laid).
  DERIVED. THE GIVEN ROWS OF THIS SEAT. 6 by the template 'for every input the law returns true; each argument reads behind the call as it read before'; 0 by the template 'total and deterministic' (their statements: YtcfiegapclbenaaTotals.lean).
  GIVEN WITH THE SEED: the statements are not yours to turn. If you find one false, say at which input.
  Laid BY PROGRAM, IN A SANDBOX (cutbox-rows.mjs): the forced cells as the released guide's own fill.sh prints them over the translation 550c9e704c1a8fe2… (all of the seat's roots in one cut). By AI agents, Wed Nov 11 2026. No macro, syntax, notation, axiom, sorry.
-/
import Derived.Test.YtcfiegapclbenaaChecked
import GoSem.Claim
import GoSem.ClaimJoined
import GoSem.ClaimMapViews
import Derived.JoinedTies
import Derived.KernelRfl
namespace Go.Proofs.Ytcfiegapclbenaa
/- THE CELL 'sum', in the pinned program and in every row, IS THE sha256 OF THE DUMP (.gsa) THAT YtcfiegapclbenaaProg.lean LOADS. Nothing in Lean hashes anything: it is a label: what it is worth is what the hold of that sum in a sandbox is worth. -/
noncomputable def Try.pinned : Pinned := { name := "ytcfiegapclbenaa", sum := "550c9e704c1a8fe2ad403230accb3fed98f3084d89bd16ba3c53f2c0272cc62c", checked := Try.checked }
namespace Rows
def none {H : Type} : Left H := { results := [], args := [] }

/-- 'laws.FnExactIsRule': WHATEVER THE INPUT: true; the input reads as it did. -/
def fnExactIsRuleSpec : ChangeSpec := { name := "fnExactIsRule", fn := fun _ => fun
  | [d] => { results := [.lit (.bool true)], args := [d] }
  | _ => none }
def fnExactIsRuleRow : OpenClaim := { program := "ytcfiegapclbenaa", sum := "550c9e704c1a8fe2ad403230accb3fed98f3084d89bd16ba3c53f2c0272cc62c", func := "loop.example/g01283/laws.FnExactIsRule", spec := "fnExactIsRule", unfollowed := true, recurses := true, apart := false }
def FnExactIsRuleSaid : Prop := fnExactIsRuleRow.holds Try.pinned (OpenSpec.ofChange fnExactIsRuleSpec)

/-- ITS FALSE NEIGHBOUR: 'it returns false'. Refute it at one input. -/
def fnExactIsRuleWrong : ChangeSpec := { name := "fnExactIsRule", fn := fun _ => fun
  | [d] => { results := [.lit (.bool false)], args := [d] }
  | _ => none }
def FnExactIsRuleWrongFalsely : Prop := fnExactIsRuleRow.holds Try.pinned (OpenSpec.ofChange fnExactIsRuleWrong)

/-- 'laws.FnExactApplyFunctional': WHATEVER THE INPUT: true; the input reads as it did. -/
def fnExactApplyFunctionalSpec : ChangeSpec := { name := "fnExactApplyFunctional", fn := fun _ => fun
  | [d1, d2] => { results := [.lit (.bool true)], args := [d1, d2] }
  | _ => none }
def fnExactApplyFunctionalRow : OpenClaim := { program := "ytcfiegapclbenaa", sum := "550c9e704c1a8fe2ad403230accb3fed98f3084d89bd16ba3c53f2c0272cc62c", func := "loop.example/g01283/laws.FnExactApplyFunctional", spec := "fnExactApplyFunctional", unfollowed := true, recurses := true, apart := false }
def FnExactApplyFunctionalSaid : Prop := fnExactApplyFunctionalRow.holds Try.pinned (OpenSpec.ofChange fnExactApplyFunctionalSpec)

/-- ITS FALSE NEIGHBOUR: 'it returns false'. Refute it at one input. -/
def fnExactApplyFunctionalWrong : ChangeSpec := { name := "fnExactApplyFunctional", fn := fun _ => fun
  | [d1, d2] => { results := [.lit (.bool false)], args := [d1, d2] }
  | _ => none }
def FnExactApplyFunctionalWrongFalsely : Prop := fnExactApplyFunctionalRow.holds Try.pinned (OpenSpec.ofChange fnExactApplyFunctionalWrong)

/-- 'laws.FnExactAddMoments': WHATEVER THE INPUT: true; the input reads as it did. -/
def fnExactAddMomentsSpec : ChangeSpec := { name := "fnExactAddMoments", fn := fun _ => fun
  | [d1, d2, d3] => { results := [.lit (.bool true)], args := [d1, d2, d3] }
  | _ => none }
def fnExactAddMomentsRow : OpenClaim := { program := "ytcfiegapclbenaa", sum := "550c9e704c1a8fe2ad403230accb3fed98f3084d89bd16ba3c53f2c0272cc62c", func := "loop.example/g01283/laws.FnExactAddMoments", spec := "fnExactAddMoments", unfollowed := true, recurses := true, apart := false }
def FnExactAddMomentsSaid : Prop := fnExactAddMomentsRow.holds Try.pinned (OpenSpec.ofChange fnExactAddMomentsSpec)

/-- ITS FALSE NEIGHBOUR: 'it returns false'. Refute it at one input. -/
def fnExactAddMomentsWrong : ChangeSpec := { name := "fnExactAddMoments", fn := fun _ => fun
  | [d1, d2, d3] => { results := [.lit (.bool false)], args := [d1, d2, d3] }
  | _ => none }
def FnExactAddMomentsWrongFalsely : Prop := fnExactAddMomentsRow.holds Try.pinned (OpenSpec.ofChange fnExactAddMomentsWrong)

/-- 'laws.FnExactCutMoments': WHATEVER THE INPUT: true; the input reads as it did. -/
def fnExactCutMomentsSpec : ChangeSpec := { name := "fnExactCutMoments", fn := fun _ => fun
  | [d1, d2] => { results := [.lit (.bool true)], args := [d1, d2] }
  | _ => none }
def fnExactCutMomentsRow : OpenClaim := { program := "ytcfiegapclbenaa", sum := "550c9e704c1a8fe2ad403230accb3fed98f3084d89bd16ba3c53f2c0272cc62c", func := "loop.example/g01283/laws.FnExactCutMoments", spec := "fnExactCutMoments", unfollowed := true, recurses := true, apart := false }
def FnExactCutMomentsSaid : Prop := fnExactCutMomentsRow.holds Try.pinned (OpenSpec.ofChange fnExactCutMomentsSpec)

/-- ITS FALSE NEIGHBOUR: 'it returns false'. Refute it at one input. -/
def fnExactCutMomentsWrong : ChangeSpec := { name := "fnExactCutMoments", fn := fun _ => fun
  | [d1, d2] => { results := [.lit (.bool false)], args := [d1, d2] }
  | _ => none }
def FnExactCutMomentsWrongFalsely : Prop := fnExactCutMomentsRow.holds Try.pinned (OpenSpec.ofChange fnExactCutMomentsWrong)

/-- 'laws.FnExactIsOrthogonal': WHATEVER THE INPUT: true; the input reads as it did. -/
def fnExactIsOrthogonalSpec : ChangeSpec := { name := "fnExactIsOrthogonal", fn := fun _ => fun
  | [d1, d2, d3] => { results := [.lit (.bool true)], args := [d1, d2, d3] }
  | _ => none }
def fnExactIsOrthogonalRow : OpenClaim := { program := "ytcfiegapclbenaa", sum := "550c9e704c1a8fe2ad403230accb3fed98f3084d89bd16ba3c53f2c0272cc62c", func := "loop.example/g01283/laws.FnExactIsOrthogonal", spec := "fnExactIsOrthogonal", unfollowed := true, recurses := true, apart := false }
def FnExactIsOrthogonalSaid : Prop := fnExactIsOrthogonalRow.holds Try.pinned (OpenSpec.ofChange fnExactIsOrthogonalSpec)

/-- ITS FALSE NEIGHBOUR: 'it returns false'. Refute it at one input. -/
def fnExactIsOrthogonalWrong : ChangeSpec := { name := "fnExactIsOrthogonal", fn := fun _ => fun
  | [d1, d2, d3] => { results := [.lit (.bool false)], args := [d1, d2, d3] }
  | _ => none }
def FnExactIsOrthogonalWrongFalsely : Prop := fnExactIsOrthogonalRow.holds Try.pinned (OpenSpec.ofChange fnExactIsOrthogonalWrong)

/-- 'laws.FnExactShiftMoments': WHATEVER THE INPUT: true; the input reads as it did. -/
def fnExactShiftMomentsSpec : ChangeSpec := { name := "fnExactShiftMoments", fn := fun _ => fun
  | [d] => { results := [.lit (.bool true)], args := [d] }
  | _ => none }
def fnExactShiftMomentsRow : OpenClaim := { program := "ytcfiegapclbenaa", sum := "550c9e704c1a8fe2ad403230accb3fed98f3084d89bd16ba3c53f2c0272cc62c", func := "loop.example/g01283/laws.FnExactShiftMoments", spec := "fnExactShiftMoments", unfollowed := true, recurses := true, apart := false }
def FnExactShiftMomentsSaid : Prop := fnExactShiftMomentsRow.holds Try.pinned (OpenSpec.ofChange fnExactShiftMomentsSpec)

/-- ITS FALSE NEIGHBOUR: 'it returns false'. Refute it at one input. -/
def fnExactShiftMomentsWrong : ChangeSpec := { name := "fnExactShiftMoments", fn := fun _ => fun
  | [d] => { results := [.lit (.bool false)], args := [d] }
  | _ => none }
def FnExactShiftMomentsWrongFalsely : Prop := fnExactShiftMomentsRow.holds Try.pinned (OpenSpec.ofChange fnExactShiftMomentsWrong)

/- THE SECOND FORM. 'bulk': how many values and letters a reading holds, each counted each time it is reached (what is shared counts as often as it is met; a slice's spare places count too). A statement '..UptoSaid' is the law's where the arguments, and the package variables that the reading takes, are together of bulk at most 1048576: NARROWER than '..Said'. Prove '..Said' where nothing that the law and all that it calls make is longer than what came in: it says more and counts as full. Else prove '..UptoSaid'. A law counts once. -/
mutual
def uptoBulk {H : Type} : DataW H → Nat
  | .lit (.string bytes) => bytes.length + 1
  | .lit _ => 1
  | .nil => 1
  | .ptr d => uptoBulk d + 1
  | .slice elems spare => uptoBulkAll elems + uptoBulkAll spare + 1
  | .agg parts => uptoBulkAll parts + 1
  | .iface _ d => uptoBulk d + 1
  | .map entries => uptoBulkEntries entries + 1
  | .held _ => 1
def uptoBulkAll {H : Type} : List (DataW H) → Nat
  | [] => 0
  | d :: r => uptoBulk d + uptoBulkAll r
def uptoBulkEntries {H : Type} : List (Lit × DataW H) → Nat
  | [] => 0
  | x :: r => uptoBulkEntry x + uptoBulkEntries r
def uptoBulkEntry {H : Type} : Lit × DataW H → Nat
  | (.string bytes, d) => bytes.length + uptoBulk d + 1
  | (_, d) => uptoBulk d + 1
 end
def uptoSmall : (H : Type) → List (DataW H) → Bool := fun _ ds => decide (uptoBulkAll ds ≤ 1048576)
def OpenSpec.upto (s : _root_.Go.ChangeSpec) : _root_.Go.OpenSpec := { _root_.Go.OpenSpec.ofChange s with cond := some uptoSmall }

/-- 'laws.FnExactIsRule', WHERE WHAT IT READS IS OF BULK AT MOST 1048576: true; the input reads as it did. -/
def fnExactIsRuleUptoRow : OpenClaim := { program := "ytcfiegapclbenaa", sum := "550c9e704c1a8fe2ad403230accb3fed98f3084d89bd16ba3c53f2c0272cc62c", func := "loop.example/g01283/laws.FnExactIsRule", spec := "fnExactIsRule", unfollowed := true, recurses := true, apart := false, narrowed := true }
def FnExactIsRuleUptoSaid : Prop := fnExactIsRuleUptoRow.holds Try.pinned (OpenSpec.upto fnExactIsRuleSpec)

/-- 'laws.FnExactApplyFunctional', WHERE WHAT IT READS IS OF BULK AT MOST 1048576: true; the input reads as it did. -/
def fnExactApplyFunctionalUptoRow : OpenClaim := { program := "ytcfiegapclbenaa", sum := "550c9e704c1a8fe2ad403230accb3fed98f3084d89bd16ba3c53f2c0272cc62c", func := "loop.example/g01283/laws.FnExactApplyFunctional", spec := "fnExactApplyFunctional", unfollowed := true, recurses := true, apart := false, narrowed := true }
def FnExactApplyFunctionalUptoSaid : Prop := fnExactApplyFunctionalUptoRow.holds Try.pinned (OpenSpec.upto fnExactApplyFunctionalSpec)

/-- 'laws.FnExactAddMoments', WHERE WHAT IT READS IS OF BULK AT MOST 1048576: true; the input reads as it did. -/
def fnExactAddMomentsUptoRow : OpenClaim := { program := "ytcfiegapclbenaa", sum := "550c9e704c1a8fe2ad403230accb3fed98f3084d89bd16ba3c53f2c0272cc62c", func := "loop.example/g01283/laws.FnExactAddMoments", spec := "fnExactAddMoments", unfollowed := true, recurses := true, apart := false, narrowed := true }
def FnExactAddMomentsUptoSaid : Prop := fnExactAddMomentsUptoRow.holds Try.pinned (OpenSpec.upto fnExactAddMomentsSpec)

/-- 'laws.FnExactCutMoments', WHERE WHAT IT READS IS OF BULK AT MOST 1048576: true; the input reads as it did. -/
def fnExactCutMomentsUptoRow : OpenClaim := { program := "ytcfiegapclbenaa", sum := "550c9e704c1a8fe2ad403230accb3fed98f3084d89bd16ba3c53f2c0272cc62c", func := "loop.example/g01283/laws.FnExactCutMoments", spec := "fnExactCutMoments", unfollowed := true, recurses := true, apart := false, narrowed := true }
def FnExactCutMomentsUptoSaid : Prop := fnExactCutMomentsUptoRow.holds Try.pinned (OpenSpec.upto fnExactCutMomentsSpec)

/-- 'laws.FnExactIsOrthogonal', WHERE WHAT IT READS IS OF BULK AT MOST 1048576: true; the input reads as it did. -/
def fnExactIsOrthogonalUptoRow : OpenClaim := { program := "ytcfiegapclbenaa", sum := "550c9e704c1a8fe2ad403230accb3fed98f3084d89bd16ba3c53f2c0272cc62c", func := "loop.example/g01283/laws.FnExactIsOrthogonal", spec := "fnExactIsOrthogonal", unfollowed := true, recurses := true, apart := false, narrowed := true }
def FnExactIsOrthogonalUptoSaid : Prop := fnExactIsOrthogonalUptoRow.holds Try.pinned (OpenSpec.upto fnExactIsOrthogonalSpec)

/-- 'laws.FnExactShiftMoments', WHERE WHAT IT READS IS OF BULK AT MOST 1048576: true; the input reads as it did. -/
def fnExactShiftMomentsUptoRow : OpenClaim := { program := "ytcfiegapclbenaa", sum := "550c9e704c1a8fe2ad403230accb3fed98f3084d89bd16ba3c53f2c0272cc62c", func := "loop.example/g01283/laws.FnExactShiftMoments", spec := "fnExactShiftMoments", unfollowed := true, recurses := true, apart := false, narrowed := true }
def FnExactShiftMomentsUptoSaid : Prop := fnExactShiftMomentsUptoRow.holds Try.pinned (OpenSpec.upto fnExactShiftMomentsSpec)

end Rows
end Go.Proofs.Ytcfiegapclbenaa

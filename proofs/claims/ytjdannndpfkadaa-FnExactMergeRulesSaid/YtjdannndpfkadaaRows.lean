/-
  No cell of these rows narrows 'for every input' (looked for: loops, veiled, ifaces, maps, wideKeys, modest, calm, conditions, laid).
  DERIVED. THE GIVEN ROWS OF THIS SEAT. 4 by the template 'for every input the law returns true; each argument reads behind the call as it read before'; 0 by the template 'total and deterministic' (their statements: YtjdannndpfkadaaTotals.lean).
  GIVEN WITH THE SEED: the statements are not yours to turn. If you find one false, say at which input.
  Laid BY PROGRAM, IN A SANDBOX (cutbox-rows.mjs): the forced cells as the released guide's own fill.sh prints them over the translation e7d8c09fb621ca0f… (all of the seat's roots in one cut). By AI agents, Wed Nov 11 2026. No macro, syntax, notation, axiom, sorry.
-/
import Derived.Test.YtjdannndpfkadaaChecked
import GoSem.Claim
import GoSem.ClaimJoined
import GoSem.ClaimMapViews
import Derived.JoinedTies
import Derived.KernelRfl
namespace Go.Proofs.Ytjdannndpfkadaa
/- THE CELL 'sum', in the pinned program and in every row, IS THE sha256 OF THE DUMP (.gsa) THAT YtjdannndpfkadaaProg.lean LOADS. Nothing in Lean hashes anything: it is a label: what it is worth is what the hold of that sum in a sandbox is worth. -/
noncomputable def Try.pinned : Pinned := { name := "ytjdannndpfkadaa", sum := "e7d8c09fb621ca0f12e6251387d48cc35860fe6a8f16ac2d5d797abed97ee3b5", checked := Try.checked }
namespace Rows
def none {H : Type} : Left H := { results := [], args := [] }

/-- 'laws.FnExactMatrixOf': WHATEVER THE INPUT: true; the input reads as it did. -/
def fnExactMatrixOfSpec : ChangeSpec := { name := "fnExactMatrixOf", fn := fun _ => fun
  | [d] => { results := [.lit (.bool true)], args := [d] }
  | _ => none }
def fnExactMatrixOfRow : OpenClaim := { program := "ytjdannndpfkadaa", sum := "e7d8c09fb621ca0f12e6251387d48cc35860fe6a8f16ac2d5d797abed97ee3b5", func := "loop.example/g01283/laws.FnExactMatrixOf", spec := "fnExactMatrixOf", unfollowed := true, recurses := true, apart := false }
def FnExactMatrixOfSaid : Prop := fnExactMatrixOfRow.holds Try.pinned (OpenSpec.ofChange fnExactMatrixOfSpec)

/-- ITS FALSE NEIGHBOUR: 'it returns false'. Refute it at one input. -/
def fnExactMatrixOfWrong : ChangeSpec := { name := "fnExactMatrixOf", fn := fun _ => fun
  | [d] => { results := [.lit (.bool false)], args := [d] }
  | _ => none }
def FnExactMatrixOfWrongFalsely : Prop := fnExactMatrixOfRow.holds Try.pinned (OpenSpec.ofChange fnExactMatrixOfWrong)

/-- 'laws.FnExactStepsOf': WHATEVER THE INPUT: true; the input reads as it did. -/
def fnExactStepsOfSpec : ChangeSpec := { name := "fnExactStepsOf", fn := fun _ => fun
  | [d] => { results := [.lit (.bool true)], args := [d] }
  | _ => none }
def fnExactStepsOfRow : OpenClaim := { program := "ytjdannndpfkadaa", sum := "e7d8c09fb621ca0f12e6251387d48cc35860fe6a8f16ac2d5d797abed97ee3b5", func := "loop.example/g01283/laws.FnExactStepsOf", spec := "fnExactStepsOf", unfollowed := true, recurses := true, apart := false }
def FnExactStepsOfSaid : Prop := fnExactStepsOfRow.holds Try.pinned (OpenSpec.ofChange fnExactStepsOfSpec)

/-- ITS FALSE NEIGHBOUR: 'it returns false'. Refute it at one input. -/
def fnExactStepsOfWrong : ChangeSpec := { name := "fnExactStepsOf", fn := fun _ => fun
  | [d] => { results := [.lit (.bool false)], args := [d] }
  | _ => none }
def FnExactStepsOfWrongFalsely : Prop := fnExactStepsOfRow.holds Try.pinned (OpenSpec.ofChange fnExactStepsOfWrong)

/-- 'laws.FnExactMergeRules': WHATEVER THE INPUT: true; the input reads as it did. -/
def fnExactMergeRulesSpec : ChangeSpec := { name := "fnExactMergeRules", fn := fun _ => fun
  | [d1, d2, d3] => { results := [.lit (.bool true)], args := [d1, d2, d3] }
  | _ => none }
def fnExactMergeRulesRow : OpenClaim := { program := "ytjdannndpfkadaa", sum := "e7d8c09fb621ca0f12e6251387d48cc35860fe6a8f16ac2d5d797abed97ee3b5", func := "loop.example/g01283/laws.FnExactMergeRules", spec := "fnExactMergeRules", unfollowed := true, recurses := true, apart := false }
def FnExactMergeRulesSaid : Prop := fnExactMergeRulesRow.holds Try.pinned (OpenSpec.ofChange fnExactMergeRulesSpec)

/-- ITS FALSE NEIGHBOUR: 'it returns false'. Refute it at one input. -/
def fnExactMergeRulesWrong : ChangeSpec := { name := "fnExactMergeRules", fn := fun _ => fun
  | [d1, d2, d3] => { results := [.lit (.bool false)], args := [d1, d2, d3] }
  | _ => none }
def FnExactMergeRulesWrongFalsely : Prop := fnExactMergeRulesRow.holds Try.pinned (OpenSpec.ofChange fnExactMergeRulesWrong)

/-- 'laws.FnExactMoveRule': WHATEVER THE INPUT: true; the input reads as it did. -/
def fnExactMoveRuleSpec : ChangeSpec := { name := "fnExactMoveRule", fn := fun _ => fun
  | [d1, d2, d3] => { results := [.lit (.bool true)], args := [d1, d2, d3] }
  | _ => none }
def fnExactMoveRuleRow : OpenClaim := { program := "ytjdannndpfkadaa", sum := "e7d8c09fb621ca0f12e6251387d48cc35860fe6a8f16ac2d5d797abed97ee3b5", func := "loop.example/g01283/laws.FnExactMoveRule", spec := "fnExactMoveRule", unfollowed := true, recurses := true, apart := false }
def FnExactMoveRuleSaid : Prop := fnExactMoveRuleRow.holds Try.pinned (OpenSpec.ofChange fnExactMoveRuleSpec)

/-- ITS FALSE NEIGHBOUR: 'it returns false'. Refute it at one input. -/
def fnExactMoveRuleWrong : ChangeSpec := { name := "fnExactMoveRule", fn := fun _ => fun
  | [d1, d2, d3] => { results := [.lit (.bool false)], args := [d1, d2, d3] }
  | _ => none }
def FnExactMoveRuleWrongFalsely : Prop := fnExactMoveRuleRow.holds Try.pinned (OpenSpec.ofChange fnExactMoveRuleWrong)

/- THE SECOND FORM. 'bulk': how many values and letters a reading holds, each counted each time it is reached (what is shared counts as often as it is met; a slice's spare places count too). A statement '..UptoSaid' is the law's where the arguments, and the package variables that the reading takes, are together of bulk at most 1048576: NARROWER than '..Said'. Prove '..Said' where nothing that the law and all that it calls make is longer than what came in: it says more and counts as full. Else prove '..UptoSaid'. A law counts once. -/
mutual
def uptoBulk {H : Type} : DataW H → Nat
  | .lit (.string bytes) => bytes.length + 1
  | .lit _ => 1
  | .nil => 1
  | .ptr d => uptoBulk d + 1
  | .slice elems spare => uptoBulkAll elems + uptoBulkAll spare + 1
  | .agg parts => uptoBulkAll parts + 1
  | .iface _ d => uptoBulk d + 1
  | .map entries => uptoBulkEntries entries + 1
  | .held _ => 1
def uptoBulkAll {H : Type} : List (DataW H) → Nat
  | [] => 0
  | d :: r => uptoBulk d + uptoBulkAll r
def uptoBulkEntries {H : Type} : List (Lit × DataW H) → Nat
  | [] => 0
  | x :: r => uptoBulkEntry x + uptoBulkEntries r
def uptoBulkEntry {H : Type} : Lit × DataW H → Nat
  | (.string bytes, d) => bytes.length + uptoBulk d + 1
  | (_, d) => uptoBulk d + 1
 end
def uptoSmall : (H : Type) → List (DataW H) → Bool := fun _ ds => decide (uptoBulkAll ds ≤ 1048576)
def OpenSpec.upto (s : _root_.Go.ChangeSpec) : _root_.Go.OpenSpec := { _root_.Go.OpenSpec.ofChange s with cond := some uptoSmall }

/-- 'laws.FnExactMatrixOf', WHERE WHAT IT READS IS OF BULK AT MOST 1048576: true; the input reads as it did. -/
def fnExactMatrixOfUptoRow : OpenClaim := { program := "ytjdannndpfkadaa", sum := "e7d8c09fb621ca0f12e6251387d48cc35860fe6a8f16ac2d5d797abed97ee3b5", func := "loop.example/g01283/laws.FnExactMatrixOf", spec := "fnExactMatrixOf", unfollowed := true, recurses := true, apart := false, narrowed := true }
def FnExactMatrixOfUptoSaid : Prop := fnExactMatrixOfUptoRow.holds Try.pinned (OpenSpec.upto fnExactMatrixOfSpec)

/-- 'laws.FnExactStepsOf', WHERE WHAT IT READS IS OF BULK AT MOST 1048576: true; the input reads as it did. -/
def fnExactStepsOfUptoRow : OpenClaim := { program := "ytjdannndpfkadaa", sum := "e7d8c09fb621ca0f12e6251387d48cc35860fe6a8f16ac2d5d797abed97ee3b5", func := "loop.example/g01283/laws.FnExactStepsOf", spec := "fnExactStepsOf", unfollowed := true, recurses := true, apart := false, narrowed := true }
def FnExactStepsOfUptoSaid : Prop := fnExactStepsOfUptoRow.holds Try.pinned (OpenSpec.upto fnExactStepsOfSpec)

/-- 'laws.FnExactMergeRules', WHERE WHAT IT READS IS OF BULK AT MOST 1048576: true; the input reads as it did. -/
def fnExactMergeRulesUptoRow : OpenClaim := { program := "ytjdannndpfkadaa", sum := "e7d8c09fb621ca0f12e6251387d48cc35860fe6a8f16ac2d5d797abed97ee3b5", func := "loop.example/g01283/laws.FnExactMergeRules", spec := "fnExactMergeRules", unfollowed := true, recurses := true, apart := false, narrowed := true }
def FnExactMergeRulesUptoSaid : Prop := fnExactMergeRulesUptoRow.holds Try.pinned (OpenSpec.upto fnExactMergeRulesSpec)

/-- 'laws.FnExactMoveRule', WHERE WHAT IT READS IS OF BULK AT MOST 1048576: true; the input reads as it did. -/
def fnExactMoveRuleUptoRow : OpenClaim := { program := "ytjdannndpfkadaa", sum := "e7d8c09fb621ca0f12e6251387d48cc35860fe6a8f16ac2d5d797abed97ee3b5", func := "loop.example/g01283/laws.FnExactMoveRule", spec := "fnExactMoveRule", unfollowed := true, recurses := true, apart := false, narrowed := true }
def FnExactMoveRuleUptoSaid : Prop := fnExactMoveRuleUptoRow.holds Try.pinned (OpenSpec.upto fnExactMoveRuleSpec)

end Rows
end Go.Proofs.Ytjdannndpfkadaa

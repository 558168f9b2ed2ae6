/-
  No cell of these rows narrows 'for every input' (looked for: loops, veiled, ifaces, maps, wideKeys, modest, calm, conditions, laid).
  DERIVED. THE GIVEN ROWS OF THIS SEAT. 7 by the template 'for every input the law returns true; each argument reads behind the call as it read before'; 0 by the template 'total and deterministic' (their statements: YtijkfbnjcebfaaaTotals.lean).
  GIVEN WITH THE SEED: the statements are not yours to turn. If you find one false, say at which input.
  Laid BY PROGRAM, IN A SANDBOX (cutbox-rows.mjs): the forced cells as the released guide's own fill.sh prints them over the translation 31ef2ee849a850e1… (all of the seat's roots in one cut). By AI agents, Wed Nov 11 2026. No macro, syntax, notation, axiom, sorry.
-/
import Derived.Test.YtijkfbnjcebfaaaChecked
import GoSem.Claim
import GoSem.ClaimJoined
import GoSem.ClaimMapViews
import Derived.JoinedTies
import Derived.KernelRfl
namespace Go.Proofs.Ytijkfbnjcebfaaa
/- THE CELL 'sum', in the pinned program and in every row, IS THE sha256 OF THE DUMP (.gsa) THAT YtijkfbnjcebfaaaProg.lean LOADS. Nothing in Lean hashes anything: it is a label: what it is worth is what the hold of that sum in a sandbox is worth. -/
noncomputable def Try.pinned : Pinned := { name := "ytijkfbnjcebfaaa", sum := "31ef2ee849a850e13cf2a1634b9dfc551a03eac9295b8a702d6ab6c948436c27", checked := Try.checked }
namespace Rows
def none {H : Type} : Left H := { results := [], args := [] }

/-- 'laws.FnExactPolyOf': WHATEVER THE INPUT: true; the input reads as it did. -/
def fnExactPolyOfSpec : ChangeSpec := { name := "fnExactPolyOf", fn := fun _ => fun
  | [d1, d2] => { results := [.lit (.bool true)], args := [d1, d2] }
  | _ => none }
def fnExactPolyOfRow : OpenClaim := { program := "ytijkfbnjcebfaaa", sum := "31ef2ee849a850e13cf2a1634b9dfc551a03eac9295b8a702d6ab6c948436c27", func := "loop.example/g01283/laws.FnExactPolyOf", spec := "fnExactPolyOf", unfollowed := true, recurses := true, apart := false }
def FnExactPolyOfSaid : Prop := fnExactPolyOfRow.holds Try.pinned (OpenSpec.ofChange fnExactPolyOfSpec)

/-- ITS FALSE NEIGHBOUR: 'it returns false'. Refute it at one input. -/
def fnExactPolyOfWrong : ChangeSpec := { name := "fnExactPolyOf", fn := fun _ => fun
  | [d1, d2] => { results := [.lit (.bool false)], args := [d1, d2] }
  | _ => none }
def FnExactPolyOfWrongFalsely : Prop := fnExactPolyOfRow.holds Try.pinned (OpenSpec.ofChange fnExactPolyOfWrong)

/-- 'laws.FnExactAssociatedOf': WHATEVER THE INPUT: true; the input reads as it did. -/
def fnExactAssociatedOfSpec : ChangeSpec := { name := "fnExactAssociatedOf", fn := fun _ => fun
  | [d1, d2] => { results := [.lit (.bool true)], args := [d1, d2] }
  | _ => none }
def fnExactAssociatedOfRow : OpenClaim := { program := "ytijkfbnjcebfaaa", sum := "31ef2ee849a850e13cf2a1634b9dfc551a03eac9295b8a702d6ab6c948436c27", func := "loop.example/g01283/laws.FnExactAssociatedOf", spec := "fnExactAssociatedOf", unfollowed := true, recurses := true, apart := false }
def FnExactAssociatedOfSaid : Prop := fnExactAssociatedOfRow.holds Try.pinned (OpenSpec.ofChange fnExactAssociatedOfSpec)

/-- ITS FALSE NEIGHBOUR: 'it returns false'. Refute it at one input. -/
def fnExactAssociatedOfWrong : ChangeSpec := { name := "fnExactAssociatedOf", fn := fun _ => fun
  | [d1, d2] => { results := [.lit (.bool false)], args := [d1, d2] }
  | _ => none }
def FnExactAssociatedOfWrongFalsely : Prop := fnExactAssociatedOfRow.holds Try.pinned (OpenSpec.ofChange fnExactAssociatedOfWrong)

/-- 'laws.FnExactMatrixOf': WHATEVER THE INPUT: true; the input reads as it did. -/
def fnExactMatrixOfSpec : ChangeSpec := { name := "fnExactMatrixOf", fn := fun _ => fun
  | [d] => { results := [.lit (.bool true)], args := [d] }
  | _ => none }
def fnExactMatrixOfRow : OpenClaim := { program := "ytijkfbnjcebfaaa", sum := "31ef2ee849a850e13cf2a1634b9dfc551a03eac9295b8a702d6ab6c948436c27", func := "loop.example/g01283/laws.FnExactMatrixOf", spec := "fnExactMatrixOf", unfollowed := true, recurses := true, apart := false }
def FnExactMatrixOfSaid : Prop := fnExactMatrixOfRow.holds Try.pinned (OpenSpec.ofChange fnExactMatrixOfSpec)

/-- ITS FALSE NEIGHBOUR: 'it returns false'. Refute it at one input. -/
def fnExactMatrixOfWrong : ChangeSpec := { name := "fnExactMatrixOf", fn := fun _ => fun
  | [d] => { results := [.lit (.bool false)], args := [d] }
  | _ => none }
def FnExactMatrixOfWrongFalsely : Prop := fnExactMatrixOfRow.holds Try.pinned (OpenSpec.ofChange fnExactMatrixOfWrong)

/-- 'laws.FnExactReverseJacobi': WHATEVER THE INPUT: true; the input reads as it did. -/
def fnExactReverseJacobiSpec : ChangeSpec := { name := "fnExactReverseJacobi", fn := fun _ => fun
  | [d] => { results := [.lit (.bool true)], args := [d] }
  | _ => none }
def fnExactReverseJacobiRow : OpenClaim := { program := "ytijkfbnjcebfaaa", sum := "31ef2ee849a850e13cf2a1634b9dfc551a03eac9295b8a702d6ab6c948436c27", func := "loop.example/g01283/laws.FnExactReverseJacobi", spec := "fnExactReverseJacobi", unfollowed := true, recurses := true, apart := false }
def FnExactReverseJacobiSaid : Prop := fnExactReverseJacobiRow.holds Try.pinned (OpenSpec.ofChange fnExactReverseJacobiSpec)

/-- ITS FALSE NEIGHBOUR: 'it returns false'. Refute it at one input. -/
def fnExactReverseJacobiWrong : ChangeSpec := { name := "fnExactReverseJacobi", fn := fun _ => fun
  | [d] => { results := [.lit (.bool false)], args := [d] }
  | _ => none }
def FnExactReverseJacobiWrongFalsely : Prop := fnExactReverseJacobiRow.holds Try.pinned (OpenSpec.ofChange fnExactReverseJacobiWrong)

/-- 'laws.FnExactWithoutRests': WHATEVER THE INPUT: true; the input reads as it did. -/
def fnExactWithoutRestsSpec : ChangeSpec := { name := "fnExactWithoutRests", fn := fun _ => fun
  | [d] => { results := [.lit (.bool true)], args := [d] }
  | _ => none }
def fnExactWithoutRestsRow : OpenClaim := { program := "ytijkfbnjcebfaaa", sum := "31ef2ee849a850e13cf2a1634b9dfc551a03eac9295b8a702d6ab6c948436c27", func := "loop.example/g01283/laws.FnExactWithoutRests", spec := "fnExactWithoutRests", unfollowed := true, recurses := true, apart := false }
def FnExactWithoutRestsSaid : Prop := fnExactWithoutRestsRow.holds Try.pinned (OpenSpec.ofChange fnExactWithoutRestsSpec)

/-- ITS FALSE NEIGHBOUR: 'it returns false'. Refute it at one input. -/
def fnExactWithoutRestsWrong : ChangeSpec := { name := "fnExactWithoutRests", fn := fun _ => fun
  | [d] => { results := [.lit (.bool false)], args := [d] }
  | _ => none }
def FnExactWithoutRestsWrongFalsely : Prop := fnExactWithoutRestsRow.holds Try.pinned (OpenSpec.ofChange fnExactWithoutRestsWrong)

/-- 'laws.FnExactGaussRule': WHATEVER THE INPUT: true; the input reads as it did. -/
def fnExactGaussRuleSpec : ChangeSpec := { name := "fnExactGaussRule", fn := fun _ => fun
  | [d] => { results := [.lit (.bool true)], args := [d] }
  | _ => none }
def fnExactGaussRuleRow : OpenClaim := { program := "ytijkfbnjcebfaaa", sum := "31ef2ee849a850e13cf2a1634b9dfc551a03eac9295b8a702d6ab6c948436c27", func := "loop.example/g01283/laws.FnExactGaussRule", spec := "fnExactGaussRule", unfollowed := true, recurses := true, apart := false }
def FnExactGaussRuleSaid : Prop := fnExactGaussRuleRow.holds Try.pinned (OpenSpec.ofChange fnExactGaussRuleSpec)

/-- ITS FALSE NEIGHBOUR: 'it returns false'. Refute it at one input. -/
def fnExactGaussRuleWrong : ChangeSpec := { name := "fnExactGaussRule", fn := fun _ => fun
  | [d] => { results := [.lit (.bool false)], args := [d] }
  | _ => none }
def FnExactGaussRuleWrongFalsely : Prop := fnExactGaussRuleRow.holds Try.pinned (OpenSpec.ofChange fnExactGaussRuleWrong)

/-- 'laws.FnExactWeightsFor': WHATEVER THE INPUT: true; the input reads as it did. -/
def fnExactWeightsForSpec : ChangeSpec := { name := "fnExactWeightsFor", fn := fun _ => fun
  | [d1, d2] => { results := [.lit (.bool true)], args := [d1, d2] }
  | _ => none }
def fnExactWeightsForRow : OpenClaim := { program := "ytijkfbnjcebfaaa", sum := "31ef2ee849a850e13cf2a1634b9dfc551a03eac9295b8a702d6ab6c948436c27", func := "loop.example/g01283/laws.FnExactWeightsFor", spec := "fnExactWeightsFor", unfollowed := true, recurses := true, apart := false }
def FnExactWeightsForSaid : Prop := fnExactWeightsForRow.holds Try.pinned (OpenSpec.ofChange fnExactWeightsForSpec)

/-- ITS FALSE NEIGHBOUR: 'it returns false'. Refute it at one input. -/
def fnExactWeightsForWrong : ChangeSpec := { name := "fnExactWeightsFor", fn := fun _ => fun
  | [d1, d2] => { results := [.lit (.bool false)], args := [d1, d2] }
  | _ => none }
def FnExactWeightsForWrongFalsely : Prop := fnExactWeightsForRow.holds Try.pinned (OpenSpec.ofChange fnExactWeightsForWrong)

/- THE SECOND FORM. 'bulk': how many values and letters a reading holds, each counted each time it is reached (what is shared counts as often as it is met; a slice's spare places count too). A statement '..UptoSaid' is the law's where the arguments, and the package variables that the reading takes, are together of bulk at most 1048576: NARROWER than '..Said'. Prove '..Said' where nothing that the law and all that it calls make is longer than what came in: it says more and counts as full. Else prove '..UptoSaid'. A law counts once. -/
mutual
def uptoBulk {H : Type} : DataW H → Nat
  | .lit (.string bytes) => bytes.length + 1
  | .lit _ => 1
  | .nil => 1
  | .ptr d => uptoBulk d + 1
  | .slice elems spare => uptoBulkAll elems + uptoBulkAll spare + 1
  | .agg parts => uptoBulkAll parts + 1
  | .iface _ d => uptoBulk d + 1
  | .map entries => uptoBulkEntries entries + 1
  | .held _ => 1
def uptoBulkAll {H : Type} : List (DataW H) → Nat
  | [] => 0
  | d :: r => uptoBulk d + uptoBulkAll r
def uptoBulkEntries {H : Type} : List (Lit × DataW H) → Nat
  | [] => 0
  | x :: r => uptoBulkEntry x + uptoBulkEntries r
def uptoBulkEntry {H : Type} : Lit × DataW H → Nat
  | (.string bytes, d) => bytes.length + uptoBulk d + 1
  | (_, d) => uptoBulk d + 1
 end
def uptoSmall : (H : Type) → List (DataW H) → Bool := fun _ ds => decide (uptoBulkAll ds ≤ 1048576)
def OpenSpec.upto (s : _root_.Go.ChangeSpec) : _root_.Go.OpenSpec := { _root_.Go.OpenSpec.ofChange s with cond := some uptoSmall }

/-- 'laws.FnExactPolyOf', WHERE WHAT IT READS IS OF BULK AT MOST 1048576: true; the input reads as it did. -/
def fnExactPolyOfUptoRow : OpenClaim := { program := "ytijkfbnjcebfaaa", sum := "31ef2ee849a850e13cf2a1634b9dfc551a03eac9295b8a702d6ab6c948436c27", func := "loop.example/g01283/laws.FnExactPolyOf", spec := "fnExactPolyOf", unfollowed := true, recurses := true, apart := false, narrowed := true }
def FnExactPolyOfUptoSaid : Prop := fnExactPolyOfUptoRow.holds Try.pinned (OpenSpec.upto fnExactPolyOfSpec)

/-- 'laws.FnExactAssociatedOf', WHERE WHAT IT READS IS OF BULK AT MOST 1048576: true; the input reads as it did. -/
def fnExactAssociatedOfUptoRow : OpenClaim := { program := "ytijkfbnjcebfaaa", sum := "31ef2ee849a850e13cf2a1634b9dfc551a03eac9295b8a702d6ab6c948436c27", func := "loop.example/g01283/laws.FnExactAssociatedOf", spec := "fnExactAssociatedOf", unfollowed := true, recurses := true, apart := false, narrowed := true }
def FnExactAssociatedOfUptoSaid : Prop := fnExactAssociatedOfUptoRow.holds Try.pinned (OpenSpec.upto fnExactAssociatedOfSpec)

/-- 'laws.FnExactMatrixOf', WHERE WHAT IT READS IS OF BULK AT MOST 1048576: true; the input reads as it did. -/
def fnExactMatrixOfUptoRow : OpenClaim := { program := "ytijkfbnjcebfaaa", sum := "31ef2ee849a850e13cf2a1634b9dfc551a03eac9295b8a702d6ab6c948436c27", func := "loop.example/g01283/laws.FnExactMatrixOf", spec := "fnExactMatrixOf", unfollowed := true, recurses := true, apart := false, narrowed := true }
def FnExactMatrixOfUptoSaid : Prop := fnExactMatrixOfUptoRow.holds Try.pinned (OpenSpec.upto fnExactMatrixOfSpec)

/-- 'laws.FnExactReverseJacobi', WHERE WHAT IT READS IS OF BULK AT MOST 1048576: true; the input reads as it did. -/
def fnExactReverseJacobiUptoRow : OpenClaim := { program := "ytijkfbnjcebfaaa", sum := "31ef2ee849a850e13cf2a1634b9dfc551a03eac9295b8a702d6ab6c948436c27", func := "loop.example/g01283/laws.FnExactReverseJacobi", spec := "fnExactReverseJacobi", unfollowed := true, recurses := true, apart := false, narrowed := true }
def FnExactReverseJacobiUptoSaid : Prop := fnExactReverseJacobiUptoRow.holds Try.pinned (OpenSpec.upto fnExactReverseJacobiSpec)

/-- 'laws.FnExactWithoutRests', WHERE WHAT IT READS IS OF BULK AT MOST 1048576: true; the input reads as it did. -/
def fnExactWithoutRestsUptoRow : OpenClaim := { program := "ytijkfbnjcebfaaa", sum := "31ef2ee849a850e13cf2a1634b9dfc551a03eac9295b8a702d6ab6c948436c27", func := "loop.example/g01283/laws.FnExactWithoutRests", spec := "fnExactWithoutRests", unfollowed := true, recurses := true, apart := false, narrowed := true }
def FnExactWithoutRestsUptoSaid : Prop := fnExactWithoutRestsUptoRow.holds Try.pinned (OpenSpec.upto fnExactWithoutRestsSpec)

/-- 'laws.FnExactGaussRule', WHERE WHAT IT READS IS OF BULK AT MOST 1048576: true; the input reads as it did. -/
def fnExactGaussRuleUptoRow : OpenClaim := { program := "ytijkfbnjcebfaaa", sum := "31ef2ee849a850e13cf2a1634b9dfc551a03eac9295b8a702d6ab6c948436c27", func := "loop.example/g01283/laws.FnExactGaussRule", spec := "fnExactGaussRule", unfollowed := true, recurses := true, apart := false, narrowed := true }
def FnExactGaussRuleUptoSaid : Prop := fnExactGaussRuleUptoRow.holds Try.pinned (OpenSpec.upto fnExactGaussRuleSpec)

/-- 'laws.FnExactWeightsFor', WHERE WHAT IT READS IS OF BULK AT MOST 1048576: true; the input reads as it did. -/
def fnExactWeightsForUptoRow : OpenClaim := { program := "ytijkfbnjcebfaaa", sum := "31ef2ee849a850e13cf2a1634b9dfc551a03eac9295b8a702d6ab6c948436c27", func := "loop.example/g01283/laws.FnExactWeightsFor", spec := "fnExactWeightsFor", unfollowed := true, recurses := true, apart := false, narrowed := true }
def FnExactWeightsForUptoSaid : Prop := fnExactWeightsForUptoRow.holds Try.pinned (OpenSpec.upto fnExactWeightsForSpec)

end Rows
end Go.Proofs.Ytijkfbnjcebfaaa

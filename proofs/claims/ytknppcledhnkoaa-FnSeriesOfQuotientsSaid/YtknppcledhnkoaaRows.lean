/-
  No cell of these rows narrows 'for every input' (looked for: loops, veiled, ifaces, maps, wideKeys, modest, calm, conditions, laid).
  DERIVED. THE GIVEN ROWS OF THIS SEAT. 3 by the template 'for every input the law returns true; each argument reads behind the call as it read before'; 0 by the template 'total and deterministic' (their statements: YtknppcledhnkoaaTotals.lean).
  GIVEN WITH THE SEED: the statements are not yours to turn. If you find one false, say at which input.
  Laid BY PROGRAM, IN A SANDBOX (cutbox-rows.mjs): the forced cells as the released guide's own fill.sh prints them over the translation f7d87e276ddf876a… (all of the seat's roots in one cut). By AI agents, Wed Nov 11 2026. No macro, syntax, notation, axiom, sorry.
-/
import Derived.Test.YtknppcledhnkoaaChecked
import GoSem.Claim
import GoSem.ClaimJoined
import GoSem.ClaimMapViews
import Derived.JoinedTies
import Derived.KernelRfl
namespace Go.Proofs.Ytknppcledhnkoaa
/- THE CELL 'sum', in the pinned program and in every row, IS THE sha256 OF THE DUMP (.gsa) THAT YtknppcledhnkoaaProg.lean LOADS. Nothing in Lean hashes anything: it is a label: what it is worth is what the hold of that sum in a sandbox is worth. -/
noncomputable def Try.pinned : Pinned := { name := "ytknppcledhnkoaa", sum := "f7d87e276ddf876a81074e80b80b3c385e5589b9fc299de623fc0ffb5646ce76", checked := Try.checked }
namespace Rows
def none {H : Type} : Left H := { results := [], args := [] }

/-- 'laws.FnSeriesOfQuotients': WHATEVER THE INPUT: true; the input reads as it did. -/
def fnSeriesOfQuotientsSpec : ChangeSpec := { name := "fnSeriesOfQuotients", fn := fun _ => fun
  | [d] => { results := [.lit (.bool true)], args := [d] }
  | _ => none }
def fnSeriesOfQuotientsRow : OpenClaim := { program := "ytknppcledhnkoaa", sum := "f7d87e276ddf876a81074e80b80b3c385e5589b9fc299de623fc0ffb5646ce76", func := "loop.example/g01283/laws.FnSeriesOfQuotients", spec := "fnSeriesOfQuotients", unfollowed := true, recurses := true, apart := false }
def FnSeriesOfQuotientsSaid : Prop := fnSeriesOfQuotientsRow.holds Try.pinned (OpenSpec.ofChange fnSeriesOfQuotientsSpec)

/-- ITS FALSE NEIGHBOUR: 'it returns false'. Refute it at one input. -/
def fnSeriesOfQuotientsWrong : ChangeSpec := { name := "fnSeriesOfQuotients", fn := fun _ => fun
  | [d] => { results := [.lit (.bool false)], args := [d] }
  | _ => none }
def FnSeriesOfQuotientsWrongFalsely : Prop := fnSeriesOfQuotientsRow.holds Try.pinned (OpenSpec.ofChange fnSeriesOfQuotientsWrong)

/-- 'laws.FnFoundData': WHATEVER THE INPUT: true; the input reads as it did. -/
def fnFoundDataSpec : ChangeSpec := { name := "fnFoundData", fn := fun _ => fun
  | [d] => { results := [.lit (.bool true)], args := [d] }
  | _ => none }
def fnFoundDataRow : OpenClaim := { program := "ytknppcledhnkoaa", sum := "f7d87e276ddf876a81074e80b80b3c385e5589b9fc299de623fc0ffb5646ce76", func := "loop.example/g01283/laws.FnFoundData", spec := "fnFoundData", unfollowed := true, recurses := true, apart := false }
def FnFoundDataSaid : Prop := fnFoundDataRow.holds Try.pinned (OpenSpec.ofChange fnFoundDataSpec)

/-- ITS FALSE NEIGHBOUR: 'it returns false'. Refute it at one input. -/
def fnFoundDataWrong : ChangeSpec := { name := "fnFoundData", fn := fun _ => fun
  | [d] => { results := [.lit (.bool false)], args := [d] }
  | _ => none }
def FnFoundDataWrongFalsely : Prop := fnFoundDataRow.holds Try.pinned (OpenSpec.ofChange fnFoundDataWrong)

/-- 'laws.FnRecurrences': WHATEVER THE INPUT: true; the input reads as it did. -/
def fnRecurrencesSpec : ChangeSpec := { name := "fnRecurrences", fn := fun _ => fun
  | [d] => { results := [.lit (.bool true)], args := [d] }
  | _ => none }
def fnRecurrencesRow : OpenClaim := { program := "ytknppcledhnkoaa", sum := "f7d87e276ddf876a81074e80b80b3c385e5589b9fc299de623fc0ffb5646ce76", func := "loop.example/g01283/laws.FnRecurrences", spec := "fnRecurrences", unfollowed := true, recurses := true, apart := false }
def FnRecurrencesSaid : Prop := fnRecurrencesRow.holds Try.pinned (OpenSpec.ofChange fnRecurrencesSpec)

/-- ITS FALSE NEIGHBOUR: 'it returns false'. Refute it at one input. -/
def fnRecurrencesWrong : ChangeSpec := { name := "fnRecurrences", fn := fun _ => fun
  | [d] => { results := [.lit (.bool false)], args := [d] }
  | _ => none }
def FnRecurrencesWrongFalsely : Prop := fnRecurrencesRow.holds Try.pinned (OpenSpec.ofChange fnRecurrencesWrong)

/- THE SECOND FORM. 'bulk': how many values and letters a reading holds, each counted each time it is reached (what is shared counts as often as it is met; a slice's spare places count too). A statement '..UptoSaid' is the law's where the arguments, and the package variables that the reading takes, are together of bulk at most 1048576: NARROWER than '..Said'. Prove '..Said' where nothing that the law and all that it calls make is longer than what came in: it says more and counts as full. Else prove '..UptoSaid'. A law counts once. -/
mutual
def uptoBulk {H : Type} : DataW H → Nat
  | .lit (.string bytes) => bytes.length + 1
  | .lit _ => 1
  | .nil => 1
  | .ptr d => uptoBulk d + 1
  | .slice elems spare => uptoBulkAll elems + uptoBulkAll spare + 1
  | .agg parts => uptoBulkAll parts + 1
  | .iface _ d => uptoBulk d + 1
  | .map entries => uptoBulkEntries entries + 1
  | .held _ => 1
def uptoBulkAll {H : Type} : List (DataW H) → Nat
  | [] => 0
  | d :: r => uptoBulk d + uptoBulkAll r
def uptoBulkEntries {H : Type} : List (Lit × DataW H) → Nat
  | [] => 0
  | x :: r => uptoBulkEntry x + uptoBulkEntries r
def uptoBulkEntry {H : Type} : Lit × DataW H → Nat
  | (.string bytes, d) => bytes.length + uptoBulk d + 1
  | (_, d) => uptoBulk d + 1
 end
def uptoSmall : (H : Type) → List (DataW H) → Bool := fun _ ds => decide (uptoBulkAll ds ≤ 1048576)
def OpenSpec.upto (s : _root_.Go.ChangeSpec) : _root_.Go.OpenSpec := { _root_.Go.OpenSpec.ofChange s with cond := some uptoSmall }

/-- 'laws.FnSeriesOfQuotients', WHERE WHAT IT READS IS OF BULK AT MOST 1048576: true; the input reads as it did. -/
def fnSeriesOfQuotientsUptoRow : OpenClaim := { program := "ytknppcledhnkoaa", sum := "f7d87e276ddf876a81074e80b80b3c385e5589b9fc299de623fc0ffb5646ce76", func := "loop.example/g01283/laws.FnSeriesOfQuotients", spec := "fnSeriesOfQuotients", unfollowed := true, recurses := true, apart := false, narrowed := true }
def FnSeriesOfQuotientsUptoSaid : Prop := fnSeriesOfQuotientsUptoRow.holds Try.pinned (OpenSpec.upto fnSeriesOfQuotientsSpec)

/-- 'laws.FnFoundData', WHERE WHAT IT READS IS OF BULK AT MOST 1048576: true; the input reads as it did. -/
def fnFoundDataUptoRow : OpenClaim := { program := "ytknppcledhnkoaa", sum := "f7d87e276ddf876a81074e80b80b3c385e5589b9fc299de623fc0ffb5646ce76", func := "loop.example/g01283/laws.FnFoundData", spec := "fnFoundData", unfollowed := true, recurses := true, apart := false, narrowed := true }
def FnFoundDataUptoSaid : Prop := fnFoundDataUptoRow.holds Try.pinned (OpenSpec.upto fnFoundDataSpec)

/-- 'laws.FnRecurrences', WHERE WHAT IT READS IS OF BULK AT MOST 1048576: true; the input reads as it did. -/
def fnRecurrencesUptoRow : OpenClaim := { program := "ytknppcledhnkoaa", sum := "f7d87e276ddf876a81074e80b80b3c385e5589b9fc299de623fc0ffb5646ce76", func := "loop.example/g01283/laws.FnRecurrences", spec := "fnRecurrences", unfollowed := true, recurses := true, apart := false, narrowed := true }
def FnRecurrencesUptoSaid : Prop := fnRecurrencesUptoRow.holds Try.pinned (OpenSpec.upto fnRecurrencesSpec)

end Rows
end Go.Proofs.Ytknppcledhnkoaa

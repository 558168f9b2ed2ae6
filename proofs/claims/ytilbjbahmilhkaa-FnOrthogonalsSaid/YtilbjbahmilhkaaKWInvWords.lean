/- Texts of this session in one: what functions of the program compute, and plain facts of it, under the conditions that each theorem names. -/
import Derived.Test.YtilbjbahmilhkaaKWInv
import Derived.Test.YtilbjbahmilhkaaKWFootNe
-- PRINTED BY print.sh 35421559au: not written by this session
namespace Go.Proofs.YtilbjbahmilhkaaW.PrintWords
open Go.RowKit
end Go.Proofs.YtilbjbahmilhkaaW.PrintWords
namespace Go.Proofs.YtilbjbahmilhkaaW.PrintLast
section
variable {ops : Array Oper} {a : Act} {o og : Oper} {g : Nat} {t : Tmp} {u : Bool}
end
end Go.Proofs.YtilbjbahmilhkaaW.PrintLast

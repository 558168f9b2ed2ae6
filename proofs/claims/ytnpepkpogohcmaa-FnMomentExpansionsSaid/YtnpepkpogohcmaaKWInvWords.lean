/- Texts of this session in one: what functions of the program compute, and plain facts of it, under the conditions that each theorem names. -/
import Derived.Test.YtnpepkpogohcmaaKWInv
import Derived.Test.YtnpepkpogohcmaaKWFootNe
-- PRINTED BY print.sh 35421559ak: not written by this session
namespace Go.Proofs.YtnpepkpogohcmaaW.PrintWords
open Go.RowKit
end Go.Proofs.YtnpepkpogohcmaaW.PrintWords
namespace Go.Proofs.YtnpepkpogohcmaaW.PrintLast
section
variable {ops : Array Oper} {a : Act} {o og : Oper} {g : Nat} {t : Tmp} {u : Bool}
end
end Go.Proofs.YtnpepkpogohcmaaW.PrintLast

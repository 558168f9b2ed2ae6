/- Texts of this session in one: what functions of the program compute, and plain facts of it, under the conditions that each theorem names. -/
import Derived.Test.YtnpepkpogohcmaaGreatKWInv
import Derived.Test.YtnpepkpogohcmaaGreatKWFootNe
-- PRINTED BY print.sh 35421559ah: not written by this session
namespace Go.Proofs.YtnpepkpogohcmaaGreatW.PrintWords
open Go.RowKit
end Go.Proofs.YtnpepkpogohcmaaGreatW.PrintWords
namespace Go.Proofs.YtnpepkpogohcmaaGreatW.PrintLast
section
variable {ops : Array Oper} {a : Act} {o og : Oper} {g : Nat} {t : Tmp} {u : Bool}
end
end Go.Proofs.YtnpepkpogohcmaaGreatW.PrintLast

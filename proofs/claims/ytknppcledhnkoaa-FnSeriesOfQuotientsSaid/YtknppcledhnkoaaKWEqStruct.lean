/- Texts of this session in one: what functions of the program compute, and plain facts of it, under the conditions that each theorem names. -/
import Derived.Laws.StructEq
import Derived.Test.YtknppcledhnkoaaKWWords
-- PRINTED BY print.sh 35421559aD: not written by this session
/-! ### 53. '==' of structs as_ one Bool -/
namespace Go.Proofs.YtknppcledhnkoaaW.PrintWords
open Go.RowKit
end Go.Proofs.YtknppcledhnkoaaW.PrintWords

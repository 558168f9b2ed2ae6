/- Texts of this session in one: what functions of the program compute, and plain facts of it, under the conditions that each theorem names. -/
import Derived.Test.YtknppcledhnkoaaKWInv
import Derived.Test.YtknppcledhnkoaaKWFootNe
-- PRINTED BY print.sh 35421559aD: not written by this session
namespace Go.Proofs.YtknppcledhnkoaaW.PrintWords
open Go.RowKit
end Go.Proofs.YtknppcledhnkoaaW.PrintWords
namespace Go.Proofs.YtknppcledhnkoaaW.PrintLast
end Go.Proofs.YtknppcledhnkoaaW.PrintLast

/- Texts of this session in one: what functions of the program compute, and plain facts of it, under the conditions that each theorem names. -/
import Derived.Test.YtknppcledhnkoaaKWTab
-- PRINTED BY print.sh 35421559aD: not written by this session
/-! ### 56. Four, five, six operations that may come up next, in any order -/
namespace Go.Proofs.YtknppcledhnkoaaW.PrintLast
end Go.Proofs.YtknppcledhnkoaaW.PrintLast

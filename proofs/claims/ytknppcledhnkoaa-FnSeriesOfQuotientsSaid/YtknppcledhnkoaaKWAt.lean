/- Texts of this session in one: what functions of the program compute, and plain facts of it, under the conditions that each theorem names. -/
import Derived.Test.YtknppcledhnkoaaKWFootNe
-- PRINTED BY print.sh 35421559aD: not written by this session
/-! ### 54. Behind orders that were drawn quietly: the same facts at the world's new name; a flat row's foot -/
namespace Go.Proofs.YtknppcledhnkoaaW.PrintWords
open Go.RowKit
namespace Kd
end Kd
end Go.Proofs.YtknppcledhnkoaaW.PrintWords

/- Texts of this session in one: what functions of the program compute, and plain facts of it, under the conditions that each theorem names. -/
import Derived.Test.YtknppcledhnkoaaKWN
-- PRINTED BY print.sh 35421559aD: not written by this session
/-! ### 52. A row that stays read whatever happens to a block (a set of blocks) doesn't lie there -/
namespace Go.Proofs.YtknppcledhnkoaaW.PrintWords
open Go.RowKit
namespace Kd
end Kd
end Go.Proofs.YtknppcledhnkoaaW.PrintWords

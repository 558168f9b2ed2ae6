/- Texts of this session in one: what functions of the program compute, and plain facts of it, under the conditions that each theorem names. -/
import Derived.Test.YtknppcledhnkoaaKWWords
-- PRINTED BY print.sh 35421559aD: not written by this session
/-! ### 41. Arrays '[n]T' as_ values: a kind (a field, an element of a row), an element read, an element set -/
namespace Go.Proofs.YtknppcledhnkoaaW.PrintWords
open Go.RowKit
namespace Kd
end Kd
end Go.Proofs.YtknppcledhnkoaaW.PrintWords

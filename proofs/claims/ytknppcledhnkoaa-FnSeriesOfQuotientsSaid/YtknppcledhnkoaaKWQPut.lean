/- Texts of this session in one: what functions of the program compute, and plain facts of it, under the conditions that each theorem names. -/
import Derived.Test.YtknppcledhnkoaaKWWords
import Derived.Test.YtknppcledhnkoaaKWLast
-- PRINTED BY print.sh 35421559aD: not written by this session
/-! ### 39. Stores into a row that may begin inside its block (Q): Q_form, Q_elem, Q_seg; scalars: Q_cell, Q_putg -/
namespace Go.Proofs.YtknppcledhnkoaaW.PrintWords
open Go.RowKit
namespace Kd
end Kd
end Go.Proofs.YtknppcledhnkoaaW.PrintWords

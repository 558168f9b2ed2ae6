/- Texts of this session in one: what functions of the program compute, and plain facts of it, under the conditions that each theorem names. -/
import Derived.Test.YtknppcledhnkoaaKWApart
import Derived.Test.YtknppcledhnkoaaKWArr
-- PRINTED BY print.sh 35421559aD: not written by this session
/-! ### 43. What is read beside a state: it stays read whatever the state's calls turn ('∀ W', aM w W' g none → d.C W' A n xs') -/
namespace Go.Proofs.YtknppcledhnkoaaW.PrintWords
open Go.RowKit
namespace Kd
end Kd
end Go.Proofs.YtknppcledhnkoaaW.PrintWords

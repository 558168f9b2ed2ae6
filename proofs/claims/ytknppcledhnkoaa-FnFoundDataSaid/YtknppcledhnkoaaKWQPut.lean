/- Texts of this session in one: what functions of the program compute, and plain facts of it, under the conditions that each theorem names. -/
import Derived.Test.YtknppcledhnkoaaKWWords
import Derived.Test.YtknppcledhnkoaaKWLast
-- PRINTED BY print.sh 35421559aC: not written by this session
/-! ### 39. Stores into a row that may begin inside its block (Q): Q_form, Q_elem, Q_seg; scalars: Q_cell, Q_putg -/
namespace Go.Proofs.YtknppcledhnkoaaW.PrintWords
open Go.RowKit
namespace Kd
section
variable {α : Type} {d : Kd α} {e base g o n cap : Nat} {ok okp : Nat → Prop} {w W : World} {v : Value} {xs : List α}
end
section
variable {α : Type} {enc : α → Value} {h1 : ∀ x,(enc x).oneCell' = true} {e base g o n cap : Nat} {ok : Nat → Prop} {W : World} {xs : List α}
end
end Kd
end Go.Proofs.YtknppcledhnkoaaW.PrintWords

/- The points drawn near a box. -/
import Derived.Test.YtgiadgbfeldheaaZb
set_option linter.unusedVariables false
namespace Go.Proofs.Ytgiadgbfeldheaa
open Go.RowKit

/-- a box, a point and a radius drawn by a law -/
def DrawnTouch (w : World) (e : Ending) (w' : World) : Prop :=
  ∃ (a b c d x y r : Int), e = .returned (.tuple #[.agg #[.int .i64 a, .int .i64 b, .int .i64 c, .int .i64 d], .agg #[.int .i64 x, .int .i64 y], .int .i64 r]) ∧ -5000 ≤ r ∧ r ≤ 1500 ∧ Below w.heap.size w w'
end Go.Proofs.Ytgiadgbfeldheaa

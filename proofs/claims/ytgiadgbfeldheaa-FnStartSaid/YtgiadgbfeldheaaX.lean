/- Contracts on boxes, of the program and of the reference: the nearest point, whether a circle touches, the common box, whether a point lies in a box. -/
import Derived.Test.YtgiadgbfeldheaaW
namespace Go.Proofs.Ytgiadgbfeldheaa
open Go.RowKit

/-- a box and a point are valid -/
def bvB (lx ly hx hy x y : Int) : Bool := bxB lx ly hx hy && vokB x y
/-- a box has a point -/
def hasB (lx ly hx hy x y : Int) : Bool := inB x lx hx && inB y ly hy
/-- a number if a condition holds, else 0 -/
def onB (b : Bool) (n : Int) : Int := if b then n else 0
theorem onB_t {b : Bool} {n : Int} (h : b = true) : onB b n = n := by simp [onB, h]
theorem onB_f {b : Bool} {n : Int} (h : b = false) : onB b n = 0 := by simp [onB, h]
theorem ret_vb {a b a' b' : Int} {k k' : Bool} (h1 : a = a') (h2 : b = b') (h3 : k = k') :
    Ending.returned (.tuple #[.agg #[.int .i64 a, .int .i64 b], .bool k]) = .returned (.tuple #[.agg #[.int .i64 a', .int .i64 b'], .bool k']) := by rw [h1, h2, h3]
theorem ret_bb {a b c d a' b' c' d' : Int} {k k' : Bool} (h1 : a = a') (h2 : b = b') (h3 : c = c') (h4 : d = d') (h5 : k = k') :
    Ending.returned (.tuple #[.agg #[.int .i64 a, .int .i64 b, .int .i64 c, .int .i64 d], .bool k]) = .returned (.tuple #[.agg #[.int .i64 a', .int .i64 b', .int .i64 c', .int .i64 d'], .bool k']) := by rw [h1, h2, h3, h4, h5]
theorem bxB_le {lx ly hx hy : Int} (h : bxB lx ly hx hy = true) : lx ≤ hx ∧ ly ≤ hy := by
  simp [bxB] at h
  omega

end Go.Proofs.Ytgiadgbfeldheaa

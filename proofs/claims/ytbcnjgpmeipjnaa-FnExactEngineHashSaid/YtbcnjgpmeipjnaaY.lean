/- Contracts on boxes, of the program and of the reference: the common box, whether a point lies in a box. -/
import Derived.Test.YtbcnjgpmeipjnaaX
import Derived.Test.YtbcnjgpmeipjnaaBq
namespace Go.Proofs.Ytbcnjgpmeipjnaa
open Go.RowKit
attribute [local go_sem] BelW.cell_eq nl1 nl2 nl3 nl4 nl5 nl6 nl7 nl8 nl9 nl10 nl11
attribute [local go_sem ↓] run_eqlVec run_neqVec vq_self bq_self

/-- the larger and the smaller of two numbers -/
def mx (x y : Int) : Int := if y > x then y else x
def mn (x y : Int) : Int := if y < x then y else x
theorem mx_eq (x y : Int) : (x ≤ y ∧ mx x y = y) ∨ (y ≤ x ∧ mx x y = x) := by
  unfold mx
  split <;> omega
theorem mn_eq (x y : Int) : (x ≤ y ∧ mn x y = x) ∨ (y ≤ x ∧ mn x y = y) := by
  unfold mn
  split <;> omega
theorem run_mx (ts : Array TypeId) (t : TypeId) (k k' : IntKind) (x y : Int) (P : Program) (w : World) : (Builtin.max_ ts t #[.int k x, .int k' y]).run P w = .ok (.int k (mx x y)) w := run_max_int2 w ts t k k' x y
theorem run_mn (ts : Array TypeId) (t : TypeId) (k k' : IntKind) (x y : Int) (P : Program) (w : World) : (Builtin.min_ ts t #[.int k x, .int k' y]).run P w = .ok (.int k (mn x y)) w := run_min_int2 w ts t k k' x y
attribute [irreducible] mx mn
attribute [local go_sem ↓] run_mx run_mn

/-- two boxes have a common part -/
def meB (a b c d a' b' c' d' : Int) : Bool := bxB a b c d && bxB a' b' c' d' && bxB (mx a a') (mx b b') (mn c c') (mn d d')
theorem has_cl {lx ly hx hy x y : Int} (_ : lx ≤ hx) (_ : ly ≤ hy) : ((cl x lx hx == x) && (cl y ly hy == y)) = hasB lx ly hx hy x y := by
  rw [Bool.eq_iff_iff]
  simp only [hasB, inB, Bool.and_eq_true, beq_iff_eq, decide_eq_true_eq]
  unfold cl
  split
  · omega
  · split
    · split
      · omega
      · split <;> omega
    · split
      · omega
      · split <;> omega
end Go.Proofs.Ytbcnjgpmeipjnaa

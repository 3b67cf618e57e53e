/- Contracts on boxes, of the program and of the reference: the common box, whether a point lies in a box. -/
import Derived.Test.YtgiadgbfeldheaaX
import Derived.Test.YtgiadgbfeldheaaBq
namespace Go.Proofs.Ytgiadgbfeldheaa
open Go.RowKit
attribute [local go_sem] BelW.cell_eq nl1 nl2 nl3 nl4 nl5 nl6 nl7 nl8 nl9 nl10 nl11
attribute [local go_sem ↓] run_eqlVec run_neqVec vq_self bq_self

/-- the larger and the smaller of two numbers -/
def mx (x y : Int) : Int := if y > x then y else x
def mn (x y : Int) : Int := if y < x then y else x
theorem mx_eq (x y : Int) : (x ≤ y ∧ mx x y = y) ∨ (y ≤ x ∧ mx x y = x) := by
  unfold mx
  split <;> omega
theorem mn_eq (x y : Int) : (x ≤ y ∧ mn x y = x) ∨ (y ≤ x ∧ mn x y = y) := by
  unfold mn
  split <;> omega
theorem run_mx (ts : Array TypeId) (t : TypeId) (k k' : IntKind) (x y : Int) (P : Program) (w : World) : (Builtin.max_ ts t #[.int k x, .int k' y]).run P w = .ok (.int k (mx x y)) w := run_max_int2 w ts t k k' x y
theorem run_mn (ts : Array TypeId) (t : TypeId) (k k' : IntKind) (x y : Int) (P : Program) (w : World) : (Builtin.min_ ts t #[.int k x, .int k' y]).run P w = .ok (.int k (mn x y)) w := run_min_int2 w ts t k k' x y
attribute [irreducible] mx mn
attribute [local go_sem ↓] run_mx run_mn

/-- two boxes have a common part -/
def meB (a b c d a' b' c' d' : Int) : Bool := bxB a b c d && bxB a' b' c' d' && bxB (mx a a') (mx b b') (mn c c') (mn d d')
theorem has_cl {lx ly hx hy x y : Int} (_ : lx ≤ hx) (_ : ly ≤ hy) : ((cl x lx hx == x) && (cl y ly hy == y)) = hasB lx ly hx hy x y := by
  rw [Bool.eq_iff_iff]
  simp only [hasB, inB, Bool.and_eq_true, beq_iff_eq, decide_eq_true_eq]
  unfold cl
  split
  · omega
  · split
    · split
      · omega
      · split <;> omega
    · split
      · omega
      · split <;> omega
set_option maxHeartbeats 1000000 in
theorem iHas (lx ly hx hy x y : Int) (w : World) (h1 : lx ≤ hx) (h2 : ly ≤ hy) : Calls Try.prog 63 #[.agg #[.int .i64 lx, .int .i64 ly, .int .i64 hx, .int .i64 hy], .agg #[.int .i64 x, .int .i64 y]] w fun e w' => e = .returned (.bool (hasB lx ly hx hy x y)) ∧ Below w.heap.size w w' := by
  have hh := Lib.hid (has_cl (x := x) (y := y) h1 h2)
  go_enter Try.func63, Try.ntmps63
  go_wp2_with fail
  refine region_bel (by kernel_rfl) (by kernel_rfl) ?_; (repeat (first | go_big_quiet_step ((go_at_call 74; exact calls_bel (iNearest _ _ _ _ _ _ _ h1 h2))) | quiet_step ((go_at_call 74; exact calls_bel (iNearest _ _ _ _ _ _ _ h1 h2))))); refine wpQuiet_nil ?_; intro w1 hwq; obtain ⟨⟨wq, hb1⟩, hwq⟩ := hwq; dsimp only at hwq; subst hwq; obtain ⟨hc1, hf1⟩ := bcell hb1; have hz1 : w.heap.size < w1.heap.size := (by have := hb1.size; first | omega | (simp at this; omega)); have hy1 : w.heap.size < w1.heap.size + 1 := Nat.lt_succ_of_lt hz1; have hB1 : Below w.heap.size w w1 := bstep (by (repeat (first | with_reducible assumption | with_reducible exact Below.refl _ _ | ((with_reducible refine Below.alloc ?_ ?_ _); rotate_left; · exact (by first | omega | (simp; done) | (simp; omega))) | ((with_reducible refine Below.setCell ?_ ?_ _); rotate_left; · exact (by first | omega | (simp; done) | (simp; omega))) | with_reducible refine Below.drew ?_ | assumption | exact Below.refl _ _ | refine Below.alloc ?_ (by first | omega | (simp; done) | (simp; omega)) _ | refine Below.setCell ?_ (by first | omega | (simp; done) | (simp; omega)) _ | refine Below.drew ?_))) (by first | omega | (simp; done) | (simp; omega)) hb1
  go_wp2
  go_ret
  exact ⟨ret_bool (by rw [← hh.out, vq_def]), hB1⟩
set_option maxHeartbeats 1000000 in
theorem sHas (lx ly hx hy x y : Int) (w : World) : Calls Try.prog 61 #[.agg #[.int .i64 lx, .int .i64 ly, .int .i64 hx, .int .i64 hy], .agg #[.int .i64 x, .int .i64 y]] w fun e w' => e = .returned (.bool (hasB lx ly hx hy x y)) ∧ Below w.heap.size w w' := by
  go_enter Try.func61, Try.ntmps61
  go_wp2_with (go_at_call 37; refine (sIn _ _ _ _).mono ?_; rintro e w' ⟨rfl, rfl⟩)
  all_goals go_ret
  all_goals exact ⟨ret_bool (by simp_all [hasB]), by (repeat (first | with_reducible assumption | with_reducible exact Below.refl _ _ | ((with_reducible refine Below.alloc ?_ ?_ _); rotate_left; · exact (by first | omega | (simp; done) | (simp; omega))) | ((with_reducible refine Below.setCell ?_ ?_ _); rotate_left; · exact (by first | omega | (simp; done) | (simp; omega))) | with_reducible refine Below.drew ?_ | assumption | exact Below.refl _ _ | refine Below.alloc ?_ (by first | omega | (simp; done) | (simp; omega)) _ | refine Below.setCell ?_ (by first | omega | (simp; done) | (simp; omega)) _ | refine Below.drew ?_))⟩
end Go.Proofs.Ytgiadgbfeldheaa

/- Contracts on vectors and boxes, of the program and of the reference. -/
import Derived.Test.YtnhjalijnociaaaQaa
/- Contracts on vectors and boxes, of the program and of the reference. -/
namespace Go.Proofs.Ytnhjalijnociaaa
open Go.RowKit

/-- both coordinates are in range -/
def vokB (x y : Int) : Bool := inB x (-1000000) 1000000 && inB y (-1000000) 1000000
/-- a box is valid -/
def bxB (lx ly hx hy : Int) : Bool := vokB lx ly && vokB hx hy && decide (lx ≤ hx) && decide (ly ≤ hy)
/-- the nearest number of a range -/
def cl (v lo hi : Int) : Int := if v < lo then lo else if hi < v then hi else v
theorem cl_bd {v lo hi : Int} (h : lo ≤ hi) : lo ≤ cl v lo hi ∧ cl v lo hi ≤ hi := by
  unfold cl
  split
  · omega
  · split <;> omega
theorem cl_eq {v lo hi : Int} (h : lo ≤ hi) : min (max v lo) hi = cl v lo hi := by
  unfold cl
  split
  · omega
  · split <;> omega
theorem cl_eq2 {v lo hi : Int} (h : lo ≤ hi) : max lo (min v hi) = cl v lo hi := by
  unfold cl
  split
  · omega
  · split <;> omega

theorem ret_agg2 {a b a' b' : Int} (h1 : a = a') (h2 : b = b') : Ending.returned (.agg #[.int .i64 a, .int .i64 b]) = .returned (.agg #[.int .i64 a', .int .i64 b']) := by rw [h1, h2]

theorem sq_nn (x : Int) : 0 ≤ x * x := by
  rcases Int.le_total 0 x with h | h
  · exact Int.mul_nonneg h h
  · exact Int.mul_nonneg_of_nonpos_of_nonpos h h
set_option maxHeartbeats 400000 in
theorem sVecOk (x y : Int) (w : World) : Calls Try.prog 93 #[.agg #[.int .i64 x, .int .i64 y]] w fun e w' => e = .returned (.bool (vokB x y)) ∧ Below w.heap.size w w' := by
  go_enter Try.func93, Try.ntmps93
  go_wp2_with (go_at_call 79; refine (sIn _ _ _ _).mono ?_; rintro e w' ⟨rfl, rfl⟩)
  all_goals (go_ret; exact ⟨ret_bool (by simp_all [vokB]), by (repeat (first | with_reducible assumption | with_reducible exact Below.refl _ _ | ((with_reducible refine Below.alloc ?_ ?_ _); rotate_left; · exact (by first | omega | (simp; done) | (simp; omega))) | ((with_reducible refine Below.setCell ?_ ?_ _); rotate_left; · exact (by first | omega | (simp; done) | (simp; omega))) | with_reducible refine Below.drew ?_ | assumption | exact Below.refl _ _ | refine Below.alloc ?_ (by first | omega | (simp; done) | (simp; omega)) _ | refine Below.setCell ?_ (by first | omega | (simp; done) | (simp; omega)) _ | refine Below.drew ?_))⟩)
set_option maxHeartbeats 400000 in
theorem iCoord (n : Int) (w : World) : Calls Try.prog 108 #[.int .i64 n] w fun e w' => e = .returned (.bool (inB n (-1000000) 1000000)) ∧ w = w' := by
  go_enter Try.func108, Try.ntmps108
  go_wp2_with (go_at_call 102; refine (iIn _ _ _ _).mono ?_; rintro e w' ⟨rfl, rfl⟩)
  go_ret
  exact ⟨rfl, rfl⟩
set_option maxHeartbeats 400000 in
theorem iVecOk (x y : Int) (w : World) : Calls Try.prog 65 #[.agg #[.int .i64 x, .int .i64 y]] w fun e w' => e = .returned (.bool (vokB x y)) ∧ Below w.heap.size w w' := by
  go_enter Try.func65, Try.ntmps65
  go_wp2_with (go_at_call 108; refine (iCoord _ _).mono ?_; rintro e w' ⟨rfl, rfl⟩)
  all_goals (go_ret; exact ⟨ret_bool (by simp_all [vokB]), by (repeat (first | with_reducible assumption | with_reducible exact Below.refl _ _ | ((with_reducible refine Below.alloc ?_ ?_ _); rotate_left; · exact (by first | omega | (simp; done) | (simp; omega))) | ((with_reducible refine Below.setCell ?_ ?_ _); rotate_left; · exact (by first | omega | (simp; done) | (simp; omega))) | with_reducible refine Below.drew ?_ | assumption | exact Below.refl _ _ | refine Below.alloc ?_ (by first | omega | (simp; done) | (simp; omega)) _ | refine Below.setCell ?_ (by first | omega | (simp; done) | (simp; omega)) _ | refine Below.drew ?_))⟩)
set_option maxHeartbeats 1000000 in
theorem sBoxValid (lx ly hx hy : Int) (w : World) : Calls Try.prog 95 #[.agg #[.int .i64 lx, .int .i64 ly, .int .i64 hx, .int .i64 hy]] w fun e w' => e = .returned (.bool (bxB lx ly hx hy)) ∧ Below w.heap.size w w' := by
  go_enter Try.func95, Try.ntmps95
  go_wp2_with fail; refine (sVecOk _ _ _).mono ?_; rintro e w1 ⟨rfl, hb1⟩; obtain ⟨hc1, hf1⟩ := bcell hb1; have hz1 : w.heap.size < w1.heap.size := (by have := hb1.size; first | omega | (simp at this; omega)); have hy1 : w.heap.size < w1.heap.size + 1 := Nat.lt_succ_of_lt hz1; have hB1 : Below w.heap.size w w1 := bstep (by (repeat (first | with_reducible assumption | with_reducible exact Below.refl _ _ | ((with_reducible refine Below.alloc ?_ ?_ _); rotate_left; · exact (by first | omega | (simp; done) | (simp; omega))) | ((with_reducible refine Below.setCell ?_ ?_ _); rotate_left; · exact (by first | omega | (simp; done) | (simp; omega))) | with_reducible refine Below.drew ?_ | assumption | exact Below.refl _ _ | refine Below.alloc ?_ (by first | omega | (simp; done) | (simp; omega)) _ | refine Below.setCell ?_ (by first | omega | (simp; done) | (simp; omega)) _ | refine Below.drew ?_))) (by first | omega | (simp; done) | (simp; omega)) hb1
  by_cases h1 : vokB lx ly = true
  · go_wp2_with fail; refine (sVecOk _ _ _).mono ?_; rintro e w2 ⟨rfl, hb2⟩; obtain ⟨hc2, hf2⟩ := bcell hb2; have hz2 : w.heap.size < w2.heap.size := (by have := hb2.size; first | omega | (simp at this; omega)); have hy2 : w.heap.size < w2.heap.size + 1 := Nat.lt_succ_of_lt hz2; have hB2 : Below w.heap.size w w2 := bstep (by (repeat (first | with_reducible assumption | with_reducible exact Below.refl _ _ | ((with_reducible refine Below.alloc ?_ ?_ _); rotate_left; · exact (by first | omega | (simp; done) | (simp; omega))) | ((with_reducible refine Below.setCell ?_ ?_ _); rotate_left; · exact (by first | omega | (simp; done) | (simp; omega))) | with_reducible refine Below.drew ?_ | assumption | exact Below.refl _ _ | refine Below.alloc ?_ (by first | omega | (simp; done) | (simp; omega)) _ | refine Below.setCell ?_ (by first | omega | (simp; done) | (simp; omega)) _ | refine Below.drew ?_))) (by first | omega | (simp; done) | (simp; omega)) hb2
    go_wp2
    all_goals (go_ret; exact ⟨ret_bool (by rw [Bool.eq_iff_iff]; simp_all [bxB] <;> omega), by (repeat (first | with_reducible assumption | with_reducible exact Below.refl _ _ | ((with_reducible refine Below.alloc ?_ ?_ _); rotate_left; · exact (by first | omega | (simp; done) | (simp; omega))) | ((with_reducible refine Below.setCell ?_ ?_ _); rotate_left; · exact (by first | omega | (simp; done) | (simp; omega))) | with_reducible refine Below.drew ?_ | assumption | exact Below.refl _ _ | refine Below.alloc ?_ (by first | omega | (simp; done) | (simp; omega)) _ | refine Below.setCell ?_ (by first | omega | (simp; done) | (simp; omega)) _ | refine Below.drew ?_))⟩)
  · have h1 : vokB lx ly = false := by simpa using h1
    go_wp2
    go_ret
    exact ⟨ret_bool (by simp [bxB, h1]), by (repeat (first | with_reducible assumption | with_reducible exact Below.refl _ _ | ((with_reducible refine Below.alloc ?_ ?_ _); rotate_left; · exact (by first | omega | (simp; done) | (simp; omega))) | ((with_reducible refine Below.setCell ?_ ?_ _); rotate_left; · exact (by first | omega | (simp; done) | (simp; omega))) | with_reducible refine Below.drew ?_ | assumption | exact Below.refl _ _ | refine Below.alloc ?_ (by first | omega | (simp; done) | (simp; omega)) _ | refine Below.setCell ?_ (by first | omega | (simp; done) | (simp; omega)) _ | refine Below.drew ?_))⟩
set_option maxHeartbeats 400000 in
theorem iAxes (lx ly hx hy : Int) (w : World) : Calls Try.prog 107 #[.agg #[.int .i64 lx, .int .i64 ly, .int .i64 hx, .int .i64 hy]] w fun e w' => e = .returned (.agg #[.int .i64 lx, .int .i64 hx, .int .i64 ly, .int .i64 hy]) ∧ Below w.heap.size w w' := by
  go_enter Try.func107, Try.ntmps107
  go_wp2
  go_returns
  exact ⟨rfl, by (repeat (first | with_reducible assumption | with_reducible exact Below.refl _ _ | ((with_reducible refine Below.alloc ?_ ?_ _); rotate_left; · exact (by first | omega | (simp; done) | (simp; omega))) | ((with_reducible refine Below.setCell ?_ ?_ _); rotate_left; · exact (by first | omega | (simp; done) | (simp; omega))) | with_reducible refine Below.drew ?_ | assumption | exact Below.refl _ _ | refine Below.alloc ?_ (by first | omega | (simp; done) | (simp; omega)) _ | refine Below.setCell ?_ (by first | omega | (simp; done) | (simp; omega)) _ | refine Below.drew ?_))⟩
set_option maxHeartbeats 1000000 in
theorem iBoxValid (lx ly hx hy : Int) (w : World) : Calls Try.prog 64 #[.agg #[.int .i64 lx, .int .i64 ly, .int .i64 hx, .int .i64 hy]] w fun e w' => e = .returned (.bool (bxB lx ly hx hy)) ∧ Below w.heap.size w w' := by
  go_enter Try.func64, Try.ntmps64
  go_wp2_with fail; refine (iAxes _ _ _ _ _).mono ?_; rintro e w1 ⟨rfl, hb1⟩; obtain ⟨hc1, hf1⟩ := bcell hb1; have hz1 : w.heap.size < w1.heap.size := (by have := hb1.size; first | omega | (simp at this; omega)); have hy1 : w.heap.size < w1.heap.size + 1 := Nat.lt_succ_of_lt hz1; have hB1 : Below w.heap.size w w1 := bstep (by (repeat (first | with_reducible assumption | with_reducible exact Below.refl _ _ | ((with_reducible refine Below.alloc ?_ ?_ _); rotate_left; · exact (by first | omega | (simp; done) | (simp; omega))) | ((with_reducible refine Below.setCell ?_ ?_ _); rotate_left; · exact (by first | omega | (simp; done) | (simp; omega))) | with_reducible refine Below.drew ?_ | assumption | exact Below.refl _ _ | refine Below.alloc ?_ (by first | omega | (simp; done) | (simp; omega)) _ | refine Below.setCell ?_ (by first | omega | (simp; done) | (simp; omega)) _ | refine Below.drew ?_))) (by first | omega | (simp; done) | (simp; omega)) hb1
  go_wp2_with fail
  have i0 : ∀ w, (Instr.index 124 (.agg #[.int .i64 lx, .int .i64 hx, .int .i64 ly, .int .i64 hy]) (.int .i64 0)).run Try.prog w = .ok (.agg #[.int .i64 lx, .int .i64 hx]) w := fun _ => by kernel_rfl
  have i1 : ∀ w, (Instr.index 124 (.agg #[.int .i64 lx, .int .i64 hx, .int .i64 ly, .int .i64 hy]) (.int .i64 1)).run Try.prog w = .ok (.agg #[.int .i64 ly, .int .i64 hy]) w := fun _ => by kernel_rfl
  refine wp_loop_rounds 3 ?_
  rw [rounds_succ]
  go_wp2_with fail
  · have hxl : hx < lx := by assumption
    go_ret
    exact ⟨ret_bool (by rw [Bool.eq_iff_iff]; simp [bxB]; omega), by (repeat (first | with_reducible assumption | with_reducible exact Below.refl _ _ | ((with_reducible refine Below.alloc ?_ ?_ _); rotate_left; · exact (by first | omega | (simp; done) | (simp; omega))) | ((with_reducible refine Below.setCell ?_ ?_ _); rotate_left; · exact (by first | omega | (simp; done) | (simp; omega))) | with_reducible refine Below.drew ?_ | assumption | exact Below.refl _ _ | refine Below.alloc ?_ (by first | omega | (simp; done) | (simp; omega)) _ | refine Below.setCell ?_ (by first | omega | (simp; done) | (simp; omega)) _ | refine Below.drew ?_))⟩
  · rw [rounds_succ]
    go_wp2_with fail
    · have hyl : hy < ly := by assumption
      go_ret
      exact ⟨ret_bool (by rw [Bool.eq_iff_iff]; simp [bxB]; omega), by (repeat (first | with_reducible assumption | with_reducible exact Below.refl _ _ | ((with_reducible refine Below.alloc ?_ ?_ _); rotate_left; · exact (by first | omega | (simp; done) | (simp; omega))) | ((with_reducible refine Below.setCell ?_ ?_ _); rotate_left; · exact (by first | omega | (simp; done) | (simp; omega))) | with_reducible refine Below.drew ?_ | assumption | exact Below.refl _ _ | refine Below.alloc ?_ (by first | omega | (simp; done) | (simp; omega)) _ | refine Below.setCell ?_ (by first | omega | (simp; done) | (simp; omega)) _ | refine Below.drew ?_))⟩
    · have hxl : lx ≤ hx := by assumption
      have hyl : ly ≤ hy := by assumption
      rw [rounds_succ]
      go_wp2_with fail
      refine (iVecOk _ _ _).mono ?_
      rintro e w2 ⟨rfl, hb2⟩; obtain ⟨hc2, hf2⟩ := bcell hb2; have hz2 : w.heap.size < w2.heap.size := (by have := hb2.size; first | omega | (simp at this; omega)); have hy2 : w.heap.size < w2.heap.size + 1 := Nat.lt_succ_of_lt hz2; have hB2 : Below w.heap.size w w2 := bstep (by (repeat (first | with_reducible assumption | with_reducible exact Below.refl _ _ | ((with_reducible refine Below.alloc ?_ ?_ _); rotate_left; · exact (by first | omega | (simp; done) | (simp; omega))) | ((with_reducible refine Below.setCell ?_ ?_ _); rotate_left; · exact (by first | omega | (simp; done) | (simp; omega))) | with_reducible refine Below.drew ?_ | assumption | exact Below.refl _ _ | refine Below.alloc ?_ (by first | omega | (simp; done) | (simp; omega)) _ | refine Below.setCell ?_ (by first | omega | (simp; done) | (simp; omega)) _ | refine Below.drew ?_))) (by first | omega | (simp; done) | (simp; omega)) hb2
      go_wp2_with fail
      · refine (iVecOk _ _ _).mono ?_
        rintro e w3 ⟨rfl, hb3⟩; obtain ⟨hc3, hf3⟩ := bcell hb3; have hz3 : w.heap.size < w3.heap.size := (by have := hb3.size; first | omega | (simp at this; omega)); have hy3 : w.heap.size < w3.heap.size + 1 := Nat.lt_succ_of_lt hz3; have hB3 : Below w.heap.size w w3 := bstep (by (repeat (first | with_reducible assumption | with_reducible exact Below.refl _ _ | ((with_reducible refine Below.alloc ?_ ?_ _); rotate_left; · exact (by first | omega | (simp; done) | (simp; omega))) | ((with_reducible refine Below.setCell ?_ ?_ _); rotate_left; · exact (by first | omega | (simp; done) | (simp; omega))) | with_reducible refine Below.drew ?_ | assumption | exact Below.refl _ _ | refine Below.alloc ?_ (by first | omega | (simp; done) | (simp; omega)) _ | refine Below.setCell ?_ (by first | omega | (simp; done) | (simp; omega)) _ | refine Below.drew ?_))) (by first | omega | (simp; done) | (simp; omega)) hb3
        go_wp2
        go_ret
        exact ⟨ret_bool (by rw [Bool.eq_iff_iff]; simp_all [bxB]), by (repeat (first | with_reducible assumption | with_reducible exact Below.refl _ _ | ((with_reducible refine Below.alloc ?_ ?_ _); rotate_left; · exact (by first | omega | (simp; done) | (simp; omega))) | ((with_reducible refine Below.setCell ?_ ?_ _); rotate_left; · exact (by first | omega | (simp; done) | (simp; omega))) | with_reducible refine Below.drew ?_ | assumption | exact Below.refl _ _ | refine Below.alloc ?_ (by first | omega | (simp; done) | (simp; omega)) _ | refine Below.setCell ?_ (by first | omega | (simp; done) | (simp; omega)) _ | refine Below.drew ?_))⟩
      · go_ret
        exact ⟨ret_bool (by rw [Bool.eq_iff_iff]; simp_all [bxB]), by (repeat (first | with_reducible assumption | with_reducible exact Below.refl _ _ | ((with_reducible refine Below.alloc ?_ ?_ _); rotate_left; · exact (by first | omega | (simp; done) | (simp; omega))) | ((with_reducible refine Below.setCell ?_ ?_ _); rotate_left; · exact (by first | omega | (simp; done) | (simp; omega))) | with_reducible refine Below.drew ?_ | assumption | exact Below.refl _ _ | refine Below.alloc ?_ (by first | omega | (simp; done) | (simp; omega)) _ | refine Below.setCell ?_ (by first | omega | (simp; done) | (simp; omega)) _ | refine Below.drew ?_))⟩
set_option maxHeartbeats 1000000 in
theorem iNearest (lx ly hx hy x y : Int) (w : World) (h1 : lx ≤ hx) (h2 : ly ≤ hy) : Calls Try.prog 109 #[.agg #[.int .i64 lx, .int .i64 ly, .int .i64 hx, .int .i64 hy], .agg #[.int .i64 x, .int .i64 y]] w fun e w' => e = .returned (.agg #[.int .i64 (cl x lx hx), .int .i64 (cl y ly hy)]) ∧ Below w.heap.size w w' := by
  go_enter Try.func109, Try.ntmps109
  go_wp2_with fail; refine (iAxes _ _ _ _ _).mono ?_; rintro e w1 ⟨rfl, hb1⟩; obtain ⟨hc1, hf1⟩ := bcell hb1; have hz1 : w.heap.size < w1.heap.size := (by have := hb1.size; first | omega | (simp at this; omega)); have hy1 : w.heap.size < w1.heap.size + 1 := Nat.lt_succ_of_lt hz1; have hB1 : Below w.heap.size w w1 := bstep (by (repeat (first | with_reducible assumption | with_reducible exact Below.refl _ _ | ((with_reducible refine Below.alloc ?_ ?_ _); rotate_left; · exact (by first | omega | (simp; done) | (simp; omega))) | ((with_reducible refine Below.setCell ?_ ?_ _); rotate_left; · exact (by first | omega | (simp; done) | (simp; omega))) | with_reducible refine Below.drew ?_ | assumption | exact Below.refl _ _ | refine Below.alloc ?_ (by first | omega | (simp; done) | (simp; omega)) _ | refine Below.setCell ?_ (by first | omega | (simp; done) | (simp; omega)) _ | refine Below.drew ?_))) (by first | omega | (simp; done) | (simp; omega)) hb1
  have hz1b : w.heap.size + 1 < w1.heap.size := (by have := hb1.size; first | omega | (simp at this; omega))
  have hz1c : w.heap.size + 2 < w1.heap.size := (by have := hb1.size; first | omega | (simp at this; omega))
  have hne1 : w1.heap.size ≠ w.heap.size + 1 := by omega
  have hne2 : w1.heap.size ≠ w.heap.size + 2 := by omega
  go_wp2
  all_goals refine bodyPost_ret (by simp [results, Try.results109, go_sem, *]; try rfl) rfl ?_
  all_goals exact ⟨ret_agg2 (by unfold cl; split <;> first | omega | (split <;> omega)) (by unfold cl; split <;> first | omega | (split <;> omega)), by (repeat (first | with_reducible assumption | with_reducible exact Below.refl _ _ | ((with_reducible refine Below.alloc ?_ ?_ _); rotate_left; · exact (by first | omega | (simp; done) | (simp; omega))) | ((with_reducible refine Below.setCell ?_ ?_ _); rotate_left; · exact (by first | omega | (simp; done) | (simp; omega))) | with_reducible refine Below.drew ?_ | assumption | exact Below.refl _ _ | refine Below.alloc ?_ (by first | omega | (simp; done) | (simp; omega)) _ | refine Below.setCell ?_ (by first | omega | (simp; done) | (simp; omega)) _ | refine Below.drew ?_))⟩
set_option maxHeartbeats 1000000 in
theorem sNearest (lx ly hx hy x y : Int) (w : World) (h1 : lx ≤ hx) (h2 : ly ≤ hy) : Calls Try.prog 131 #[.agg #[.int .i64 lx, .int .i64 ly, .int .i64 hx, .int .i64 hy], .agg #[.int .i64 x, .int .i64 y]] w fun e w' => e = .returned (.agg #[.int .i64 (cl x lx hx), .int .i64 (cl y ly hy)]) ∧ Below w.heap.size w w' := by
  go_enter Try.func131, Try.ntmps131
  go_wp2
  all_goals go_returns
  all_goals exact ⟨ret_agg2 (by unfold cl; split <;> first | omega | (split <;> omega)) (by unfold cl; split <;> first | omega | (split <;> omega)), by (repeat (first | with_reducible assumption | with_reducible exact Below.refl _ _ | ((with_reducible refine Below.alloc ?_ ?_ _); rotate_left; · exact (by first | omega | (simp; done) | (simp; omega))) | ((with_reducible refine Below.setCell ?_ ?_ _); rotate_left; · exact (by first | omega | (simp; done) | (simp; omega))) | with_reducible refine Below.drew ?_ | assumption | exact Below.refl _ _ | refine Below.alloc ?_ (by first | omega | (simp; done) | (simp; omega)) _ | refine Below.setCell ?_ (by first | omega | (simp; done) | (simp; omega)) _ | refine Below.drew ?_))⟩
set_option maxHeartbeats 1000000 in
theorem iSquare (x y : Int) (w : World) (h1 : x * x ≤ 100000000000000) (h2 : y * y ≤ 100000000000000) : Calls Try.prog 87 #[.agg #[.int .i64 x, .int .i64 y]] w fun e w' => e = .returned (.int .i64 (x * x + y * y)) ∧ Below w.heap.size w w' := by
  have g1 : 0 ≤ x * x := sq_nn x
  have g2 : 0 ≤ y * y := sq_nn y
  go_enter Try.func87, Try.ntmps87
  go_wp2
  go_ret
  exact ⟨rfl, by (repeat (first | with_reducible assumption | with_reducible exact Below.refl _ _ | ((with_reducible refine Below.alloc ?_ ?_ _); rotate_left; · exact (by first | omega | (simp; done) | (simp; omega))) | ((with_reducible refine Below.setCell ?_ ?_ _); rotate_left; · exact (by first | omega | (simp; done) | (simp; omega))) | with_reducible refine Below.drew ?_ | assumption | exact Below.refl _ _ | refine Below.alloc ?_ (by first | omega | (simp; done) | (simp; omega)) _ | refine Below.setCell ?_ (by first | omega | (simp; done) | (simp; omega)) _ | refine Below.drew ?_))⟩
end Go.Proofs.Ytnhjalijnociaaa

/- Contracts on vectors and boxes, of the program and of the reference: touching, meeting, having. -/
namespace Go.Proofs.Ytnhjalijnociaaa
open Go.RowKit

theorem sq_bd {d : Int} (h1 : -4000000 ≤ d) (h2 : d ≤ 4000000) : d * d ≤ 16000000000000 := by
  have h : 0 ≤ (4000000 - d) * (4000000 + d) := Int.mul_nonneg (by omega) (by omega)
  rw [Int.sub_mul, Int.mul_add, Int.mul_add] at h
  omega
/-- the square of the way to the nearest point -/
def farB (lx ly hx hy x y : Int) : Int := (x - cl x lx hx) * (x - cl x lx hx) + (y - cl y ly hy) * (y - cl y ly hy)
/-- a circle touches a box -/
def tcB (lx ly hx hy x y r : Int) : Bool := decide (farB lx ly hx hy x y ≤ r * r)
theorem bxB_ok {lx ly hx hy : Int} (h : bxB lx ly hx hy = true) : (-1000000 ≤ lx ∧ lx ≤ 1000000) ∧ (-1000000 ≤ ly ∧ ly ≤ 1000000) ∧ (-1000000 ≤ hx ∧ hx ≤ 1000000) ∧ (-1000000 ≤ hy ∧ hy ≤ 1000000) ∧ lx ≤ hx ∧ ly ≤ hy := by
  simp [bxB, vokB, inB] at h
  omega
theorem vokB_ok {x y : Int} (h : vokB x y = true) : (-1000000 ≤ x ∧ x ≤ 1000000) ∧ (-1000000 ≤ y ∧ y ≤ 1000000) := by
  simp [vokB, inB] at h
  omega
theorem cl_in {v lo hi : Int} (h1 : lo ≤ hi) (h2 : -1000000 ≤ lo) (h3 : hi ≤ 1000000) (h4 : -3000000 ≤ v) (h5 : v ≤ 3000000) : -4000000 ≤ v - cl v lo hi ∧ v - cl v lo hi ≤ 4000000 := by
  have := cl_bd (v := v) h1
  omega

set_option maxHeartbeats 1000000 in
theorem iTouches (lx ly hx hy x y r : Int) (w : World) (hb : bxB lx ly hx hy = true) (hx1 : -3000000 ≤ x) (hx2 : x ≤ 3000000) (hy1 : -3000000 ≤ y) (hy2 : y ≤ 3000000) (hr1 : 0 ≤ r) (hr2 : r ≤ 1000000) : Calls Try.prog 114 #[.agg #[.int .i64 lx, .int .i64 ly, .int .i64 hx, .int .i64 hy], .agg #[.int .i64 x, .int .i64 y], .int .i64 r] w fun e w' => e = .returned (.bool (tcB lx ly hx hy x y r)) ∧ Below w.heap.size w w' := by
  obtain ⟨⟨a1, a2⟩, ⟨b1, b2⟩, ⟨c1, c2⟩, ⟨d1, d2⟩, hlx, hly⟩ := bxB_ok hb
  have kx := cl_in (v := x) hlx a1 c2 hx1 hx2
  have ky := cl_in (v := y) hly b1 d2 hy1 hy2
  have sx := sq_bd kx.1 kx.2
  have sy := sq_bd ky.1 ky.2
  have sx0 := sq_nn (x - cl x lx hx)
  have sy0 := sq_nn (y - cl y ly hy)
  have sr := sq_bd (d := r) (by omega) (by omega)
  have sr0 := sq_nn r
  go_enter Try.func114, Try.ntmps114
  go_wp2_with fail; refine (iNearest _ _ _ _ _ _ _ hlx hly).mono ?_; rintro e w1 ⟨rfl, hb1⟩; obtain ⟨hc1, hf1⟩ := bcell hb1; have hz1 : w.heap.size < w1.heap.size := (by have := hb1.size; first | omega | (simp at this; omega)); have hy1 : w.heap.size < w1.heap.size + 1 := Nat.lt_succ_of_lt hz1; have hB1 : Below w.heap.size w w1 := bstep (by (repeat (first | with_reducible assumption | with_reducible exact Below.refl _ _ | ((with_reducible refine Below.alloc ?_ ?_ _); rotate_left; · exact (by first | omega | (simp; done) | (simp; omega))) | ((with_reducible refine Below.setCell ?_ ?_ _); rotate_left; · exact (by first | omega | (simp; done) | (simp; omega))) | with_reducible refine Below.drew ?_ | assumption | exact Below.refl _ _ | refine Below.alloc ?_ (by first | omega | (simp; done) | (simp; omega)) _ | refine Below.setCell ?_ (by first | omega | (simp; done) | (simp; omega)) _ | refine Below.drew ?_))) (by first | omega | (simp; done) | (simp; omega)) hb1
  have hz1b : w.heap.size + 1 < w1.heap.size := (by have := hb1.size; first | omega | (simp at this; omega))
  have hne1 : w1.heap.size ≠ w.heap.size + 1 := by omega
  go_wp2_with fail; refine (iSquare _ _ _ (by omega) (by omega)).mono ?_; rintro e w2 ⟨rfl, hb2⟩; obtain ⟨hc2, hf2⟩ := bcell hb2; have hz2 : w.heap.size < w2.heap.size := (by have := hb2.size; first | omega | (simp at this; omega)); have hy2 : w.heap.size < w2.heap.size + 1 := Nat.lt_succ_of_lt hz2; have hB2 : Below w.heap.size w w2 := bstep (by (repeat (first | with_reducible assumption | with_reducible exact Below.refl _ _ | ((with_reducible refine Below.alloc ?_ ?_ _); rotate_left; · exact (by first | omega | (simp; done) | (simp; omega))) | ((with_reducible refine Below.setCell ?_ ?_ _); rotate_left; · exact (by first | omega | (simp; done) | (simp; omega))) | with_reducible refine Below.drew ?_ | assumption | exact Below.refl _ _ | refine Below.alloc ?_ (by first | omega | (simp; done) | (simp; omega)) _ | refine Below.setCell ?_ (by first | omega | (simp; done) | (simp; omega)) _ | refine Below.drew ?_))) (by first | omega | (simp; done) | (simp; omega)) hb2
  go_wp2
  go_ret
  exact ⟨ret_bool (by first | rfl | (simp [tcB, farB]; done) | (rw [Bool.eq_iff_iff]; simp [tcB, farB])), by (repeat (first | with_reducible assumption | with_reducible exact Below.refl _ _ | ((with_reducible refine Below.alloc ?_ ?_ _); rotate_left; · exact (by first | omega | (simp; done) | (simp; omega))) | ((with_reducible refine Below.setCell ?_ ?_ _); rotate_left; · exact (by first | omega | (simp; done) | (simp; omega))) | with_reducible refine Below.drew ?_ | assumption | exact Below.refl _ _ | refine Below.alloc ?_ (by first | omega | (simp; done) | (simp; omega)) _ | refine Below.setCell ?_ (by first | omega | (simp; done) | (simp; omega)) _ | refine Below.drew ?_))⟩
set_option maxHeartbeats 1000000 in
theorem sTouches (lx ly hx hy x y r : Int) (w : World) (hb : bxB lx ly hx hy = true) (hx1 : -3000000 ≤ x) (hx2 : x ≤ 3000000) (hy1 : -3000000 ≤ y) (hy2 : y ≤ 3000000) (hr1 : 0 ≤ r) (hr2 : r ≤ 1000000) : Calls Try.prog 115 #[.agg #[.int .i64 lx, .int .i64 ly, .int .i64 hx, .int .i64 hy], .agg #[.int .i64 x, .int .i64 y], .int .i64 r] w fun e w' => e = .returned (.bool (tcB lx ly hx hy x y r)) ∧ Below w.heap.size w w' := by
  obtain ⟨⟨a1, a2⟩, ⟨b1, b2⟩, ⟨c1, c2⟩, ⟨d1, d2⟩, hlx, hly⟩ := bxB_ok hb
  have kx := cl_in (v := x) hlx a1 c2 hx1 hx2
  have ky := cl_in (v := y) hly b1 d2 hy1 hy2
  have sx := sq_bd kx.1 kx.2
  have sy := sq_bd ky.1 ky.2
  have sx0 := sq_nn (x - cl x lx hx)
  have sy0 := sq_nn (y - cl y ly hy)
  have sr := sq_bd (d := r) (by omega) (by omega)
  have sr0 := sq_nn r
  go_enter Try.func115, Try.ntmps115
  go_wp2_with fail; refine (sNearest _ _ _ _ _ _ _ hlx hly).mono ?_; rintro e w1 ⟨rfl, hb1⟩; obtain ⟨hc1, hf1⟩ := bcell hb1; have hz1 : w.heap.size < w1.heap.size := (by have := hb1.size; first | omega | (simp at this; omega)); have hy1 : w.heap.size < w1.heap.size + 1 := Nat.lt_succ_of_lt hz1; have hB1 : Below w.heap.size w w1 := bstep (by (repeat (first | with_reducible assumption | with_reducible exact Below.refl _ _ | ((with_reducible refine Below.alloc ?_ ?_ _); rotate_left; · exact (by first | omega | (simp; done) | (simp; omega))) | ((with_reducible refine Below.setCell ?_ ?_ _); rotate_left; · exact (by first | omega | (simp; done) | (simp; omega))) | with_reducible refine Below.drew ?_ | assumption | exact Below.refl _ _ | refine Below.alloc ?_ (by first | omega | (simp; done) | (simp; omega)) _ | refine Below.setCell ?_ (by first | omega | (simp; done) | (simp; omega)) _ | refine Below.drew ?_))) (by first | omega | (simp; done) | (simp; omega)) hb1
  have hz1b : w.heap.size + 1 < w1.heap.size := (by have := hb1.size; first | omega | (simp at this; omega))
  have hne1 : w1.heap.size ≠ w.heap.size + 1 := by omega
  go_wp2
  go_ret
  exact ⟨ret_bool (by first | rfl | (simp [tcB, farB]; done) | (rw [Bool.eq_iff_iff]; simp [tcB, farB])), by (repeat (first | with_reducible assumption | with_reducible exact Below.refl _ _ | ((with_reducible refine Below.alloc ?_ ?_ _); rotate_left; · exact (by first | omega | (simp; done) | (simp; omega))) | ((with_reducible refine Below.setCell ?_ ?_ _); rotate_left; · exact (by first | omega | (simp; done) | (simp; omega))) | with_reducible refine Below.drew ?_ | assumption | exact Below.refl _ _ | refine Below.alloc ?_ (by first | omega | (simp; done) | (simp; omega)) _ | refine Below.setCell ?_ (by first | omega | (simp; done) | (simp; omega)) _ | refine Below.drew ?_))⟩
end Go.Proofs.Ytnhjalijnociaaa

/- What structs that came in look like: vectors, boxes, levels; slices of boxes. -/
namespace Go.Proofs.Ytnhjalijnociaaa
open Go.ChangeShapes Go.WideShapes Go.ChangeAt Go.RowKit

/-- a box -/
structure Bx where
  lx : Int
  ly : Int
  hx : Int
  hy : Int
/-- .. whose numbers are ints -/
def Bx.wf (b : Bx) : Prop := (Lit.int .i64 b.lx).wf = true ∧ (Lit.int .i64 b.ly).wf = true ∧ (Lit.int .i64 b.hx).wf = true ∧ (Lit.int .i64 b.hy).wf = true
/-- .. its four cells at a place -/
def BoxCells (w : World) (b o : Nat) (x : Bx) : Prop :=
  w.cell? ⟨b, o, none⟩ = some (.int .i64 x.lx) ∧ w.cell? ⟨b, o + 1, none⟩ = some (.int .i64 x.ly) ∧ w.cell? ⟨b, o + 2, none⟩ = some (.int .i64 x.hx) ∧ w.cell? ⟨b, o + 3, none⟩ = some (.int .i64 x.hy)
/-- a slice of n boxes: f gives them -/
def BoxesAt (w : World) (a : Option Addr) (n : Nat) (f : Nat → Bx) : Prop :=
  n = 0 ∨ ∃ b off, a = some ⟨b, off, none⟩ ∧ b < w.heap.size ∧ ∀ i, i < n → BoxCells w b (off + i * 4) (f i)
theorem BoxCells.keep {w w' : World} {B b o : Nat} {x : Bx} (h : BoxCells w b o x) (hb : Below B w w') (hlt : b < B) : BoxCells w' b o x :=
  ⟨(hb.cell hlt).trans h.1, (hb.cell hlt).trans h.2.1, (hb.cell hlt).trans h.2.2.1, (hb.cell hlt).trans h.2.2.2⟩
theorem BoxesAt.keep {w w' : World} {a : Option Addr} {n : Nat} {f : Nat → Bx} (h : BoxesAt w a n f) (hb : Below w.heap.size w w') : BoxesAt w' a n f := by
  rcases h with h | ⟨b, off, ha, hlt, hc⟩
  · exact .inl h
  · exact .inr ⟨b, off, ha, Nat.lt_of_lt_of_le hlt hb.size, fun i hi => (hc i hi).keep hb hlt⟩

theorem list2 {cs : List Value} (h : cs.length = 2) : ∃ a b, cs = [a, b] := by
  match cs, h with
  | [a, b], _ => exact ⟨a, b, rfl⟩
theorem list4 {cs : List Value} (h : cs.length = 4) : ∃ a b c d, cs = [a, b, c, d] := by
  match cs, h with
  | [a, b, c, d], _ => exact ⟨a, b, c, d, rfl⟩
theorem array11 {α : Type} {cs : Array α} (h : cs.size = 11) : ∃ a b c d e f g h' i j k, cs = #[a, b, c, d, e, f, g, h', i, j, k] := by
  obtain ⟨l⟩ := cs
  match l, h with
  | [a, b, c, d, e, f, g, h', i, j, k], _ => exact ⟨a, b, c, d, e, f, g, h', i, j, k, rfl⟩

section
variable {H : Type} {enc : TypeId × Value → H} {w : World} {spare : Nat → Bool}
theorem kInt : Try.prog.cellsOf 3 = 1 := by kernel_rfl
theorem kVec : Try.prog.cellsOf 40 = 2 := by kernel_rfl
theorem rd_vec {fuel : Nat} {cs : List Value} {y : DataW H × List MemPlace} (h : DataW.trod enc Try.prog w 0 spare true fuel 40 cs = some y) :
    ∃ a b : Int, cs = [.int .i64 a, .int .i64 b] ∧ (Lit.int .i64 a).wf = true ∧ (Lit.int .i64 b).wf = true := by
  obtain ⟨xs, n, _, _, hl, hlen, hf⟩ := DataW.trod_struct Try.underlying40 h
  obtain ⟨c0, c1, rfl⟩ := list2 (hl.trans kVec)
  match xs, hlen with
  | [x0, x1], _ =>
    have h0 : DataW.trod enc Try.prog w 0 spare true n 3 [c0] = some x0 := by have := hf 0 _ rfl; simpa [kInt] using this
    have h1 : DataW.trod enc Try.prog w 0 spare true n 3 [c1] = some x1 := by have := hf 1 _ rfl; simpa [kInt] using this
    obtain ⟨a, e0, _, wa⟩ := DataW.trod_int Try.underlying3 h0
    obtain ⟨b, e1, _, wb⟩ := DataW.trod_int Try.underlying3 h1
    simp only [List.cons.injEq, and_true] at e0 e1
    subst e0 e1
    exact ⟨a, b, rfl, wa, wb⟩
theorem kBox : Try.prog.cellsOf 43 = 4 := by kernel_rfl
theorem rd_box {fuel : Nat} {cs : List Value} {y : DataW H × List MemPlace} (h : DataW.trod enc Try.prog w 0 spare true fuel 43 cs = some y) :
    ∃ b : Bx, cs = [.int .i64 b.lx, .int .i64 b.ly, .int .i64 b.hx, .int .i64 b.hy] ∧ b.wf := by
  obtain ⟨xs, n, _, _, hl, hlen, hf⟩ := DataW.trod_struct Try.underlying43 h
  obtain ⟨c0, c1, c2, c3, rfl⟩ := list4 (hl.trans kBox)
  match xs, hlen with
  | [x0, x1], _ =>
    have h0 : DataW.trod enc Try.prog w 0 spare true n 40 [c0, c1] = some x0 := by have := hf 0 _ rfl; simpa [kVec] using this
    have h1 : DataW.trod enc Try.prog w 0 spare true n 40 [c2, c3] = some x1 := by have := hf 1 _ rfl; simpa [kVec] using this
    obtain ⟨a, b, e0, wa, wb⟩ := rd_vec h0
    obtain ⟨c, d, e1, wc, wd⟩ := rd_vec h1
    simp only [List.cons.injEq, and_true] at e0 e1
    obtain ⟨e00, e01⟩ := e0
    obtain ⟨e10, e11⟩ := e1
    subst e00 e01 e10 e11
    exact ⟨⟨a, b, c, d⟩, rfl, wa, wb, wc, wd⟩
/-- a slice of boxes that came in -/
theorem rd_boxes {fuel : Nat} {a : Option Addr} {len cap : Nat} {y : DataW H × List MemPlace} (h : DataW.trod enc Try.prog w 0 spare true fuel 41 [.slice a len cap] = some y) :
    ∃ f : Nat → Bx, BoxesAt w a len f ∧ (∀ i, i < len → (f i).wf) ∧ len ≤ maxLen := by
  rcases DataW.trod_slice Try.underlying41 h with ⟨hcs, _⟩ | ⟨x, l, c, elems, rest, n, _, hcs, _, _, hl, hm, hlen, hel, _⟩
  · simp only [List.cons.injEq, Value.slice.injEq, and_true] at hcs
    obtain ⟨rfl, rfl, rfl⟩ := hcs
    exact ⟨fun _ => ⟨0, 0, 0, 0⟩, .inl rfl, fun i hi => absurd hi (Nat.not_lt_zero _), by simp [maxLen]⟩
  · simp only [List.cons.injEq, Value.slice.injEq, and_true] at hcs
    obtain ⟨rfl, rfl, rfl⟩ := hcs
    rw [kBox] at hel
    have each : ∀ i, i < len → ∃ b : Bx, b.wf ∧ w.cell? ((x.add (i * 4)).add 0) = some (.int .i64 b.lx) ∧ w.cell? ((x.add (i * 4)).add 1) = some (.int .i64 b.ly) ∧ w.cell? ((x.add (i * 4)).add 2) = some (.int .i64 b.hx) ∧ w.cell? ((x.add (i * 4)).add 3) = some (.int .i64 b.hy) := by
      intro i hi
      have hi' := hel i hi
      rw [List.getElem?_eq_getElem (by omega), Option.bind_eq_some_iff] at hi'
      obtain ⟨cs, hc, ht⟩ := hi'
      obtain ⟨b, rfl, hw⟩ := rd_box ht
      obtain ⟨_, _, hcell⟩ := World.cells?_some hc
      exact ⟨b, hw, by simpa using hcell 0 (by omega), by simpa using hcell 1 (by omega), by simpa using hcell 2 (by omega), by simpa using hcell 3 (by omega)⟩
    obtain ⟨f, hf⟩ : ∃ f : Nat → Bx, ∀ i, i < len → (f i).wf ∧ w.cell? ((x.add (i * 4)).add 0) = some (.int .i64 (f i).lx) ∧ w.cell? ((x.add (i * 4)).add 1) = some (.int .i64 (f i).ly) ∧ w.cell? ((x.add (i * 4)).add 2) = some (.int .i64 (f i).hx) ∧ w.cell? ((x.add (i * 4)).add 3) = some (.int .i64 (f i).hy) := by
      refine ⟨fun i => if h : i < len then Classical.choose (each i h) else ⟨0, 0, 0, 0⟩, fun i hi => ?_⟩
      simp only [hi, dite_true]
      exact Classical.choose_spec (each i hi)
    refine ⟨f, ?_, fun i hi => (hf i hi).1, by omega⟩
    rcases Nat.eq_zero_or_pos len with h0 | hp
    · exact .inl h0
    · obtain ⟨b, off, spot⟩ := x
      have hc0 := (hf 0 hp).2.1
      have hspot : spot = none := by simpa [Addr.add] using World.cell?_spot hc0
      subst hspot
      refine .inr ⟨b, off, rfl, ?_, fun i hi => ?_⟩
      · by_cases hlt : b < w.heap.size
        · exact hlt
        · exfalso
          have : w.heap[b]? = none := by simp; omega
          simp [World.cell?, Addr.add, this] at hc0
      · have h := (hf i hi).2
        simp only [addr_add, Nat.add_zero] at h
        exact h
end
end Go.Proofs.Ytnhjalijnociaaa

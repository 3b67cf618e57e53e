/- Contracts on vectors and boxes, of the program and of the reference: touching, meeting, having. -/
import Derived.Test.YtgiadgbfeldheaaV
namespace Go.Proofs.Ytgiadgbfeldheaa
open Go.RowKit

theorem sq_bd {d : Int} (h1 : -4000000 ≤ d) (h2 : d ≤ 4000000) : d * d ≤ 16000000000000 := by
  have h : 0 ≤ (4000000 - d) * (4000000 + d) := Int.mul_nonneg (by omega) (by omega)
  rw [Int.sub_mul, Int.mul_add, Int.mul_add] at h
  omega
/-- the square of the way to the nearest point -/
def farB (lx ly hx hy x y : Int) : Int := (x - cl x lx hx) * (x - cl x lx hx) + (y - cl y ly hy) * (y - cl y ly hy)
/-- a circle touches a box -/
def tcB (lx ly hx hy x y r : Int) : Bool := decide (farB lx ly hx hy x y ≤ r * r)
theorem bxB_ok {lx ly hx hy : Int} (h : bxB lx ly hx hy = true) : (-1000000 ≤ lx ∧ lx ≤ 1000000) ∧ (-1000000 ≤ ly ∧ ly ≤ 1000000) ∧ (-1000000 ≤ hx ∧ hx ≤ 1000000) ∧ (-1000000 ≤ hy ∧ hy ≤ 1000000) ∧ lx ≤ hx ∧ ly ≤ hy := by
  simp [bxB, vokB, inB] at h
  omega
theorem vokB_ok {x y : Int} (h : vokB x y = true) : (-1000000 ≤ x ∧ x ≤ 1000000) ∧ (-1000000 ≤ y ∧ y ≤ 1000000) := by
  simp [vokB, inB] at h
  omega
theorem cl_in {v lo hi : Int} (h1 : lo ≤ hi) (h2 : -1000000 ≤ lo) (h3 : hi ≤ 1000000) (h4 : -3000000 ≤ v) (h5 : v ≤ 3000000) : -4000000 ≤ v - cl v lo hi ∧ v - cl v lo hi ≤ 4000000 := by
  have := cl_bd (v := v) h1
  omega

set_option maxHeartbeats 1000000 in
theorem iTouches (lx ly hx hy x y r : Int) (w : World) (hb : bxB lx ly hx hy = true) (hx1 : -3000000 ≤ x) (hx2 : x ≤ 3000000) (hy1 : -3000000 ≤ y) (hy2 : y ≤ 3000000) (hr1 : 0 ≤ r) (hr2 : r ≤ 1000000) : Calls Try.prog 56 #[.agg #[.int .i64 lx, .int .i64 ly, .int .i64 hx, .int .i64 hy], .agg #[.int .i64 x, .int .i64 y], .int .i64 r] w fun e w' => e = .returned (.bool (tcB lx ly hx hy x y r)) ∧ Below w.heap.size w w' := by
  obtain ⟨⟨a1, a2⟩, ⟨b1, b2⟩, ⟨c1, c2⟩, ⟨d1, d2⟩, hlx, hly⟩ := bxB_ok hb
  have kx := cl_in (v := x) hlx a1 c2 hx1 hx2
  have ky := cl_in (v := y) hly b1 d2 hy1 hy2
  have sx := sq_bd kx.1 kx.2
  have sy := sq_bd ky.1 ky.2
  have sx0 := sq_nn (x - cl x lx hx)
  have sy0 := sq_nn (y - cl y ly hy)
  have sr := sq_bd (d := r) (by omega) (by omega)
  have sr0 := sq_nn r
  go_enter Try.func56, Try.ntmps56
  go_wp2_with fail; refine (iNearest _ _ _ _ _ _ _ hlx hly).mono ?_; rintro e w1 ⟨rfl, hb1⟩; obtain ⟨hc1, hf1⟩ := bcell hb1; have hz1 : w.heap.size < w1.heap.size := (by have := hb1.size; first | omega | (simp at this; omega)); have hy1 : w.heap.size < w1.heap.size + 1 := Nat.lt_succ_of_lt hz1; have hB1 : Below w.heap.size w w1 := bstep (by (repeat (first | with_reducible assumption | with_reducible exact Below.refl _ _ | ((with_reducible refine Below.alloc ?_ ?_ _); rotate_left; · exact (by first | omega | (simp; done) | (simp; omega))) | ((with_reducible refine Below.setCell ?_ ?_ _); rotate_left; · exact (by first | omega | (simp; done) | (simp; omega))) | with_reducible refine Below.drew ?_ | assumption | exact Below.refl _ _ | refine Below.alloc ?_ (by first | omega | (simp; done) | (simp; omega)) _ | refine Below.setCell ?_ (by first | omega | (simp; done) | (simp; omega)) _ | refine Below.drew ?_))) (by first | omega | (simp; done) | (simp; omega)) hb1
  have hz1b : w.heap.size + 1 < w1.heap.size := (by have := hb1.size; first | omega | (simp at this; omega))
  have hne1 : w1.heap.size ≠ w.heap.size + 1 := by omega
  go_wp2_with fail; refine (iSquare _ _ _ (by omega) (by omega)).mono ?_; rintro e w2 ⟨rfl, hb2⟩; obtain ⟨hc2, hf2⟩ := bcell hb2; have hz2 : w.heap.size < w2.heap.size := (by have := hb2.size; first | omega | (simp at this; omega)); have hy2 : w.heap.size < w2.heap.size + 1 := Nat.lt_succ_of_lt hz2; have hB2 : Below w.heap.size w w2 := bstep (by (repeat (first | with_reducible assumption | with_reducible exact Below.refl _ _ | ((with_reducible refine Below.alloc ?_ ?_ _); rotate_left; · exact (by first | omega | (simp; done) | (simp; omega))) | ((with_reducible refine Below.setCell ?_ ?_ _); rotate_left; · exact (by first | omega | (simp; done) | (simp; omega))) | with_reducible refine Below.drew ?_ | assumption | exact Below.refl _ _ | refine Below.alloc ?_ (by first | omega | (simp; done) | (simp; omega)) _ | refine Below.setCell ?_ (by first | omega | (simp; done) | (simp; omega)) _ | refine Below.drew ?_))) (by first | omega | (simp; done) | (simp; omega)) hb2
  go_wp2
  go_ret
  exact ⟨ret_bool (by first | rfl | (simp [tcB, farB]; done) | (rw [Bool.eq_iff_iff]; simp [tcB, farB])), by (repeat (first | with_reducible assumption | with_reducible exact Below.refl _ _ | ((with_reducible refine Below.alloc ?_ ?_ _); rotate_left; · exact (by first | omega | (simp; done) | (simp; omega))) | ((with_reducible refine Below.setCell ?_ ?_ _); rotate_left; · exact (by first | omega | (simp; done) | (simp; omega))) | with_reducible refine Below.drew ?_ | assumption | exact Below.refl _ _ | refine Below.alloc ?_ (by first | omega | (simp; done) | (simp; omega)) _ | refine Below.setCell ?_ (by first | omega | (simp; done) | (simp; omega)) _ | refine Below.drew ?_))⟩
set_option maxHeartbeats 1000000 in
theorem sTouches (lx ly hx hy x y r : Int) (w : World) (hb : bxB lx ly hx hy = true) (hx1 : -3000000 ≤ x) (hx2 : x ≤ 3000000) (hy1 : -3000000 ≤ y) (hy2 : y ≤ 3000000) (hr1 : 0 ≤ r) (hr2 : r ≤ 1000000) : Calls Try.prog 58 #[.agg #[.int .i64 lx, .int .i64 ly, .int .i64 hx, .int .i64 hy], .agg #[.int .i64 x, .int .i64 y], .int .i64 r] w fun e w' => e = .returned (.bool (tcB lx ly hx hy x y r)) ∧ Below w.heap.size w w' := by
  obtain ⟨⟨a1, a2⟩, ⟨b1, b2⟩, ⟨c1, c2⟩, ⟨d1, d2⟩, hlx, hly⟩ := bxB_ok hb
  have kx := cl_in (v := x) hlx a1 c2 hx1 hx2
  have ky := cl_in (v := y) hly b1 d2 hy1 hy2
  have sx := sq_bd kx.1 kx.2
  have sy := sq_bd ky.1 ky.2
  have sx0 := sq_nn (x - cl x lx hx)
  have sy0 := sq_nn (y - cl y ly hy)
  have sr := sq_bd (d := r) (by omega) (by omega)
  have sr0 := sq_nn r
  go_enter Try.func58, Try.ntmps58
  go_wp2_with fail; refine (sNearest _ _ _ _ _ _ _ hlx hly).mono ?_; rintro e w1 ⟨rfl, hb1⟩; obtain ⟨hc1, hf1⟩ := bcell hb1; have hz1 : w.heap.size < w1.heap.size := (by have := hb1.size; first | omega | (simp at this; omega)); have hy1 : w.heap.size < w1.heap.size + 1 := Nat.lt_succ_of_lt hz1; have hB1 : Below w.heap.size w w1 := bstep (by (repeat (first | with_reducible assumption | with_reducible exact Below.refl _ _ | ((with_reducible refine Below.alloc ?_ ?_ _); rotate_left; · exact (by first | omega | (simp; done) | (simp; omega))) | ((with_reducible refine Below.setCell ?_ ?_ _); rotate_left; · exact (by first | omega | (simp; done) | (simp; omega))) | with_reducible refine Below.drew ?_ | assumption | exact Below.refl _ _ | refine Below.alloc ?_ (by first | omega | (simp; done) | (simp; omega)) _ | refine Below.setCell ?_ (by first | omega | (simp; done) | (simp; omega)) _ | refine Below.drew ?_))) (by first | omega | (simp; done) | (simp; omega)) hb1
  have hz1b : w.heap.size + 1 < w1.heap.size := (by have := hb1.size; first | omega | (simp at this; omega))
  have hne1 : w1.heap.size ≠ w.heap.size + 1 := by omega
  go_wp2
  go_ret
  exact ⟨ret_bool (by first | rfl | (simp [tcB, farB]; done) | (rw [Bool.eq_iff_iff]; simp [tcB, farB])), by (repeat (first | with_reducible assumption | with_reducible exact Below.refl _ _ | ((with_reducible refine Below.alloc ?_ ?_ _); rotate_left; · exact (by first | omega | (simp; done) | (simp; omega))) | ((with_reducible refine Below.setCell ?_ ?_ _); rotate_left; · exact (by first | omega | (simp; done) | (simp; omega))) | with_reducible refine Below.drew ?_ | assumption | exact Below.refl _ _ | refine Below.alloc ?_ (by first | omega | (simp; done) | (simp; omega)) _ | refine Below.setCell ?_ (by first | omega | (simp; done) | (simp; omega)) _ | refine Below.drew ?_))⟩
end Go.Proofs.Ytgiadgbfeldheaa

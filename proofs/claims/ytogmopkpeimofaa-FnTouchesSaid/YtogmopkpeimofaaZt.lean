/- The walk of FnTouches. -/
import Derived.Test.YtogmopkpeimofaaZn
set_option linter.unusedVariables false
namespace Go.Proofs.Ytogmopkpeimofaa
open Go.RowKit

/-- the square of the way between two points -/
def szF (a b x y : Int) : Int := (a - x) * (a - x) + (b - y) * (b - y)
theorem szF_far (lx ly hx hy x y : Int) : szF (cl x lx hx) (cl y ly hy) x y = farB lx ly hx hy x y := by
  unfold szF farB
  rw [show cl x lx hx - x = -(x - cl x lx hx) from by omega, show cl y ly hy - y = -(y - cl y ly hy) from by omega, Int.neg_mul_neg, Int.neg_mul_neg]
set_option maxHeartbeats 400000 in
theorem size_any (a b x y : Int) (w : World) (h1 : -4000000 ≤ a - x) (h2 : a - x ≤ 4000000) (h3 : -4000000 ≤ b - y) (h4 : b - y ≤ 4000000) : Calls Try.prog 28 #[.agg #[.int .i64 a, .int .i64 b], .agg #[.int .i64 x, .int .i64 y]] w fun e w' => e = .returned (.int .i64 (szF a b x y)) ∧ Below w.heap.size w w' := by
  have s1 := sq_bd h1 h2
  have s2 := sq_bd h3 h4
  have t1 := sq_nn (a - x)
  have t2 := sq_nn (b - y)
  go_enter Try.func28, Try.ntmps28
  go_wp2
  go_ret
  exact ⟨ret_int rfl, by (repeat (first | with_reducible assumption | with_reducible exact Below.refl _ _ | ((with_reducible refine Below.alloc ?_ ?_ _); rotate_left; · exact (by first | omega | (simp; done) | (simp; omega))) | ((with_reducible refine Below.setCell ?_ ?_ _); rotate_left; · exact (by first | omega | (simp; done) | (simp; omega))) | with_reducible refine Below.drew ?_ | assumption | exact Below.refl _ _ | refine Below.alloc ?_ (by first | omega | (simp; done) | (simp; omega)) _ | refine Below.setCell ?_ (by first | omega | (simp; done) | (simp; omega)) _ | refine Below.drew ?_))⟩
set_option maxRecDepth 100000 in
set_option maxHeartbeats 2000000 in
theorem lawTouches (a : Option Addr) (len cap : Nat) (zs : List Int) (w : World) (h : IsRow .u8 w a len cap zs) : Calls Try.prog 3 #[.slice a len cap] w fun e w' => e = .returned (.bool true) ∧ Below w.heap.size w w' := by
  by_cases hl : len ≤ 1048576
  · go_enter Try.func3, Try.ntmps3
    go_wp2_with fail
    refine (dBoxTouches _ _ _ _ _ h).mono ?_
    rintro e w1 ⟨lx, ly, hx, hy, x, y, r, rfl, r1, r2, hb1⟩
    obtain ⟨hc1, hf1⟩ := bcell hb1; have hz1 : w.heap.size ≤ w1.heap.size := (by have := hb1.size; first | omega | (simp at this; omega)); have hB1 : Below w.heap.size w w1 := bstep (by (repeat (first | with_reducible assumption | with_reducible exact Below.refl _ _ | ((with_reducible refine Below.alloc ?_ ?_ _); rotate_left; · exact (by first | omega | (simp; done) | (simp; omega))) | ((with_reducible refine Below.setCell ?_ ?_ _); rotate_left; · exact (by first | omega | (simp; done) | (simp; omega))) | with_reducible refine Below.drew ?_ | assumption | exact Below.refl _ _ | refine Below.alloc ?_ (by first | omega | (simp; done) | (simp; omega)) _ | refine Below.setCell ?_ (by first | omega | (simp; done) | (simp; omega)) _ | refine Below.drew ?_))) (by first | omega | (simp; done) | (simp; omega)) hb1
    cases hT : (bvB lx ly hx hy x y && inB r 0 1000000 && tcB lx ly hx hy x y r) with
    | false =>
      go_wp2_with fail
      refine (iBoxTouches lx ly hx hy x y r _).mono ?_
      rw [hT]
      rintro e w2 ⟨rfl, hb2⟩
      have B2 : Blk w2 w1.heap.size #[.int .i64 lx, .int .i64 ly, .int .i64 hx, .int .i64 hy] := ((Blk.at rfl).alloc _).below hb2 (by simp; omega)
      have V2 : Blk w2 (w1.heap.size + 1) #[.int .i64 x, .int .i64 y] := (Blk.at (by simp)).below hb2 (by simp)
      have hB2 : Below w.heap.size w w2 := bstep (by (repeat (first | with_reducible assumption | with_reducible exact Below.refl _ _ | ((with_reducible refine Below.alloc ?_ ?_ _); rotate_left; · exact (by first | omega | (simp; done) | (simp; omega))) | ((with_reducible refine Below.setCell ?_ ?_ _); rotate_left; · exact (by first | omega | (simp; done) | (simp; omega))) | with_reducible refine Below.drew ?_ | assumption | exact Below.refl _ _ | refine Below.alloc ?_ (by first | omega | (simp; done) | (simp; omega)) _ | refine Below.setCell ?_ (by first | omega | (simp; done) | (simp; omega)) _ | refine Below.drew ?_))) (by first | omega | (simp; done) | (simp; omega)) hb2
      obtain ⟨p0, p1, p2, p3⟩ := B2.c4
      obtain ⟨q0, q1⟩ := V2.c2
      go_wp2_with fail
      refine (sBoxTouches lx ly hx hy x y r _).mono ?_
      rw [hT]
      rintro e w3 ⟨rfl, hb3⟩
      have B3 := B2.below hb3 B2.lt
      have V3 := V2.below hb3 V2.lt
      have hB3 : Below w.heap.size w w3 := bstep hB2 hB2.size hb3
      clear p0 p1 p2 p3 q0 q1 hb2 B2 V2 hB2
      obtain ⟨p0, p1, p2, p3⟩ := B3.c4
      obtain ⟨q0, q1⟩ := V3.c2
      go_wp2_with fail
      refine (sBoxValid lx ly hx hy _).mono ?_
      rintro e w4 ⟨rfl, hb4⟩
      have B4 := B3.below hb4 B3.lt
      have V4 := V3.below hb4 V3.lt
      have hB4 : Below w.heap.size w w4 := bstep hB3 hB3.size hb4
      clear p0 p1 p2 p3 q0 q1 hb3 B3 V3 hB3
      obtain ⟨p0, p1, p2, p3⟩ := B4.c4
      obtain ⟨q0, q1⟩ := V4.c2
      cases hbx : bxB lx ly hx hy with
      | false =>
        go_wp2
        go_ret
        exact ⟨rfl, hB4⟩
      | true =>
      go_wp2_with fail
      refine (sVecOk x y _).mono ?_
      rintro e w5 ⟨rfl, hb5⟩
      have B5 := B4.below hb5 B4.lt
      have V5 := V4.below hb5 V4.lt
      have hB5 : Below w.heap.size w w5 := bstep hB4 hB4.size hb5
      clear p0 p1 p2 p3 q0 q1 hb4 B4 V4 hB4
      obtain ⟨p0, p1, p2, p3⟩ := B5.c4
      obtain ⟨q0, q1⟩ := V5.c2
      cases hvk : vokB x y with
      | false =>
        go_wp2
        go_ret
        exact ⟨rfl, hB5⟩
      | true =>
      by_cases hr0 : r < 0
      · go_wp2
        go_ret
        exact ⟨rfl, hB5⟩
      · have hbv : bvB lx ly hx hy x y = true := by simp [bvB, hbx, hvk]
        have hle := bxB_le hbx
        obtain ⟨⟨a1, a2⟩, ⟨a3, a4⟩, ⟨a5, a6⟩, ⟨a7, a8⟩, _, _⟩ := bxB_ok hbx
        obtain ⟨⟨v1, v2⟩, ⟨v3, v4⟩⟩ := vokB_ok hvk
        have k1 := cl_bd (v := x) hle.1
        have k2 := cl_bd (v := y) hle.2
        have rr := sq_bd (d := r) (by omega) (by omega)
        have rr0 := sq_nn r
        have hfin : false = decide (szF (cl x lx hx) (cl y ly hy) x y ≤ r * r) := by
          rw [szF_far, ← hT, hbv, inB_yes (by omega) (by omega)]
          rfl
        have hF := Lib.hid hfin
        clear hfin hT
        go_wp2_with fail
        refine (iBoxNearest lx ly hx hy x y _).mono ?_
        rw [hbv, onB_t rfl, onB_t rfl]
        rintro e w6 ⟨rfl, hb6⟩
        have V6 := V5.below hb6 V5.lt
        have hz6 := V6.lt
        have hB6 : Below w.heap.size w w6 := bstep hB5 hB5.size hb6
        clear p0 p1 p2 p3 q0 q1 hb5 hb6 B5 V5 hB5
        obtain ⟨q0, q1⟩ := V6.c2
        go_wp2_with fail
        refine (size_any _ _ x y _ (by omega) (by omega) (by omega) (by omega)).mono ?_
        rintro e w7 ⟨rfl, hb7⟩
        have hB7 : Below w.heap.size w w7 := bstep (by (repeat (first | with_reducible assumption | with_reducible exact Below.refl _ _ | ((with_reducible refine Below.alloc ?_ ?_ _); rotate_left; · exact (by first | omega | (simp; done) | (simp; omega))) | ((with_reducible refine Below.setCell ?_ ?_ _); rotate_left; · exact (by first | omega | (simp; done) | (simp; omega))) | with_reducible refine Below.drew ?_ | assumption | exact Below.refl _ _ | refine Below.alloc ?_ (by first | omega | (simp; done) | (simp; omega)) _ | refine Below.setCell ?_ (by first | omega | (simp; done) | (simp; omega)) _ | refine Below.drew ?_))) (by first | omega | (simp; done) | (simp; omega)) hb7
        clear q0 q1
        go_wp2
        go_ret
        exact ⟨ret_bool (by first | exact hF.out | (rw [← hF.out]; rfl) | (have := hF.out; simp_all)), hB7⟩
    | true =>
      go_wp2_with fail
      refine (iBoxTouches lx ly hx hy x y r _).mono ?_
      rw [hT]
      rintro e w2 ⟨rfl, hb2⟩
      have B2 : Blk w2 w1.heap.size #[.int .i64 lx, .int .i64 ly, .int .i64 hx, .int .i64 hy] := ((Blk.at rfl).alloc _).below hb2 (by simp; omega)
      have V2 : Blk w2 (w1.heap.size + 1) #[.int .i64 x, .int .i64 y] := (Blk.at (by simp)).below hb2 (by simp)
      have hB2 : Below w.heap.size w w2 := bstep (by (repeat (first | with_reducible assumption | with_reducible exact Below.refl _ _ | ((with_reducible refine Below.alloc ?_ ?_ _); rotate_left; · exact (by first | omega | (simp; done) | (simp; omega))) | ((with_reducible refine Below.setCell ?_ ?_ _); rotate_left; · exact (by first | omega | (simp; done) | (simp; omega))) | with_reducible refine Below.drew ?_ | assumption | exact Below.refl _ _ | refine Below.alloc ?_ (by first | omega | (simp; done) | (simp; omega)) _ | refine Below.setCell ?_ (by first | omega | (simp; done) | (simp; omega)) _ | refine Below.drew ?_))) (by first | omega | (simp; done) | (simp; omega)) hb2
      obtain ⟨p0, p1, p2, p3⟩ := B2.c4
      obtain ⟨q0, q1⟩ := V2.c2
      go_wp2_with fail
      refine (sBoxTouches lx ly hx hy x y r _).mono ?_
      rw [hT]
      rintro e w3 ⟨rfl, hb3⟩
      have B3 := B2.below hb3 B2.lt
      have V3 := V2.below hb3 V2.lt
      have hB3 : Below w.heap.size w w3 := bstep hB2 hB2.size hb3
      clear p0 p1 p2 p3 q0 q1 hb2 B2 V2 hB2
      obtain ⟨p0, p1, p2, p3⟩ := B3.c4
      obtain ⟨q0, q1⟩ := V3.c2
      go_wp2_with fail
      refine (sBoxValid lx ly hx hy _).mono ?_
      rintro e w4 ⟨rfl, hb4⟩
      have B4 := B3.below hb4 B3.lt
      have V4 := V3.below hb4 V3.lt
      have hB4 : Below w.heap.size w w4 := bstep hB3 hB3.size hb4
      clear p0 p1 p2 p3 q0 q1 hb3 B3 V3 hB3
      obtain ⟨p0, p1, p2, p3⟩ := B4.c4
      obtain ⟨q0, q1⟩ := V4.c2
      cases hbx : bxB lx ly hx hy with
      | false =>
        go_wp2
        go_ret
        exact ⟨rfl, hB4⟩
      | true =>
      go_wp2_with fail
      refine (sVecOk x y _).mono ?_
      rintro e w5 ⟨rfl, hb5⟩
      have B5 := B4.below hb5 B4.lt
      have V5 := V4.below hb5 V4.lt
      have hB5 : Below w.heap.size w w5 := bstep hB4 hB4.size hb5
      clear p0 p1 p2 p3 q0 q1 hb4 B4 V4 hB4
      obtain ⟨p0, p1, p2, p3⟩ := B5.c4
      obtain ⟨q0, q1⟩ := V5.c2
      cases hvk : vokB x y with
      | false =>
        go_wp2
        go_ret
        exact ⟨rfl, hB5⟩
      | true =>
      by_cases hr0 : r < 0
      · go_wp2
        go_ret
        exact ⟨rfl, hB5⟩
      · have hbv : bvB lx ly hx hy x y = true := by simp [bvB, hbx, hvk]
        have hle := bxB_le hbx
        obtain ⟨⟨a1, a2⟩, ⟨a3, a4⟩, ⟨a5, a6⟩, ⟨a7, a8⟩, _, _⟩ := bxB_ok hbx
        obtain ⟨⟨v1, v2⟩, ⟨v3, v4⟩⟩ := vokB_ok hvk
        have k1 := cl_bd (v := x) hle.1
        have k2 := cl_bd (v := y) hle.2
        have rr := sq_bd (d := r) (by omega) (by omega)
        have rr0 := sq_nn r
        have hfin : true = decide (szF (cl x lx hx) (cl y ly hy) x y ≤ r * r) := by
          rw [szF_far, ← hT, hbv, inB_yes (by omega) (by omega)]
          rfl
        have hF := Lib.hid hfin
        clear hfin hT
        go_wp2_with fail
        refine (iBoxNearest lx ly hx hy x y _).mono ?_
        rw [hbv, onB_t rfl, onB_t rfl]
        rintro e w6 ⟨rfl, hb6⟩
        have V6 := V5.below hb6 V5.lt
        have hz6 := V6.lt
        have hB6 : Below w.heap.size w w6 := bstep hB5 hB5.size hb6
        clear p0 p1 p2 p3 q0 q1 hb5 hb6 B5 V5 hB5
        obtain ⟨q0, q1⟩ := V6.c2
        go_wp2_with fail
        refine (size_any _ _ x y _ (by omega) (by omega) (by omega) (by omega)).mono ?_
        rintro e w7 ⟨rfl, hb7⟩
        have hB7 : Below w.heap.size w w7 := bstep (by (repeat (first | with_reducible assumption | with_reducible exact Below.refl _ _ | ((with_reducible refine Below.alloc ?_ ?_ _); rotate_left; · exact (by first | omega | (simp; done) | (simp; omega))) | ((with_reducible refine Below.setCell ?_ ?_ _); rotate_left; · exact (by first | omega | (simp; done) | (simp; omega))) | with_reducible refine Below.drew ?_ | assumption | exact Below.refl _ _ | refine Below.alloc ?_ (by first | omega | (simp; done) | (simp; omega)) _ | refine Below.setCell ?_ (by first | omega | (simp; done) | (simp; omega)) _ | refine Below.drew ?_))) (by first | omega | (simp; done) | (simp; omega)) hb7
        clear q0 q1
        go_wp2
        go_ret
        exact ⟨ret_bool (by first | exact hF.out | (rw [← hF.out]; rfl) | (have := hF.out; simp_all)), hB7⟩
  · go_enter Try.func3, Try.ntmps3
    go_wp2
    go_ret
    exact ⟨rfl, by (repeat (first | with_reducible assumption | with_reducible exact Below.refl _ _ | ((with_reducible refine Below.alloc ?_ ?_ _); rotate_left; · exact (by first | omega | (simp; done) | (simp; omega))) | ((with_reducible refine Below.setCell ?_ ?_ _); rotate_left; · exact (by first | omega | (simp; done) | (simp; omega))) | with_reducible refine Below.drew ?_ | assumption | exact Below.refl _ _ | refine Below.alloc ?_ (by first | omega | (simp; done) | (simp; omega)) _ | refine Below.setCell ?_ (by first | omega | (simp; done) | (simp; omega)) _ | refine Below.drew ?_))⟩
end Go.Proofs.Ytogmopkpeimofaa

/- The vectors, boxes and points drawn. -/
import Derived.Test.YtgiadgbfeldheaaY
import Derived.Test.YtgiadgbfeldheaaD
import Derived.Test.YtgiadgbfeldheaaBl
import Derived.Deep.RegionHeld3
set_option linter.unusedVariables false
namespace Go.Proofs.Ytgiadgbfeldheaa
open Go.RowKit

theorem two_of {v : Int} (h0 : 0 ≤ v) (h1 : v < 2) : v = 0 ∨ v = 1 := by omega
theorem three_of {v : Int} (h0 : 0 ≤ v) (h1 : v < 3) : v = 0 ∨ v = 1 ∨ v = 2 := by omega
theorem four_of {v : Int} (h0 : 0 ≤ v) (h1 : v < 4) : v = 0 ∨ v = 1 ∨ v = 2 ∨ v = 3 := by omega

/-- a vector drawn, not large -/
def DrawnVec (B : Int) (c R k : Nat) (w : World) (e : Ending) (w' : World) : Prop :=
  ∃ (x y : Int) (k' : Nat), e = .returned (.agg #[.int .i64 x, .int .i64 y]) ∧ -B ≤ x ∧ x ≤ B ∧ -B ≤ y ∧ y ≤ B ∧ k ≤ k' ∧ k' ≤ k + c ∧ Rd w' R k' ∧ Up R w.heap.size w w'
/-- a box drawn, not large -/
def DrawnBox (B : Int) (c R k : Nat) (w : World) (e : Ending) (w' : World) : Prop :=
  ∃ (x y z u : Int) (k' : Nat), e = .returned (.agg #[.int .i64 x, .int .i64 y, .int .i64 z, .int .i64 u]) ∧ -B ≤ x ∧ x ≤ B ∧ -B ≤ y ∧ y ≤ B ∧ -B ≤ z ∧ z ≤ B ∧ -B ≤ u ∧ u ≤ B ∧ k ≤ k' ∧ k' ≤ k + c ∧ Rd w' R k' ∧ Up R w.heap.size w w'

theorem sgn_bd {a b s : Int} (h1 : 0 ≤ a) (h2 : a < 100) (h3 : 0 ≤ b) (h4 : b < 100) (h5 : 0 ≤ s) (h6 : s < 2) : -9999 ≤ (a * 100 + b) * (1 - 2 * s) ∧ (a * 100 + b) * (1 - 2 * s) ≤ 9999 := by
  rcases two_of h5 h6 with rfl | rfl <;> omega
set_option maxHeartbeats 4000000 in
theorem lVec_any (R k : Nat) (w : World) (hr : Rd w R k) (hk : k < 900000) : Calls Try.prog 65 #[.pointer (some ⟨R, 0, none⟩)] w (DrawnVec 1000001 8 R k w) := by
  have hR := hr.lt
  have hne : w.heap.size ≠ R := by omega
  go_enter Try.func65, Try.ntmps65
  go_wp2_with fail; refine (pick_any R _ _ _ (by (first | assumption | exact Rd.keep ‹Rd _ R _› (by (repeat (first | with_reducible assumption | with_reducible exact Below.refl _ _ | ((with_reducible refine Below.alloc ?_ ?_ _); rotate_left; · exact (by first | omega | (simp; done) | (simp; omega))) | ((with_reducible refine Below.setCell ?_ ?_ _); rotate_left; · exact (by first | omega | (simp; done) | (simp; omega))) | with_reducible refine Below.drew ?_ | assumption | exact Below.refl _ _ | refine Below.alloc ?_ (by first | omega | (simp; done) | (simp; omega)) _ | refine Below.setCell ?_ (by first | omega | (simp; done) | (simp; omega)) _ | refine Below.drew ?_))))) (by omega) (by omega) (by omega)).mono ?_; rintro e w1 ⟨v1, rfl, hv1, hw1, hr1, hu1⟩; have hz1 : w.heap.size ≤ w1.heap.size := (by have := hu1.size; first | omega | (simp at this; omega)); have hU1 : Up R w.heap.size w w1 := upstep (by (repeat (first | assumption | exact Up.refl _ _ _ | refine Up.alloc ?_ (by first | omega | (simp; done) | (simp; omega)) _ | refine Up.setCell ?_ (.inr (by first | omega | (simp; done) | (simp; omega))) _ | refine Up.drew ?_ | refine Up.drewN ?_ _))) (by first | omega | (simp; done) | (simp; omega)) hu1
  go_wp2_with fail; refine (pick_any R _ _ _ (by (first | assumption | exact Rd.keep ‹Rd _ R _› (by (repeat (first | with_reducible assumption | with_reducible exact Below.refl _ _ | ((with_reducible refine Below.alloc ?_ ?_ _); rotate_left; · exact (by first | omega | (simp; done) | (simp; omega))) | ((with_reducible refine Below.setCell ?_ ?_ _); rotate_left; · exact (by first | omega | (simp; done) | (simp; omega))) | with_reducible refine Below.drew ?_ | assumption | exact Below.refl _ _ | refine Below.alloc ?_ (by first | omega | (simp; done) | (simp; omega)) _ | refine Below.setCell ?_ (by first | omega | (simp; done) | (simp; omega)) _ | refine Below.drew ?_))))) (by omega) (by omega) (by omega)).mono ?_; rintro e w2 ⟨v2, rfl, hv2, hw2, hr2, hu2⟩; have hz2 : w.heap.size ≤ w2.heap.size := (by have := hu2.size; first | omega | (simp at this; omega)); have hU2 : Up R w.heap.size w w2 := upstep (by (repeat (first | assumption | exact Up.refl _ _ _ | refine Up.alloc ?_ (by first | omega | (simp; done) | (simp; omega)) _ | refine Up.setCell ?_ (.inr (by first | omega | (simp; done) | (simp; omega))) _ | refine Up.drew ?_ | refine Up.drewN ?_ _))) (by first | omega | (simp; done) | (simp; omega)) hu2
  go_wp2_with fail; refine (pick_any R _ _ _ (by (first | assumption | exact Rd.keep ‹Rd _ R _› (by (repeat (first | with_reducible assumption | with_reducible exact Below.refl _ _ | ((with_reducible refine Below.alloc ?_ ?_ _); rotate_left; · exact (by first | omega | (simp; done) | (simp; omega))) | ((with_reducible refine Below.setCell ?_ ?_ _); rotate_left; · exact (by first | omega | (simp; done) | (simp; omega))) | with_reducible refine Below.drew ?_ | assumption | exact Below.refl _ _ | refine Below.alloc ?_ (by first | omega | (simp; done) | (simp; omega)) _ | refine Below.setCell ?_ (by first | omega | (simp; done) | (simp; omega)) _ | refine Below.drew ?_))))) (by omega) (by omega) (by omega)).mono ?_; rintro e w3 ⟨v3, rfl, hv3, hw3, hr3, hu3⟩; have hz3 : w.heap.size ≤ w3.heap.size := (by have := hu3.size; first | omega | (simp at this; omega)); have hU3 : Up R w.heap.size w w3 := upstep (by (repeat (first | assumption | exact Up.refl _ _ _ | refine Up.alloc ?_ (by first | omega | (simp; done) | (simp; omega)) _ | refine Up.setCell ?_ (.inr (by first | omega | (simp; done) | (simp; omega))) _ | refine Up.drew ?_ | refine Up.drewN ?_ _))) (by first | omega | (simp; done) | (simp; omega)) hu3
  obtain ⟨x1, x2⟩ := sgn_bd hv1 hw1 hv2 hw2 hv3 hw3
  go_wp2_with fail; refine (pick_any R _ _ _ (by (first | assumption | exact Rd.keep ‹Rd _ R _› (by (repeat (first | with_reducible assumption | with_reducible exact Below.refl _ _ | ((with_reducible refine Below.alloc ?_ ?_ _); rotate_left; · exact (by first | omega | (simp; done) | (simp; omega))) | ((with_reducible refine Below.setCell ?_ ?_ _); rotate_left; · exact (by first | omega | (simp; done) | (simp; omega))) | with_reducible refine Below.drew ?_ | assumption | exact Below.refl _ _ | refine Below.alloc ?_ (by first | omega | (simp; done) | (simp; omega)) _ | refine Below.setCell ?_ (by first | omega | (simp; done) | (simp; omega)) _ | refine Below.drew ?_))))) (by omega) (by omega) (by omega)).mono ?_; rintro e w4 ⟨v4, rfl, hv4, hw4, hr4, hu4⟩; have hz4 : w.heap.size ≤ w4.heap.size := (by have := hu4.size; first | omega | (simp at this; omega)); have hU4 : Up R w.heap.size w w4 := upstep (by (repeat (first | assumption | exact Up.refl _ _ _ | refine Up.alloc ?_ (by first | omega | (simp; done) | (simp; omega)) _ | refine Up.setCell ?_ (.inr (by first | omega | (simp; done) | (simp; omega))) _ | refine Up.drew ?_ | refine Up.drewN ?_ _))) (by first | omega | (simp; done) | (simp; omega)) hu4
  go_wp2_with fail; refine (pick_any R _ _ _ (by (first | assumption | exact Rd.keep ‹Rd _ R _› (by (repeat (first | with_reducible assumption | with_reducible exact Below.refl _ _ | ((with_reducible refine Below.alloc ?_ ?_ _); rotate_left; · exact (by first | omega | (simp; done) | (simp; omega))) | ((with_reducible refine Below.setCell ?_ ?_ _); rotate_left; · exact (by first | omega | (simp; done) | (simp; omega))) | with_reducible refine Below.drew ?_ | assumption | exact Below.refl _ _ | refine Below.alloc ?_ (by first | omega | (simp; done) | (simp; omega)) _ | refine Below.setCell ?_ (by first | omega | (simp; done) | (simp; omega)) _ | refine Below.drew ?_))))) (by omega) (by omega) (by omega)).mono ?_; rintro e w5 ⟨v5, rfl, hv5, hw5, hr5, hu5⟩; have hz5 : w.heap.size ≤ w5.heap.size := (by have := hu5.size; first | omega | (simp at this; omega)); have hU5 : Up R w.heap.size w w5 := upstep (by (repeat (first | assumption | exact Up.refl _ _ _ | refine Up.alloc ?_ (by first | omega | (simp; done) | (simp; omega)) _ | refine Up.setCell ?_ (.inr (by first | omega | (simp; done) | (simp; omega))) _ | refine Up.drew ?_ | refine Up.drewN ?_ _))) (by first | omega | (simp; done) | (simp; omega)) hu5
  go_wp2_with fail; refine (pick_any R _ _ _ (by (first | assumption | exact Rd.keep ‹Rd _ R _› (by (repeat (first | with_reducible assumption | with_reducible exact Below.refl _ _ | ((with_reducible refine Below.alloc ?_ ?_ _); rotate_left; · exact (by first | omega | (simp; done) | (simp; omega))) | ((with_reducible refine Below.setCell ?_ ?_ _); rotate_left; · exact (by first | omega | (simp; done) | (simp; omega))) | with_reducible refine Below.drew ?_ | assumption | exact Below.refl _ _ | refine Below.alloc ?_ (by first | omega | (simp; done) | (simp; omega)) _ | refine Below.setCell ?_ (by first | omega | (simp; done) | (simp; omega)) _ | refine Below.drew ?_))))) (by omega) (by omega) (by omega)).mono ?_; rintro e w6 ⟨v6, rfl, hv6, hw6, hr6, hu6⟩; have hz6 : w.heap.size ≤ w6.heap.size := (by have := hu6.size; first | omega | (simp at this; omega)); have hU6 : Up R w.heap.size w w6 := upstep (by (repeat (first | assumption | exact Up.refl _ _ _ | refine Up.alloc ?_ (by first | omega | (simp; done) | (simp; omega)) _ | refine Up.setCell ?_ (.inr (by first | omega | (simp; done) | (simp; omega))) _ | refine Up.drew ?_ | refine Up.drewN ?_ _))) (by first | omega | (simp; done) | (simp; omega)) hu6
  obtain ⟨y1, y2⟩ := sgn_bd hv4 hw4 hv5 hw5 hv6 hw6
  have A0 : Blk (w.alloc (.cells #[.int .i64 0, .int .i64 0] 34)) w.heap.size #[.int .i64 0, .int .i64 0] := Blk.at rfl
  have A1 := A0.up hu1 (by simp) hne
  have A2 := A1.up hu2 A1.lt hne
  have A3 := A2.up hu3 A2.lt hne
  have A4 := A3.up hu4 A3.lt hne
  have A5 := A4.up hu5 A4.lt hne
  have A6 := A5.up hu6 A5.lt hne
  go_wp2_with fail
  have hz6 := A6.lt
  have hne6 : w6.heap.size ≠ R := by omega
  have hd6 : w6.heap.size ≠ w.heap.size := by omega
  have hd6' : w.heap.size ≠ w6.heap.size := by omega
  clear hu1 hu2 hu3 hu4 hu5 hu6 hU1 hU2 hU3 hU4 hU5 hr1 hr2 hr3 hr4 hr5 hz1 hz2 hz3 hz4 hz5 A0 A1 A2 A3 A4 A5
  generalize (v1 * 100 + v2) * (1 - 2 * v3) = X at *
  generalize (v4 * 100 + v5) * (1 - 2 * v6) = Y at *
  clear hv1 hw1 hv2 hw2 hv3 hw3 hv4 hw4 hv5 hw5 hv6 hw6
  refine (pick_any R (k + 6) _ _ (by (first | assumption | exact Rd.keep ‹Rd _ R _› (by (repeat (first | with_reducible assumption | with_reducible exact Below.refl _ _ | ((with_reducible refine Below.alloc ?_ ?_ _); rotate_left; · exact (by first | omega | (simp; done) | (simp; omega))) | ((with_reducible refine Below.setCell ?_ ?_ _); rotate_left; · exact (by first | omega | (simp; done) | (simp; omega))) | with_reducible refine Below.drew ?_ | assumption | exact Below.refl _ _ | refine Below.alloc ?_ (by first | omega | (simp; done) | (simp; omega)) _ | refine Below.setCell ?_ (by first | omega | (simp; done) | (simp; omega)) _ | refine Below.drew ?_))))) (by omega) (by omega) (by omega)).mono ?_
  rintro e w7 ⟨v7, rfl, hv7, hw7, hr7, hu7⟩
  have V7 : Blk w7 w6.heap.size #[.int .i64 X, .int .i64 Y] := (Blk.at rfl).up hu7 (by simp) hne6
  have A7 := (A6.alloc _).up hu7 (by simp; omega) hne
  have hU7 : Up R w.heap.size w w7 := upstep (by (repeat (first | assumption | exact Up.refl _ _ _ | refine Up.alloc ?_ (by first | omega | (simp; done) | (simp; omega)) _ | refine Up.setCell ?_ (.inr (by first | omega | (simp; done) | (simp; omega))) _ | refine Up.drew ?_ | refine Up.drewN ?_ _))) (by first | omega | (simp; done) | (simp; omega)) hu7
  have hz7 := A7.lt
  have hz67 := V7.lt
  have hne7 : w7.heap.size ≠ R := by omega
  have hd7 : w7.heap.size ≠ w.heap.size := by omega
  have hd7' : w.heap.size ≠ w7.heap.size := by omega
  have hd67 : w7.heap.size ≠ w6.heap.size := by omega
  have hd67' : w6.heap.size ≠ w7.heap.size := by omega
  clear hu7 A6 hU6 hr6
  obtain ⟨p0, p1⟩ := V7.c2
  obtain ⟨q0, q1⟩ := A7.c2
  have p2 := V7.frozen
  have q2 := A7.frozen
  go_wp2_with fail
  · refine (pick_any R (k + 7) _ _ (by (first | assumption | exact Rd.keep ‹Rd _ R _› (by (repeat (first | with_reducible assumption | with_reducible exact Below.refl _ _ | ((with_reducible refine Below.alloc ?_ ?_ _); rotate_left; · exact (by first | omega | (simp; done) | (simp; omega))) | ((with_reducible refine Below.setCell ?_ ?_ _); rotate_left; · exact (by first | omega | (simp; done) | (simp; omega))) | with_reducible refine Below.drew ?_ | assumption | exact Below.refl _ _ | refine Below.alloc ?_ (by first | omega | (simp; done) | (simp; omega)) _ | refine Below.setCell ?_ (by first | omega | (simp; done) | (simp; omega)) _ | refine Below.drew ?_))))) (by omega) (by omega) (by omega)).mono ?_
    rintro e w8 ⟨v8, rfl, hv8, hw8, hr8, hu8⟩
    have V8 := (V7.alloc _).up hu8 (by simp; omega) hne6
    have A8 := (A7.alloc _).up hu8 (by simp; omega) hne
    have S8 : Blk w8 w7.heap.size #[.int .i64 _, .int .i64 _, .int .i64 _, .int .i64 _] := (Blk.at rfl).up hu8 (by simp) hne7
    have hU8 : Up R w.heap.size w w8 := upstep (by (repeat (first | assumption | exact Up.refl _ _ _ | refine Up.alloc ?_ (by first | omega | (simp; done) | (simp; omega)) _ | refine Up.setCell ?_ (.inr (by first | omega | (simp; done) | (simp; omega))) _ | refine Up.drew ?_ | refine Up.drewN ?_ _))) (by first | omega | (simp; done) | (simp; omega)) hu8
    have hz8 := A8.lt
    have hz68 := V8.lt
    have hz78 := S8.lt
    clear hu8 hU7 hr7 A7 p0 p1 q0 q1 p2 q2
    obtain ⟨p0, p1⟩ := V8.c2
    obtain ⟨q0, q1⟩ := A8.c2
    have p2 := V8.frozen
    have q2 := A8.frozen
    obtain ⟨s0, s1, s2, s3⟩ := S8.c4
    rcases four_of hv8 hw8 with rfl | rfl | rfl | rfl
    all_goals
      go_wp2
      refine bodyPost_ret (res_row rfl rfl (((A8.other hd6' _).s2_0 _).s2_1 _) Try.underlying34 rfl (by kernel_rfl)) rfl ?_
      exact ⟨_, _, k + 8, rfl, by omega, by omega, by omega, by omega, by omega, by omega, by (first | assumption | exact Rd.keep ‹Rd _ R _› (by (repeat (first | with_reducible assumption | with_reducible exact Below.refl _ _ | ((with_reducible refine Below.alloc ?_ ?_ _); rotate_left; · exact (by first | omega | (simp; done) | (simp; omega))) | ((with_reducible refine Below.setCell ?_ ?_ _); rotate_left; · exact (by first | omega | (simp; done) | (simp; omega))) | with_reducible refine Below.drew ?_ | assumption | exact Below.refl _ _ | refine Below.alloc ?_ (by first | omega | (simp; done) | (simp; omega)) _ | refine Below.setCell ?_ (by first | omega | (simp; done) | (simp; omega)) _ | refine Below.drew ?_)))), by (repeat (first | assumption | exact Up.refl _ _ _ | refine Up.alloc ?_ (by first | omega | (simp; done) | (simp; omega)) _ | refine Up.setCell ?_ (.inr (by first | omega | (simp; done) | (simp; omega))) _ | refine Up.drew ?_ | refine Up.drewN ?_ _))⟩
  · refine (pick_any R (k + 7) _ _ (by (first | assumption | exact Rd.keep ‹Rd _ R _› (by (repeat (first | with_reducible assumption | with_reducible exact Below.refl _ _ | ((with_reducible refine Below.alloc ?_ ?_ _); rotate_left; · exact (by first | omega | (simp; done) | (simp; omega))) | ((with_reducible refine Below.setCell ?_ ?_ _); rotate_left; · exact (by first | omega | (simp; done) | (simp; omega))) | with_reducible refine Below.drew ?_ | assumption | exact Below.refl _ _ | refine Below.alloc ?_ (by first | omega | (simp; done) | (simp; omega)) _ | refine Below.setCell ?_ (by first | omega | (simp; done) | (simp; omega)) _ | refine Below.drew ?_))))) (by omega) (by omega) (by omega)).mono ?_
    rintro e w8 ⟨v8, rfl, hv8, hw8, hr8, hu8⟩
    have V8 := (V7.alloc _).up hu8 (by simp; omega) hne6
    have A8 := (A7.alloc _).up hu8 (by simp; omega) hne
    have S8 : Blk w8 w7.heap.size #[.int .i64 _, .int .i64 _, .int .i64 _, .int .i64 _] := (Blk.at rfl).up hu8 (by simp) hne7
    have hU8 : Up R w.heap.size w w8 := upstep (by (repeat (first | assumption | exact Up.refl _ _ _ | refine Up.alloc ?_ (by first | omega | (simp; done) | (simp; omega)) _ | refine Up.setCell ?_ (.inr (by first | omega | (simp; done) | (simp; omega))) _ | refine Up.drew ?_ | refine Up.drewN ?_ _))) (by first | omega | (simp; done) | (simp; omega)) hu8
    have hz8 := A8.lt
    have hz68 := V8.lt
    have hz78 := S8.lt
    clear hu8 hU7 hr7 A7 p0 p1 q0 q1 p2 q2
    obtain ⟨p0, p1⟩ := V8.c2
    obtain ⟨q0, q1⟩ := A8.c2
    have p2 := V8.frozen
    have q2 := A8.frozen
    obtain ⟨s0, s1, s2, s3⟩ := S8.c4
    rcases four_of hv8 hw8 with rfl | rfl | rfl | rfl
    all_goals
      go_wp2
      refine bodyPost_ret (res_row rfl rfl (((A8.other hd6' _).s2_0 _).s2_1 _) Try.underlying34 rfl (by kernel_rfl)) rfl ?_
      exact ⟨_, _, k + 8, rfl, by omega, by omega, by omega, by omega, by omega, by omega, by (first | assumption | exact Rd.keep ‹Rd _ R _› (by (repeat (first | with_reducible assumption | with_reducible exact Below.refl _ _ | ((with_reducible refine Below.alloc ?_ ?_ _); rotate_left; · exact (by first | omega | (simp; done) | (simp; omega))) | ((with_reducible refine Below.setCell ?_ ?_ _); rotate_left; · exact (by first | omega | (simp; done) | (simp; omega))) | with_reducible refine Below.drew ?_ | assumption | exact Below.refl _ _ | refine Below.alloc ?_ (by first | omega | (simp; done) | (simp; omega)) _ | refine Below.setCell ?_ (by first | omega | (simp; done) | (simp; omega)) _ | refine Below.drew ?_)))), by (repeat (first | assumption | exact Up.refl _ _ _ | refine Up.alloc ?_ (by first | omega | (simp; done) | (simp; omega)) _ | refine Up.setCell ?_ (.inr (by first | omega | (simp; done) | (simp; omega))) _ | refine Up.drew ?_ | refine Up.drewN ?_ _))⟩
  · refine bodyPost_ret (res_row rfl rfl ((((A7.other hd6' _).other hd6' _).s2_0 _).s2_1 _) Try.underlying34 rfl (by kernel_rfl)) rfl ?_
    exact ⟨_, _, k + 7, rfl, by omega, by omega, by omega, by omega, by omega, by omega, by (first | assumption | exact Rd.keep ‹Rd _ R _› (by (repeat (first | with_reducible assumption | with_reducible exact Below.refl _ _ | ((with_reducible refine Below.alloc ?_ ?_ _); rotate_left; · exact (by first | omega | (simp; done) | (simp; omega))) | ((with_reducible refine Below.setCell ?_ ?_ _); rotate_left; · exact (by first | omega | (simp; done) | (simp; omega))) | with_reducible refine Below.drew ?_ | assumption | exact Below.refl _ _ | refine Below.alloc ?_ (by first | omega | (simp; done) | (simp; omega)) _ | refine Below.setCell ?_ (by first | omega | (simp; done) | (simp; omega)) _ | refine Below.drew ?_)))), by (repeat (first | assumption | exact Up.refl _ _ _ | refine Up.alloc ?_ (by first | omega | (simp; done) | (simp; omega)) _ | refine Up.setCell ?_ (.inr (by first | omega | (simp; done) | (simp; omega))) _ | refine Up.drew ?_ | refine Up.drewN ?_ _))⟩
  · refine bodyPost_ret (res_row rfl rfl ((A7.s2_0 _).s2_1 _) Try.underlying34 rfl (by kernel_rfl)) rfl ?_
    exact ⟨_, _, k + 7, rfl, by omega, by omega, by omega, by omega, by omega, by omega, by (first | assumption | exact Rd.keep ‹Rd _ R _› (by (repeat (first | with_reducible assumption | with_reducible exact Below.refl _ _ | ((with_reducible refine Below.alloc ?_ ?_ _); rotate_left; · exact (by first | omega | (simp; done) | (simp; omega))) | ((with_reducible refine Below.setCell ?_ ?_ _); rotate_left; · exact (by first | omega | (simp; done) | (simp; omega))) | with_reducible refine Below.drew ?_ | assumption | exact Below.refl _ _ | refine Below.alloc ?_ (by first | omega | (simp; done) | (simp; omega)) _ | refine Below.setCell ?_ (by first | omega | (simp; done) | (simp; omega)) _ | refine Below.drew ?_)))), by (repeat (first | assumption | exact Up.refl _ _ _ | refine Up.alloc ?_ (by first | omega | (simp; done) | (simp; omega)) _ | refine Up.setCell ?_ (.inr (by first | omega | (simp; done) | (simp; omega))) _ | refine Up.drew ?_ | refine Up.drewN ?_ _))⟩
end Go.Proofs.Ytgiadgbfeldheaa

/- The vectors, boxes and points drawn. -/
import Derived.Test.YtnhjalijnociaaaQad
import Derived.Test.YtnhjalijnociaaaQaf
import Derived.Test.YtnhjalijnociaaaQae
import Derived.Deep.RegionHeld3
/- The vectors, boxes and points drawn. -/
set_option linter.unusedVariables false
namespace Go.Proofs.Ytnhjalijnociaaa
open Go.RowKit

theorem two_of {v : Int} (h0 : 0 ≤ v) (h1 : v < 2) : v = 0 ∨ v = 1 := by omega
theorem three_of {v : Int} (h0 : 0 ≤ v) (h1 : v < 3) : v = 0 ∨ v = 1 ∨ v = 2 := by omega
theorem four_of {v : Int} (h0 : 0 ≤ v) (h1 : v < 4) : v = 0 ∨ v = 1 ∨ v = 2 ∨ v = 3 := by omega

/-- a vector drawn, not large -/
def DrawnVec (B : Int) (c R k : Nat) (w : World) (e : Ending) (w' : World) : Prop :=
  ∃ (x y : Int) (k' : Nat), e = .returned (.agg #[.int .i64 x, .int .i64 y]) ∧ -B ≤ x ∧ x ≤ B ∧ -B ≤ y ∧ y ≤ B ∧ k ≤ k' ∧ k' ≤ k + c ∧ Rd w' R k' ∧ Up R w.heap.size w w'
/-- a box drawn, not large -/
def DrawnBox (B : Int) (c R k : Nat) (w : World) (e : Ending) (w' : World) : Prop :=
  ∃ (x y z u : Int) (k' : Nat), e = .returned (.agg #[.int .i64 x, .int .i64 y, .int .i64 z, .int .i64 u]) ∧ -B ≤ x ∧ x ≤ B ∧ -B ≤ y ∧ y ≤ B ∧ -B ≤ z ∧ z ≤ B ∧ -B ≤ u ∧ u ≤ B ∧ k ≤ k' ∧ k' ≤ k + c ∧ Rd w' R k' ∧ Up R w.heap.size w w'

theorem sgn_bd {a b s : Int} (h1 : 0 ≤ a) (h2 : a < 100) (h3 : 0 ≤ b) (h4 : b < 100) (h5 : 0 ≤ s) (h6 : s < 2) : -9999 ≤ (a * 100 + b) * (1 - 2 * s) ∧ (a * 100 + b) * (1 - 2 * s) ≤ 9999 := by
  rcases two_of h5 h6 with rfl | rfl <;> omega
set_option maxHeartbeats 4000000 in
theorem lVec_any (R k : Nat) (w : World) (hr : Rd w R k) (hk : k < 900000) : Calls Try.prog 99 #[.pointer (some ⟨R, 0, none⟩)] w (DrawnVec 1000001 8 R k w) := by
  have hR := hr.lt
  have hne : w.heap.size ≠ R := by omega
  go_enter Try.func99, Try.ntmps99
  go_wp2_with fail; refine (pick_any R _ _ _ (by (first | assumption | exact Rd.keep ‹Rd _ R _› (by (repeat (first | with_reducible assumption | with_reducible exact Below.refl _ _ | ((with_reducible refine Below.alloc ?_ ?_ _); rotate_left; · exact (by first | omega | (simp; done) | (simp; omega))) | ((with_reducible refine Below.setCell ?_ ?_ _); rotate_left; · exact (by first | omega | (simp; done) | (simp; omega))) | with_reducible refine Below.drew ?_ | assumption | exact Below.refl _ _ | refine Below.alloc ?_ (by first | omega | (simp; done) | (simp; omega)) _ | refine Below.setCell ?_ (by first | omega | (simp; done) | (simp; omega)) _ | refine Below.drew ?_))))) (by omega) (by omega) (by omega)).mono ?_; rintro e w1 ⟨v1, rfl, hv1, hw1, hr1, hu1⟩; have hz1 : w.heap.size ≤ w1.heap.size := (by have := hu1.size; first | omega | (simp at this; omega)); have hU1 : Up R w.heap.size w w1 := upstep (by (repeat (first | assumption | exact Up.refl _ _ _ | refine Up.alloc ?_ (by first | omega | (simp; done) | (simp; omega)) _ | refine Up.setCell ?_ (.inr (by first | omega | (simp; done) | (simp; omega))) _ | refine Up.drew ?_ | refine Up.drewN ?_ _))) (by first | omega | (simp; done) | (simp; omega)) hu1
  go_wp2_with fail; refine (pick_any R _ _ _ (by (first | assumption | exact Rd.keep ‹Rd _ R _› (by (repeat (first | with_reducible assumption | with_reducible exact Below.refl _ _ | ((with_reducible refine Below.alloc ?_ ?_ _); rotate_left; · exact (by first | omega | (simp; done) | (simp; omega))) | ((with_reducible refine Below.setCell ?_ ?_ _); rotate_left; · exact (by first | omega | (simp; done) | (simp; omega))) | with_reducible refine Below.drew ?_ | assumption | exact Below.refl _ _ | refine Below.alloc ?_ (by first | omega | (simp; done) | (simp; omega)) _ | refine Below.setCell ?_ (by first | omega | (simp; done) | (simp; omega)) _ | refine Below.drew ?_))))) (by omega) (by omega) (by omega)).mono ?_; rintro e w2 ⟨v2, rfl, hv2, hw2, hr2, hu2⟩; have hz2 : w.heap.size ≤ w2.heap.size := (by have := hu2.size; first | omega | (simp at this; omega)); have hU2 : Up R w.heap.size w w2 := upstep (by (repeat (first | assumption | exact Up.refl _ _ _ | refine Up.alloc ?_ (by first | omega | (simp; done) | (simp; omega)) _ | refine Up.setCell ?_ (.inr (by first | omega | (simp; done) | (simp; omega))) _ | refine Up.drew ?_ | refine Up.drewN ?_ _))) (by first | omega | (simp; done) | (simp; omega)) hu2
  go_wp2_with fail; refine (pick_any R _ _ _ (by (first | assumption | exact Rd.keep ‹Rd _ R _› (by (repeat (first | with_reducible assumption | with_reducible exact Below.refl _ _ | ((with_reducible refine Below.alloc ?_ ?_ _); rotate_left; · exact (by first | omega | (simp; done) | (simp; omega))) | ((with_reducible refine Below.setCell ?_ ?_ _); rotate_left; · exact (by first | omega | (simp; done) | (simp; omega))) | with_reducible refine Below.drew ?_ | assumption | exact Below.refl _ _ | refine Below.alloc ?_ (by first | omega | (simp; done) | (simp; omega)) _ | refine Below.setCell ?_ (by first | omega | (simp; done) | (simp; omega)) _ | refine Below.drew ?_))))) (by omega) (by omega) (by omega)).mono ?_; rintro e w3 ⟨v3, rfl, hv3, hw3, hr3, hu3⟩; have hz3 : w.heap.size ≤ w3.heap.size := (by have := hu3.size; first | omega | (simp at this; omega)); have hU3 : Up R w.heap.size w w3 := upstep (by (repeat (first | assumption | exact Up.refl _ _ _ | refine Up.alloc ?_ (by first | omega | (simp; done) | (simp; omega)) _ | refine Up.setCell ?_ (.inr (by first | omega | (simp; done) | (simp; omega))) _ | refine Up.drew ?_ | refine Up.drewN ?_ _))) (by first | omega | (simp; done) | (simp; omega)) hu3
  obtain ⟨x1, x2⟩ := sgn_bd hv1 hw1 hv2 hw2 hv3 hw3
  go_wp2_with fail; refine (pick_any R _ _ _ (by (first | assumption | exact Rd.keep ‹Rd _ R _› (by (repeat (first | with_reducible assumption | with_reducible exact Below.refl _ _ | ((with_reducible refine Below.alloc ?_ ?_ _); rotate_left; · exact (by first | omega | (simp; done) | (simp; omega))) | ((with_reducible refine Below.setCell ?_ ?_ _); rotate_left; · exact (by first | omega | (simp; done) | (simp; omega))) | with_reducible refine Below.drew ?_ | assumption | exact Below.refl _ _ | refine Below.alloc ?_ (by first | omega | (simp; done) | (simp; omega)) _ | refine Below.setCell ?_ (by first | omega | (simp; done) | (simp; omega)) _ | refine Below.drew ?_))))) (by omega) (by omega) (by omega)).mono ?_; rintro e w4 ⟨v4, rfl, hv4, hw4, hr4, hu4⟩; have hz4 : w.heap.size ≤ w4.heap.size := (by have := hu4.size; first | omega | (simp at this; omega)); have hU4 : Up R w.heap.size w w4 := upstep (by (repeat (first | assumption | exact Up.refl _ _ _ | refine Up.alloc ?_ (by first | omega | (simp; done) | (simp; omega)) _ | refine Up.setCell ?_ (.inr (by first | omega | (simp; done) | (simp; omega))) _ | refine Up.drew ?_ | refine Up.drewN ?_ _))) (by first | omega | (simp; done) | (simp; omega)) hu4
  go_wp2_with fail; refine (pick_any R _ _ _ (by (first | assumption | exact Rd.keep ‹Rd _ R _› (by (repeat (first | with_reducible assumption | with_reducible exact Below.refl _ _ | ((with_reducible refine Below.alloc ?_ ?_ _); rotate_left; · exact (by first | omega | (simp; done) | (simp; omega))) | ((with_reducible refine Below.setCell ?_ ?_ _); rotate_left; · exact (by first | omega | (simp; done) | (simp; omega))) | with_reducible refine Below.drew ?_ | assumption | exact Below.refl _ _ | refine Below.alloc ?_ (by first | omega | (simp; done) | (simp; omega)) _ | refine Below.setCell ?_ (by first | omega | (simp; done) | (simp; omega)) _ | refine Below.drew ?_))))) (by omega) (by omega) (by omega)).mono ?_; rintro e w5 ⟨v5, rfl, hv5, hw5, hr5, hu5⟩; have hz5 : w.heap.size ≤ w5.heap.size := (by have := hu5.size; first | omega | (simp at this; omega)); have hU5 : Up R w.heap.size w w5 := upstep (by (repeat (first | assumption | exact Up.refl _ _ _ | refine Up.alloc ?_ (by first | omega | (simp; done) | (simp; omega)) _ | refine Up.setCell ?_ (.inr (by first | omega | (simp; done) | (simp; omega))) _ | refine Up.drew ?_ | refine Up.drewN ?_ _))) (by first | omega | (simp; done) | (simp; omega)) hu5
  go_wp2_with fail; refine (pick_any R _ _ _ (by (first | assumption | exact Rd.keep ‹Rd _ R _› (by (repeat (first | with_reducible assumption | with_reducible exact Below.refl _ _ | ((with_reducible refine Below.alloc ?_ ?_ _); rotate_left; · exact (by first | omega | (simp; done) | (simp; omega))) | ((with_reducible refine Below.setCell ?_ ?_ _); rotate_left; · exact (by first | omega | (simp; done) | (simp; omega))) | with_reducible refine Below.drew ?_ | assumption | exact Below.refl _ _ | refine Below.alloc ?_ (by first | omega | (simp; done) | (simp; omega)) _ | refine Below.setCell ?_ (by first | omega | (simp; done) | (simp; omega)) _ | refine Below.drew ?_))))) (by omega) (by omega) (by omega)).mono ?_; rintro e w6 ⟨v6, rfl, hv6, hw6, hr6, hu6⟩; have hz6 : w.heap.size ≤ w6.heap.size := (by have := hu6.size; first | omega | (simp at this; omega)); have hU6 : Up R w.heap.size w w6 := upstep (by (repeat (first | assumption | exact Up.refl _ _ _ | refine Up.alloc ?_ (by first | omega | (simp; done) | (simp; omega)) _ | refine Up.setCell ?_ (.inr (by first | omega | (simp; done) | (simp; omega))) _ | refine Up.drew ?_ | refine Up.drewN ?_ _))) (by first | omega | (simp; done) | (simp; omega)) hu6
  obtain ⟨y1, y2⟩ := sgn_bd hv4 hw4 hv5 hw5 hv6 hw6
  have A0 : Blk (w.alloc (.cells #[.int .i64 0, .int .i64 0] 24)) w.heap.size #[.int .i64 0, .int .i64 0] := Blk.at rfl
  have A1 := A0.up hu1 (by simp) hne
  have A2 := A1.up hu2 A1.lt hne
  have A3 := A2.up hu3 A2.lt hne
  have A4 := A3.up hu4 A3.lt hne
  have A5 := A4.up hu5 A4.lt hne
  have A6 := A5.up hu6 A5.lt hne
  go_wp2_with fail
  have hz6 := A6.lt
  have hne6 : w6.heap.size ≠ R := by omega
  have hd6 : w6.heap.size ≠ w.heap.size := by omega
  have hd6' : w.heap.size ≠ w6.heap.size := by omega
  clear hu1 hu2 hu3 hu4 hu5 hu6 hU1 hU2 hU3 hU4 hU5 hr1 hr2 hr3 hr4 hr5 hz1 hz2 hz3 hz4 hz5 A0 A1 A2 A3 A4 A5
  generalize (v1 * 100 + v2) * (1 - 2 * v3) = X at *
  generalize (v4 * 100 + v5) * (1 - 2 * v6) = Y at *
  clear hv1 hw1 hv2 hw2 hv3 hw3 hv4 hw4 hv5 hw5 hv6 hw6
  refine (pick_any R (k + 6) _ _ (by (first | assumption | exact Rd.keep ‹Rd _ R _› (by (repeat (first | with_reducible assumption | with_reducible exact Below.refl _ _ | ((with_reducible refine Below.alloc ?_ ?_ _); rotate_left; · exact (by first | omega | (simp; done) | (simp; omega))) | ((with_reducible refine Below.setCell ?_ ?_ _); rotate_left; · exact (by first | omega | (simp; done) | (simp; omega))) | with_reducible refine Below.drew ?_ | assumption | exact Below.refl _ _ | refine Below.alloc ?_ (by first | omega | (simp; done) | (simp; omega)) _ | refine Below.setCell ?_ (by first | omega | (simp; done) | (simp; omega)) _ | refine Below.drew ?_))))) (by omega) (by omega) (by omega)).mono ?_
  rintro e w7 ⟨v7, rfl, hv7, hw7, hr7, hu7⟩
  have V7 : Blk w7 w6.heap.size #[.int .i64 X, .int .i64 Y] := (Blk.at rfl).up hu7 (by simp) hne6
  have A7 := (A6.alloc _).up hu7 (by simp; omega) hne
  have hU7 : Up R w.heap.size w w7 := upstep (by (repeat (first | assumption | exact Up.refl _ _ _ | refine Up.alloc ?_ (by first | omega | (simp; done) | (simp; omega)) _ | refine Up.setCell ?_ (.inr (by first | omega | (simp; done) | (simp; omega))) _ | refine Up.drew ?_ | refine Up.drewN ?_ _))) (by first | omega | (simp; done) | (simp; omega)) hu7
  have hz7 := A7.lt
  have hz67 := V7.lt
  have hne7 : w7.heap.size ≠ R := by omega
  have hd7 : w7.heap.size ≠ w.heap.size := by omega
  have hd7' : w.heap.size ≠ w7.heap.size := by omega
  have hd67 : w7.heap.size ≠ w6.heap.size := by omega
  have hd67' : w6.heap.size ≠ w7.heap.size := by omega
  clear hu7 A6 hU6 hr6
  obtain ⟨p0, p1⟩ := V7.c2
  obtain ⟨q0, q1⟩ := A7.c2
  have p2 := V7.frozen
  have q2 := A7.frozen
  go_wp2_with fail
  · refine (pick_any R (k + 7) _ _ (by (first | assumption | exact Rd.keep ‹Rd _ R _› (by (repeat (first | with_reducible assumption | with_reducible exact Below.refl _ _ | ((with_reducible refine Below.alloc ?_ ?_ _); rotate_left; · exact (by first | omega | (simp; done) | (simp; omega))) | ((with_reducible refine Below.setCell ?_ ?_ _); rotate_left; · exact (by first | omega | (simp; done) | (simp; omega))) | with_reducible refine Below.drew ?_ | assumption | exact Below.refl _ _ | refine Below.alloc ?_ (by first | omega | (simp; done) | (simp; omega)) _ | refine Below.setCell ?_ (by first | omega | (simp; done) | (simp; omega)) _ | refine Below.drew ?_))))) (by omega) (by omega) (by omega)).mono ?_
    rintro e w8 ⟨v8, rfl, hv8, hw8, hr8, hu8⟩
    have V8 := (V7.alloc _).up hu8 (by simp; omega) hne6
    have A8 := (A7.alloc _).up hu8 (by simp; omega) hne
    have S8 : Blk w8 w7.heap.size #[.int .i64 _, .int .i64 _, .int .i64 _, .int .i64 _] := (Blk.at rfl).up hu8 (by simp) hne7
    have hU8 : Up R w.heap.size w w8 := upstep (by (repeat (first | assumption | exact Up.refl _ _ _ | refine Up.alloc ?_ (by first | omega | (simp; done) | (simp; omega)) _ | refine Up.setCell ?_ (.inr (by first | omega | (simp; done) | (simp; omega))) _ | refine Up.drew ?_ | refine Up.drewN ?_ _))) (by first | omega | (simp; done) | (simp; omega)) hu8
    have hz8 := A8.lt
    have hz68 := V8.lt
    have hz78 := S8.lt
    clear hu8 hU7 hr7 A7 p0 p1 q0 q1 p2 q2
    obtain ⟨p0, p1⟩ := V8.c2
    obtain ⟨q0, q1⟩ := A8.c2
    have p2 := V8.frozen
    have q2 := A8.frozen
    obtain ⟨s0, s1, s2, s3⟩ := S8.c4
    rcases four_of hv8 hw8 with rfl | rfl | rfl | rfl
    all_goals
      go_wp2
      refine bodyPost_ret (res_row rfl rfl (((A8.other hd6' _).s2_0 _).s2_1 _) Try.underlying24 rfl (by kernel_rfl)) rfl ?_
      exact ⟨_, _, k + 8, rfl, by omega, by omega, by omega, by omega, by omega, by omega, by (first | assumption | exact Rd.keep ‹Rd _ R _› (by (repeat (first | with_reducible assumption | with_reducible exact Below.refl _ _ | ((with_reducible refine Below.alloc ?_ ?_ _); rotate_left; · exact (by first | omega | (simp; done) | (simp; omega))) | ((with_reducible refine Below.setCell ?_ ?_ _); rotate_left; · exact (by first | omega | (simp; done) | (simp; omega))) | with_reducible refine Below.drew ?_ | assumption | exact Below.refl _ _ | refine Below.alloc ?_ (by first | omega | (simp; done) | (simp; omega)) _ | refine Below.setCell ?_ (by first | omega | (simp; done) | (simp; omega)) _ | refine Below.drew ?_)))), by (repeat (first | assumption | exact Up.refl _ _ _ | refine Up.alloc ?_ (by first | omega | (simp; done) | (simp; omega)) _ | refine Up.setCell ?_ (.inr (by first | omega | (simp; done) | (simp; omega))) _ | refine Up.drew ?_ | refine Up.drewN ?_ _))⟩
  · refine (pick_any R (k + 7) _ _ (by (first | assumption | exact Rd.keep ‹Rd _ R _› (by (repeat (first | with_reducible assumption | with_reducible exact Below.refl _ _ | ((with_reducible refine Below.alloc ?_ ?_ _); rotate_left; · exact (by first | omega | (simp; done) | (simp; omega))) | ((with_reducible refine Below.setCell ?_ ?_ _); rotate_left; · exact (by first | omega | (simp; done) | (simp; omega))) | with_reducible refine Below.drew ?_ | assumption | exact Below.refl _ _ | refine Below.alloc ?_ (by first | omega | (simp; done) | (simp; omega)) _ | refine Below.setCell ?_ (by first | omega | (simp; done) | (simp; omega)) _ | refine Below.drew ?_))))) (by omega) (by omega) (by omega)).mono ?_
    rintro e w8 ⟨v8, rfl, hv8, hw8, hr8, hu8⟩
    have V8 := (V7.alloc _).up hu8 (by simp; omega) hne6
    have A8 := (A7.alloc _).up hu8 (by simp; omega) hne
    have S8 : Blk w8 w7.heap.size #[.int .i64 _, .int .i64 _, .int .i64 _, .int .i64 _] := (Blk.at rfl).up hu8 (by simp) hne7
    have hU8 : Up R w.heap.size w w8 := upstep (by (repeat (first | assumption | exact Up.refl _ _ _ | refine Up.alloc ?_ (by first | omega | (simp; done) | (simp; omega)) _ | refine Up.setCell ?_ (.inr (by first | omega | (simp; done) | (simp; omega))) _ | refine Up.drew ?_ | refine Up.drewN ?_ _))) (by first | omega | (simp; done) | (simp; omega)) hu8
    have hz8 := A8.lt
    have hz68 := V8.lt
    have hz78 := S8.lt
    clear hu8 hU7 hr7 A7 p0 p1 q0 q1 p2 q2
    obtain ⟨p0, p1⟩ := V8.c2
    obtain ⟨q0, q1⟩ := A8.c2
    have p2 := V8.frozen
    have q2 := A8.frozen
    obtain ⟨s0, s1, s2, s3⟩ := S8.c4
    rcases four_of hv8 hw8 with rfl | rfl | rfl | rfl
    all_goals
      go_wp2
      refine bodyPost_ret (res_row rfl rfl (((A8.other hd6' _).s2_0 _).s2_1 _) Try.underlying24 rfl (by kernel_rfl)) rfl ?_
      exact ⟨_, _, k + 8, rfl, by omega, by omega, by omega, by omega, by omega, by omega, by (first | assumption | exact Rd.keep ‹Rd _ R _› (by (repeat (first | with_reducible assumption | with_reducible exact Below.refl _ _ | ((with_reducible refine Below.alloc ?_ ?_ _); rotate_left; · exact (by first | omega | (simp; done) | (simp; omega))) | ((with_reducible refine Below.setCell ?_ ?_ _); rotate_left; · exact (by first | omega | (simp; done) | (simp; omega))) | with_reducible refine Below.drew ?_ | assumption | exact Below.refl _ _ | refine Below.alloc ?_ (by first | omega | (simp; done) | (simp; omega)) _ | refine Below.setCell ?_ (by first | omega | (simp; done) | (simp; omega)) _ | refine Below.drew ?_)))), by (repeat (first | assumption | exact Up.refl _ _ _ | refine Up.alloc ?_ (by first | omega | (simp; done) | (simp; omega)) _ | refine Up.setCell ?_ (.inr (by first | omega | (simp; done) | (simp; omega))) _ | refine Up.drew ?_ | refine Up.drewN ?_ _))⟩
  · refine bodyPost_ret (res_row rfl rfl ((((A7.other hd6' _).other hd6' _).s2_0 _).s2_1 _) Try.underlying24 rfl (by kernel_rfl)) rfl ?_
    exact ⟨_, _, k + 7, rfl, by omega, by omega, by omega, by omega, by omega, by omega, by (first | assumption | exact Rd.keep ‹Rd _ R _› (by (repeat (first | with_reducible assumption | with_reducible exact Below.refl _ _ | ((with_reducible refine Below.alloc ?_ ?_ _); rotate_left; · exact (by first | omega | (simp; done) | (simp; omega))) | ((with_reducible refine Below.setCell ?_ ?_ _); rotate_left; · exact (by first | omega | (simp; done) | (simp; omega))) | with_reducible refine Below.drew ?_ | assumption | exact Below.refl _ _ | refine Below.alloc ?_ (by first | omega | (simp; done) | (simp; omega)) _ | refine Below.setCell ?_ (by first | omega | (simp; done) | (simp; omega)) _ | refine Below.drew ?_)))), by (repeat (first | assumption | exact Up.refl _ _ _ | refine Up.alloc ?_ (by first | omega | (simp; done) | (simp; omega)) _ | refine Up.setCell ?_ (.inr (by first | omega | (simp; done) | (simp; omega))) _ | refine Up.drew ?_ | refine Up.drewN ?_ _))⟩
  · refine bodyPost_ret (res_row rfl rfl ((A7.s2_0 _).s2_1 _) Try.underlying24 rfl (by kernel_rfl)) rfl ?_
    exact ⟨_, _, k + 7, rfl, by omega, by omega, by omega, by omega, by omega, by omega, by (first | assumption | exact Rd.keep ‹Rd _ R _› (by (repeat (first | with_reducible assumption | with_reducible exact Below.refl _ _ | ((with_reducible refine Below.alloc ?_ ?_ _); rotate_left; · exact (by first | omega | (simp; done) | (simp; omega))) | ((with_reducible refine Below.setCell ?_ ?_ _); rotate_left; · exact (by first | omega | (simp; done) | (simp; omega))) | with_reducible refine Below.drew ?_ | assumption | exact Below.refl _ _ | refine Below.alloc ?_ (by first | omega | (simp; done) | (simp; omega)) _ | refine Below.setCell ?_ (by first | omega | (simp; done) | (simp; omega)) _ | refine Below.drew ?_)))), by (repeat (first | assumption | exact Up.refl _ _ _ | refine Up.alloc ?_ (by first | omega | (simp; done) | (simp; omega)) _ | refine Up.setCell ?_ (.inr (by first | omega | (simp; done) | (simp; omega))) _ | refine Up.drew ?_ | refine Up.drewN ?_ _))⟩
end Go.Proofs.Ytnhjalijnociaaa

/- The boxes and points drawn. -/
set_option linter.unusedVariables false
namespace Go.Proofs.Ytnhjalijnociaaa
open Go.RowKit

set_option maxRecDepth 100000 in
set_option maxHeartbeats 1000000 in
theorem lBox_any (R k : Nat) (w : World) (hr : Rd w R k) (hk : k < 900000) : Calls Try.prog 100 #[.pointer (some ⟨R, 0, none⟩)] w (DrawnBox 1010000 12 R k w) := by
  have hR := hr.lt
  have hne : w.heap.size ≠ R := by omega
  go_enter Try.func100, Try.ntmps100
  go_wp2_with fail
  refine (lVec_any R k _ (by (first | assumption | exact Rd.keep ‹Rd _ R _› (by (repeat (first | with_reducible assumption | with_reducible exact Below.refl _ _ | ((with_reducible refine Below.alloc ?_ ?_ _); rotate_left; · exact (by first | omega | (simp; done) | (simp; omega))) | ((with_reducible refine Below.setCell ?_ ?_ _); rotate_left; · exact (by first | omega | (simp; done) | (simp; omega))) | with_reducible refine Below.drew ?_ | assumption | exact Below.refl _ _ | refine Below.alloc ?_ (by first | omega | (simp; done) | (simp; omega)) _ | refine Below.setCell ?_ (by first | omega | (simp; done) | (simp; omega)) _ | refine Below.drew ?_))))) (by omega)).mono ?_
  rintro e w1 ⟨x, y, k1, rfl, hx1, hx2, hy1, hy2, hk1, hk2, hr1, hu1⟩
  obtain ⟨hc1, hf1⟩ := rcell hu1; have hz1 : w.heap.size < w1.heap.size := (by have := hu1.size; first | omega | (simp at this; omega)); have hy1 : w.heap.size < w1.heap.size + 1 := Nat.lt_succ_of_lt hz1; have hU1 : Up R w.heap.size w w1 := upstep (by (repeat (first | assumption | exact Up.refl _ _ _ | refine Up.alloc ?_ (by first | omega | (simp; done) | (simp; omega)) _ | refine Up.setCell ?_ (.inr (by first | omega | (simp; done) | (simp; omega))) _ | refine Up.drew ?_ | refine Up.drewN ?_ _))) (by first | omega | (simp; done) | (simp; omega)) hu1
  have hn1 : w1.heap.size ≠ R := by omega
  have A01 : Blk w1 w.heap.size #[.int .i64 0, .int .i64 0, .int .i64 0, .int .i64 0] := (Blk.at rfl).up hu1 (by simp) hne
  go_wp2_with fail
  have A1 : Blk (w1.alloc (.cells #[.int .i64 x, .int .i64 y] 24)) w1.heap.size #[.int .i64 x, .int .i64 y] := Blk.at rfl
  have A1b := A1.alloc (.cells #[.int .i64 0, .int .i64 0, .int .i64 0, .int .i64 0] 27)
  have hr1a : Rd (w1.alloc (.cells #[.int .i64 x, .int .i64 y] 24)) R k1 := Rd.keep hr1 (by (repeat (first | with_reducible assumption | with_reducible exact Below.refl _ _ | ((with_reducible refine Below.alloc ?_ ?_ _); rotate_left; · exact (by first | omega | (simp; done) | (simp; omega))) | ((with_reducible refine Below.setCell ?_ ?_ _); rotate_left; · exact (by first | omega | (simp; done) | (simp; omega))) | with_reducible refine Below.drew ?_ | assumption | exact Below.refl _ _ | refine Below.alloc ?_ (by first | omega | (simp; done) | (simp; omega)) _ | refine Below.setCell ?_ (by first | omega | (simp; done) | (simp; omega)) _ | refine Below.drew ?_)))
  have hr1b : Rd ((w1.alloc (.cells #[.int .i64 x, .int .i64 y] 24)).alloc (.cells #[.int .i64 0, .int .i64 0, .int .i64 0, .int .i64 0] 27)) R k1 := Rd.keep hr1a (by (repeat (first | with_reducible assumption | with_reducible exact Below.refl _ _ | ((with_reducible refine Below.alloc ?_ ?_ _); rotate_left; · exact (by first | omega | (simp; done) | (simp; omega))) | ((with_reducible refine Below.setCell ?_ ?_ _); rotate_left; · exact (by first | omega | (simp; done) | (simp; omega))) | with_reducible refine Below.drew ?_ | assumption | exact Below.refl _ _ | refine Below.alloc ?_ (by first | omega | (simp; done) | (simp; omega)) _ | refine Below.setCell ?_ (by first | omega | (simp; done) | (simp; omega)) _ | refine Below.drew ?_)))
  have z1 : k1 < 1000000 := by omega
  have z2 : k1 + 1 < 1000000 := by omega
  have z3 : (1 : Int) ≤ 50 := by omega
  have z4 : (50 : Int) ≤ 1000000000 := by omega
  have zA : w1.heap.size < (w1.alloc (.cells #[.int .i64 x, .int .i64 y] 24)).drew.heap.size := by simp
  have zB : w1.heap.size < ((w1.alloc (.cells #[.int .i64 x, .int .i64 y] 24)).alloc (.cells #[.int .i64 0, .int .i64 0, .int .i64 0, .int .i64 0] 27)).drew.heap.size := by simp; omega
  have hr1a' : Rd (w1.alloc (.cells #[.int .i64 x, .int .i64 y] 24)).drew R k1 := hr1a
  have hr1b' : Rd ((w1.alloc (.cells #[.int .i64 x, .int .i64 y] 24)).alloc (.cells #[.int .i64 0, .int .i64 0, .int .i64 0, .int .i64 0] 27)).drew R k1 := hr1b
  have A1' : Blk (w1.alloc (.cells #[.int .i64 x, .int .i64 y] 24)).drew w1.heap.size #[.int .i64 x, .int .i64 y] := A1
  have A1b' : Blk ((w1.alloc (.cells #[.int .i64 x, .int .i64 y] 24)).alloc (.cells #[.int .i64 0, .int .i64 0, .int .i64 0, .int .i64 0] 27)).drew w1.heap.size #[.int .i64 x, .int .i64 y] := A1b
  clear hr1a hr1b
  have hn1b : w1.heap.size + 1 ≠ R := by omega
  have B1b' : Blk ((w1.alloc (.cells #[.int .i64 x, .int .i64 y] 24)).alloc (.cells #[.int .i64 0, .int .i64 0, .int .i64 0, .int .i64 0] 27)).drew (w1.heap.size + 1) #[.int .i64 0, .int .i64 0, .int .i64 0, .int .i64 0] := (show Blk ((w1.alloc (.cells #[.int .i64 x, .int .i64 y] 24)).alloc (.cells #[.int .i64 0, .int .i64 0, .int .i64 0, .int .i64 0] 27)) (w1.heap.size + 1) #[.int .i64 0, .int .i64 0, .int .i64 0, .int .i64 0] from Blk.at (by simp))
  have zC : w1.heap.size + 1 < ((w1.alloc (.cells #[.int .i64 x, .int .i64 y] 24)).alloc (.cells #[.int .i64 0, .int .i64 0, .int .i64 0, .int .i64 0] 27)).drew.heap.size := by simp
  have hB1 : w1.heap.size ≠ w1.heap.size + 1 := by omega
  have tokA : True := trivial
  go_region_held3 (fun W => W.cell? ⟨w1.heap.size, 0, none⟩ = some (.int .i64 x) ∧ W.cell? ⟨w1.heap.size, 1, none⟩ = some (.int .i64 y))
    (((try simp only [World.cell?_drew]); (first | with_reducible exact A1.c2 | with_reducible exact A1b.c2 | with_reducible exact A2.c2 | (with_reducible exact (A2.alloc _).c2) | with_reducible exact A3.c2 | (with_reducible exact (A3.alloc _).c2) | (with_reducible exact ((((A3.other hB1 _).other hB1 _).other hB1 _).other hB1 _).c2) | (with_reducible exact ((((A3.other hB2 _).other hB2 _).other hB2 _).other hB2 _).c2) | (with_reducible exact (((((A3.alloc _).other hB3 _).other hB3 _).other hB3 _).other hB3 _).c2) | (have hA := A3.c2; have hz := hz13; have hy : w1.heap.size ≠ w3.heap.size := by omega; simp [hA.1, hA.2, hz, hy, World.cell?_alloc_some, World.cell?_setCell_far]) | fail)))
    (first
      | (go_at_call 58; have _t := tokA; (with_reducible refine (pick_any R k1 50 _ hr1a' z1 z3 z4).mono ?_); rintro e w2 ⟨v2, rfl, hv2, hw2, hr2, hu2⟩; (have hz12 : w1.heap.size < w2.heap.size := by have := hu2.size; simp at this; omega); (have A2 := A1'.up hu2 zA hn1); clear tokA)
      | (go_at_call 58; have _t := tokA; (with_reducible refine (pick_any R k1 50 _ hr1b' z1 z3 z4).mono ?_); rintro e w2 ⟨v2, rfl, hv2, hw2, hr2, hu2⟩; (have hz12 : w1.heap.size < w2.heap.size := by have := hu2.size; simp at this; omega); (have A2 := A1b'.up hu2 zB hn1); (have B2 := B1b'.up hu2 zC hn1b); (have tokB : True := trivial); clear tokA)
      | (go_at_call 58; have _t := tokB; (with_reducible refine (pick_any R (k1 + 1) 50 _ hr2 z2 z3 z4).mono ?_); rintro e w3 ⟨v3, rfl, hv3, hw3, hr3, hu3⟩; (have hz13 : w1.heap.size < w3.heap.size := by have := hu3.size; omega); (have hB2 : w1.heap.size ≠ w2.heap.size := by omega); (have hB3 : w1.heap.size ≠ w3.heap.size := by omega); (have A3 := A2.up hu3 hz12 hn1); (have B3 := B2.up hu3 B2.lt hn1b); obtain ⟨b0, b1, b2, b3⟩ := B3.c4; (have bf := B3.frozen))
      | (go_at_call 58; (with_reducible refine (pick_any R (k1 + 1) 50 _ hr2 z2 z3 z4).mono ?_); rintro e w3 ⟨v3, rfl, hv3, hw3, hr3, hu3⟩; (have hz13 : w1.heap.size < w3.heap.size := by have := hu3.size; omega); (have hB2 : w1.heap.size ≠ w2.heap.size := by omega); (have hB3 : w1.heap.size ≠ w3.heap.size := by omega); (have A3 := A2.up hu3 hz12 hn1))
      | (go_at_call 58; (refine (pick_any R (k1 + 1) 50 _ (Rd.keep hr2 (by (repeat (first | with_reducible assumption | with_reducible exact Below.refl _ _ | ((with_reducible refine Below.alloc ?_ ?_ _); rotate_left; · exact (by first | omega | (simp; done) | (simp; omega))) | ((with_reducible refine Below.setCell ?_ ?_ _); rotate_left; · exact (by first | omega | (simp; done) | (simp; omega))) | with_reducible refine Below.drew ?_ | assumption | exact Below.refl _ _ | refine Below.alloc ?_ (by first | omega | (simp; done) | (simp; omega)) _ | refine Below.setCell ?_ (by first | omega | (simp; done) | (simp; omega)) _ | refine Below.drew ?_)))) z2 z3 z4).mono ?_); rintro e w3 ⟨v3, rfl, hv3, hw3, hr3, hu3⟩; (have hz13 : w1.heap.size < w3.heap.size := by have := hu3.size; simp at this; omega); (have hB2 : w1.heap.size ≠ w2.heap.size := by omega); (have hB3 : w1.heap.size ≠ w3.heap.size := by omega); (have A3 := (A2.alloc _).up hu3 (by simp; omega) hn1); (have hn2 : w2.heap.size ≠ R := by omega); (have B3 : Blk w3 w2.heap.size #[.int .i64 0, .int .i64 0, .int .i64 0, .int .i64 0] := (Blk.at rfl).up hu3 (by simp) hn2); obtain ⟨b0, b1, b2, b3⟩ := B3.c4; (have bf := B3.frozen)))
  · have e2 : IntKind.i64.wrap (x + IntKind.i64.wrap (v2 * 100)) = x + v2 * 100 := by rw [IntWalk.i64_in (v2 * 100) (by omega)]; exact IntWalk.i64_in _ (by omega)
    have e3 : IntKind.i64.wrap (y + IntKind.i64.wrap (v3 * 100)) = y + v3 * 100 := by rw [IntWalk.i64_in (v3 * 100) (by omega)]; exact IntWalk.i64_in _ (by omega)
    rw [e2, e3]
    clear e2 e3
    have A02 := Blk.up (w := (w1.alloc (.cells #[.int .i64 x, .int .i64 y] 24)).drew) (A01.alloc (.cells #[.int .i64 x, .int .i64 y] 24)) hu2 (by simp; omega) hne
    have A03 := A02.up hu3 A02.lt hne
    have hU2 : Up R w.heap.size w w2 := upstep (by (repeat (first | assumption | exact Up.refl _ _ _ | refine Up.alloc ?_ (by first | omega | (simp; done) | (simp; omega)) _ | refine Up.setCell ?_ (.inr (by first | omega | (simp; done) | (simp; omega))) _ | refine Up.drew ?_ | refine Up.drewN ?_ _))) (by first | omega | (simp; done) | (simp; omega)) hu2
    have hU3 : Up R w.heap.size w w3 := upstep (by (repeat (first | assumption | exact Up.refl _ _ _ | refine Up.alloc ?_ (by first | omega | (simp; done) | (simp; omega)) _ | refine Up.setCell ?_ (.inr (by first | omega | (simp; done) | (simp; omega))) _ | refine Up.drew ?_ | refine Up.drewN ?_ _))) (by first | omega | (simp; done) | (simp; omega)) hu3
    have B5 : Blk (w3.alloc (.cells #[.int .i64 x, .int .i64 y, .int .i64 (x + v2 * 100), .int .i64 (y + v3 * 100)] 27)) (w3.heap.size) #[.int .i64 x, .int .i64 y, .int .i64 (x + v2 * 100), .int .i64 (y + v3 * 100)] := Blk.at rfl
    have A05 : Blk (w3.alloc (.cells #[.int .i64 x, .int .i64 y, .int .i64 (x + v2 * 100), .int .i64 (y + v3 * 100)] 27)) w.heap.size #[.int .i64 0, .int .i64 0, .int .i64 0, .int .i64 0] := A03.alloc _
    have hr5 : Rd (w3.alloc (.cells #[.int .i64 x, .int .i64 y, .int .i64 (x + v2 * 100), .int .i64 (y + v3 * 100)] 27)) R (k1 + 1 + 1) := Rd.keep hr3 (by (repeat (first | with_reducible assumption | with_reducible exact Below.refl _ _ | ((with_reducible refine Below.alloc ?_ ?_ _); rotate_left; · exact (by first | omega | (simp; done) | (simp; omega))) | ((with_reducible refine Below.setCell ?_ ?_ _); rotate_left; · exact (by first | omega | (simp; done) | (simp; omega))) | with_reducible refine Below.drew ?_ | assumption | exact Below.refl _ _ | refine Below.alloc ?_ (by first | omega | (simp; done) | (simp; omega)) _ | refine Below.setCell ?_ (by first | omega | (simp; done) | (simp; omega)) _ | refine Below.drew ?_)))
    have hU5 : Up R w.heap.size w (w3.alloc (.cells #[.int .i64 x, .int .i64 y, .int .i64 (x + v2 * 100), .int .i64 (y + v3 * 100)] 27)) := by (repeat (first | assumption | exact Up.refl _ _ _ | refine Up.alloc ?_ (by first | omega | (simp; done) | (simp; omega)) _ | refine Up.setCell ?_ (.inr (by first | omega | (simp; done) | (simp; omega))) _ | refine Up.drew ?_ | refine Up.drewN ?_ _))
    generalize hW5 : (w3.alloc (.cells #[.int .i64 x, .int .i64 y, .int .i64 (x + v2 * 100), .int .i64 (y + v3 * 100)] 27)) = W5 at *
    clear hW5
    have bX1 : -1010000 ≤ x + v2 * 100 := by omega
    have bX2 : x + v2 * 100 ≤ 1010000 := by omega
    have bY1 : -1010000 ≤ y + v3 * 100 := by omega
    have bY2 : y + v3 * 100 ≤ 1010000 := by omega
    generalize x + v2 * 100 = X at *
    generalize y + v3 * 100 = Y at *
    have hB0 : w.heap.size ≠ w3.heap.size := by omega
    have hBR : w3.heap.size ≠ R := by omega
    have hRB : R < w3.heap.size := by omega
    clear hc1 hf1 hr1 hu1 hU1 hr1a' hr1b' A1 A1b A1' A1b' B1b' zA zB zC A01 A02 A03 hU2 hU3 hr2 hr3 hu2 hu3 A2 A3
    go_wp2_with fail
    refine (pick_any R (k1 + 1 + 1) 16 _ hr5 (by omega) (by omega) (by omega)).mono ?_
    rintro e w6 ⟨v6, rfl, hv6, hw6, hr6, hu6⟩
    have B6 := B5.up hu6 B5.lt hBR
    have A6 := A05.up hu6 A05.lt hne
    have hU6 : Up R w.heap.size w w6 := hU5.trans (hu6.mono hU5.size)
    clear hu6 hU5 hr5 B5 A05
    by_cases h6 : v6 = 0
    · subst h6
      go_wp2_with fail
      have y1 : k1 + 1 + 1 + 1 < 1000000 := by omega
      have y2 : (1 : Int) ≤ 3 := by omega
      have y3 : (3 : Int) ≤ 1000000000 := by omega
      have hr6d : Rd w6.drew R (k1 + 1 + 1 + 1) := hr6
      have B6d : Blk w6.drew (w3.heap.size) #[.int .i64 x, .int .i64 y, .int .i64 X, .int .i64 Y] := B6
      have A6d : Blk w6.drew w.heap.size #[.int .i64 0, .int .i64 0, .int .i64 0, .int .i64 0] := A6
      have hU6d : Up R w.heap.size w w6.drew := hU6.drew
      go_region_held3 (fun W => W.cell? ⟨w3.heap.size, 0, none⟩ = some (.int .i64 x))
        (((try simp only [World.cell?_drew]); (first | with_reducible exact B6.c4.1 | with_reducible exact B7.c4.1 | (with_reducible exact (B7.s4_2 _).c4.1) | fail)))
        (first
          | (go_at_call 58; (with_reducible refine (pick_any R (k1 + 1 + 1 + 1) 3 _ hr6d y1 y2 y3).mono ?_); rintro e w7 ⟨v7, rfl, hv7, hw7, hr7, hu7⟩; (have B7 := B6d.up hu7 B6d.lt hBR); (have A7 := A6d.up hu7 A6d.lt hne); obtain ⟨b0, b1, b2, b3⟩ := B7.c4; (have bf := B7.frozen)))
      have e7 : IntKind.i64.wrap (x - v7) = x - v7 := IntWalk.i64_in _ (by omega)
      rw [e7]
      have hU7 : Up R w.heap.size w w7 := hU6d.trans (hu7.mono hU6d.size)
      have hO := Lib.hid (B7.s4_2 (.int .i64 (x - v7)))
      have hA := Lib.hid (A7.other hB0 (.int .i64 (x - v7)) (p := ⟨w3.heap.size, 2, none⟩))
      have hr8 : Rd (w7.setCell ⟨w3.heap.size, 2, none⟩ (.int .i64 (x - v7))) R (k1 + 1 + 1 + 1 + 1) := Rd.keep hr7 (by (repeat (first | with_reducible assumption | with_reducible exact Below.refl _ _ | ((with_reducible refine Below.alloc ?_ ?_ _); rotate_left; · exact (by first | omega | (simp; done) | (simp; omega))) | ((with_reducible refine Below.setCell ?_ ?_ _); rotate_left; · exact (by first | omega | (simp; done) | (simp; omega))) | with_reducible refine Below.drew ?_ | assumption | exact Below.refl _ _ | refine Below.alloc ?_ (by first | omega | (simp; done) | (simp; omega)) _ | refine Below.setCell ?_ (by first | omega | (simp; done) | (simp; omega)) _ | refine Below.drew ?_)))
      have hU8 : Up R w.heap.size w (w7.setCell ⟨w3.heap.size, 2, none⟩ (.int .i64 (x - v7))) := hU7.setCell (.inr (by simp only; omega)) _
      have hS := Lib.hid (hA.out.row #[.int .i64 x, .int .i64 y, .int .i64 (x - v7), .int .i64 Y])
      have hz7 := A7.lt
      clear b0 b1 b2 b3 bf B7 A7 B6 A6 B6d A6d hr6d hr7 hu7 hU6 hU6d hU7
      go_upto_region 5 with fail
      refine wp_copy (ty := 27) rfl hO.out Try.underlying27 rfl (by kernel_rfl) rfl rfl hA.out rfl (by simp [Value.oneCell']) ?_
      rename_i K hK
      refine hK _ _ (wp_ret ?_)
      refine bodyPost_ret (res_row rfl rfl hS.out Try.underlying27 rfl (by kernel_rfl)) rfl ?_
      exact ⟨_, _, _, _, k1 + 1 + 1 + 1 + 1, rfl, by omega, by omega, by omega, by omega, by omega, by omega, by omega, by omega, by omega, by omega, Rd.keep hr8 (Below.setRow (Below.refl _ _) (by omega) _), hU8.setRow (Nat.le_refl _) _⟩
    · have h6b : (v6 == 0) = false := by simpa using h6
      have hO := Lib.hid B6
      have hA := Lib.hid A6
      have hS := Lib.hid (A6.row #[.int .i64 x, .int .i64 y, .int .i64 X, .int .i64 Y])
      have hz6 := A6.lt
      clear B6 A6 h6
      go_upto_region 5 with fail
      refine wp_copy (ty := 27) rfl hO.out Try.underlying27 rfl (by kernel_rfl) rfl rfl hA.out rfl (by simp [Value.oneCell']) ?_
      rename_i K hK
      refine hK _ _ (wp_ret ?_)
      refine bodyPost_ret (res_row rfl rfl hS.out Try.underlying27 rfl (by kernel_rfl)) rfl ?_
      exact ⟨_, _, _, _, k1 + 1 + 1 + 1, rfl, by omega, by omega, by omega, by omega, by omega, by omega, by omega, by omega, by omega, by omega, Rd.keep hr6 (Below.setRow (Below.refl _ _) (by omega) _), hU6.setRow (Nat.le_refl _) _⟩
  · have e2 : IntKind.i64.wrap (x + IntKind.i64.wrap (v2 * 100)) = x + v2 * 100 := by rw [IntWalk.i64_in (v2 * 100) (by omega)]; exact IntWalk.i64_in _ (by omega)
    have e3 : IntKind.i64.wrap (y + IntKind.i64.wrap (v3 * 100)) = y + v3 * 100 := by rw [IntWalk.i64_in (v3 * 100) (by omega)]; exact IntWalk.i64_in _ (by omega)
    rw [e2, e3]
    clear e2 e3
    have A02 := Blk.up (w := (w1.alloc (.cells #[.int .i64 x, .int .i64 y] 24)).drew) (A01.alloc (.cells #[.int .i64 x, .int .i64 y] 24)) hu2 (by simp; omega) hne
    have A03 := (A02.alloc (.cells #[.int .i64 0, .int .i64 0, .int .i64 0, .int .i64 0] 27)).up hu3 (by simp; omega) hne
    have hU2 : Up R w.heap.size w w2 := upstep (by (repeat (first | assumption | exact Up.refl _ _ _ | refine Up.alloc ?_ (by first | omega | (simp; done) | (simp; omega)) _ | refine Up.setCell ?_ (.inr (by first | omega | (simp; done) | (simp; omega))) _ | refine Up.drew ?_ | refine Up.drewN ?_ _))) (by first | omega | (simp; done) | (simp; omega)) hu2
    have hU3 : Up R w.heap.size w w3 := upstep (by (repeat (first | assumption | exact Up.refl _ _ _ | refine Up.alloc ?_ (by first | omega | (simp; done) | (simp; omega)) _ | refine Up.setCell ?_ (.inr (by first | omega | (simp; done) | (simp; omega))) _ | refine Up.drew ?_ | refine Up.drewN ?_ _))) (by first | omega | (simp; done) | (simp; omega)) hu3
    have B5 : Blk ((((w3.setCell ⟨w2.heap.size, 0, none⟩ (.int .i64 x)).setCell ⟨w2.heap.size, 1, none⟩ (.int .i64 y)).setCell ⟨w2.heap.size, 2, none⟩ (.int .i64 (x + v2 * 100))).setCell ⟨w2.heap.size, 3, none⟩ (.int .i64 (y + v3 * 100))) (w2.heap.size) #[.int .i64 x, .int .i64 y, .int .i64 (x + v2 * 100), .int .i64 (y + v3 * 100)] := (((B3.s4_0 _).s4_1 _).s4_2 _).s4_3 _
    have A05 : Blk ((((w3.setCell ⟨w2.heap.size, 0, none⟩ (.int .i64 x)).setCell ⟨w2.heap.size, 1, none⟩ (.int .i64 y)).setCell ⟨w2.heap.size, 2, none⟩ (.int .i64 (x + v2 * 100))).setCell ⟨w2.heap.size, 3, none⟩ (.int .i64 (y + v3 * 100))) w.heap.size #[.int .i64 0, .int .i64 0, .int .i64 0, .int .i64 0] := (((A03.other (by simp only; omega) _).other (by simp only; omega) _).other (by simp only; omega) _).other (by simp only; omega) _
    have hr5 : Rd ((((w3.setCell ⟨w2.heap.size, 0, none⟩ (.int .i64 x)).setCell ⟨w2.heap.size, 1, none⟩ (.int .i64 y)).setCell ⟨w2.heap.size, 2, none⟩ (.int .i64 (x + v2 * 100))).setCell ⟨w2.heap.size, 3, none⟩ (.int .i64 (y + v3 * 100))) R (k1 + 1 + 1) := Rd.keep hr3 (by (repeat (first | with_reducible assumption | with_reducible exact Below.refl _ _ | ((with_reducible refine Below.alloc ?_ ?_ _); rotate_left; · exact (by first | omega | (simp; done) | (simp; omega))) | ((with_reducible refine Below.setCell ?_ ?_ _); rotate_left; · exact (by first | omega | (simp; done) | (simp; omega))) | with_reducible refine Below.drew ?_ | assumption | exact Below.refl _ _ | refine Below.alloc ?_ (by first | omega | (simp; done) | (simp; omega)) _ | refine Below.setCell ?_ (by first | omega | (simp; done) | (simp; omega)) _ | refine Below.drew ?_)))
    have hU5 : Up R w.heap.size w ((((w3.setCell ⟨w2.heap.size, 0, none⟩ (.int .i64 x)).setCell ⟨w2.heap.size, 1, none⟩ (.int .i64 y)).setCell ⟨w2.heap.size, 2, none⟩ (.int .i64 (x + v2 * 100))).setCell ⟨w2.heap.size, 3, none⟩ (.int .i64 (y + v3 * 100))) := by (repeat (first | assumption | exact Up.refl _ _ _ | refine Up.alloc ?_ (by first | omega | (simp; done) | (simp; omega)) _ | refine Up.setCell ?_ (.inr (by first | omega | (simp; done) | (simp; omega))) _ | refine Up.drew ?_ | refine Up.drewN ?_ _))
    generalize hW5 : ((((w3.setCell ⟨w2.heap.size, 0, none⟩ (.int .i64 x)).setCell ⟨w2.heap.size, 1, none⟩ (.int .i64 y)).setCell ⟨w2.heap.size, 2, none⟩ (.int .i64 (x + v2 * 100))).setCell ⟨w2.heap.size, 3, none⟩ (.int .i64 (y + v3 * 100))) = W5 at *
    clear hW5
    have bX1 : -1010000 ≤ x + v2 * 100 := by omega
    have bX2 : x + v2 * 100 ≤ 1010000 := by omega
    have bY1 : -1010000 ≤ y + v3 * 100 := by omega
    have bY2 : y + v3 * 100 ≤ 1010000 := by omega
    generalize x + v2 * 100 = X at *
    generalize y + v3 * 100 = Y at *
    have hB0 : w.heap.size ≠ w2.heap.size := by omega
    have hBR : w2.heap.size ≠ R := by omega
    have hRB : R < w2.heap.size := by omega
    clear hc1 hf1 hr1 hu1 hU1 hr1a' hr1b' A1 A1b A1' A1b' B1b' zA zB zC A01 A02 A03 hU2 hU3 hr2 hr3 hu2 hu3 A2 A3
    go_wp2_with fail
    refine (pick_any R (k1 + 1 + 1) 16 _ hr5 (by omega) (by omega) (by omega)).mono ?_
    rintro e w6 ⟨v6, rfl, hv6, hw6, hr6, hu6⟩
    have B6 := B5.up hu6 B5.lt hBR
    have A6 := A05.up hu6 A05.lt hne
    have hU6 : Up R w.heap.size w w6 := hU5.trans (hu6.mono hU5.size)
    clear hu6 hU5 hr5 B5 A05
    by_cases h6 : v6 = 0
    · subst h6
      go_wp2_with fail
      have y1 : k1 + 1 + 1 + 1 < 1000000 := by omega
      have y2 : (1 : Int) ≤ 3 := by omega
      have y3 : (3 : Int) ≤ 1000000000 := by omega
      have hr6d : Rd w6.drew R (k1 + 1 + 1 + 1) := hr6
      have B6d : Blk w6.drew (w2.heap.size) #[.int .i64 x, .int .i64 y, .int .i64 X, .int .i64 Y] := B6
      have A6d : Blk w6.drew w.heap.size #[.int .i64 0, .int .i64 0, .int .i64 0, .int .i64 0] := A6
      have hU6d : Up R w.heap.size w w6.drew := hU6.drew
      go_region_held3 (fun W => W.cell? ⟨w2.heap.size, 0, none⟩ = some (.int .i64 x))
        (((try simp only [World.cell?_drew]); (first | with_reducible exact B6.c4.1 | with_reducible exact B7.c4.1 | (with_reducible exact (B7.s4_2 _).c4.1) | fail)))
        (first
          | (go_at_call 58; (with_reducible refine (pick_any R (k1 + 1 + 1 + 1) 3 _ hr6d y1 y2 y3).mono ?_); rintro e w7 ⟨v7, rfl, hv7, hw7, hr7, hu7⟩; (have B7 := B6d.up hu7 B6d.lt hBR); (have A7 := A6d.up hu7 A6d.lt hne); obtain ⟨b0, b1, b2, b3⟩ := B7.c4; (have bf := B7.frozen)))
      have e7 : IntKind.i64.wrap (x - v7) = x - v7 := IntWalk.i64_in _ (by omega)
      rw [e7]
      have hU7 : Up R w.heap.size w w7 := hU6d.trans (hu7.mono hU6d.size)
      have hO := Lib.hid (B7.s4_2 (.int .i64 (x - v7)))
      have hA := Lib.hid (A7.other hB0 (.int .i64 (x - v7)) (p := ⟨w2.heap.size, 2, none⟩))
      have hr8 : Rd (w7.setCell ⟨w2.heap.size, 2, none⟩ (.int .i64 (x - v7))) R (k1 + 1 + 1 + 1 + 1) := Rd.keep hr7 (by (repeat (first | with_reducible assumption | with_reducible exact Below.refl _ _ | ((with_reducible refine Below.alloc ?_ ?_ _); rotate_left; · exact (by first | omega | (simp; done) | (simp; omega))) | ((with_reducible refine Below.setCell ?_ ?_ _); rotate_left; · exact (by first | omega | (simp; done) | (simp; omega))) | with_reducible refine Below.drew ?_ | assumption | exact Below.refl _ _ | refine Below.alloc ?_ (by first | omega | (simp; done) | (simp; omega)) _ | refine Below.setCell ?_ (by first | omega | (simp; done) | (simp; omega)) _ | refine Below.drew ?_)))
      have hU8 : Up R w.heap.size w (w7.setCell ⟨w2.heap.size, 2, none⟩ (.int .i64 (x - v7))) := hU7.setCell (.inr (by simp only; omega)) _
      have hS := Lib.hid (hA.out.row #[.int .i64 x, .int .i64 y, .int .i64 (x - v7), .int .i64 Y])
      have hz7 := A7.lt
      clear b0 b1 b2 b3 bf B7 A7 B6 A6 B6d A6d hr6d hr7 hu7 hU6 hU6d hU7
      go_upto_region 5 with fail
      refine wp_copy (ty := 27) rfl hO.out Try.underlying27 rfl (by kernel_rfl) rfl rfl hA.out rfl (by simp [Value.oneCell']) ?_
      rename_i K hK
      refine hK _ _ (wp_ret ?_)
      refine bodyPost_ret (res_row rfl rfl hS.out Try.underlying27 rfl (by kernel_rfl)) rfl ?_
      exact ⟨_, _, _, _, k1 + 1 + 1 + 1 + 1, rfl, by omega, by omega, by omega, by omega, by omega, by omega, by omega, by omega, by omega, by omega, Rd.keep hr8 (Below.setRow (Below.refl _ _) (by omega) _), hU8.setRow (Nat.le_refl _) _⟩
    · have h6b : (v6 == 0) = false := by simpa using h6
      have hO := Lib.hid B6
      have hA := Lib.hid A6
      have hS := Lib.hid (A6.row #[.int .i64 x, .int .i64 y, .int .i64 X, .int .i64 Y])
      have hz6 := A6.lt
      clear B6 A6 h6
      go_upto_region 5 with fail
      refine wp_copy (ty := 27) rfl hO.out Try.underlying27 rfl (by kernel_rfl) rfl rfl hA.out rfl (by simp [Value.oneCell']) ?_
      rename_i K hK
      refine hK _ _ (wp_ret ?_)
      refine bodyPost_ret (res_row rfl rfl hS.out Try.underlying27 rfl (by kernel_rfl)) rfl ?_
      exact ⟨_, _, _, _, k1 + 1 + 1 + 1, rfl, by omega, by omega, by omega, by omega, by omega, by omega, by omega, by omega, by omega, by omega, Rd.keep hr6 (Below.setRow (Below.refl _ _) (by omega) _), hU6.setRow (Nat.le_refl _) _⟩
  · have e2 : IntKind.i64.wrap (x + IntKind.i64.wrap (v2 * 100)) = x + v2 * 100 := by rw [IntWalk.i64_in (v2 * 100) (by omega)]; exact IntWalk.i64_in _ (by omega)
    have e3 : IntKind.i64.wrap (y + IntKind.i64.wrap (v3 * 100)) = y + v3 * 100 := by rw [IntWalk.i64_in (v3 * 100) (by omega)]; exact IntWalk.i64_in _ (by omega)
    rw [e2, e3]
    clear e2 e3
    have A02 := Blk.up (w := ((w1.alloc (.cells #[.int .i64 x, .int .i64 y] 24)).alloc (.cells #[.int .i64 0, .int .i64 0, .int .i64 0, .int .i64 0] 27)).drew) ((A01.alloc (.cells #[.int .i64 x, .int .i64 y] 24)).alloc (.cells #[.int .i64 0, .int .i64 0, .int .i64 0, .int .i64 0] 27)) hu2 (by simp; omega) hne
    have A03 := A02.up hu3 A02.lt hne
    have hU2 : Up R w.heap.size w w2 := upstep (by (repeat (first | assumption | exact Up.refl _ _ _ | refine Up.alloc ?_ (by first | omega | (simp; done) | (simp; omega)) _ | refine Up.setCell ?_ (.inr (by first | omega | (simp; done) | (simp; omega))) _ | refine Up.drew ?_ | refine Up.drewN ?_ _))) (by first | omega | (simp; done) | (simp; omega)) hu2
    have hU3 : Up R w.heap.size w w3 := upstep (by (repeat (first | assumption | exact Up.refl _ _ _ | refine Up.alloc ?_ (by first | omega | (simp; done) | (simp; omega)) _ | refine Up.setCell ?_ (.inr (by first | omega | (simp; done) | (simp; omega))) _ | refine Up.drew ?_ | refine Up.drewN ?_ _))) (by first | omega | (simp; done) | (simp; omega)) hu3
    have B5 : Blk ((((w3.setCell ⟨w1.heap.size + 1, 0, none⟩ (.int .i64 x)).setCell ⟨w1.heap.size + 1, 1, none⟩ (.int .i64 y)).setCell ⟨w1.heap.size + 1, 2, none⟩ (.int .i64 (x + v2 * 100))).setCell ⟨w1.heap.size + 1, 3, none⟩ (.int .i64 (y + v3 * 100))) ((w1.heap.size + 1)) #[.int .i64 x, .int .i64 y, .int .i64 (x + v2 * 100), .int .i64 (y + v3 * 100)] := (((B3.s4_0 _).s4_1 _).s4_2 _).s4_3 _
    have A05 : Blk ((((w3.setCell ⟨w1.heap.size + 1, 0, none⟩ (.int .i64 x)).setCell ⟨w1.heap.size + 1, 1, none⟩ (.int .i64 y)).setCell ⟨w1.heap.size + 1, 2, none⟩ (.int .i64 (x + v2 * 100))).setCell ⟨w1.heap.size + 1, 3, none⟩ (.int .i64 (y + v3 * 100))) w.heap.size #[.int .i64 0, .int .i64 0, .int .i64 0, .int .i64 0] := (((A03.other (by simp only; omega) _).other (by simp only; omega) _).other (by simp only; omega) _).other (by simp only; omega) _
    have hr5 : Rd ((((w3.setCell ⟨w1.heap.size + 1, 0, none⟩ (.int .i64 x)).setCell ⟨w1.heap.size + 1, 1, none⟩ (.int .i64 y)).setCell ⟨w1.heap.size + 1, 2, none⟩ (.int .i64 (x + v2 * 100))).setCell ⟨w1.heap.size + 1, 3, none⟩ (.int .i64 (y + v3 * 100))) R (k1 + 1 + 1) := Rd.keep hr3 (by (repeat (first | with_reducible assumption | with_reducible exact Below.refl _ _ | ((with_reducible refine Below.alloc ?_ ?_ _); rotate_left; · exact (by first | omega | (simp; done) | (simp; omega))) | ((with_reducible refine Below.setCell ?_ ?_ _); rotate_left; · exact (by first | omega | (simp; done) | (simp; omega))) | with_reducible refine Below.drew ?_ | assumption | exact Below.refl _ _ | refine Below.alloc ?_ (by first | omega | (simp; done) | (simp; omega)) _ | refine Below.setCell ?_ (by first | omega | (simp; done) | (simp; omega)) _ | refine Below.drew ?_)))
    have hU5 : Up R w.heap.size w ((((w3.setCell ⟨w1.heap.size + 1, 0, none⟩ (.int .i64 x)).setCell ⟨w1.heap.size + 1, 1, none⟩ (.int .i64 y)).setCell ⟨w1.heap.size + 1, 2, none⟩ (.int .i64 (x + v2 * 100))).setCell ⟨w1.heap.size + 1, 3, none⟩ (.int .i64 (y + v3 * 100))) := by (repeat (first | assumption | exact Up.refl _ _ _ | refine Up.alloc ?_ (by first | omega | (simp; done) | (simp; omega)) _ | refine Up.setCell ?_ (.inr (by first | omega | (simp; done) | (simp; omega))) _ | refine Up.drew ?_ | refine Up.drewN ?_ _))
    generalize hW5 : ((((w3.setCell ⟨w1.heap.size + 1, 0, none⟩ (.int .i64 x)).setCell ⟨w1.heap.size + 1, 1, none⟩ (.int .i64 y)).setCell ⟨w1.heap.size + 1, 2, none⟩ (.int .i64 (x + v2 * 100))).setCell ⟨w1.heap.size + 1, 3, none⟩ (.int .i64 (y + v3 * 100))) = W5 at *
    clear hW5
    have bX1 : -1010000 ≤ x + v2 * 100 := by omega
    have bX2 : x + v2 * 100 ≤ 1010000 := by omega
    have bY1 : -1010000 ≤ y + v3 * 100 := by omega
    have bY2 : y + v3 * 100 ≤ 1010000 := by omega
    generalize x + v2 * 100 = X at *
    generalize y + v3 * 100 = Y at *
    have hB0 : w.heap.size ≠ (w1.heap.size + 1) := by omega
    have hBR : (w1.heap.size + 1) ≠ R := by omega
    have hRB : R < (w1.heap.size + 1) := by omega
    clear hc1 hf1 hr1 hu1 hU1 hr1a' hr1b' A1 A1b A1' A1b' B1b' zA zB zC A01 A02 A03 hU2 hU3 hr2 hr3 hu2 hu3 A2 A3
    go_wp2_with fail
    refine (pick_any R (k1 + 1 + 1) 16 _ hr5 (by omega) (by omega) (by omega)).mono ?_
    rintro e w6 ⟨v6, rfl, hv6, hw6, hr6, hu6⟩
    have B6 := B5.up hu6 B5.lt hBR
    have A6 := A05.up hu6 A05.lt hne
    have hU6 : Up R w.heap.size w w6 := hU5.trans (hu6.mono hU5.size)
    clear hu6 hU5 hr5 B5 A05
    by_cases h6 : v6 = 0
    · subst h6
      go_wp2_with fail
      have y1 : k1 + 1 + 1 + 1 < 1000000 := by omega
      have y2 : (1 : Int) ≤ 3 := by omega
      have y3 : (3 : Int) ≤ 1000000000 := by omega
      have hr6d : Rd w6.drew R (k1 + 1 + 1 + 1) := hr6
      have B6d : Blk w6.drew ((w1.heap.size + 1)) #[.int .i64 x, .int .i64 y, .int .i64 X, .int .i64 Y] := B6
      have A6d : Blk w6.drew w.heap.size #[.int .i64 0, .int .i64 0, .int .i64 0, .int .i64 0] := A6
      have hU6d : Up R w.heap.size w w6.drew := hU6.drew
      go_region_held3 (fun W => W.cell? ⟨(w1.heap.size + 1), 0, none⟩ = some (.int .i64 x))
        (((try simp only [World.cell?_drew]); (first | with_reducible exact B6.c4.1 | with_reducible exact B7.c4.1 | (with_reducible exact (B7.s4_2 _).c4.1) | fail)))
        (first
          | (go_at_call 58; (with_reducible refine (pick_any R (k1 + 1 + 1 + 1) 3 _ hr6d y1 y2 y3).mono ?_); rintro e w7 ⟨v7, rfl, hv7, hw7, hr7, hu7⟩; (have B7 := B6d.up hu7 B6d.lt hBR); (have A7 := A6d.up hu7 A6d.lt hne); obtain ⟨b0, b1, b2, b3⟩ := B7.c4; (have bf := B7.frozen)))
      have e7 : IntKind.i64.wrap (x - v7) = x - v7 := IntWalk.i64_in _ (by omega)
      rw [e7]
      have hU7 : Up R w.heap.size w w7 := hU6d.trans (hu7.mono hU6d.size)
      have hO := Lib.hid (B7.s4_2 (.int .i64 (x - v7)))
      have hA := Lib.hid (A7.other hB0 (.int .i64 (x - v7)) (p := ⟨(w1.heap.size + 1), 2, none⟩))
      have hr8 : Rd (w7.setCell ⟨(w1.heap.size + 1), 2, none⟩ (.int .i64 (x - v7))) R (k1 + 1 + 1 + 1 + 1) := Rd.keep hr7 (by (repeat (first | with_reducible assumption | with_reducible exact Below.refl _ _ | ((with_reducible refine Below.alloc ?_ ?_ _); rotate_left; · exact (by first | omega | (simp; done) | (simp; omega))) | ((with_reducible refine Below.setCell ?_ ?_ _); rotate_left; · exact (by first | omega | (simp; done) | (simp; omega))) | with_reducible refine Below.drew ?_ | assumption | exact Below.refl _ _ | refine Below.alloc ?_ (by first | omega | (simp; done) | (simp; omega)) _ | refine Below.setCell ?_ (by first | omega | (simp; done) | (simp; omega)) _ | refine Below.drew ?_)))
      have hU8 : Up R w.heap.size w (w7.setCell ⟨(w1.heap.size + 1), 2, none⟩ (.int .i64 (x - v7))) := hU7.setCell (.inr (by simp only; omega)) _
      have hS := Lib.hid (hA.out.row #[.int .i64 x, .int .i64 y, .int .i64 (x - v7), .int .i64 Y])
      have hz7 := A7.lt
      clear b0 b1 b2 b3 bf B7 A7 B6 A6 B6d A6d hr6d hr7 hu7 hU6 hU6d hU7
      go_upto_region 5 with fail
      refine wp_copy (ty := 27) rfl hO.out Try.underlying27 rfl (by kernel_rfl) rfl rfl hA.out rfl (by simp [Value.oneCell']) ?_
      rename_i K hK
      refine hK _ _ (wp_ret ?_)
      refine bodyPost_ret (res_row rfl rfl hS.out Try.underlying27 rfl (by kernel_rfl)) rfl ?_
      exact ⟨_, _, _, _, k1 + 1 + 1 + 1 + 1, rfl, by omega, by omega, by omega, by omega, by omega, by omega, by omega, by omega, by omega, by omega, Rd.keep hr8 (Below.setRow (Below.refl _ _) (by omega) _), hU8.setRow (Nat.le_refl _) _⟩
    · have h6b : (v6 == 0) = false := by simpa using h6
      have hO := Lib.hid B6
      have hA := Lib.hid A6
      have hS := Lib.hid (A6.row #[.int .i64 x, .int .i64 y, .int .i64 X, .int .i64 Y])
      have hz6 := A6.lt
      clear B6 A6 h6
      go_upto_region 5 with fail
      refine wp_copy (ty := 27) rfl hO.out Try.underlying27 rfl (by kernel_rfl) rfl rfl hA.out rfl (by simp [Value.oneCell']) ?_
      rename_i K hK
      refine hK _ _ (wp_ret ?_)
      refine bodyPost_ret (res_row rfl rfl hS.out Try.underlying27 rfl (by kernel_rfl)) rfl ?_
      exact ⟨_, _, _, _, k1 + 1 + 1 + 1, rfl, by omega, by omega, by omega, by omega, by omega, by omega, by omega, by omega, by omega, by omega, Rd.keep hr6 (Below.setRow (Below.refl _ _) (by omega) _), hU6.setRow (Nat.le_refl _) _⟩
end Go.Proofs.Ytnhjalijnociaaa

/- The points drawn near a box. -/
set_option linter.unusedVariables false
namespace Go.Proofs.Ytnhjalijnociaaa
open Go.RowKit

/-- a box, a point and a radius drawn by a law -/
def DrawnTouch (w : World) (e : Ending) (w' : World) : Prop :=
  ∃ (a b c d x y r : Int), e = .returned (.tuple #[.agg #[.int .i64 a, .int .i64 b, .int .i64 c, .int .i64 d], .agg #[.int .i64 x, .int .i64 y], .int .i64 r]) ∧ -5000 ≤ r ∧ r ≤ 1500 ∧ Below w.heap.size w w'
end Go.Proofs.Ytnhjalijnociaaa

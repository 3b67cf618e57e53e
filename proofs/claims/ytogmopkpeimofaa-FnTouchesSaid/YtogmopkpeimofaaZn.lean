/- The points drawn near a box. -/
import Derived.Test.YtogmopkpeimofaaZb
set_option linter.unusedVariables false
namespace Go.Proofs.Ytogmopkpeimofaa
open Go.RowKit

set_option maxRecDepth 100000 in
set_option maxHeartbeats 2000000 in
theorem lNear_any (R k : Nat) (a b c d : Int) (w : World) (hr : Rd w R k) (hk : k < 890000) (ha1 : -1010000 ≤ a) (ha2 : a ≤ 1010000) (hb1 : -1010000 ≤ b) (hb2 : b ≤ 1010000) : Calls Try.prog 63 #[.pointer (some ⟨R, 0, none⟩), .agg #[.int .i64 a, .int .i64 b, .int .i64 c, .int .i64 d]] w (DrawnVec 1020000 9 R k w) := by
  have hR := hr.lt
  have hne : w.heap.size ≠ R := by omega
  have hne1 : w.heap.size + 1 ≠ R := by omega
  have P0 : Blk ((w.alloc (.cells #[.int .i64 a, .int .i64 b, .int .i64 c, .int .i64 d] 26)).alloc (.cells #[.int .i64 0, .int .i64 0] 24)) w.heap.size #[.int .i64 a, .int .i64 b, .int .i64 c, .int .i64 d] := (Blk.at rfl).alloc _
  have A0 : Blk ((w.alloc (.cells #[.int .i64 a, .int .i64 b, .int .i64 c, .int .i64 d] 26)).alloc (.cells #[.int .i64 0, .int .i64 0] 24)) (w.heap.size + 1) #[.int .i64 0, .int .i64 0] := Blk.at (by simp)
  go_enter Try.func63, Try.ntmps63
  go_wp2_with fail
  refine (pick_any R k 4 _ (Rd.keep hr (by (repeat (first | with_reducible assumption | with_reducible exact Below.refl _ _ | ((with_reducible refine Below.alloc ?_ ?_ _); rotate_left; · exact (by first | omega | (simp; done) | (simp; omega))) | ((with_reducible refine Below.setCell ?_ ?_ _); rotate_left; · exact (by first | omega | (simp; done) | (simp; omega))) | with_reducible refine Below.drew ?_ | assumption | exact Below.refl _ _ | refine Below.alloc ?_ (by first | omega | (simp; done) | (simp; omega)) _ | refine Below.setCell ?_ (by first | omega | (simp; done) | (simp; omega)) _ | refine Below.drew ?_)))) (by omega) (by omega) (by omega)).mono ?_
  rintro e w1 ⟨v1, rfl, hv1, hw1, hr1, hu1⟩
  have P1 := P0.up hu1 P0.lt hne
  have A1 := A0.up hu1 A0.lt hne1
  have hU1 : Up R w.heap.size w w1 := upstep (by (repeat (first | assumption | exact Up.refl _ _ _ | refine Up.alloc ?_ (by first | omega | (simp; done) | (simp; omega)) _ | refine Up.setCell ?_ (.inr (by first | omega | (simp; done) | (simp; omega))) _ | refine Up.drew ?_ | refine Up.drewN ?_ _))) (by first | omega | (simp; done) | (simp; omega)) hu1
  have hz1 := P1.lt
  clear hu1 P0 A0
  by_cases h0 : v1 = 0
  · subst h0
    go_wp2_with fail
    refine (lVec_any R (k + 1) _ hr1 (by omega)).mono ?_
    rintro e w2 ⟨x, y, k2, rfl, hx1, hx2, hy1, hy2, hk1, hk2, hr2, hu2⟩
    have A2 := A1.up hu2 A1.lt hne1
    have hU2 : Up R w.heap.size w w2 := hU1.trans (hu2.mono hU1.size)
    obtain ⟨q0, q1⟩ := A2.c2
    have qf := A2.frozen
    clear hu2 P1 A1 hU1 hr1
    go_wp2
    refine bodyPost_ret (res_row rfl rfl ((A2.s2_0 _).s2_1 _) Try.underlying24 rfl (by kernel_rfl)) rfl ?_
    exact ⟨x, y, k2, rfl, by omega, by omega, by omega, by omega, by omega, by omega, by (first | assumption | exact Rd.keep ‹Rd _ R _› (by (repeat (first | with_reducible assumption | with_reducible exact Below.refl _ _ | ((with_reducible refine Below.alloc ?_ ?_ _); rotate_left; · exact (by first | omega | (simp; done) | (simp; omega))) | ((with_reducible refine Below.setCell ?_ ?_ _); rotate_left; · exact (by first | omega | (simp; done) | (simp; omega))) | with_reducible refine Below.drew ?_ | assumption | exact Below.refl _ _ | refine Below.alloc ?_ (by first | omega | (simp; done) | (simp; omega)) _ | refine Below.setCell ?_ (by first | omega | (simp; done) | (simp; omega)) _ | refine Below.drew ?_)))), by (repeat (first | assumption | exact Up.refl _ _ _ | refine Up.alloc ?_ (by first | omega | (simp; done) | (simp; omega)) _ | refine Up.setCell ?_ (.inr (by first | omega | (simp; done) | (simp; omega))) _ | refine Up.drew ?_ | refine Up.drewN ?_ _))⟩
  · have h0b : (v1 == 0) = false := by simpa using h0
    clear h0
    go_wp2_with fail
    have y1 : k + 1 < 1000000 := by omega
    have y1' : k + 1 + 1 < 1000000 := by omega
    have y2 : (1 : Int) ≤ 70 := by omega
    have y3 : (70 : Int) ≤ 1000000000 := by omega
    have hr1d : Rd w1.drew R (k + 1) := hr1
    have P1d : Blk w1.drew w.heap.size #[.int .i64 a, .int .i64 b, .int .i64 c, .int .i64 d] := P1
    have A1d : Blk w1.drew (w.heap.size + 1) #[.int .i64 0, .int .i64 0] := A1
    have hU1d : Up R w.heap.size w w1.drew := hU1.drew
    have hpa : w.heap.size ≠ w.heap.size + 1 := by omega
    have tokA : True := trivial
    go_region_held3 (fun W => W.cell? ⟨w.heap.size, 0, none⟩ = some (.int .i64 a) ∧ W.cell? ⟨w.heap.size, 1, none⟩ = some (.int .i64 b))
      (((try simp only [World.cell?_drew]); (first | with_reducible exact ⟨P1.c4.1, P1.c4.2.1⟩ | with_reducible exact ⟨P2.c4.1, P2.c4.2.1⟩ | with_reducible exact ⟨P3.c4.1, P3.c4.2.1⟩ | (with_reducible exact ⟨((P3.other hpa _).other hpa _).c4.1, ((P3.other hpa _).other hpa _).c4.2.1⟩) | fail)))
      (first
        | (go_at_call 64; have _t := tokA; (with_reducible refine (pick_any R (k + 1) 70 _ hr1d y1 y2 y3).mono ?_); rintro e w2 ⟨v2, rfl, hv2, hw2, hr2, hu2⟩; (have P2 := P1d.up hu2 P1d.lt hne); (have A2 := A1d.up hu2 A1d.lt hne1); clear tokA)
        | (go_at_call 64; (with_reducible refine (pick_any R (k + 1 + 1) 70 _ hr2 y1' y2 y3).mono ?_); rintro e w3 ⟨v3, rfl, hv3, hw3, hr3, hu3⟩; (have P3 := P2.up hu3 P2.lt hne); (have A3 := A2.up hu3 A2.lt hne1); obtain ⟨q0, q1⟩ := A3.c2; (have qf := A3.frozen)))
    have hU2 : Up R w.heap.size w w2 := hU1d.trans (hu2.mono hU1d.size)
    have hU3 : Up R w.heap.size w w3 := hU2.trans (hu3.mono hU2.size)
    have hz3 := P3.lt
    have e1 : IntKind.i64.wrap (IntKind.i64.wrap (a - 1000) + IntKind.i64.wrap (v2 * 100)) = a - 1000 + v2 * 100 := by rw [IntWalk.i64_in (a - 1000) (by omega), IntWalk.i64_in (v2 * 100) (by omega)]; exact IntWalk.i64_in _ (by omega)
    have e2 : IntKind.i64.wrap (IntKind.i64.wrap (b - 1000) + IntKind.i64.wrap (v3 * 100)) = b - 1000 + v3 * 100 := by rw [IntWalk.i64_in (b - 1000) (by omega), IntWalk.i64_in (v3 * 100) (by omega)]; exact IntWalk.i64_in _ (by omega)
    rw [e1, e2]
    clear P1 P2 P3 A1 A2 hu2 hu3 hr1 hr1d hr2 q0 q1 qf hU1 hU1d hU2 P1d A1d
    go_wp2
    refine bodyPost_ret (res_row rfl rfl ((A3.s2_0 _).s2_1 _) Try.underlying24 rfl (by kernel_rfl)) rfl ?_
    exact ⟨_, _, k + 1 + 1 + 1, rfl, by omega, by omega, by omega, by omega, by omega, by omega, by (first | assumption | exact Rd.keep ‹Rd _ R _› (by (repeat (first | with_reducible assumption | with_reducible exact Below.refl _ _ | ((with_reducible refine Below.alloc ?_ ?_ _); rotate_left; · exact (by first | omega | (simp; done) | (simp; omega))) | ((with_reducible refine Below.setCell ?_ ?_ _); rotate_left; · exact (by first | omega | (simp; done) | (simp; omega))) | with_reducible refine Below.drew ?_ | assumption | exact Below.refl _ _ | refine Below.alloc ?_ (by first | omega | (simp; done) | (simp; omega)) _ | refine Below.setCell ?_ (by first | omega | (simp; done) | (simp; omega)) _ | refine Below.drew ?_)))), by (repeat (first | assumption | exact Up.refl _ _ _ | refine Up.alloc ?_ (by first | omega | (simp; done) | (simp; omega)) _ | refine Up.setCell ?_ (.inr (by first | omega | (simp; done) | (simp; omega))) _ | refine Up.drew ?_ | refine Up.drewN ?_ _))⟩
/-- a box, a point and a radius drawn by a law -/
def DrawnTouch (w : World) (e : Ending) (w' : World) : Prop :=
  ∃ (a b c d x y r : Int), e = .returned (.tuple #[.agg #[.int .i64 a, .int .i64 b, .int .i64 c, .int .i64 d], .agg #[.int .i64 x, .int .i64 y], .int .i64 r]) ∧ -5000 ≤ r ∧ r ≤ 1500 ∧ Below w.heap.size w w'
set_option maxRecDepth 100000 in
set_option maxHeartbeats 2000000 in
theorem dBoxTouches (a : Option Addr) (len cap : Nat) (zs : List Int) (w : World) (h : IsRow .u8 w a len cap zs) : Calls Try.prog 22 #[.slice a len cap] w (DrawnTouch w) := by
  go_enter Try.func22, Try.ntmps22
  go_wp2_with fail
  refine (open_any _ _ _ _ _ (h.keep (by (repeat (first | with_reducible assumption | with_reducible exact Below.refl _ _ | ((with_reducible refine Below.alloc ?_ ?_ _); rotate_left; · exact (by first | omega | (simp; done) | (simp; omega))) | ((with_reducible refine Below.setCell ?_ ?_ _); rotate_left; · exact (by first | omega | (simp; done) | (simp; omega))) | with_reducible refine Below.drew ?_ | assumption | exact Below.refl _ _ | refine Below.alloc ?_ (by first | omega | (simp; done) | (simp; omega)) _ | refine Below.setCell ?_ (by first | omega | (simp; done) | (simp; omega)) _ | refine Below.drew ?_))))).mono ?_
  rintro e w1 ⟨R, rfl, hR0, hr1, hb1⟩
  have hR : w.heap.size + 1 < R := by simp at hR0; omega
  have S1 : Blk w1 w.heap.size #[.int .i64 0, .int .i64 0, .int .i64 0, .int .i64 0] := ((Blk.at rfl).alloc _).below hb1 (by simp; omega)
  have T1 : Blk w1 (w.heap.size + 1) #[.int .i64 0, .int .i64 0] := (Blk.at (by simp)).below hb1 (by simp)
  have hU1 : Up R w.heap.size w w1 := Up.of_below (bstep (by (repeat (first | with_reducible assumption | with_reducible exact Below.refl _ _ | ((with_reducible refine Below.alloc ?_ ?_ _); rotate_left; · exact (by first | omega | (simp; done) | (simp; omega))) | ((with_reducible refine Below.setCell ?_ ?_ _); rotate_left; · exact (by first | omega | (simp; done) | (simp; omega))) | with_reducible refine Below.drew ?_ | assumption | exact Below.refl _ _ | refine Below.alloc ?_ (by first | omega | (simp; done) | (simp; omega)) _ | refine Below.setCell ?_ (by first | omega | (simp; done) | (simp; omega)) _ | refine Below.drew ?_))) (by first | omega | (simp; done) | (simp; omega)) hb1)
  have hs1 : w.heap.size ≠ R := by omega
  have ht1 : w.heap.size + 1 ≠ R := by omega
  have hRl := hr1.lt
  go_wp2_with fail
  refine (lBox_any R 0 _ hr1 (by omega)).mono ?_
  rintro e w2 ⟨x0, x1, x2, x3, k2, rfl, b1, b2, b3, b4, b5, b6, b7, b8, hk1, hk2, hr2, hu2⟩
  have S2 := S1.up hu2 S1.lt hs1
  have T2 := T1.up hu2 T1.lt ht1
  have hU2 : Up R w.heap.size w w2 := hU1.trans (hu2.mono hU1.size)
  have hz12 : w1.heap.size ≤ w2.heap.size := hu2.size
  have hB2 : w2.heap.size ≠ R := by omega
  go_wp2_with fail
  refine (lNear_any R k2 x0 x1 x2 x3 _ (Rd.keep hr2 (by (repeat (first | with_reducible assumption | with_reducible exact Below.refl _ _ | ((with_reducible refine Below.alloc ?_ ?_ _); rotate_left; · exact (by first | omega | (simp; done) | (simp; omega))) | ((with_reducible refine Below.setCell ?_ ?_ _); rotate_left; · exact (by first | omega | (simp; done) | (simp; omega))) | with_reducible refine Below.drew ?_ | assumption | exact Below.refl _ _ | refine Below.alloc ?_ (by first | omega | (simp; done) | (simp; omega)) _ | refine Below.setCell ?_ (by first | omega | (simp; done) | (simp; omega)) _ | refine Below.drew ?_)))) (by omega) b1 b2 b3 b4).mono ?_
  rintro e w3 ⟨p, q, k3, rfl, c1, c2, c3, c4, hk3, hk4, hr3, hu3⟩
  have S3 := (S2.alloc _).up hu3 (by simp; have := S2.lt; omega) hs1
  have T3 := (T2.alloc _).up hu3 (by simp; have := T2.lt; omega) ht1
  have B3 : Blk w3 w2.heap.size #[.int .i64 x0, .int .i64 x1, .int .i64 x2, .int .i64 x3] := (Blk.at rfl).up hu3 (by simp) hB2
  have hU3 : Up R w.heap.size w w3 := upstep (by (repeat (first | assumption | exact Up.refl _ _ _ | refine Up.alloc ?_ (by first | omega | (simp; done) | (simp; omega)) _ | refine Up.setCell ?_ (.inr (by first | omega | (simp; done) | (simp; omega))) _ | refine Up.drew ?_ | refine Up.drewN ?_ _))) (by first | omega | (simp; done) | (simp; omega)) hu3
  have hz23 := B3.lt
  go_wp2_with fail
  have hV3 : w3.heap.size ≠ R := by have := hu3.size; simp at this; omega
  have V4 : Blk (w3.alloc (.cells #[.int .i64 p, .int .i64 q] 24)).drew w3.heap.size #[.int .i64 p, .int .i64 q] := (show Blk (w3.alloc (.cells #[.int .i64 p, .int .i64 q] 24)) w3.heap.size #[.int .i64 p, .int .i64 q] from Blk.at rfl)
  have B4 : Blk (w3.alloc (.cells #[.int .i64 p, .int .i64 q] 24)).drew w2.heap.size #[.int .i64 x0, .int .i64 x1, .int .i64 x2, .int .i64 x3] := (show Blk (w3.alloc (.cells #[.int .i64 p, .int .i64 q] 24)) w2.heap.size #[.int .i64 x0, .int .i64 x1, .int .i64 x2, .int .i64 x3] from B3.alloc _)
  have S4 : Blk (w3.alloc (.cells #[.int .i64 p, .int .i64 q] 24)).drew w.heap.size #[.int .i64 0, .int .i64 0, .int .i64 0, .int .i64 0] := (show Blk (w3.alloc (.cells #[.int .i64 p, .int .i64 q] 24)) w.heap.size #[.int .i64 0, .int .i64 0, .int .i64 0, .int .i64 0] from S3.alloc _)
  have T4 : Blk (w3.alloc (.cells #[.int .i64 p, .int .i64 q] 24)).drew (w.heap.size + 1) #[.int .i64 0, .int .i64 0] := (show Blk (w3.alloc (.cells #[.int .i64 p, .int .i64 q] 24)) (w.heap.size + 1) #[.int .i64 0, .int .i64 0] from T3.alloc _)
  have hr4 : Rd (w3.alloc (.cells #[.int .i64 p, .int .i64 q] 24)).drew R k3 := (show Rd (w3.alloc (.cells #[.int .i64 p, .int .i64 q] 24)) R k3 from Rd.keep hr3 (by (repeat (first | with_reducible assumption | with_reducible exact Below.refl _ _ | ((with_reducible refine Below.alloc ?_ ?_ _); rotate_left; · exact (by first | omega | (simp; done) | (simp; omega))) | ((with_reducible refine Below.setCell ?_ ?_ _); rotate_left; · exact (by first | omega | (simp; done) | (simp; omega))) | with_reducible refine Below.drew ?_ | assumption | exact Below.refl _ _ | refine Below.alloc ?_ (by first | omega | (simp; done) | (simp; omega)) _ | refine Below.setCell ?_ (by first | omega | (simp; done) | (simp; omega)) _ | refine Below.drew ?_))))
  have hU4 : Up R w.heap.size w (w3.alloc (.cells #[.int .i64 p, .int .i64 q] 24)).drew := by (repeat (first | assumption | exact Up.refl _ _ _ | refine Up.alloc ?_ (by first | omega | (simp; done) | (simp; omega)) _ | refine Up.setCell ?_ (.inr (by first | omega | (simp; done) | (simp; omega))) _ | refine Up.drew ?_ | refine Up.drewN ?_ _))
  have y1 : k3 < 1000000 := by omega
  have y1' : k3 + 1 < 1000000 := by omega
  have y2 : (1 : Int) ≤ 30 := by omega
  have y3 : (30 : Int) ≤ 1000000000 := by omega
  have y2' : (1 : Int) ≤ 20 := by omega
  have y3' : (20 : Int) ≤ 1000000000 := by omega
  have n1 : w2.heap.size ≠ w.heap.size := by have := S2.lt; omega
  have n2 : w3.heap.size ≠ w.heap.size := by have := S3.lt; omega
  have n3 : w2.heap.size ≠ w.heap.size + 1 := by have := T2.lt; omega
  have n4 : w3.heap.size ≠ w.heap.size + 1 := by have := T3.lt; omega
  clear S1 S2 S3 T1 T2 T3 B3 hU1 hU2 hU3 hr1 hr2 hr3 hu2 hu3 hb1
  have tokA : True := trivial
  go_region_held3 (fun W => (W.cell? ⟨w2.heap.size, 0, none⟩ = some (.int .i64 x0) ∧ W.cell? ⟨w2.heap.size, 1, none⟩ = some (.int .i64 x1) ∧ W.cell? ⟨w2.heap.size, 2, none⟩ = some (.int .i64 x2) ∧ W.cell? ⟨w2.heap.size, 3, none⟩ = some (.int .i64 x3)) ∧ (W.cell? ⟨w3.heap.size, 0, none⟩ = some (.int .i64 p) ∧ W.cell? ⟨w3.heap.size, 1, none⟩ = some (.int .i64 q)))
    ((first | with_reducible exact ⟨B4.c4, V4.c2⟩ | with_reducible exact ⟨B5.c4, V5.c2⟩ | with_reducible exact ⟨B6.c4, V6.c2⟩ | (with_reducible exact ⟨((((B6.other n1 _).other n1 _).other n1 _).other n1 _).c4, ((((V6.other n2 _).other n2 _).other n2 _).other n2 _).c2⟩) | (with_reducible exact ⟨((((((B6.other n1 _).other n1 _).other n1 _).other n1 _).other n3 _).other n3 _).c4, ((((((V6.other n2 _).other n2 _).other n2 _).other n2 _).other n4 _).other n4 _).c2⟩) | fail))
    (first
      | (go_at_call 64; have _t := tokA; (with_reducible refine (pick_any R k3 30 _ hr4 y1 y2 y3).mono ?_); rintro e w5 ⟨v5, rfl, hv5, hw5, hr5, hu5⟩; (have B5 := B4.up hu5 B4.lt hB2); (have V5 := V4.up hu5 V4.lt hV3); (have S5 := S4.up hu5 S4.lt hs1); (have T5 := T4.up hu5 T4.lt ht1); clear tokA)
      | (go_at_call 64; (with_reducible refine (pick_any R (k3 + 1) 20 _ hr5 y1' y2' y3').mono ?_); rintro e w6 ⟨v6, rfl, hv6, hw6, hr6, hu6⟩; (have B6 := B5.up hu6 B5.lt hB2); (have V6 := V5.up hu6 V5.lt hV3); (have S6 := S5.up hu6 S5.lt hs1); (have T6 := T5.up hu6 T5.lt ht1); obtain ⟨s0, s1, s2, s3⟩ := S6.c4; (have sf := S6.frozen); obtain ⟨t0, t1⟩ := T6.c2; (have tf := T6.frozen)))
  have et : v6.tdiv 19 = v6 / 19 := Int.tdiv_eq_ediv_of_nonneg hv6
  have er : IntKind.i64.wrap (IntKind.i64.wrap (v5 * 50) - IntKind.i64.wrap (IntKind.i64.wrap (v6.tdiv 19) * 5000)) = v5 * 50 - v6 / 19 * 5000 := by
    rw [et, IntWalk.i64_in (v6 / 19) (by omega), IntWalk.i64_in (v6 / 19 * 5000) (by omega), IntWalk.i64_in (v5 * 50) (by omega)]
    exact IntWalk.i64_in _ (by omega)
  rw [er]
  have r1 : -5000 ≤ v5 * 50 - v6 / 19 * 5000 := by omega
  have r2 : v5 * 50 - v6 / 19 * 5000 ≤ 1500 := by omega
  generalize v5 * 50 - v6 / 19 * 5000 = r at *
  have hU5 : Up R w.heap.size w w5 := hU4.trans (hu5.mono hU4.size)
  have hU6 : Up R w.heap.size w w6 := hU5.trans (hu6.mono hU5.size)
  have hst : w.heap.size ≠ w.heap.size + 1 := by omega
  have hts : w.heap.size + 1 ≠ w.heap.size := by omega
  have SF := (((((S6.s4_0 (.int .i64 x0)).s4_1 (.int .i64 x1)).s4_2 (.int .i64 x2)).s4_3 (.int .i64 x3)).other hst (.int .i64 p) (p := ⟨w.heap.size + 1, 0, none⟩)).other hst (.int .i64 q) (p := ⟨w.heap.size + 1, 1, none⟩)
  have TF := (((((T6.other hts (.int .i64 x0) (p := ⟨w.heap.size, 0, none⟩)).other hts (.int .i64 x1) (p := ⟨w.heap.size, 1, none⟩)).other hts (.int .i64 x2) (p := ⟨w.heap.size, 2, none⟩)).other hts (.int .i64 x3) (p := ⟨w.heap.size, 3, none⟩)).s2_0 (.int .i64 p)).s2_1 (.int .i64 q)
  have hUF := (((((hU6.setCell (p := ⟨w.heap.size, 0, none⟩) (.inr (Nat.le_refl _)) (.int .i64 x0)).setCell (p := ⟨w.heap.size, 1, none⟩) (.inr (Nat.le_refl _)) (.int .i64 x1)).setCell (p := ⟨w.heap.size, 2, none⟩) (.inr (Nat.le_refl _)) (.int .i64 x2)).setCell (p := ⟨w.heap.size, 3, none⟩) (.inr (Nat.le_refl _)) (.int .i64 x3)).setCell (p := ⟨w.heap.size + 1, 0, none⟩) (.inr (Nat.le_succ _)) (.int .i64 p)).setCell (p := ⟨w.heap.size + 1, 1, none⟩) (.inr (Nat.le_succ _)) (.int .i64 q)
  clear s0 s1 s2 s3 sf t0 t1 tf B4 B5 B6 V4 V5 V6 S4 S5 S6 T4 T5 T6 hu5 hu6 hr4 hr5 hr6 hU4 hU5 hU6 et er
  generalize (((((w6.setCell ⟨w.heap.size, 0, none⟩ (.int .i64 x0)).setCell ⟨w.heap.size, 1, none⟩ (.int .i64 x1)).setCell ⟨w.heap.size, 2, none⟩ (.int .i64 x2)).setCell ⟨w.heap.size, 3, none⟩ (.int .i64 x3)).setCell ⟨w.heap.size + 1, 0, none⟩ (.int .i64 p)).setCell ⟨w.heap.size + 1, 1, none⟩ (.int .i64 q) = W7 at *
  obtain ⟨s0, s1, s2, s3⟩ := SF.c4
  obtain ⟨t0, t1⟩ := TF.c2
  go_wp2
  refine bodyPost_ret (by simp [results, Try.results22, go_sem, *]; try rfl) rfl ?_
  exact ⟨x0, x1, x2, x3, p, q, r, rfl, r1, r2, hUF.below (by omega)⟩
end Go.Proofs.Ytogmopkpeimofaa

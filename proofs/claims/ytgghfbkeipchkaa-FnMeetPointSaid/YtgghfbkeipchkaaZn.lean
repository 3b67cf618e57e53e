/- The points drawn near a box. -/
import Derived.Test.YtgghfbkeipchkaaZb
set_option linter.unusedVariables false
namespace Go.Proofs.Ytgghfbkeipchkaa
open Go.RowKit

set_option maxRecDepth 100000 in
set_option maxHeartbeats 2000000 in
theorem lNear_any (R k : Nat) (a b c d : Int) (w : World) (hr : Rd w R k) (hk : k < 890000) (ha1 : -1010000 ≤ a) (ha2 : a ≤ 1010000) (hb1 : -1010000 ≤ b) (hb2 : b ≤ 1010000) : Calls Try.prog 53 #[.pointer (some ⟨R, 0, none⟩), .agg #[.int .i64 a, .int .i64 b, .int .i64 c, .int .i64 d]] w (DrawnVec 1020000 9 R k w) := by
  have hR := hr.lt
  have hne : w.heap.size ≠ R := by omega
  have hne1 : w.heap.size + 1 ≠ R := by omega
  have P0 : Blk ((w.alloc (.cells #[.int .i64 a, .int .i64 b, .int .i64 c, .int .i64 d] 26)).alloc (.cells #[.int .i64 0, .int .i64 0] 24)) w.heap.size #[.int .i64 a, .int .i64 b, .int .i64 c, .int .i64 d] := (Blk.at rfl).alloc _
  have A0 : Blk ((w.alloc (.cells #[.int .i64 a, .int .i64 b, .int .i64 c, .int .i64 d] 26)).alloc (.cells #[.int .i64 0, .int .i64 0] 24)) (w.heap.size + 1) #[.int .i64 0, .int .i64 0] := Blk.at (by simp)
  go_enter Try.func53, Try.ntmps53
  go_wp2_with fail
  refine (pick_any R k 4 _ (Rd.keep hr (by (repeat (first | with_reducible assumption | with_reducible exact Below.refl _ _ | ((with_reducible refine Below.alloc ?_ ?_ _); rotate_left; · exact (by first | omega | (simp; done) | (simp; omega))) | ((with_reducible refine Below.setCell ?_ ?_ _); rotate_left; · exact (by first | omega | (simp; done) | (simp; omega))) | with_reducible refine Below.drew ?_ | assumption | exact Below.refl _ _ | refine Below.alloc ?_ (by first | omega | (simp; done) | (simp; omega)) _ | refine Below.setCell ?_ (by first | omega | (simp; done) | (simp; omega)) _ | refine Below.drew ?_)))) (by omega) (by omega) (by omega)).mono ?_
  rintro e w1 ⟨v1, rfl, hv1, hw1, hr1, hu1⟩
  have P1 := P0.up hu1 P0.lt hne
  have A1 := A0.up hu1 A0.lt hne1
  have hU1 : Up R w.heap.size w w1 := upstep (by (repeat (first | assumption | exact Up.refl _ _ _ | refine Up.alloc ?_ (by first | omega | (simp; done) | (simp; omega)) _ | refine Up.setCell ?_ (.inr (by first | omega | (simp; done) | (simp; omega))) _ | refine Up.drew ?_ | refine Up.drewN ?_ _))) (by first | omega | (simp; done) | (simp; omega)) hu1
  have hz1 := P1.lt
  clear hu1 P0 A0
  by_cases h0 : v1 = 0
  · subst h0
    go_wp2_with fail
    refine (lVec_any R (k + 1) _ hr1 (by omega)).mono ?_
    rintro e w2 ⟨x, y, k2, rfl, hx1, hx2, hy1, hy2, hk1, hk2, hr2, hu2⟩
    have A2 := A1.up hu2 A1.lt hne1
    have hU2 : Up R w.heap.size w w2 := hU1.trans (hu2.mono hU1.size)
    obtain ⟨q0, q1⟩ := A2.c2
    have qf := A2.frozen
    clear hu2 P1 A1 hU1 hr1
    go_wp2
    refine bodyPost_ret (res_row rfl rfl ((A2.s2_0 _).s2_1 _) Try.underlying24 rfl (by kernel_rfl)) rfl ?_
    exact ⟨x, y, k2, rfl, by omega, by omega, by omega, by omega, by omega, by omega, by (first | assumption | exact Rd.keep ‹Rd _ R _› (by (repeat (first | with_reducible assumption | with_reducible exact Below.refl _ _ | ((with_reducible refine Below.alloc ?_ ?_ _); rotate_left; · exact (by first | omega | (simp; done) | (simp; omega))) | ((with_reducible refine Below.setCell ?_ ?_ _); rotate_left; · exact (by first | omega | (simp; done) | (simp; omega))) | with_reducible refine Below.drew ?_ | assumption | exact Below.refl _ _ | refine Below.alloc ?_ (by first | omega | (simp; done) | (simp; omega)) _ | refine Below.setCell ?_ (by first | omega | (simp; done) | (simp; omega)) _ | refine Below.drew ?_)))), by (repeat (first | assumption | exact Up.refl _ _ _ | refine Up.alloc ?_ (by first | omega | (simp; done) | (simp; omega)) _ | refine Up.setCell ?_ (.inr (by first | omega | (simp; done) | (simp; omega))) _ | refine Up.drew ?_ | refine Up.drewN ?_ _))⟩
  · have h0b : (v1 == 0) = false := by simpa using h0
    clear h0
    go_wp2_with fail
    have y1 : k + 1 < 1000000 := by omega
    have y1' : k + 1 + 1 < 1000000 := by omega
    have y2 : (1 : Int) ≤ 70 := by omega
    have y3 : (70 : Int) ≤ 1000000000 := by omega
    have hr1d : Rd w1.drew R (k + 1) := hr1
    have P1d : Blk w1.drew w.heap.size #[.int .i64 a, .int .i64 b, .int .i64 c, .int .i64 d] := P1
    have A1d : Blk w1.drew (w.heap.size + 1) #[.int .i64 0, .int .i64 0] := A1
    have hU1d : Up R w.heap.size w w1.drew := hU1.drew
    have hpa : w.heap.size ≠ w.heap.size + 1 := by omega
    have tokA : True := trivial
    go_region_held3 (fun W => W.cell? ⟨w.heap.size, 0, none⟩ = some (.int .i64 a) ∧ W.cell? ⟨w.heap.size, 1, none⟩ = some (.int .i64 b))
      (((try simp only [World.cell?_drew]); (first | with_reducible exact ⟨P1.c4.1, P1.c4.2.1⟩ | with_reducible exact ⟨P2.c4.1, P2.c4.2.1⟩ | with_reducible exact ⟨P3.c4.1, P3.c4.2.1⟩ | (with_reducible exact ⟨((P3.other hpa _).other hpa _).c4.1, ((P3.other hpa _).other hpa _).c4.2.1⟩) | fail)))
      (first
        | (go_at_call 52; have _t := tokA; (with_reducible refine (pick_any R (k + 1) 70 _ hr1d y1 y2 y3).mono ?_); rintro e w2 ⟨v2, rfl, hv2, hw2, hr2, hu2⟩; (have P2 := P1d.up hu2 P1d.lt hne); (have A2 := A1d.up hu2 A1d.lt hne1); clear tokA)
        | (go_at_call 52; (with_reducible refine (pick_any R (k + 1 + 1) 70 _ hr2 y1' y2 y3).mono ?_); rintro e w3 ⟨v3, rfl, hv3, hw3, hr3, hu3⟩; (have P3 := P2.up hu3 P2.lt hne); (have A3 := A2.up hu3 A2.lt hne1); obtain ⟨q0, q1⟩ := A3.c2; (have qf := A3.frozen)))
    have hU2 : Up R w.heap.size w w2 := hU1d.trans (hu2.mono hU1d.size)
    have hU3 : Up R w.heap.size w w3 := hU2.trans (hu3.mono hU2.size)
    have hz3 := P3.lt
    have e1 : IntKind.i64.wrap (IntKind.i64.wrap (a - 1000) + IntKind.i64.wrap (v2 * 100)) = a - 1000 + v2 * 100 := by rw [IntWalk.i64_in (a - 1000) (by omega), IntWalk.i64_in (v2 * 100) (by omega)]; exact IntWalk.i64_in _ (by omega)
    have e2 : IntKind.i64.wrap (IntKind.i64.wrap (b - 1000) + IntKind.i64.wrap (v3 * 100)) = b - 1000 + v3 * 100 := by rw [IntWalk.i64_in (b - 1000) (by omega), IntWalk.i64_in (v3 * 100) (by omega)]; exact IntWalk.i64_in _ (by omega)
    rw [e1, e2]
    clear P1 P2 P3 A1 A2 hu2 hu3 hr1 hr1d hr2 q0 q1 qf hU1 hU1d hU2 P1d A1d
    go_wp2
    refine bodyPost_ret (res_row rfl rfl ((A3.s2_0 _).s2_1 _) Try.underlying24 rfl (by kernel_rfl)) rfl ?_
    exact ⟨_, _, k + 1 + 1 + 1, rfl, by omega, by omega, by omega, by omega, by omega, by omega, by (first | assumption | exact Rd.keep ‹Rd _ R _› (by (repeat (first | with_reducible assumption | with_reducible exact Below.refl _ _ | ((with_reducible refine Below.alloc ?_ ?_ _); rotate_left; · exact (by first | omega | (simp; done) | (simp; omega))) | ((with_reducible refine Below.setCell ?_ ?_ _); rotate_left; · exact (by first | omega | (simp; done) | (simp; omega))) | with_reducible refine Below.drew ?_ | assumption | exact Below.refl _ _ | refine Below.alloc ?_ (by first | omega | (simp; done) | (simp; omega)) _ | refine Below.setCell ?_ (by first | omega | (simp; done) | (simp; omega)) _ | refine Below.drew ?_)))), by (repeat (first | assumption | exact Up.refl _ _ _ | refine Up.alloc ?_ (by first | omega | (simp; done) | (simp; omega)) _ | refine Up.setCell ?_ (.inr (by first | omega | (simp; done) | (simp; omega))) _ | refine Up.drew ?_ | refine Up.drewN ?_ _))⟩
/-- a box, a point and a radius drawn by a law -/
def DrawnTouch (w : World) (e : Ending) (w' : World) : Prop :=
  ∃ (a b c d x y r : Int), e = .returned (.tuple #[.agg #[.int .i64 a, .int .i64 b, .int .i64 c, .int .i64 d], .agg #[.int .i64 x, .int .i64 y], .int .i64 r]) ∧ -5000 ≤ r ∧ r ≤ 1500 ∧ Below w.heap.size w w'
end Go.Proofs.Ytgghfbkeipchkaa

/- The walk of FnLegalSteer. -/
import Derived.Test.YtnhjalijnociaaaKa
set_option linter.unusedVariables false
set_option linter.unusedSimpArgs false
namespace Go.Proofs.Ytnhjalijnociaaa
open Go.RowKit

set_option maxRecDepth 100000 in
set_option maxHeartbeats 1000000 in
theorem lawLegalSteer (a : Option Addr) (len cap : Nat) (zs : List Int) (w : World) (h : IsRow .u8 w a len cap zs) : Calls Try.prog 21 #[.slice a len cap] w fun e w' => e = .returned (.bool true) ∧ Below w.heap.size w w' := by
  by_cases hl : len ≤ 1048576
  · go_enter Try.func21, Try.ntmps21
    go_wp2_with fail
    refine (dInputsLegal _ _ _ _ _ h).mono ?_
    rintro e w1 ⟨l, g, c, n, f, rfl, hl1, hs1, hi1, hcn, hn, hb1⟩
    have hwn := hs1.wn
    have hgn := hs1.gn
    have I1 : QJ w w1.heap.size l g n f (w1.alloc (.cells #[.int .i64 l.id, .int .i64 l.ticks, .int .i64 l.sx, .int .i64 l.sy, .slice l.wa l.wn l.wc, .slice l.ga l.gn l.gc, .int .i64 l.flx, .int .i64 l.fly, .int .i64 l.fhx, .int .i64 l.fhy, .int .i64 l.bans] 29)) := QJ.mk0 hl1 hi1 hb1
    clear hl1 hs1 hi1
    go_wp2_with fail
    refine (iLegal l (some ⟨g, 0, none⟩) n c f _ I1.lv (by omega) I1.xs).mono ?_
    rintro e w2 ⟨rfl, hb2⟩
    have I2 := I1.pass hb2
    generalize w1.heap.size = B at *
    clear I1 hb1 hb2
    obtain ⟨V, hV⟩ : ∃ V, V = l.legV f n := ⟨_, rfl⟩
    rw [← hV]
    have hVh := Lib.hid hV
    clear hV
    (try clear q0 q1 q2 q3 q4 q5 q6 q7 q8 q9 q10); obtain ⟨q0, q1, q2, q3, q4, q5, q6, q7, q8, q9, q10⟩ := I2.L.c11
    have hzL2 := I2.L.lt
    go_wp2_with fail
    refine (sInputsLegal l (some ⟨g, 0, none⟩) n c f _ (by omega) (by omega) I2.lv (by omega) I2.xs).mono ?_
    rw [← hVh.out]
    rintro e w3 ⟨rfl, hb3⟩
    have I3 := I2.pass hb3
    clear I2 hb3
    (try clear q0 q1 q2 q3 q4 q5 q6 q7 q8 q9 q10); obtain ⟨q0, q1, q2, q3, q4, q5, q6, q7, q8, q9, q10⟩ := I3.L.c11
    have hzL3 := I3.L.lt
    go_wp2_with fail
    refine (sLevelValid l _ (by omega) (by omega) I3.lv).mono ?_
    rintro e w4 ⟨rfl, hb4⟩
    have I4 := I3.pass hb4
    clear I3 hb4
    (try clear q0 q1 q2 q3 q4 q5 q6 q7 q8 q9 q10); obtain ⟨q0, q1, q2, q3, q4, q5, q6, q7, q8, q9, q10⟩ := I4.L.c11
    have hzL4 := I4.L.lt
    cases hk : l.ok with
    | false =>
      go_wp2
      go_ret
      exact ⟨ret_bool (by first | rfl | simp), I4.bel⟩
    | true =>
      have hbd := Lv.ok_num2 hk
      obtain ⟨_, ⟨t1, t2⟩, ⟨n0, n3⟩, _⟩ := hbd
      by_cases ht : l.ticks < 2
      · go_wp2
        go_ret
        exact ⟨ret_bool (by first | rfl | simp), I4.bel⟩
      · obtain ⟨z0, z1⟩ := steer_leg hk (by omega)
        have I5 := I4.alloc (.cells #[.int .i64 1, .int .i64 0, .bool false, .int .i64 (-1), .int .i64 0, .bool false] 33)
        have V5 : Blk (w4.alloc (.cells #[.int .i64 1, .int .i64 0, .bool false, .int .i64 (-1), .int .i64 0, .bool false] 33)) w4.heap.size #[.int .i64 1, .int .i64 0, .bool false, .int .i64 (-1), .int .i64 0, .bool false] := Blk.at rfl
        go_wp2_with fail
        refine (iLegal l (some ⟨w4.heap.size, 0, none⟩) 2 2 (in2 1 (-1)) _ I5.lv (by omega) (ins_in2 V5)).mono ?_
        rw [z0]
        rintro e w6 ⟨rfl, hb6⟩
        have I6 := I5.pass hb6
        clear I5 hb6 I4 V5
        (try clear q0 q1 q2 q3 q4 q5 q6 q7 q8 q9 q10); obtain ⟨q0, q1, q2, q3, q4, q5, q6, q7, q8, q9, q10⟩ := I6.L.c11
        have hzL6 := I6.L.lt
        have I7 := I6.alloc (.cells #[.int .i64 1, .int .i64 0, .bool false, .int .i64 0, .int .i64 0, .bool false] 33)
        have V7 : Blk (w6.alloc (.cells #[.int .i64 1, .int .i64 0, .bool false, .int .i64 0, .int .i64 0, .bool false] 33)) w6.heap.size #[.int .i64 1, .int .i64 0, .bool false, .int .i64 0, .int .i64 0, .bool false] := Blk.at rfl
        go_wp2_with fail
        refine (iLegal l (some ⟨w6.heap.size, 0, none⟩) 2 2 (in2 1 0) _ I7.lv (by omega) (ins_in2 V7)).mono ?_
        rw [z1]
        rintro e w8 ⟨rfl, hb8⟩
        have I8 := I7.pass hb8
        go_wp2
        go_ret
        exact ⟨ret_bool (by first | rfl | simp), I8.bel⟩
  · go_enter Try.func21, Try.ntmps21
    go_wp2
    go_ret
    exact ⟨rfl, by (repeat (first | with_reducible assumption | with_reducible exact Below.refl _ _ | ((with_reducible refine Below.alloc ?_ ?_ _); rotate_left; · exact (by first | omega | (simp; done) | (simp; omega))) | ((with_reducible refine Below.setCell ?_ ?_ _); rotate_left; · exact (by first | omega | (simp; done) | (simp; omega))) | with_reducible refine Below.drew ?_ | assumption | exact Below.refl _ _ | refine Below.alloc ?_ (by first | omega | (simp; done) | (simp; omega)) _ | refine Below.setCell ?_ (by first | omega | (simp; done) | (simp; omega)) _ | refine Below.drew ?_))⟩
end Go.Proofs.Ytnhjalijnociaaa

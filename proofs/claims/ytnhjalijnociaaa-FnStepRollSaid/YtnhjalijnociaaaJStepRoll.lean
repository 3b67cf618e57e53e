/- The walk of FnStepRoll. -/
import Derived.Test.YtnhjalijnociaaaJa
set_option linter.unusedVariables false
set_option linter.unusedSimpArgs false
namespace Go.Proofs.Ytnhjalijnociaaa
open Go.RowKit

theorem ab_cases (x : Int) : (ab x = x ∧ 0 ≤ x) ∨ (ab x = -x ∧ x < 0) := by
  unfold ab
  split <;> omega
attribute [local go_sem ↓] run_eq9 run_ne9
set_option maxRecDepth 100000 in
set_option maxHeartbeats 1000000 in
theorem lawStepRoll (a : Option Addr) (len cap : Nat) (zs : List Int) (w : World) (h : IsRow .u8 w a len cap zs) : Calls Try.prog 13 #[.slice a len cap] w fun e w' => e = .returned (.bool true) ∧ Below w.heap.size w w' := by
  by_cases hl : len ≤ 1048576
  · go_enter Try.func13, Try.ntmps13
    go_wp2_with fail
    refine (dEngineStep _ _ _ _ _ h).mono ?_
    rintro e w1 ⟨l, s, d, p, b, rfl, hl1, hs1, hb1⟩
    have hwn := hs1.wn
    have hgn := hs1.gn
    have I1 : KJ w w1.heap.size l s d p b (((w1.alloc (.cells #[.int .i64 l.id, .int .i64 l.ticks, .int .i64 l.sx, .int .i64 l.sy, .slice l.wa l.wn l.wc, .slice l.ga l.gn l.gc, .int .i64 l.flx, .int .i64 l.fly, .int .i64 l.fhx, .int .i64 l.fhy, .int .i64 l.bans] 29)).alloc (.cells #[.int .i64 s.tick, .int .i64 s.ax, .int .i64 s.ay, .int .i64 s.fx, .int .i64 s.fy, .int .i64 s.turn, .int .i64 s.gate, .bool s.done, .bool s.over] 31)).alloc (.cells #[.int .i64 d, .int .i64 p, .bool b] 33)) := KJ.mk0 hl1 hb1
    clear hl1 hs1
    go_wp2_with fail
    refine (iEStep l s d p b _ I1.lv).mono ?_
    rintro e w2 ⟨rfl, hb2⟩
    have I2 := I1.pass hb2
    clear I1 hb1 hb2
    generalize w1.heap.size = B at *
    (try clear q0 q1 q2 q3 q4 q5 q6 q7 q8 q9 q10); obtain ⟨q0, q1, q2, q3, q4, q5, q6, q7, q8, q9, q10⟩ := I2.L.c11; (try clear c0 c1 c2 c3 c4 c5 c6 c7 c8); obtain ⟨c0, c1, c2, c3, c4, c5, c6, c7, c8⟩ := I2.S.c9; (try clear x0 x1 x2); have x0 := I2.X.cell 0; have x1 := I2.X.cell 1; have x2 := I2.X.cell 2; simp only [List.getElem?_toArray, List.getElem?_cons_zero, List.getElem?_cons_succ] at x0 x1 x2; have hzLI2 := I2.L.lt; have hzSI2 := I2.S.lt; have hzXI2 := I2.X.lt
    obtain ⟨R, hR⟩ : ∃ R, R = stepV l s d p b := ⟨_, rfl⟩
    rw [← hR]
    have hRh := Lib.hid hR
    clear hR
    have I2b := I2.alloc (.cells #[.int .i64 R.tick, .int .i64 R.ax, .int .i64 R.ay, .int .i64 R.fx, .int .i64 R.fy, .int .i64 R.turn, .int .i64 R.gate, .bool R.done, .bool R.over] 31)
    have O2 : Blk (w2.alloc (.cells #[.int .i64 R.tick, .int .i64 R.ax, .int .i64 R.ay, .int .i64 R.fx, .int .i64 R.fy, .int .i64 R.turn, .int .i64 R.gate, .bool R.done, .bool R.over] 31)) w2.heap.size #[.int .i64 R.tick, .int .i64 R.ax, .int .i64 R.ay, .int .i64 R.fx, .int .i64 R.fy, .int .i64 R.turn, .int .i64 R.gate, .bool R.done, .bool R.over] := Blk.at rfl
    go_wp2_with fail
    refine (sEStep l s d p b _ (by omega) (by omega) I2b.lv).mono ?_
    rw [← hRh.out]
    rintro e w3 ⟨rfl, hb3⟩
    have I3a := I2b.pass hb3
    have I3 := I3a.alloc (.cells #[.int .i64 R.tick, .int .i64 R.ax, .int .i64 R.ay, .int .i64 R.fx, .int .i64 R.fy, .int .i64 R.turn, .int .i64 R.gate, .bool R.done, .bool R.over] 31)
    have O3 := (O2.below hb3 O2.lt).alloc (.cells #[.int .i64 R.tick, .int .i64 R.ax, .int .i64 R.ay, .int .i64 R.fx, .int .i64 R.fy, .int .i64 R.turn, .int .i64 R.gate, .bool R.done, .bool R.over] 31)
    have N3 : Blk (w3.alloc (.cells #[.int .i64 R.tick, .int .i64 R.ax, .int .i64 R.ay, .int .i64 R.fx, .int .i64 R.fy, .int .i64 R.turn, .int .i64 R.gate, .bool R.done, .bool R.over] 31)) w3.heap.size #[.int .i64 R.tick, .int .i64 R.ax, .int .i64 R.ay, .int .i64 R.fx, .int .i64 R.fy, .int .i64 R.turn, .int .i64 R.gate, .bool R.done, .bool R.over] := Blk.at rfl
    clear hb3 I2 I2b O2
    go_upto_region 6 with fail
    clear I3a
    generalize w3.alloc (.cells #[.int .i64 R.tick, .int .i64 R.ax, .int .i64 R.ay, .int .i64 R.fx, .int .i64 R.fy, .int .i64 R.turn, .int .i64 R.gate, .bool R.done, .bool R.over] 31) = w4 at *
    generalize w3.heap.size = N at *
    generalize w2.heap.size = O at *
    (try clear q0 q1 q2 q3 q4 q5 q6 q7 q8 q9 q10); obtain ⟨q0, q1, q2, q3, q4, q5, q6, q7, q8, q9, q10⟩ := I3.L.c11; (try clear c0 c1 c2 c3 c4 c5 c6 c7 c8); obtain ⟨c0, c1, c2, c3, c4, c5, c6, c7, c8⟩ := I3.S.c9; (try clear x0 x1 x2); have x0 := I3.X.cell 0; have x1 := I3.X.cell 1; have x2 := I3.X.cell 2; simp only [List.getElem?_toArray, List.getElem?_cons_zero, List.getElem?_cons_succ] at x0 x1 x2; have hzLI3 := I3.L.lt; have hzSI3 := I3.S.lt; have hzXI3 := I3.X.lt
    (try clear o0 o1 o2 o3 o4 o5 o6 o7 o8); obtain ⟨o0, o1, o2, o3, o4, o5, o6, o7, o8⟩ := O3.c9
    (try clear n0 n1 n2 n3 n4 n5 n6 n7 n8); obtain ⟨n0, n1, n2, n3, n4, n5, n6, n7, n8⟩ := N3.c9
    have hzO3 := O3.lt
    have hzN3 := N3.lt
    have hR := hRh.out
    clear hRh
    cases hk : stepB l s d p b with
    | false =>
      clear hR hk
      go_wp2
      go_ret
      exact ⟨ret_bool (by simp), I3.bel⟩
    | true =>
      have hin := StepIn.of hk
      have hRF : R = stepF l s d p b := hR.trans (stepV_t hk)
      have hkh := Lib.hid hk
      clear hR
      by_cases hp : p = 1
      · have hpb : (p == 1) = true := by simpa using hp
        have hp := Lib.hid hp
        clear hin hRF
        go_wp2
        go_ret
        exact ⟨ret_bool (by first | rfl | simp), I3.bel⟩
      · have hpb : (p == 1) = false := by simpa using hp
        have hM := step_roll (l := l) (s := s) (d := d) (p := p) (b := b) hp
        rw [← hRF] at hM
        have hv := (St.ok_of (hRF ▸ hin.valid)).2.fast
        obtain ⟨⟨y1, y2⟩, ⟨y3, y4⟩⟩ := fast_bd hv
        obtain ⟨⟨z1, z2⟩, ⟨z3, z4⟩⟩ := fast_bd hin.ok.fast
        have hM1 := Lib.hid hM.1
        have hM2 := Lib.hid hM.2
        clear hin hRF hM hv hp
        go_wp2
        all_goals
          go_ret
          exact ⟨ret_bool (by
            first
              | rfl
              | (simp only [decide_eq_true_eq]
                 have e1 := hM1.out
                 have e2 := hM2.out
                 rcases ab_cases R.fx with ⟨a1, a2⟩ | ⟨a1, a2⟩ <;> rcases ab_cases s.fx with ⟨b1, b2⟩ | ⟨b1, b2⟩ <;> rcases ab_cases R.fy with ⟨c1, c2⟩ | ⟨c1, c2⟩ <;> rcases ab_cases s.fy with ⟨d1, d2⟩ | ⟨d1, d2⟩ <;> omega)
              | (exfalso
                 have e1 := hM1.out
                 have e2 := hM2.out
                 rcases ab_cases R.fx with ⟨a1, a2⟩ | ⟨a1, a2⟩ <;> rcases ab_cases s.fx with ⟨b1, b2⟩ | ⟨b1, b2⟩ <;> rcases ab_cases R.fy with ⟨c1, c2⟩ | ⟨c1, c2⟩ <;> rcases ab_cases s.fy with ⟨d1, d2⟩ | ⟨d1, d2⟩ <;> omega)), I3.bel⟩
  · go_enter Try.func13, Try.ntmps13
    go_wp2
    go_ret
    exact ⟨rfl, by (repeat (first | with_reducible assumption | with_reducible exact Below.refl _ _ | ((with_reducible refine Below.alloc ?_ ?_ _); rotate_left; · exact (by first | omega | (simp; done) | (simp; omega))) | ((with_reducible refine Below.setCell ?_ ?_ _); rotate_left; · exact (by first | omega | (simp; done) | (simp; omega))) | with_reducible refine Below.drew ?_ | assumption | exact Below.refl _ _ | refine Below.alloc ?_ (by first | omega | (simp; done) | (simp; omega)) _ | refine Below.setCell ?_ (by first | omega | (simp; done) | (simp; omega)) _ | refine Below.drew ?_))⟩
end Go.Proofs.Ytnhjalijnociaaa

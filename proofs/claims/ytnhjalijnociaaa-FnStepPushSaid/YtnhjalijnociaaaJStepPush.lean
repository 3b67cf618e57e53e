/- The walk of FnStepPush. -/
import Derived.Test.YtnhjalijnociaaaJa
set_option linter.unusedVariables false
set_option linter.unusedSimpArgs false
namespace Go.Proofs.Ytnhjalijnociaaa
open Go.RowKit

attribute [local go_sem ↓] run_eq9 run_ne9
set_option maxRecDepth 100000 in
set_option maxHeartbeats 1000000 in
theorem lawStepPush (a : Option Addr) (len cap : Nat) (zs : List Int) (w : World) (h : IsRow .u8 w a len cap zs) : Calls Try.prog 12 #[.slice a len cap] w fun e w' => e = .returned (.bool true) ∧ Below w.heap.size w w' := by
  by_cases hl : len ≤ 1048576
  · go_enter Try.func12, Try.ntmps12
    go_wp2_with fail
    refine (dEngineStep _ _ _ _ _ h).mono ?_
    rintro e w1 ⟨l, s, d, p, b, rfl, hl1, hs1, hb1⟩
    have hwn := hs1.wn
    have hgn := hs1.gn
    have I1 : KJ w w1.heap.size l s d p b (((w1.alloc (.cells #[.int .i64 l.id, .int .i64 l.ticks, .int .i64 l.sx, .int .i64 l.sy, .slice l.wa l.wn l.wc, .slice l.ga l.gn l.gc, .int .i64 l.flx, .int .i64 l.fly, .int .i64 l.fhx, .int .i64 l.fhy, .int .i64 l.bans] 29)).alloc (.cells #[.int .i64 s.tick, .int .i64 s.ax, .int .i64 s.ay, .int .i64 s.fx, .int .i64 s.fy, .int .i64 s.turn, .int .i64 s.gate, .bool s.done, .bool s.over] 31)).alloc (.cells #[.int .i64 d, .int .i64 p, .bool b] 33)) := KJ.mk0 hl1 hb1
    clear hl1 hs1
    go_wp2_with fail
    refine (iEStep l s d p b _ I1.lv).mono ?_
    rintro e w2 ⟨rfl, hb2⟩
    have I2 := I1.pass hb2
    clear I1 hb1 hb2
    generalize w1.heap.size = B at *
    (try clear q0 q1 q2 q3 q4 q5 q6 q7 q8 q9 q10); obtain ⟨q0, q1, q2, q3, q4, q5, q6, q7, q8, q9, q10⟩ := I2.L.c11; (try clear c0 c1 c2 c3 c4 c5 c6 c7 c8); obtain ⟨c0, c1, c2, c3, c4, c5, c6, c7, c8⟩ := I2.S.c9; (try clear x0 x1 x2); have x0 := I2.X.cell 0; have x1 := I2.X.cell 1; have x2 := I2.X.cell 2; simp only [List.getElem?_toArray, List.getElem?_cons_zero, List.getElem?_cons_succ] at x0 x1 x2; have hzLI2 := I2.L.lt; have hzSI2 := I2.S.lt; have hzXI2 := I2.X.lt
    obtain ⟨R, hR⟩ : ∃ R, R = stepV l s d p b := ⟨_, rfl⟩
    rw [← hR]
    have hRh := Lib.hid hR
    clear hR
    have I2b := I2.alloc (.cells #[.int .i64 R.tick, .int .i64 R.ax, .int .i64 R.ay, .int .i64 R.fx, .int .i64 R.fy, .int .i64 R.turn, .int .i64 R.gate, .bool R.done, .bool R.over] 31)
    have O2 : Blk (w2.alloc (.cells #[.int .i64 R.tick, .int .i64 R.ax, .int .i64 R.ay, .int .i64 R.fx, .int .i64 R.fy, .int .i64 R.turn, .int .i64 R.gate, .bool R.done, .bool R.over] 31)) w2.heap.size #[.int .i64 R.tick, .int .i64 R.ax, .int .i64 R.ay, .int .i64 R.fx, .int .i64 R.fy, .int .i64 R.turn, .int .i64 R.gate, .bool R.done, .bool R.over] := Blk.at rfl
    go_wp2_with fail
    refine (sEStep l s d p b _ (by omega) (by omega) I2b.lv).mono ?_
    rw [← hRh.out]
    rintro e w3 ⟨rfl, hb3⟩
    have I3a := I2b.pass hb3
    have I3 := I3a.alloc (.cells #[.int .i64 R.tick, .int .i64 R.ax, .int .i64 R.ay, .int .i64 R.fx, .int .i64 R.fy, .int .i64 R.turn, .int .i64 R.gate, .bool R.done, .bool R.over] 31)
    have O3 := (O2.below hb3 O2.lt).alloc (.cells #[.int .i64 R.tick, .int .i64 R.ax, .int .i64 R.ay, .int .i64 R.fx, .int .i64 R.fy, .int .i64 R.turn, .int .i64 R.gate, .bool R.done, .bool R.over] 31)
    have N3 : Blk (w3.alloc (.cells #[.int .i64 R.tick, .int .i64 R.ax, .int .i64 R.ay, .int .i64 R.fx, .int .i64 R.fy, .int .i64 R.turn, .int .i64 R.gate, .bool R.done, .bool R.over] 31)) w3.heap.size #[.int .i64 R.tick, .int .i64 R.ax, .int .i64 R.ay, .int .i64 R.fx, .int .i64 R.fy, .int .i64 R.turn, .int .i64 R.gate, .bool R.done, .bool R.over] := Blk.at rfl
    clear hb3 I2 I2b O2
    go_upto_region 6 with fail
    clear I3a
    generalize w3.alloc (.cells #[.int .i64 R.tick, .int .i64 R.ax, .int .i64 R.ay, .int .i64 R.fx, .int .i64 R.fy, .int .i64 R.turn, .int .i64 R.gate, .bool R.done, .bool R.over] 31) = w4 at *
    generalize w3.heap.size = N at *
    generalize w2.heap.size = O at *
    (try clear q0 q1 q2 q3 q4 q5 q6 q7 q8 q9 q10); obtain ⟨q0, q1, q2, q3, q4, q5, q6, q7, q8, q9, q10⟩ := I3.L.c11; (try clear c0 c1 c2 c3 c4 c5 c6 c7 c8); obtain ⟨c0, c1, c2, c3, c4, c5, c6, c7, c8⟩ := I3.S.c9; (try clear x0 x1 x2); have x0 := I3.X.cell 0; have x1 := I3.X.cell 1; have x2 := I3.X.cell 2; simp only [List.getElem?_toArray, List.getElem?_cons_zero, List.getElem?_cons_succ] at x0 x1 x2; have hzLI3 := I3.L.lt; have hzSI3 := I3.S.lt; have hzXI3 := I3.X.lt
    (try clear o0 o1 o2 o3 o4 o5 o6 o7 o8); obtain ⟨o0, o1, o2, o3, o4, o5, o6, o7, o8⟩ := O3.c9
    (try clear n0 n1 n2 n3 n4 n5 n6 n7 n8); obtain ⟨n0, n1, n2, n3, n4, n5, n6, n7, n8⟩ := N3.c9
    have hzO3 := O3.lt
    have hzN3 := N3.lt
    have hR := hRh.out
    clear hRh
    cases hk : stepB l s d p b with
    | false =>
      clear hR hk
      go_wp2
      go_ret
      exact ⟨ret_bool (by simp), I3.bel⟩
    | true =>
      have hin := StepIn.of hk
      have hRF : R = stepF l s d p b := hR.trans (stepV_t hk)
      have hkh := Lib.hid hk
      clear hR
      by_cases hw : l.wn = 0
      · have hw1 : ¬ (0 : Int) < (l.wn : Int) := by omega
        cases hdn : s.done with
        | true =>
          clear hin hRF
          go_wp2
          go_ret
          exact ⟨ret_bool (by first | rfl | simp), I3.bel⟩
        | false =>
          cases hov : s.over with
          | true =>
            clear hin hRF
            go_wp2
            go_ret
            exact ⟨ret_bool (by first | rfl | simp), I3.bel⟩
          | false =>
            have hsE : (⟨s.tick, s.ax, s.ay, 0, 0, s.turn, s.gate, false, false⟩ : St) = { s with fx := 0, fy := 0 } := by
              cases s
              simp only at hdn hov
              subst hdn
              subst hov
              rfl
            have hbE : l.bare = l := by
              obtain ⟨lid, lticks, lsx, lsy, wa, wn, wc, ga, gn, gc, flx, fly, fhx, fhy, bans, wf, gf⟩ := l
              simp only at hw
              subst hw
              rfl
            have hpb : stepB l.bare ⟨s.tick, s.ax, s.ay, 0, 0, s.turn, s.gate, false, false⟩ 0 1 false = true := by rw [hbE, hsE]; exact push_b hin
            obtain ⟨Z, hZ⟩ : ∃ Z, Z = stepV l.bare ⟨s.tick, s.ax, s.ay, 0, 0, s.turn, s.gate, false, false⟩ 0 1 false := ⟨_, rfl⟩
            have hpv := push_v hin hw (by rw [hdn, hov]; rfl)
            have hZ2 := hZ.trans (stepV_t hpb)
            rw [hbE, hsE] at hZ2
            rw [← hZ2] at hpv
            clear hZ2 hbE
            have k2 := hin.ok.turn
            have hpvh := Lib.hid hpv
            have hZh := Lib.hid hZ
            clear hin hRF hw hsE hpv hZ
            have I4 := I3.alloc (.cells #[.int .i64 s.tick, .int .i64 s.ax, .int .i64 s.ay, .int .i64 0, .int .i64 0, .int .i64 s.turn, .int .i64 s.gate, .bool false, .bool false] 31)
            go_wp2_with fail
            refine (iEStep l.bare ⟨s.tick, s.ax, s.ay, 0, 0, s.turn, s.gate, false, false⟩ 0 1 false _ ⟨.inl rfl, I4.lv.2⟩).mono ?_
            rw [hpb, ← hZh.out]
            rintro e w5 ⟨rfl, hb5⟩
            have I5 := (I4.pass hb5).alloc (.cells #[.int .i64 Z.tick, .int .i64 Z.ax, .int .i64 Z.ay, .int .i64 Z.fx, .int .i64 Z.fy, .int .i64 Z.turn, .int .i64 Z.gate, .bool Z.done, .bool Z.over] 31)
            have Z5 : Blk (w5.alloc (.cells #[.int .i64 Z.tick, .int .i64 Z.ax, .int .i64 Z.ay, .int .i64 Z.fx, .int .i64 Z.fy, .int .i64 Z.turn, .int .i64 Z.gate, .bool Z.done, .bool Z.over] 31)) w5.heap.size #[.int .i64 Z.tick, .int .i64 Z.ax, .int .i64 Z.ay, .int .i64 Z.fx, .int .i64 Z.fy, .int .i64 Z.turn, .int .i64 Z.gate, .bool Z.done, .bool Z.over] := Blk.at rfl
            clear hb5 I3 I4 O3 N3 o0 o1 o2 o3 o4 o5 o6 o7 o8 n0 n1 n2 n3 n4 n5 n6 n7 n8 hpb
            go_upto_region 11 with fail
            generalize w5.alloc (.cells #[.int .i64 Z.tick, .int .i64 Z.ax, .int .i64 Z.ay, .int .i64 Z.fx, .int .i64 Z.fy, .int .i64 Z.turn, .int .i64 Z.gate, .bool Z.done, .bool Z.over] 31) = w6 at *
            (try clear q0 q1 q2 q3 q4 q5 q6 q7 q8 q9 q10); obtain ⟨q0, q1, q2, q3, q4, q5, q6, q7, q8, q9, q10⟩ := I5.L.c11; (try clear c0 c1 c2 c3 c4 c5 c6 c7 c8); obtain ⟨c0, c1, c2, c3, c4, c5, c6, c7, c8⟩ := I5.S.c9; (try clear x0 x1 x2); have x0 := I5.X.cell 0; have x1 := I5.X.cell 1; have x2 := I5.X.cell 2; simp only [List.getElem?_toArray, List.getElem?_cons_zero, List.getElem?_cons_succ] at x0 x1 x2; have hzLI5 := I5.L.lt; have hzSI5 := I5.S.lt; have hzXI5 := I5.X.lt
            (try clear o0 o1 o2 o3 o4 o5 o6 o7 o8); obtain ⟨o0, o1, o2, o3, o4, o5, o6, o7, o8⟩ := Z5.c9
            have hzZ5 := Z5.lt
            go_wp2_with fail
            refine (iDir s.turn _ k2.1 k2.2).mono ?_
            rintro e w7 ⟨rfl, hb7⟩
            have I7 := (I5.pass hb7).alloc (.cells #[.int .i64 (dirX s.turn), .int .i64 (dirY s.turn)] 24)
            have Z7 := (Z5.below hb7 Z5.lt).alloc (.cells #[.int .i64 (dirX s.turn), .int .i64 (dirY s.turn)] 24)
            clear I5 Z5 hb7
            obtain ⟨d1, d2⟩ := dirX_bd k2.1 k2.2
            obtain ⟨d3, d4⟩ := dirY_bd k2.1 k2.2
            have hpd := fast_bd (dir_bd s.turn k2.1 k2.2)
            obtain ⟨DX, hDX⟩ : ∃ DX, DX = dirX s.turn := ⟨_, rfl⟩
            obtain ⟨DY, hDY⟩ : ∃ DY, DY = dirY s.turn := ⟨_, rfl⟩
            have ex : pushX s.turn = (DX * 200).tdiv 1000 := by rw [hDX]; rfl
            have ey : pushY s.turn = (DY * 200).tdiv 1000 := by rw [hDY]; rfl
            rw [ex, ey] at hpd
            have hpvk := hpvh.out
            rw [ex, ey] at hpvk
            rw [← hDX] at d1 d2 I7 Z7 ⊢
            rw [← hDY] at d3 d4 I7 Z7 ⊢
            clear hDX hDY ex ey hpvh
            have hpvk := Lib.hid hpvk
            obtain ⟨⟨p1, p2⟩, ⟨p3, p4⟩⟩ := hpd
            go_wp2_with fail
            refine (iScale DX DY 200 _ (vok_in (by omega) (by omega) (by omega) (by omega)) (by omega) (by omega) (by omega) (by omega) (by omega) (by omega) (vok_in (by omega) (by omega) (by omega) (by omega))).mono ?_
            obtain ⟨X, hX⟩ : ∃ X, X = (DX * 200).tdiv 1000 := ⟨_, rfl⟩
            obtain ⟨Y, hY⟩ : ∃ Y, Y = (DY * 200).tdiv 1000 := ⟨_, rfl⟩
            rw [← hX, ← hY]
            have hpvq := hpvk.out
            rw [← hX, ← hY] at hpvq
            clear hX hY hpvk p1 p2 p3 p4
            rintro e w8 ⟨rfl, hb8⟩
            have I8 := (I7.pass hb8).alloc (.cells #[.int .i64 X, .int .i64 Y] 24)
            have Z8 := (Z7.below hb8 Z7.lt).alloc (.cells #[.int .i64 X, .int .i64 Y] 24)
            have P8 : Blk (w8.alloc (.cells #[.int .i64 X, .int .i64 Y] 24)) w8.heap.size #[.int .i64 X, .int .i64 Y] := Blk.at rfl
            clear I7 Z7 hb8
            go_upto_region 13 with fail
            generalize w8.alloc (.cells #[.int .i64 X, .int .i64 Y] 24) = w9 at *
            (try clear o0 o1 o2 o3 o4 o5 o6 o7 o8); obtain ⟨o0, o1, o2, o3, o4, o5, o6, o7, o8⟩ := Z8.c9
            obtain ⟨p0, p1⟩ := P8.c2
            have hzZ8 := Z8.lt
            have hzP8 := P8.lt
            cases hzo : Z.over with
            | true =>
              clear hpvq
              go_wp2
              go_ret
              exact ⟨ret_bool (by first | rfl | simp), I8.bel⟩
            | false =>
              obtain ⟨q1, q2⟩ := hpvq.resolve_left (by rw [hzo]; exact Bool.false_ne_true)
              rw [q1] at o3
              rw [q2] at o4
              clear q1 q2
              go_wp2
              go_ret
              exact ⟨ret_bool (by first | rfl | simp), I8.bel⟩
      · have hw1 : (0 : Int) < (l.wn : Int) := by omega
        clear hin hRF
        go_wp2
        go_ret
        exact ⟨ret_bool (by first | rfl | simp), I3.bel⟩
  · go_enter Try.func12, Try.ntmps12
    go_wp2
    go_ret
    exact ⟨rfl, by (repeat (first | with_reducible assumption | with_reducible exact Below.refl _ _ | ((with_reducible refine Below.alloc ?_ ?_ _); rotate_left; · exact (by first | omega | (simp; done) | (simp; omega))) | ((with_reducible refine Below.setCell ?_ ?_ _); rotate_left; · exact (by first | omega | (simp; done) | (simp; omega))) | with_reducible refine Below.drew ?_ | assumption | exact Below.refl _ _ | refine Below.alloc ?_ (by first | omega | (simp; done) | (simp; omega)) _ | refine Below.setCell ?_ (by first | omega | (simp; done) | (simp; omega)) _ | refine Below.drew ?_))⟩
end Go.Proofs.Ytnhjalijnociaaa

/- EngineStep of both sides. -/
import Derived.Test.YtnhjalijnociaaaId
import Derived.Test.YtnhjalijnociaaaQax
import Derived.Test.YtnhjalijnociaaaQau
set_option linter.unusedVariables false
set_option linter.unusedSimpArgs false
namespace Go.Proofs.Ytnhjalijnociaaa
open Go.RowKit

theorem ret_sb {a b : St} {k k' : Bool} (h1 : a = b) (h2 : k = k') : Ending.returned (.tuple #[.agg #[.int .i64 a.tick, .int .i64 a.ax, .int .i64 a.ay, .int .i64 a.fx, .int .i64 a.fy, .int .i64 a.turn, .int .i64 a.gate, .bool a.done, .bool a.over], .bool k]) = .returned (.tuple #[.agg #[.int .i64 b.tick, .int .i64 b.ax, .int .i64 b.ay, .int .i64 b.fx, .int .i64 b.fy, .int .i64 b.turn, .int .i64 b.gate, .bool b.done, .bool b.over], .bool k']) := by rw [h1, h2]
/-- the variables of a step: the level, the state, the input, the result -/
structure EJ (w0 : World) (l : Lv) (s : Array Value) (d p : Int) (b : Bool) (w : World) : Prop where
  L : Blk w w0.heap.size #[.int .i64 l.id, .int .i64 l.ticks, .int .i64 l.sx, .int .i64 l.sy, .slice l.wa l.wn l.wc, .slice l.ga l.gn l.gc, .int .i64 l.flx, .int .i64 l.fly, .int .i64 l.fhx, .int .i64 l.fhy, .int .i64 l.bans]
  S : Blk w (w0.heap.size + 1) s
  X : Blk w (w0.heap.size + 1 + 1) #[.int .i64 d, .int .i64 p, .bool b]
  Z : Blk w (w0.heap.size + 1 + 1 + 1) #[.int .i64 0, .int .i64 0, .int .i64 0, .int .i64 0, .int .i64 0, .int .i64 0, .int .i64 0, .bool false, .bool false]
  bel : Below w0.heap.size w0 w
theorem EJ.pass {w0 w w' : World} {l : Lv} {s : Array Value} {d p : Int} {b : Bool} (h : EJ w0 l s d p b w) (hb : Below w.heap.size w w') : EJ w0 l s d p b w' := ⟨h.L.below hb h.L.lt, h.S.below hb h.S.lt, h.X.below hb h.X.lt, h.Z.below hb h.Z.lt, h.bel.trans (hb.mono h.bel.size)⟩
theorem step_zero (l : Lv) (s : St) (d p : Int) (b : Bool) (h : stepB l s d p b = false) : (Value.agg #[.int .i64 (stepV l s d p b).tick, .int .i64 (stepV l s d p b).ax, .int .i64 (stepV l s d p b).ay, .int .i64 (stepV l s d p b).fx, .int .i64 (stepV l s d p b).fy, .int .i64 (stepV l s d p b).turn, .int .i64 (stepV l s d p b).gate, .bool (stepV l s d p b).done, .bool (stepV l s d p b).over]) = Value.agg #[.int .i64 0, .int .i64 0, .int .i64 0, .int .i64 0, .int .i64 0, .int .i64 0, .int .i64 0, .bool false, .bool false] := by rw [stepV_f h]; rfl
set_option maxRecDepth 100000 in
set_option maxHeartbeats 4000000 in
theorem iEStep (l : Lv) (s : St) (d p : Int) (b : Bool) (w : World) (hl : LvAt w l) : Calls Try.prog 25 #[.agg #[.int .i64 l.id, .int .i64 l.ticks, .int .i64 l.sx, .int .i64 l.sy, .slice l.wa l.wn l.wc, .slice l.ga l.gn l.gc, .int .i64 l.flx, .int .i64 l.fly, .int .i64 l.fhx, .int .i64 l.fhy, .int .i64 l.bans], .agg #[.int .i64 s.tick, .int .i64 s.ax, .int .i64 s.ay, .int .i64 s.fx, .int .i64 s.fy, .int .i64 s.turn, .int .i64 s.gate, .bool s.done, .bool s.over], .agg #[.int .i64 d, .int .i64 p, .bool b]] w fun e w' => e = .returned (.tuple #[.agg #[.int .i64 (stepV l s d p b).tick, .int .i64 (stepV l s d p b).ax, .int .i64 (stepV l s d p b).ay, .int .i64 (stepV l s d p b).fx, .int .i64 (stepV l s d p b).fy, .int .i64 (stepV l s d p b).turn, .int .i64 (stepV l s d p b).gate, .bool (stepV l s d p b).done, .bool (stepV l s d p b).over], .bool (stepB l s d p b)]) ∧ Below w.heap.size w w' := by
  obtain ⟨tick, ax, ay, fx, fy, turn, gate, done, over⟩ := s
  simp only
  have hB0 : Below w.heap.size w ((((w.alloc (.cells #[.int .i64 l.id, .int .i64 l.ticks, .int .i64 l.sx, .int .i64 l.sy, .slice l.wa l.wn l.wc, .slice l.ga l.gn l.gc, .int .i64 l.flx, .int .i64 l.fly, .int .i64 l.fhx, .int .i64 l.fhy, .int .i64 l.bans] 29)).alloc (.cells #[.int .i64 tick, .int .i64 ax, .int .i64 ay, .int .i64 fx, .int .i64 fy, .int .i64 turn, .int .i64 gate, .bool done, .bool over] 31)).alloc (.cells #[.int .i64 d, .int .i64 p, .bool b] 33)).alloc (.cells #[.int .i64 0, .int .i64 0, .int .i64 0, .int .i64 0, .int .i64 0, .int .i64 0, .int .i64 0, .bool false, .bool false] 31)) := by (repeat (first | with_reducible assumption | with_reducible exact Below.refl _ _ | ((with_reducible refine Below.alloc ?_ ?_ _); rotate_left; · exact (by first | omega | (simp; done) | (simp; omega))) | ((with_reducible refine Below.setCell ?_ ?_ _); rotate_left; · exact (by first | omega | (simp; done) | (simp; omega))) | with_reducible refine Below.drew ?_ | assumption | exact Below.refl _ _ | refine Below.alloc ?_ (by first | omega | (simp; done) | (simp; omega)) _ | refine Below.setCell ?_ (by first | omega | (simp; done) | (simp; omega)) _ | refine Below.drew ?_))
  go_enter Try.func25, Try.ntmps25
  go_wp2_with fail
  refine (iValid l (⟨tick, ax, ay, fx, fy, turn, gate, done, over⟩ : St) _ (hl.keep hB0)).mono ?_
  rintro e w1 ⟨rfl, hb1⟩
  have I1 : EJ w l #[.int .i64 tick, .int .i64 ax, .int .i64 ay, .int .i64 fx, .int .i64 fy, .int .i64 turn, .int .i64 gate, .bool done, .bool over] d p b w1 := EJ.pass (w := ((((w.alloc (.cells #[.int .i64 l.id, .int .i64 l.ticks, .int .i64 l.sx, .int .i64 l.sy, .slice l.wa l.wn l.wc, .slice l.ga l.gn l.gc, .int .i64 l.flx, .int .i64 l.fly, .int .i64 l.fhx, .int .i64 l.fhy, .int .i64 l.bans] 29)).alloc (.cells #[.int .i64 tick, .int .i64 ax, .int .i64 ay, .int .i64 fx, .int .i64 fy, .int .i64 turn, .int .i64 gate, .bool done, .bool over] 31)).alloc (.cells #[.int .i64 d, .int .i64 p, .bool b] 33)).alloc (.cells #[.int .i64 0, .int .i64 0, .int .i64 0, .int .i64 0, .int .i64 0, .int .i64 0, .int .i64 0, .bool false, .bool false] 31))) ⟨((Blk.at rfl).alloc _).alloc _ |>.alloc _, ((Blk.at (by simp)).alloc _).alloc _, (Blk.at (by simp)).alloc _, Blk.at (by simp), hB0⟩ hb1
  clear hb1
  cases h1 : (⟨tick, ax, ay, fx, fy, turn, gate, done, over⟩ : St).okIn l with
  | false =>
    have hbad : stepB l (⟨tick, ax, ay, fx, fy, turn, gate, done, over⟩ : St) d p b = false := by simp [stepB, h1]
    clear h1
    (try clear c0 c1 c2 c3 c4 c5 c6 c7 c8); obtain ⟨c0, c1, c2, c3, c4, c5, c6, c7, c8⟩ := I1.S.c9
    (try clear q0 q1 q2 q3 q4 q5 q6 q7 q8 q9 q10); obtain ⟨q0, q1, q2, q3, q4, q5, q6, q7, q8, q9, q10⟩ := I1.L.c11
    have hzS1 := I1.S.lt
    have hzL1 := I1.L.lt
    have hzX1 := I1.X.lt
    have hzZ1 := I1.Z.lt
    have zf := I1.Z.frozen
    obtain ⟨z0, z1, z2, z3, z4, z5, z6, z7, z8⟩ := I1.Z.c9
    have hZZ := Lib.hid (((((((((I1.Z.s9_0 (.int .i64 0)).s9_1 (.int .i64 0)).s9_2 (.int .i64 0)).s9_3 (.int .i64 0)).s9_4 (.int .i64 0)).s9_5 (.int .i64 0)).s9_6 (.int .i64 0)).s9_7 (.bool false)).s9_8 (.bool false))
    have hA := Lib.hid (sets_up (w.heap.size + 1 + 1 + 1) w1.heap.size [.int .i64 0, .int .i64 0, .int .i64 0, .int .i64 0, .int .i64 0, .int .i64 0, .int .i64 0, .bool false, .bool false] 0 w1)
    have hBel := Lib.hid I1.bel
    have hBd := Lib.hid hbad
    clear hbad
    go_wp2
    refine bodyPost_ret (res_row_tmp (v := .bool false) rfl rfl hZZ.out Try.underlying31 rfl (by kernel_rfl) rfl) rfl ?_
    exact ⟨by rw [hBd.out]; exact congrArg (fun z => Ending.returned (.tuple #[z, .bool false])) (step_zero l (⟨tick, ax, ay, fx, fy, turn, gate, done, over⟩ : St) d p b hBd.out).symm, hBel.out.trans (hA.out.under (by omega) hBel.out.size)⟩
  | true =>
    (try clear c0 c1 c2 c3 c4 c5 c6 c7 c8); obtain ⟨c0, c1, c2, c3, c4, c5, c6, c7, c8⟩ := I1.S.c9
    (try clear q0 q1 q2 q3 q4 q5 q6 q7 q8 q9 q10); obtain ⟨q0, q1, q2, q3, q4, q5, q6, q7, q8, q9, q10⟩ := I1.L.c11
    (try clear x0 x1 x2); have x0 := I1.X.cell 0; have x1 := I1.X.cell 1; have x2 := I1.X.cell 2; simp only [List.getElem?_toArray, List.getElem?_cons_zero, List.getElem?_cons_succ] at x0 x1 x2
    have hzX1 := I1.X.lt
    have h1 := Lib.hid h1
    go_wp2_with fail
    refine (iInpV d p b _).mono ?_
    rintro e w2 ⟨rfl, hb2⟩
    have I2 := I1.pass hb2
    clear hb2 I1
    cases h2 : inpV d p b with
    | false =>
      have hbad : stepB l (⟨tick, ax, ay, fx, fy, turn, gate, done, over⟩ : St) d p b = false := by simp [stepB, h2]
      clear h2
      (try clear c0 c1 c2 c3 c4 c5 c6 c7 c8); obtain ⟨c0, c1, c2, c3, c4, c5, c6, c7, c8⟩ := I2.S.c9
      (try clear q0 q1 q2 q3 q4 q5 q6 q7 q8 q9 q10); obtain ⟨q0, q1, q2, q3, q4, q5, q6, q7, q8, q9, q10⟩ := I2.L.c11
      have hzS2 := I2.S.lt
      have hzL2 := I2.L.lt
      have hzX2 := I2.X.lt
      have hzZ2 := I2.Z.lt
      have zf := I2.Z.frozen
      obtain ⟨z0, z1, z2, z3, z4, z5, z6, z7, z8⟩ := I2.Z.c9
      have hZZ := Lib.hid (((((((((I2.Z.s9_0 (.int .i64 0)).s9_1 (.int .i64 0)).s9_2 (.int .i64 0)).s9_3 (.int .i64 0)).s9_4 (.int .i64 0)).s9_5 (.int .i64 0)).s9_6 (.int .i64 0)).s9_7 (.bool false)).s9_8 (.bool false))
      have hA := Lib.hid (sets_up (w.heap.size + 1 + 1 + 1) w2.heap.size [.int .i64 0, .int .i64 0, .int .i64 0, .int .i64 0, .int .i64 0, .int .i64 0, .int .i64 0, .bool false, .bool false] 0 w2)
      have hBel := Lib.hid I2.bel
      have hBd := Lib.hid hbad
      clear hbad
      go_wp2
      refine bodyPost_ret (res_row_tmp (v := .bool false) rfl rfl hZZ.out Try.underlying31 rfl (by kernel_rfl) rfl) rfl ?_
      exact ⟨by rw [hBd.out]; exact congrArg (fun z => Ending.returned (.tuple #[z, .bool false])) (step_zero l (⟨tick, ax, ay, fx, fy, turn, gate, done, over⟩ : St) d p b hBd.out).symm, hBel.out.trans (hA.out.under (by omega) hBel.out.size)⟩
    | true =>
      have h1 := h1.out
      obtain ⟨hok, hO⟩ := St.ok_of h1
      obtain ⟨v1, v2, _⟩ := inpV_bd h2
      have k1 := hO.tick
      have k2 := hO.turn
      have k3 := hO.gate
      have k4 := hO.ticks
      simp only at k1 k2 k3 k4
      by_cases h3 : tick = l.ticks
      · have e3 : (tick == l.ticks) = true := by simpa using h3
        cases done with
        | true =>
          have hgood : stepB l (⟨tick, ax, ay, fx, fy, turn, gate, true, over⟩ : St) d p b = true := stepB_mk h1 h2 (.inl rfl)
          clear h3 h1
          have I9 := I2
          (try clear c0 c1 c2 c3 c4 c5 c6 c7 c8); obtain ⟨c0, c1, c2, c3, c4, c5, c6, c7, c8⟩ := I9.S.c9
          (try clear q0 q1 q2 q3 q4 q5 q6 q7 q8 q9 q10); obtain ⟨q0, q1, q2, q3, q4, q5, q6, q7, q8, q9, q10⟩ := I9.L.c11
          (try clear x0 x1 x2); have x0 := I9.X.cell 0; have x1 := I9.X.cell 1; have x2 := I9.X.cell 2; simp only [List.getElem?_toArray, List.getElem?_cons_zero, List.getElem?_cons_succ] at x0 x1 x2
          have hzS9 := I9.S.lt
          have hzL9 := I9.L.lt
          have hzX9 := I9.X.lt
          go_wp2_with fail
          refine (iAfter l (⟨tick, ax, ay, fx, fy, turn, gate, true, over⟩ : St) d p b _ hok (hl.keep I9.bel) hO.at_ hO.fast k2.1 k2.2 k3.1 (by simp only; omega) (by simp only; omega) (by simp only; omega) (by omega) (by omega)).mono ?_
          rintro e w12 ⟨rfl, hb12⟩
          have I12 := I9.pass hb12
          rw [← stepV_t hgood]
          obtain ⟨R, hR⟩ : ∃ R, R = stepV l (⟨tick, ax, ay, fx, fy, turn, gate, true, over⟩ : St) d p b := ⟨_, rfl⟩
          rw [← hR]
          have hRh := Lib.hid hR
          clear hb12 I9 hR c0 c1 c2 c3 c4 c5 c6 c7 c8 q0 q1 q2 q3 q4 q5 q6 q7 q8 q9 q10 x0 x1 x2
          have hRR := Lib.hid (I12.Z.row #[.int .i64 R.tick, .int .i64 R.ax, .int .i64 R.ay, .int .i64 R.fx, .int .i64 R.fy, .int .i64 R.turn, .int .i64 R.gate, .bool R.done, .bool R.over])
          have hZ12 := Lib.hid I12.Z
          have hB12 := Lib.hid I12.bel
          clear I12
          rename_i K hK
          refine hK _ _ ?_
          refine st_row rfl rfl hZ12.out (by kernel_rfl) rfl (by simp [Value.oneCell']) ?_
          clear hK K
          go_wp2
          refine bodyPost_ret (res_row_tmp (v := .bool true) rfl rfl hRR.out Try.underlying31 rfl (by kernel_rfl) rfl) rfl ?_
          exact ⟨by rw [hgood, hRh.out], Below.setRow hB12.out (by omega) _⟩
        | false =>
          cases over with
          | true =>
            have hgood : stepB l (⟨tick, ax, ay, fx, fy, turn, gate, false, true⟩ : St) d p b = true := stepB_mk h1 h2 (.inr (.inl rfl))
            clear h3 h1
            have I9 := I2
            (try clear c0 c1 c2 c3 c4 c5 c6 c7 c8); obtain ⟨c0, c1, c2, c3, c4, c5, c6, c7, c8⟩ := I9.S.c9
            (try clear q0 q1 q2 q3 q4 q5 q6 q7 q8 q9 q10); obtain ⟨q0, q1, q2, q3, q4, q5, q6, q7, q8, q9, q10⟩ := I9.L.c11
            (try clear x0 x1 x2); have x0 := I9.X.cell 0; have x1 := I9.X.cell 1; have x2 := I9.X.cell 2; simp only [List.getElem?_toArray, List.getElem?_cons_zero, List.getElem?_cons_succ] at x0 x1 x2
            have hzS9 := I9.S.lt
            have hzL9 := I9.L.lt
            have hzX9 := I9.X.lt
            go_wp2_with fail
            refine (iAfter l (⟨tick, ax, ay, fx, fy, turn, gate, false, true⟩ : St) d p b _ hok (hl.keep I9.bel) hO.at_ hO.fast k2.1 k2.2 k3.1 (by simp only; omega) (by simp only; omega) (by simp only; omega) (by omega) (by omega)).mono ?_
            rintro e w12 ⟨rfl, hb12⟩
            have I12 := I9.pass hb12
            rw [← stepV_t hgood]
            obtain ⟨R, hR⟩ : ∃ R, R = stepV l (⟨tick, ax, ay, fx, fy, turn, gate, false, true⟩ : St) d p b := ⟨_, rfl⟩
            rw [← hR]
            have hRh := Lib.hid hR
            clear hb12 I9 hR c0 c1 c2 c3 c4 c5 c6 c7 c8 q0 q1 q2 q3 q4 q5 q6 q7 q8 q9 q10 x0 x1 x2
            have hRR := Lib.hid (I12.Z.row #[.int .i64 R.tick, .int .i64 R.ax, .int .i64 R.ay, .int .i64 R.fx, .int .i64 R.fy, .int .i64 R.turn, .int .i64 R.gate, .bool R.done, .bool R.over])
            have hZ12 := Lib.hid I12.Z
            have hB12 := Lib.hid I12.bel
            clear I12
            rename_i K hK
            refine hK _ _ ?_
            refine st_row rfl rfl hZ12.out (by kernel_rfl) rfl (by simp [Value.oneCell']) ?_
            clear hK K
            go_wp2
            refine bodyPost_ret (res_row_tmp (v := .bool true) rfl rfl hRR.out Try.underlying31 rfl (by kernel_rfl) rfl) rfl ?_
            exact ⟨by rw [hgood, hRh.out], Below.setRow hB12.out (by omega) _⟩
          | false =>
            have hbad : stepB l (⟨tick, ax, ay, fx, fy, turn, gate, false, false⟩ : St) d p b = false := by simp [stepB, h3]
            clear h3 h1 hO
            (try clear c0 c1 c2 c3 c4 c5 c6 c7 c8); obtain ⟨c0, c1, c2, c3, c4, c5, c6, c7, c8⟩ := I2.S.c9
            (try clear q0 q1 q2 q3 q4 q5 q6 q7 q8 q9 q10); obtain ⟨q0, q1, q2, q3, q4, q5, q6, q7, q8, q9, q10⟩ := I2.L.c11
            have hzS2 := I2.S.lt
            have hzL2 := I2.L.lt
            have hzX2 := I2.X.lt
            have hzZ2 := I2.Z.lt
            have zf := I2.Z.frozen
            obtain ⟨z0, z1, z2, z3, z4, z5, z6, z7, z8⟩ := I2.Z.c9
            have hZZ := Lib.hid (((((((((I2.Z.s9_0 (.int .i64 0)).s9_1 (.int .i64 0)).s9_2 (.int .i64 0)).s9_3 (.int .i64 0)).s9_4 (.int .i64 0)).s9_5 (.int .i64 0)).s9_6 (.int .i64 0)).s9_7 (.bool false)).s9_8 (.bool false))
            have hA := Lib.hid (sets_up (w.heap.size + 1 + 1 + 1) w2.heap.size [.int .i64 0, .int .i64 0, .int .i64 0, .int .i64 0, .int .i64 0, .int .i64 0, .int .i64 0, .bool false, .bool false] 0 w2)
            have hBel := Lib.hid I2.bel
            have hBd := Lib.hid hbad
            clear hbad
            go_wp2
            refine bodyPost_ret (res_row_tmp (v := .bool false) rfl rfl hZZ.out Try.underlying31 rfl (by kernel_rfl) rfl) rfl ?_
            exact ⟨by rw [hBd.out]; exact congrArg (fun z => Ending.returned (.tuple #[z, .bool false])) (step_zero l (⟨tick, ax, ay, fx, fy, turn, gate, false, false⟩ : St) d p b hBd.out).symm, hBel.out.trans (hA.out.under (by omega) hBel.out.size)⟩
      · have e3 : (tick == l.ticks) = false := by simpa using h3
        have hgood : stepB l (⟨tick, ax, ay, fx, fy, turn, gate, done, over⟩ : St) d p b = true := stepB_mk h1 h2 (.inr (.inr (by simp only; omega)))
        clear h3 h1
        have I9 := I2
        (try clear c0 c1 c2 c3 c4 c5 c6 c7 c8); obtain ⟨c0, c1, c2, c3, c4, c5, c6, c7, c8⟩ := I9.S.c9
        (try clear q0 q1 q2 q3 q4 q5 q6 q7 q8 q9 q10); obtain ⟨q0, q1, q2, q3, q4, q5, q6, q7, q8, q9, q10⟩ := I9.L.c11
        (try clear x0 x1 x2); have x0 := I9.X.cell 0; have x1 := I9.X.cell 1; have x2 := I9.X.cell 2; simp only [List.getElem?_toArray, List.getElem?_cons_zero, List.getElem?_cons_succ] at x0 x1 x2
        have hzS9 := I9.S.lt
        have hzL9 := I9.L.lt
        have hzX9 := I9.X.lt
        go_wp2_with fail
        refine (iAfter l (⟨tick, ax, ay, fx, fy, turn, gate, done, over⟩ : St) d p b _ hok (hl.keep I9.bel) hO.at_ hO.fast k2.1 k2.2 k3.1 (by simp only; omega) (by simp only; omega) (by simp only; omega) (by omega) (by omega)).mono ?_
        rintro e w12 ⟨rfl, hb12⟩
        have I12 := I9.pass hb12
        rw [← stepV_t hgood]
        obtain ⟨R, hR⟩ : ∃ R, R = stepV l (⟨tick, ax, ay, fx, fy, turn, gate, done, over⟩ : St) d p b := ⟨_, rfl⟩
        rw [← hR]
        have hRh := Lib.hid hR
        clear hb12 I9 hR c0 c1 c2 c3 c4 c5 c6 c7 c8 q0 q1 q2 q3 q4 q5 q6 q7 q8 q9 q10 x0 x1 x2
        have hRR := Lib.hid (I12.Z.row #[.int .i64 R.tick, .int .i64 R.ax, .int .i64 R.ay, .int .i64 R.fx, .int .i64 R.fy, .int .i64 R.turn, .int .i64 R.gate, .bool R.done, .bool R.over])
        have hZ12 := Lib.hid I12.Z
        have hB12 := Lib.hid I12.bel
        clear I12
        rename_i K hK
        refine hK _ _ ?_
        refine st_row rfl rfl hZ12.out (by kernel_rfl) rfl (by simp [Value.oneCell']) ?_
        clear hK K
        go_wp2
        refine bodyPost_ret (res_row_tmp (v := .bool true) rfl rfl hRR.out Try.underlying31 rfl (by kernel_rfl) rfl) rfl ?_
        exact ⟨by rw [hgood, hRh.out], Below.setRow hB12.out (by omega) _⟩
end Go.Proofs.Ytnhjalijnociaaa

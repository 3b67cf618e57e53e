/- A tick by the program: no gate ahead. -/
import Derived.Test.YtnhjalijnociaaaIc
set_option linter.unusedVariables false
set_option linter.unusedSimpArgs false
namespace Go.Proofs.Ytnhjalijnociaaa
open Go.RowKit

set_option maxRecDepth 100000 in
set_option maxHeartbeats 8000000 in
theorem iDrive_nog (l : Lv) (s : St) (d p : Int) (w : World) (hk : l.ok = true) (hl : LvAt w l) (ha : vokB s.ax s.ay = true) (h : len s.fx s.fy ≤ 2000) (t0 : 0 ≤ s.turn) (t1 : s.turn ≤ 15) (g0 : 0 ≤ s.gate) (g1 : s.gate ≤ 1000) (k0 : -1000 ≤ s.tick) (k1 : s.tick ≤ 1000) (d0 : -16 ≤ d) (d1 : d ≤ 1000) (hvk : vokB (movedF l { s with tick := s.tick + 1 } d p).ax (movedF l { s with tick := s.tick + 1 } d p).ay = true) (hg : ¬ (movedF l { s with tick := s.tick + 1 } d p).gate < (l.gn : Int)) : Calls Try.prog 105 #[.agg #[.int .i64 d, .int .i64 p], .agg #[.int .i64 l.id, .int .i64 l.ticks, .int .i64 l.sx, .int .i64 l.sy, .slice l.wa l.wn l.wc, .slice l.ga l.gn l.gc, .int .i64 l.flx, .int .i64 l.fly, .int .i64 l.fhx, .int .i64 l.fhy, .int .i64 l.bans], .agg #[.int .i64 s.tick, .int .i64 s.ax, .int .i64 s.ay, .int .i64 s.fx, .int .i64 s.fy, .int .i64 s.turn, .int .i64 s.gate, .bool s.done, .bool s.over]] w fun e w' => e = .returned (.agg #[.int .i64 (driveF l { s with tick := s.tick + 1 } d p).tick, .int .i64 (driveF l { s with tick := s.tick + 1 } d p).ax, .int .i64 (driveF l { s with tick := s.tick + 1 } d p).ay, .int .i64 (driveF l { s with tick := s.tick + 1 } d p).fx, .int .i64 (driveF l { s with tick := s.tick + 1 } d p).fy, .int .i64 (driveF l { s with tick := s.tick + 1 } d p).turn, .int .i64 (driveF l { s with tick := s.tick + 1 } d p).gate, .bool (driveF l { s with tick := s.tick + 1 } d p).done, .bool (driveF l { s with tick := s.tick + 1 } d p).over]) ∧ Below w.heap.size w w' := by
  obtain ⟨tick, ax, ay, fx, fy, turn, gate, done, over⟩ := s
  simp only at ha h t0 t1 g0 g1 k0 k1 hvk hg ⊢
  obtain ⟨_, _, _, hn4, hbv, hgn3, hgv, hfv, _, _⟩ := Lv.ok_id hk
  obtain ⟨⟨x1, x2⟩, ⟨x3, x4⟩⟩ := vokB_ok ha
  obtain ⟨T, hT⟩ : ∃ T, T = turnF ⟨tick + 1, ax, ay, fx, fy, turn, gate, done, over⟩ d := ⟨_, rfl⟩
  have hT2 : (turn + d) % 16 = T := by rw [hT]; unfold turnF; simp only; omega
  have u := turn_bd ⟨tick + 1, ax, ay, fx, fy, turn, gate, done, over⟩ d
  rw [← hT] at u
  obtain ⟨u0, u1⟩ := u
  have hF : len (fastX ⟨tick + 1, ax, ay, fx, fy, turn, gate, done, over⟩ T p) (fastY ⟨tick + 1, ax, ay, fx, fy, turn, gate, done, over⟩ T p) ≤ 2000 := fast_len T p h
  obtain ⟨FX, hFX⟩ : ∃ FX, FX = fastX ⟨tick + 1, ax, ay, fx, fy, turn, gate, done, over⟩ T p := ⟨_, rfl⟩
  obtain ⟨FY, hFY⟩ : ∃ FY, FY = fastY ⟨tick + 1, ax, ay, fx, fy, turn, gate, done, over⟩ T p := ⟨_, rfl⟩
  have hFX2 : fastX ⟨tick + 1, ax, ay, fx, fy, T, gate, done, over⟩ T p = FX := by rw [hFX]; rfl
  have hFY2 : fastY ⟨tick + 1, ax, ay, fx, fy, T, gate, done, over⟩ T p = FY := by rw [hFY]; rfl
  rw [← hFX, ← hFY] at hF
  obtain ⟨⟨y1, y2⟩, ⟨y3, y4⟩⟩ := fast_bd hF
  have wx : wrap64 (-FX.tdiv 2) = -FX.tdiv 2 := half_in y1 y2
  have wy : wrap64 (-FY.tdiv 2) = -FY.tdiv 2 := half_in y3 y4
  obtain ⟨M, hM⟩ : ∃ M, M = movedF l ⟨tick + 1, ax, ay, fx, fy, turn, gate, done, over⟩ d p := ⟨_, rfl⟩
  have hMM : M = moveY l (moveX l ⟨tick + 1, ax, ay, FX, FY, T, gate, done, over⟩) := by rw [hM, hFX, hFY, hT]; rfl
  obtain ⟨_, _, m3, _, _⟩ := moved_same l ⟨tick + 1, ax, ay, fx, fy, turn, gate, done, over⟩ d p
  have mg0 : 0 ≤ M.gate := by rw [hM, m3]; exact g0
  have mg1 : M.gate ≤ 1000 := by rw [hM, m3]; exact g1
  rw [← hM] at hvk hg
  have hMh := Lib.hid hM
  have hMMh := Lib.hid hMM
  have hFX2 := Lib.hid hFX2
  have hFY2 := Lib.hid hFY2
  have hT2h := Lib.hid hT2
  clear hM hMM hFX hFY hT m3
  go_enter Try.func105, Try.ntmps105
  go_wp2_with fail
  refine (iFast ⟨tick + 1, ax, ay, fx, fy, T, gate, done, over⟩ d p _ h u0 u1).mono ?_
  rintro e w1 ⟨rfl, hb1⟩
  dsimp only
  rw [hFX2.out, hFY2.out]
  have I1 : TI w l d p #[.int .i64 tick, .int .i64 ax, .int .i64 ay, .int .i64 fx, .int .i64 fy, .int .i64 turn, .int .i64 gate, .bool done, .bool over] #[.int .i64 (tick + 1), .int .i64 ax, .int .i64 ay, .int .i64 fx, .int .i64 fy, .int .i64 T, .int .i64 gate, .bool done, .bool over] w1 := TI.pass (w := ((((w.alloc (.cells #[.int .i64 d, .int .i64 p] 122)).alloc (.cells #[.int .i64 l.id, .int .i64 l.ticks, .int .i64 l.sx, .int .i64 l.sy, .slice l.wa l.wn l.wc, .slice l.ga l.gn l.gc, .int .i64 l.flx, .int .i64 l.fly, .int .i64 l.fhx, .int .i64 l.fhy, .int .i64 l.bans] 29)).alloc (.cells #[.int .i64 (tick + 1), .int .i64 ax, .int .i64 ay, .int .i64 fx, .int .i64 fy, .int .i64 T, .int .i64 gate, .bool done, .bool over] 31)).alloc (.cells #[.int .i64 0, .int .i64 0, .int .i64 0, .int .i64 0, .int .i64 0, .int .i64 0, .int .i64 0, .bool false, .bool false] 31)).alloc (.cells #[.int .i64 tick, .int .i64 ax, .int .i64 ay, .int .i64 fx, .int .i64 fy, .int .i64 turn, .int .i64 gate, .bool done, .bool over] 31)) ⟨((((Blk.at rfl).alloc _).alloc _).alloc _).alloc _, (((Blk.at (by simp)).alloc _).alloc _).alloc _, ((Blk.at (by simp)).alloc _).alloc _, (Blk.at (by simp)).alloc _, Blk.at (by simp), by (repeat (first | with_reducible assumption | with_reducible exact Below.refl _ _ | ((with_reducible refine Below.alloc ?_ ?_ _); rotate_left; · exact (by first | omega | (simp; done) | (simp; omega))) | ((with_reducible refine Below.setCell ?_ ?_ _); rotate_left; · exact (by first | omega | (simp; done) | (simp; omega))) | with_reducible refine Below.drew ?_ | assumption | exact Below.refl _ _ | refine Below.alloc ?_ (by first | omega | (simp; done) | (simp; omega)) _ | refine Below.setCell ?_ (by first | omega | (simp; done) | (simp; omega)) _ | refine Below.drew ?_))⟩ hb1
  clear hb1 hT2
  (try clear c0 c1 c2 c3 c4 c5 c6 c7 c8 cf)
  obtain ⟨c0, c1, c2, c3, c4, c5, c6, c7, c8⟩ := I1.S.c9
  have cf := I1.S.frozen
  (try clear q0 q1 q2 q3 q4 q5 q6 q7 q8 q9 q10); obtain ⟨q0, q1, q2, q3, q4, q5, q6, q7, q8, q9, q10⟩ := I1.L.c11
  have hzS1 := I1.S.lt
  have hzL1 := I1.L.lt
  have hzZ1 := I1.Z.lt
  have hzO1 := I1.O.lt
  have I2 : TI w l d p #[.int .i64 tick, .int .i64 ax, .int .i64 ay, .int .i64 fx, .int .i64 fy, .int .i64 turn, .int .i64 gate, .bool done, .bool over] #[.int .i64 (tick + 1), .int .i64 ax, .int .i64 ay, .int .i64 FX, .int .i64 FY, .int .i64 T, .int .i64 gate, .bool done, .bool over] ((w1.setCell ⟨w.heap.size + 1 + 1, 3, none⟩ (.int .i64 FX)).setCell ⟨w.heap.size + 1 + 1, 4, none⟩ (.int .i64 FY)) := (I1.set 3 (.int .i64 FX)).set 4 (.int .i64 FY)
  go_upto_region 5 with fail
  generalize (w1.setCell ⟨w.heap.size + 1 + 1, 3, none⟩ (.int .i64 FX)).setCell ⟨w.heap.size + 1 + 1, 4, none⟩ (.int .i64 FY) = w2 at *
  clear I1
  (try clear c0 c1 c2 c3 c4 c5 c6 c7 c8 cf)
  obtain ⟨c0, c1, c2, c3, c4, c5, c6, c7, c8⟩ := I2.S.c9
  have cf := I2.S.frozen
  (try clear q0 q1 q2 q3 q4 q5 q6 q7 q8 q9 q10); obtain ⟨q0, q1, q2, q3, q4, q5, q6, q7, q8, q9, q10⟩ := I2.L.c11
  have hzS2 := I2.S.lt
  have hzL2 := I2.L.lt
  have hzZ2 := I2.Z.lt
  have hzO2 := I2.O.lt
  have I3 := I2.alloc (.cells #[.int .i64 (ax + FX), .int .i64 ay] 24)
  have A3 : Blk (w2.alloc (.cells #[.int .i64 (ax + FX), .int .i64 ay] 24)) w2.heap.size #[.int .i64 (ax + FX), .int .i64 ay] := Blk.at rfl
  go_wp2_with fail
  refine (iFree l (ax + FX) ay _ (by omega) (hl.keep I3.bel).1 hbv (by omega) (by omega) (by omega) (by omega)).mono ?_
  rintro e w3 ⟨rfl, hb3⟩
  have I4 := I3.pass hb3
  have A4 := A3.below hb3 A3.lt
  clear I2 I3 A3 hb3
  obtain ⟨a0, a1⟩ := A4.c2
  have hzA4 := A4.lt
  (try clear c0 c1 c2 c3 c4 c5 c6 c7 c8 cf)
  obtain ⟨c0, c1, c2, c3, c4, c5, c6, c7, c8⟩ := I4.S.c9
  have cf := I4.S.frozen
  (try clear q0 q1 q2 q3 q4 q5 q6 q7 q8 q9 q10); obtain ⟨q0, q1, q2, q3, q4, q5, q6, q7, q8, q9, q10⟩ := I4.L.c11
  have hzS4 := I4.S.lt
  have hzL4 := I4.L.lt
  have hzZ4 := I4.Z.lt
  have hzO4 := I4.O.lt
  cases hbx : frB l.wf (ax + FX) ay l.wn with
  | true =>
    have hI5 : TI w l d p #[.int .i64 tick, .int .i64 ax, .int .i64 ay, .int .i64 fx, .int .i64 fy, .int .i64 turn, .int .i64 gate, .bool done, .bool over] #[.int .i64 (tick + 1), .int .i64 (ax + FX), .int .i64 ay, .int .i64 FX, .int .i64 FY, .int .i64 T, .int .i64 gate, .bool done, .bool over] ((w3.setCell ⟨w.heap.size + 1 + 1, 1, none⟩ (.int .i64 (ax + FX))).setCell ⟨w.heap.size + 1 + 1, 2, none⟩ (.int .i64 ay)) := (I4.set 1 (.int .i64 (ax + FX))).set 2 (.int .i64 ay)
    have hmx := Lib.hid (show moveX l ⟨tick + 1, ax, ay, FX, FY, T, gate, done, over⟩ = ⟨tick + 1, ax + FX, ay, FX, FY, T, gate, done, over⟩ by simp only [moveX, hbx, if_true])
    have I5 := hI5
    clear hI5
    go_upto_region 9 with fail
    generalize (w3.setCell ⟨w.heap.size + 1 + 1, 1, none⟩ (.int .i64 (ax + FX))).setCell ⟨w.heap.size + 1 + 1, 2, none⟩ (.int .i64 ay) = w5 at *
    clear A4 a0 a1 I4
    (try clear c0 c1 c2 c3 c4 c5 c6 c7 c8 cf)
    obtain ⟨c0, c1, c2, c3, c4, c5, c6, c7, c8⟩ := I5.S.c9
    have cf := I5.S.frozen
    (try clear q0 q1 q2 q3 q4 q5 q6 q7 q8 q9 q10); obtain ⟨q0, q1, q2, q3, q4, q5, q6, q7, q8, q9, q10⟩ := I5.L.c11
    have hzS5 := I5.S.lt
    have hzL5 := I5.L.lt
    have hzZ5 := I5.Z.lt
    have hzO5 := I5.O.lt
    have I6 := I5.alloc (.cells #[.int .i64 (ax + FX), .int .i64 (ay + FY)] 24)
    have A6 : Blk (w5.alloc (.cells #[.int .i64 (ax + FX), .int .i64 (ay + FY)] 24)) w5.heap.size #[.int .i64 (ax + FX), .int .i64 (ay + FY)] := Blk.at rfl
    go_wp2_with fail
    refine (iFree l (ax + FX) (ay + FY) _ (by omega) (hl.keep I6.bel).1 hbv (by omega) (by omega) (by omega) (by omega)).mono ?_
    rintro e w7 ⟨rfl, hb7⟩
    have I8 := I6.pass hb7
    have A8 := A6.below hb7 A6.lt
    clear I5 I6 A6 hb7
    obtain ⟨b0, b1⟩ := A8.c2
    have hzA8 := A8.lt
    (try clear c0 c1 c2 c3 c4 c5 c6 c7 c8 cf)
    obtain ⟨c0, c1, c2, c3, c4, c5, c6, c7, c8⟩ := I8.S.c9
    have cf := I8.S.frozen
    (try clear q0 q1 q2 q3 q4 q5 q6 q7 q8 q9 q10); obtain ⟨q0, q1, q2, q3, q4, q5, q6, q7, q8, q9, q10⟩ := I8.L.c11
    have hzS8 := I8.S.lt
    have hzL8 := I8.L.lt
    have hzZ8 := I8.Z.lt
    have hzO8 := I8.O.lt
    cases hby : frB l.wf (ax + FX) (ay + FY) l.wn with
    | true =>
      have hMv : M = ⟨tick + 1, ax + FX, ay + FY, FX, FY, T, gate, done, over⟩ := by rw [hMMh.out, hmx.out]; simp only [moveY, hby, Bool.false_eq_true, if_true, if_false, Int.neg_tdiv]
      have I9 : TI w l d p #[.int .i64 tick, .int .i64 ax, .int .i64 ay, .int .i64 fx, .int .i64 fy, .int .i64 turn, .int .i64 gate, .bool done, .bool over] #[.int .i64 (tick + 1), .int .i64 (ax + FX), .int .i64 (ay + FY), .int .i64 FX, .int .i64 FY, .int .i64 T, .int .i64 gate, .bool done, .bool over] ((w7.setCell ⟨w.heap.size + 1 + 1, 1, none⟩ (.int .i64 (ax + FX))).setCell ⟨w.heap.size + 1 + 1, 2, none⟩ (.int .i64 (ay + FY))) := (I8.set 1 (.int .i64 (ax + FX))).set 2 (.int .i64 (ay + FY))
      go_upto_region 13 with fail
      generalize (w7.setCell ⟨w.heap.size + 1 + 1, 1, none⟩ (.int .i64 (ax + FX))).setCell ⟨w.heap.size + 1 + 1, 2, none⟩ (.int .i64 (ay + FY)) = w8 at *
      have I10 : TI w l d p #[.int .i64 tick, .int .i64 ax, .int .i64 ay, .int .i64 fx, .int .i64 fy, .int .i64 turn, .int .i64 gate, .bool done, .bool over] #[.int .i64 M.tick, .int .i64 M.ax, .int .i64 M.ay, .int .i64 M.fx, .int .i64 M.fy, .int .i64 M.turn, .int .i64 M.gate, .bool M.done, .bool M.over] w8 := by rw [hMv]; exact I9
      clear hMv I8 I9 A8 b0 b1 hmx hMMh
      (try clear c0 c1 c2 c3 c4 c5 c6 c7 c8 cf)
      obtain ⟨c0, c1, c2, c3, c4, c5, c6, c7, c8⟩ := I10.S.c9
      have cf := I10.S.frozen
      (try clear q0 q1 q2 q3 q4 q5 q6 q7 q8 q9 q10); obtain ⟨q0, q1, q2, q3, q4, q5, q6, q7, q8, q9, q10⟩ := I10.L.c11
      have hzS10 := I10.S.lt
      have hzL10 := I10.L.lt
      have hzZ10 := I10.Z.lt
      have hzO10 := I10.O.lt
      go_wp2_with fail
      refine (iVecOk M.ax M.ay _).mono ?_
      rintro e w11 ⟨rfl, hb11⟩
      rw [hvk]
      have I11 := I10.pass hb11
      clear I10 hb11
      obtain ⟨hfx1, hfx2⟩ := bxB_le hfv
      have hvk := Lib.hid hvk
      have hgd : decide (M.gate < (l.gn : Int)) = false := decide_eq_false (by omega)
      have hGh := Lib.hid (show gateF l M = M.gate by unfold gateF; rw [hgd, Bool.false_and]; rfl)
      (try clear c0 c1 c2 c3 c4 c5 c6 c7 c8 cf)
      obtain ⟨c0, c1, c2, c3, c4, c5, c6, c7, c8⟩ := I11.S.c9
      have cf := I11.S.frozen
      (try clear q0 q1 q2 q3 q4 q5 q6 q7 q8 q9 q10); obtain ⟨q0, q1, q2, q3, q4, q5, q6, q7, q8, q9, q10⟩ := I11.L.c11
      have hzS11 := I11.S.lt
      have hzL11 := I11.L.lt
      have hzZ11 := I11.Z.lt
      have hzO11 := I11.O.lt
      go_wp2_with fail
      have I12 := I11.drew
      have hl12 : BoxesAt w11.drew l.ga l.gn l.gf := hl.2.keep I12.bel
      refine wp_region_held_drew (S := fun W => ((W.cell? ⟨w.heap.size + 1, 0, none⟩ = some (.int .i64 l.id) ∧ W.cell? ⟨w.heap.size + 1, 1, none⟩ = some (.int .i64 l.ticks) ∧ W.cell? ⟨w.heap.size + 1, 2, none⟩ = some (.int .i64 l.sx) ∧ W.cell? ⟨w.heap.size + 1, 3, none⟩ = some (.int .i64 l.sy) ∧ W.cell? ⟨w.heap.size + 1, 4, none⟩ = some (.slice l.wa l.wn l.wc) ∧ W.cell? ⟨w.heap.size + 1, 5, none⟩ = some (.slice l.ga l.gn l.gc) ∧ W.cell? ⟨w.heap.size + 1, 6, none⟩ = some (.int .i64 l.flx) ∧ W.cell? ⟨w.heap.size + 1, 7, none⟩ = some (.int .i64 l.fly) ∧ W.cell? ⟨w.heap.size + 1, 8, none⟩ = some (.int .i64 l.fhx) ∧ W.cell? ⟨w.heap.size + 1, 9, none⟩ = some (.int .i64 l.fhy) ∧ W.cell? ⟨w.heap.size + 1, 10, none⟩ = some (.int .i64 l.bans)) ∧ (W.cell? ⟨w.heap.size + 1 + 1, 0, none⟩ = some (.int .i64 M.tick) ∧ W.cell? ⟨w.heap.size + 1 + 1, 1, none⟩ = some (.int .i64 M.ax) ∧ W.cell? ⟨w.heap.size + 1 + 1, 2, none⟩ = some (.int .i64 M.ay) ∧ W.cell? ⟨w.heap.size + 1 + 1, 3, none⟩ = some (.int .i64 M.fx) ∧ W.cell? ⟨w.heap.size + 1 + 1, 4, none⟩ = some (.int .i64 M.fy) ∧ W.cell? ⟨w.heap.size + 1 + 1, 5, none⟩ = some (.int .i64 M.turn) ∧ W.cell? ⟨w.heap.size + 1 + 1, 6, none⟩ = some (.int .i64 M.gate) ∧ W.cell? ⟨w.heap.size + 1 + 1, 7, none⟩ = some (.bool M.done) ∧ W.cell? ⟨w.heap.size + 1 + 1, 8, none⟩ = some (.bool M.over))) ∧ BoxesAt W l.ga l.gn l.gf) (by kernel_rfl) ⟨⟨I12.L.c11, I12.S.c9⟩, hl12⟩ (fun hHeld => ?_)
      simp only [List.size_toArray, List.length_cons, List.length_nil, Nat.zero_add, Nat.reduceAdd]
      (refine wpAnyH_take (i := 0) (v := ?_) rfl (by kernel_rfl) (by kernel_rfl) (by kernel_rfl) (fun _ _ _ h => h) (Or.inl ⟨by rfl, ?_⟩) (by assumption) ?_; rotate_left; · (intro w hSw; (try dsimp only at hSw); go_simp; (try with_reducible rfl))); (try simp only [Act.put, List.setIfInBounds_toArray, List.set_cons_zero, List.set_cons_succ])
      (refine wpAnyH_take (i := 1) (v := ?_) rfl (by kernel_rfl) (by kernel_rfl) (by kernel_rfl) (fun _ _ _ h => h) (Or.inl ⟨by rfl, ?_⟩) (by assumption) ?_; rotate_left; · (intro w hSw; (try dsimp only at hSw); go_simp; (try with_reducible rfl))); (try simp only [Act.put, List.setIfInBounds_toArray, List.set_cons_zero, List.set_cons_succ])
      (refine wpAnyH_take (i := 2) (v := ?_) rfl (by kernel_rfl) (by kernel_rfl) (by kernel_rfl) (fun _ _ _ h => h) (Or.inl ⟨by rfl, ?_⟩) (by assumption) ?_; rotate_left; · (intro w hSw; (try dsimp only at hSw); go_simp; (try with_reducible rfl))); (try simp only [Act.put, List.setIfInBounds_toArray, List.set_cons_zero, List.set_cons_succ])
      (refine wpAnyH_take (i := 3) (v := ?_) rfl (by kernel_rfl) (by kernel_rfl) (by kernel_rfl) (fun _ _ _ h => h) (Or.inl ⟨by rfl, ?_⟩) (by assumption) ?_; rotate_left; · (intro w hSw; (try dsimp only at hSw); go_simp; (try with_reducible rfl))); (try simp only [Act.put, List.setIfInBounds_toArray, List.set_cons_zero, List.set_cons_succ])
      (refine wpAnyH_take (i := 4) (v := ?_) rfl (by kernel_rfl) (by kernel_rfl) (by kernel_rfl) (fun _ _ _ h => h) (Or.inl ⟨by rfl, ?_⟩) (by assumption) ?_; rotate_left; · (intro w hSw; (try dsimp only at hSw); go_simp; (try with_reducible rfl))); (try simp only [Act.put, List.setIfInBounds_toArray, List.set_cons_zero, List.set_cons_succ])
      (refine wpAnyH_take (i := 5) (v := ?_) rfl (by kernel_rfl) (by kernel_rfl) (by kernel_rfl) (fun _ _ _ h => h) (Or.inl ⟨by rfl, ?_⟩) (by assumption) ?_; rotate_left; · (intro w hSw; (try dsimp only at hSw); go_simp; (try with_reducible rfl))); (try simp only [Act.put, List.setIfInBounds_toArray, List.set_cons_zero, List.set_cons_succ])
      (refine wpAnyH_take (i := 6) (v := ?_) rfl (by kernel_rfl) (by kernel_rfl) (by kernel_rfl) (fun _ _ _ h => h) (Or.inl ⟨by rfl, ?_⟩) (by assumption) ?_; rotate_left; · (intro w hSw; (try dsimp only at hSw); go_simp; (try with_reducible rfl))); (try simp only [Act.put, List.setIfInBounds_toArray, List.set_cons_zero, List.set_cons_succ])
      try simp only [hgd]
      refine wpAnyH_take (i := 7) (v := undef) rfl (by kernel_rfl) (by kernel_rfl) (by kernel_rfl) (fun _ _ _ h => h) (Or.inr ⟨by kernel_rfl, rfl⟩) (by assumption) ?_; (try simp only [Act.put, List.setIfInBounds_toArray, List.set_cons_zero, List.set_cons_succ])
      refine wpAnyH_take (i := 8) (v := undef) rfl (by kernel_rfl) (by kernel_rfl) (by kernel_rfl) (fun _ _ _ h => h) (Or.inr ⟨by kernel_rfl, rfl⟩) (by assumption) ?_; (try simp only [Act.put, List.setIfInBounds_toArray, List.set_cons_zero, List.set_cons_succ])
      refine wpAnyH_take (i := 9) (v := undef) rfl (by kernel_rfl) (by kernel_rfl) (by kernel_rfl) (fun _ _ _ h => h) (Or.inr ⟨by kernel_rfl, rfl⟩) (by assumption) ?_; (try simp only [Act.put, List.setIfInBounds_toArray, List.set_cons_zero, List.set_cons_succ])
      refine wpAnyH_take (i := 10) (v := undef) rfl (by kernel_rfl) (by kernel_rfl) (by kernel_rfl) (fun _ _ _ h => h) (Or.inr ⟨by kernel_rfl, rfl⟩) (by assumption) ?_; (try simp only [Act.put, List.setIfInBounds_toArray, List.set_cons_zero, List.set_cons_succ])
      refine wpAnyH_take (i := 11) (v := undef) rfl (by kernel_rfl) (by kernel_rfl) (by kernel_rfl) (fun _ _ _ h => h) (Or.inr ⟨by kernel_rfl, rfl⟩) (by assumption) ?_; (try simp only [Act.put, List.setIfInBounds_toArray, List.set_cons_zero, List.set_cons_succ])
      refine wpAnyH_take (i := 12) (v := undef) rfl (by kernel_rfl) (by kernel_rfl) (by kernel_rfl) (fun _ _ _ h => h) (Or.inr ⟨by kernel_rfl, rfl⟩) (by assumption) ?_; (try simp only [Act.put, List.setIfInBounds_toArray, List.set_cons_zero, List.set_cons_succ])
      refine wpAnyH_take (i := 13) (v := undef) rfl (by kernel_rfl) (by kernel_rfl) (by kernel_rfl) (fun _ _ _ h => h) (Or.inr ⟨by kernel_rfl, rfl⟩) (by assumption) ?_; (try simp only [Act.put, List.setIfInBounds_toArray, List.set_cons_zero, List.set_cons_succ])
      refine wpAnyH_take (i := 14) (v := undef) rfl (by kernel_rfl) (by kernel_rfl) (by kernel_rfl) (fun _ _ _ h => h) (Or.inr ⟨by kernel_rfl, rfl⟩) (by assumption) ?_; (try simp only [Act.put, List.setIfInBounds_toArray, List.set_cons_zero, List.set_cons_succ])
      refine wpAnyH_take (i := 15) (v := undef) rfl (by kernel_rfl) (by kernel_rfl) (by kernel_rfl) (fun _ _ _ h => h) (Or.inr ⟨by kernel_rfl, rfl⟩) (by assumption) ?_; (try simp only [Act.put, List.setIfInBounds_toArray, List.set_cons_zero, List.set_cons_succ])
      refine wpAnyH_ready (rs := [16]) (by kernel_rfl) (by simp) ?_; refine AllReadyH.cons rfl (fun K hK => ?_) AllReadyH.nil; (try simp only [List.getElem_toArray, List.getElem_cons_succ, List.getElem_cons_zero])
      go_simp
      refine hK.out _ _ (⟨⟨I12.L.c11, I12.S.c9⟩, hl12⟩) (fun hHeld => ?_); clear hK K; (try simp only [Act.put, List.setIfInBounds_toArray, List.set_cons_zero, List.set_cons_succ])
      refine wpAnyH_done (by kernel_rfl) ?_ _
      clear hHeld I11
      generalize w11.drew = w12 at *
      by_cases hd : M.gate = (l.gn : Int)
      · have hdb : (M.gate == ((l.gn : Nat) : Int)) = true := by simpa using hd
        have hdh := Lib.hid hd
        clear hd
        (try clear c0 c1 c2 c3 c4 c5 c6 c7 c8 cf)
        obtain ⟨c0, c1, c2, c3, c4, c5, c6, c7, c8⟩ := I12.S.c9
        have cf := I12.S.frozen
        (try clear q0 q1 q2 q3 q4 q5 q6 q7 q8 q9 q10); obtain ⟨q0, q1, q2, q3, q4, q5, q6, q7, q8, q9, q10⟩ := I12.L.c11
        have hzS12 := I12.S.lt
        have hzL12 := I12.L.lt
        have hzZ12 := I12.Z.lt
        have hzO12 := I12.O.lt
        go_wp2_with fail
        refine (iHas l.flx l.fly l.fhx l.fhy M.ax M.ay _ hfx1 hfx2).mono ?_
        rintro e w20 ⟨rfl, hb20⟩
        have I20 := I12.pass hb20
        obtain ⟨D, hD⟩ : ∃ D, D = hasB l.flx l.fly l.fhx l.fhy M.ax M.ay := ⟨_, rfl⟩
        rw [← hD]
        have hDh := Lib.hid (show doneF l M = D by unfold doneF; rw [hGh.out, decide_eq_true hdh.out, hD]; rfl)
        clear hD hb20
        (try clear c0 c1 c2 c3 c4 c5 c6 c7 c8 cf)
        obtain ⟨c0, c1, c2, c3, c4, c5, c6, c7, c8⟩ := I20.S.c9
        have cf := I20.S.frozen
        (try clear q0 q1 q2 q3 q4 q5 q6 q7 q8 q9 q10); obtain ⟨q0, q1, q2, q3, q4, q5, q6, q7, q8, q9, q10⟩ := I20.L.c11
        have hzS20 := I20.S.lt
        have hzL20 := I20.L.lt
        have hzZ20 := I20.Z.lt
        have hzO20 := I20.O.lt
        have I21 : TI w l d p #[.int .i64 tick, .int .i64 ax, .int .i64 ay, .int .i64 fx, .int .i64 fy, .int .i64 turn, .int .i64 gate, .bool done, .bool over] #[.int .i64 M.tick, .int .i64 M.ax, .int .i64 M.ay, .int .i64 M.fx, .int .i64 M.fy, .int .i64 M.turn, .int .i64 M.gate, .bool D, .bool M.over] (w20.setCell ⟨w.heap.size + 1 + 1, 7, none⟩ (.bool D)) := I20.set 7 (.bool D)
        have hO := Lib.hid I21.S
        have hZ := Lib.hid I21.Z
        have hBB := Lib.hid I21.bel
        have hRR := Lib.hid (I21.Z.row #[.int .i64 M.tick, .int .i64 M.ax, .int .i64 M.ay, .int .i64 M.fx, .int .i64 M.fy, .int .i64 M.turn, .int .i64 M.gate, .bool D, .bool M.over])
        go_upto_region 20 with fail
        refine wp_copy (ty := 31) rfl hO.out Try.underlying31 rfl (by kernel_rfl) rfl rfl hZ.out rfl (by simp [Value.oneCell']) ?_
        rename_i K hK
        refine hK _ _ (wp_ret ?_)
        refine bodyPost_ret (res_row rfl rfl hRR.out Try.underlying31 rfl (by kernel_rfl)) rfl ?_
        exact ⟨by rw [drive_in (by rw [← hMh.out]; exact hvk.out), ← hMh.out]; simp only [hGh.out, hDh.out], Below.setRow hBB.out (by omega) _⟩
      · have hdb : (M.gate == ((l.gn : Nat) : Int)) = false := by simpa using hd
        have hDh := Lib.hid (show doneF l M = false by unfold doneF; rw [hGh.out, decide_eq_false hd]; rfl)
        clear hd
        (try clear c0 c1 c2 c3 c4 c5 c6 c7 c8 cf)
        obtain ⟨c0, c1, c2, c3, c4, c5, c6, c7, c8⟩ := I12.S.c9
        have cf := I12.S.frozen
        (try clear q0 q1 q2 q3 q4 q5 q6 q7 q8 q9 q10); obtain ⟨q0, q1, q2, q3, q4, q5, q6, q7, q8, q9, q10⟩ := I12.L.c11
        have hzS12 := I12.S.lt
        have hzL12 := I12.L.lt
        have hzZ12 := I12.Z.lt
        have hzO12 := I12.O.lt
        have I21 : TI w l d p #[.int .i64 tick, .int .i64 ax, .int .i64 ay, .int .i64 fx, .int .i64 fy, .int .i64 turn, .int .i64 gate, .bool done, .bool over] #[.int .i64 M.tick, .int .i64 M.ax, .int .i64 M.ay, .int .i64 M.fx, .int .i64 M.fy, .int .i64 M.turn, .int .i64 M.gate, .bool false, .bool M.over] (w12.setCell ⟨w.heap.size + 1 + 1, 7, none⟩ (.bool false)) := I12.set 7 (.bool false)
        have hO := Lib.hid I21.S
        have hZ := Lib.hid I21.Z
        have hBB := Lib.hid I21.bel
        have hRR := Lib.hid (I21.Z.row #[.int .i64 M.tick, .int .i64 M.ax, .int .i64 M.ay, .int .i64 M.fx, .int .i64 M.fy, .int .i64 M.turn, .int .i64 M.gate, .bool false, .bool M.over])
        go_upto_region 20 with fail
        refine wp_copy (ty := 31) rfl hO.out Try.underlying31 rfl (by kernel_rfl) rfl rfl hZ.out rfl (by simp [Value.oneCell']) ?_
        rename_i K hK
        refine hK _ _ (wp_ret ?_)
        refine bodyPost_ret (res_row rfl rfl hRR.out Try.underlying31 rfl (by kernel_rfl)) rfl ?_
        exact ⟨by rw [drive_in (by rw [← hMh.out]; exact hvk.out), ← hMh.out]; simp only [hGh.out, hDh.out], Below.setRow hBB.out (by omega) _⟩
    | false =>
      have hMv : M = ⟨tick + 1, ax + FX, ay, FX, -FY.tdiv 2, T, gate, done, over⟩ := by rw [hMMh.out, hmx.out]; simp only [moveY, hby, Bool.false_eq_true, if_true, if_false, Int.neg_tdiv]
      have I9 : TI w l d p #[.int .i64 tick, .int .i64 ax, .int .i64 ay, .int .i64 fx, .int .i64 fy, .int .i64 turn, .int .i64 gate, .bool done, .bool over] #[.int .i64 (tick + 1), .int .i64 (ax + FX), .int .i64 ay, .int .i64 FX, .int .i64 (-FY.tdiv 2), .int .i64 T, .int .i64 gate, .bool done, .bool over] (w7.setCell ⟨w.heap.size + 1 + 1, 4, none⟩ (.int .i64 (-FY.tdiv 2))) := I8.set 4 (.int .i64 (-FY.tdiv 2))
      go_upto_region 13 with fail
      generalize w7.setCell ⟨w.heap.size + 1 + 1, 4, none⟩ (.int .i64 (-FY.tdiv 2)) = w8 at *
      have I10 : TI w l d p #[.int .i64 tick, .int .i64 ax, .int .i64 ay, .int .i64 fx, .int .i64 fy, .int .i64 turn, .int .i64 gate, .bool done, .bool over] #[.int .i64 M.tick, .int .i64 M.ax, .int .i64 M.ay, .int .i64 M.fx, .int .i64 M.fy, .int .i64 M.turn, .int .i64 M.gate, .bool M.done, .bool M.over] w8 := by rw [hMv]; exact I9
      clear hMv I8 I9 A8 b0 b1 hmx hMMh
      (try clear c0 c1 c2 c3 c4 c5 c6 c7 c8 cf)
      obtain ⟨c0, c1, c2, c3, c4, c5, c6, c7, c8⟩ := I10.S.c9
      have cf := I10.S.frozen
      (try clear q0 q1 q2 q3 q4 q5 q6 q7 q8 q9 q10); obtain ⟨q0, q1, q2, q3, q4, q5, q6, q7, q8, q9, q10⟩ := I10.L.c11
      have hzS10 := I10.S.lt
      have hzL10 := I10.L.lt
      have hzZ10 := I10.Z.lt
      have hzO10 := I10.O.lt
      go_wp2_with fail
      refine (iVecOk M.ax M.ay _).mono ?_
      rintro e w11 ⟨rfl, hb11⟩
      rw [hvk]
      have I11 := I10.pass hb11
      clear I10 hb11
      obtain ⟨hfx1, hfx2⟩ := bxB_le hfv
      have hvk := Lib.hid hvk
      have hgd : decide (M.gate < (l.gn : Int)) = false := decide_eq_false (by omega)
      have hGh := Lib.hid (show gateF l M = M.gate by unfold gateF; rw [hgd, Bool.false_and]; rfl)
      (try clear c0 c1 c2 c3 c4 c5 c6 c7 c8 cf)
      obtain ⟨c0, c1, c2, c3, c4, c5, c6, c7, c8⟩ := I11.S.c9
      have cf := I11.S.frozen
      (try clear q0 q1 q2 q3 q4 q5 q6 q7 q8 q9 q10); obtain ⟨q0, q1, q2, q3, q4, q5, q6, q7, q8, q9, q10⟩ := I11.L.c11
      have hzS11 := I11.S.lt
      have hzL11 := I11.L.lt
      have hzZ11 := I11.Z.lt
      have hzO11 := I11.O.lt
      go_wp2_with fail
      have I12 := I11.drew
      have hl12 : BoxesAt w11.drew l.ga l.gn l.gf := hl.2.keep I12.bel
      refine wp_region_held_drew (S := fun W => ((W.cell? ⟨w.heap.size + 1, 0, none⟩ = some (.int .i64 l.id) ∧ W.cell? ⟨w.heap.size + 1, 1, none⟩ = some (.int .i64 l.ticks) ∧ W.cell? ⟨w.heap.size + 1, 2, none⟩ = some (.int .i64 l.sx) ∧ W.cell? ⟨w.heap.size + 1, 3, none⟩ = some (.int .i64 l.sy) ∧ W.cell? ⟨w.heap.size + 1, 4, none⟩ = some (.slice l.wa l.wn l.wc) ∧ W.cell? ⟨w.heap.size + 1, 5, none⟩ = some (.slice l.ga l.gn l.gc) ∧ W.cell? ⟨w.heap.size + 1, 6, none⟩ = some (.int .i64 l.flx) ∧ W.cell? ⟨w.heap.size + 1, 7, none⟩ = some (.int .i64 l.fly) ∧ W.cell? ⟨w.heap.size + 1, 8, none⟩ = some (.int .i64 l.fhx) ∧ W.cell? ⟨w.heap.size + 1, 9, none⟩ = some (.int .i64 l.fhy) ∧ W.cell? ⟨w.heap.size + 1, 10, none⟩ = some (.int .i64 l.bans)) ∧ (W.cell? ⟨w.heap.size + 1 + 1, 0, none⟩ = some (.int .i64 M.tick) ∧ W.cell? ⟨w.heap.size + 1 + 1, 1, none⟩ = some (.int .i64 M.ax) ∧ W.cell? ⟨w.heap.size + 1 + 1, 2, none⟩ = some (.int .i64 M.ay) ∧ W.cell? ⟨w.heap.size + 1 + 1, 3, none⟩ = some (.int .i64 M.fx) ∧ W.cell? ⟨w.heap.size + 1 + 1, 4, none⟩ = some (.int .i64 M.fy) ∧ W.cell? ⟨w.heap.size + 1 + 1, 5, none⟩ = some (.int .i64 M.turn) ∧ W.cell? ⟨w.heap.size + 1 + 1, 6, none⟩ = some (.int .i64 M.gate) ∧ W.cell? ⟨w.heap.size + 1 + 1, 7, none⟩ = some (.bool M.done) ∧ W.cell? ⟨w.heap.size + 1 + 1, 8, none⟩ = some (.bool M.over))) ∧ BoxesAt W l.ga l.gn l.gf) (by kernel_rfl) ⟨⟨I12.L.c11, I12.S.c9⟩, hl12⟩ (fun hHeld => ?_)
      simp only [List.size_toArray, List.length_cons, List.length_nil, Nat.zero_add, Nat.reduceAdd]
      (refine wpAnyH_take (i := 0) (v := ?_) rfl (by kernel_rfl) (by kernel_rfl) (by kernel_rfl) (fun _ _ _ h => h) (Or.inl ⟨by rfl, ?_⟩) (by assumption) ?_; rotate_left; · (intro w hSw; (try dsimp only at hSw); go_simp; (try with_reducible rfl))); (try simp only [Act.put, List.setIfInBounds_toArray, List.set_cons_zero, List.set_cons_succ])
      (refine wpAnyH_take (i := 1) (v := ?_) rfl (by kernel_rfl) (by kernel_rfl) (by kernel_rfl) (fun _ _ _ h => h) (Or.inl ⟨by rfl, ?_⟩) (by assumption) ?_; rotate_left; · (intro w hSw; (try dsimp only at hSw); go_simp; (try with_reducible rfl))); (try simp only [Act.put, List.setIfInBounds_toArray, List.set_cons_zero, List.set_cons_succ])
      (refine wpAnyH_take (i := 2) (v := ?_) rfl (by kernel_rfl) (by kernel_rfl) (by kernel_rfl) (fun _ _ _ h => h) (Or.inl ⟨by rfl, ?_⟩) (by assumption) ?_; rotate_left; · (intro w hSw; (try dsimp only at hSw); go_simp; (try with_reducible rfl))); (try simp only [Act.put, List.setIfInBounds_toArray, List.set_cons_zero, List.set_cons_succ])
      (refine wpAnyH_take (i := 3) (v := ?_) rfl (by kernel_rfl) (by kernel_rfl) (by kernel_rfl) (fun _ _ _ h => h) (Or.inl ⟨by rfl, ?_⟩) (by assumption) ?_; rotate_left; · (intro w hSw; (try dsimp only at hSw); go_simp; (try with_reducible rfl))); (try simp only [Act.put, List.setIfInBounds_toArray, List.set_cons_zero, List.set_cons_succ])
      (refine wpAnyH_take (i := 4) (v := ?_) rfl (by kernel_rfl) (by kernel_rfl) (by kernel_rfl) (fun _ _ _ h => h) (Or.inl ⟨by rfl, ?_⟩) (by assumption) ?_; rotate_left; · (intro w hSw; (try dsimp only at hSw); go_simp; (try with_reducible rfl))); (try simp only [Act.put, List.setIfInBounds_toArray, List.set_cons_zero, List.set_cons_succ])
      (refine wpAnyH_take (i := 5) (v := ?_) rfl (by kernel_rfl) (by kernel_rfl) (by kernel_rfl) (fun _ _ _ h => h) (Or.inl ⟨by rfl, ?_⟩) (by assumption) ?_; rotate_left; · (intro w hSw; (try dsimp only at hSw); go_simp; (try with_reducible rfl))); (try simp only [Act.put, List.setIfInBounds_toArray, List.set_cons_zero, List.set_cons_succ])
      (refine wpAnyH_take (i := 6) (v := ?_) rfl (by kernel_rfl) (by kernel_rfl) (by kernel_rfl) (fun _ _ _ h => h) (Or.inl ⟨by rfl, ?_⟩) (by assumption) ?_; rotate_left; · (intro w hSw; (try dsimp only at hSw); go_simp; (try with_reducible rfl))); (try simp only [Act.put, List.setIfInBounds_toArray, List.set_cons_zero, List.set_cons_succ])
      try simp only [hgd]
      refine wpAnyH_take (i := 7) (v := undef) rfl (by kernel_rfl) (by kernel_rfl) (by kernel_rfl) (fun _ _ _ h => h) (Or.inr ⟨by kernel_rfl, rfl⟩) (by assumption) ?_; (try simp only [Act.put, List.setIfInBounds_toArray, List.set_cons_zero, List.set_cons_succ])
      refine wpAnyH_take (i := 8) (v := undef) rfl (by kernel_rfl) (by kernel_rfl) (by kernel_rfl) (fun _ _ _ h => h) (Or.inr ⟨by kernel_rfl, rfl⟩) (by assumption) ?_; (try simp only [Act.put, List.setIfInBounds_toArray, List.set_cons_zero, List.set_cons_succ])
      refine wpAnyH_take (i := 9) (v := undef) rfl (by kernel_rfl) (by kernel_rfl) (by kernel_rfl) (fun _ _ _ h => h) (Or.inr ⟨by kernel_rfl, rfl⟩) (by assumption) ?_; (try simp only [Act.put, List.setIfInBounds_toArray, List.set_cons_zero, List.set_cons_succ])
      refine wpAnyH_take (i := 10) (v := undef) rfl (by kernel_rfl) (by kernel_rfl) (by kernel_rfl) (fun _ _ _ h => h) (Or.inr ⟨by kernel_rfl, rfl⟩) (by assumption) ?_; (try simp only [Act.put, List.setIfInBounds_toArray, List.set_cons_zero, List.set_cons_succ])
      refine wpAnyH_take (i := 11) (v := undef) rfl (by kernel_rfl) (by kernel_rfl) (by kernel_rfl) (fun _ _ _ h => h) (Or.inr ⟨by kernel_rfl, rfl⟩) (by assumption) ?_; (try simp only [Act.put, List.setIfInBounds_toArray, List.set_cons_zero, List.set_cons_succ])
      refine wpAnyH_take (i := 12) (v := undef) rfl (by kernel_rfl) (by kernel_rfl) (by kernel_rfl) (fun _ _ _ h => h) (Or.inr ⟨by kernel_rfl, rfl⟩) (by assumption) ?_; (try simp only [Act.put, List.setIfInBounds_toArray, List.set_cons_zero, List.set_cons_succ])
      refine wpAnyH_take (i := 13) (v := undef) rfl (by kernel_rfl) (by kernel_rfl) (by kernel_rfl) (fun _ _ _ h => h) (Or.inr ⟨by kernel_rfl, rfl⟩) (by assumption) ?_; (try simp only [Act.put, List.setIfInBounds_toArray, List.set_cons_zero, List.set_cons_succ])
      refine wpAnyH_take (i := 14) (v := undef) rfl (by kernel_rfl) (by kernel_rfl) (by kernel_rfl) (fun _ _ _ h => h) (Or.inr ⟨by kernel_rfl, rfl⟩) (by assumption) ?_; (try simp only [Act.put, List.setIfInBounds_toArray, List.set_cons_zero, List.set_cons_succ])
      refine wpAnyH_take (i := 15) (v := undef) rfl (by kernel_rfl) (by kernel_rfl) (by kernel_rfl) (fun _ _ _ h => h) (Or.inr ⟨by kernel_rfl, rfl⟩) (by assumption) ?_; (try simp only [Act.put, List.setIfInBounds_toArray, List.set_cons_zero, List.set_cons_succ])
      refine wpAnyH_ready (rs := [16]) (by kernel_rfl) (by simp) ?_; refine AllReadyH.cons rfl (fun K hK => ?_) AllReadyH.nil; (try simp only [List.getElem_toArray, List.getElem_cons_succ, List.getElem_cons_zero])
      go_simp
      refine hK.out _ _ (⟨⟨I12.L.c11, I12.S.c9⟩, hl12⟩) (fun hHeld => ?_); clear hK K; (try simp only [Act.put, List.setIfInBounds_toArray, List.set_cons_zero, List.set_cons_succ])
      refine wpAnyH_done (by kernel_rfl) ?_ _
      clear hHeld I11
      generalize w11.drew = w12 at *
      by_cases hd : M.gate = (l.gn : Int)
      · have hdb : (M.gate == ((l.gn : Nat) : Int)) = true := by simpa using hd
        have hdh := Lib.hid hd
        clear hd
        (try clear c0 c1 c2 c3 c4 c5 c6 c7 c8 cf)
        obtain ⟨c0, c1, c2, c3, c4, c5, c6, c7, c8⟩ := I12.S.c9
        have cf := I12.S.frozen
        (try clear q0 q1 q2 q3 q4 q5 q6 q7 q8 q9 q10); obtain ⟨q0, q1, q2, q3, q4, q5, q6, q7, q8, q9, q10⟩ := I12.L.c11
        have hzS12 := I12.S.lt
        have hzL12 := I12.L.lt
        have hzZ12 := I12.Z.lt
        have hzO12 := I12.O.lt
        go_wp2_with fail
        refine (iHas l.flx l.fly l.fhx l.fhy M.ax M.ay _ hfx1 hfx2).mono ?_
        rintro e w20 ⟨rfl, hb20⟩
        have I20 := I12.pass hb20
        obtain ⟨D, hD⟩ : ∃ D, D = hasB l.flx l.fly l.fhx l.fhy M.ax M.ay := ⟨_, rfl⟩
        rw [← hD]
        have hDh := Lib.hid (show doneF l M = D by unfold doneF; rw [hGh.out, decide_eq_true hdh.out, hD]; rfl)
        clear hD hb20
        (try clear c0 c1 c2 c3 c4 c5 c6 c7 c8 cf)
        obtain ⟨c0, c1, c2, c3, c4, c5, c6, c7, c8⟩ := I20.S.c9
        have cf := I20.S.frozen
        (try clear q0 q1 q2 q3 q4 q5 q6 q7 q8 q9 q10); obtain ⟨q0, q1, q2, q3, q4, q5, q6, q7, q8, q9, q10⟩ := I20.L.c11
        have hzS20 := I20.S.lt
        have hzL20 := I20.L.lt
        have hzZ20 := I20.Z.lt
        have hzO20 := I20.O.lt
        have I21 : TI w l d p #[.int .i64 tick, .int .i64 ax, .int .i64 ay, .int .i64 fx, .int .i64 fy, .int .i64 turn, .int .i64 gate, .bool done, .bool over] #[.int .i64 M.tick, .int .i64 M.ax, .int .i64 M.ay, .int .i64 M.fx, .int .i64 M.fy, .int .i64 M.turn, .int .i64 M.gate, .bool D, .bool M.over] (w20.setCell ⟨w.heap.size + 1 + 1, 7, none⟩ (.bool D)) := I20.set 7 (.bool D)
        have hO := Lib.hid I21.S
        have hZ := Lib.hid I21.Z
        have hBB := Lib.hid I21.bel
        have hRR := Lib.hid (I21.Z.row #[.int .i64 M.tick, .int .i64 M.ax, .int .i64 M.ay, .int .i64 M.fx, .int .i64 M.fy, .int .i64 M.turn, .int .i64 M.gate, .bool D, .bool M.over])
        go_upto_region 20 with fail
        refine wp_copy (ty := 31) rfl hO.out Try.underlying31 rfl (by kernel_rfl) rfl rfl hZ.out rfl (by simp [Value.oneCell']) ?_
        rename_i K hK
        refine hK _ _ (wp_ret ?_)
        refine bodyPost_ret (res_row rfl rfl hRR.out Try.underlying31 rfl (by kernel_rfl)) rfl ?_
        exact ⟨by rw [drive_in (by rw [← hMh.out]; exact hvk.out), ← hMh.out]; simp only [hGh.out, hDh.out], Below.setRow hBB.out (by omega) _⟩
      · have hdb : (M.gate == ((l.gn : Nat) : Int)) = false := by simpa using hd
        have hDh := Lib.hid (show doneF l M = false by unfold doneF; rw [hGh.out, decide_eq_false hd]; rfl)
        clear hd
        (try clear c0 c1 c2 c3 c4 c5 c6 c7 c8 cf)
        obtain ⟨c0, c1, c2, c3, c4, c5, c6, c7, c8⟩ := I12.S.c9
        have cf := I12.S.frozen
        (try clear q0 q1 q2 q3 q4 q5 q6 q7 q8 q9 q10); obtain ⟨q0, q1, q2, q3, q4, q5, q6, q7, q8, q9, q10⟩ := I12.L.c11
        have hzS12 := I12.S.lt
        have hzL12 := I12.L.lt
        have hzZ12 := I12.Z.lt
        have hzO12 := I12.O.lt
        have I21 : TI w l d p #[.int .i64 tick, .int .i64 ax, .int .i64 ay, .int .i64 fx, .int .i64 fy, .int .i64 turn, .int .i64 gate, .bool done, .bool over] #[.int .i64 M.tick, .int .i64 M.ax, .int .i64 M.ay, .int .i64 M.fx, .int .i64 M.fy, .int .i64 M.turn, .int .i64 M.gate, .bool false, .bool M.over] (w12.setCell ⟨w.heap.size + 1 + 1, 7, none⟩ (.bool false)) := I12.set 7 (.bool false)
        have hO := Lib.hid I21.S
        have hZ := Lib.hid I21.Z
        have hBB := Lib.hid I21.bel
        have hRR := Lib.hid (I21.Z.row #[.int .i64 M.tick, .int .i64 M.ax, .int .i64 M.ay, .int .i64 M.fx, .int .i64 M.fy, .int .i64 M.turn, .int .i64 M.gate, .bool false, .bool M.over])
        go_upto_region 20 with fail
        refine wp_copy (ty := 31) rfl hO.out Try.underlying31 rfl (by kernel_rfl) rfl rfl hZ.out rfl (by simp [Value.oneCell']) ?_
        rename_i K hK
        refine hK _ _ (wp_ret ?_)
        refine bodyPost_ret (res_row rfl rfl hRR.out Try.underlying31 rfl (by kernel_rfl)) rfl ?_
        exact ⟨by rw [drive_in (by rw [← hMh.out]; exact hvk.out), ← hMh.out]; simp only [hGh.out, hDh.out], Below.setRow hBB.out (by omega) _⟩
  | false =>
    have hI5 : TI w l d p #[.int .i64 tick, .int .i64 ax, .int .i64 ay, .int .i64 fx, .int .i64 fy, .int .i64 turn, .int .i64 gate, .bool done, .bool over] #[.int .i64 (tick + 1), .int .i64 ax, .int .i64 ay, .int .i64 (-FX.tdiv 2), .int .i64 FY, .int .i64 T, .int .i64 gate, .bool done, .bool over] (w3.setCell ⟨w.heap.size + 1 + 1, 3, none⟩ (.int .i64 (-FX.tdiv 2))) := I4.set 3 (.int .i64 (-FX.tdiv 2))
    have hmx := Lib.hid (show moveX l ⟨tick + 1, ax, ay, FX, FY, T, gate, done, over⟩ = ⟨tick + 1, ax, ay, -FX.tdiv 2, FY, T, gate, done, over⟩ by simp only [moveX, hbx, Bool.false_eq_true, if_false, Int.neg_tdiv])
    have I5 := hI5
    clear hI5
    go_upto_region 9 with fail
    generalize w3.setCell ⟨w.heap.size + 1 + 1, 3, none⟩ (.int .i64 (-FX.tdiv 2)) = w5 at *
    clear A4 a0 a1 I4
    (try clear c0 c1 c2 c3 c4 c5 c6 c7 c8 cf)
    obtain ⟨c0, c1, c2, c3, c4, c5, c6, c7, c8⟩ := I5.S.c9
    have cf := I5.S.frozen
    (try clear q0 q1 q2 q3 q4 q5 q6 q7 q8 q9 q10); obtain ⟨q0, q1, q2, q3, q4, q5, q6, q7, q8, q9, q10⟩ := I5.L.c11
    have hzS5 := I5.S.lt
    have hzL5 := I5.L.lt
    have hzZ5 := I5.Z.lt
    have hzO5 := I5.O.lt
    have I6 := I5.alloc (.cells #[.int .i64 ax, .int .i64 (ay + FY)] 24)
    have A6 : Blk (w5.alloc (.cells #[.int .i64 ax, .int .i64 (ay + FY)] 24)) w5.heap.size #[.int .i64 ax, .int .i64 (ay + FY)] := Blk.at rfl
    go_wp2_with fail
    refine (iFree l ax (ay + FY) _ (by omega) (hl.keep I6.bel).1 hbv (by omega) (by omega) (by omega) (by omega)).mono ?_
    rintro e w7 ⟨rfl, hb7⟩
    have I8 := I6.pass hb7
    have A8 := A6.below hb7 A6.lt
    clear I5 I6 A6 hb7
    obtain ⟨b0, b1⟩ := A8.c2
    have hzA8 := A8.lt
    (try clear c0 c1 c2 c3 c4 c5 c6 c7 c8 cf)
    obtain ⟨c0, c1, c2, c3, c4, c5, c6, c7, c8⟩ := I8.S.c9
    have cf := I8.S.frozen
    (try clear q0 q1 q2 q3 q4 q5 q6 q7 q8 q9 q10); obtain ⟨q0, q1, q2, q3, q4, q5, q6, q7, q8, q9, q10⟩ := I8.L.c11
    have hzS8 := I8.S.lt
    have hzL8 := I8.L.lt
    have hzZ8 := I8.Z.lt
    have hzO8 := I8.O.lt
    cases hby : frB l.wf ax (ay + FY) l.wn with
    | true =>
      have hMv : M = ⟨tick + 1, ax, ay + FY, -FX.tdiv 2, FY, T, gate, done, over⟩ := by rw [hMMh.out, hmx.out]; simp only [moveY, hby, Bool.false_eq_true, if_true, if_false, Int.neg_tdiv]
      have I9 : TI w l d p #[.int .i64 tick, .int .i64 ax, .int .i64 ay, .int .i64 fx, .int .i64 fy, .int .i64 turn, .int .i64 gate, .bool done, .bool over] #[.int .i64 (tick + 1), .int .i64 ax, .int .i64 (ay + FY), .int .i64 (-FX.tdiv 2), .int .i64 FY, .int .i64 T, .int .i64 gate, .bool done, .bool over] ((w7.setCell ⟨w.heap.size + 1 + 1, 1, none⟩ (.int .i64 ax)).setCell ⟨w.heap.size + 1 + 1, 2, none⟩ (.int .i64 (ay + FY))) := (I8.set 1 (.int .i64 ax)).set 2 (.int .i64 (ay + FY))
      go_upto_region 13 with fail
      generalize (w7.setCell ⟨w.heap.size + 1 + 1, 1, none⟩ (.int .i64 ax)).setCell ⟨w.heap.size + 1 + 1, 2, none⟩ (.int .i64 (ay + FY)) = w8 at *
      have I10 : TI w l d p #[.int .i64 tick, .int .i64 ax, .int .i64 ay, .int .i64 fx, .int .i64 fy, .int .i64 turn, .int .i64 gate, .bool done, .bool over] #[.int .i64 M.tick, .int .i64 M.ax, .int .i64 M.ay, .int .i64 M.fx, .int .i64 M.fy, .int .i64 M.turn, .int .i64 M.gate, .bool M.done, .bool M.over] w8 := by rw [hMv]; exact I9
      clear hMv I8 I9 A8 b0 b1 hmx hMMh
      (try clear c0 c1 c2 c3 c4 c5 c6 c7 c8 cf)
      obtain ⟨c0, c1, c2, c3, c4, c5, c6, c7, c8⟩ := I10.S.c9
      have cf := I10.S.frozen
      (try clear q0 q1 q2 q3 q4 q5 q6 q7 q8 q9 q10); obtain ⟨q0, q1, q2, q3, q4, q5, q6, q7, q8, q9, q10⟩ := I10.L.c11
      have hzS10 := I10.S.lt
      have hzL10 := I10.L.lt
      have hzZ10 := I10.Z.lt
      have hzO10 := I10.O.lt
      go_wp2_with fail
      refine (iVecOk M.ax M.ay _).mono ?_
      rintro e w11 ⟨rfl, hb11⟩
      rw [hvk]
      have I11 := I10.pass hb11
      clear I10 hb11
      obtain ⟨hfx1, hfx2⟩ := bxB_le hfv
      have hvk := Lib.hid hvk
      have hgd : decide (M.gate < (l.gn : Int)) = false := decide_eq_false (by omega)
      have hGh := Lib.hid (show gateF l M = M.gate by unfold gateF; rw [hgd, Bool.false_and]; rfl)
      (try clear c0 c1 c2 c3 c4 c5 c6 c7 c8 cf)
      obtain ⟨c0, c1, c2, c3, c4, c5, c6, c7, c8⟩ := I11.S.c9
      have cf := I11.S.frozen
      (try clear q0 q1 q2 q3 q4 q5 q6 q7 q8 q9 q10); obtain ⟨q0, q1, q2, q3, q4, q5, q6, q7, q8, q9, q10⟩ := I11.L.c11
      have hzS11 := I11.S.lt
      have hzL11 := I11.L.lt
      have hzZ11 := I11.Z.lt
      have hzO11 := I11.O.lt
      go_wp2_with fail
      have I12 := I11.drew
      have hl12 : BoxesAt w11.drew l.ga l.gn l.gf := hl.2.keep I12.bel
      refine wp_region_held_drew (S := fun W => ((W.cell? ⟨w.heap.size + 1, 0, none⟩ = some (.int .i64 l.id) ∧ W.cell? ⟨w.heap.size + 1, 1, none⟩ = some (.int .i64 l.ticks) ∧ W.cell? ⟨w.heap.size + 1, 2, none⟩ = some (.int .i64 l.sx) ∧ W.cell? ⟨w.heap.size + 1, 3, none⟩ = some (.int .i64 l.sy) ∧ W.cell? ⟨w.heap.size + 1, 4, none⟩ = some (.slice l.wa l.wn l.wc) ∧ W.cell? ⟨w.heap.size + 1, 5, none⟩ = some (.slice l.ga l.gn l.gc) ∧ W.cell? ⟨w.heap.size + 1, 6, none⟩ = some (.int .i64 l.flx) ∧ W.cell? ⟨w.heap.size + 1, 7, none⟩ = some (.int .i64 l.fly) ∧ W.cell? ⟨w.heap.size + 1, 8, none⟩ = some (.int .i64 l.fhx) ∧ W.cell? ⟨w.heap.size + 1, 9, none⟩ = some (.int .i64 l.fhy) ∧ W.cell? ⟨w.heap.size + 1, 10, none⟩ = some (.int .i64 l.bans)) ∧ (W.cell? ⟨w.heap.size + 1 + 1, 0, none⟩ = some (.int .i64 M.tick) ∧ W.cell? ⟨w.heap.size + 1 + 1, 1, none⟩ = some (.int .i64 M.ax) ∧ W.cell? ⟨w.heap.size + 1 + 1, 2, none⟩ = some (.int .i64 M.ay) ∧ W.cell? ⟨w.heap.size + 1 + 1, 3, none⟩ = some (.int .i64 M.fx) ∧ W.cell? ⟨w.heap.size + 1 + 1, 4, none⟩ = some (.int .i64 M.fy) ∧ W.cell? ⟨w.heap.size + 1 + 1, 5, none⟩ = some (.int .i64 M.turn) ∧ W.cell? ⟨w.heap.size + 1 + 1, 6, none⟩ = some (.int .i64 M.gate) ∧ W.cell? ⟨w.heap.size + 1 + 1, 7, none⟩ = some (.bool M.done) ∧ W.cell? ⟨w.heap.size + 1 + 1, 8, none⟩ = some (.bool M.over))) ∧ BoxesAt W l.ga l.gn l.gf) (by kernel_rfl) ⟨⟨I12.L.c11, I12.S.c9⟩, hl12⟩ (fun hHeld => ?_)
      simp only [List.size_toArray, List.length_cons, List.length_nil, Nat.zero_add, Nat.reduceAdd]
      (refine wpAnyH_take (i := 0) (v := ?_) rfl (by kernel_rfl) (by kernel_rfl) (by kernel_rfl) (fun _ _ _ h => h) (Or.inl ⟨by rfl, ?_⟩) (by assumption) ?_; rotate_left; · (intro w hSw; (try dsimp only at hSw); go_simp; (try with_reducible rfl))); (try simp only [Act.put, List.setIfInBounds_toArray, List.set_cons_zero, List.set_cons_succ])
      (refine wpAnyH_take (i := 1) (v := ?_) rfl (by kernel_rfl) (by kernel_rfl) (by kernel_rfl) (fun _ _ _ h => h) (Or.inl ⟨by rfl, ?_⟩) (by assumption) ?_; rotate_left; · (intro w hSw; (try dsimp only at hSw); go_simp; (try with_reducible rfl))); (try simp only [Act.put, List.setIfInBounds_toArray, List.set_cons_zero, List.set_cons_succ])
      (refine wpAnyH_take (i := 2) (v := ?_) rfl (by kernel_rfl) (by kernel_rfl) (by kernel_rfl) (fun _ _ _ h => h) (Or.inl ⟨by rfl, ?_⟩) (by assumption) ?_; rotate_left; · (intro w hSw; (try dsimp only at hSw); go_simp; (try with_reducible rfl))); (try simp only [Act.put, List.setIfInBounds_toArray, List.set_cons_zero, List.set_cons_succ])
      (refine wpAnyH_take (i := 3) (v := ?_) rfl (by kernel_rfl) (by kernel_rfl) (by kernel_rfl) (fun _ _ _ h => h) (Or.inl ⟨by rfl, ?_⟩) (by assumption) ?_; rotate_left; · (intro w hSw; (try dsimp only at hSw); go_simp; (try with_reducible rfl))); (try simp only [Act.put, List.setIfInBounds_toArray, List.set_cons_zero, List.set_cons_succ])
      (refine wpAnyH_take (i := 4) (v := ?_) rfl (by kernel_rfl) (by kernel_rfl) (by kernel_rfl) (fun _ _ _ h => h) (Or.inl ⟨by rfl, ?_⟩) (by assumption) ?_; rotate_left; · (intro w hSw; (try dsimp only at hSw); go_simp; (try with_reducible rfl))); (try simp only [Act.put, List.setIfInBounds_toArray, List.set_cons_zero, List.set_cons_succ])
      (refine wpAnyH_take (i := 5) (v := ?_) rfl (by kernel_rfl) (by kernel_rfl) (by kernel_rfl) (fun _ _ _ h => h) (Or.inl ⟨by rfl, ?_⟩) (by assumption) ?_; rotate_left; · (intro w hSw; (try dsimp only at hSw); go_simp; (try with_reducible rfl))); (try simp only [Act.put, List.setIfInBounds_toArray, List.set_cons_zero, List.set_cons_succ])
      (refine wpAnyH_take (i := 6) (v := ?_) rfl (by kernel_rfl) (by kernel_rfl) (by kernel_rfl) (fun _ _ _ h => h) (Or.inl ⟨by rfl, ?_⟩) (by assumption) ?_; rotate_left; · (intro w hSw; (try dsimp only at hSw); go_simp; (try with_reducible rfl))); (try simp only [Act.put, List.setIfInBounds_toArray, List.set_cons_zero, List.set_cons_succ])
      try simp only [hgd]
      refine wpAnyH_take (i := 7) (v := undef) rfl (by kernel_rfl) (by kernel_rfl) (by kernel_rfl) (fun _ _ _ h => h) (Or.inr ⟨by kernel_rfl, rfl⟩) (by assumption) ?_; (try simp only [Act.put, List.setIfInBounds_toArray, List.set_cons_zero, List.set_cons_succ])
      refine wpAnyH_take (i := 8) (v := undef) rfl (by kernel_rfl) (by kernel_rfl) (by kernel_rfl) (fun _ _ _ h => h) (Or.inr ⟨by kernel_rfl, rfl⟩) (by assumption) ?_; (try simp only [Act.put, List.setIfInBounds_toArray, List.set_cons_zero, List.set_cons_succ])
      refine wpAnyH_take (i := 9) (v := undef) rfl (by kernel_rfl) (by kernel_rfl) (by kernel_rfl) (fun _ _ _ h => h) (Or.inr ⟨by kernel_rfl, rfl⟩) (by assumption) ?_; (try simp only [Act.put, List.setIfInBounds_toArray, List.set_cons_zero, List.set_cons_succ])
      refine wpAnyH_take (i := 10) (v := undef) rfl (by kernel_rfl) (by kernel_rfl) (by kernel_rfl) (fun _ _ _ h => h) (Or.inr ⟨by kernel_rfl, rfl⟩) (by assumption) ?_; (try simp only [Act.put, List.setIfInBounds_toArray, List.set_cons_zero, List.set_cons_succ])
      refine wpAnyH_take (i := 11) (v := undef) rfl (by kernel_rfl) (by kernel_rfl) (by kernel_rfl) (fun _ _ _ h => h) (Or.inr ⟨by kernel_rfl, rfl⟩) (by assumption) ?_; (try simp only [Act.put, List.setIfInBounds_toArray, List.set_cons_zero, List.set_cons_succ])
      refine wpAnyH_take (i := 12) (v := undef) rfl (by kernel_rfl) (by kernel_rfl) (by kernel_rfl) (fun _ _ _ h => h) (Or.inr ⟨by kernel_rfl, rfl⟩) (by assumption) ?_; (try simp only [Act.put, List.setIfInBounds_toArray, List.set_cons_zero, List.set_cons_succ])
      refine wpAnyH_take (i := 13) (v := undef) rfl (by kernel_rfl) (by kernel_rfl) (by kernel_rfl) (fun _ _ _ h => h) (Or.inr ⟨by kernel_rfl, rfl⟩) (by assumption) ?_; (try simp only [Act.put, List.setIfInBounds_toArray, List.set_cons_zero, List.set_cons_succ])
      refine wpAnyH_take (i := 14) (v := undef) rfl (by kernel_rfl) (by kernel_rfl) (by kernel_rfl) (fun _ _ _ h => h) (Or.inr ⟨by kernel_rfl, rfl⟩) (by assumption) ?_; (try simp only [Act.put, List.setIfInBounds_toArray, List.set_cons_zero, List.set_cons_succ])
      refine wpAnyH_take (i := 15) (v := undef) rfl (by kernel_rfl) (by kernel_rfl) (by kernel_rfl) (fun _ _ _ h => h) (Or.inr ⟨by kernel_rfl, rfl⟩) (by assumption) ?_; (try simp only [Act.put, List.setIfInBounds_toArray, List.set_cons_zero, List.set_cons_succ])
      refine wpAnyH_ready (rs := [16]) (by kernel_rfl) (by simp) ?_; refine AllReadyH.cons rfl (fun K hK => ?_) AllReadyH.nil; (try simp only [List.getElem_toArray, List.getElem_cons_succ, List.getElem_cons_zero])
      go_simp
      refine hK.out _ _ (⟨⟨I12.L.c11, I12.S.c9⟩, hl12⟩) (fun hHeld => ?_); clear hK K; (try simp only [Act.put, List.setIfInBounds_toArray, List.set_cons_zero, List.set_cons_succ])
      refine wpAnyH_done (by kernel_rfl) ?_ _
      clear hHeld I11
      generalize w11.drew = w12 at *
      by_cases hd : M.gate = (l.gn : Int)
      · have hdb : (M.gate == ((l.gn : Nat) : Int)) = true := by simpa using hd
        have hdh := Lib.hid hd
        clear hd
        (try clear c0 c1 c2 c3 c4 c5 c6 c7 c8 cf)
        obtain ⟨c0, c1, c2, c3, c4, c5, c6, c7, c8⟩ := I12.S.c9
        have cf := I12.S.frozen
        (try clear q0 q1 q2 q3 q4 q5 q6 q7 q8 q9 q10); obtain ⟨q0, q1, q2, q3, q4, q5, q6, q7, q8, q9, q10⟩ := I12.L.c11
        have hzS12 := I12.S.lt
        have hzL12 := I12.L.lt
        have hzZ12 := I12.Z.lt
        have hzO12 := I12.O.lt
        go_wp2_with fail
        refine (iHas l.flx l.fly l.fhx l.fhy M.ax M.ay _ hfx1 hfx2).mono ?_
        rintro e w20 ⟨rfl, hb20⟩
        have I20 := I12.pass hb20
        obtain ⟨D, hD⟩ : ∃ D, D = hasB l.flx l.fly l.fhx l.fhy M.ax M.ay := ⟨_, rfl⟩
        rw [← hD]
        have hDh := Lib.hid (show doneF l M = D by unfold doneF; rw [hGh.out, decide_eq_true hdh.out, hD]; rfl)
        clear hD hb20
        (try clear c0 c1 c2 c3 c4 c5 c6 c7 c8 cf)
        obtain ⟨c0, c1, c2, c3, c4, c5, c6, c7, c8⟩ := I20.S.c9
        have cf := I20.S.frozen
        (try clear q0 q1 q2 q3 q4 q5 q6 q7 q8 q9 q10); obtain ⟨q0, q1, q2, q3, q4, q5, q6, q7, q8, q9, q10⟩ := I20.L.c11
        have hzS20 := I20.S.lt
        have hzL20 := I20.L.lt
        have hzZ20 := I20.Z.lt
        have hzO20 := I20.O.lt
        have I21 : TI w l d p #[.int .i64 tick, .int .i64 ax, .int .i64 ay, .int .i64 fx, .int .i64 fy, .int .i64 turn, .int .i64 gate, .bool done, .bool over] #[.int .i64 M.tick, .int .i64 M.ax, .int .i64 M.ay, .int .i64 M.fx, .int .i64 M.fy, .int .i64 M.turn, .int .i64 M.gate, .bool D, .bool M.over] (w20.setCell ⟨w.heap.size + 1 + 1, 7, none⟩ (.bool D)) := I20.set 7 (.bool D)
        have hO := Lib.hid I21.S
        have hZ := Lib.hid I21.Z
        have hBB := Lib.hid I21.bel
        have hRR := Lib.hid (I21.Z.row #[.int .i64 M.tick, .int .i64 M.ax, .int .i64 M.ay, .int .i64 M.fx, .int .i64 M.fy, .int .i64 M.turn, .int .i64 M.gate, .bool D, .bool M.over])
        go_upto_region 20 with fail
        refine wp_copy (ty := 31) rfl hO.out Try.underlying31 rfl (by kernel_rfl) rfl rfl hZ.out rfl (by simp [Value.oneCell']) ?_
        rename_i K hK
        refine hK _ _ (wp_ret ?_)
        refine bodyPost_ret (res_row rfl rfl hRR.out Try.underlying31 rfl (by kernel_rfl)) rfl ?_
        exact ⟨by rw [drive_in (by rw [← hMh.out]; exact hvk.out), ← hMh.out]; simp only [hGh.out, hDh.out], Below.setRow hBB.out (by omega) _⟩
      · have hdb : (M.gate == ((l.gn : Nat) : Int)) = false := by simpa using hd
        have hDh := Lib.hid (show doneF l M = false by unfold doneF; rw [hGh.out, decide_eq_false hd]; rfl)
        clear hd
        (try clear c0 c1 c2 c3 c4 c5 c6 c7 c8 cf)
        obtain ⟨c0, c1, c2, c3, c4, c5, c6, c7, c8⟩ := I12.S.c9
        have cf := I12.S.frozen
        (try clear q0 q1 q2 q3 q4 q5 q6 q7 q8 q9 q10); obtain ⟨q0, q1, q2, q3, q4, q5, q6, q7, q8, q9, q10⟩ := I12.L.c11
        have hzS12 := I12.S.lt
        have hzL12 := I12.L.lt
        have hzZ12 := I12.Z.lt
        have hzO12 := I12.O.lt
        have I21 : TI w l d p #[.int .i64 tick, .int .i64 ax, .int .i64 ay, .int .i64 fx, .int .i64 fy, .int .i64 turn, .int .i64 gate, .bool done, .bool over] #[.int .i64 M.tick, .int .i64 M.ax, .int .i64 M.ay, .int .i64 M.fx, .int .i64 M.fy, .int .i64 M.turn, .int .i64 M.gate, .bool false, .bool M.over] (w12.setCell ⟨w.heap.size + 1 + 1, 7, none⟩ (.bool false)) := I12.set 7 (.bool false)
        have hO := Lib.hid I21.S
        have hZ := Lib.hid I21.Z
        have hBB := Lib.hid I21.bel
        have hRR := Lib.hid (I21.Z.row #[.int .i64 M.tick, .int .i64 M.ax, .int .i64 M.ay, .int .i64 M.fx, .int .i64 M.fy, .int .i64 M.turn, .int .i64 M.gate, .bool false, .bool M.over])
        go_upto_region 20 with fail
        refine wp_copy (ty := 31) rfl hO.out Try.underlying31 rfl (by kernel_rfl) rfl rfl hZ.out rfl (by simp [Value.oneCell']) ?_
        rename_i K hK
        refine hK _ _ (wp_ret ?_)
        refine bodyPost_ret (res_row rfl rfl hRR.out Try.underlying31 rfl (by kernel_rfl)) rfl ?_
        exact ⟨by rw [drive_in (by rw [← hMh.out]; exact hvk.out), ← hMh.out]; simp only [hGh.out, hDh.out], Below.setRow hBB.out (by omega) _⟩
    | false =>
      have hMv : M = ⟨tick + 1, ax, ay, -FX.tdiv 2, -FY.tdiv 2, T, gate, done, over⟩ := by rw [hMMh.out, hmx.out]; simp only [moveY, hby, Bool.false_eq_true, if_true, if_false, Int.neg_tdiv]
      have I9 : TI w l d p #[.int .i64 tick, .int .i64 ax, .int .i64 ay, .int .i64 fx, .int .i64 fy, .int .i64 turn, .int .i64 gate, .bool done, .bool over] #[.int .i64 (tick + 1), .int .i64 ax, .int .i64 ay, .int .i64 (-FX.tdiv 2), .int .i64 (-FY.tdiv 2), .int .i64 T, .int .i64 gate, .bool done, .bool over] (w7.setCell ⟨w.heap.size + 1 + 1, 4, none⟩ (.int .i64 (-FY.tdiv 2))) := I8.set 4 (.int .i64 (-FY.tdiv 2))
      go_upto_region 13 with fail
      generalize w7.setCell ⟨w.heap.size + 1 + 1, 4, none⟩ (.int .i64 (-FY.tdiv 2)) = w8 at *
      have I10 : TI w l d p #[.int .i64 tick, .int .i64 ax, .int .i64 ay, .int .i64 fx, .int .i64 fy, .int .i64 turn, .int .i64 gate, .bool done, .bool over] #[.int .i64 M.tick, .int .i64 M.ax, .int .i64 M.ay, .int .i64 M.fx, .int .i64 M.fy, .int .i64 M.turn, .int .i64 M.gate, .bool M.done, .bool M.over] w8 := by rw [hMv]; exact I9
      clear hMv I8 I9 A8 b0 b1 hmx hMMh
      (try clear c0 c1 c2 c3 c4 c5 c6 c7 c8 cf)
      obtain ⟨c0, c1, c2, c3, c4, c5, c6, c7, c8⟩ := I10.S.c9
      have cf := I10.S.frozen
      (try clear q0 q1 q2 q3 q4 q5 q6 q7 q8 q9 q10); obtain ⟨q0, q1, q2, q3, q4, q5, q6, q7, q8, q9, q10⟩ := I10.L.c11
      have hzS10 := I10.S.lt
      have hzL10 := I10.L.lt
      have hzZ10 := I10.Z.lt
      have hzO10 := I10.O.lt
      go_wp2_with fail
      refine (iVecOk M.ax M.ay _).mono ?_
      rintro e w11 ⟨rfl, hb11⟩
      rw [hvk]
      have I11 := I10.pass hb11
      clear I10 hb11
      obtain ⟨hfx1, hfx2⟩ := bxB_le hfv
      have hvk := Lib.hid hvk
      have hgd : decide (M.gate < (l.gn : Int)) = false := decide_eq_false (by omega)
      have hGh := Lib.hid (show gateF l M = M.gate by unfold gateF; rw [hgd, Bool.false_and]; rfl)
      (try clear c0 c1 c2 c3 c4 c5 c6 c7 c8 cf)
      obtain ⟨c0, c1, c2, c3, c4, c5, c6, c7, c8⟩ := I11.S.c9
      have cf := I11.S.frozen
      (try clear q0 q1 q2 q3 q4 q5 q6 q7 q8 q9 q10); obtain ⟨q0, q1, q2, q3, q4, q5, q6, q7, q8, q9, q10⟩ := I11.L.c11
      have hzS11 := I11.S.lt
      have hzL11 := I11.L.lt
      have hzZ11 := I11.Z.lt
      have hzO11 := I11.O.lt
      go_wp2_with fail
      have I12 := I11.drew
      have hl12 : BoxesAt w11.drew l.ga l.gn l.gf := hl.2.keep I12.bel
      refine wp_region_held_drew (S := fun W => ((W.cell? ⟨w.heap.size + 1, 0, none⟩ = some (.int .i64 l.id) ∧ W.cell? ⟨w.heap.size + 1, 1, none⟩ = some (.int .i64 l.ticks) ∧ W.cell? ⟨w.heap.size + 1, 2, none⟩ = some (.int .i64 l.sx) ∧ W.cell? ⟨w.heap.size + 1, 3, none⟩ = some (.int .i64 l.sy) ∧ W.cell? ⟨w.heap.size + 1, 4, none⟩ = some (.slice l.wa l.wn l.wc) ∧ W.cell? ⟨w.heap.size + 1, 5, none⟩ = some (.slice l.ga l.gn l.gc) ∧ W.cell? ⟨w.heap.size + 1, 6, none⟩ = some (.int .i64 l.flx) ∧ W.cell? ⟨w.heap.size + 1, 7, none⟩ = some (.int .i64 l.fly) ∧ W.cell? ⟨w.heap.size + 1, 8, none⟩ = some (.int .i64 l.fhx) ∧ W.cell? ⟨w.heap.size + 1, 9, none⟩ = some (.int .i64 l.fhy) ∧ W.cell? ⟨w.heap.size + 1, 10, none⟩ = some (.int .i64 l.bans)) ∧ (W.cell? ⟨w.heap.size + 1 + 1, 0, none⟩ = some (.int .i64 M.tick) ∧ W.cell? ⟨w.heap.size + 1 + 1, 1, none⟩ = some (.int .i64 M.ax) ∧ W.cell? ⟨w.heap.size + 1 + 1, 2, none⟩ = some (.int .i64 M.ay) ∧ W.cell? ⟨w.heap.size + 1 + 1, 3, none⟩ = some (.int .i64 M.fx) ∧ W.cell? ⟨w.heap.size + 1 + 1, 4, none⟩ = some (.int .i64 M.fy) ∧ W.cell? ⟨w.heap.size + 1 + 1, 5, none⟩ = some (.int .i64 M.turn) ∧ W.cell? ⟨w.heap.size + 1 + 1, 6, none⟩ = some (.int .i64 M.gate) ∧ W.cell? ⟨w.heap.size + 1 + 1, 7, none⟩ = some (.bool M.done) ∧ W.cell? ⟨w.heap.size + 1 + 1, 8, none⟩ = some (.bool M.over))) ∧ BoxesAt W l.ga l.gn l.gf) (by kernel_rfl) ⟨⟨I12.L.c11, I12.S.c9⟩, hl12⟩ (fun hHeld => ?_)
      simp only [List.size_toArray, List.length_cons, List.length_nil, Nat.zero_add, Nat.reduceAdd]
      (refine wpAnyH_take (i := 0) (v := ?_) rfl (by kernel_rfl) (by kernel_rfl) (by kernel_rfl) (fun _ _ _ h => h) (Or.inl ⟨by rfl, ?_⟩) (by assumption) ?_; rotate_left; · (intro w hSw; (try dsimp only at hSw); go_simp; (try with_reducible rfl))); (try simp only [Act.put, List.setIfInBounds_toArray, List.set_cons_zero, List.set_cons_succ])
      (refine wpAnyH_take (i := 1) (v := ?_) rfl (by kernel_rfl) (by kernel_rfl) (by kernel_rfl) (fun _ _ _ h => h) (Or.inl ⟨by rfl, ?_⟩) (by assumption) ?_; rotate_left; · (intro w hSw; (try dsimp only at hSw); go_simp; (try with_reducible rfl))); (try simp only [Act.put, List.setIfInBounds_toArray, List.set_cons_zero, List.set_cons_succ])
      (refine wpAnyH_take (i := 2) (v := ?_) rfl (by kernel_rfl) (by kernel_rfl) (by kernel_rfl) (fun _ _ _ h => h) (Or.inl ⟨by rfl, ?_⟩) (by assumption) ?_; rotate_left; · (intro w hSw; (try dsimp only at hSw); go_simp; (try with_reducible rfl))); (try simp only [Act.put, List.setIfInBounds_toArray, List.set_cons_zero, List.set_cons_succ])
      (refine wpAnyH_take (i := 3) (v := ?_) rfl (by kernel_rfl) (by kernel_rfl) (by kernel_rfl) (fun _ _ _ h => h) (Or.inl ⟨by rfl, ?_⟩) (by assumption) ?_; rotate_left; · (intro w hSw; (try dsimp only at hSw); go_simp; (try with_reducible rfl))); (try simp only [Act.put, List.setIfInBounds_toArray, List.set_cons_zero, List.set_cons_succ])
      (refine wpAnyH_take (i := 4) (v := ?_) rfl (by kernel_rfl) (by kernel_rfl) (by kernel_rfl) (fun _ _ _ h => h) (Or.inl ⟨by rfl, ?_⟩) (by assumption) ?_; rotate_left; · (intro w hSw; (try dsimp only at hSw); go_simp; (try with_reducible rfl))); (try simp only [Act.put, List.setIfInBounds_toArray, List.set_cons_zero, List.set_cons_succ])
      (refine wpAnyH_take (i := 5) (v := ?_) rfl (by kernel_rfl) (by kernel_rfl) (by kernel_rfl) (fun _ _ _ h => h) (Or.inl ⟨by rfl, ?_⟩) (by assumption) ?_; rotate_left; · (intro w hSw; (try dsimp only at hSw); go_simp; (try with_reducible rfl))); (try simp only [Act.put, List.setIfInBounds_toArray, List.set_cons_zero, List.set_cons_succ])
      (refine wpAnyH_take (i := 6) (v := ?_) rfl (by kernel_rfl) (by kernel_rfl) (by kernel_rfl) (fun _ _ _ h => h) (Or.inl ⟨by rfl, ?_⟩) (by assumption) ?_; rotate_left; · (intro w hSw; (try dsimp only at hSw); go_simp; (try with_reducible rfl))); (try simp only [Act.put, List.setIfInBounds_toArray, List.set_cons_zero, List.set_cons_succ])
      try simp only [hgd]
      refine wpAnyH_take (i := 7) (v := undef) rfl (by kernel_rfl) (by kernel_rfl) (by kernel_rfl) (fun _ _ _ h => h) (Or.inr ⟨by kernel_rfl, rfl⟩) (by assumption) ?_; (try simp only [Act.put, List.setIfInBounds_toArray, List.set_cons_zero, List.set_cons_succ])
      refine wpAnyH_take (i := 8) (v := undef) rfl (by kernel_rfl) (by kernel_rfl) (by kernel_rfl) (fun _ _ _ h => h) (Or.inr ⟨by kernel_rfl, rfl⟩) (by assumption) ?_; (try simp only [Act.put, List.setIfInBounds_toArray, List.set_cons_zero, List.set_cons_succ])
      refine wpAnyH_take (i := 9) (v := undef) rfl (by kernel_rfl) (by kernel_rfl) (by kernel_rfl) (fun _ _ _ h => h) (Or.inr ⟨by kernel_rfl, rfl⟩) (by assumption) ?_; (try simp only [Act.put, List.setIfInBounds_toArray, List.set_cons_zero, List.set_cons_succ])
      refine wpAnyH_take (i := 10) (v := undef) rfl (by kernel_rfl) (by kernel_rfl) (by kernel_rfl) (fun _ _ _ h => h) (Or.inr ⟨by kernel_rfl, rfl⟩) (by assumption) ?_; (try simp only [Act.put, List.setIfInBounds_toArray, List.set_cons_zero, List.set_cons_succ])
      refine wpAnyH_take (i := 11) (v := undef) rfl (by kernel_rfl) (by kernel_rfl) (by kernel_rfl) (fun _ _ _ h => h) (Or.inr ⟨by kernel_rfl, rfl⟩) (by assumption) ?_; (try simp only [Act.put, List.setIfInBounds_toArray, List.set_cons_zero, List.set_cons_succ])
      refine wpAnyH_take (i := 12) (v := undef) rfl (by kernel_rfl) (by kernel_rfl) (by kernel_rfl) (fun _ _ _ h => h) (Or.inr ⟨by kernel_rfl, rfl⟩) (by assumption) ?_; (try simp only [Act.put, List.setIfInBounds_toArray, List.set_cons_zero, List.set_cons_succ])
      refine wpAnyH_take (i := 13) (v := undef) rfl (by kernel_rfl) (by kernel_rfl) (by kernel_rfl) (fun _ _ _ h => h) (Or.inr ⟨by kernel_rfl, rfl⟩) (by assumption) ?_; (try simp only [Act.put, List.setIfInBounds_toArray, List.set_cons_zero, List.set_cons_succ])
      refine wpAnyH_take (i := 14) (v := undef) rfl (by kernel_rfl) (by kernel_rfl) (by kernel_rfl) (fun _ _ _ h => h) (Or.inr ⟨by kernel_rfl, rfl⟩) (by assumption) ?_; (try simp only [Act.put, List.setIfInBounds_toArray, List.set_cons_zero, List.set_cons_succ])
      refine wpAnyH_take (i := 15) (v := undef) rfl (by kernel_rfl) (by kernel_rfl) (by kernel_rfl) (fun _ _ _ h => h) (Or.inr ⟨by kernel_rfl, rfl⟩) (by assumption) ?_; (try simp only [Act.put, List.setIfInBounds_toArray, List.set_cons_zero, List.set_cons_succ])
      refine wpAnyH_ready (rs := [16]) (by kernel_rfl) (by simp) ?_; refine AllReadyH.cons rfl (fun K hK => ?_) AllReadyH.nil; (try simp only [List.getElem_toArray, List.getElem_cons_succ, List.getElem_cons_zero])
      go_simp
      refine hK.out _ _ (⟨⟨I12.L.c11, I12.S.c9⟩, hl12⟩) (fun hHeld => ?_); clear hK K; (try simp only [Act.put, List.setIfInBounds_toArray, List.set_cons_zero, List.set_cons_succ])
      refine wpAnyH_done (by kernel_rfl) ?_ _
      clear hHeld I11
      generalize w11.drew = w12 at *
      by_cases hd : M.gate = (l.gn : Int)
      · have hdb : (M.gate == ((l.gn : Nat) : Int)) = true := by simpa using hd
        have hdh := Lib.hid hd
        clear hd
        (try clear c0 c1 c2 c3 c4 c5 c6 c7 c8 cf)
        obtain ⟨c0, c1, c2, c3, c4, c5, c6, c7, c8⟩ := I12.S.c9
        have cf := I12.S.frozen
        (try clear q0 q1 q2 q3 q4 q5 q6 q7 q8 q9 q10); obtain ⟨q0, q1, q2, q3, q4, q5, q6, q7, q8, q9, q10⟩ := I12.L.c11
        have hzS12 := I12.S.lt
        have hzL12 := I12.L.lt
        have hzZ12 := I12.Z.lt
        have hzO12 := I12.O.lt
        go_wp2_with fail
        refine (iHas l.flx l.fly l.fhx l.fhy M.ax M.ay _ hfx1 hfx2).mono ?_
        rintro e w20 ⟨rfl, hb20⟩
        have I20 := I12.pass hb20
        obtain ⟨D, hD⟩ : ∃ D, D = hasB l.flx l.fly l.fhx l.fhy M.ax M.ay := ⟨_, rfl⟩
        rw [← hD]
        have hDh := Lib.hid (show doneF l M = D by unfold doneF; rw [hGh.out, decide_eq_true hdh.out, hD]; rfl)
        clear hD hb20
        (try clear c0 c1 c2 c3 c4 c5 c6 c7 c8 cf)
        obtain ⟨c0, c1, c2, c3, c4, c5, c6, c7, c8⟩ := I20.S.c9
        have cf := I20.S.frozen
        (try clear q0 q1 q2 q3 q4 q5 q6 q7 q8 q9 q10); obtain ⟨q0, q1, q2, q3, q4, q5, q6, q7, q8, q9, q10⟩ := I20.L.c11
        have hzS20 := I20.S.lt
        have hzL20 := I20.L.lt
        have hzZ20 := I20.Z.lt
        have hzO20 := I20.O.lt
        have I21 : TI w l d p #[.int .i64 tick, .int .i64 ax, .int .i64 ay, .int .i64 fx, .int .i64 fy, .int .i64 turn, .int .i64 gate, .bool done, .bool over] #[.int .i64 M.tick, .int .i64 M.ax, .int .i64 M.ay, .int .i64 M.fx, .int .i64 M.fy, .int .i64 M.turn, .int .i64 M.gate, .bool D, .bool M.over] (w20.setCell ⟨w.heap.size + 1 + 1, 7, none⟩ (.bool D)) := I20.set 7 (.bool D)
        have hO := Lib.hid I21.S
        have hZ := Lib.hid I21.Z
        have hBB := Lib.hid I21.bel
        have hRR := Lib.hid (I21.Z.row #[.int .i64 M.tick, .int .i64 M.ax, .int .i64 M.ay, .int .i64 M.fx, .int .i64 M.fy, .int .i64 M.turn, .int .i64 M.gate, .bool D, .bool M.over])
        go_upto_region 20 with fail
        refine wp_copy (ty := 31) rfl hO.out Try.underlying31 rfl (by kernel_rfl) rfl rfl hZ.out rfl (by simp [Value.oneCell']) ?_
        rename_i K hK
        refine hK _ _ (wp_ret ?_)
        refine bodyPost_ret (res_row rfl rfl hRR.out Try.underlying31 rfl (by kernel_rfl)) rfl ?_
        exact ⟨by rw [drive_in (by rw [← hMh.out]; exact hvk.out), ← hMh.out]; simp only [hGh.out, hDh.out], Below.setRow hBB.out (by omega) _⟩
      · have hdb : (M.gate == ((l.gn : Nat) : Int)) = false := by simpa using hd
        have hDh := Lib.hid (show doneF l M = false by unfold doneF; rw [hGh.out, decide_eq_false hd]; rfl)
        clear hd
        (try clear c0 c1 c2 c3 c4 c5 c6 c7 c8 cf)
        obtain ⟨c0, c1, c2, c3, c4, c5, c6, c7, c8⟩ := I12.S.c9
        have cf := I12.S.frozen
        (try clear q0 q1 q2 q3 q4 q5 q6 q7 q8 q9 q10); obtain ⟨q0, q1, q2, q3, q4, q5, q6, q7, q8, q9, q10⟩ := I12.L.c11
        have hzS12 := I12.S.lt
        have hzL12 := I12.L.lt
        have hzZ12 := I12.Z.lt
        have hzO12 := I12.O.lt
        have I21 : TI w l d p #[.int .i64 tick, .int .i64 ax, .int .i64 ay, .int .i64 fx, .int .i64 fy, .int .i64 turn, .int .i64 gate, .bool done, .bool over] #[.int .i64 M.tick, .int .i64 M.ax, .int .i64 M.ay, .int .i64 M.fx, .int .i64 M.fy, .int .i64 M.turn, .int .i64 M.gate, .bool false, .bool M.over] (w12.setCell ⟨w.heap.size + 1 + 1, 7, none⟩ (.bool false)) := I12.set 7 (.bool false)
        have hO := Lib.hid I21.S
        have hZ := Lib.hid I21.Z
        have hBB := Lib.hid I21.bel
        have hRR := Lib.hid (I21.Z.row #[.int .i64 M.tick, .int .i64 M.ax, .int .i64 M.ay, .int .i64 M.fx, .int .i64 M.fy, .int .i64 M.turn, .int .i64 M.gate, .bool false, .bool M.over])
        go_upto_region 20 with fail
        refine wp_copy (ty := 31) rfl hO.out Try.underlying31 rfl (by kernel_rfl) rfl rfl hZ.out rfl (by simp [Value.oneCell']) ?_
        rename_i K hK
        refine hK _ _ (wp_ret ?_)
        refine bodyPost_ret (res_row rfl rfl hRR.out Try.underlying31 rfl (by kernel_rfl)) rfl ?_
        exact ⟨by rw [drive_in (by rw [← hMh.out]; exact hvk.out), ← hMh.out]; simp only [hGh.out, hDh.out], Below.setRow hBB.out (by omega) _⟩
end Go.Proofs.Ytnhjalijnociaaa

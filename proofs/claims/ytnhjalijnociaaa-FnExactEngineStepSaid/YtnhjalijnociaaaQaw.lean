/- A tick, by the reference: driving out of the range. -/
import Derived.Test.YtnhjalijnociaaaQav
/- A tick, by the reference: driving out of the range. -/
set_option linter.unusedVariables false
set_option linter.unusedSimpArgs false
namespace Go.Proofs.Ytnhjalijnociaaa
open Go.RowKit

/-- the drive's variables: the level, the old state, the input, the result, the new state -/
structure DI (w0 : World) (l : Lv) (s : St) (d p : Int) (b : Bool) (o : Array Value) (w : World) : Prop where
  L : Blk w w0.heap.size #[.int .i64 l.id, .int .i64 l.ticks, .int .i64 l.sx, .int .i64 l.sy, .slice l.wa l.wn l.wc, .slice l.ga l.gn l.gc, .int .i64 l.flx, .int .i64 l.fly, .int .i64 l.fhx, .int .i64 l.fhy, .int .i64 l.bans]
  S : Blk w (w0.heap.size + 1) #[.int .i64 s.tick, .int .i64 s.ax, .int .i64 s.ay, .int .i64 s.fx, .int .i64 s.fy, .int .i64 s.turn, .int .i64 s.gate, .bool s.done, .bool s.over]
  X : Blk w (w0.heap.size + 1 + 1) #[.int .i64 d, .int .i64 p, .bool b]
  Z : Blk w (w0.heap.size + 1 + 1 + 1) #[.int .i64 0, .int .i64 0, .int .i64 0, .int .i64 0, .int .i64 0, .int .i64 0, .int .i64 0, .bool false, .bool false]
  O : Blk w (w0.heap.size + 1 + 1 + 1 + 1) o
  bel : Below w0.heap.size w0 w
section
variable {w0 w w' : World} {l : Lv} {s : St} {d p : Int} {b : Bool} {o : Array Value}
theorem DI.pass (h : DI w0 l s d p b o w) (hb : Below w.heap.size w w') : DI w0 l s d p b o w' := ⟨h.L.below hb h.L.lt, h.S.below hb h.S.lt, h.X.below hb h.X.lt, h.Z.below hb h.Z.lt, h.O.below hb h.O.lt, h.bel.trans (hb.mono h.bel.size)⟩
theorem DI.drew (h : DI w0 l s d p b o w) : DI w0 l s d p b o w.drew := ⟨h.L, h.S, h.X, h.Z, h.O, h.bel.drew⟩
theorem DI.row (h : DI w0 l s d p b o w) (c : Array Value) : DI w0 l s d p b c (w.setRow (w0.heap.size + 1 + 1 + 1 + 1) c) := ⟨h.L.rowOther (by omega) _, h.S.rowOther (by omega) _, h.X.rowOther (by omega) _, h.Z.rowOther (by omega) _, h.O.row c, Below.setRow h.bel (by omega) _⟩
theorem DI.set (h : DI w0 l s d p b o w) (i : Nat) (v : Value) : DI w0 l s d p b (o.setIfInBounds i v) (w.setCell ⟨w0.heap.size + 1 + 1 + 1 + 1, i, none⟩ v) := ⟨h.L.other (by simp only; omega) _, h.S.other (by simp only; omega) _, h.X.other (by simp only; omega) _, h.Z.other (by simp only; omega) _, h.O.set i v, h.bel.setCell (p := ⟨w0.heap.size + 1 + 1 + 1 + 1, i, none⟩) (by simp only; omega) _⟩
end
set_option maxRecDepth 100000 in
set_option maxHeartbeats 4000000 in
theorem sDrive_out (l : Lv) (s : St) (d p : Int) (b : Bool) (w : World) (hn : l.wn ≤ 1099511627776) (hl : LvAt w l) (hv : bxsB l.wf l.wn = true) (ha : vokB s.ax s.ay = true) (h : len s.fx s.fy ≤ 2000) (t0 : 0 ≤ s.turn) (t1 : s.turn ≤ 15) (g0 : 0 ≤ s.gate) (g1 : s.gate ≤ 1000) (d0 : -16 ≤ d) (d1 : d ≤ 1000) (hvk : vokB (movedF l s d p).ax (movedF l s d p).ay = false) : Calls Try.prog 106 #[.agg #[.int .i64 l.id, .int .i64 l.ticks, .int .i64 l.sx, .int .i64 l.sy, .slice l.wa l.wn l.wc, .slice l.ga l.gn l.gc, .int .i64 l.flx, .int .i64 l.fly, .int .i64 l.fhx, .int .i64 l.fhy, .int .i64 l.bans], .agg #[.int .i64 s.tick, .int .i64 s.ax, .int .i64 s.ay, .int .i64 s.fx, .int .i64 s.fy, .int .i64 s.turn, .int .i64 s.gate, .bool s.done, .bool s.over], .agg #[.int .i64 d, .int .i64 p, .bool b]] w fun e w' => e = .returned (.agg #[.int .i64 (driveF l s d p).tick, .int .i64 (driveF l s d p).ax, .int .i64 (driveF l s d p).ay, .int .i64 (driveF l s d p).fx, .int .i64 (driveF l s d p).fy, .int .i64 (driveF l s d p).turn, .int .i64 (driveF l s d p).gate, .bool (driveF l s d p).done, .bool (driveF l s d p).over]) ∧ Below w.heap.size w w' := by
  obtain ⟨u0, u1⟩ := turn_bd s d
  have hF := fast_len (turnF s d) p h
  have hT : (s.turn + d + 16) % 16 = turnF s d := rfl
  go_enter Try.func106, Try.ntmps106
  go_wp2_with fail
  refine (sFast s (turnF s d) p _ h u0 u1).mono ?_
  rintro e w1 ⟨rfl, hb1⟩
  have I1 : DI w l s d p b #[.int .i64 s.tick, .int .i64 s.ax, .int .i64 s.ay, .int .i64 s.fx, .int .i64 s.fy, .int .i64 (turnF s d), .int .i64 s.gate, .bool s.done, .bool s.over] w1 := DI.pass (w := ((((w.alloc (.cells #[.int .i64 l.id, .int .i64 l.ticks, .int .i64 l.sx, .int .i64 l.sy, .slice l.wa l.wn l.wc, .slice l.ga l.gn l.gc, .int .i64 l.flx, .int .i64 l.fly, .int .i64 l.fhx, .int .i64 l.fhy, .int .i64 l.bans] 29)).alloc (.cells #[.int .i64 s.tick, .int .i64 s.ax, .int .i64 s.ay, .int .i64 s.fx, .int .i64 s.fy, .int .i64 s.turn, .int .i64 s.gate, .bool s.done, .bool s.over] 31)).alloc (.cells #[.int .i64 d, .int .i64 p, .bool b] 33)).alloc (.cells #[.int .i64 0, .int .i64 0, .int .i64 0, .int .i64 0, .int .i64 0, .int .i64 0, .int .i64 0, .bool false, .bool false] 31)).alloc (.cells #[.int .i64 s.tick, .int .i64 s.ax, .int .i64 s.ay, .int .i64 s.fx, .int .i64 s.fy, .int .i64 (turnF s d), .int .i64 s.gate, .bool s.done, .bool s.over] 31)) ⟨((((Blk.at rfl).alloc _).alloc _).alloc _).alloc _, (((Blk.at (by simp)).alloc _).alloc _).alloc _, ((Blk.at (by simp)).alloc _).alloc _, (Blk.at (by simp)).alloc _, Blk.at (by simp), by (repeat (first | with_reducible assumption | with_reducible exact Below.refl _ _ | ((with_reducible refine Below.alloc ?_ ?_ _); rotate_left; · exact (by first | omega | (simp; done) | (simp; omega))) | ((with_reducible refine Below.setCell ?_ ?_ _); rotate_left; · exact (by first | omega | (simp; done) | (simp; omega))) | with_reducible refine Below.drew ?_ | assumption | exact Below.refl _ _ | refine Below.alloc ?_ (by first | omega | (simp; done) | (simp; omega)) _ | refine Below.setCell ?_ (by first | omega | (simp; done) | (simp; omega)) _ | refine Below.drew ?_))⟩ hb1
  obtain ⟨FX, hFX⟩ : ∃ FX, FX = fastX s (turnF s d) p := ⟨_, rfl⟩
  obtain ⟨FY, hFY⟩ : ∃ FY, FY = fastY s (turnF s d) p := ⟨_, rfl⟩
  obtain ⟨T, hTT⟩ : ∃ T, T = turnF s d := ⟨_, rfl⟩
  rw [← hFX, ← hFY] at hF
  rw [← hFX, ← hFY]
  rw [← hTT] at I1 ⊢
  obtain ⟨M, hM⟩ : ∃ M, M = movedF l s d p := ⟨_, rfl⟩
  have hMM : moveY l (moveX l ⟨s.tick, s.ax, s.ay, FX, FY, T, s.gate, s.done, s.over⟩) = M := by rw [hM, hFX, hFY, hTT]; rfl
  obtain ⟨_, _, m3, _, _⟩ := moved_same l s d p
  have hMh := Lib.hid hM
  have mg0 : 0 ≤ M.gate := by rw [hM, m3]; exact g0
  have mg1 : M.gate ≤ 1000 := by rw [hM, m3]; exact g1
  rw [← hM] at hvk
  clear hFX hFY hTT hT hb1 hM m3
  (try clear c0 c1 c2 c3 c4 c5 c6 c7 c8 of)
  obtain ⟨c0, c1, c2, c3, c4, c5, c6, c7, c8⟩ := I1.O.c9
  (try clear q0 q1 q2 q3 q4 q5 q6 q7 q8 q9 q10); obtain ⟨q0, q1, q2, q3, q4, q5, q6, q7, q8, q9, q10⟩ := I1.L.c11
  have of := I1.O.frozen
  have hzO1 := I1.O.lt
  have hzL1 := I1.L.lt
  have hzS1 := I1.S.lt
  have hzZ1 := I1.Z.lt
  have I2 : DI w l s d p b #[.int .i64 s.tick, .int .i64 s.ax, .int .i64 s.ay, .int .i64 FX, .int .i64 FY, .int .i64 T, .int .i64 s.gate, .bool s.done, .bool s.over] ((w1.setCell ⟨w.heap.size + 1 + 1 + 1 + 1, 3, none⟩ (.int .i64 FX)).setCell ⟨w.heap.size + 1 + 1 + 1 + 1, 4, none⟩ (.int .i64 FY)) := (I1.set 3 (.int .i64 FX)).set 4 (.int .i64 FY)
  go_wp2_with fail
  refine (sMove l ⟨s.tick, s.ax, s.ay, FX, FY, T, s.gate, s.done, s.over⟩ _ hn (hl.1.keep I2.bel) hv ha hF).mono ?_
  rw [hMM]
  rintro e w2 ⟨rfl, hb2⟩
  have I2' := I2.pass hb2
  have I3 := I2'.row #[.int .i64 M.tick, .int .i64 M.ax, .int .i64 M.ay, .int .i64 M.fx, .int .i64 M.fy, .int .i64 M.turn, .int .i64 M.gate, .bool M.done, .bool M.over]
  clear c0 c1 c2 c3 c4 c5 c6 c7 c8 of q0 q1 q2 q3 q4 q5 q6 q7 q8 q9 q10 hMM hb2 I1 I2
  rename_i K hK
  refine hK _ _ ?_
  refine st_row rfl rfl I2'.O (by kernel_rfl) rfl (by simp [Value.oneCell']) ?_
  refine wpList_nil ?_
  clear I2' hK K
  generalize w2.setRow (w.heap.size + 1 + 1 + 1 + 1) #[.int .i64 M.tick, .int .i64 M.ax, .int .i64 M.ay, .int .i64 M.fx, .int .i64 M.fy, .int .i64 M.turn, .int .i64 M.gate, .bool M.done, .bool M.over] = w3 at *
  (try clear c0 c1 c2 c3 c4 c5 c6 c7 c8 of)
  obtain ⟨c0, c1, c2, c3, c4, c5, c6, c7, c8⟩ := I3.O.c9
  (try clear q0 q1 q2 q3 q4 q5 q6 q7 q8 q9 q10); obtain ⟨q0, q1, q2, q3, q4, q5, q6, q7, q8, q9, q10⟩ := I3.L.c11
  have of := I3.O.frozen
  have hzO3 := I3.O.lt
  have hzL3 := I3.L.lt
  have hzS3 := I3.S.lt
  have hzZ3 := I3.Z.lt
  go_wp2_with fail
  refine (sVecOk M.ax M.ay _).mono ?_
  rintro e w4 ⟨rfl, hb4⟩
  have I4 := I3.pass hb4
  clear hb4
  rw [hvk]
  have hOut : driveF l s d p = { s with over := true } := drive_out (by rw [← hMh.out]; exact hvk)
  have hOh := Lib.hid hOut
  clear hvk hOut
  (try clear c0 c1 c2 c3 c4 c5 c6 c7 c8 of)
  obtain ⟨c0, c1, c2, c3, c4, c5, c6, c7, c8⟩ := I4.O.c9
  (try clear q0 q1 q2 q3 q4 q5 q6 q7 q8 q9 q10); obtain ⟨q0, q1, q2, q3, q4, q5, q6, q7, q8, q9, q10⟩ := I4.L.c11
  have of := I4.O.frozen
  have hzO4 := I4.O.lt
  have hzL4 := I4.L.lt
  have hzS4 := I4.S.lt
  have hzZ4 := I4.Z.lt
  obtain ⟨x0, x1, x2, x3, x4, x5, x6, x7, x8⟩ := I4.S.c9
  have xf := I4.S.frozen
  have hS := Lib.hid (I4.S.s9_8 (.bool true))
  have hZ := Lib.hid (I4.Z.other (p := ⟨w.heap.size + 1, 8, none⟩) (by simp only; omega) (.bool true))
  have hBB := Lib.hid (I4.bel.setCell (p := ⟨w.heap.size + 1, 8, none⟩) (by simp only; omega) (.bool true))
  have hRR := Lib.hid (hZ.out.row #[.int .i64 s.tick, .int .i64 s.ax, .int .i64 s.ay, .int .i64 s.fx, .int .i64 s.fy, .int .i64 s.turn, .int .i64 s.gate, .bool s.done, .bool true])
  go_upto_region 7 with fail
  refine wp_copy (ty := 31) rfl hS.out Try.underlying31 rfl (by kernel_rfl) rfl rfl hZ.out rfl (by simp [Value.oneCell']) ?_
  rename_i K hK
  refine hK _ _ (wp_ret ?_)
  simp only [Exit.then]
  show bodyPost _ _ _ _ _ _
  refine bodyPost_ret (res_row rfl rfl hRR.out Try.underlying31 rfl (by kernel_rfl)) rfl ?_
  exact ⟨by rw [hOh.out], Below.setRow hBB.out (by omega) _⟩
end Go.Proofs.Ytnhjalijnociaaa

/- Driving, no gate ahead. -/
set_option linter.unusedVariables false
set_option linter.unusedSimpArgs false
namespace Go.Proofs.Ytnhjalijnociaaa
open Go.RowKit

set_option maxRecDepth 100000 in
set_option maxHeartbeats 4000000 in
theorem sDrive_nog (l : Lv) (s : St) (d p : Int) (b : Bool) (w : World) (hn : l.wn ≤ 1099511627776) (hl : LvAt w l) (hv : bxsB l.wf l.wn = true) (ha : vokB s.ax s.ay = true) (h : len s.fx s.fy ≤ 2000) (t0 : 0 ≤ s.turn) (t1 : s.turn ≤ 15) (g0 : 0 ≤ s.gate) (g1 : s.gate ≤ 1000) (d0 : -16 ≤ d) (d1 : d ≤ 1000) (hvk : vokB (movedF l s d p).ax (movedF l s d p).ay = true) (hg : ¬ (movedF l s d p).gate < (l.gn : Int)) : Calls Try.prog 106 #[.agg #[.int .i64 l.id, .int .i64 l.ticks, .int .i64 l.sx, .int .i64 l.sy, .slice l.wa l.wn l.wc, .slice l.ga l.gn l.gc, .int .i64 l.flx, .int .i64 l.fly, .int .i64 l.fhx, .int .i64 l.fhy, .int .i64 l.bans], .agg #[.int .i64 s.tick, .int .i64 s.ax, .int .i64 s.ay, .int .i64 s.fx, .int .i64 s.fy, .int .i64 s.turn, .int .i64 s.gate, .bool s.done, .bool s.over], .agg #[.int .i64 d, .int .i64 p, .bool b]] w fun e w' => e = .returned (.agg #[.int .i64 (driveF l s d p).tick, .int .i64 (driveF l s d p).ax, .int .i64 (driveF l s d p).ay, .int .i64 (driveF l s d p).fx, .int .i64 (driveF l s d p).fy, .int .i64 (driveF l s d p).turn, .int .i64 (driveF l s d p).gate, .bool (driveF l s d p).done, .bool (driveF l s d p).over]) ∧ Below w.heap.size w w' := by
  obtain ⟨u0, u1⟩ := turn_bd s d
  have hF := fast_len (turnF s d) p h
  have hT : (s.turn + d + 16) % 16 = turnF s d := rfl
  go_enter Try.func106, Try.ntmps106
  go_wp2_with fail
  refine (sFast s (turnF s d) p _ h u0 u1).mono ?_
  rintro e w1 ⟨rfl, hb1⟩
  have I1 : DI w l s d p b #[.int .i64 s.tick, .int .i64 s.ax, .int .i64 s.ay, .int .i64 s.fx, .int .i64 s.fy, .int .i64 (turnF s d), .int .i64 s.gate, .bool s.done, .bool s.over] w1 := DI.pass (w := ((((w.alloc (.cells #[.int .i64 l.id, .int .i64 l.ticks, .int .i64 l.sx, .int .i64 l.sy, .slice l.wa l.wn l.wc, .slice l.ga l.gn l.gc, .int .i64 l.flx, .int .i64 l.fly, .int .i64 l.fhx, .int .i64 l.fhy, .int .i64 l.bans] 29)).alloc (.cells #[.int .i64 s.tick, .int .i64 s.ax, .int .i64 s.ay, .int .i64 s.fx, .int .i64 s.fy, .int .i64 s.turn, .int .i64 s.gate, .bool s.done, .bool s.over] 31)).alloc (.cells #[.int .i64 d, .int .i64 p, .bool b] 33)).alloc (.cells #[.int .i64 0, .int .i64 0, .int .i64 0, .int .i64 0, .int .i64 0, .int .i64 0, .int .i64 0, .bool false, .bool false] 31)).alloc (.cells #[.int .i64 s.tick, .int .i64 s.ax, .int .i64 s.ay, .int .i64 s.fx, .int .i64 s.fy, .int .i64 (turnF s d), .int .i64 s.gate, .bool s.done, .bool s.over] 31)) ⟨((((Blk.at rfl).alloc _).alloc _).alloc _).alloc _, (((Blk.at (by simp)).alloc _).alloc _).alloc _, ((Blk.at (by simp)).alloc _).alloc _, (Blk.at (by simp)).alloc _, Blk.at (by simp), by (repeat (first | with_reducible assumption | with_reducible exact Below.refl _ _ | ((with_reducible refine Below.alloc ?_ ?_ _); rotate_left; · exact (by first | omega | (simp; done) | (simp; omega))) | ((with_reducible refine Below.setCell ?_ ?_ _); rotate_left; · exact (by first | omega | (simp; done) | (simp; omega))) | with_reducible refine Below.drew ?_ | assumption | exact Below.refl _ _ | refine Below.alloc ?_ (by first | omega | (simp; done) | (simp; omega)) _ | refine Below.setCell ?_ (by first | omega | (simp; done) | (simp; omega)) _ | refine Below.drew ?_))⟩ hb1
  obtain ⟨FX, hFX⟩ : ∃ FX, FX = fastX s (turnF s d) p := ⟨_, rfl⟩
  obtain ⟨FY, hFY⟩ : ∃ FY, FY = fastY s (turnF s d) p := ⟨_, rfl⟩
  obtain ⟨T, hTT⟩ : ∃ T, T = turnF s d := ⟨_, rfl⟩
  rw [← hFX, ← hFY] at hF
  rw [← hFX, ← hFY]
  rw [← hTT] at I1 ⊢
  obtain ⟨M, hM⟩ : ∃ M, M = movedF l s d p := ⟨_, rfl⟩
  have hMM : moveY l (moveX l ⟨s.tick, s.ax, s.ay, FX, FY, T, s.gate, s.done, s.over⟩) = M := by rw [hM, hFX, hFY, hTT]; rfl
  obtain ⟨_, _, m3, _, _⟩ := moved_same l s d p
  have hMh := Lib.hid hM
  have mg0 : 0 ≤ M.gate := by rw [hM, m3]; exact g0
  have mg1 : M.gate ≤ 1000 := by rw [hM, m3]; exact g1
  rw [← hM] at hvk
  rw [← hM] at hg
  clear hFX hFY hTT hT hb1 hM m3
  (try clear c0 c1 c2 c3 c4 c5 c6 c7 c8 of)
  obtain ⟨c0, c1, c2, c3, c4, c5, c6, c7, c8⟩ := I1.O.c9
  (try clear q0 q1 q2 q3 q4 q5 q6 q7 q8 q9 q10); obtain ⟨q0, q1, q2, q3, q4, q5, q6, q7, q8, q9, q10⟩ := I1.L.c11
  have of := I1.O.frozen
  have hzO1 := I1.O.lt
  have hzL1 := I1.L.lt
  have hzS1 := I1.S.lt
  have hzZ1 := I1.Z.lt
  have I2 : DI w l s d p b #[.int .i64 s.tick, .int .i64 s.ax, .int .i64 s.ay, .int .i64 FX, .int .i64 FY, .int .i64 T, .int .i64 s.gate, .bool s.done, .bool s.over] ((w1.setCell ⟨w.heap.size + 1 + 1 + 1 + 1, 3, none⟩ (.int .i64 FX)).setCell ⟨w.heap.size + 1 + 1 + 1 + 1, 4, none⟩ (.int .i64 FY)) := (I1.set 3 (.int .i64 FX)).set 4 (.int .i64 FY)
  go_wp2_with fail
  refine (sMove l ⟨s.tick, s.ax, s.ay, FX, FY, T, s.gate, s.done, s.over⟩ _ hn (hl.1.keep I2.bel) hv ha hF).mono ?_
  rw [hMM]
  rintro e w2 ⟨rfl, hb2⟩
  have I2' := I2.pass hb2
  have I3 := I2'.row #[.int .i64 M.tick, .int .i64 M.ax, .int .i64 M.ay, .int .i64 M.fx, .int .i64 M.fy, .int .i64 M.turn, .int .i64 M.gate, .bool M.done, .bool M.over]
  clear c0 c1 c2 c3 c4 c5 c6 c7 c8 of q0 q1 q2 q3 q4 q5 q6 q7 q8 q9 q10 hMM hb2 I1 I2
  rename_i K hK
  refine hK _ _ ?_
  refine st_row rfl rfl I2'.O (by kernel_rfl) rfl (by simp [Value.oneCell']) ?_
  refine wpList_nil ?_
  clear I2' hK K
  generalize w2.setRow (w.heap.size + 1 + 1 + 1 + 1) #[.int .i64 M.tick, .int .i64 M.ax, .int .i64 M.ay, .int .i64 M.fx, .int .i64 M.fy, .int .i64 M.turn, .int .i64 M.gate, .bool M.done, .bool M.over] = w3 at *
  (try clear c0 c1 c2 c3 c4 c5 c6 c7 c8 of)
  obtain ⟨c0, c1, c2, c3, c4, c5, c6, c7, c8⟩ := I3.O.c9
  (try clear q0 q1 q2 q3 q4 q5 q6 q7 q8 q9 q10); obtain ⟨q0, q1, q2, q3, q4, q5, q6, q7, q8, q9, q10⟩ := I3.L.c11
  have of := I3.O.frozen
  have hzO3 := I3.O.lt
  have hzL3 := I3.L.lt
  have hzS3 := I3.S.lt
  have hzZ3 := I3.Z.lt
  go_wp2_with fail
  refine (sVecOk M.ax M.ay _).mono ?_
  rintro e w4 ⟨rfl, hb4⟩
  have I4 := I3.pass hb4
  clear hb4
  rw [hvk]
  have hvk := Lib.hid hvk
  have hgd : decide (M.gate < (l.gn : Int)) = false := decide_eq_false (by omega)
  have hGh := Lib.hid (show gateF l M = M.gate by unfold gateF; rw [hgd, Bool.false_and]; rfl)
  (try clear c0 c1 c2 c3 c4 c5 c6 c7 c8 of)
  obtain ⟨c0, c1, c2, c3, c4, c5, c6, c7, c8⟩ := I4.O.c9
  (try clear q0 q1 q2 q3 q4 q5 q6 q7 q8 q9 q10); obtain ⟨q0, q1, q2, q3, q4, q5, q6, q7, q8, q9, q10⟩ := I4.L.c11
  have of := I4.O.frozen
  have hzO4 := I4.O.lt
  have hzL4 := I4.L.lt
  have hzS4 := I4.S.lt
  have hzZ4 := I4.Z.lt
  go_wp2_with fail
  have I5 := I4.drew
  have hl5 : BoxesAt w4.drew l.ga l.gn l.gf := hl.2.keep I5.bel
  refine wp_region_held_drew (S := fun W => ((W.cell? ⟨w.heap.size, 0, none⟩ = some (.int .i64 l.id) ∧ W.cell? ⟨w.heap.size, 1, none⟩ = some (.int .i64 l.ticks) ∧ W.cell? ⟨w.heap.size, 2, none⟩ = some (.int .i64 l.sx) ∧ W.cell? ⟨w.heap.size, 3, none⟩ = some (.int .i64 l.sy) ∧ W.cell? ⟨w.heap.size, 4, none⟩ = some (.slice l.wa l.wn l.wc) ∧ W.cell? ⟨w.heap.size, 5, none⟩ = some (.slice l.ga l.gn l.gc) ∧ W.cell? ⟨w.heap.size, 6, none⟩ = some (.int .i64 l.flx) ∧ W.cell? ⟨w.heap.size, 7, none⟩ = some (.int .i64 l.fly) ∧ W.cell? ⟨w.heap.size, 8, none⟩ = some (.int .i64 l.fhx) ∧ W.cell? ⟨w.heap.size, 9, none⟩ = some (.int .i64 l.fhy) ∧ W.cell? ⟨w.heap.size, 10, none⟩ = some (.int .i64 l.bans)) ∧ (W.cell? ⟨w.heap.size + 1 + 1 + 1 + 1, 0, none⟩ = some (.int .i64 M.tick) ∧ W.cell? ⟨w.heap.size + 1 + 1 + 1 + 1, 1, none⟩ = some (.int .i64 M.ax) ∧ W.cell? ⟨w.heap.size + 1 + 1 + 1 + 1, 2, none⟩ = some (.int .i64 M.ay) ∧ W.cell? ⟨w.heap.size + 1 + 1 + 1 + 1, 3, none⟩ = some (.int .i64 M.fx) ∧ W.cell? ⟨w.heap.size + 1 + 1 + 1 + 1, 4, none⟩ = some (.int .i64 M.fy) ∧ W.cell? ⟨w.heap.size + 1 + 1 + 1 + 1, 5, none⟩ = some (.int .i64 M.turn) ∧ W.cell? ⟨w.heap.size + 1 + 1 + 1 + 1, 6, none⟩ = some (.int .i64 M.gate) ∧ W.cell? ⟨w.heap.size + 1 + 1 + 1 + 1, 7, none⟩ = some (.bool M.done) ∧ W.cell? ⟨w.heap.size + 1 + 1 + 1 + 1, 8, none⟩ = some (.bool M.over))) ∧ BoxesAt W l.ga l.gn l.gf) (by kernel_rfl) ⟨⟨I5.L.c11, I5.O.c9⟩, hl5⟩ (fun hHeld => ?_)
  simp only [List.size_toArray, List.length_cons, List.length_nil, Nat.zero_add, Nat.reduceAdd]
  (refine wpAnyH_take (i := 0) (v := ?_) rfl (by kernel_rfl) (by kernel_rfl) (by kernel_rfl) (fun _ _ _ h => h) (Or.inl ⟨by rfl, ?_⟩) (by assumption) ?_; rotate_left; · (intro w hSw; (try dsimp only at hSw); go_simp; (try with_reducible rfl))); (try simp only [Act.put, List.setIfInBounds_toArray, List.set_cons_zero, List.set_cons_succ])
  (refine wpAnyH_take (i := 1) (v := ?_) rfl (by kernel_rfl) (by kernel_rfl) (by kernel_rfl) (fun _ _ _ h => h) (Or.inl ⟨by rfl, ?_⟩) (by assumption) ?_; rotate_left; · (intro w hSw; (try dsimp only at hSw); go_simp; (try with_reducible rfl))); (try simp only [Act.put, List.setIfInBounds_toArray, List.set_cons_zero, List.set_cons_succ])
  (refine wpAnyH_take (i := 2) (v := ?_) rfl (by kernel_rfl) (by kernel_rfl) (by kernel_rfl) (fun _ _ _ h => h) (Or.inl ⟨by rfl, ?_⟩) (by assumption) ?_; rotate_left; · (intro w hSw; (try dsimp only at hSw); go_simp; (try with_reducible rfl))); (try simp only [Act.put, List.setIfInBounds_toArray, List.set_cons_zero, List.set_cons_succ])
  (refine wpAnyH_take (i := 3) (v := ?_) rfl (by kernel_rfl) (by kernel_rfl) (by kernel_rfl) (fun _ _ _ h => h) (Or.inl ⟨by rfl, ?_⟩) (by assumption) ?_; rotate_left; · (intro w hSw; (try dsimp only at hSw); go_simp; (try with_reducible rfl))); (try simp only [Act.put, List.setIfInBounds_toArray, List.set_cons_zero, List.set_cons_succ])
  (refine wpAnyH_take (i := 4) (v := ?_) rfl (by kernel_rfl) (by kernel_rfl) (by kernel_rfl) (fun _ _ _ h => h) (Or.inl ⟨by rfl, ?_⟩) (by assumption) ?_; rotate_left; · (intro w hSw; (try dsimp only at hSw); go_simp; (try with_reducible rfl))); (try simp only [Act.put, List.setIfInBounds_toArray, List.set_cons_zero, List.set_cons_succ])
  (refine wpAnyH_take (i := 5) (v := ?_) rfl (by kernel_rfl) (by kernel_rfl) (by kernel_rfl) (fun _ _ _ h => h) (Or.inl ⟨by rfl, ?_⟩) (by assumption) ?_; rotate_left; · (intro w hSw; (try dsimp only at hSw); go_simp; (try with_reducible rfl))); (try simp only [Act.put, List.setIfInBounds_toArray, List.set_cons_zero, List.set_cons_succ])
  (refine wpAnyH_take (i := 6) (v := ?_) rfl (by kernel_rfl) (by kernel_rfl) (by kernel_rfl) (fun _ _ _ h => h) (Or.inl ⟨by rfl, ?_⟩) (by assumption) ?_; rotate_left; · (intro w hSw; (try dsimp only at hSw); go_simp; (try with_reducible rfl))); (try simp only [Act.put, List.setIfInBounds_toArray, List.set_cons_zero, List.set_cons_succ])
  try simp only [hgd]
  refine wpAnyH_take (i := 7) (v := undef) rfl (by kernel_rfl) (by kernel_rfl) (by kernel_rfl) (fun _ _ _ h => h) (Or.inr ⟨by kernel_rfl, rfl⟩) (by assumption) ?_; (try simp only [Act.put, List.setIfInBounds_toArray, List.set_cons_zero, List.set_cons_succ])
  refine wpAnyH_take (i := 8) (v := undef) rfl (by kernel_rfl) (by kernel_rfl) (by kernel_rfl) (fun _ _ _ h => h) (Or.inr ⟨by kernel_rfl, rfl⟩) (by assumption) ?_; (try simp only [Act.put, List.setIfInBounds_toArray, List.set_cons_zero, List.set_cons_succ])
  refine wpAnyH_take (i := 9) (v := undef) rfl (by kernel_rfl) (by kernel_rfl) (by kernel_rfl) (fun _ _ _ h => h) (Or.inr ⟨by kernel_rfl, rfl⟩) (by assumption) ?_; (try simp only [Act.put, List.setIfInBounds_toArray, List.set_cons_zero, List.set_cons_succ])
  refine wpAnyH_take (i := 10) (v := undef) rfl (by kernel_rfl) (by kernel_rfl) (by kernel_rfl) (fun _ _ _ h => h) (Or.inr ⟨by kernel_rfl, rfl⟩) (by assumption) ?_; (try simp only [Act.put, List.setIfInBounds_toArray, List.set_cons_zero, List.set_cons_succ])
  refine wpAnyH_take (i := 11) (v := undef) rfl (by kernel_rfl) (by kernel_rfl) (by kernel_rfl) (fun _ _ _ h => h) (Or.inr ⟨by kernel_rfl, rfl⟩) (by assumption) ?_; (try simp only [Act.put, List.setIfInBounds_toArray, List.set_cons_zero, List.set_cons_succ])
  refine wpAnyH_take (i := 12) (v := undef) rfl (by kernel_rfl) (by kernel_rfl) (by kernel_rfl) (fun _ _ _ h => h) (Or.inr ⟨by kernel_rfl, rfl⟩) (by assumption) ?_; (try simp only [Act.put, List.setIfInBounds_toArray, List.set_cons_zero, List.set_cons_succ])
  refine wpAnyH_take (i := 13) (v := undef) rfl (by kernel_rfl) (by kernel_rfl) (by kernel_rfl) (fun _ _ _ h => h) (Or.inr ⟨by kernel_rfl, rfl⟩) (by assumption) ?_; (try simp only [Act.put, List.setIfInBounds_toArray, List.set_cons_zero, List.set_cons_succ])
  refine wpAnyH_take (i := 14) (v := undef) rfl (by kernel_rfl) (by kernel_rfl) (by kernel_rfl) (fun _ _ _ h => h) (Or.inr ⟨by kernel_rfl, rfl⟩) (by assumption) ?_; (try simp only [Act.put, List.setIfInBounds_toArray, List.set_cons_zero, List.set_cons_succ])
  refine wpAnyH_take (i := 15) (v := undef) rfl (by kernel_rfl) (by kernel_rfl) (by kernel_rfl) (fun _ _ _ h => h) (Or.inr ⟨by kernel_rfl, rfl⟩) (by assumption) ?_; (try simp only [Act.put, List.setIfInBounds_toArray, List.set_cons_zero, List.set_cons_succ])
  refine wpAnyH_ready (rs := [16]) (by kernel_rfl) (by simp) ?_; refine AllReadyH.cons rfl (fun K hK => ?_) AllReadyH.nil; (try simp only [List.getElem_toArray, List.getElem_cons_succ, List.getElem_cons_zero])
  go_simp
  refine hK.out _ _ (⟨⟨I5.L.c11, I5.O.c9⟩, hl5⟩) (fun hHeld => ?_); clear hK K; (try simp only [Act.put, List.setIfInBounds_toArray, List.set_cons_zero, List.set_cons_succ])
  refine wpAnyH_done (by kernel_rfl) ?_ _
  clear hHeld
  generalize w4.drew = w5 at *
  by_cases hd : M.gate = (l.gn : Int)
  · have hdb : (M.gate == ((l.gn : Nat) : Int)) = true := by simpa using hd
    have hdh := Lib.hid hd
    clear hd
    (try clear c0 c1 c2 c3 c4 c5 c6 c7 c8 of)
    obtain ⟨c0, c1, c2, c3, c4, c5, c6, c7, c8⟩ := I5.O.c9
    (try clear q0 q1 q2 q3 q4 q5 q6 q7 q8 q9 q10); obtain ⟨q0, q1, q2, q3, q4, q5, q6, q7, q8, q9, q10⟩ := I5.L.c11
    have of := I5.O.frozen
    have hzO5 := I5.O.lt
    have hzL5 := I5.L.lt
    have hzS5 := I5.S.lt
    have hzZ5 := I5.Z.lt
    go_wp2_with fail
    refine (sHas l.flx l.fly l.fhx l.fhy M.ax M.ay _).mono ?_
    rintro e w6 ⟨rfl, hb6⟩
    have I6 := I5.pass hb6
    obtain ⟨D, hD⟩ : ∃ D, D = hasB l.flx l.fly l.fhx l.fhy M.ax M.ay := ⟨_, rfl⟩
    rw [← hD]
    have hDh := Lib.hid (show doneF l M = D by unfold doneF; rw [hGh.out, decide_eq_true hdh.out, hD]; rfl)
    clear hD hb6
    (try clear c0 c1 c2 c3 c4 c5 c6 c7 c8 of)
    obtain ⟨c0, c1, c2, c3, c4, c5, c6, c7, c8⟩ := I6.O.c9
    (try clear q0 q1 q2 q3 q4 q5 q6 q7 q8 q9 q10); obtain ⟨q0, q1, q2, q3, q4, q5, q6, q7, q8, q9, q10⟩ := I6.L.c11
    have of := I6.O.frozen
    have hzO6 := I6.O.lt
    have hzL6 := I6.L.lt
    have hzS6 := I6.S.lt
    have hzZ6 := I6.Z.lt
    have I9 : DI w l s d p b #[.int .i64 M.tick, .int .i64 M.ax, .int .i64 M.ay, .int .i64 M.fx, .int .i64 M.fy, .int .i64 M.turn, .int .i64 M.gate, .bool D, .bool M.over] (w6.setCell ⟨w.heap.size + 1 + 1 + 1 + 1, 7, none⟩ (.bool D)) := I6.set 7 (.bool D)
    have hO := Lib.hid I9.O
    have hZ := Lib.hid I9.Z
    have hBB := Lib.hid I9.bel
    have hRR := Lib.hid (I9.Z.row #[.int .i64 M.tick, .int .i64 M.ax, .int .i64 M.ay, .int .i64 M.fx, .int .i64 M.fy, .int .i64 M.turn, .int .i64 M.gate, .bool D, .bool M.over])
    go_upto_region 11 with fail
    refine wp_copy (ty := 31) rfl hO.out Try.underlying31 rfl (by kernel_rfl) rfl rfl hZ.out rfl (by simp [Value.oneCell']) ?_
    rename_i K hK
    refine hK _ _ (wp_ret ?_)
    refine bodyPost_ret (res_row rfl rfl hRR.out Try.underlying31 rfl (by kernel_rfl)) rfl ?_
    exact ⟨by rw [drive_in (by rw [← hMh.out]; exact hvk.out), ← hMh.out]; simp only [hGh.out, hDh.out], Below.setRow hBB.out (by omega) _⟩
  · have hdb : (M.gate == ((l.gn : Nat) : Int)) = false := by simpa using hd
    have hDh := Lib.hid (show doneF l M = false by unfold doneF; rw [hGh.out, decide_eq_false hd]; rfl)
    clear hd
    (try clear c0 c1 c2 c3 c4 c5 c6 c7 c8 of)
    obtain ⟨c0, c1, c2, c3, c4, c5, c6, c7, c8⟩ := I5.O.c9
    (try clear q0 q1 q2 q3 q4 q5 q6 q7 q8 q9 q10); obtain ⟨q0, q1, q2, q3, q4, q5, q6, q7, q8, q9, q10⟩ := I5.L.c11
    have of := I5.O.frozen
    have hzO5 := I5.O.lt
    have hzL5 := I5.L.lt
    have hzS5 := I5.S.lt
    have hzZ5 := I5.Z.lt
    have I9 : DI w l s d p b #[.int .i64 M.tick, .int .i64 M.ax, .int .i64 M.ay, .int .i64 M.fx, .int .i64 M.fy, .int .i64 M.turn, .int .i64 M.gate, .bool false, .bool M.over] (w5.setCell ⟨w.heap.size + 1 + 1 + 1 + 1, 7, none⟩ (.bool false)) := I5.set 7 (.bool false)
    have hO := Lib.hid I9.O
    have hZ := Lib.hid I9.Z
    have hBB := Lib.hid I9.bel
    have hRR := Lib.hid (I9.Z.row #[.int .i64 M.tick, .int .i64 M.ax, .int .i64 M.ay, .int .i64 M.fx, .int .i64 M.fy, .int .i64 M.turn, .int .i64 M.gate, .bool false, .bool M.over])
    go_upto_region 11 with fail
    refine wp_copy (ty := 31) rfl hO.out Try.underlying31 rfl (by kernel_rfl) rfl rfl hZ.out rfl (by simp [Value.oneCell']) ?_
    rename_i K hK
    refine hK _ _ (wp_ret ?_)
    refine bodyPost_ret (res_row rfl rfl hRR.out Try.underlying31 rfl (by kernel_rfl)) rfl ?_
    exact ⟨by rw [drive_in (by rw [← hMh.out]; exact hvk.out), ← hMh.out]; simp only [hGh.out, hDh.out], Below.setRow hBB.out (by omega) _⟩
end Go.Proofs.Ytnhjalijnociaaa

/- Driving, the gate is not reached. -/
set_option linter.unusedVariables false
set_option linter.unusedSimpArgs false
namespace Go.Proofs.Ytnhjalijnociaaa
open Go.RowKit

theorem boxesAt_cells {w : World} {a : Option Addr} {n b off m : Nat} {f : Nat → Bx} (h : BoxesAt w a n f) (ha : a = some ⟨b, off, none⟩) (hm : m < n) : BoxCells w b (off + m * 4) (f m) := by
  rcases h with h | ⟨b2, off2, he, _, hc⟩
  · omega
  · rw [ha] at he
    simp only [Option.some.injEq, Addr.mk.injEq, and_true] at he
    obtain ⟨rfl, rfl⟩ := he
    exact hc m hm
set_option maxRecDepth 100000 in
set_option maxHeartbeats 4000000 in
theorem sDrive_gno (l : Lv) (s : St) (d p : Int) (b : Bool) (w : World) (hn : l.wn ≤ 1099511627776) (hl : LvAt w l) (hv : bxsB l.wf l.wn = true) (ha : vokB s.ax s.ay = true) (h : len s.fx s.fy ≤ 2000) (t0 : 0 ≤ s.turn) (t1 : s.turn ≤ 15) (g0 : 0 ≤ s.gate) (g1 : s.gate ≤ 1000) (d0 : -16 ≤ d) (d1 : d ≤ 1000) (hvk : vokB (movedF l s d p).ax (movedF l s d p).ay = true) (hg : (movedF l s d p).gate < (l.gn : Int)) (hH : hasB (l.gf (movedF l s d p).gate.toNat).lx (l.gf (movedF l s d p).gate.toNat).ly (l.gf (movedF l s d p).gate.toNat).hx (l.gf (movedF l s d p).gate.toNat).hy (movedF l s d p).ax (movedF l s d p).ay = false) : Calls Try.prog 106 #[.agg #[.int .i64 l.id, .int .i64 l.ticks, .int .i64 l.sx, .int .i64 l.sy, .slice l.wa l.wn l.wc, .slice l.ga l.gn l.gc, .int .i64 l.flx, .int .i64 l.fly, .int .i64 l.fhx, .int .i64 l.fhy, .int .i64 l.bans], .agg #[.int .i64 s.tick, .int .i64 s.ax, .int .i64 s.ay, .int .i64 s.fx, .int .i64 s.fy, .int .i64 s.turn, .int .i64 s.gate, .bool s.done, .bool s.over], .agg #[.int .i64 d, .int .i64 p, .bool b]] w fun e w' => e = .returned (.agg #[.int .i64 (driveF l s d p).tick, .int .i64 (driveF l s d p).ax, .int .i64 (driveF l s d p).ay, .int .i64 (driveF l s d p).fx, .int .i64 (driveF l s d p).fy, .int .i64 (driveF l s d p).turn, .int .i64 (driveF l s d p).gate, .bool (driveF l s d p).done, .bool (driveF l s d p).over]) ∧ Below w.heap.size w w' := by
  obtain ⟨u0, u1⟩ := turn_bd s d
  have hF := fast_len (turnF s d) p h
  have hT : (s.turn + d + 16) % 16 = turnF s d := rfl
  go_enter Try.func106, Try.ntmps106
  go_wp2_with fail
  refine (sFast s (turnF s d) p _ h u0 u1).mono ?_
  rintro e w1 ⟨rfl, hb1⟩
  have I1 : DI w l s d p b #[.int .i64 s.tick, .int .i64 s.ax, .int .i64 s.ay, .int .i64 s.fx, .int .i64 s.fy, .int .i64 (turnF s d), .int .i64 s.gate, .bool s.done, .bool s.over] w1 := DI.pass (w := ((((w.alloc (.cells #[.int .i64 l.id, .int .i64 l.ticks, .int .i64 l.sx, .int .i64 l.sy, .slice l.wa l.wn l.wc, .slice l.ga l.gn l.gc, .int .i64 l.flx, .int .i64 l.fly, .int .i64 l.fhx, .int .i64 l.fhy, .int .i64 l.bans] 29)).alloc (.cells #[.int .i64 s.tick, .int .i64 s.ax, .int .i64 s.ay, .int .i64 s.fx, .int .i64 s.fy, .int .i64 s.turn, .int .i64 s.gate, .bool s.done, .bool s.over] 31)).alloc (.cells #[.int .i64 d, .int .i64 p, .bool b] 33)).alloc (.cells #[.int .i64 0, .int .i64 0, .int .i64 0, .int .i64 0, .int .i64 0, .int .i64 0, .int .i64 0, .bool false, .bool false] 31)).alloc (.cells #[.int .i64 s.tick, .int .i64 s.ax, .int .i64 s.ay, .int .i64 s.fx, .int .i64 s.fy, .int .i64 (turnF s d), .int .i64 s.gate, .bool s.done, .bool s.over] 31)) ⟨((((Blk.at rfl).alloc _).alloc _).alloc _).alloc _, (((Blk.at (by simp)).alloc _).alloc _).alloc _, ((Blk.at (by simp)).alloc _).alloc _, (Blk.at (by simp)).alloc _, Blk.at (by simp), by (repeat (first | with_reducible assumption | with_reducible exact Below.refl _ _ | ((with_reducible refine Below.alloc ?_ ?_ _); rotate_left; · exact (by first | omega | (simp; done) | (simp; omega))) | ((with_reducible refine Below.setCell ?_ ?_ _); rotate_left; · exact (by first | omega | (simp; done) | (simp; omega))) | with_reducible refine Below.drew ?_ | assumption | exact Below.refl _ _ | refine Below.alloc ?_ (by first | omega | (simp; done) | (simp; omega)) _ | refine Below.setCell ?_ (by first | omega | (simp; done) | (simp; omega)) _ | refine Below.drew ?_))⟩ hb1
  obtain ⟨FX, hFX⟩ : ∃ FX, FX = fastX s (turnF s d) p := ⟨_, rfl⟩
  obtain ⟨FY, hFY⟩ : ∃ FY, FY = fastY s (turnF s d) p := ⟨_, rfl⟩
  obtain ⟨T, hTT⟩ : ∃ T, T = turnF s d := ⟨_, rfl⟩
  rw [← hFX, ← hFY] at hF
  rw [← hFX, ← hFY]
  rw [← hTT] at I1 ⊢
  obtain ⟨M, hM⟩ : ∃ M, M = movedF l s d p := ⟨_, rfl⟩
  have hMM : moveY l (moveX l ⟨s.tick, s.ax, s.ay, FX, FY, T, s.gate, s.done, s.over⟩) = M := by rw [hM, hFX, hFY, hTT]; rfl
  obtain ⟨_, _, m3, _, _⟩ := moved_same l s d p
  have hMh := Lib.hid hM
  have mg0 : 0 ≤ M.gate := by rw [hM, m3]; exact g0
  have mg1 : M.gate ≤ 1000 := by rw [hM, m3]; exact g1
  rw [← hM] at hvk
  rw [← hM] at hg hH
  clear hFX hFY hTT hT hb1 hM m3
  (try clear c0 c1 c2 c3 c4 c5 c6 c7 c8 of)
  obtain ⟨c0, c1, c2, c3, c4, c5, c6, c7, c8⟩ := I1.O.c9
  (try clear q0 q1 q2 q3 q4 q5 q6 q7 q8 q9 q10); obtain ⟨q0, q1, q2, q3, q4, q5, q6, q7, q8, q9, q10⟩ := I1.L.c11
  have of := I1.O.frozen
  have hzO1 := I1.O.lt
  have hzL1 := I1.L.lt
  have hzS1 := I1.S.lt
  have hzZ1 := I1.Z.lt
  have I2 : DI w l s d p b #[.int .i64 s.tick, .int .i64 s.ax, .int .i64 s.ay, .int .i64 FX, .int .i64 FY, .int .i64 T, .int .i64 s.gate, .bool s.done, .bool s.over] ((w1.setCell ⟨w.heap.size + 1 + 1 + 1 + 1, 3, none⟩ (.int .i64 FX)).setCell ⟨w.heap.size + 1 + 1 + 1 + 1, 4, none⟩ (.int .i64 FY)) := (I1.set 3 (.int .i64 FX)).set 4 (.int .i64 FY)
  go_wp2_with fail
  refine (sMove l ⟨s.tick, s.ax, s.ay, FX, FY, T, s.gate, s.done, s.over⟩ _ hn (hl.1.keep I2.bel) hv ha hF).mono ?_
  rw [hMM]
  rintro e w2 ⟨rfl, hb2⟩
  have I2' := I2.pass hb2
  have I3 := I2'.row #[.int .i64 M.tick, .int .i64 M.ax, .int .i64 M.ay, .int .i64 M.fx, .int .i64 M.fy, .int .i64 M.turn, .int .i64 M.gate, .bool M.done, .bool M.over]
  clear c0 c1 c2 c3 c4 c5 c6 c7 c8 of q0 q1 q2 q3 q4 q5 q6 q7 q8 q9 q10 hMM hb2 I1 I2
  rename_i K hK
  refine hK _ _ ?_
  refine st_row rfl rfl I2'.O (by kernel_rfl) rfl (by simp [Value.oneCell']) ?_
  refine wpList_nil ?_
  clear I2' hK K
  generalize w2.setRow (w.heap.size + 1 + 1 + 1 + 1) #[.int .i64 M.tick, .int .i64 M.ax, .int .i64 M.ay, .int .i64 M.fx, .int .i64 M.fy, .int .i64 M.turn, .int .i64 M.gate, .bool M.done, .bool M.over] = w3 at *
  (try clear c0 c1 c2 c3 c4 c5 c6 c7 c8 of)
  obtain ⟨c0, c1, c2, c3, c4, c5, c6, c7, c8⟩ := I3.O.c9
  (try clear q0 q1 q2 q3 q4 q5 q6 q7 q8 q9 q10); obtain ⟨q0, q1, q2, q3, q4, q5, q6, q7, q8, q9, q10⟩ := I3.L.c11
  have of := I3.O.frozen
  have hzO3 := I3.O.lt
  have hzL3 := I3.L.lt
  have hzS3 := I3.S.lt
  have hzZ3 := I3.Z.lt
  go_wp2_with fail
  refine (sVecOk M.ax M.ay _).mono ?_
  rintro e w4 ⟨rfl, hb4⟩
  have I4 := I3.pass hb4
  clear hb4
  rw [hvk]
  have hvk := Lib.hid hvk
  have hgn : l.gn ≠ 0 := by omega
  obtain ⟨bb, off, hga, hbl, hbc⟩ := hl.2.resolve_left hgn
  have hGa := Lib.hid hga
  obtain ⟨m, hm⟩ := Int.eq_ofNat_of_zero_le mg0
  have hmn : m < l.gn := by omega
  have hmt : M.gate.toNat = m := by omega
  have hmi : (m : Int) < (l.gn : Int) := by omega
  have hmg : (0 : Int) ≤ (m : Int) := by omega
  have hMt := Lib.hid hmt
  have hMm := Lib.hid hm
  rw [hmt] at hH
  have hHh := Lib.hid hH
  clear hga hbl hbc hgn hmt hm hH
  have hgd : decide (M.gate < (l.gn : Int)) = true := decide_eq_true (by omega)
  (try clear c0 c1 c2 c3 c4 c5 c6 c7 c8 of)
  obtain ⟨c0, c1, c2, c3, c4, c5, c6, c7, c8⟩ := I4.O.c9
  (try clear q0 q1 q2 q3 q4 q5 q6 q7 q8 q9 q10); obtain ⟨q0, q1, q2, q3, q4, q5, q6, q7, q8, q9, q10⟩ := I4.L.c11
  have of := I4.O.frozen
  have hzO4 := I4.O.lt
  have hzL4 := I4.L.lt
  have hzS4 := I4.S.lt
  have hzZ4 := I4.Z.lt
  go_wp2_with fail
  have I5 := I4.drew
  have hl5 : BoxesAt w4.drew l.ga l.gn l.gf := hl.2.keep I5.bel
  refine wp_region_held_drew (S := fun W => ((W.cell? ⟨w.heap.size, 0, none⟩ = some (.int .i64 l.id) ∧ W.cell? ⟨w.heap.size, 1, none⟩ = some (.int .i64 l.ticks) ∧ W.cell? ⟨w.heap.size, 2, none⟩ = some (.int .i64 l.sx) ∧ W.cell? ⟨w.heap.size, 3, none⟩ = some (.int .i64 l.sy) ∧ W.cell? ⟨w.heap.size, 4, none⟩ = some (.slice l.wa l.wn l.wc) ∧ W.cell? ⟨w.heap.size, 5, none⟩ = some (.slice l.ga l.gn l.gc) ∧ W.cell? ⟨w.heap.size, 6, none⟩ = some (.int .i64 l.flx) ∧ W.cell? ⟨w.heap.size, 7, none⟩ = some (.int .i64 l.fly) ∧ W.cell? ⟨w.heap.size, 8, none⟩ = some (.int .i64 l.fhx) ∧ W.cell? ⟨w.heap.size, 9, none⟩ = some (.int .i64 l.fhy) ∧ W.cell? ⟨w.heap.size, 10, none⟩ = some (.int .i64 l.bans)) ∧ (W.cell? ⟨w.heap.size + 1 + 1 + 1 + 1, 0, none⟩ = some (.int .i64 M.tick) ∧ W.cell? ⟨w.heap.size + 1 + 1 + 1 + 1, 1, none⟩ = some (.int .i64 M.ax) ∧ W.cell? ⟨w.heap.size + 1 + 1 + 1 + 1, 2, none⟩ = some (.int .i64 M.ay) ∧ W.cell? ⟨w.heap.size + 1 + 1 + 1 + 1, 3, none⟩ = some (.int .i64 M.fx) ∧ W.cell? ⟨w.heap.size + 1 + 1 + 1 + 1, 4, none⟩ = some (.int .i64 M.fy) ∧ W.cell? ⟨w.heap.size + 1 + 1 + 1 + 1, 5, none⟩ = some (.int .i64 M.turn) ∧ W.cell? ⟨w.heap.size + 1 + 1 + 1 + 1, 6, none⟩ = some (.int .i64 M.gate) ∧ W.cell? ⟨w.heap.size + 1 + 1 + 1 + 1, 7, none⟩ = some (.bool M.done) ∧ W.cell? ⟨w.heap.size + 1 + 1 + 1 + 1, 8, none⟩ = some (.bool M.over))) ∧ BoxesAt W l.ga l.gn l.gf) (by kernel_rfl) ⟨⟨I5.L.c11, I5.O.c9⟩, hl5⟩ (fun hHeld => ?_)
  simp only [List.size_toArray, List.length_cons, List.length_nil, Nat.zero_add, Nat.reduceAdd]
  (refine wpAnyH_take (i := 0) (v := ?_) rfl (by kernel_rfl) (by kernel_rfl) (by kernel_rfl) (fun _ _ _ h => h) (Or.inl ⟨by rfl, ?_⟩) (by assumption) ?_; rotate_left; · (intro w hSw; (try dsimp only at hSw); go_simp; (try with_reducible rfl))); (try simp only [Act.put, List.setIfInBounds_toArray, List.set_cons_zero, List.set_cons_succ])
  (refine wpAnyH_take (i := 1) (v := ?_) rfl (by kernel_rfl) (by kernel_rfl) (by kernel_rfl) (fun _ _ _ h => h) (Or.inl ⟨by rfl, ?_⟩) (by assumption) ?_; rotate_left; · (intro w hSw; (try dsimp only at hSw); go_simp; (try with_reducible rfl))); (try simp only [Act.put, List.setIfInBounds_toArray, List.set_cons_zero, List.set_cons_succ])
  (refine wpAnyH_take (i := 2) (v := ?_) rfl (by kernel_rfl) (by kernel_rfl) (by kernel_rfl) (fun _ _ _ h => h) (Or.inl ⟨by rfl, ?_⟩) (by assumption) ?_; rotate_left; · (intro w hSw; (try dsimp only at hSw); go_simp; (try with_reducible rfl))); (try simp only [Act.put, List.setIfInBounds_toArray, List.set_cons_zero, List.set_cons_succ])
  (refine wpAnyH_take (i := 3) (v := ?_) rfl (by kernel_rfl) (by kernel_rfl) (by kernel_rfl) (fun _ _ _ h => h) (Or.inl ⟨by rfl, ?_⟩) (by assumption) ?_; rotate_left; · (intro w hSw; (try dsimp only at hSw); go_simp; (try with_reducible rfl))); (try simp only [Act.put, List.setIfInBounds_toArray, List.set_cons_zero, List.set_cons_succ])
  (refine wpAnyH_take (i := 4) (v := ?_) rfl (by kernel_rfl) (by kernel_rfl) (by kernel_rfl) (fun _ _ _ h => h) (Or.inl ⟨by rfl, ?_⟩) (by assumption) ?_; rotate_left; · (intro w hSw; (try dsimp only at hSw); go_simp; (try with_reducible rfl))); (try simp only [Act.put, List.setIfInBounds_toArray, List.set_cons_zero, List.set_cons_succ])
  (refine wpAnyH_take (i := 5) (v := ?_) rfl (by kernel_rfl) (by kernel_rfl) (by kernel_rfl) (fun _ _ _ h => h) (Or.inl ⟨by rfl, ?_⟩) (by assumption) ?_; rotate_left; · (intro w hSw; (try dsimp only at hSw); go_simp; (try with_reducible rfl))); (try simp only [Act.put, List.setIfInBounds_toArray, List.set_cons_zero, List.set_cons_succ])
  (refine wpAnyH_take (i := 6) (v := ?_) rfl (by kernel_rfl) (by kernel_rfl) (by kernel_rfl) (fun _ _ _ h => h) (Or.inl ⟨by rfl, ?_⟩) (by assumption) ?_; rotate_left; · (intro w hSw; (try dsimp only at hSw); go_simp; (try with_reducible rfl))); (try simp only [Act.put, List.setIfInBounds_toArray, List.set_cons_zero, List.set_cons_succ])
  try simp only [hgd]
  (refine wpAnyH_take (i := 7) (v := ?_) rfl (by kernel_rfl) (by kernel_rfl) (by kernel_rfl) (fun _ _ _ h => h) (Or.inl ⟨by kernel_rfl, ?_⟩) (by assumption) ?_; rotate_left; · (intro w hSw; (try dsimp only at hSw); go_simp; (try with_reducible rfl))); (try simp only [Act.put, List.setIfInBounds_toArray, List.set_cons_zero, List.set_cons_succ])
  (refine wpAnyH_take (i := 8) (v := ?_) rfl (by kernel_rfl) (by kernel_rfl) (by kernel_rfl) (fun _ _ _ h => h) (Or.inl ⟨by kernel_rfl, ?_⟩) (by assumption) ?_; rotate_left; · (intro w hSw; (try dsimp only at hSw); go_simp; (try with_reducible rfl))); (try simp only [Act.put, List.setIfInBounds_toArray, List.set_cons_zero, List.set_cons_succ])
  (refine wpAnyH_take (i := 9) (v := ?_) rfl (by kernel_rfl) (by kernel_rfl) (by kernel_rfl) (fun _ _ _ h => h) (Or.inl ⟨by kernel_rfl, ?_⟩) (by assumption) ?_; rotate_left; · (intro w hSw; (try dsimp only at hSw); go_simp; (try with_reducible rfl))); (try simp only [Act.put, List.setIfInBounds_toArray, List.set_cons_zero, List.set_cons_succ])
  (refine wpAnyH_take (i := 10) (v := ?_) rfl (by kernel_rfl) (by kernel_rfl) (by kernel_rfl) (fun _ _ _ h => h) (Or.inl ⟨by kernel_rfl, ?_⟩) (by assumption) ?_; rotate_left; · (intro w hSw; (try dsimp only at hSw); go_simp; (try with_reducible rfl))); (try simp only [Act.put, List.setIfInBounds_toArray, List.set_cons_zero, List.set_cons_succ])
  refine wpAnyH_take (i := 11) (v := .pointer (some ⟨bb, off + m * 4, none⟩)) rfl (by kernel_rfl) (by kernel_rfl) (by kernel_rfl) (fun _ _ _ h => h) (Or.inl ⟨by kernel_rfl, ?_⟩) (by assumption) ?_
  · intro w hSw
    have hga := hGa.out
    have hmm := hMm.out
    clear hSw hHeld
    go_simp
  (try simp only [Act.put, List.setIfInBounds_toArray, List.set_cons_zero, List.set_cons_succ])
  refine wpAnyH_take (i := 12) (v := .agg #[.int .i64 (l.gf m).lx, .int .i64 (l.gf m).ly, .int .i64 (l.gf m).hx, .int .i64 (l.gf m).hy]) rfl (by kernel_rfl) (by kernel_rfl) (by kernel_rfl) (fun _ _ _ h => h) (Or.inl ⟨by kernel_rfl, ?_⟩) (by assumption) ?_
  · intro w hSw
    obtain ⟨_, hbx⟩ := hSw
    have hh := boxesAt_cells hbx hGa.out hmn
    obtain ⟨g0, g1, g2, g3⟩ := hh
    clear hHeld hbx
    go_simp
  (try simp only [Act.put, List.setIfInBounds_toArray, List.set_cons_zero, List.set_cons_succ])
  (refine wpAnyH_take (i := 13) (v := ?_) rfl (by kernel_rfl) (by kernel_rfl) (by kernel_rfl) (fun _ _ _ h => h) (Or.inl ⟨by kernel_rfl, ?_⟩) (by assumption) ?_; rotate_left; · (intro w hSw; (try dsimp only at hSw); go_simp; (try with_reducible rfl))); (try simp only [Act.put, List.setIfInBounds_toArray, List.set_cons_zero, List.set_cons_succ])
  (refine wpAnyH_take (i := 14) (v := ?_) rfl (by kernel_rfl) (by kernel_rfl) (by kernel_rfl) (fun _ _ _ h => h) (Or.inl ⟨by kernel_rfl, ?_⟩) (by assumption) ?_; rotate_left; · (intro w hSw; (try dsimp only at hSw); go_simp; (try with_reducible rfl))); (try simp only [Act.put, List.setIfInBounds_toArray, List.set_cons_zero, List.set_cons_succ])
  refine wpAnyH_ready (rs := [15]) (by kernel_rfl) (by simp) ?_; refine AllReadyH.cons rfl (fun K hK => ?_) AllReadyH.nil; (try simp only [List.getElem_toArray, List.getElem_cons_succ, List.getElem_cons_zero])
  go_simp
  go_at_call 127
  refine (sHas _ _ _ _ M.ax M.ay _).mono ?_
  rintro e w5 ⟨rfl, hb5⟩
  rw [hHh.out]
  have I6 := I5.pass hb5
  have hl6 : BoxesAt w5 l.ga l.gn l.gf := hl.2.keep I6.bel
  have hGG : gateF l M = if false then M.gate + 1 else M.gate := by unfold gateF; rw [hMt.out, hHh.out, hgd, Bool.true_and]
  go_wp2_with fail
  refine hK.out _ _ (⟨⟨I6.L.c11, I6.O.c9⟩, hl6⟩) (fun hHeld => ?_); clear hK K; (try simp only [Act.put, List.setIfInBounds_toArray, List.set_cons_zero, List.set_cons_succ])
  refine wpAnyH_ready (rs := [16]) (by kernel_rfl) (by simp) ?_; refine AllReadyH.cons rfl (fun K hK => ?_) AllReadyH.nil; (try simp only [List.getElem_toArray, List.getElem_cons_succ, List.getElem_cons_zero])
  go_simp
  refine hK.out _ _ (⟨⟨I6.L.c11, I6.O.c9⟩, hl6⟩) (fun hHeld => ?_); clear hK K; (try simp only [Act.put, List.setIfInBounds_toArray, List.set_cons_zero, List.set_cons_succ])
  refine wpAnyH_done (by kernel_rfl) ?_ _
  clear hHeld hb5
  have hGh := Lib.hid (show gateF l M = M.gate from hGG)
  clear hGG
  by_cases hd : M.gate = (l.gn : Int)
  · have hdb : (M.gate == ((l.gn : Nat) : Int)) = true := by simpa using hd
    have hdh := Lib.hid hd
    clear hd
    (try clear c0 c1 c2 c3 c4 c5 c6 c7 c8 of)
    obtain ⟨c0, c1, c2, c3, c4, c5, c6, c7, c8⟩ := I6.O.c9
    (try clear q0 q1 q2 q3 q4 q5 q6 q7 q8 q9 q10); obtain ⟨q0, q1, q2, q3, q4, q5, q6, q7, q8, q9, q10⟩ := I6.L.c11
    have of := I6.O.frozen
    have hzO6 := I6.O.lt
    have hzL6 := I6.L.lt
    have hzS6 := I6.S.lt
    have hzZ6 := I6.Z.lt
    go_wp2_with fail
    refine (sHas l.flx l.fly l.fhx l.fhy M.ax M.ay _).mono ?_
    rintro e w6 ⟨rfl, hb7⟩
    have I7 := I6.pass hb7
    obtain ⟨D, hD⟩ : ∃ D, D = hasB l.flx l.fly l.fhx l.fhy M.ax M.ay := ⟨_, rfl⟩
    rw [← hD]
    have hDh := Lib.hid (show doneF l M = D by unfold doneF; rw [hGh.out, decide_eq_true hdh.out, hD]; rfl)
    clear hD hb7
    (try clear c0 c1 c2 c3 c4 c5 c6 c7 c8 of)
    obtain ⟨c0, c1, c2, c3, c4, c5, c6, c7, c8⟩ := I7.O.c9
    (try clear q0 q1 q2 q3 q4 q5 q6 q7 q8 q9 q10); obtain ⟨q0, q1, q2, q3, q4, q5, q6, q7, q8, q9, q10⟩ := I7.L.c11
    have of := I7.O.frozen
    have hzO7 := I7.O.lt
    have hzL7 := I7.L.lt
    have hzS7 := I7.S.lt
    have hzZ7 := I7.Z.lt
    have I9 : DI w l s d p b #[.int .i64 M.tick, .int .i64 M.ax, .int .i64 M.ay, .int .i64 M.fx, .int .i64 M.fy, .int .i64 M.turn, .int .i64 M.gate, .bool D, .bool M.over] (w6.setCell ⟨w.heap.size + 1 + 1 + 1 + 1, 7, none⟩ (.bool D)) := I7.set 7 (.bool D)
    have hO := Lib.hid I9.O
    have hZ := Lib.hid I9.Z
    have hBB := Lib.hid I9.bel
    have hRR := Lib.hid (I9.Z.row #[.int .i64 M.tick, .int .i64 M.ax, .int .i64 M.ay, .int .i64 M.fx, .int .i64 M.fy, .int .i64 M.turn, .int .i64 M.gate, .bool D, .bool M.over])
    go_upto_region 11 with fail
    refine wp_copy (ty := 31) rfl hO.out Try.underlying31 rfl (by kernel_rfl) rfl rfl hZ.out rfl (by simp [Value.oneCell']) ?_
    rename_i K hK
    refine hK _ _ (wp_ret ?_)
    refine bodyPost_ret (res_row rfl rfl hRR.out Try.underlying31 rfl (by kernel_rfl)) rfl ?_
    exact ⟨by rw [drive_in (by rw [← hMh.out]; exact hvk.out), ← hMh.out]; simp only [hGh.out, hDh.out], Below.setRow hBB.out (by omega) _⟩
  · have hdb : (M.gate == ((l.gn : Nat) : Int)) = false := by simpa using hd
    have hDh := Lib.hid (show doneF l M = false by unfold doneF; rw [hGh.out, decide_eq_false hd]; rfl)
    clear hd
    (try clear c0 c1 c2 c3 c4 c5 c6 c7 c8 of)
    obtain ⟨c0, c1, c2, c3, c4, c5, c6, c7, c8⟩ := I6.O.c9
    (try clear q0 q1 q2 q3 q4 q5 q6 q7 q8 q9 q10); obtain ⟨q0, q1, q2, q3, q4, q5, q6, q7, q8, q9, q10⟩ := I6.L.c11
    have of := I6.O.frozen
    have hzO6 := I6.O.lt
    have hzL6 := I6.L.lt
    have hzS6 := I6.S.lt
    have hzZ6 := I6.Z.lt
    have I9 : DI w l s d p b #[.int .i64 M.tick, .int .i64 M.ax, .int .i64 M.ay, .int .i64 M.fx, .int .i64 M.fy, .int .i64 M.turn, .int .i64 M.gate, .bool false, .bool M.over] (w5.setCell ⟨w.heap.size + 1 + 1 + 1 + 1, 7, none⟩ (.bool false)) := I6.set 7 (.bool false)
    have hO := Lib.hid I9.O
    have hZ := Lib.hid I9.Z
    have hBB := Lib.hid I9.bel
    have hRR := Lib.hid (I9.Z.row #[.int .i64 M.tick, .int .i64 M.ax, .int .i64 M.ay, .int .i64 M.fx, .int .i64 M.fy, .int .i64 M.turn, .int .i64 M.gate, .bool false, .bool M.over])
    go_upto_region 11 with fail
    refine wp_copy (ty := 31) rfl hO.out Try.underlying31 rfl (by kernel_rfl) rfl rfl hZ.out rfl (by simp [Value.oneCell']) ?_
    rename_i K hK
    refine hK _ _ (wp_ret ?_)
    refine bodyPost_ret (res_row rfl rfl hRR.out Try.underlying31 rfl (by kernel_rfl)) rfl ?_
    exact ⟨by rw [drive_in (by rw [← hMh.out]; exact hvk.out), ← hMh.out]; simp only [hGh.out, hDh.out], Below.setRow hBB.out (by omega) _⟩
end Go.Proofs.Ytnhjalijnociaaa

/- Driving, the gate is reached. -/
set_option linter.unusedVariables false
set_option linter.unusedSimpArgs false
namespace Go.Proofs.Ytnhjalijnociaaa
open Go.RowKit

set_option maxRecDepth 100000 in
set_option maxHeartbeats 4000000 in
theorem sDrive_gyes (l : Lv) (s : St) (d p : Int) (b : Bool) (w : World) (hn : l.wn ≤ 1099511627776) (hl : LvAt w l) (hv : bxsB l.wf l.wn = true) (ha : vokB s.ax s.ay = true) (h : len s.fx s.fy ≤ 2000) (t0 : 0 ≤ s.turn) (t1 : s.turn ≤ 15) (g0 : 0 ≤ s.gate) (g1 : s.gate ≤ 1000) (d0 : -16 ≤ d) (d1 : d ≤ 1000) (hvk : vokB (movedF l s d p).ax (movedF l s d p).ay = true) (hg : (movedF l s d p).gate < (l.gn : Int)) (hH : hasB (l.gf (movedF l s d p).gate.toNat).lx (l.gf (movedF l s d p).gate.toNat).ly (l.gf (movedF l s d p).gate.toNat).hx (l.gf (movedF l s d p).gate.toNat).hy (movedF l s d p).ax (movedF l s d p).ay = true) : Calls Try.prog 106 #[.agg #[.int .i64 l.id, .int .i64 l.ticks, .int .i64 l.sx, .int .i64 l.sy, .slice l.wa l.wn l.wc, .slice l.ga l.gn l.gc, .int .i64 l.flx, .int .i64 l.fly, .int .i64 l.fhx, .int .i64 l.fhy, .int .i64 l.bans], .agg #[.int .i64 s.tick, .int .i64 s.ax, .int .i64 s.ay, .int .i64 s.fx, .int .i64 s.fy, .int .i64 s.turn, .int .i64 s.gate, .bool s.done, .bool s.over], .agg #[.int .i64 d, .int .i64 p, .bool b]] w fun e w' => e = .returned (.agg #[.int .i64 (driveF l s d p).tick, .int .i64 (driveF l s d p).ax, .int .i64 (driveF l s d p).ay, .int .i64 (driveF l s d p).fx, .int .i64 (driveF l s d p).fy, .int .i64 (driveF l s d p).turn, .int .i64 (driveF l s d p).gate, .bool (driveF l s d p).done, .bool (driveF l s d p).over]) ∧ Below w.heap.size w w' := by
  obtain ⟨u0, u1⟩ := turn_bd s d
  have hF := fast_len (turnF s d) p h
  have hT : (s.turn + d + 16) % 16 = turnF s d := rfl
  go_enter Try.func106, Try.ntmps106
  go_wp2_with fail
  refine (sFast s (turnF s d) p _ h u0 u1).mono ?_
  rintro e w1 ⟨rfl, hb1⟩
  have I1 : DI w l s d p b #[.int .i64 s.tick, .int .i64 s.ax, .int .i64 s.ay, .int .i64 s.fx, .int .i64 s.fy, .int .i64 (turnF s d), .int .i64 s.gate, .bool s.done, .bool s.over] w1 := DI.pass (w := ((((w.alloc (.cells #[.int .i64 l.id, .int .i64 l.ticks, .int .i64 l.sx, .int .i64 l.sy, .slice l.wa l.wn l.wc, .slice l.ga l.gn l.gc, .int .i64 l.flx, .int .i64 l.fly, .int .i64 l.fhx, .int .i64 l.fhy, .int .i64 l.bans] 29)).alloc (.cells #[.int .i64 s.tick, .int .i64 s.ax, .int .i64 s.ay, .int .i64 s.fx, .int .i64 s.fy, .int .i64 s.turn, .int .i64 s.gate, .bool s.done, .bool s.over] 31)).alloc (.cells #[.int .i64 d, .int .i64 p, .bool b] 33)).alloc (.cells #[.int .i64 0, .int .i64 0, .int .i64 0, .int .i64 0, .int .i64 0, .int .i64 0, .int .i64 0, .bool false, .bool false] 31)).alloc (.cells #[.int .i64 s.tick, .int .i64 s.ax, .int .i64 s.ay, .int .i64 s.fx, .int .i64 s.fy, .int .i64 (turnF s d), .int .i64 s.gate, .bool s.done, .bool s.over] 31)) ⟨((((Blk.at rfl).alloc _).alloc _).alloc _).alloc _, (((Blk.at (by simp)).alloc _).alloc _).alloc _, ((Blk.at (by simp)).alloc _).alloc _, (Blk.at (by simp)).alloc _, Blk.at (by simp), by (repeat (first | with_reducible assumption | with_reducible exact Below.refl _ _ | ((with_reducible refine Below.alloc ?_ ?_ _); rotate_left; · exact (by first | omega | (simp; done) | (simp; omega))) | ((with_reducible refine Below.setCell ?_ ?_ _); rotate_left; · exact (by first | omega | (simp; done) | (simp; omega))) | with_reducible refine Below.drew ?_ | assumption | exact Below.refl _ _ | refine Below.alloc ?_ (by first | omega | (simp; done) | (simp; omega)) _ | refine Below.setCell ?_ (by first | omega | (simp; done) | (simp; omega)) _ | refine Below.drew ?_))⟩ hb1
  obtain ⟨FX, hFX⟩ : ∃ FX, FX = fastX s (turnF s d) p := ⟨_, rfl⟩
  obtain ⟨FY, hFY⟩ : ∃ FY, FY = fastY s (turnF s d) p := ⟨_, rfl⟩
  obtain ⟨T, hTT⟩ : ∃ T, T = turnF s d := ⟨_, rfl⟩
  rw [← hFX, ← hFY] at hF
  rw [← hFX, ← hFY]
  rw [← hTT] at I1 ⊢
  obtain ⟨M, hM⟩ : ∃ M, M = movedF l s d p := ⟨_, rfl⟩
  have hMM : moveY l (moveX l ⟨s.tick, s.ax, s.ay, FX, FY, T, s.gate, s.done, s.over⟩) = M := by rw [hM, hFX, hFY, hTT]; rfl
  obtain ⟨_, _, m3, _, _⟩ := moved_same l s d p
  have hMh := Lib.hid hM
  have mg0 : 0 ≤ M.gate := by rw [hM, m3]; exact g0
  have mg1 : M.gate ≤ 1000 := by rw [hM, m3]; exact g1
  rw [← hM] at hvk
  rw [← hM] at hg hH
  clear hFX hFY hTT hT hb1 hM m3
  (try clear c0 c1 c2 c3 c4 c5 c6 c7 c8 of)
  obtain ⟨c0, c1, c2, c3, c4, c5, c6, c7, c8⟩ := I1.O.c9
  (try clear q0 q1 q2 q3 q4 q5 q6 q7 q8 q9 q10); obtain ⟨q0, q1, q2, q3, q4, q5, q6, q7, q8, q9, q10⟩ := I1.L.c11
  have of := I1.O.frozen
  have hzO1 := I1.O.lt
  have hzL1 := I1.L.lt
  have hzS1 := I1.S.lt
  have hzZ1 := I1.Z.lt
  have I2 : DI w l s d p b #[.int .i64 s.tick, .int .i64 s.ax, .int .i64 s.ay, .int .i64 FX, .int .i64 FY, .int .i64 T, .int .i64 s.gate, .bool s.done, .bool s.over] ((w1.setCell ⟨w.heap.size + 1 + 1 + 1 + 1, 3, none⟩ (.int .i64 FX)).setCell ⟨w.heap.size + 1 + 1 + 1 + 1, 4, none⟩ (.int .i64 FY)) := (I1.set 3 (.int .i64 FX)).set 4 (.int .i64 FY)
  go_wp2_with fail
  refine (sMove l ⟨s.tick, s.ax, s.ay, FX, FY, T, s.gate, s.done, s.over⟩ _ hn (hl.1.keep I2.bel) hv ha hF).mono ?_
  rw [hMM]
  rintro e w2 ⟨rfl, hb2⟩
  have I2' := I2.pass hb2
  have I3 := I2'.row #[.int .i64 M.tick, .int .i64 M.ax, .int .i64 M.ay, .int .i64 M.fx, .int .i64 M.fy, .int .i64 M.turn, .int .i64 M.gate, .bool M.done, .bool M.over]
  clear c0 c1 c2 c3 c4 c5 c6 c7 c8 of q0 q1 q2 q3 q4 q5 q6 q7 q8 q9 q10 hMM hb2 I1 I2
  rename_i K hK
  refine hK _ _ ?_
  refine st_row rfl rfl I2'.O (by kernel_rfl) rfl (by simp [Value.oneCell']) ?_
  refine wpList_nil ?_
  clear I2' hK K
  generalize w2.setRow (w.heap.size + 1 + 1 + 1 + 1) #[.int .i64 M.tick, .int .i64 M.ax, .int .i64 M.ay, .int .i64 M.fx, .int .i64 M.fy, .int .i64 M.turn, .int .i64 M.gate, .bool M.done, .bool M.over] = w3 at *
  (try clear c0 c1 c2 c3 c4 c5 c6 c7 c8 of)
  obtain ⟨c0, c1, c2, c3, c4, c5, c6, c7, c8⟩ := I3.O.c9
  (try clear q0 q1 q2 q3 q4 q5 q6 q7 q8 q9 q10); obtain ⟨q0, q1, q2, q3, q4, q5, q6, q7, q8, q9, q10⟩ := I3.L.c11
  have of := I3.O.frozen
  have hzO3 := I3.O.lt
  have hzL3 := I3.L.lt
  have hzS3 := I3.S.lt
  have hzZ3 := I3.Z.lt
  go_wp2_with fail
  refine (sVecOk M.ax M.ay _).mono ?_
  rintro e w4 ⟨rfl, hb4⟩
  have I4 := I3.pass hb4
  clear hb4
  rw [hvk]
  have hvk := Lib.hid hvk
  have hgn : l.gn ≠ 0 := by omega
  obtain ⟨bb, off, hga, hbl, hbc⟩ := hl.2.resolve_left hgn
  have hGa := Lib.hid hga
  obtain ⟨m, hm⟩ := Int.eq_ofNat_of_zero_le mg0
  have hmn : m < l.gn := by omega
  have hmt : M.gate.toNat = m := by omega
  have hmi : (m : Int) < (l.gn : Int) := by omega
  have hmg : (0 : Int) ≤ (m : Int) := by omega
  have hMt := Lib.hid hmt
  have hMm := Lib.hid hm
  rw [hmt] at hH
  have hHh := Lib.hid hH
  clear hga hbl hbc hgn hmt hm hH
  have hgd : decide (M.gate < (l.gn : Int)) = true := decide_eq_true (by omega)
  (try clear c0 c1 c2 c3 c4 c5 c6 c7 c8 of)
  obtain ⟨c0, c1, c2, c3, c4, c5, c6, c7, c8⟩ := I4.O.c9
  (try clear q0 q1 q2 q3 q4 q5 q6 q7 q8 q9 q10); obtain ⟨q0, q1, q2, q3, q4, q5, q6, q7, q8, q9, q10⟩ := I4.L.c11
  have of := I4.O.frozen
  have hzO4 := I4.O.lt
  have hzL4 := I4.L.lt
  have hzS4 := I4.S.lt
  have hzZ4 := I4.Z.lt
  go_wp2_with fail
  have I5 := I4.drew
  have hl5 : BoxesAt w4.drew l.ga l.gn l.gf := hl.2.keep I5.bel
  refine wp_region_held_drew (S := fun W => ((W.cell? ⟨w.heap.size, 0, none⟩ = some (.int .i64 l.id) ∧ W.cell? ⟨w.heap.size, 1, none⟩ = some (.int .i64 l.ticks) ∧ W.cell? ⟨w.heap.size, 2, none⟩ = some (.int .i64 l.sx) ∧ W.cell? ⟨w.heap.size, 3, none⟩ = some (.int .i64 l.sy) ∧ W.cell? ⟨w.heap.size, 4, none⟩ = some (.slice l.wa l.wn l.wc) ∧ W.cell? ⟨w.heap.size, 5, none⟩ = some (.slice l.ga l.gn l.gc) ∧ W.cell? ⟨w.heap.size, 6, none⟩ = some (.int .i64 l.flx) ∧ W.cell? ⟨w.heap.size, 7, none⟩ = some (.int .i64 l.fly) ∧ W.cell? ⟨w.heap.size, 8, none⟩ = some (.int .i64 l.fhx) ∧ W.cell? ⟨w.heap.size, 9, none⟩ = some (.int .i64 l.fhy) ∧ W.cell? ⟨w.heap.size, 10, none⟩ = some (.int .i64 l.bans)) ∧ (W.cell? ⟨w.heap.size + 1 + 1 + 1 + 1, 0, none⟩ = some (.int .i64 M.tick) ∧ W.cell? ⟨w.heap.size + 1 + 1 + 1 + 1, 1, none⟩ = some (.int .i64 M.ax) ∧ W.cell? ⟨w.heap.size + 1 + 1 + 1 + 1, 2, none⟩ = some (.int .i64 M.ay) ∧ W.cell? ⟨w.heap.size + 1 + 1 + 1 + 1, 3, none⟩ = some (.int .i64 M.fx) ∧ W.cell? ⟨w.heap.size + 1 + 1 + 1 + 1, 4, none⟩ = some (.int .i64 M.fy) ∧ W.cell? ⟨w.heap.size + 1 + 1 + 1 + 1, 5, none⟩ = some (.int .i64 M.turn) ∧ W.cell? ⟨w.heap.size + 1 + 1 + 1 + 1, 6, none⟩ = some (.int .i64 M.gate) ∧ W.cell? ⟨w.heap.size + 1 + 1 + 1 + 1, 7, none⟩ = some (.bool M.done) ∧ W.cell? ⟨w.heap.size + 1 + 1 + 1 + 1, 8, none⟩ = some (.bool M.over))) ∧ BoxesAt W l.ga l.gn l.gf) (by kernel_rfl) ⟨⟨I5.L.c11, I5.O.c9⟩, hl5⟩ (fun hHeld => ?_)
  simp only [List.size_toArray, List.length_cons, List.length_nil, Nat.zero_add, Nat.reduceAdd]
  (refine wpAnyH_take (i := 0) (v := ?_) rfl (by kernel_rfl) (by kernel_rfl) (by kernel_rfl) (fun _ _ _ h => h) (Or.inl ⟨by rfl, ?_⟩) (by assumption) ?_; rotate_left; · (intro w hSw; (try dsimp only at hSw); go_simp; (try with_reducible rfl))); (try simp only [Act.put, List.setIfInBounds_toArray, List.set_cons_zero, List.set_cons_succ])
  (refine wpAnyH_take (i := 1) (v := ?_) rfl (by kernel_rfl) (by kernel_rfl) (by kernel_rfl) (fun _ _ _ h => h) (Or.inl ⟨by rfl, ?_⟩) (by assumption) ?_; rotate_left; · (intro w hSw; (try dsimp only at hSw); go_simp; (try with_reducible rfl))); (try simp only [Act.put, List.setIfInBounds_toArray, List.set_cons_zero, List.set_cons_succ])
  (refine wpAnyH_take (i := 2) (v := ?_) rfl (by kernel_rfl) (by kernel_rfl) (by kernel_rfl) (fun _ _ _ h => h) (Or.inl ⟨by rfl, ?_⟩) (by assumption) ?_; rotate_left; · (intro w hSw; (try dsimp only at hSw); go_simp; (try with_reducible rfl))); (try simp only [Act.put, List.setIfInBounds_toArray, List.set_cons_zero, List.set_cons_succ])
  (refine wpAnyH_take (i := 3) (v := ?_) rfl (by kernel_rfl) (by kernel_rfl) (by kernel_rfl) (fun _ _ _ h => h) (Or.inl ⟨by rfl, ?_⟩) (by assumption) ?_; rotate_left; · (intro w hSw; (try dsimp only at hSw); go_simp; (try with_reducible rfl))); (try simp only [Act.put, List.setIfInBounds_toArray, List.set_cons_zero, List.set_cons_succ])
  (refine wpAnyH_take (i := 4) (v := ?_) rfl (by kernel_rfl) (by kernel_rfl) (by kernel_rfl) (fun _ _ _ h => h) (Or.inl ⟨by rfl, ?_⟩) (by assumption) ?_; rotate_left; · (intro w hSw; (try dsimp only at hSw); go_simp; (try with_reducible rfl))); (try simp only [Act.put, List.setIfInBounds_toArray, List.set_cons_zero, List.set_cons_succ])
  (refine wpAnyH_take (i := 5) (v := ?_) rfl (by kernel_rfl) (by kernel_rfl) (by kernel_rfl) (fun _ _ _ h => h) (Or.inl ⟨by rfl, ?_⟩) (by assumption) ?_; rotate_left; · (intro w hSw; (try dsimp only at hSw); go_simp; (try with_reducible rfl))); (try simp only [Act.put, List.setIfInBounds_toArray, List.set_cons_zero, List.set_cons_succ])
  (refine wpAnyH_take (i := 6) (v := ?_) rfl (by kernel_rfl) (by kernel_rfl) (by kernel_rfl) (fun _ _ _ h => h) (Or.inl ⟨by rfl, ?_⟩) (by assumption) ?_; rotate_left; · (intro w hSw; (try dsimp only at hSw); go_simp; (try with_reducible rfl))); (try simp only [Act.put, List.setIfInBounds_toArray, List.set_cons_zero, List.set_cons_succ])
  try simp only [hgd]
  (refine wpAnyH_take (i := 7) (v := ?_) rfl (by kernel_rfl) (by kernel_rfl) (by kernel_rfl) (fun _ _ _ h => h) (Or.inl ⟨by kernel_rfl, ?_⟩) (by assumption) ?_; rotate_left; · (intro w hSw; (try dsimp only at hSw); go_simp; (try with_reducible rfl))); (try simp only [Act.put, List.setIfInBounds_toArray, List.set_cons_zero, List.set_cons_succ])
  (refine wpAnyH_take (i := 8) (v := ?_) rfl (by kernel_rfl) (by kernel_rfl) (by kernel_rfl) (fun _ _ _ h => h) (Or.inl ⟨by kernel_rfl, ?_⟩) (by assumption) ?_; rotate_left; · (intro w hSw; (try dsimp only at hSw); go_simp; (try with_reducible rfl))); (try simp only [Act.put, List.setIfInBounds_toArray, List.set_cons_zero, List.set_cons_succ])
  (refine wpAnyH_take (i := 9) (v := ?_) rfl (by kernel_rfl) (by kernel_rfl) (by kernel_rfl) (fun _ _ _ h => h) (Or.inl ⟨by kernel_rfl, ?_⟩) (by assumption) ?_; rotate_left; · (intro w hSw; (try dsimp only at hSw); go_simp; (try with_reducible rfl))); (try simp only [Act.put, List.setIfInBounds_toArray, List.set_cons_zero, List.set_cons_succ])
  (refine wpAnyH_take (i := 10) (v := ?_) rfl (by kernel_rfl) (by kernel_rfl) (by kernel_rfl) (fun _ _ _ h => h) (Or.inl ⟨by kernel_rfl, ?_⟩) (by assumption) ?_; rotate_left; · (intro w hSw; (try dsimp only at hSw); go_simp; (try with_reducible rfl))); (try simp only [Act.put, List.setIfInBounds_toArray, List.set_cons_zero, List.set_cons_succ])
  refine wpAnyH_take (i := 11) (v := .pointer (some ⟨bb, off + m * 4, none⟩)) rfl (by kernel_rfl) (by kernel_rfl) (by kernel_rfl) (fun _ _ _ h => h) (Or.inl ⟨by kernel_rfl, ?_⟩) (by assumption) ?_
  · intro w hSw
    have hga := hGa.out
    have hmm := hMm.out
    clear hSw hHeld
    go_simp
  (try simp only [Act.put, List.setIfInBounds_toArray, List.set_cons_zero, List.set_cons_succ])
  refine wpAnyH_take (i := 12) (v := .agg #[.int .i64 (l.gf m).lx, .int .i64 (l.gf m).ly, .int .i64 (l.gf m).hx, .int .i64 (l.gf m).hy]) rfl (by kernel_rfl) (by kernel_rfl) (by kernel_rfl) (fun _ _ _ h => h) (Or.inl ⟨by kernel_rfl, ?_⟩) (by assumption) ?_
  · intro w hSw
    obtain ⟨_, hbx⟩ := hSw
    have hh := boxesAt_cells hbx hGa.out hmn
    obtain ⟨g0, g1, g2, g3⟩ := hh
    clear hHeld hbx
    go_simp
  (try simp only [Act.put, List.setIfInBounds_toArray, List.set_cons_zero, List.set_cons_succ])
  (refine wpAnyH_take (i := 13) (v := ?_) rfl (by kernel_rfl) (by kernel_rfl) (by kernel_rfl) (fun _ _ _ h => h) (Or.inl ⟨by kernel_rfl, ?_⟩) (by assumption) ?_; rotate_left; · (intro w hSw; (try dsimp only at hSw); go_simp; (try with_reducible rfl))); (try simp only [Act.put, List.setIfInBounds_toArray, List.set_cons_zero, List.set_cons_succ])
  (refine wpAnyH_take (i := 14) (v := ?_) rfl (by kernel_rfl) (by kernel_rfl) (by kernel_rfl) (fun _ _ _ h => h) (Or.inl ⟨by kernel_rfl, ?_⟩) (by assumption) ?_; rotate_left; · (intro w hSw; (try dsimp only at hSw); go_simp; (try with_reducible rfl))); (try simp only [Act.put, List.setIfInBounds_toArray, List.set_cons_zero, List.set_cons_succ])
  refine wpAnyH_ready (rs := [15]) (by kernel_rfl) (by simp) ?_; refine AllReadyH.cons rfl (fun K hK => ?_) AllReadyH.nil; (try simp only [List.getElem_toArray, List.getElem_cons_succ, List.getElem_cons_zero])
  go_simp
  go_at_call 127
  refine (sHas _ _ _ _ M.ax M.ay _).mono ?_
  rintro e w5 ⟨rfl, hb5⟩
  rw [hHh.out]
  have I6 := I5.pass hb5
  have hl6 : BoxesAt w5 l.ga l.gn l.gf := hl.2.keep I6.bel
  have hGG : gateF l M = if true then M.gate + 1 else M.gate := by unfold gateF; rw [hMt.out, hHh.out, hgd, Bool.true_and]
  go_wp2_with fail
  refine hK.out _ _ (⟨⟨I6.L.c11, I6.O.c9⟩, hl6⟩) (fun hHeld => ?_); clear hK K; (try simp only [Act.put, List.setIfInBounds_toArray, List.set_cons_zero, List.set_cons_succ])
  refine wpAnyH_ready (rs := [16]) (by kernel_rfl) (by simp) ?_; refine AllReadyH.cons rfl (fun K hK => ?_) AllReadyH.nil; (try simp only [List.getElem_toArray, List.getElem_cons_succ, List.getElem_cons_zero])
  go_simp
  refine hK.out _ _ (⟨⟨I6.L.c11, I6.O.c9⟩, hl6⟩) (fun hHeld => ?_); clear hK K; (try simp only [Act.put, List.setIfInBounds_toArray, List.set_cons_zero, List.set_cons_succ])
  refine wpAnyH_done (by kernel_rfl) ?_ _
  clear hHeld hb5
  have hGh := Lib.hid (show gateF l M = M.gate + 1 from hGG)
  clear hGG
  (try clear c0 c1 c2 c3 c4 c5 c6 c7 c8 of)
  obtain ⟨c0, c1, c2, c3, c4, c5, c6, c7, c8⟩ := I6.O.c9
  (try clear q0 q1 q2 q3 q4 q5 q6 q7 q8 q9 q10); obtain ⟨q0, q1, q2, q3, q4, q5, q6, q7, q8, q9, q10⟩ := I6.L.c11
  have of := I6.O.frozen
  have hzO6 := I6.O.lt
  have hzL6 := I6.L.lt
  have hzS6 := I6.S.lt
  have hzZ6 := I6.Z.lt
  have I8 : DI w l s d p b #[.int .i64 M.tick, .int .i64 M.ax, .int .i64 M.ay, .int .i64 M.fx, .int .i64 M.fy, .int .i64 M.turn, .int .i64 (M.gate + 1), .bool M.done, .bool M.over] (w5.setCell ⟨w.heap.size + 1 + 1 + 1 + 1, 6, none⟩ (.int .i64 (M.gate + 1))) := I6.set 6 (.int .i64 (M.gate + 1))
  go_upto_region 10 with fail
  obtain ⟨G, hG⟩ : ∃ G, G = M.gate + 1 := ⟨_, rfl⟩
  rw [← hG] at hGh I8 ⊢
  clear I6 hG
  generalize w5.setCell ⟨w.heap.size + 1 + 1 + 1 + 1, 6, none⟩ (.int .i64 G) = w8 at *
  by_cases hd : G = (l.gn : Int)
  · have hdb : (G == ((l.gn : Nat) : Int)) = true := by simpa using hd
    have hdh := Lib.hid hd
    clear hd
    (try clear c0 c1 c2 c3 c4 c5 c6 c7 c8 of)
    obtain ⟨c0, c1, c2, c3, c4, c5, c6, c7, c8⟩ := I8.O.c9
    (try clear q0 q1 q2 q3 q4 q5 q6 q7 q8 q9 q10); obtain ⟨q0, q1, q2, q3, q4, q5, q6, q7, q8, q9, q10⟩ := I8.L.c11
    have of := I8.O.frozen
    have hzO8 := I8.O.lt
    have hzL8 := I8.L.lt
    have hzS8 := I8.S.lt
    have hzZ8 := I8.Z.lt
    go_wp2_with fail
    refine (sHas l.flx l.fly l.fhx l.fhy M.ax M.ay _).mono ?_
    rintro e w9 ⟨rfl, hb9⟩
    have I9 := I8.pass hb9
    obtain ⟨D, hD⟩ : ∃ D, D = hasB l.flx l.fly l.fhx l.fhy M.ax M.ay := ⟨_, rfl⟩
    rw [← hD]
    have hDh := Lib.hid (show doneF l M = D by unfold doneF; rw [hGh.out, decide_eq_true hdh.out, hD]; rfl)
    clear hD hb9
    (try clear c0 c1 c2 c3 c4 c5 c6 c7 c8 of)
    obtain ⟨c0, c1, c2, c3, c4, c5, c6, c7, c8⟩ := I9.O.c9
    (try clear q0 q1 q2 q3 q4 q5 q6 q7 q8 q9 q10); obtain ⟨q0, q1, q2, q3, q4, q5, q6, q7, q8, q9, q10⟩ := I9.L.c11
    have of := I9.O.frozen
    have hzO9 := I9.O.lt
    have hzL9 := I9.L.lt
    have hzS9 := I9.S.lt
    have hzZ9 := I9.Z.lt
    have I9 : DI w l s d p b #[.int .i64 M.tick, .int .i64 M.ax, .int .i64 M.ay, .int .i64 M.fx, .int .i64 M.fy, .int .i64 M.turn, .int .i64 G, .bool D, .bool M.over] (w9.setCell ⟨w.heap.size + 1 + 1 + 1 + 1, 7, none⟩ (.bool D)) := I9.set 7 (.bool D)
    have hO := Lib.hid I9.O
    have hZ := Lib.hid I9.Z
    have hBB := Lib.hid I9.bel
    have hRR := Lib.hid (I9.Z.row #[.int .i64 M.tick, .int .i64 M.ax, .int .i64 M.ay, .int .i64 M.fx, .int .i64 M.fy, .int .i64 M.turn, .int .i64 G, .bool D, .bool M.over])
    go_upto_region 11 with fail
    refine wp_copy (ty := 31) rfl hO.out Try.underlying31 rfl (by kernel_rfl) rfl rfl hZ.out rfl (by simp [Value.oneCell']) ?_
    rename_i K hK
    refine hK _ _ (wp_ret ?_)
    refine bodyPost_ret (res_row rfl rfl hRR.out Try.underlying31 rfl (by kernel_rfl)) rfl ?_
    exact ⟨by rw [drive_in (by rw [← hMh.out]; exact hvk.out), ← hMh.out]; simp only [hGh.out, hDh.out], Below.setRow hBB.out (by omega) _⟩
  · have hdb : (G == ((l.gn : Nat) : Int)) = false := by simpa using hd
    have hDh := Lib.hid (show doneF l M = false by unfold doneF; rw [hGh.out, decide_eq_false hd]; rfl)
    clear hd
    (try clear c0 c1 c2 c3 c4 c5 c6 c7 c8 of)
    obtain ⟨c0, c1, c2, c3, c4, c5, c6, c7, c8⟩ := I8.O.c9
    (try clear q0 q1 q2 q3 q4 q5 q6 q7 q8 q9 q10); obtain ⟨q0, q1, q2, q3, q4, q5, q6, q7, q8, q9, q10⟩ := I8.L.c11
    have of := I8.O.frozen
    have hzO8 := I8.O.lt
    have hzL8 := I8.L.lt
    have hzS8 := I8.S.lt
    have hzZ8 := I8.Z.lt
    have I9 : DI w l s d p b #[.int .i64 M.tick, .int .i64 M.ax, .int .i64 M.ay, .int .i64 M.fx, .int .i64 M.fy, .int .i64 M.turn, .int .i64 G, .bool false, .bool M.over] (w8.setCell ⟨w.heap.size + 1 + 1 + 1 + 1, 7, none⟩ (.bool false)) := I8.set 7 (.bool false)
    have hO := Lib.hid I9.O
    have hZ := Lib.hid I9.Z
    have hBB := Lib.hid I9.bel
    have hRR := Lib.hid (I9.Z.row #[.int .i64 M.tick, .int .i64 M.ax, .int .i64 M.ay, .int .i64 M.fx, .int .i64 M.fy, .int .i64 M.turn, .int .i64 G, .bool false, .bool M.over])
    go_upto_region 11 with fail
    refine wp_copy (ty := 31) rfl hO.out Try.underlying31 rfl (by kernel_rfl) rfl rfl hZ.out rfl (by simp [Value.oneCell']) ?_
    rename_i K hK
    refine hK _ _ (wp_ret ?_)
    refine bodyPost_ret (res_row rfl rfl hRR.out Try.underlying31 rfl (by kernel_rfl)) rfl ?_
    exact ⟨by rw [drive_in (by rw [← hMh.out]; exact hvk.out), ← hMh.out]; simp only [hGh.out, hDh.out], Below.setRow hBB.out (by omega) _⟩
end Go.Proofs.Ytnhjalijnociaaa

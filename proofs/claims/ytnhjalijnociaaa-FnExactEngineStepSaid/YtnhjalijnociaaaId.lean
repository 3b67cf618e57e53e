/- A tick, by the program: driving and pausing, the check of its arguments. -/
import Derived.Test.YtnhjalijnociaaaIcA
import Derived.Test.YtnhjalijnociaaaIcB
import Derived.Test.YtnhjalijnociaaaIcC
import Derived.Test.YtnhjalijnociaaaIcD
import Derived.Test.YtnhjalijnociaaaIf
set_option linter.unusedVariables false
set_option linter.unusedSimpArgs false
namespace Go.Proofs.Ytnhjalijnociaaa
open Go.RowKit

theorem iDrive (l : Lv) (s : St) (d p : Int) (w : World) (hk : l.ok = true) (hl : LvAt w l) (ha : vokB s.ax s.ay = true) (h : len s.fx s.fy ≤ 2000) (t0 : 0 ≤ s.turn) (t1 : s.turn ≤ 15) (g0 : 0 ≤ s.gate) (g1 : s.gate ≤ 1000) (k0 : -1000 ≤ s.tick) (k1 : s.tick ≤ 1000) (d0 : -16 ≤ d) (d1 : d ≤ 1000) : Calls Try.prog 105 #[.agg #[.int .i64 d, .int .i64 p], .agg #[.int .i64 l.id, .int .i64 l.ticks, .int .i64 l.sx, .int .i64 l.sy, .slice l.wa l.wn l.wc, .slice l.ga l.gn l.gc, .int .i64 l.flx, .int .i64 l.fly, .int .i64 l.fhx, .int .i64 l.fhy, .int .i64 l.bans], .agg #[.int .i64 s.tick, .int .i64 s.ax, .int .i64 s.ay, .int .i64 s.fx, .int .i64 s.fy, .int .i64 s.turn, .int .i64 s.gate, .bool s.done, .bool s.over]] w fun e w' => e = .returned (.agg #[.int .i64 (driveF l { s with tick := s.tick + 1 } d p).tick, .int .i64 (driveF l { s with tick := s.tick + 1 } d p).ax, .int .i64 (driveF l { s with tick := s.tick + 1 } d p).ay, .int .i64 (driveF l { s with tick := s.tick + 1 } d p).fx, .int .i64 (driveF l { s with tick := s.tick + 1 } d p).fy, .int .i64 (driveF l { s with tick := s.tick + 1 } d p).turn, .int .i64 (driveF l { s with tick := s.tick + 1 } d p).gate, .bool (driveF l { s with tick := s.tick + 1 } d p).done, .bool (driveF l { s with tick := s.tick + 1 } d p).over]) ∧ Below w.heap.size w w' := by
  cases hv : vokB (movedF l { s with tick := s.tick + 1 } d p).ax (movedF l { s with tick := s.tick + 1 } d p).ay with
  | false => exact iDrive_out l s d p w hk hl ha h t0 t1 g0 g1 k0 k1 d0 d1 hv
  | true =>
    by_cases hg : (movedF l { s with tick := s.tick + 1 } d p).gate < (l.gn : Int)
    · cases hH : hasB (l.gf (movedF l { s with tick := s.tick + 1 } d p).gate.toNat).lx (l.gf (movedF l { s with tick := s.tick + 1 } d p).gate.toNat).ly (l.gf (movedF l { s with tick := s.tick + 1 } d p).gate.toNat).hx (l.gf (movedF l { s with tick := s.tick + 1 } d p).gate.toNat).hy (movedF l { s with tick := s.tick + 1 } d p).ax (movedF l { s with tick := s.tick + 1 } d p).ay with
      | false => exact iDrive_gno l s d p w hk hl ha h t0 t1 g0 g1 k0 k1 d0 d1 hv hg hH
      | true => exact iDrive_gyes l s d p w hk hl ha h t0 t1 g0 g1 k0 k1 d0 d1 hv hg hH
    · exact iDrive_nog l s d p w hk hl ha h t0 t1 g0 g1 k0 k1 d0 d1 hv hg
attribute [local go_sem ↓] run_ta_pauses run_ta_drives run_ta_no
set_option maxRecDepth 100000 in
set_option maxHeartbeats 1000000 in
theorem after_drive (l : Lv) (tick ax ay fx fy turn gate : Int) (d p : Int) (w : World) (hk : l.ok = true) (hl : LvAt w l) (ha : vokB ax ay = true) (h : len fx fy ≤ 2000) (t0 : 0 ≤ turn) (t1 : turn ≤ 15) (g0 : 0 ≤ gate) (g1 : gate ≤ 1000) (k0 : -1000 ≤ tick) (k1 : tick ≤ 1000) (d0 : -16 ≤ d) (d1 : d ≤ 1000) (R : St) (hR : driveF l ⟨tick + 1, ax, ay, fx, fy, turn, gate, false, false⟩ d p = R) : Calls Try.prog 62 #[.agg #[.int .i64 l.id, .int .i64 l.ticks, .int .i64 l.sx, .int .i64 l.sy, .slice l.wa l.wn l.wc, .slice l.ga l.gn l.gc, .int .i64 l.flx, .int .i64 l.fly, .int .i64 l.fhx, .int .i64 l.fhy, .int .i64 l.bans], .agg #[.int .i64 tick, .int .i64 ax, .int .i64 ay, .int .i64 fx, .int .i64 fy, .int .i64 turn, .int .i64 gate, .bool false, .bool false], .agg #[.int .i64 d, .int .i64 p, .bool false]] w fun e w' => e = .returned (.agg #[.int .i64 R.tick, .int .i64 R.ax, .int .i64 R.ay, .int .i64 R.fx, .int .i64 R.fy, .int .i64 R.turn, .int .i64 R.gate, .bool R.done, .bool R.over]) ∧ Below w.heap.size w w' := by
  go_enter Try.func62, Try.ntmps62
  go_wp2_with fail
  refine (iCtl d p false _).mono ?_
  rintro e w1 ⟨rfl, hb1⟩
  have I1 : AJ w l #[.int .i64 tick, .int .i64 ax, .int .i64 ay, .int .i64 fx, .int .i64 fy, .int .i64 turn, .int .i64 gate, .bool false, .bool false] w1 := AJ.pass (w := ((((w.alloc (.cells #[.int .i64 l.id, .int .i64 l.ticks, .int .i64 l.sx, .int .i64 l.sy, .slice l.wa l.wn l.wc, .slice l.ga l.gn l.gc, .int .i64 l.flx, .int .i64 l.fly, .int .i64 l.fhx, .int .i64 l.fhy, .int .i64 l.bans] 29)).alloc (.cells #[.int .i64 tick, .int .i64 ax, .int .i64 ay, .int .i64 fx, .int .i64 fy, .int .i64 turn, .int .i64 gate, .bool false, .bool false] 31)).alloc (.cells #[.int .i64 d, .int .i64 p, .bool false] 33)).alloc (.cells #[.int .i64 0, .int .i64 0, .int .i64 0, .int .i64 0, .int .i64 0, .int .i64 0, .int .i64 0, .bool false, .bool false] 31))) ⟨((Blk.at rfl).alloc _).alloc _ |>.alloc _, ((Blk.at (by simp)).alloc _).alloc _, Blk.at (by simp), by (repeat (first | with_reducible assumption | with_reducible exact Below.refl _ _ | ((with_reducible refine Below.alloc ?_ ?_ _); rotate_left; · exact (by first | omega | (simp; done) | (simp; omega))) | ((with_reducible refine Below.setCell ?_ ?_ _); rotate_left; · exact (by first | omega | (simp; done) | (simp; omega))) | with_reducible refine Below.drew ?_ | assumption | exact Below.refl _ _ | refine Below.alloc ?_ (by first | omega | (simp; done) | (simp; omega)) _ | refine Below.setCell ?_ (by first | omega | (simp; done) | (simp; omega)) _ | refine Below.drew ?_))⟩ hb1
  clear hb1
  rw [show ctl d p false = .iface 122 (.agg #[.int .i64 d, .int .i64 p]) from rfl]
  (try clear q0 q1 q2 q3 q4 q5 q6 q7 q8 q9 q10); obtain ⟨q0, q1, q2, q3, q4, q5, q6, q7, q8, q9, q10⟩ := I1.L.c11
  obtain ⟨c0, c1, c2, c3, c4, c5, c6, c7, c8⟩ := I1.S.c9
  have hzS := I1.S.lt
  have hzL := I1.L.lt
  go_wp2_with fail
  have I2 := I1.alloc (.cells #[.int .i64 d, .int .i64 p] 122)
  refine (iDrive l ⟨tick, ax, ay, fx, fy, turn, gate, false, false⟩ d p _ hk (hl.keep I2.bel) ha h t0 t1 g0 g1 k0 k1 d0 d1).mono ?_
  dsimp only
  rw [hR]
  rintro e w3 ⟨rfl, hb3⟩
  have I3 := I2.pass hb3
  have hRR := Lib.hid (I3.Z.row #[.int .i64 R.tick, .int .i64 R.ax, .int .i64 R.ay, .int .i64 R.fx, .int .i64 R.fy, .int .i64 R.turn, .int .i64 R.gate, .bool R.done, .bool R.over])
  have hZ3 := Lib.hid I3.Z
  have hB3 := Lib.hid I3.bel
  clear hb3 I1 I2 I3
  rename_i K hK
  refine hK _ _ ?_
  refine st_row rfl rfl hZ3.out (by kernel_rfl) rfl (by simp [Value.oneCell']) ?_
  refine wpList_nil ?_
  clear hK K
  rename_i K hK
  refine hK _ _ (wp_ret ?_)
  simp only [Exit.then, Exit.inBlock]
  show bodyPost _ _ _ _ _ _
  refine bodyPost_ret (res_row rfl rfl hRR.out Try.underlying31 rfl (by kernel_rfl)) rfl ?_
  exact ⟨rfl, Below.setRow hB3.out (by omega) _⟩
theorem iAfter (l : Lv) (s : St) (d p : Int) (b : Bool) (w : World) (hk : l.ok = true) (hl : LvAt w l) (ha : vokB s.ax s.ay = true) (h : len s.fx s.fy ≤ 2000) (t0 : 0 ≤ s.turn) (t1 : s.turn ≤ 15) (g0 : 0 ≤ s.gate) (g1 : s.gate ≤ 1000) (k0 : -1000 ≤ s.tick) (k1 : s.tick ≤ 1000) (d0 : -16 ≤ d) (d1 : d ≤ 1000) : Calls Try.prog 62 #[.agg #[.int .i64 l.id, .int .i64 l.ticks, .int .i64 l.sx, .int .i64 l.sy, .slice l.wa l.wn l.wc, .slice l.ga l.gn l.gc, .int .i64 l.flx, .int .i64 l.fly, .int .i64 l.fhx, .int .i64 l.fhy, .int .i64 l.bans], .agg #[.int .i64 s.tick, .int .i64 s.ax, .int .i64 s.ay, .int .i64 s.fx, .int .i64 s.fy, .int .i64 s.turn, .int .i64 s.gate, .bool s.done, .bool s.over], .agg #[.int .i64 d, .int .i64 p, .bool b]] w fun e w' => e = .returned (.agg #[.int .i64 (stepF l s d p b).tick, .int .i64 (stepF l s d p b).ax, .int .i64 (stepF l s d p b).ay, .int .i64 (stepF l s d p b).fx, .int .i64 (stepF l s d p b).fy, .int .i64 (stepF l s d p b).turn, .int .i64 (stepF l s d p b).gate, .bool (stepF l s d p b).done, .bool (stepF l s d p b).over]) ∧ Below w.heap.size w w' := by
  obtain ⟨tick, ax, ay, fx, fy, turn, gate, done, over⟩ := s
  simp only at ha h t0 t1 g0 g1 k0 k1 ⊢
  cases done with
  | true =>
    rw [step_rest (l := l) (s := ⟨tick, ax, ay, fx, fy, turn, gate, true, over⟩) (d := d) (p := p) (b := b) rfl]
    exact after_done l tick ax ay fx fy turn gate over d p b w
  | false =>
    cases over with
    | true =>
      rw [step_rest (l := l) (s := ⟨tick, ax, ay, fx, fy, turn, gate, false, true⟩) (d := d) (p := p) (b := b) rfl]
      exact after_over l tick ax ay fx fy turn gate d p b w
    | false =>
      cases b with
      | true =>
        rw [step_pause (l := l) (s := ⟨tick, ax, ay, fx, fy, turn, gate, false, false⟩) (d := d) (p := p) rfl]
        exact after_pause l tick ax ay fx fy turn gate d p w k0 k1
      | false =>
        rw [step_drive (l := l) (s := ⟨tick, ax, ay, fx, fy, turn, gate, false, false⟩) (d := d) (p := p) rfl]
        exact after_drive l tick ax ay fx fy turn gate d p w hk hl ha h t0 t1 g0 g1 k0 k1 d0 d1 _ rfl
end Go.Proofs.Ytnhjalijnociaaa

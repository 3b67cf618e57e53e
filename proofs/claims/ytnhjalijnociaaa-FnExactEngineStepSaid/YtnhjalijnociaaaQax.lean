/- A tick, by the reference. -/
import Derived.Test.YtnhjalijnociaaaQaw
/- A tick, by the reference. -/
set_option linter.unusedVariables false
set_option linter.unusedSimpArgs false
namespace Go.Proofs.Ytnhjalijnociaaa
open Go.RowKit

theorem sDrive (l : Lv) (s : St) (d p : Int) (b : Bool) (w : World) (hn : l.wn ≤ 1099511627776) (hl : LvAt w l) (hv : bxsB l.wf l.wn = true) (ha : vokB s.ax s.ay = true) (h : len s.fx s.fy ≤ 2000) (t0 : 0 ≤ s.turn) (t1 : s.turn ≤ 15) (g0 : 0 ≤ s.gate) (g1 : s.gate ≤ 1000) (d0 : -16 ≤ d) (d1 : d ≤ 1000) : Calls Try.prog 106 #[.agg #[.int .i64 l.id, .int .i64 l.ticks, .int .i64 l.sx, .int .i64 l.sy, .slice l.wa l.wn l.wc, .slice l.ga l.gn l.gc, .int .i64 l.flx, .int .i64 l.fly, .int .i64 l.fhx, .int .i64 l.fhy, .int .i64 l.bans], .agg #[.int .i64 s.tick, .int .i64 s.ax, .int .i64 s.ay, .int .i64 s.fx, .int .i64 s.fy, .int .i64 s.turn, .int .i64 s.gate, .bool s.done, .bool s.over], .agg #[.int .i64 d, .int .i64 p, .bool b]] w fun e w' => e = .returned (.agg #[.int .i64 (driveF l s d p).tick, .int .i64 (driveF l s d p).ax, .int .i64 (driveF l s d p).ay, .int .i64 (driveF l s d p).fx, .int .i64 (driveF l s d p).fy, .int .i64 (driveF l s d p).turn, .int .i64 (driveF l s d p).gate, .bool (driveF l s d p).done, .bool (driveF l s d p).over]) ∧ Below w.heap.size w w' := by
  cases hvk : vokB (movedF l s d p).ax (movedF l s d p).ay with
  | false => exact sDrive_out l s d p b w hn hl hv ha h t0 t1 g0 g1 d0 d1 hvk
  | true =>
    by_cases hg : (movedF l s d p).gate < (l.gn : Int)
    · cases hH : hasB (l.gf (movedF l s d p).gate.toNat).lx (l.gf (movedF l s d p).gate.toNat).ly (l.gf (movedF l s d p).gate.toNat).hx (l.gf (movedF l s d p).gate.toNat).hy (movedF l s d p).ax (movedF l s d p).ay with
      | false => exact sDrive_gno l s d p b w hn hl hv ha h t0 t1 g0 g1 d0 d1 hvk hg hH
      | true => exact sDrive_gyes l s d p b w hn hl hv ha h t0 t1 g0 g1 d0 d1 hvk hg hH
    · exact sDrive_nog l s d p b w hn hl hv ha h t0 t1 g0 g1 d0 d1 hvk hg
set_option maxRecDepth 100000 in
set_option maxHeartbeats 1000000 in
theorem tick_done (l : Lv) (tick ax ay fx fy turn gate d p : Int) (b : Bool) (w : World) (over : Bool) : Calls Try.prog 63 #[.agg #[.int .i64 l.id, .int .i64 l.ticks, .int .i64 l.sx, .int .i64 l.sy, .slice l.wa l.wn l.wc, .slice l.ga l.gn l.gc, .int .i64 l.flx, .int .i64 l.fly, .int .i64 l.fhx, .int .i64 l.fhy, .int .i64 l.bans], .agg #[.int .i64 tick, .int .i64 ax, .int .i64 ay, .int .i64 fx, .int .i64 fy, .int .i64 turn, .int .i64 gate, .bool true, .bool over], .agg #[.int .i64 d, .int .i64 p, .bool b]] w fun e w' => e = .returned (.agg #[.int .i64 tick, .int .i64 ax, .int .i64 ay, .int .i64 fx, .int .i64 fy, .int .i64 turn, .int .i64 gate, .bool true, .bool over]) ∧ Below w.heap.size w w' := by
  have L1 : Blk ((((w.alloc (.cells #[.int .i64 l.id, .int .i64 l.ticks, .int .i64 l.sx, .int .i64 l.sy, .slice l.wa l.wn l.wc, .slice l.ga l.gn l.gc, .int .i64 l.flx, .int .i64 l.fly, .int .i64 l.fhx, .int .i64 l.fhy, .int .i64 l.bans] 29)).alloc (.cells #[.int .i64 tick, .int .i64 ax, .int .i64 ay, .int .i64 fx, .int .i64 fy, .int .i64 turn, .int .i64 gate, .bool true, .bool over] 31)).alloc (.cells #[.int .i64 d, .int .i64 p, .bool b] 33)).alloc (.cells #[.int .i64 0, .int .i64 0, .int .i64 0, .int .i64 0, .int .i64 0, .int .i64 0, .int .i64 0, .bool false, .bool false] 31)) w.heap.size #[.int .i64 l.id, .int .i64 l.ticks, .int .i64 l.sx, .int .i64 l.sy, .slice l.wa l.wn l.wc, .slice l.ga l.gn l.gc, .int .i64 l.flx, .int .i64 l.fly, .int .i64 l.fhx, .int .i64 l.fhy, .int .i64 l.bans] := (((Blk.at rfl).alloc _).alloc _).alloc _
  have S1 : Blk ((((w.alloc (.cells #[.int .i64 l.id, .int .i64 l.ticks, .int .i64 l.sx, .int .i64 l.sy, .slice l.wa l.wn l.wc, .slice l.ga l.gn l.gc, .int .i64 l.flx, .int .i64 l.fly, .int .i64 l.fhx, .int .i64 l.fhy, .int .i64 l.bans] 29)).alloc (.cells #[.int .i64 tick, .int .i64 ax, .int .i64 ay, .int .i64 fx, .int .i64 fy, .int .i64 turn, .int .i64 gate, .bool true, .bool over] 31)).alloc (.cells #[.int .i64 d, .int .i64 p, .bool b] 33)).alloc (.cells #[.int .i64 0, .int .i64 0, .int .i64 0, .int .i64 0, .int .i64 0, .int .i64 0, .int .i64 0, .bool false, .bool false] 31)) (w.heap.size + 1) #[.int .i64 tick, .int .i64 ax, .int .i64 ay, .int .i64 fx, .int .i64 fy, .int .i64 turn, .int .i64 gate, .bool true, .bool over] := ((Blk.at (by simp)).alloc _).alloc _
  have Z1 : Blk ((((w.alloc (.cells #[.int .i64 l.id, .int .i64 l.ticks, .int .i64 l.sx, .int .i64 l.sy, .slice l.wa l.wn l.wc, .slice l.ga l.gn l.gc, .int .i64 l.flx, .int .i64 l.fly, .int .i64 l.fhx, .int .i64 l.fhy, .int .i64 l.bans] 29)).alloc (.cells #[.int .i64 tick, .int .i64 ax, .int .i64 ay, .int .i64 fx, .int .i64 fy, .int .i64 turn, .int .i64 gate, .bool true, .bool over] 31)).alloc (.cells #[.int .i64 d, .int .i64 p, .bool b] 33)).alloc (.cells #[.int .i64 0, .int .i64 0, .int .i64 0, .int .i64 0, .int .i64 0, .int .i64 0, .int .i64 0, .bool false, .bool false] 31)) (w.heap.size + 1 + 1 + 1) #[.int .i64 0, .int .i64 0, .int .i64 0, .int .i64 0, .int .i64 0, .int .i64 0, .int .i64 0, .bool false, .bool false] := Blk.at (by simp)
  have hB1 : Below w.heap.size w ((((w.alloc (.cells #[.int .i64 l.id, .int .i64 l.ticks, .int .i64 l.sx, .int .i64 l.sy, .slice l.wa l.wn l.wc, .slice l.ga l.gn l.gc, .int .i64 l.flx, .int .i64 l.fly, .int .i64 l.fhx, .int .i64 l.fhy, .int .i64 l.bans] 29)).alloc (.cells #[.int .i64 tick, .int .i64 ax, .int .i64 ay, .int .i64 fx, .int .i64 fy, .int .i64 turn, .int .i64 gate, .bool true, .bool over] 31)).alloc (.cells #[.int .i64 d, .int .i64 p, .bool b] 33)).alloc (.cells #[.int .i64 0, .int .i64 0, .int .i64 0, .int .i64 0, .int .i64 0, .int .i64 0, .int .i64 0, .bool false, .bool false] 31)) := by (repeat (first | with_reducible assumption | with_reducible exact Below.refl _ _ | ((with_reducible refine Below.alloc ?_ ?_ _); rotate_left; · exact (by first | omega | (simp; done) | (simp; omega))) | ((with_reducible refine Below.setCell ?_ ?_ _); rotate_left; · exact (by first | omega | (simp; done) | (simp; omega))) | with_reducible refine Below.drew ?_ | assumption | exact Below.refl _ _ | refine Below.alloc ?_ (by first | omega | (simp; done) | (simp; omega)) _ | refine Below.setCell ?_ (by first | omega | (simp; done) | (simp; omega)) _ | refine Below.drew ?_))
  have hS := Lib.hid (S1)
  have hZ := Lib.hid (Z1)
  have hB2 := hB1
  have hRR := Lib.hid (hZ.out.row #[.int .i64 tick, .int .i64 ax, .int .i64 ay, .int .i64 fx, .int .i64 fy, .int .i64 turn, .int .i64 gate, .bool true, .bool over])
  have hBB := Lib.hid hB2
  clear L1 S1 Z1 hB1 hB2
  go_enter Try.func63, Try.ntmps63
  go_upto_region 2 with fail
  refine wp_copy (ty := 31) rfl hS.out Try.underlying31 rfl (by kernel_rfl) rfl rfl hZ.out rfl (by simp [Value.oneCell']) ?_
  rename_i K hK
  refine hK _ _ (wp_ret ?_)
  simp only [Exit.then]
  show bodyPost _ _ _ _ _ _
  refine bodyPost_ret (res_row rfl rfl hRR.out Try.underlying31 rfl (by kernel_rfl)) rfl ?_
  exact ⟨rfl, Below.setRow hBB.out (by omega) _⟩
set_option maxRecDepth 100000 in
set_option maxHeartbeats 1000000 in
theorem tick_over (l : Lv) (tick ax ay fx fy turn gate d p : Int) (b : Bool) (w : World) : Calls Try.prog 63 #[.agg #[.int .i64 l.id, .int .i64 l.ticks, .int .i64 l.sx, .int .i64 l.sy, .slice l.wa l.wn l.wc, .slice l.ga l.gn l.gc, .int .i64 l.flx, .int .i64 l.fly, .int .i64 l.fhx, .int .i64 l.fhy, .int .i64 l.bans], .agg #[.int .i64 tick, .int .i64 ax, .int .i64 ay, .int .i64 fx, .int .i64 fy, .int .i64 turn, .int .i64 gate, .bool false, .bool true], .agg #[.int .i64 d, .int .i64 p, .bool b]] w fun e w' => e = .returned (.agg #[.int .i64 tick, .int .i64 ax, .int .i64 ay, .int .i64 fx, .int .i64 fy, .int .i64 turn, .int .i64 gate, .bool false, .bool true]) ∧ Below w.heap.size w w' := by
  have L1 : Blk ((((w.alloc (.cells #[.int .i64 l.id, .int .i64 l.ticks, .int .i64 l.sx, .int .i64 l.sy, .slice l.wa l.wn l.wc, .slice l.ga l.gn l.gc, .int .i64 l.flx, .int .i64 l.fly, .int .i64 l.fhx, .int .i64 l.fhy, .int .i64 l.bans] 29)).alloc (.cells #[.int .i64 tick, .int .i64 ax, .int .i64 ay, .int .i64 fx, .int .i64 fy, .int .i64 turn, .int .i64 gate, .bool false, .bool true] 31)).alloc (.cells #[.int .i64 d, .int .i64 p, .bool b] 33)).alloc (.cells #[.int .i64 0, .int .i64 0, .int .i64 0, .int .i64 0, .int .i64 0, .int .i64 0, .int .i64 0, .bool false, .bool false] 31)) w.heap.size #[.int .i64 l.id, .int .i64 l.ticks, .int .i64 l.sx, .int .i64 l.sy, .slice l.wa l.wn l.wc, .slice l.ga l.gn l.gc, .int .i64 l.flx, .int .i64 l.fly, .int .i64 l.fhx, .int .i64 l.fhy, .int .i64 l.bans] := (((Blk.at rfl).alloc _).alloc _).alloc _
  have S1 : Blk ((((w.alloc (.cells #[.int .i64 l.id, .int .i64 l.ticks, .int .i64 l.sx, .int .i64 l.sy, .slice l.wa l.wn l.wc, .slice l.ga l.gn l.gc, .int .i64 l.flx, .int .i64 l.fly, .int .i64 l.fhx, .int .i64 l.fhy, .int .i64 l.bans] 29)).alloc (.cells #[.int .i64 tick, .int .i64 ax, .int .i64 ay, .int .i64 fx, .int .i64 fy, .int .i64 turn, .int .i64 gate, .bool false, .bool true] 31)).alloc (.cells #[.int .i64 d, .int .i64 p, .bool b] 33)).alloc (.cells #[.int .i64 0, .int .i64 0, .int .i64 0, .int .i64 0, .int .i64 0, .int .i64 0, .int .i64 0, .bool false, .bool false] 31)) (w.heap.size + 1) #[.int .i64 tick, .int .i64 ax, .int .i64 ay, .int .i64 fx, .int .i64 fy, .int .i64 turn, .int .i64 gate, .bool false, .bool true] := ((Blk.at (by simp)).alloc _).alloc _
  have Z1 : Blk ((((w.alloc (.cells #[.int .i64 l.id, .int .i64 l.ticks, .int .i64 l.sx, .int .i64 l.sy, .slice l.wa l.wn l.wc, .slice l.ga l.gn l.gc, .int .i64 l.flx, .int .i64 l.fly, .int .i64 l.fhx, .int .i64 l.fhy, .int .i64 l.bans] 29)).alloc (.cells #[.int .i64 tick, .int .i64 ax, .int .i64 ay, .int .i64 fx, .int .i64 fy, .int .i64 turn, .int .i64 gate, .bool false, .bool true] 31)).alloc (.cells #[.int .i64 d, .int .i64 p, .bool b] 33)).alloc (.cells #[.int .i64 0, .int .i64 0, .int .i64 0, .int .i64 0, .int .i64 0, .int .i64 0, .int .i64 0, .bool false, .bool false] 31)) (w.heap.size + 1 + 1 + 1) #[.int .i64 0, .int .i64 0, .int .i64 0, .int .i64 0, .int .i64 0, .int .i64 0, .int .i64 0, .bool false, .bool false] := Blk.at (by simp)
  have hB1 : Below w.heap.size w ((((w.alloc (.cells #[.int .i64 l.id, .int .i64 l.ticks, .int .i64 l.sx, .int .i64 l.sy, .slice l.wa l.wn l.wc, .slice l.ga l.gn l.gc, .int .i64 l.flx, .int .i64 l.fly, .int .i64 l.fhx, .int .i64 l.fhy, .int .i64 l.bans] 29)).alloc (.cells #[.int .i64 tick, .int .i64 ax, .int .i64 ay, .int .i64 fx, .int .i64 fy, .int .i64 turn, .int .i64 gate, .bool false, .bool true] 31)).alloc (.cells #[.int .i64 d, .int .i64 p, .bool b] 33)).alloc (.cells #[.int .i64 0, .int .i64 0, .int .i64 0, .int .i64 0, .int .i64 0, .int .i64 0, .int .i64 0, .bool false, .bool false] 31)) := by (repeat (first | with_reducible assumption | with_reducible exact Below.refl _ _ | ((with_reducible refine Below.alloc ?_ ?_ _); rotate_left; · exact (by first | omega | (simp; done) | (simp; omega))) | ((with_reducible refine Below.setCell ?_ ?_ _); rotate_left; · exact (by first | omega | (simp; done) | (simp; omega))) | with_reducible refine Below.drew ?_ | assumption | exact Below.refl _ _ | refine Below.alloc ?_ (by first | omega | (simp; done) | (simp; omega)) _ | refine Below.setCell ?_ (by first | omega | (simp; done) | (simp; omega)) _ | refine Below.drew ?_))
  have hS := Lib.hid (S1)
  have hZ := Lib.hid (Z1)
  have hB2 := hB1
  have hRR := Lib.hid (hZ.out.row #[.int .i64 tick, .int .i64 ax, .int .i64 ay, .int .i64 fx, .int .i64 fy, .int .i64 turn, .int .i64 gate, .bool false, .bool true])
  have hBB := Lib.hid hB2
  clear L1 S1 Z1 hB1 hB2
  go_enter Try.func63, Try.ntmps63
  go_upto_region 2 with fail
  refine wp_copy (ty := 31) rfl hS.out Try.underlying31 rfl (by kernel_rfl) rfl rfl hZ.out rfl (by simp [Value.oneCell']) ?_
  rename_i K hK
  refine hK _ _ (wp_ret ?_)
  simp only [Exit.then]
  show bodyPost _ _ _ _ _ _
  refine bodyPost_ret (res_row rfl rfl hRR.out Try.underlying31 rfl (by kernel_rfl)) rfl ?_
  exact ⟨rfl, Below.setRow hBB.out (by omega) _⟩
set_option maxRecDepth 100000 in
set_option maxHeartbeats 1000000 in
theorem tick_pause (l : Lv) (tick ax ay fx fy turn gate d p : Int) (b : Bool) (w : World) (k0 : -1000 ≤ tick) (k1 : tick ≤ 1000) : Calls Try.prog 63 #[.agg #[.int .i64 l.id, .int .i64 l.ticks, .int .i64 l.sx, .int .i64 l.sy, .slice l.wa l.wn l.wc, .slice l.ga l.gn l.gc, .int .i64 l.flx, .int .i64 l.fly, .int .i64 l.fhx, .int .i64 l.fhy, .int .i64 l.bans], .agg #[.int .i64 tick, .int .i64 ax, .int .i64 ay, .int .i64 fx, .int .i64 fy, .int .i64 turn, .int .i64 gate, .bool false, .bool false], .agg #[.int .i64 d, .int .i64 p, .bool true]] w fun e w' => e = .returned (.agg #[.int .i64 (tick + 1), .int .i64 ax, .int .i64 ay, .int .i64 fx, .int .i64 fy, .int .i64 turn, .int .i64 gate, .bool false, .bool false]) ∧ Below w.heap.size w w' := by
  have L1 : Blk ((((w.alloc (.cells #[.int .i64 l.id, .int .i64 l.ticks, .int .i64 l.sx, .int .i64 l.sy, .slice l.wa l.wn l.wc, .slice l.ga l.gn l.gc, .int .i64 l.flx, .int .i64 l.fly, .int .i64 l.fhx, .int .i64 l.fhy, .int .i64 l.bans] 29)).alloc (.cells #[.int .i64 (tick + 1), .int .i64 ax, .int .i64 ay, .int .i64 fx, .int .i64 fy, .int .i64 turn, .int .i64 gate, .bool false, .bool false] 31)).alloc (.cells #[.int .i64 d, .int .i64 p, .bool true] 33)).alloc (.cells #[.int .i64 0, .int .i64 0, .int .i64 0, .int .i64 0, .int .i64 0, .int .i64 0, .int .i64 0, .bool false, .bool false] 31)) w.heap.size #[.int .i64 l.id, .int .i64 l.ticks, .int .i64 l.sx, .int .i64 l.sy, .slice l.wa l.wn l.wc, .slice l.ga l.gn l.gc, .int .i64 l.flx, .int .i64 l.fly, .int .i64 l.fhx, .int .i64 l.fhy, .int .i64 l.bans] := (((Blk.at rfl).alloc _).alloc _).alloc _
  have S1 : Blk ((((w.alloc (.cells #[.int .i64 l.id, .int .i64 l.ticks, .int .i64 l.sx, .int .i64 l.sy, .slice l.wa l.wn l.wc, .slice l.ga l.gn l.gc, .int .i64 l.flx, .int .i64 l.fly, .int .i64 l.fhx, .int .i64 l.fhy, .int .i64 l.bans] 29)).alloc (.cells #[.int .i64 (tick + 1), .int .i64 ax, .int .i64 ay, .int .i64 fx, .int .i64 fy, .int .i64 turn, .int .i64 gate, .bool false, .bool false] 31)).alloc (.cells #[.int .i64 d, .int .i64 p, .bool true] 33)).alloc (.cells #[.int .i64 0, .int .i64 0, .int .i64 0, .int .i64 0, .int .i64 0, .int .i64 0, .int .i64 0, .bool false, .bool false] 31)) (w.heap.size + 1) #[.int .i64 (tick + 1), .int .i64 ax, .int .i64 ay, .int .i64 fx, .int .i64 fy, .int .i64 turn, .int .i64 gate, .bool false, .bool false] := ((Blk.at (by simp)).alloc _).alloc _
  have Z1 : Blk ((((w.alloc (.cells #[.int .i64 l.id, .int .i64 l.ticks, .int .i64 l.sx, .int .i64 l.sy, .slice l.wa l.wn l.wc, .slice l.ga l.gn l.gc, .int .i64 l.flx, .int .i64 l.fly, .int .i64 l.fhx, .int .i64 l.fhy, .int .i64 l.bans] 29)).alloc (.cells #[.int .i64 (tick + 1), .int .i64 ax, .int .i64 ay, .int .i64 fx, .int .i64 fy, .int .i64 turn, .int .i64 gate, .bool false, .bool false] 31)).alloc (.cells #[.int .i64 d, .int .i64 p, .bool true] 33)).alloc (.cells #[.int .i64 0, .int .i64 0, .int .i64 0, .int .i64 0, .int .i64 0, .int .i64 0, .int .i64 0, .bool false, .bool false] 31)) (w.heap.size + 1 + 1 + 1) #[.int .i64 0, .int .i64 0, .int .i64 0, .int .i64 0, .int .i64 0, .int .i64 0, .int .i64 0, .bool false, .bool false] := Blk.at (by simp)
  have hB1 : Below w.heap.size w ((((w.alloc (.cells #[.int .i64 l.id, .int .i64 l.ticks, .int .i64 l.sx, .int .i64 l.sy, .slice l.wa l.wn l.wc, .slice l.ga l.gn l.gc, .int .i64 l.flx, .int .i64 l.fly, .int .i64 l.fhx, .int .i64 l.fhy, .int .i64 l.bans] 29)).alloc (.cells #[.int .i64 (tick + 1), .int .i64 ax, .int .i64 ay, .int .i64 fx, .int .i64 fy, .int .i64 turn, .int .i64 gate, .bool false, .bool false] 31)).alloc (.cells #[.int .i64 d, .int .i64 p, .bool true] 33)).alloc (.cells #[.int .i64 0, .int .i64 0, .int .i64 0, .int .i64 0, .int .i64 0, .int .i64 0, .int .i64 0, .bool false, .bool false] 31)) := by (repeat (first | with_reducible assumption | with_reducible exact Below.refl _ _ | ((with_reducible refine Below.alloc ?_ ?_ _); rotate_left; · exact (by first | omega | (simp; done) | (simp; omega))) | ((with_reducible refine Below.setCell ?_ ?_ _); rotate_left; · exact (by first | omega | (simp; done) | (simp; omega))) | with_reducible refine Below.drew ?_ | assumption | exact Below.refl _ _ | refine Below.alloc ?_ (by first | omega | (simp; done) | (simp; omega)) _ | refine Below.setCell ?_ (by first | omega | (simp; done) | (simp; omega)) _ | refine Below.drew ?_))
  have hS := Lib.hid S1
  have hZ := Lib.hid Z1
  have hB2 := hB1
  have hRR := Lib.hid (hZ.out.row #[.int .i64 (tick + 1), .int .i64 ax, .int .i64 ay, .int .i64 fx, .int .i64 fy, .int .i64 turn, .int .i64 gate, .bool false, .bool false])
  have hBB := Lib.hid hB2
  clear L1 S1 Z1 hB1 hB2
  go_enter Try.func63, Try.ntmps63
  go_upto_region 5 with fail
  refine wp_copy (ty := 31) rfl hS.out Try.underlying31 rfl (by kernel_rfl) rfl rfl hZ.out rfl (by simp [Value.oneCell']) ?_
  rename_i K hK
  refine hK _ _ (wp_ret ?_)
  simp only [Exit.then]
  show bodyPost _ _ _ _ _ _
  refine bodyPost_ret (res_row rfl rfl hRR.out Try.underlying31 rfl (by kernel_rfl)) rfl ?_
  exact ⟨rfl, Below.setRow hBB.out (by omega) _⟩
set_option maxRecDepth 100000 in
set_option maxHeartbeats 1000000 in
theorem tick_drive (l : Lv) (tick ax ay fx fy turn gate d p : Int) (b : Bool) (w : World) (k0 : -1000 ≤ tick) (k1 : tick ≤ 1000) (hn : l.wn ≤ 1099511627776) (hl : LvAt w l) (hv : bxsB l.wf l.wn = true) (ha : vokB ax ay = true) (h : len fx fy ≤ 2000) (t0 : 0 ≤ turn) (t1 : turn ≤ 15) (g0 : 0 ≤ gate) (g1 : gate ≤ 1000) (d0 : -16 ≤ d) (d1 : d ≤ 1000) (S : St) (hSS : driveF l ⟨tick + 1, ax, ay, fx, fy, turn, gate, false, false⟩ d p = S) : Calls Try.prog 63 #[.agg #[.int .i64 l.id, .int .i64 l.ticks, .int .i64 l.sx, .int .i64 l.sy, .slice l.wa l.wn l.wc, .slice l.ga l.gn l.gc, .int .i64 l.flx, .int .i64 l.fly, .int .i64 l.fhx, .int .i64 l.fhy, .int .i64 l.bans], .agg #[.int .i64 tick, .int .i64 ax, .int .i64 ay, .int .i64 fx, .int .i64 fy, .int .i64 turn, .int .i64 gate, .bool false, .bool false], .agg #[.int .i64 d, .int .i64 p, .bool false]] w fun e w' => e = .returned (.agg #[.int .i64 S.tick, .int .i64 S.ax, .int .i64 S.ay, .int .i64 S.fx, .int .i64 S.fy, .int .i64 S.turn, .int .i64 S.gate, .bool S.done, .bool S.over]) ∧ Below w.heap.size w w' := by
  have L1 : Blk ((((w.alloc (.cells #[.int .i64 l.id, .int .i64 l.ticks, .int .i64 l.sx, .int .i64 l.sy, .slice l.wa l.wn l.wc, .slice l.ga l.gn l.gc, .int .i64 l.flx, .int .i64 l.fly, .int .i64 l.fhx, .int .i64 l.fhy, .int .i64 l.bans] 29)).alloc (.cells #[.int .i64 (tick + 1), .int .i64 ax, .int .i64 ay, .int .i64 fx, .int .i64 fy, .int .i64 turn, .int .i64 gate, .bool false, .bool false] 31)).alloc (.cells #[.int .i64 d, .int .i64 p, .bool false] 33)).alloc (.cells #[.int .i64 0, .int .i64 0, .int .i64 0, .int .i64 0, .int .i64 0, .int .i64 0, .int .i64 0, .bool false, .bool false] 31)) w.heap.size #[.int .i64 l.id, .int .i64 l.ticks, .int .i64 l.sx, .int .i64 l.sy, .slice l.wa l.wn l.wc, .slice l.ga l.gn l.gc, .int .i64 l.flx, .int .i64 l.fly, .int .i64 l.fhx, .int .i64 l.fhy, .int .i64 l.bans] := (((Blk.at rfl).alloc _).alloc _).alloc _
  have S1 : Blk ((((w.alloc (.cells #[.int .i64 l.id, .int .i64 l.ticks, .int .i64 l.sx, .int .i64 l.sy, .slice l.wa l.wn l.wc, .slice l.ga l.gn l.gc, .int .i64 l.flx, .int .i64 l.fly, .int .i64 l.fhx, .int .i64 l.fhy, .int .i64 l.bans] 29)).alloc (.cells #[.int .i64 (tick + 1), .int .i64 ax, .int .i64 ay, .int .i64 fx, .int .i64 fy, .int .i64 turn, .int .i64 gate, .bool false, .bool false] 31)).alloc (.cells #[.int .i64 d, .int .i64 p, .bool false] 33)).alloc (.cells #[.int .i64 0, .int .i64 0, .int .i64 0, .int .i64 0, .int .i64 0, .int .i64 0, .int .i64 0, .bool false, .bool false] 31)) (w.heap.size + 1) #[.int .i64 (tick + 1), .int .i64 ax, .int .i64 ay, .int .i64 fx, .int .i64 fy, .int .i64 turn, .int .i64 gate, .bool false, .bool false] := ((Blk.at (by simp)).alloc _).alloc _
  have Z1 : Blk ((((w.alloc (.cells #[.int .i64 l.id, .int .i64 l.ticks, .int .i64 l.sx, .int .i64 l.sy, .slice l.wa l.wn l.wc, .slice l.ga l.gn l.gc, .int .i64 l.flx, .int .i64 l.fly, .int .i64 l.fhx, .int .i64 l.fhy, .int .i64 l.bans] 29)).alloc (.cells #[.int .i64 (tick + 1), .int .i64 ax, .int .i64 ay, .int .i64 fx, .int .i64 fy, .int .i64 turn, .int .i64 gate, .bool false, .bool false] 31)).alloc (.cells #[.int .i64 d, .int .i64 p, .bool false] 33)).alloc (.cells #[.int .i64 0, .int .i64 0, .int .i64 0, .int .i64 0, .int .i64 0, .int .i64 0, .int .i64 0, .bool false, .bool false] 31)) (w.heap.size + 1 + 1 + 1) #[.int .i64 0, .int .i64 0, .int .i64 0, .int .i64 0, .int .i64 0, .int .i64 0, .int .i64 0, .bool false, .bool false] := Blk.at (by simp)
  have hB1 : Below w.heap.size w ((((w.alloc (.cells #[.int .i64 l.id, .int .i64 l.ticks, .int .i64 l.sx, .int .i64 l.sy, .slice l.wa l.wn l.wc, .slice l.ga l.gn l.gc, .int .i64 l.flx, .int .i64 l.fly, .int .i64 l.fhx, .int .i64 l.fhy, .int .i64 l.bans] 29)).alloc (.cells #[.int .i64 (tick + 1), .int .i64 ax, .int .i64 ay, .int .i64 fx, .int .i64 fy, .int .i64 turn, .int .i64 gate, .bool false, .bool false] 31)).alloc (.cells #[.int .i64 d, .int .i64 p, .bool false] 33)).alloc (.cells #[.int .i64 0, .int .i64 0, .int .i64 0, .int .i64 0, .int .i64 0, .int .i64 0, .int .i64 0, .bool false, .bool false] 31)) := by (repeat (first | with_reducible assumption | with_reducible exact Below.refl _ _ | ((with_reducible refine Below.alloc ?_ ?_ _); rotate_left; · exact (by first | omega | (simp; done) | (simp; omega))) | ((with_reducible refine Below.setCell ?_ ?_ _); rotate_left; · exact (by first | omega | (simp; done) | (simp; omega))) | with_reducible refine Below.drew ?_ | assumption | exact Below.refl _ _ | refine Below.alloc ?_ (by first | omega | (simp; done) | (simp; omega)) _ | refine Below.setCell ?_ (by first | omega | (simp; done) | (simp; omega)) _ | refine Below.drew ?_))
  have hZ := Lib.hid Z1
  have hB2 := hB1
  have hBB := Lib.hid hB2
  clear L1 S1 Z1 hB1 hB2
  go_enter Try.func63, Try.ntmps63
  go_wp2_with fail
  refine (sDrive l ⟨tick + 1, ax, ay, fx, fy, turn, gate, false, false⟩ d p false _ hn (hl.keep hBB.out) hv ha h t0 t1 g0 g1 d0 d1).mono ?_
  rw [hSS]
  rintro e w2 ⟨rfl, hb2⟩
  have hZ2 := hZ.out.below hb2 hZ.out.lt
  have hB2 := hBB.out.trans (hb2.mono hBB.out.size)
  have hRR := Lib.hid (hZ2.row #[.int .i64 S.tick, .int .i64 S.ax, .int .i64 S.ay, .int .i64 S.fx, .int .i64 S.fy, .int .i64 S.turn, .int .i64 S.gate, .bool S.done, .bool S.over])
  clear hb2 hZ hBB
  rename_i K hK
  refine hK _ _ ?_
  refine st_row rfl rfl hZ2 (by kernel_rfl) rfl (by simp [Value.oneCell']) ?_
  refine wpList_nil ?_
  clear hK K
  rename_i K hK
  refine hK _ _ (wp_ret ?_)
  refine bodyPost_ret (res_row rfl rfl hRR.out Try.underlying31 rfl (by kernel_rfl)) rfl ?_
  exact ⟨rfl, Below.setRow hB2 (by omega) _⟩
theorem sTick (l : Lv) (s : St) (d p : Int) (b : Bool) (w : World) (hn : l.wn ≤ 1099511627776) (hl : LvAt w l) (hv : bxsB l.wf l.wn = true) (ha : vokB s.ax s.ay = true) (h : len s.fx s.fy ≤ 2000) (t0 : 0 ≤ s.turn) (t1 : s.turn ≤ 15) (g0 : 0 ≤ s.gate) (g1 : s.gate ≤ 1000) (k0 : -1000 ≤ s.tick) (k1 : s.tick ≤ 1000) (d0 : -16 ≤ d) (d1 : d ≤ 1000) : Calls Try.prog 63 #[.agg #[.int .i64 l.id, .int .i64 l.ticks, .int .i64 l.sx, .int .i64 l.sy, .slice l.wa l.wn l.wc, .slice l.ga l.gn l.gc, .int .i64 l.flx, .int .i64 l.fly, .int .i64 l.fhx, .int .i64 l.fhy, .int .i64 l.bans], .agg #[.int .i64 s.tick, .int .i64 s.ax, .int .i64 s.ay, .int .i64 s.fx, .int .i64 s.fy, .int .i64 s.turn, .int .i64 s.gate, .bool s.done, .bool s.over], .agg #[.int .i64 d, .int .i64 p, .bool b]] w fun e w' => e = .returned (.agg #[.int .i64 (stepF l s d p b).tick, .int .i64 (stepF l s d p b).ax, .int .i64 (stepF l s d p b).ay, .int .i64 (stepF l s d p b).fx, .int .i64 (stepF l s d p b).fy, .int .i64 (stepF l s d p b).turn, .int .i64 (stepF l s d p b).gate, .bool (stepF l s d p b).done, .bool (stepF l s d p b).over]) ∧ Below w.heap.size w w' := by
  obtain ⟨tick, ax, ay, fx, fy, turn, gate, done, over⟩ := s
  simp only at ha h t0 t1 g0 g1 k0 k1 ⊢
  cases done with
  | true =>
    rw [step_rest (l := l) (s := ⟨tick, ax, ay, fx, fy, turn, gate, true, over⟩) (d := d) (p := p) (b := b) rfl]
    exact tick_done l tick ax ay fx fy turn gate d p b w over
  | false =>
    cases over with
    | true =>
      rw [step_rest (l := l) (s := ⟨tick, ax, ay, fx, fy, turn, gate, false, true⟩) (d := d) (p := p) (b := b) rfl]
      exact tick_over l tick ax ay fx fy turn gate d p b w
    | false =>
      cases b with
      | true =>
        rw [step_pause (l := l) (s := ⟨tick, ax, ay, fx, fy, turn, gate, false, false⟩) (d := d) (p := p) rfl]
        exact tick_pause l tick ax ay fx fy turn gate d p true w k0 k1
      | false =>
        rw [step_drive (l := l) (s := ⟨tick, ax, ay, fx, fy, turn, gate, false, false⟩) (d := d) (p := p) rfl]
        exact tick_drive l tick ax ay fx fy turn gate d p false w k0 k1 hn hl hv ha h t0 t1 g0 g1 d0 d1 _ rfl
end Go.Proofs.Ytnhjalijnociaaa

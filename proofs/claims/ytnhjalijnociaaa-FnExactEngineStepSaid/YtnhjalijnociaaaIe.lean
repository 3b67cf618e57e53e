/- A pause, by the program; what a player does. -/
import Derived.Test.YtnhjalijnociaaaIb
import Derived.Test.YtnhjalijnociaaaSp
import Derived.Test.YtnhjalijnociaaaQat
set_option linter.unusedVariables false
set_option linter.unusedSimpArgs false
namespace Go.Proofs.Ytnhjalijnociaaa
open Go.RowKit

set_option maxRecDepth 100000 in
set_option maxHeartbeats 1000000 in
theorem iPauseT (l : Lv) (s : St) (w : World) (k0 : -1000 ≤ s.tick) (k1 : s.tick ≤ 1000) : Calls Try.prog 104 #[.agg #[], .agg #[.int .i64 l.id, .int .i64 l.ticks, .int .i64 l.sx, .int .i64 l.sy, .slice l.wa l.wn l.wc, .slice l.ga l.gn l.gc, .int .i64 l.flx, .int .i64 l.fly, .int .i64 l.fhx, .int .i64 l.fhy, .int .i64 l.bans], .agg #[.int .i64 s.tick, .int .i64 s.ax, .int .i64 s.ay, .int .i64 s.fx, .int .i64 s.fy, .int .i64 s.turn, .int .i64 s.gate, .bool s.done, .bool s.over]] w fun e w' => e = .returned (.agg #[.int .i64 ({ s with tick := s.tick + 1 } : St).tick, .int .i64 ({ s with tick := s.tick + 1 } : St).ax, .int .i64 ({ s with tick := s.tick + 1 } : St).ay, .int .i64 ({ s with tick := s.tick + 1 } : St).fx, .int .i64 ({ s with tick := s.tick + 1 } : St).fy, .int .i64 ({ s with tick := s.tick + 1 } : St).turn, .int .i64 ({ s with tick := s.tick + 1 } : St).gate, .bool ({ s with tick := s.tick + 1 } : St).done, .bool ({ s with tick := s.tick + 1 } : St).over]) ∧ Below w.heap.size w w' := by
  obtain ⟨tick, ax, ay, fx, fy, turn, gate, done, over⟩ := s
  simp only at k0 k1 ⊢
  obtain ⟨W, hW⟩ : ∃ W, W = ((((w.alloc (.cells #[] 119)).alloc (.cells #[.int .i64 l.id, .int .i64 l.ticks, .int .i64 l.sx, .int .i64 l.sy, .slice l.wa l.wn l.wc, .slice l.ga l.gn l.gc, .int .i64 l.flx, .int .i64 l.fly, .int .i64 l.fhx, .int .i64 l.fhy, .int .i64 l.bans] 29)).alloc (.cells #[.int .i64 (tick + 1), .int .i64 ax, .int .i64 ay, .int .i64 fx, .int .i64 fy, .int .i64 turn, .int .i64 gate, .bool done, .bool over] 31)).alloc (.cells #[.int .i64 0, .int .i64 0, .int .i64 0, .int .i64 0, .int .i64 0, .int .i64 0, .int .i64 0, .bool false, .bool false] 31)) := ⟨_, rfl⟩
  have hS : Blk W (w.heap.size + 1 + 1) #[.int .i64 (tick + 1), .int .i64 ax, .int .i64 ay, .int .i64 fx, .int .i64 fy, .int .i64 turn, .int .i64 gate, .bool done, .bool over] := by rw [hW]; exact (Blk.at (by simp)).alloc _
  have hZ : Blk W (w.heap.size + 1 + 1 + 1) #[.int .i64 0, .int .i64 0, .int .i64 0, .int .i64 0, .int .i64 0, .int .i64 0, .int .i64 0, .bool false, .bool false] := by rw [hW]; exact Blk.at (by simp)
  have hB : Below w.heap.size w W := by rw [hW]; (repeat (first | with_reducible assumption | with_reducible exact Below.refl _ _ | ((with_reducible refine Below.alloc ?_ ?_ _); rotate_left; · exact (by first | omega | (simp; done) | (simp; omega))) | ((with_reducible refine Below.setCell ?_ ?_ _); rotate_left; · exact (by first | omega | (simp; done) | (simp; omega))) | with_reducible refine Below.drew ?_ | assumption | exact Below.refl _ _ | refine Below.alloc ?_ (by first | omega | (simp; done) | (simp; omega)) _ | refine Below.setCell ?_ (by first | omega | (simp; done) | (simp; omega)) _ | refine Below.drew ?_))
  have hRR := Lib.hid (hZ.row #[.int .i64 (tick + 1), .int .i64 ax, .int .i64 ay, .int .i64 fx, .int .i64 fy, .int .i64 turn, .int .i64 gate, .bool done, .bool over])
  have hS := Lib.hid hS
  have hZ := Lib.hid hZ
  have hB := Lib.hid hB
  go_enter Try.func104, Try.ntmps104
  go_upto_region 2 with fail
  rw [← hW]
  clear hW
  refine wp_copy (ty := 31) rfl hS.out Try.underlying31 rfl (by kernel_rfl) rfl rfl hZ.out rfl (by simp [Value.oneCell']) ?_
  rename_i K hK
  refine hK _ _ (wp_ret ?_)
  refine bodyPost_ret (res_row rfl rfl hRR.out Try.underlying31 rfl (by kernel_rfl)) rfl ?_
  exact ⟨rfl, Below.setRow hB.out (by omega) _⟩
theorem run_ta_pauses (v : Value) (w : World) : (Instr.typeAssert (.iface 119 v) 116 119 true).run Try.prog w = .ok (.tuple #[v, .bool true]) w := by
  first | (simp [Instr.typeAssert, go_sem, Try.underlying119]; done) | kernel_rfl
theorem run_ta_drives (v : Value) (w : World) : (Instr.typeAssert (.iface 122 v) 116 122 true).run Try.prog w = .ok (.tuple #[v, .bool true]) w := by
  first | (simp [Instr.typeAssert, go_sem, Try.underlying122]; done) | kernel_rfl
theorem run_ta_no (v : Value) (w : World) : (Instr.typeAssert (.iface 122 v) 116 119 true).run Try.prog w = .ok (.tuple #[.agg #[], .bool false]) w := by
  first | (simp [Instr.typeAssert, go_sem, Try.underlying119]; done) | kernel_rfl
/-- what a player does, as a value -/
def ctl (d p : Int) (b : Bool) : Value := if b then .iface 119 (.agg #[]) else .iface 122 (.agg #[.int .i64 d, .int .i64 p])
set_option maxRecDepth 100000 in
set_option maxHeartbeats 1000000 in
theorem iCtl (d p : Int) (b : Bool) (w : World) : Calls Try.prog 103 #[.agg #[.int .i64 d, .int .i64 p, .bool b]] w fun e w' => e = .returned (ctl d p b) ∧ Below w.heap.size w w' := by
  cases b
  · go_enter Try.func103, Try.ntmps103
    go_wp2
    go_ret
    exact ⟨rfl, by (repeat (first | with_reducible assumption | with_reducible exact Below.refl _ _ | ((with_reducible refine Below.alloc ?_ ?_ _); rotate_left; · exact (by first | omega | (simp; done) | (simp; omega))) | ((with_reducible refine Below.setCell ?_ ?_ _); rotate_left; · exact (by first | omega | (simp; done) | (simp; omega))) | with_reducible refine Below.drew ?_ | assumption | exact Below.refl _ _ | refine Below.alloc ?_ (by first | omega | (simp; done) | (simp; omega)) _ | refine Below.setCell ?_ (by first | omega | (simp; done) | (simp; omega)) _ | refine Below.drew ?_))⟩
  · go_enter Try.func103, Try.ntmps103
    go_wp2
    go_ret
    exact ⟨rfl, by (repeat (first | with_reducible assumption | with_reducible exact Below.refl _ _ | ((with_reducible refine Below.alloc ?_ ?_ _); rotate_left; · exact (by first | omega | (simp; done) | (simp; omega))) | ((with_reducible refine Below.setCell ?_ ?_ _); rotate_left; · exact (by first | omega | (simp; done) | (simp; omega))) | with_reducible refine Below.drew ?_ | assumption | exact Below.refl _ _ | refine Below.alloc ?_ (by first | omega | (simp; done) | (simp; omega)) _ | refine Below.setCell ?_ (by first | omega | (simp; done) | (simp; omega)) _ | refine Below.drew ?_))⟩
end Go.Proofs.Ytnhjalijnociaaa

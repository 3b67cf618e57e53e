/- A tick, by the program: at rest, a pause. -/
import Derived.Test.YtnhjalijnociaaaIe
set_option linter.unusedVariables false
set_option linter.unusedSimpArgs false
namespace Go.Proofs.Ytnhjalijnociaaa
open Go.RowKit

attribute [local go_sem ↓] run_ta_pauses run_ta_drives run_ta_no
/-- the variables of 'after': the level, the state, the result -/
structure AJ (w0 : World) (l : Lv) (s : Array Value) (w : World) : Prop where
  L : Blk w w0.heap.size #[.int .i64 l.id, .int .i64 l.ticks, .int .i64 l.sx, .int .i64 l.sy, .slice l.wa l.wn l.wc, .slice l.ga l.gn l.gc, .int .i64 l.flx, .int .i64 l.fly, .int .i64 l.fhx, .int .i64 l.fhy, .int .i64 l.bans]
  S : Blk w (w0.heap.size + 1) s
  Z : Blk w (w0.heap.size + 1 + 1 + 1) #[.int .i64 0, .int .i64 0, .int .i64 0, .int .i64 0, .int .i64 0, .int .i64 0, .int .i64 0, .bool false, .bool false]
  bel : Below w0.heap.size w0 w
theorem AJ.pass {w0 w w' : World} {l : Lv} {s : Array Value} (h : AJ w0 l s w) (hb : Below w.heap.size w w') : AJ w0 l s w' := ⟨h.L.below hb h.L.lt, h.S.below hb h.S.lt, h.Z.below hb h.Z.lt, h.bel.trans (hb.mono h.bel.size)⟩
theorem AJ.alloc {w0 w : World} {l : Lv} {s : Array Value} (h : AJ w0 l s w) (x : Obj) : AJ w0 l s (w.alloc x) := h.pass ((Below.refl _ _).alloc (Nat.le_refl _) x)
set_option maxRecDepth 100000 in
set_option maxHeartbeats 1000000 in
theorem after_done (l : Lv) (tick ax ay fx fy turn gate : Int) (over : Bool) (d p : Int) (b : Bool) (w : World) : Calls Try.prog 62 #[.agg #[.int .i64 l.id, .int .i64 l.ticks, .int .i64 l.sx, .int .i64 l.sy, .slice l.wa l.wn l.wc, .slice l.ga l.gn l.gc, .int .i64 l.flx, .int .i64 l.fly, .int .i64 l.fhx, .int .i64 l.fhy, .int .i64 l.bans], .agg #[.int .i64 tick, .int .i64 ax, .int .i64 ay, .int .i64 fx, .int .i64 fy, .int .i64 turn, .int .i64 gate, .bool true, .bool over], .agg #[.int .i64 d, .int .i64 p, .bool b]] w fun e w' => e = .returned (.agg #[.int .i64 tick, .int .i64 ax, .int .i64 ay, .int .i64 fx, .int .i64 fy, .int .i64 turn, .int .i64 gate, .bool true, .bool over]) ∧ Below w.heap.size w w' := by
  obtain ⟨W, hW⟩ : ∃ W, W = ((((w.alloc (.cells #[.int .i64 l.id, .int .i64 l.ticks, .int .i64 l.sx, .int .i64 l.sy, .slice l.wa l.wn l.wc, .slice l.ga l.gn l.gc, .int .i64 l.flx, .int .i64 l.fly, .int .i64 l.fhx, .int .i64 l.fhy, .int .i64 l.bans] 29)).alloc (.cells #[.int .i64 tick, .int .i64 ax, .int .i64 ay, .int .i64 fx, .int .i64 fy, .int .i64 turn, .int .i64 gate, .bool true, .bool over] 31)).alloc (.cells #[.int .i64 d, .int .i64 p, .bool b] 33)).alloc (.cells #[.int .i64 0, .int .i64 0, .int .i64 0, .int .i64 0, .int .i64 0, .int .i64 0, .int .i64 0, .bool false, .bool false] 31)) := ⟨_, rfl⟩
  have I0 : AJ w l #[.int .i64 tick, .int .i64 ax, .int .i64 ay, .int .i64 fx, .int .i64 fy, .int .i64 turn, .int .i64 gate, .bool true, .bool over] W := by rw [hW]; exact ⟨((Blk.at rfl).alloc _).alloc _ |>.alloc _, ((Blk.at (by simp)).alloc _).alloc _, Blk.at (by simp), by (repeat (first | with_reducible assumption | with_reducible exact Below.refl _ _ | ((with_reducible refine Below.alloc ?_ ?_ _); rotate_left; · exact (by first | omega | (simp; done) | (simp; omega))) | ((with_reducible refine Below.setCell ?_ ?_ _); rotate_left; · exact (by first | omega | (simp; done) | (simp; omega))) | with_reducible refine Below.drew ?_ | assumption | exact Below.refl _ _ | refine Below.alloc ?_ (by first | omega | (simp; done) | (simp; omega)) _ | refine Below.setCell ?_ (by first | omega | (simp; done) | (simp; omega)) _ | refine Below.drew ?_))⟩
  have hS := Lib.hid I0.S
  have hZ := Lib.hid I0.Z
  have hB := Lib.hid I0.bel
  have hRR := Lib.hid (I0.Z.row #[.int .i64 tick, .int .i64 ax, .int .i64 ay, .int .i64 fx, .int .i64 fy, .int .i64 turn, .int .i64 gate, .bool true, .bool over])
  clear I0
  go_enter Try.func62, Try.ntmps62
  go_upto_region 2 with fail
  rw [← hW]
  clear hW
  refine wp_copy (ty := 31) rfl hS.out Try.underlying31 rfl (by kernel_rfl) rfl rfl hZ.out rfl (by simp [Value.oneCell']) ?_
  rename_i K hK
  refine hK _ _ (wp_ret ?_)
  simp only [Exit.then]
  show bodyPost _ _ _ _ _ _
  refine bodyPost_ret (res_row rfl rfl hRR.out Try.underlying31 rfl (by kernel_rfl)) rfl ?_
  exact ⟨rfl, Below.setRow hB.out (by omega) _⟩
set_option maxRecDepth 100000 in
set_option maxHeartbeats 1000000 in
theorem after_over (l : Lv) (tick ax ay fx fy turn gate : Int) (d p : Int) (b : Bool) (w : World) : Calls Try.prog 62 #[.agg #[.int .i64 l.id, .int .i64 l.ticks, .int .i64 l.sx, .int .i64 l.sy, .slice l.wa l.wn l.wc, .slice l.ga l.gn l.gc, .int .i64 l.flx, .int .i64 l.fly, .int .i64 l.fhx, .int .i64 l.fhy, .int .i64 l.bans], .agg #[.int .i64 tick, .int .i64 ax, .int .i64 ay, .int .i64 fx, .int .i64 fy, .int .i64 turn, .int .i64 gate, .bool false, .bool true], .agg #[.int .i64 d, .int .i64 p, .bool b]] w fun e w' => e = .returned (.agg #[.int .i64 tick, .int .i64 ax, .int .i64 ay, .int .i64 fx, .int .i64 fy, .int .i64 turn, .int .i64 gate, .bool false, .bool true]) ∧ Below w.heap.size w w' := by
  obtain ⟨W, hW⟩ : ∃ W, W = ((((w.alloc (.cells #[.int .i64 l.id, .int .i64 l.ticks, .int .i64 l.sx, .int .i64 l.sy, .slice l.wa l.wn l.wc, .slice l.ga l.gn l.gc, .int .i64 l.flx, .int .i64 l.fly, .int .i64 l.fhx, .int .i64 l.fhy, .int .i64 l.bans] 29)).alloc (.cells #[.int .i64 tick, .int .i64 ax, .int .i64 ay, .int .i64 fx, .int .i64 fy, .int .i64 turn, .int .i64 gate, .bool false, .bool true] 31)).alloc (.cells #[.int .i64 d, .int .i64 p, .bool b] 33)).alloc (.cells #[.int .i64 0, .int .i64 0, .int .i64 0, .int .i64 0, .int .i64 0, .int .i64 0, .int .i64 0, .bool false, .bool false] 31)) := ⟨_, rfl⟩
  have I0 : AJ w l #[.int .i64 tick, .int .i64 ax, .int .i64 ay, .int .i64 fx, .int .i64 fy, .int .i64 turn, .int .i64 gate, .bool false, .bool true] W := by rw [hW]; exact ⟨((Blk.at rfl).alloc _).alloc _ |>.alloc _, ((Blk.at (by simp)).alloc _).alloc _, Blk.at (by simp), by (repeat (first | with_reducible assumption | with_reducible exact Below.refl _ _ | ((with_reducible refine Below.alloc ?_ ?_ _); rotate_left; · exact (by first | omega | (simp; done) | (simp; omega))) | ((with_reducible refine Below.setCell ?_ ?_ _); rotate_left; · exact (by first | omega | (simp; done) | (simp; omega))) | with_reducible refine Below.drew ?_ | assumption | exact Below.refl _ _ | refine Below.alloc ?_ (by first | omega | (simp; done) | (simp; omega)) _ | refine Below.setCell ?_ (by first | omega | (simp; done) | (simp; omega)) _ | refine Below.drew ?_))⟩
  have hS := Lib.hid I0.S
  have hZ := Lib.hid I0.Z
  have hB := Lib.hid I0.bel
  have hRR := Lib.hid (I0.Z.row #[.int .i64 tick, .int .i64 ax, .int .i64 ay, .int .i64 fx, .int .i64 fy, .int .i64 turn, .int .i64 gate, .bool false, .bool true])
  clear I0
  go_enter Try.func62, Try.ntmps62
  go_upto_region 2 with fail
  rw [← hW]
  clear hW
  refine wp_copy (ty := 31) rfl hS.out Try.underlying31 rfl (by kernel_rfl) rfl rfl hZ.out rfl (by simp [Value.oneCell']) ?_
  rename_i K hK
  refine hK _ _ (wp_ret ?_)
  simp only [Exit.then]
  show bodyPost _ _ _ _ _ _
  refine bodyPost_ret (res_row rfl rfl hRR.out Try.underlying31 rfl (by kernel_rfl)) rfl ?_
  exact ⟨rfl, Below.setRow hB.out (by omega) _⟩
set_option maxRecDepth 100000 in
set_option maxHeartbeats 1000000 in
theorem after_pause (l : Lv) (tick ax ay fx fy turn gate : Int) (d p : Int) (w : World) (k0 : -1000 ≤ tick) (k1 : tick ≤ 1000) : Calls Try.prog 62 #[.agg #[.int .i64 l.id, .int .i64 l.ticks, .int .i64 l.sx, .int .i64 l.sy, .slice l.wa l.wn l.wc, .slice l.ga l.gn l.gc, .int .i64 l.flx, .int .i64 l.fly, .int .i64 l.fhx, .int .i64 l.fhy, .int .i64 l.bans], .agg #[.int .i64 tick, .int .i64 ax, .int .i64 ay, .int .i64 fx, .int .i64 fy, .int .i64 turn, .int .i64 gate, .bool false, .bool false], .agg #[.int .i64 d, .int .i64 p, .bool true]] w fun e w' => e = .returned (.agg #[.int .i64 ({ tick := tick + 1, ax := ax, ay := ay, fx := fx, fy := fy, turn := turn, gate := gate, done := false, over := false } : St).tick, .int .i64 ({ tick := tick + 1, ax := ax, ay := ay, fx := fx, fy := fy, turn := turn, gate := gate, done := false, over := false } : St).ax, .int .i64 ({ tick := tick + 1, ax := ax, ay := ay, fx := fx, fy := fy, turn := turn, gate := gate, done := false, over := false } : St).ay, .int .i64 ({ tick := tick + 1, ax := ax, ay := ay, fx := fx, fy := fy, turn := turn, gate := gate, done := false, over := false } : St).fx, .int .i64 ({ tick := tick + 1, ax := ax, ay := ay, fx := fx, fy := fy, turn := turn, gate := gate, done := false, over := false } : St).fy, .int .i64 ({ tick := tick + 1, ax := ax, ay := ay, fx := fx, fy := fy, turn := turn, gate := gate, done := false, over := false } : St).turn, .int .i64 ({ tick := tick + 1, ax := ax, ay := ay, fx := fx, fy := fy, turn := turn, gate := gate, done := false, over := false } : St).gate, .bool ({ tick := tick + 1, ax := ax, ay := ay, fx := fx, fy := fy, turn := turn, gate := gate, done := false, over := false } : St).done, .bool ({ tick := tick + 1, ax := ax, ay := ay, fx := fx, fy := fy, turn := turn, gate := gate, done := false, over := false } : St).over]) ∧ Below w.heap.size w w' := by
  go_enter Try.func62, Try.ntmps62
  go_wp2_with fail
  refine (iCtl d p true _).mono ?_
  rintro e w1 ⟨rfl, hb1⟩
  have I1 : AJ w l #[.int .i64 tick, .int .i64 ax, .int .i64 ay, .int .i64 fx, .int .i64 fy, .int .i64 turn, .int .i64 gate, .bool false, .bool false] w1 := AJ.pass (w := ((((w.alloc (.cells #[.int .i64 l.id, .int .i64 l.ticks, .int .i64 l.sx, .int .i64 l.sy, .slice l.wa l.wn l.wc, .slice l.ga l.gn l.gc, .int .i64 l.flx, .int .i64 l.fly, .int .i64 l.fhx, .int .i64 l.fhy, .int .i64 l.bans] 29)).alloc (.cells #[.int .i64 tick, .int .i64 ax, .int .i64 ay, .int .i64 fx, .int .i64 fy, .int .i64 turn, .int .i64 gate, .bool false, .bool false] 31)).alloc (.cells #[.int .i64 d, .int .i64 p, .bool true] 33)).alloc (.cells #[.int .i64 0, .int .i64 0, .int .i64 0, .int .i64 0, .int .i64 0, .int .i64 0, .int .i64 0, .bool false, .bool false] 31))) ⟨((Blk.at rfl).alloc _).alloc _ |>.alloc _, ((Blk.at (by simp)).alloc _).alloc _, Blk.at (by simp), by (repeat (first | with_reducible assumption | with_reducible exact Below.refl _ _ | ((with_reducible refine Below.alloc ?_ ?_ _); rotate_left; · exact (by first | omega | (simp; done) | (simp; omega))) | ((with_reducible refine Below.setCell ?_ ?_ _); rotate_left; · exact (by first | omega | (simp; done) | (simp; omega))) | with_reducible refine Below.drew ?_ | assumption | exact Below.refl _ _ | refine Below.alloc ?_ (by first | omega | (simp; done) | (simp; omega)) _ | refine Below.setCell ?_ (by first | omega | (simp; done) | (simp; omega)) _ | refine Below.drew ?_))⟩ hb1
  clear hb1
  rw [show ctl d p true = .iface 119 (.agg #[]) from rfl]
  (try clear q0 q1 q2 q3 q4 q5 q6 q7 q8 q9 q10); obtain ⟨q0, q1, q2, q3, q4, q5, q6, q7, q8, q9, q10⟩ := I1.L.c11
  obtain ⟨c0, c1, c2, c3, c4, c5, c6, c7, c8⟩ := I1.S.c9
  have hzS := I1.S.lt
  have hzL := I1.L.lt
  go_wp2_with fail
  have I2 := I1.alloc (.cells #[] 119)
  refine (iPauseT l ⟨tick, ax, ay, fx, fy, turn, gate, false, false⟩ _ k0 k1).mono ?_
  rintro e w3 ⟨rfl, hb3⟩
  have I3 := I2.pass hb3
  have hRR := Lib.hid (I3.Z.row #[.int .i64 (tick + 1), .int .i64 ax, .int .i64 ay, .int .i64 fx, .int .i64 fy, .int .i64 turn, .int .i64 gate, .bool false, .bool false])
  have hZ3 := Lib.hid I3.Z
  have hB3 := Lib.hid I3.bel
  clear hb3 I1 I2 I3
  rename_i K hK
  refine hK _ _ ?_
  refine st_row rfl rfl hZ3.out (by kernel_rfl) rfl (by simp [Value.oneCell']) ?_
  refine wpList_nil ?_
  clear hK K
  rename_i K hK
  refine hK _ _ (wp_ret ?_)
  simp only [Exit.then, Exit.inBlock]
  show bodyPost _ _ _ _ _ _
  refine bodyPost_ret (res_row rfl rfl hRR.out Try.underlying31 rfl (by kernel_rfl)) rfl ?_
  exact ⟨rfl, Below.setRow hB3.out (by omega) _⟩
end Go.Proofs.Ytnhjalijnociaaa

/- Copies and comparisons of states. -/
import Derived.Test.YtgiadgbfeldheaaTp
import Derived.Test.YtgiadgbfeldheaaMb
set_option linter.unusedVariables false
namespace Go.Proofs.Ytgiadgbfeldheaa
open Go.RowKit

set_option maxRecDepth 100000 in
set_option maxHeartbeats 1000000 in
theorem toState_any (s : St) (w : World) : Calls Try.prog 8 #[.agg #[.int .i64 s.tick, .int .i64 s.ax, .int .i64 s.ay, .int .i64 s.fx, .int .i64 s.fy, .int .i64 s.turn, .int .i64 s.gate, .bool s.done, .bool s.over]] w fun e w' => e = .returned (.agg #[.int .i64 s.tick, .int .i64 s.ax, .int .i64 s.ay, .int .i64 s.fx, .int .i64 s.fy, .int .i64 s.turn, .int .i64 s.gate, .bool s.done, .bool s.over]) ∧ Below w.heap.size w w' := by
  obtain ⟨tick, ax, ay, fx, fy, turn, gate, done, over⟩ := s
  simp only
  go_enter Try.func8, Try.ntmps8
  go_wp2_with fail; refine (toVec_any _ _ _).mono ?_; rintro e w1 ⟨rfl, hb1⟩; obtain ⟨hc1, hf1⟩ := bcell hb1; have hz1 : w.heap.size < w1.heap.size := (by have := hb1.size; first | omega | (simp at this; omega)); have hy1 : w.heap.size < w1.heap.size + 1 := Nat.lt_succ_of_lt hz1; have hB1 : Below w.heap.size w w1 := bstep (by (repeat (first | with_reducible assumption | with_reducible exact Below.refl _ _ | ((with_reducible refine Below.alloc ?_ ?_ _); rotate_left; · exact (by first | omega | (simp; done) | (simp; omega))) | ((with_reducible refine Below.setCell ?_ ?_ _); rotate_left; · exact (by first | omega | (simp; done) | (simp; omega))) | with_reducible refine Below.drew ?_ | assumption | exact Below.refl _ _ | refine Below.alloc ?_ (by first | omega | (simp; done) | (simp; omega)) _ | refine Below.setCell ?_ (by first | omega | (simp; done) | (simp; omega)) _ | refine Below.drew ?_))) (by first | omega | (simp; done) | (simp; omega)) hb1
  try (have hz1b : w.heap.size + 1 < w1.heap.size := (by have := hb1.size; first | omega | (simp at this; omega))); try (have hne1b : w1.heap.size ≠ w.heap.size + 1 := by omega)
  try (have hz1c : w.heap.size + 2 < w1.heap.size := (by have := hb1.size; first | omega | (simp at this; omega))); try (have hne1c : w1.heap.size ≠ w.heap.size + 2 := by omega)
  go_wp2_with fail; refine (toVec_any _ _ _).mono ?_; rintro e w2 ⟨rfl, hb2⟩; obtain ⟨hc2, hf2⟩ := bcell hb2; have hz2 : w.heap.size < w2.heap.size := (by have := hb2.size; first | omega | (simp at this; omega)); have hy2 : w.heap.size < w2.heap.size + 1 := Nat.lt_succ_of_lt hz2; have hB2 : Below w.heap.size w w2 := bstep (by (repeat (first | with_reducible assumption | with_reducible exact Below.refl _ _ | ((with_reducible refine Below.alloc ?_ ?_ _); rotate_left; · exact (by first | omega | (simp; done) | (simp; omega))) | ((with_reducible refine Below.setCell ?_ ?_ _); rotate_left; · exact (by first | omega | (simp; done) | (simp; omega))) | with_reducible refine Below.drew ?_ | assumption | exact Below.refl _ _ | refine Below.alloc ?_ (by first | omega | (simp; done) | (simp; omega)) _ | refine Below.setCell ?_ (by first | omega | (simp; done) | (simp; omega)) _ | refine Below.drew ?_))) (by first | omega | (simp; done) | (simp; omega)) hb2
  try (have hz2b : w.heap.size + 1 < w2.heap.size := (by have := hb2.size; first | omega | (simp at this; omega))); try (have hne2b : w2.heap.size ≠ w.heap.size + 1 := by omega)
  try (have hz2c : w.heap.size + 2 < w2.heap.size := (by have := hb2.size; first | omega | (simp at this; omega))); try (have hne2c : w2.heap.size ≠ w.heap.size + 2 := by omega)
  have hz2c : w.heap.size + 1 + 1 < w2.heap.size := (by have := hb2.size; first | omega | (simp at this; omega))
  have hz2b : w.heap.size + 1 < w2.heap.size := by omega
  have n1 : w.heap.size ≠ w.heap.size + 1 + 1 := by omega
  have n2 : w.heap.size + 1 ≠ w.heap.size + 1 + 1 := by omega
  have O1 : Blk w1 (w.heap.size + 1 + 1) _ := (Blk.at (by simp)).below hb1 (by simp)
  have O2 := ((O1.s9_1 _).s9_2 _).below hb2 (by simp; omega)
  have F2 := O2.frozen
  obtain ⟨d0, d1, d2, d3, d4, d5, d6, d7, d8⟩ := O2.c9
  have P1 := (((Blk.new w _ _).alloc _).alloc _).below hb1 (by simp; omega)
  have P2 := ((P1.other n1 _).other n1 _).below hb2 (by simp; omega)
  obtain ⟨e0, e1, e2, e3, e4, e5, e6, e7, e8⟩ := P2.c9
  have O5 := (((((O2.s9_3 (.int .i64 fx)).s9_4 (.int .i64 fy)).s9_5 (.int .i64 turn)).s9_6 (.int .i64 gate)).s9_7 (.bool done)).s9_8 (.bool over)
  have R1 : Blk w1 (w.heap.size + 1) _ := ((Blk.at (by simp)).alloc _).below hb1 (by simp)
  have R2 := ((R1.other n2 (.int .i64 ax) (p := ⟨w.heap.size + 1 + 1, 1, none⟩)).other n2 (.int .i64 ay) (p := ⟨w.heap.size + 1 + 1, 2, none⟩)).below hb2 (by simp; omega)
  have R5 := (((((R2.other n2 (.int .i64 fx) (p := ⟨w.heap.size + 1 + 1, 3, none⟩)).other n2 (.int .i64 fy) (p := ⟨w.heap.size + 1 + 1, 4, none⟩)).other n2 (.int .i64 turn) (p := ⟨w.heap.size + 1 + 1, 5, none⟩)).other n2 (.int .i64 gate) (p := ⟨w.heap.size + 1 + 1, 6, none⟩)).other n2 (.bool done) (p := ⟨w.heap.size + 1 + 1, 7, none⟩)).other n2 (.bool over) (p := ⟨w.heap.size + 1 + 1, 8, none⟩)
  have RR := R5.row #[.int .i64 tick, .int .i64 ax, .int .i64 ay, .int .i64 fx, .int .i64 fy, .int .i64 turn, .int .i64 gate, .bool done, .bool over]
  have hO := Lib.hid O5
  have hR := Lib.hid R5
  have hS := Lib.hid RR
  clear hc1 hc2 hf1 hf2 O1 O2 O5 P1 P2 R1 R2 R5 RR hB1 hb1 hb2
  go_upto_region 9 with fail
  refine wp_copy (ty := 36) rfl hO.out Try.underlying36 rfl (by kernel_rfl) rfl rfl hR.out rfl (by simp [Value.oneCell']) ?_
  rename_i K hK
  refine hK _ _ (wp_ret ?_)
  refine bodyPost_ret (res_row rfl rfl hS.out Try.underlying36 rfl (by kernel_rfl)) rfl ?_
  exact ⟨rfl, by
    refine Below.setRow ?_ (by omega) _
    (repeat (first | with_reducible assumption | with_reducible exact Below.refl _ _ | ((with_reducible refine Below.alloc ?_ ?_ _); rotate_left; · exact (by first | omega | (simp; done) | (simp; omega))) | ((with_reducible refine Below.setCell ?_ ?_ _); rotate_left; · exact (by first | omega | (simp; done) | (simp; omega))) | with_reducible refine Below.drew ?_ | assumption | exact Below.refl _ _ | refine Below.alloc ?_ (by first | omega | (simp; done) | (simp; omega)) _ | refine Below.setCell ?_ (by first | omega | (simp; done) | (simp; omega)) _ | refine Below.drew ?_))⟩
set_option maxRecDepth 100000 in
set_option maxHeartbeats 1000000 in
theorem eqState_any (s : St) (w : World) : Calls Try.prog 11 #[.agg #[.int .i64 s.tick, .int .i64 s.ax, .int .i64 s.ay, .int .i64 s.fx, .int .i64 s.fy, .int .i64 s.turn, .int .i64 s.gate, .bool s.done, .bool s.over], .agg #[.int .i64 s.tick, .int .i64 s.ax, .int .i64 s.ay, .int .i64 s.fx, .int .i64 s.fy, .int .i64 s.turn, .int .i64 s.gate, .bool s.done, .bool s.over]] w fun e w' => e = .returned (.bool true) ∧ Below w.heap.size w w' := by
  obtain ⟨tick, ax, ay, fx, fy, turn, gate, done, over⟩ := s
  simp only
  go_enter Try.func11, Try.ntmps11
  go_wp2_with fail; refine (eqVec_any _ _ _).mono ?_; rintro e w1 ⟨rfl, hb1⟩; obtain ⟨hc1, hf1⟩ := bcell hb1; have hz1 : w.heap.size < w1.heap.size := (by have := hb1.size; first | omega | (simp at this; omega)); have hy1 : w.heap.size < w1.heap.size + 1 := Nat.lt_succ_of_lt hz1; have hB1 : Below w.heap.size w w1 := bstep (by (repeat (first | with_reducible assumption | with_reducible exact Below.refl _ _ | ((with_reducible refine Below.alloc ?_ ?_ _); rotate_left; · exact (by first | omega | (simp; done) | (simp; omega))) | ((with_reducible refine Below.setCell ?_ ?_ _); rotate_left; · exact (by first | omega | (simp; done) | (simp; omega))) | with_reducible refine Below.drew ?_ | assumption | exact Below.refl _ _ | refine Below.alloc ?_ (by first | omega | (simp; done) | (simp; omega)) _ | refine Below.setCell ?_ (by first | omega | (simp; done) | (simp; omega)) _ | refine Below.drew ?_))) (by first | omega | (simp; done) | (simp; omega)) hb1
  try (have hz1b : w.heap.size + 1 < w1.heap.size := (by have := hb1.size; first | omega | (simp at this; omega))); try (have hne1b : w1.heap.size ≠ w.heap.size + 1 := by omega)
  go_wp2_with fail; refine (eqVec_any _ _ _).mono ?_; rintro e w2 ⟨rfl, hb2⟩; obtain ⟨hc2, hf2⟩ := bcell hb2; have hz2 : w.heap.size < w2.heap.size := (by have := hb2.size; first | omega | (simp at this; omega)); have hy2 : w.heap.size < w2.heap.size + 1 := Nat.lt_succ_of_lt hz2; have hB2 : Below w.heap.size w w2 := bstep (by (repeat (first | with_reducible assumption | with_reducible exact Below.refl _ _ | ((with_reducible refine Below.alloc ?_ ?_ _); rotate_left; · exact (by first | omega | (simp; done) | (simp; omega))) | ((with_reducible refine Below.setCell ?_ ?_ _); rotate_left; · exact (by first | omega | (simp; done) | (simp; omega))) | with_reducible refine Below.drew ?_ | assumption | exact Below.refl _ _ | refine Below.alloc ?_ (by first | omega | (simp; done) | (simp; omega)) _ | refine Below.setCell ?_ (by first | omega | (simp; done) | (simp; omega)) _ | refine Below.drew ?_))) (by first | omega | (simp; done) | (simp; omega)) hb2
  try (have hz2b : w.heap.size + 1 < w2.heap.size := (by have := hb2.size; first | omega | (simp at this; omega))); try (have hne2b : w2.heap.size ≠ w.heap.size + 1 := by omega)
  cases done <;> cases over
  all_goals
    go_wp2
    go_ret
    exact ⟨rfl, by (repeat (first | with_reducible assumption | with_reducible exact Below.refl _ _ | ((with_reducible refine Below.alloc ?_ ?_ _); rotate_left; · exact (by first | omega | (simp; done) | (simp; omega))) | ((with_reducible refine Below.setCell ?_ ?_ _); rotate_left; · exact (by first | omega | (simp; done) | (simp; omega))) | with_reducible refine Below.drew ?_ | assumption | exact Below.refl _ _ | refine Below.alloc ?_ (by first | omega | (simp; done) | (simp; omega)) _ | refine Below.setCell ?_ (by first | omega | (simp; done) | (simp; omega)) _ | refine Below.drew ?_))⟩
end Go.Proofs.Ytgiadgbfeldheaa

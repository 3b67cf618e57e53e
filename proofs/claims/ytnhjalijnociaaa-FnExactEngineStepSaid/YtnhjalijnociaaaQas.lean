/- The hash of a level, of the program and of the reference. -/
import Derived.Test.YtnhjalijnociaaaQaq
import Derived.Test.YtnhjalijnociaaaQal
import Derived.Test.YtnhjalijnociaaaQar
/- The hash of a level, of the program and of the reference. -/
set_option linter.unusedVariables false
namespace Go.Proofs.Ytnhjalijnociaaa
open Go.RowKit

theorem ints4 {W : World} {g : Nat} {a b c d : Int} (h : Blk W g #[.int .i64 a, .int .i64 b, .int .i64 c, .int .i64 d]) : IntsAt W (some ⟨g, 0, none⟩) 4 (fun i => [a, b, c, d].getD i 0) :=
  .inr ⟨g, 0, rfl, h.lt, fun i hi => by
    have hm : i = 0 ∨ i = 1 ∨ i = 2 ∨ i = 3 := by omega
    rcases hm with rfl | rfl | rfl | rfl
    · exact h.cell 0
    · exact h.cell 1
    · exact h.cell 2
    · exact h.cell 3⟩
theorem ints7 {W : World} {g : Nat} {a b c d e f k : Int} (h : Blk W g #[.int .i64 a, .int .i64 b, .int .i64 c, .int .i64 d, .int .i64 e, .int .i64 f, .int .i64 k]) : IntsAt W (some ⟨g, 0, none⟩) 7 (fun i => [a, b, c, d, e, f, k].getD i 0) :=
  .inr ⟨g, 0, rfl, h.lt, fun i hi => by
    have hm : i = 0 ∨ i = 1 ∨ i = 2 ∨ i = 3 ∨ i = 4 ∨ i = 5 ∨ i = 6 := by omega
    rcases hm with rfl | rfl | rfl | rfl | rfl | rfl | rfl
    · exact h.cell 0
    · exact h.cell 1
    · exact h.cell 2
    · exact h.cell 3
    · exact h.cell 4
    · exact h.cell 5
    · exact h.cell 6⟩
theorem BoxesAt.up {w w' : World} {R g n : Nat} {f : Nat → Bx} (h : BoxesAt w (some ⟨g, 0, none⟩) n f) (hu : Up R w.heap.size w w') (hlt : g < w.heap.size) (hne : g ≠ R) : BoxesAt w' (some ⟨g, 0, none⟩) n f :=
  h.same hu.size fun p hp => by cases hp; exact hu.block g hlt hne
theorem hfo_head (l : Lv) : hfo (fun i => [l.id, l.ticks, l.sx, l.sy, (l.wn : Int), (l.gn : Int), l.bans].getD i 0) 17 7 = l.head.foldl hst 17 := hfo_list l.head 17
theorem hfo_box (b : Bx) (h : Int) : hfo (fun i => [b.lx, b.ly, b.hx, b.hy].getD i 0) h 4 = b.nums.foldl hst h := hfo_list b.nums h


theorem infoInt' : (Try.prog.info? 3).map (fun i => (i.zero, i.size, i.bytes)) = some (some (.int .i64 0), 1, 8) := by kernel_rfl
/-- a list of numbers as cells -/
def ivals (zs : List Int) : List Value := zs.map (Value.int .i64)
theorem ivals_one (zs : List Int) : ∀ u ∈ ivals zs, u.oneCell' = true := by
  intro u hu
  obtain ⟨z, _, rfl⟩ := List.mem_map.1 hu
  rfl
theorem ints_row {w : World} {base g n cap : Nat} {zs : List Int} (h : w.ownsRow base 3 1 (.slice (some ⟨g, 0, none⟩) n cap) n (ivals zs)) : IntsAt w (some ⟨g, 0, none⟩) n (fun i => zs.getD i 0) := by
  have hl : zs.length = n := by have := h.1; simpa [ivals] using this
  refine .inr ⟨g, 0, rfl, (h.lt _ rfl).2, fun i hi => ?_⟩
  rw [Nat.zero_add, h.cellAt i (by omega)]
  have hi' : i < zs.length := by omega
  simp [ivals, List.getD, hi']
/-- a new list of a box's numbers -/
def NewNums (b : Bx) (w : World) (e : Ending) (w' : World) : Prop := ∃ g, e = .returned (.slice (some ⟨g, 0, none⟩) 4 4) ∧ Blk w' g #[.int .i64 b.lx, .int .i64 b.ly, .int .i64 b.hx, .int .i64 b.hy] ∧ w.heap.size ≤ g ∧ Below w.heap.size w w'
end Go.Proofs.Ytnhjalijnociaaa

/- Copies and comparisons of states. -/
set_option linter.unusedVariables false
namespace Go.Proofs.Ytnhjalijnociaaa
open Go.RowKit

set_option maxRecDepth 100000 in
set_option maxHeartbeats 1000000 in
theorem toState_any (s : St) (w : World) : Calls Try.prog 30 #[.agg #[.int .i64 s.tick, .int .i64 s.ax, .int .i64 s.ay, .int .i64 s.fx, .int .i64 s.fy, .int .i64 s.turn, .int .i64 s.gate, .bool s.done, .bool s.over]] w fun e w' => e = .returned (.agg #[.int .i64 s.tick, .int .i64 s.ax, .int .i64 s.ay, .int .i64 s.fx, .int .i64 s.fy, .int .i64 s.turn, .int .i64 s.gate, .bool s.done, .bool s.over]) ∧ Below w.heap.size w w' := by
  obtain ⟨tick, ax, ay, fx, fy, turn, gate, done, over⟩ := s
  simp only
  go_enter Try.func30, Try.ntmps30
  go_wp2_with fail; refine (toVec_any _ _ _).mono ?_; rintro e w1 ⟨rfl, hb1⟩; obtain ⟨hc1, hf1⟩ := bcell hb1; have hz1 : w.heap.size < w1.heap.size := (by have := hb1.size; first | omega | (simp at this; omega)); have hy1 : w.heap.size < w1.heap.size + 1 := Nat.lt_succ_of_lt hz1; have hB1 : Below w.heap.size w w1 := bstep (by (repeat (first | with_reducible assumption | with_reducible exact Below.refl _ _ | ((with_reducible refine Below.alloc ?_ ?_ _); rotate_left; · exact (by first | omega | (simp; done) | (simp; omega))) | ((with_reducible refine Below.setCell ?_ ?_ _); rotate_left; · exact (by first | omega | (simp; done) | (simp; omega))) | with_reducible refine Below.drew ?_ | assumption | exact Below.refl _ _ | refine Below.alloc ?_ (by first | omega | (simp; done) | (simp; omega)) _ | refine Below.setCell ?_ (by first | omega | (simp; done) | (simp; omega)) _ | refine Below.drew ?_))) (by first | omega | (simp; done) | (simp; omega)) hb1
  try (have hz1b : w.heap.size + 1 < w1.heap.size := (by have := hb1.size; first | omega | (simp at this; omega))); try (have hne1b : w1.heap.size ≠ w.heap.size + 1 := by omega)
  try (have hz1c : w.heap.size + 2 < w1.heap.size := (by have := hb1.size; first | omega | (simp at this; omega))); try (have hne1c : w1.heap.size ≠ w.heap.size + 2 := by omega)
  go_wp2_with fail; refine (toVec_any _ _ _).mono ?_; rintro e w2 ⟨rfl, hb2⟩; obtain ⟨hc2, hf2⟩ := bcell hb2; have hz2 : w.heap.size < w2.heap.size := (by have := hb2.size; first | omega | (simp at this; omega)); have hy2 : w.heap.size < w2.heap.size + 1 := Nat.lt_succ_of_lt hz2; have hB2 : Below w.heap.size w w2 := bstep (by (repeat (first | with_reducible assumption | with_reducible exact Below.refl _ _ | ((with_reducible refine Below.alloc ?_ ?_ _); rotate_left; · exact (by first | omega | (simp; done) | (simp; omega))) | ((with_reducible refine Below.setCell ?_ ?_ _); rotate_left; · exact (by first | omega | (simp; done) | (simp; omega))) | with_reducible refine Below.drew ?_ | assumption | exact Below.refl _ _ | refine Below.alloc ?_ (by first | omega | (simp; done) | (simp; omega)) _ | refine Below.setCell ?_ (by first | omega | (simp; done) | (simp; omega)) _ | refine Below.drew ?_))) (by first | omega | (simp; done) | (simp; omega)) hb2
  try (have hz2b : w.heap.size + 1 < w2.heap.size := (by have := hb2.size; first | omega | (simp at this; omega))); try (have hne2b : w2.heap.size ≠ w.heap.size + 1 := by omega)
  try (have hz2c : w.heap.size + 2 < w2.heap.size := (by have := hb2.size; first | omega | (simp at this; omega))); try (have hne2c : w2.heap.size ≠ w.heap.size + 2 := by omega)
  have hz2c : w.heap.size + 1 + 1 < w2.heap.size := (by have := hb2.size; first | omega | (simp at this; omega))
  have hz2b : w.heap.size + 1 < w2.heap.size := by omega
  have n1 : w.heap.size ≠ w.heap.size + 1 + 1 := by omega
  have n2 : w.heap.size + 1 ≠ w.heap.size + 1 + 1 := by omega
  have O1 : Blk w1 (w.heap.size + 1 + 1) _ := (Blk.at (by simp)).below hb1 (by simp)
  have O2 := ((O1.s9_1 _).s9_2 _).below hb2 (by simp; omega)
  have F2 := O2.frozen
  obtain ⟨d0, d1, d2, d3, d4, d5, d6, d7, d8⟩ := O2.c9
  have P1 := (((Blk.new w _ _).alloc _).alloc _).below hb1 (by simp; omega)
  have P2 := ((P1.other n1 _).other n1 _).below hb2 (by simp; omega)
  obtain ⟨e0, e1, e2, e3, e4, e5, e6, e7, e8⟩ := P2.c9
  have O5 := (((((O2.s9_3 (.int .i64 fx)).s9_4 (.int .i64 fy)).s9_5 (.int .i64 turn)).s9_6 (.int .i64 gate)).s9_7 (.bool done)).s9_8 (.bool over)
  have R1 : Blk w1 (w.heap.size + 1) _ := ((Blk.at (by simp)).alloc _).below hb1 (by simp)
  have R2 := ((R1.other n2 (.int .i64 ax) (p := ⟨w.heap.size + 1 + 1, 1, none⟩)).other n2 (.int .i64 ay) (p := ⟨w.heap.size + 1 + 1, 2, none⟩)).below hb2 (by simp; omega)
  have R5 := (((((R2.other n2 (.int .i64 fx) (p := ⟨w.heap.size + 1 + 1, 3, none⟩)).other n2 (.int .i64 fy) (p := ⟨w.heap.size + 1 + 1, 4, none⟩)).other n2 (.int .i64 turn) (p := ⟨w.heap.size + 1 + 1, 5, none⟩)).other n2 (.int .i64 gate) (p := ⟨w.heap.size + 1 + 1, 6, none⟩)).other n2 (.bool done) (p := ⟨w.heap.size + 1 + 1, 7, none⟩)).other n2 (.bool over) (p := ⟨w.heap.size + 1 + 1, 8, none⟩)
  have RR := R5.row #[.int .i64 tick, .int .i64 ax, .int .i64 ay, .int .i64 fx, .int .i64 fy, .int .i64 turn, .int .i64 gate, .bool done, .bool over]
  have hO := Lib.hid O5
  have hR := Lib.hid R5
  have hS := Lib.hid RR
  clear hc1 hc2 hf1 hf2 O1 O2 O5 P1 P2 R1 R2 R5 RR hB1 hb1 hb2
  go_upto_region 9 with fail
  refine wp_copy (ty := 31) rfl hO.out Try.underlying31 rfl (by kernel_rfl) rfl rfl hR.out rfl (by simp [Value.oneCell']) ?_
  rename_i K hK
  refine hK _ _ (wp_ret ?_)
  refine bodyPost_ret (res_row rfl rfl hS.out Try.underlying31 rfl (by kernel_rfl)) rfl ?_
  exact ⟨rfl, by
    refine Below.setRow ?_ (by omega) _
    (repeat (first | with_reducible assumption | with_reducible exact Below.refl _ _ | ((with_reducible refine Below.alloc ?_ ?_ _); rotate_left; · exact (by first | omega | (simp; done) | (simp; omega))) | ((with_reducible refine Below.setCell ?_ ?_ _); rotate_left; · exact (by first | omega | (simp; done) | (simp; omega))) | with_reducible refine Below.drew ?_ | assumption | exact Below.refl _ _ | refine Below.alloc ?_ (by first | omega | (simp; done) | (simp; omega)) _ | refine Below.setCell ?_ (by first | omega | (simp; done) | (simp; omega)) _ | refine Below.drew ?_))⟩
set_option maxRecDepth 100000 in
set_option maxHeartbeats 1000000 in
theorem eqState_any (s : St) (w : World) : Calls Try.prog 32 #[.agg #[.int .i64 s.tick, .int .i64 s.ax, .int .i64 s.ay, .int .i64 s.fx, .int .i64 s.fy, .int .i64 s.turn, .int .i64 s.gate, .bool s.done, .bool s.over], .agg #[.int .i64 s.tick, .int .i64 s.ax, .int .i64 s.ay, .int .i64 s.fx, .int .i64 s.fy, .int .i64 s.turn, .int .i64 s.gate, .bool s.done, .bool s.over]] w fun e w' => e = .returned (.bool true) ∧ Below w.heap.size w w' := by
  obtain ⟨tick, ax, ay, fx, fy, turn, gate, done, over⟩ := s
  simp only
  go_enter Try.func32, Try.ntmps32
  go_wp2_with fail; refine (eqVec_any _ _ _).mono ?_; rintro e w1 ⟨rfl, hb1⟩; obtain ⟨hc1, hf1⟩ := bcell hb1; have hz1 : w.heap.size < w1.heap.size := (by have := hb1.size; first | omega | (simp at this; omega)); have hy1 : w.heap.size < w1.heap.size + 1 := Nat.lt_succ_of_lt hz1; have hB1 : Below w.heap.size w w1 := bstep (by (repeat (first | with_reducible assumption | with_reducible exact Below.refl _ _ | ((with_reducible refine Below.alloc ?_ ?_ _); rotate_left; · exact (by first | omega | (simp; done) | (simp; omega))) | ((with_reducible refine Below.setCell ?_ ?_ _); rotate_left; · exact (by first | omega | (simp; done) | (simp; omega))) | with_reducible refine Below.drew ?_ | assumption | exact Below.refl _ _ | refine Below.alloc ?_ (by first | omega | (simp; done) | (simp; omega)) _ | refine Below.setCell ?_ (by first | omega | (simp; done) | (simp; omega)) _ | refine Below.drew ?_))) (by first | omega | (simp; done) | (simp; omega)) hb1
  try (have hz1b : w.heap.size + 1 < w1.heap.size := (by have := hb1.size; first | omega | (simp at this; omega))); try (have hne1b : w1.heap.size ≠ w.heap.size + 1 := by omega)
  go_wp2_with fail; refine (eqVec_any _ _ _).mono ?_; rintro e w2 ⟨rfl, hb2⟩; obtain ⟨hc2, hf2⟩ := bcell hb2; have hz2 : w.heap.size < w2.heap.size := (by have := hb2.size; first | omega | (simp at this; omega)); have hy2 : w.heap.size < w2.heap.size + 1 := Nat.lt_succ_of_lt hz2; have hB2 : Below w.heap.size w w2 := bstep (by (repeat (first | with_reducible assumption | with_reducible exact Below.refl _ _ | ((with_reducible refine Below.alloc ?_ ?_ _); rotate_left; · exact (by first | omega | (simp; done) | (simp; omega))) | ((with_reducible refine Below.setCell ?_ ?_ _); rotate_left; · exact (by first | omega | (simp; done) | (simp; omega))) | with_reducible refine Below.drew ?_ | assumption | exact Below.refl _ _ | refine Below.alloc ?_ (by first | omega | (simp; done) | (simp; omega)) _ | refine Below.setCell ?_ (by first | omega | (simp; done) | (simp; omega)) _ | refine Below.drew ?_))) (by first | omega | (simp; done) | (simp; omega)) hb2
  try (have hz2b : w.heap.size + 1 < w2.heap.size := (by have := hb2.size; first | omega | (simp at this; omega))); try (have hne2b : w2.heap.size ≠ w.heap.size + 1 := by omega)
  cases done <;> cases over
  all_goals
    go_wp2
    go_ret
    exact ⟨rfl, by (repeat (first | with_reducible assumption | with_reducible exact Below.refl _ _ | ((with_reducible refine Below.alloc ?_ ?_ _); rotate_left; · exact (by first | omega | (simp; done) | (simp; omega))) | ((with_reducible refine Below.setCell ?_ ?_ _); rotate_left; · exact (by first | omega | (simp; done) | (simp; omega))) | with_reducible refine Below.drew ?_ | assumption | exact Below.refl _ _ | refine Below.alloc ?_ (by first | omega | (simp; done) | (simp; omega)) _ | refine Below.setCell ?_ (by first | omega | (simp; done) | (simp; omega)) _ | refine Below.drew ?_))⟩
end Go.Proofs.Ytnhjalijnociaaa

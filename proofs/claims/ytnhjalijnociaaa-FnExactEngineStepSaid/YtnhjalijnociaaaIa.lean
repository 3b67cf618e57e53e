/- Vectors of the program: scaled, added, clamped; how fast the car gets. -/
import Derived.Test.YtnhjalijnociaaaDr
import Derived.Test.YtnhjalijnociaaaQav
set_option linter.unusedVariables false
set_option linter.unusedSimpArgs false
namespace Go.Proofs.Ytnhjalijnociaaa
open Go.RowKit

set_option maxRecDepth 100000 in
set_option maxHeartbeats 1000000 in
theorem iGiven (x y : Int) (w : World) (h : vokB x y = true) : Calls Try.prog 82 #[.agg #[.int .i64 x, .int .i64 y]] w fun e w' => e = .returned (.tuple #[.agg #[.int .i64 x, .int .i64 y], .bool true]) ∧ Below w.heap.size w w' := by
  go_enter Try.func82, Try.ntmps82
  go_wp2_with fail
  refine (iVecOk _ _ _).mono ?_
  rintro e w1 ⟨rfl, hb1⟩
  rw [h]
  have A1 : Blk w1 w.heap.size #[.int .i64 x, .int .i64 y] := ((Blk.at rfl).alloc _).below hb1 (by simp; omega)
  have B1 : Blk w1 (w.heap.size + 1) #[.int .i64 0, .int .i64 0] := (Blk.at (by simp)).below hb1 (by simp)
  have hB1 : Below w.heap.size w w1 := bstep (by (repeat (first | with_reducible assumption | with_reducible exact Below.refl _ _ | ((with_reducible refine Below.alloc ?_ ?_ _); rotate_left; · exact (by first | omega | (simp; done) | (simp; omega))) | ((with_reducible refine Below.setCell ?_ ?_ _); rotate_left; · exact (by first | omega | (simp; done) | (simp; omega))) | with_reducible refine Below.drew ?_ | assumption | exact Below.refl _ _ | refine Below.alloc ?_ (by first | omega | (simp; done) | (simp; omega)) _ | refine Below.setCell ?_ (by first | omega | (simp; done) | (simp; omega)) _ | refine Below.drew ?_))) (by first | omega | (simp; done) | (simp; omega)) hb1
  clear hb1
  obtain ⟨p0, p1⟩ := A1.c2
  obtain ⟨q0, q1⟩ := B1.c2
  have qf := B1.frozen
  have hz := B1.lt
  have hZ := Lib.hid ((B1.s2_0 (.int .i64 x)).s2_1 (.int .i64 y))
  go_wp2
  refine bodyPost_ret (res_row_tmp (v := .bool true) rfl rfl hZ.out Try.underlying24 rfl (by kernel_rfl) rfl) rfl ?_
  exact ⟨rfl, by (repeat (first | with_reducible assumption | with_reducible exact Below.refl _ _ | ((with_reducible refine Below.alloc ?_ ?_ _); rotate_left; · exact (by first | omega | (simp; done) | (simp; omega))) | ((with_reducible refine Below.setCell ?_ ?_ _); rotate_left; · exact (by first | omega | (simp; done) | (simp; omega))) | with_reducible refine Below.drew ?_ | assumption | exact Below.refl _ _ | refine Below.alloc ?_ (by first | omega | (simp; done) | (simp; omega)) _ | refine Below.setCell ?_ (by first | omega | (simp; done) | (simp; omega)) _ | refine Below.drew ?_))⟩
set_option maxHeartbeats 400000 in
theorem iFixedOk (k : Int) (w : World) (h1 : -2000000000 ≤ k) (h2 : k ≤ 2000000000) : Calls Try.prog 117 #[.int .i64 k] w fun e w' => e = .returned (.bool true) ∧ Below w.heap.size w w' := by
  have d1 : decide (k ≥ -2000000000) = true := decide_eq_true h1
  have d2 : decide (k ≤ 2000000000) = true := decide_eq_true h2
  go_enter Try.func117, Try.ntmps117
  go_wp2
  go_ret
  exact ⟨ret_bool (by simp [h1, h2]), by (repeat (first | with_reducible assumption | with_reducible exact Below.refl _ _ | ((with_reducible refine Below.alloc ?_ ?_ _); rotate_left; · exact (by first | omega | (simp; done) | (simp; omega))) | ((with_reducible refine Below.setCell ?_ ?_ _); rotate_left; · exact (by first | omega | (simp; done) | (simp; omega))) | with_reducible refine Below.drew ?_ | assumption | exact Below.refl _ _ | refine Below.alloc ?_ (by first | omega | (simp; done) | (simp; omega)) _ | refine Below.setCell ?_ (by first | omega | (simp; done) | (simp; omega)) _ | refine Below.drew ?_))⟩
set_option maxHeartbeats 400000 in
theorem iFixOk (k : Int) (w : World) (h1 : -2000000000 ≤ k) (h2 : k ≤ 2000000000) : Calls Try.prog 81 #[.int .i64 k] w fun e w' => e = .returned (.bool true) ∧ Below w.heap.size w w' := by
  go_enter Try.func81, Try.ntmps81
  go_wp2_with fail
  refine (iFixedOk k _ h1 h2).mono ?_
  rintro e w1 ⟨rfl, hb1⟩
  have hB1 : Below w.heap.size w w1 := bstep (by (repeat (first | with_reducible assumption | with_reducible exact Below.refl _ _ | ((with_reducible refine Below.alloc ?_ ?_ _); rotate_left; · exact (by first | omega | (simp; done) | (simp; omega))) | ((with_reducible refine Below.setCell ?_ ?_ _); rotate_left; · exact (by first | omega | (simp; done) | (simp; omega))) | with_reducible refine Below.drew ?_ | assumption | exact Below.refl _ _ | refine Below.alloc ?_ (by first | omega | (simp; done) | (simp; omega)) _ | refine Below.setCell ?_ (by first | omega | (simp; done) | (simp; omega)) _ | refine Below.drew ?_))) (by first | omega | (simp; done) | (simp; omega)) hb1
  go_wp2
  go_ret
  exact ⟨rfl, hB1⟩
set_option maxRecDepth 100000 in
set_option maxHeartbeats 1000000 in
theorem iScale (x y k : Int) (w : World) (hv : vokB x y = true) (k1 : -2000000000 ≤ k) (k2 : k ≤ 2000000000) (h1 : -1000000000000 ≤ x * k) (h2 : x * k ≤ 1000000000000) (h3 : -1000000000000 ≤ y * k) (h4 : y * k ≤ 1000000000000) (hv2 : vokB ((x * k).tdiv 1000) ((y * k).tdiv 1000) = true) :
    Calls Try.prog 38 #[.agg #[.int .i64 x, .int .i64 y], .int .i64 k] w fun e w' => e = .returned (.tuple #[.agg #[.int .i64 ((x * k).tdiv 1000), .int .i64 ((y * k).tdiv 1000)], .bool true]) ∧ Below w.heap.size w w' := by
  go_enter Try.func38, Try.ntmps38
  go_wp2_with fail
  refine (iVecOk _ _ _).mono ?_
  rintro e w1 ⟨rfl, hb1⟩
  rw [hv]
  have A1 : Blk w1 w.heap.size #[.int .i64 x, .int .i64 y] := ((Blk.at rfl).alloc _).below hb1 (by simp; omega)
  have B1 : Blk w1 (w.heap.size + 1) #[.int .i64 0, .int .i64 0] := (Blk.at (by simp)).below hb1 (by simp)
  have hB1 : Below w.heap.size w w1 := bstep (by (repeat (first | with_reducible assumption | with_reducible exact Below.refl _ _ | ((with_reducible refine Below.alloc ?_ ?_ _); rotate_left; · exact (by first | omega | (simp; done) | (simp; omega))) | ((with_reducible refine Below.setCell ?_ ?_ _); rotate_left; · exact (by first | omega | (simp; done) | (simp; omega))) | with_reducible refine Below.drew ?_ | assumption | exact Below.refl _ _ | refine Below.alloc ?_ (by first | omega | (simp; done) | (simp; omega)) _ | refine Below.setCell ?_ (by first | omega | (simp; done) | (simp; omega)) _ | refine Below.drew ?_))) (by first | omega | (simp; done) | (simp; omega)) hb1
  clear hb1
  go_wp2_with fail
  refine (iFixOk k _ k1 k2).mono ?_
  rintro e w2 ⟨rfl, hb2⟩
  have A2 := A1.below hb2 A1.lt
  have B2 := B1.below hb2 B1.lt
  have hB2 : Below w.heap.size w w2 := bstep hB1 hB1.size hb2
  clear A1 B1 hB1 hb2
  obtain ⟨p0, p1⟩ := A2.c2
  have g1 : IntKind.i64.wrap (x * k) = x * k := IntWalk.i64_in _ (by omega)
  have g2 : IntKind.i64.wrap (y * k) = y * k := IntWalk.i64_in _ (by omega)
  go_wp2_with fail
  refine (iGiven _ _ _ hv2).mono ?_
  rintro e w3 ⟨rfl, hb3⟩
  have B3 := B2.below hb3 B2.lt
  have hB3 : Below w.heap.size w w3 := bstep hB2 hB2.size hb3
  clear A2 B2 hB2 hb3
  obtain ⟨X, hX⟩ : ∃ X, X = (x * k).tdiv 1000 := ⟨_, rfl⟩
  obtain ⟨Y, hY⟩ : ∃ Y, Y = (y * k).tdiv 1000 := ⟨_, rfl⟩
  rw [← hX, ← hY]
  have hXh := Lib.hid hX
  have hYh := Lib.hid hY
  clear hX hY hv2
  obtain ⟨q0, q1⟩ := B3.c2
  have qf := B3.frozen
  have hz := B3.lt
  have hZ := Lib.hid ((B3.s2_0 (.int .i64 X)).s2_1 (.int .i64 Y))
  go_wp2
  refine bodyPost_ret (res_row_tmp (v := .bool true) rfl rfl hZ.out Try.underlying24 rfl (by kernel_rfl) rfl) rfl ?_
  exact ⟨by rw [← hXh.out, ← hYh.out], by (repeat (first | with_reducible assumption | with_reducible exact Below.refl _ _ | ((with_reducible refine Below.alloc ?_ ?_ _); rotate_left; · exact (by first | omega | (simp; done) | (simp; omega))) | ((with_reducible refine Below.setCell ?_ ?_ _); rotate_left; · exact (by first | omega | (simp; done) | (simp; omega))) | with_reducible refine Below.drew ?_ | assumption | exact Below.refl _ _ | refine Below.alloc ?_ (by first | omega | (simp; done) | (simp; omega)) _ | refine Below.setCell ?_ (by first | omega | (simp; done) | (simp; omega)) _ | refine Below.drew ?_))⟩
set_option maxRecDepth 100000 in
set_option maxHeartbeats 1000000 in
theorem iAdd (a b c d : Int) (w : World) (h1 : vokB a b = true) (h2 : vokB c d = true) (h3 : vokB (a + c) (b + d) = true) :
    Calls Try.prog 135 #[.agg #[.int .i64 a, .int .i64 b], .agg #[.int .i64 c, .int .i64 d]] w fun e w' => e = .returned (.tuple #[.agg #[.int .i64 (a + c), .int .i64 (b + d)], .bool true]) ∧ Below w.heap.size w w' := by
  obtain ⟨⟨a1, a2⟩, ⟨a3, a4⟩⟩ := vokB_ok h1
  obtain ⟨⟨c1, c2⟩, ⟨c3, c4⟩⟩ := vokB_ok h2
  go_enter Try.func135, Try.ntmps135
  go_wp2_with fail
  refine (iVecOk _ _ _).mono ?_
  rintro e w1 ⟨rfl, hb1⟩
  rw [h1]
  have A1 : Blk w1 w.heap.size #[.int .i64 a, .int .i64 b] := (((Blk.at rfl).alloc _).alloc _).below hb1 (by simp; omega)
  have C1 : Blk w1 (w.heap.size + 1) #[.int .i64 c, .int .i64 d] := ((Blk.at (by simp)).alloc _).below hb1 (by simp)
  have B1 : Blk w1 (w.heap.size + 1 + 1) #[.int .i64 0, .int .i64 0] := (Blk.at (by simp)).below hb1 (by simp)
  have hB1 : Below w.heap.size w w1 := bstep (by (repeat (first | with_reducible assumption | with_reducible exact Below.refl _ _ | ((with_reducible refine Below.alloc ?_ ?_ _); rotate_left; · exact (by first | omega | (simp; done) | (simp; omega))) | ((with_reducible refine Below.setCell ?_ ?_ _); rotate_left; · exact (by first | omega | (simp; done) | (simp; omega))) | with_reducible refine Below.drew ?_ | assumption | exact Below.refl _ _ | refine Below.alloc ?_ (by first | omega | (simp; done) | (simp; omega)) _ | refine Below.setCell ?_ (by first | omega | (simp; done) | (simp; omega)) _ | refine Below.drew ?_))) (by first | omega | (simp; done) | (simp; omega)) hb1
  clear hb1
  obtain ⟨r0, r1⟩ := C1.c2
  go_wp2_with fail
  refine (iVecOk _ _ _).mono ?_
  rintro e w2 ⟨rfl, hb2⟩
  rw [h2]
  have A2 := A1.below hb2 A1.lt
  have C2 := C1.below hb2 C1.lt
  have B2 := B1.below hb2 B1.lt
  have hB2 : Below w.heap.size w w2 := bstep hB1 hB1.size hb2
  clear A1 B1 C1 hB1 hb2 r0 r1
  obtain ⟨p0, p1⟩ := A2.c2
  obtain ⟨r0, r1⟩ := C2.c2
  go_wp2_with fail
  refine (iGiven _ _ _ h3).mono ?_
  rintro e w3 ⟨rfl, hb3⟩
  have B3 := B2.below hb3 B2.lt
  have hB3 : Below w.heap.size w w3 := bstep hB2 hB2.size hb3
  clear A2 B2 C2 hB2 hb3
  obtain ⟨X, hX⟩ : ∃ X, X = a + c := ⟨_, rfl⟩
  obtain ⟨Y, hY⟩ : ∃ Y, Y = b + d := ⟨_, rfl⟩
  rw [← hX, ← hY]
  have hXh := Lib.hid hX
  have hYh := Lib.hid hY
  clear hX hY h3
  obtain ⟨q0, q1⟩ := B3.c2
  have qf := B3.frozen
  have hz := B3.lt
  have hZ := Lib.hid ((B3.s2_0 (.int .i64 X)).s2_1 (.int .i64 Y))
  go_wp2
  refine bodyPost_ret (res_row_tmp (v := .bool true) rfl rfl hZ.out Try.underlying24 rfl (by kernel_rfl) rfl) rfl ?_
  exact ⟨by rw [← hXh.out, ← hYh.out], by (repeat (first | with_reducible assumption | with_reducible exact Below.refl _ _ | ((with_reducible refine Below.alloc ?_ ?_ _); rotate_left; · exact (by first | omega | (simp; done) | (simp; omega))) | ((with_reducible refine Below.setCell ?_ ?_ _); rotate_left; · exact (by first | omega | (simp; done) | (simp; omega))) | with_reducible refine Below.drew ?_ | assumption | exact Below.refl _ _ | refine Below.alloc ?_ (by first | omega | (simp; done) | (simp; omega)) _ | refine Below.setCell ?_ (by first | omega | (simp; done) | (simp; omega)) _ | refine Below.drew ?_))⟩
set_option maxRecDepth 100000 in
set_option maxHeartbeats 2000000 in
theorem iClamp (x y : Int) (w : World) (h : vokB x y = true) : Calls Try.prog 136 #[.agg #[.int .i64 x, .int .i64 y], .int .i64 2000] w fun e w' => e = .returned (.tuple #[.agg #[.int .i64 (clF (len x y) x), .int .i64 (clF (len x y) y)], .bool true]) ∧ Below w.heap.size w w' := by
  obtain ⟨⟨v1, v2⟩, ⟨v3, v4⟩⟩ := vokB_ok h
  have hin : inB 2000 0 1000000 = true := inB_yes (by omega) (by omega)
  go_enter Try.func136, Try.ntmps136
  go_wp2_with fail
  refine (iLength x y _).mono ?_
  rw [h, if_pos rfl]
  rintro e w1 ⟨rfl, hb1⟩
  have A1 : Blk w1 w.heap.size #[.int .i64 x, .int .i64 y] := ((Blk.at rfl).alloc _).below hb1 (by simp; omega)
  have B1 : Blk w1 (w.heap.size + 1) #[.int .i64 0, .int .i64 0] := (Blk.at (by simp)).below hb1 (by simp)
  have hB1 : Below w.heap.size w w1 := bstep (by (repeat (first | with_reducible assumption | with_reducible exact Below.refl _ _ | ((with_reducible refine Below.alloc ?_ ?_ _); rotate_left; · exact (by first | omega | (simp; done) | (simp; omega))) | ((with_reducible refine Below.setCell ?_ ?_ _); rotate_left; · exact (by first | omega | (simp; done) | (simp; omega))) | with_reducible refine Below.drew ?_ | assumption | exact Below.refl _ _ | refine Below.alloc ?_ (by first | omega | (simp; done) | (simp; omega)) _ | refine Below.setCell ?_ (by first | omega | (simp; done) | (simp; omega)) _ | refine Below.drew ?_))) (by first | omega | (simp; done) | (simp; omega)) hb1
  have hn := len_nn x y
  obtain ⟨n, hN⟩ : ∃ n, n = len x y := ⟨_, rfl⟩
  rw [← hN] at hn
  rw [← hN]
  have hNh := Lib.hid hN
  clear hb1 h hN
  go_wp2_with fail
  refine (iIn _ _ _ _).mono ?_
  rw [hin]
  rintro e w' ⟨rfl, rfl⟩
  obtain ⟨p0, p1⟩ := A1.c2
  by_cases hc : n ≤ 2000
  · obtain ⟨q0, q1⟩ := B1.c2
    have qf := B1.frozen
    have hz := B1.lt
    have hZ := Lib.hid ((B1.s2_0 (.int .i64 x)).s2_1 (.int .i64 y))
    have e1 : clF (len x y) x = x := by rw [← hNh.out]; unfold clF; rw [if_pos hc]
    have e2 : clF (len x y) y = y := by rw [← hNh.out]; unfold clF; rw [if_pos hc]
    have h1 := Lib.hid e1
    have h2 := Lib.hid e2
    clear e1 e2
    go_wp2
    refine bodyPost_ret (res_row_tmp (v := .bool true) rfl rfl hZ.out Try.underlying24 rfl (by kernel_rfl) rfl) rfl ?_
    exact ⟨by rw [h1.out, h2.out], by (repeat (first | with_reducible assumption | with_reducible exact Below.refl _ _ | ((with_reducible refine Below.alloc ?_ ?_ _); rotate_left; · exact (by first | omega | (simp; done) | (simp; omega))) | ((with_reducible refine Below.setCell ?_ ?_ _); rotate_left; · exact (by first | omega | (simp; done) | (simp; omega))) | with_reducible refine Below.drew ?_ | assumption | exact Below.refl _ _ | refine Below.alloc ?_ (by first | omega | (simp; done) | (simp; omega)) _ | refine Below.setCell ?_ (by first | omega | (simp; done) | (simp; omega)) _ | refine Below.drew ?_))⟩
  · have e1 : clF (len x y) x = (x * 2000).tdiv n := by rw [← hNh.out]; unfold clF; rw [if_neg hc]
    have e2 : clF (len x y) y = (y * 2000).tdiv n := by rw [← hNh.out]; unfold clF; rw [if_neg hc]
    have h1 := Lib.hid e1
    have h2 := Lib.hid e2
    clear e1 e2
    have hn0 : (n == 0) = false := by simp; omega
    have hnn : n ≠ 0 := by omega
    have A2 : Blk w1.drew w.heap.size #[.int .i64 x, .int .i64 y] := A1
    have B2 : Blk w1.drew (w.heap.size + 1) #[.int .i64 0, .int .i64 0] := B1
    have hB2 : Below w.heap.size w w1.drew := hB1.drew
    have g1 : IntKind.i64.wrap (x * 2000) = x * 2000 := IntWalk.i64_in _ (by omega)
    have g2 : IntKind.i64.wrap (y * 2000) = y * 2000 := IntWalk.i64_in _ (by omega)
    have g3 : IntKind.i64.wrap ((x * 2000).tdiv n) = (x * 2000).tdiv n := IntWalk.i64_in _ (tdiv_in (n := n) (a := x * 2000) (by omega) (by omega) (by omega))
    have g4 : IntKind.i64.wrap ((y * 2000).tdiv n) = (y * 2000).tdiv n := IntWalk.i64_in _ (tdiv_in (n := n) (a := y * 2000) (by omega) (by omega) (by omega))
    go_wp2_with fail
    refine wp_region_cut 13 (by kernel_rfl) (by kernel_rfl) (S := fun W => W.cell? ⟨w.heap.size, 0, none⟩ = some (.int .i64 x) ∧ W.cell? ⟨w.heap.size, 1, none⟩ = some (.int .i64 y)) A2.c2 (fun hHeld => ?_)
    simp only [List.take_succ_cons, List.take_zero]
    (refine wpAnyH_take (i := 0) (v := ?_) rfl (by kernel_rfl) (by kernel_rfl) (by kernel_rfl) (fun _ _ _ h => h) (Or.inl ⟨by rfl, ?_⟩) (by assumption) ?_; rotate_left; · (intro w hSw; (try dsimp only at hSw); go_simp; (try with_reducible rfl))); (try simp only [Act.put, List.setIfInBounds_toArray, List.set_cons_zero, List.set_cons_succ])
    (refine wpAnyH_take (i := 1) (v := ?_) rfl (by kernel_rfl) (by kernel_rfl) (by kernel_rfl) (fun _ _ _ h => h) (Or.inl ⟨by rfl, ?_⟩) (by assumption) ?_; rotate_left; · (intro w hSw; (try dsimp only at hSw); go_simp; (try with_reducible rfl))); (try simp only [Act.put, List.setIfInBounds_toArray, List.set_cons_zero, List.set_cons_succ])
    (refine wpAnyH_take (i := 2) (v := ?_) rfl (by kernel_rfl) (by kernel_rfl) (by kernel_rfl) (fun _ _ _ h => h) (Or.inl ⟨by rfl, ?_⟩) (by assumption) ?_; rotate_left; · (intro w hSw; (try dsimp only at hSw); go_simp; (try with_reducible rfl))); (try simp only [Act.put, List.setIfInBounds_toArray, List.set_cons_zero, List.set_cons_succ])
    (refine wpAnyH_take (i := 3) (v := ?_) rfl (by kernel_rfl) (by kernel_rfl) (by kernel_rfl) (fun _ _ _ h => h) (Or.inl ⟨by rfl, ?_⟩) (by assumption) ?_; rotate_left; · (intro w hSw; (try dsimp only at hSw); go_simp; (try with_reducible rfl))); (try simp only [Act.put, List.setIfInBounds_toArray, List.set_cons_zero, List.set_cons_succ])
    (refine wpAnyH_take (i := 4) (v := ?_) rfl (by kernel_rfl) (by kernel_rfl) (by kernel_rfl) (fun _ _ _ h => h) (Or.inl ⟨by rfl, ?_⟩) (by assumption) ?_; rotate_left; · (intro w hSw; (try dsimp only at hSw); go_simp; (try with_reducible rfl))); (try simp only [Act.put, List.setIfInBounds_toArray, List.set_cons_zero, List.set_cons_succ])
    (refine wpAnyH_take (i := 5) (v := ?_) rfl (by kernel_rfl) (by kernel_rfl) (by kernel_rfl) (fun _ _ _ h => h) (Or.inl ⟨by rfl, ?_⟩) (by assumption) ?_; rotate_left; · (intro w hSw; (try dsimp only at hSw); go_simp; (try with_reducible rfl))); (try simp only [Act.put, List.setIfInBounds_toArray, List.set_cons_zero, List.set_cons_succ])
    (refine wpAnyH_take (i := 6) (v := ?_) rfl (by kernel_rfl) (by kernel_rfl) (by kernel_rfl) (fun _ _ _ h => h) (Or.inl ⟨by rfl, ?_⟩) (by assumption) ?_; rotate_left; · (intro w hSw; (try dsimp only at hSw); go_simp; (try with_reducible rfl))); (try simp only [Act.put, List.setIfInBounds_toArray, List.set_cons_zero, List.set_cons_succ])
    (refine wpAnyH_take (i := 7) (v := ?_) rfl (by kernel_rfl) (by kernel_rfl) (by kernel_rfl) (fun _ _ _ h => h) (Or.inl ⟨by rfl, ?_⟩) (by assumption) ?_; rotate_left; · (intro w hSw; (try dsimp only at hSw); go_simp; (try with_reducible rfl))); (try simp only [Act.put, List.setIfInBounds_toArray, List.set_cons_zero, List.set_cons_succ])
    (refine wpAnyH_take (i := 8) (v := ?_) rfl (by kernel_rfl) (by kernel_rfl) (by kernel_rfl) (fun _ _ _ h => h) (Or.inl ⟨by rfl, ?_⟩) (by assumption) ?_; rotate_left; · (intro w hSw; (try dsimp only at hSw); go_simp; (try with_reducible rfl))); (try simp only [Act.put, List.setIfInBounds_toArray, List.set_cons_zero, List.set_cons_succ])
    (refine wpAnyH_take (i := 9) (v := ?_) rfl (by kernel_rfl) (by kernel_rfl) (by kernel_rfl) (fun _ _ _ h => h) (Or.inl ⟨by rfl, ?_⟩) (by assumption) ?_; rotate_left; · (intro w hSw; (try dsimp only at hSw); go_simp; (try with_reducible rfl))); (try simp only [Act.put, List.setIfInBounds_toArray, List.set_cons_zero, List.set_cons_succ])
    (refine wpAnyH_take (i := 10) (v := ?_) rfl (by kernel_rfl) (by kernel_rfl) (by kernel_rfl) (fun _ _ _ h => h) (Or.inl ⟨by rfl, ?_⟩) (by assumption) ?_; rotate_left; · (intro w hSw; (try dsimp only at hSw); go_simp; (try with_reducible rfl))); (try simp only [Act.put, List.setIfInBounds_toArray, List.set_cons_zero, List.set_cons_succ])
    (refine wpAnyH_take (i := 11) (v := ?_) rfl (by kernel_rfl) (by kernel_rfl) (by kernel_rfl) (fun _ _ _ h => h) (Or.inl ⟨by rfl, ?_⟩) (by assumption) ?_; rotate_left; · (intro w hSw; (try dsimp only at hSw); go_simp; (try with_reducible rfl))); (try simp only [Act.put, List.setIfInBounds_toArray, List.set_cons_zero, List.set_cons_succ])
    (refine wpAnyH_take (i := 12) (v := ?_) rfl (by kernel_rfl) (by kernel_rfl) (by kernel_rfl) (fun _ _ _ h => h) (Or.inl ⟨by rfl, ?_⟩) (by assumption) ?_; rotate_left; · (intro w hSw; (try dsimp only at hSw); go_simp; (try with_reducible rfl))); (try simp only [Act.put, List.setIfInBounds_toArray, List.set_cons_zero, List.set_cons_succ])
    refine wpAnyH_done (by kernel_rfl) ?_ _
    simp only [TailQ, List.drop_succ_cons, List.drop_zero]
    try simp only [List.getElem_toArray, List.getElem_cons_zero, List.getElem_cons_succ, Act.put, List.setIfInBounds_toArray, List.set_cons_zero, List.set_cons_succ]
    refine st_row rfl rfl B2 (by kernel_rfl) rfl (by simp [Value.oneCell']) ?_
    have hR := Lib.hid (B2.row #[.int .i64 ((x * 2000).tdiv n), .int .i64 ((y * 2000).tdiv n)])
    have hF := Below.setRow hB2 (g := w.heap.size + 1) (Nat.le_succ _) #[.int .i64 ((x * 2000).tdiv n), .int .i64 ((y * 2000).tdiv n)]
    clear A1 B1 A2 B2 hHeld
    go_wp2
    refine bodyPost_ret (res_row_tmp (v := .bool true) rfl rfl hR.out Try.underlying24 rfl (by kernel_rfl) rfl) rfl ?_
    exact ⟨by rw [h1.out, h2.out], hF⟩
end Go.Proofs.Ytnhjalijnociaaa

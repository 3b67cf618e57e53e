/- How fast the car gets, by the program. -/
import Derived.Test.YtnhjalijnociaaaIa
set_option linter.unusedVariables false
set_option linter.unusedSimpArgs false
namespace Go.Proofs.Ytnhjalijnociaaa
open Go.RowKit

set_option maxRecDepth 100000 in
set_option maxHeartbeats 2000000 in
/-- how fast the car gets: at the direction that the state has -/
theorem iFast (s : St) (d p : Int) (w : World) (h : len s.fx s.fy ≤ 2000) (t0 : 0 ≤ s.turn) (t1 : s.turn ≤ 15) : Calls Try.prog 124 #[.agg #[.int .i64 d, .int .i64 p], .agg #[.int .i64 s.tick, .int .i64 s.ax, .int .i64 s.ay, .int .i64 s.fx, .int .i64 s.fy, .int .i64 s.turn, .int .i64 s.gate, .bool s.done, .bool s.over]] w fun e w' => e = .returned (.agg #[.int .i64 (fastX s s.turn p), .int .i64 (fastY s s.turn p)]) ∧ Below w.heap.size w w' := by
  obtain ⟨⟨f1, f2⟩, ⟨f3, f4⟩⟩ := fast_bd h
  have hB0 : Below w.heap.size w (((w.alloc (.cells #[.int .i64 d, .int .i64 p] 122)).alloc (.cells #[.int .i64 s.tick, .int .i64 s.ax, .int .i64 s.ay, .int .i64 s.fx, .int .i64 s.fy, .int .i64 s.turn, .int .i64 s.gate, .bool s.done, .bool s.over] 31)).alloc (.cells #[.int .i64 0, .int .i64 0] 24)) := by (repeat (first | with_reducible assumption | with_reducible exact Below.refl _ _ | ((with_reducible refine Below.alloc ?_ ?_ _); rotate_left; · exact (by first | omega | (simp; done) | (simp; omega))) | ((with_reducible refine Below.setCell ?_ ?_ _); rotate_left; · exact (by first | omega | (simp; done) | (simp; omega))) | with_reducible refine Below.drew ?_ | assumption | exact Below.refl _ _ | refine Below.alloc ?_ (by first | omega | (simp; done) | (simp; omega)) _ | refine Below.setCell ?_ (by first | omega | (simp; done) | (simp; omega)) _ | refine Below.drew ?_))
  by_cases hp1 : p = 1
  · subst hp1
    rw [fastX_1, fastY_1]
    obtain ⟨d1, d2⟩ := dirX_bd t0 t1
    obtain ⟨d3, d4⟩ := dirY_bd t0 t1
    obtain ⟨⟨p1, p2⟩, ⟨p3, p4⟩⟩ := fast_bd (dir_bd s.turn t0 t1)
    go_enter Try.func124, Try.ntmps124
    go_wp2_with fail
    refine (iDir s.turn _ t0 t1).mono ?_
    rintro e w1 ⟨rfl, hb1⟩
    have S1 : Blk w1 (w.heap.size + 1) #[.int .i64 s.tick, .int .i64 s.ax, .int .i64 s.ay, .int .i64 s.fx, .int .i64 s.fy, .int .i64 s.turn, .int .i64 s.gate, .bool s.done, .bool s.over] := ((Blk.at (by simp)).alloc _).below hb1 (by simp)
    have B1 : Blk w1 (w.heap.size + 1 + 1) #[.int .i64 0, .int .i64 0] := (Blk.at (by simp)).below hb1 (by simp)
    have hB1 : Below w.heap.size w w1 := hB0.trans (hb1.mono hB0.size)
    obtain ⟨DX, hDX⟩ : ∃ DX, DX = dirX s.turn := ⟨_, rfl⟩
    obtain ⟨DY, hDY⟩ : ∃ DY, DY = dirY s.turn := ⟨_, rfl⟩
    rw [← hDX, ← hDY]
    rw [← hDX] at d1 d2
    rw [← hDY] at d3 d4
    obtain ⟨X, hX⟩ : ∃ X, X = (DX * 200).tdiv 1000 := ⟨_, rfl⟩
    obtain ⟨Y, hY⟩ : ∃ Y, Y = (DY * 200).tdiv 1000 := ⟨_, rfl⟩
    have hXp : pushX s.turn = X := by rw [hX, hDX]; rfl
    have hYp : pushY s.turn = Y := by rw [hY, hDY]; rfl
    rw [hXp] at p1 p2
    rw [hYp] at p3 p4
    have hXph := Lib.hid hXp
    have hYph := Lib.hid hYp
    have k1 : vokB DX DY = true := vok_in (by omega) (by omega) (by omega) (by omega)
    have k2 : vokB ((DX * 200).tdiv 1000) ((DY * 200).tdiv 1000) = true := by rw [← hX, ← hY]; exact vok_in (by omega) (by omega) (by omega) (by omega)
    clear hDX hDY hXp hYp hb1 hB0
    have S1' := S1.alloc (.cells #[.int .i64 DX, .int .i64 DY] 24)
    have B1' := B1.alloc (.cells #[.int .i64 DX, .int .i64 DY] 24)
    have hB1' := hB1.alloc hB1.size (.cells #[.int .i64 DX, .int .i64 DY] 24)
    have hXq := Lib.hid hX
    have hYq := Lib.hid hY
    clear hX hY
    go_wp2_with fail
    refine (iScale DX DY 200 _ k1 (by omega) (by omega) (by omega) (by omega) (by omega) (by omega) k2).mono ?_
    rw [← hXq.out, ← hYq.out]
    rintro e w2 ⟨rfl, hb2⟩
    have S2 := S1'.below hb2 S1'.lt
    have B2 := B1'.below hb2 B1'.lt
    have hB2 : Below w.heap.size w w2 := hB1'.trans (hb2.mono hB1'.size)
    clear S1 B1 hB1 S1' B1' hB1' hb2 k2
    obtain ⟨r0, r1, r2, r3, r4, r5, r6, r7, r8⟩ := S2.c9
    have hz2 := S2.lt
    have hz2' := B2.lt
    have S2' := S2.alloc (.cells #[.int .i64 X, .int .i64 Y] 24)
    have B2' := B2.alloc (.cells #[.int .i64 X, .int .i64 Y] 24)
    have hB2' := hB2.alloc hB2.size (.cells #[.int .i64 X, .int .i64 Y] 24)
    go_wp2_with fail
    refine (iAdd s.fx s.fy X Y _ (vok_of_len h) (vok_in (by omega) (by omega) (by omega) (by omega)) (vok_in (by omega) (by omega) (by omega) (by omega))).mono ?_
    rintro e w3 ⟨rfl, hb3⟩
    have B3 := B2'.below hb3 B2'.lt
    have hB3 : Below w.heap.size w w3 := hB2'.trans (hb3.mono hB2'.size)
    clear S2 B2 hB2 S2' B2' hB2' hb3 r0 r1 r2 r3 r4 r5 r6 r7 r8
    have B3' := B3.alloc (.cells #[.int .i64 (s.fx + X), .int .i64 (s.fy + Y)] 24)
    have V3' : Blk (w3.alloc (.cells #[.int .i64 (s.fx + X), .int .i64 (s.fy + Y)] 24)) w3.heap.size #[.int .i64 (s.fx + X), .int .i64 (s.fy + Y)] := Blk.at rfl
    have hB3' := hB3.alloc hB3.size (.cells #[.int .i64 (s.fx + X), .int .i64 (s.fy + Y)] 24)
    have hz3 := B3.lt
    go_wp2_with fail
    refine (iClamp (s.fx + X) (s.fy + Y) _ (vok_in (by omega) (by omega) (by omega) (by omega))).mono ?_
    rintro e w4 ⟨rfl, hb4⟩
    have B4 := B3'.below hb4 B3'.lt
    have V4 := V3'.below hb4 V3'.lt
    have hB4 : Below w.heap.size w w4 := hB3'.trans (hb4.mono hB3'.size)
    clear B3 hB3 B3' V3' hB3' hb4
    obtain ⟨U, hU⟩ : ∃ U, U = clF (len (s.fx + X) (s.fy + Y)) (s.fx + X) := ⟨_, rfl⟩
    obtain ⟨V, hV⟩ : ∃ V, V = clF (len (s.fx + X) (s.fy + Y)) (s.fy + Y) := ⟨_, rfl⟩
    rw [← hU, ← hV]
    have hUh := Lib.hid hU
    have hVh := Lib.hid hV
    clear hU hV
    obtain ⟨v0, v1⟩ := V4.c2
    have vf := V4.frozen
    have hzv := V4.lt
    have hne : w.heap.size + 1 + 1 ≠ w3.heap.size := by omega
    have V5 := (V4.s2_0 (.int .i64 U)).s2_1 (.int .i64 V)
    have B5 := (B4.other (p := ⟨w3.heap.size, 0, none⟩) hne (.int .i64 U)).other (p := ⟨w3.heap.size, 1, none⟩) hne (.int .i64 V)
    have hB5 := (hB4.setCell (p := ⟨w3.heap.size, 0, none⟩) (by simp only; omega) (.int .i64 U)).setCell (p := ⟨w3.heap.size, 1, none⟩) (by simp only; omega) (.int .i64 V)
    go_upto_region 7 with fail
    clear V4 B4 hB4 v0 v1 vf
    generalize (w4.setCell ⟨w3.heap.size, 0, none⟩ (.int .i64 U)).setCell ⟨w3.heap.size, 1, none⟩ (.int .i64 V) = w5 at *
    obtain ⟨v0, v1⟩ := V5.c2
    obtain ⟨q0, q1⟩ := B5.c2
    have qf := B5.frozen
    have hz5 := B5.lt
    have hz5' := V5.lt
    have hZ := Lib.hid ((B5.s2_0 (.int .i64 U)).s2_1 (.int .i64 V))
    have hB6 := Lib.hid ((hB5.setCell (p := ⟨w.heap.size + 1 + 1, 0, none⟩) (by simp only; omega) (.int .i64 U)).setCell (p := ⟨w.heap.size + 1 + 1, 1, none⟩) (by simp only; omega) (.int .i64 V))
    go_wp2
    refine bodyPost_ret (res_row rfl rfl hZ.out Try.underlying24 rfl (by kernel_rfl)) rfl ?_
    exact ⟨by rw [hXph.out, hYph.out, ← hUh.out, ← hVh.out], hB6.out⟩
  · by_cases hp2 : p = 2
    · subst hp2
      rw [fastX_2, fastY_2]
      clear hp1
      go_enter Try.func124, Try.ntmps124
      have k0 := vok_of_len h
      have k2 : vokB ((s.fx * 700).tdiv 1000) ((s.fy * 700).tdiv 1000) = true := by
        have a1 := ab_le (Int.le_trans (ab_scale (a := s.fx) (k := 700) (by omega) (by omega)) (le_ab (m := 2000) f1 f2))
        have a2 := ab_le (Int.le_trans (ab_scale (a := s.fy) (k := 700) (by omega) (by omega)) (le_ab (m := 2000) f3 f4))
        exact vok_in (by omega) (by omega) (by omega) (by omega)
      go_wp2_with fail
      refine (iScale s.fx s.fy 700 _ k0 (by omega) (by omega) (by omega) (by omega) (by omega) (by omega) k2).mono ?_
      rintro e w1 ⟨rfl, hb1⟩
      have B1 : Blk w1 (w.heap.size + 1 + 1) #[.int .i64 0, .int .i64 0] := (Blk.at (by simp)).below hb1 (by simp)
      have hB1 : Below w.heap.size w w1 := hB0.trans (hb1.mono hB0.size)
      obtain ⟨X, hX⟩ : ∃ X, X = (s.fx * 700).tdiv 1000 := ⟨_, rfl⟩
      obtain ⟨Y, hY⟩ : ∃ Y, Y = (s.fy * 700).tdiv 1000 := ⟨_, rfl⟩
      rw [← hX, ← hY]
      have hXh := Lib.hid hX
      have hYh := Lib.hid hY
      clear hX hY k0 k2 hB0 hb1
      obtain ⟨q0, q1⟩ := B1.c2
      have qf := B1.frozen
      have hz1 := B1.lt
      have hZ := Lib.hid (((B1.s2_0 (.int .i64 X)).s2_1 (.int .i64 Y)).alloc (.cells #[.int .i64 X, .int .i64 Y] 24))
      have hB3 := Lib.hid (((hB1.setCell (p := ⟨w.heap.size + 1 + 1, 0, none⟩) (by simp only; omega) (.int .i64 X)).setCell (p := ⟨w.heap.size + 1 + 1, 1, none⟩) (by simp only; omega) (.int .i64 Y)).alloc (by simp; omega) (.cells #[.int .i64 X, .int .i64 Y] 24))
      go_wp2
      refine bodyPost_ret (res_row rfl rfl hZ.out Try.underlying24 rfl (by kernel_rfl)) rfl ?_
      exact ⟨by rw [← hXh.out, ← hYh.out], hB3.out⟩
    · rw [fastX_0 s s.turn hp1 hp2, fastY_0 s s.turn hp1 hp2]
      have e1 : (p == 1) = false := by simpa using hp1
      have e2 : (p == 2) = false := by simpa using hp2
      clear hp1 hp2
      go_enter Try.func124, Try.ntmps124
      have k0 := vok_of_len h
      have k2 : vokB ((s.fx * 950).tdiv 1000) ((s.fy * 950).tdiv 1000) = true := by
        have a1 := ab_le (Int.le_trans (ab_scale (a := s.fx) (k := 950) (by omega) (by omega)) (le_ab (m := 2000) f1 f2))
        have a2 := ab_le (Int.le_trans (ab_scale (a := s.fy) (k := 950) (by omega) (by omega)) (le_ab (m := 2000) f3 f4))
        exact vok_in (by omega) (by omega) (by omega) (by omega)
      go_wp2_with fail
      refine (iScale s.fx s.fy 950 _ k0 (by omega) (by omega) (by omega) (by omega) (by omega) (by omega) k2).mono ?_
      rintro e w1 ⟨rfl, hb1⟩
      have B1 : Blk w1 (w.heap.size + 1 + 1) #[.int .i64 0, .int .i64 0] := (Blk.at (by simp)).below hb1 (by simp)
      have hB1 : Below w.heap.size w w1 := hB0.trans (hb1.mono hB0.size)
      obtain ⟨X, hX⟩ : ∃ X, X = (s.fx * 950).tdiv 1000 := ⟨_, rfl⟩
      obtain ⟨Y, hY⟩ : ∃ Y, Y = (s.fy * 950).tdiv 1000 := ⟨_, rfl⟩
      rw [← hX, ← hY]
      have hXh := Lib.hid hX
      have hYh := Lib.hid hY
      clear hX hY k0 k2 hB0 hb1
      obtain ⟨q0, q1⟩ := B1.c2
      have qf := B1.frozen
      have hz1 := B1.lt
      have hZ := Lib.hid (((B1.s2_0 (.int .i64 X)).s2_1 (.int .i64 Y)).alloc (.cells #[.int .i64 X, .int .i64 Y] 24))
      have hB3 := Lib.hid (((hB1.setCell (p := ⟨w.heap.size + 1 + 1, 0, none⟩) (by simp only; omega) (.int .i64 X)).setCell (p := ⟨w.heap.size + 1 + 1, 1, none⟩) (by simp only; omega) (.int .i64 Y)).alloc (by simp; omega) (.cells #[.int .i64 X, .int .i64 Y] 24))
      go_wp2
      refine bodyPost_ret (res_row rfl rfl hZ.out Try.underlying24 rfl (by kernel_rfl)) rfl ?_
      exact ⟨by rw [← hXh.out, ← hYh.out], hB3.out⟩
end Go.Proofs.Ytnhjalijnociaaa

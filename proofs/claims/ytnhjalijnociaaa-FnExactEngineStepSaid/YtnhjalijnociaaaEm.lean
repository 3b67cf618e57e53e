/- The walk of FnExactEngineStep. -/
import Derived.Test.YtnhjalijnociaaaQal
import Derived.Test.YtnhjalijnociaaaQas
import Derived.Test.YtnhjalijnociaaaIg
import Derived.Test.YtnhjalijnociaaaIh
set_option linter.unusedVariables false
set_option linter.unusedSimpArgs false
namespace Go.Proofs.Ytnhjalijnociaaa
open Go.RowKit

theorem step_store {P : Program} {ops : Array Oper} {o : Oper} {a : Act} {w : World} {K : Act → World → Prop} {Q : Exit → Act → World → Prop} {E : Prop} {g : Nat} {cells old : Array Value} (hgd : o.guard = none) (ty : TypeId) (x y : Operand) (ho : o.op = .store ty x y)
    (hx : a.eval x = .pointer (some ⟨g, 0, none⟩)) (hy : a.eval y = .agg cells) (hb : Blk w g old) (hi : (P.info? ty).map (·.size) = some cells.size) (hold : old.size = cells.size) (h1 : cells.all (·.oneCell') = true) (hK : K (a.put o.dst undef) (w.setRow g cells)) :
    if Region.wanted o (yielded ops a.tmps) = true then Oper.wp P o a w K Q else E := by
  obtain ⟨t0, hg⟩ := hb
  rw [if_pos (by simp [Region.wanted, hgd])]
  exact wp_store_row ty x y ho g cells hx hy t0 old hg hi hold h1 hK
theorem re_stepB (l : Lv) (wa : Option Addr) (wc : Nat) (ga : Option Addr) (gc : Nat) (s : St) (d p : Int) (b : Bool) : stepB (l.re wa wc ga gc) s d p b = stepB l s d p b := rfl
theorem re_stepV (l : Lv) (wa : Option Addr) (wc : Nat) (ga : Option Addr) (gc : Nat) (s : St) (d p : Int) (b : Bool) : stepV (l.re wa wc ga gc) s d p b = stepV l s d p b := rfl
structure EX (w0 : World) (l : Lv) (s : St) (d p : Int) (b : Bool) (w : World) : Prop where
  L : Blk w w0.heap.size #[.int .i64 l.id, .int .i64 l.ticks, .int .i64 l.sx, .int .i64 l.sy, .slice l.wa l.wn l.wc, .slice l.ga l.gn l.gc, .int .i64 l.flx, .int .i64 l.fly, .int .i64 l.fhx, .int .i64 l.fhy, .int .i64 l.bans]
  S : Blk w (w0.heap.size + 1) #[.int .i64 s.tick, .int .i64 s.ax, .int .i64 s.ay, .int .i64 s.fx, .int .i64 s.fy, .int .i64 s.turn, .int .i64 s.gate, .bool s.done, .bool s.over]
  X : Blk w (w0.heap.size + 1 + 1) #[.int .i64 d, .int .i64 p, .bool b]
  lv : LvAt w l
  bel : Below w0.heap.size w0 w
section
variable {w0 w w' : World} {l : Lv} {s : St} {d p : Int} {b : Bool}
theorem EX.pass (h : EX w0 l s d p b w) (hb : Below w.heap.size w w') : EX w0 l s d p b w' := ⟨h.L.below hb h.L.lt, h.S.below hb h.S.lt, h.X.below hb h.X.lt, h.lv.keep hb, h.bel.trans (hb.mono h.bel.size)⟩
theorem EX.held (h : EX w0 l s d p b w) (hb : Below w.heap.size w w') : ((fun W => (W.cell? ⟨w0.heap.size, 0, none⟩ = some (.int .i64 l.id) ∧ W.cell? ⟨w0.heap.size, 1, none⟩ = some (.int .i64 l.ticks) ∧ W.cell? ⟨w0.heap.size, 2, none⟩ = some (.int .i64 l.sx) ∧ W.cell? ⟨w0.heap.size, 3, none⟩ = some (.int .i64 l.sy) ∧ W.cell? ⟨w0.heap.size, 4, none⟩ = some (.slice l.wa l.wn l.wc) ∧ W.cell? ⟨w0.heap.size, 5, none⟩ = some (.slice l.ga l.gn l.gc) ∧ W.cell? ⟨w0.heap.size, 6, none⟩ = some (.int .i64 l.flx) ∧ W.cell? ⟨w0.heap.size, 7, none⟩ = some (.int .i64 l.fly) ∧ W.cell? ⟨w0.heap.size, 8, none⟩ = some (.int .i64 l.fhx) ∧ W.cell? ⟨w0.heap.size, 9, none⟩ = some (.int .i64 l.fhy) ∧ W.cell? ⟨w0.heap.size, 10, none⟩ = some (.int .i64 l.bans)) ∧ (W.cell? ⟨w0.heap.size + 1, 0, none⟩ = some (.int .i64 s.tick) ∧ W.cell? ⟨w0.heap.size + 1, 1, none⟩ = some (.int .i64 s.ax) ∧ W.cell? ⟨w0.heap.size + 1, 2, none⟩ = some (.int .i64 s.ay) ∧ W.cell? ⟨w0.heap.size + 1, 3, none⟩ = some (.int .i64 s.fx) ∧ W.cell? ⟨w0.heap.size + 1, 4, none⟩ = some (.int .i64 s.fy) ∧ W.cell? ⟨w0.heap.size + 1, 5, none⟩ = some (.int .i64 s.turn) ∧ W.cell? ⟨w0.heap.size + 1, 6, none⟩ = some (.int .i64 s.gate) ∧ W.cell? ⟨w0.heap.size + 1, 7, none⟩ = some (.bool s.done) ∧ W.cell? ⟨w0.heap.size + 1, 8, none⟩ = some (.bool s.over)) ∧ (W.cell? ⟨w0.heap.size + 1 + 1, 0, none⟩ = some (.int .i64 d) ∧ W.cell? ⟨w0.heap.size + 1 + 1, 1, none⟩ = some (.int .i64 p) ∧ W.cell? ⟨w0.heap.size + 1 + 1, 2, none⟩ = some (.bool b))) : World → Prop) w' := by
  have e := h.pass hb
  exact ⟨e.L.c11, e.S.c9, e.X.cell 0, e.X.cell 1, e.X.cell 2⟩
theorem held7 {PJ : Nat} {wa6 ga6 : Option Addr} {wc6 gc6 : Nat} (h : EX w0 l s d p b w) (J : Blk w PJ #[.int .i64 l.id, .int .i64 l.ticks, .int .i64 l.sx, .int .i64 l.sy, .slice wa6 l.wn wc6, .slice ga6 l.gn gc6, .int .i64 l.flx, .int .i64 l.fly, .int .i64 l.fhx, .int .i64 l.fhy, .int .i64 l.bans]) (hb : Below w.heap.size w w') : ((fun W => (W.cell? ⟨PJ, 0, none⟩ = some (.int .i64 l.id) ∧ W.cell? ⟨PJ, 1, none⟩ = some (.int .i64 l.ticks) ∧ W.cell? ⟨PJ, 2, none⟩ = some (.int .i64 l.sx) ∧ W.cell? ⟨PJ, 3, none⟩ = some (.int .i64 l.sy) ∧ W.cell? ⟨PJ, 4, none⟩ = some (.slice wa6 l.wn wc6) ∧ W.cell? ⟨PJ, 5, none⟩ = some (.slice ga6 l.gn gc6) ∧ W.cell? ⟨PJ, 6, none⟩ = some (.int .i64 l.flx) ∧ W.cell? ⟨PJ, 7, none⟩ = some (.int .i64 l.fly) ∧ W.cell? ⟨PJ, 8, none⟩ = some (.int .i64 l.fhx) ∧ W.cell? ⟨PJ, 9, none⟩ = some (.int .i64 l.fhy) ∧ W.cell? ⟨PJ, 10, none⟩ = some (.int .i64 l.bans)) ∧ (W.cell? ⟨w0.heap.size, 0, none⟩ = some (.int .i64 l.id) ∧ W.cell? ⟨w0.heap.size, 1, none⟩ = some (.int .i64 l.ticks) ∧ W.cell? ⟨w0.heap.size, 2, none⟩ = some (.int .i64 l.sx) ∧ W.cell? ⟨w0.heap.size, 3, none⟩ = some (.int .i64 l.sy) ∧ W.cell? ⟨w0.heap.size, 4, none⟩ = some (.slice l.wa l.wn l.wc) ∧ W.cell? ⟨w0.heap.size, 5, none⟩ = some (.slice l.ga l.gn l.gc) ∧ W.cell? ⟨w0.heap.size, 6, none⟩ = some (.int .i64 l.flx) ∧ W.cell? ⟨w0.heap.size, 7, none⟩ = some (.int .i64 l.fly) ∧ W.cell? ⟨w0.heap.size, 8, none⟩ = some (.int .i64 l.fhx) ∧ W.cell? ⟨w0.heap.size, 9, none⟩ = some (.int .i64 l.fhy) ∧ W.cell? ⟨w0.heap.size, 10, none⟩ = some (.int .i64 l.bans)) ∧ (W.cell? ⟨w0.heap.size + 1, 0, none⟩ = some (.int .i64 s.tick) ∧ W.cell? ⟨w0.heap.size + 1, 1, none⟩ = some (.int .i64 s.ax) ∧ W.cell? ⟨w0.heap.size + 1, 2, none⟩ = some (.int .i64 s.ay) ∧ W.cell? ⟨w0.heap.size + 1, 3, none⟩ = some (.int .i64 s.fx) ∧ W.cell? ⟨w0.heap.size + 1, 4, none⟩ = some (.int .i64 s.fy) ∧ W.cell? ⟨w0.heap.size + 1, 5, none⟩ = some (.int .i64 s.turn) ∧ W.cell? ⟨w0.heap.size + 1, 6, none⟩ = some (.int .i64 s.gate) ∧ W.cell? ⟨w0.heap.size + 1, 7, none⟩ = some (.bool s.done) ∧ W.cell? ⟨w0.heap.size + 1, 8, none⟩ = some (.bool s.over)) ∧ (W.cell? ⟨w0.heap.size + 1 + 1, 0, none⟩ = some (.int .i64 d) ∧ W.cell? ⟨w0.heap.size + 1 + 1, 1, none⟩ = some (.int .i64 p) ∧ W.cell? ⟨w0.heap.size + 1 + 1, 2, none⟩ = some (.bool b))) : World → Prop) w' :=
  ⟨(J.below hb J.lt).c11, h.held hb⟩
end
set_option maxRecDepth 100000 in
set_option maxHeartbeats 8000000 in
theorem lawExStep (l : Lv) (s : St) (d p : Int) (b : Bool) (w : World) (h : LvIn w l) (hd : (Lit.int .i64 d).wf = true) (hp : (Lit.int .i64 p).wf = true) : Calls Try.prog 6 #[.agg #[.int .i64 l.id, .int .i64 l.ticks, .int .i64 l.sx, .int .i64 l.sy, .slice l.wa l.wn l.wc, .slice l.ga l.gn l.gc, .int .i64 l.flx, .int .i64 l.fly, .int .i64 l.fhx, .int .i64 l.fhy, .int .i64 l.bans], .agg #[.int .i64 s.tick, .int .i64 s.ax, .int .i64 s.ay, .int .i64 s.fx, .int .i64 s.fy, .int .i64 s.turn, .int .i64 s.gate, .bool s.done, .bool s.over], .agg #[.int .i64 d, .int .i64 p, .bool b]] w fun e w' => e = .returned (.bool true) ∧ Below w.heap.size w w' := by
  obtain ⟨hl, h1, h2⟩ := h
  by_cases hs : l.wn + l.gn ≤ 1048576
  · go_enter Try.func6, Try.ntmps6
    go_wp2_with fail
    refine (szLevel_any l _ (by unfold maxLen at h1; omega) (by unfold maxLen at h2; omega)).mono ?_
    rintro e w1 ⟨⟨z1, rfl, hz⟩, hb1⟩
    rw [if_pos hs] at hz
    subst hz
    have E1 : EX w l s d p b w1 := EX.pass (w := ((w.alloc (.cells #[.int .i64 l.id, .int .i64 l.ticks, .int .i64 l.sx, .int .i64 l.sy, .slice l.wa l.wn l.wc, .slice l.ga l.gn l.gc, .int .i64 l.flx, .int .i64 l.fly, .int .i64 l.fhx, .int .i64 l.fhy, .int .i64 l.bans] 45)).alloc (.cells #[.int .i64 s.tick, .int .i64 s.ax, .int .i64 s.ay, .int .i64 s.fx, .int .i64 s.fy, .int .i64 s.turn, .int .i64 s.gate, .bool s.done, .bool s.over] 47)).alloc (.cells #[.int .i64 d, .int .i64 p, .bool b] 48)) ⟨((Blk.at rfl).alloc _).alloc _, (Blk.at (by simp)).alloc _, Blk.at (by simp), hl.keep (by (repeat (first | with_reducible assumption | with_reducible exact Below.refl _ _ | ((with_reducible refine Below.alloc ?_ ?_ _); rotate_left; · exact (by first | omega | (simp; done) | (simp; omega))) | ((with_reducible refine Below.setCell ?_ ?_ _); rotate_left; · exact (by first | omega | (simp; done) | (simp; omega))) | with_reducible refine Below.drew ?_ | assumption | exact Below.refl _ _ | refine Below.alloc ?_ (by first | omega | (simp; done) | (simp; omega)) _ | refine Below.setCell ?_ (by first | omega | (simp; done) | (simp; omega)) _ | refine Below.drew ?_))), by (repeat (first | with_reducible assumption | with_reducible exact Below.refl _ _ | ((with_reducible refine Below.alloc ?_ ?_ _); rotate_left; · exact (by first | omega | (simp; done) | (simp; omega))) | ((with_reducible refine Below.setCell ?_ ?_ _); rotate_left; · exact (by first | omega | (simp; done) | (simp; omega))) | with_reducible refine Below.drew ?_ | assumption | exact Below.refl _ _ | refine Below.alloc ?_ (by first | omega | (simp; done) | (simp; omega)) _ | refine Below.setCell ?_ (by first | omega | (simp; done) | (simp; omega)) _ | refine Below.drew ?_))⟩ hb1
    clear hb1 hl h1 h2
    obtain ⟨V, hV⟩ : ∃ V, V = stepV l s d p b := ⟨_, rfl⟩
    obtain ⟨B, hB⟩ : ∃ B, B = stepB l s d p b := ⟨_, rfl⟩
    have hVh := Lib.hid hV
    have hBh := Lib.hid hB
    clear hV hB
    go_upto_region 5 with fail
    rename_i K5 hK5
    have fin5 : ∀ (P8 : Nat) (y0 y1 y2 y6 y7 y10 y11 y12 y13 y14 y15 y16 y17 y18 y19 y20 y21 y22 y23 y24 y25 y26 y27 y28 y29 y30 y31 y32 y33 y34 y35 y36 y37 y38 y39 y40 y41 y42 y43 y44 y45 y46 y47 y48 y49 y50 y51 y52 : Value) (w2 : World), Below w1.heap.size w1 w2 → w1.heap.size ≤ P8 → Blk w2 P8 #[.int .i64 V.tick, .int .i64 V.ax, .int .i64 V.ay, .int .i64 V.fx, .int .i64 V.fy, .int .i64 V.turn, .int .i64 V.gate, .bool V.done, .bool V.over] → K5 ⟨#[y0, y1, y2, .pointer (some ⟨w.heap.size, 0, none⟩), .pointer (some ⟨w.heap.size + 1, 0, none⟩), .pointer (some ⟨w.heap.size + 1 + 1, 0, none⟩), y6, y7, .pointer (some ⟨P8, 0, none⟩), .bool B, y10, y11, y12, y13, y14, y15, y16, y17, y18, y19, y20, y21, y22, y23, y24, y25, y26, y27, y28, y29, y30, y31, y32, y33, y34, y35, y36, y37, y38, y39, y40, y41, y42, y43, y44, y45, y46, y47, y48, y49, y50, y51, y52], []⟩ w2 := by
      intro P8 y0 y1 y2 y6 y7 y10 y11 y12 y13 y14 y15 y16 y17 y18 y19 y20 y21 y22 y23 y24 y25 y26 y27 y28 y29 y30 y31 y32 y33 y34 y35 y36 y37 y38 y39 y40 y41 y42 y43 y44 y45 y46 y47 y48 y49 y50 y51 y52 w2 b2 hge R2
      refine hK5 _ _ ?_
      have E2 := E1.pass b2
      clear E1 b2 hK5 hge
      (try clear q0 q1 q2 q3 q4 q5 q6 q7 q8 q9 q10); obtain ⟨q0, q1, q2, q3, q4, q5, q6, q7, q8, q9, q10⟩ := E2.L.c11
      go_wp2_with fail
      refine (toLevel_any l _ (by omega) (by omega) E2.lv).mono ?_
      rintro e w6 ⟨wa6, wc6, ga6, gc6, rfl, hl5, hb6⟩
      have bA := (Below.refl w6.heap.size w6).alloc (Nat.le_refl _) (.cells #[.int .i64 l.id, .int .i64 l.ticks, .int .i64 l.sx, .int .i64 l.sy, .slice wa6 l.wn wc6, .slice ga6 l.gn gc6, .int .i64 l.flx, .int .i64 l.fly, .int .i64 l.fhx, .int .i64 l.fhy, .int .i64 l.bans] 29)
      have E6 := (E2.pass hb6).pass bA
      have J6 : Blk (w6.alloc (.cells #[.int .i64 l.id, .int .i64 l.ticks, .int .i64 l.sx, .int .i64 l.sy, .slice wa6 l.wn wc6, .slice ga6 l.gn gc6, .int .i64 l.flx, .int .i64 l.fly, .int .i64 l.fhx, .int .i64 l.fhy, .int .i64 l.bans] 29)) w6.heap.size #[.int .i64 l.id, .int .i64 l.ticks, .int .i64 l.sx, .int .i64 l.sy, .slice wa6 l.wn wc6, .slice ga6 l.gn gc6, .int .i64 l.flx, .int .i64 l.fly, .int .i64 l.fhx, .int .i64 l.fhy, .int .i64 l.bans] := Blk.at rfl
      have hl6 := hl5.keep bA
      have Q6 := (R2.below hb6 R2.lt).below bA (R2.below hb6 R2.lt).lt
      clear q0 q1 q2 q3 q4 q5 q6 q7 q8 q9 q10 hb6 hl5 bA E2 R2
      go_upto_region 7 with fail
      rename_i K7 hK7
      generalize w6.alloc (.cells #[.int .i64 l.id, .int .i64 l.ticks, .int .i64 l.sx, .int .i64 l.sy, .slice wa6 l.wn wc6, .slice ga6 l.gn gc6, .int .i64 l.flx, .int .i64 l.fly, .int .i64 l.fhx, .int .i64 l.fhy, .int .i64 l.bans] 29) = w7 at *
      generalize w6.heap.size = PJ at *
      have fin7 : ∀ (P9 : Nat) (z0 z1 z2 z6 z7 z13 z14 z15 z16 z17 z18 z19 z20 z21 z22 z23 z24 z25 z26 z27 z28 z29 z30 z31 z32 z33 z34 z35 z36 z37 z38 z39 z40 z41 z42 z43 z44 z45 z46 z47 z48 z49 z50 z51 z52 : Value) (w9 : World), Below w7.heap.size w7 w9 → w7.heap.size ≤ P9 → Blk w9 P9 #[.int .i64 V.tick, .int .i64 V.ax, .int .i64 V.ay, .int .i64 V.fx, .int .i64 V.fy, .int .i64 V.turn, .int .i64 V.gate, .bool V.done, .bool V.over] → K7 ⟨#[z0, z1, z2, .pointer (some ⟨w.heap.size, 0, none⟩), .pointer (some ⟨w.heap.size + 1, 0, none⟩), .pointer (some ⟨w.heap.size + 1 + 1, 0, none⟩), z6, z7, .pointer (some ⟨P8, 0, none⟩), .bool B, .pointer (some ⟨PJ, 0, none⟩), .pointer (some ⟨P9, 0, none⟩), .bool B, z13, z14, z15, z16, z17, z18, z19, z20, z21, z22, z23, z24, z25, z26, z27, z28, z29, z30, z31, z32, z33, z34, z35, z36, z37, z38, z39, z40, z41, z42, z43, z44, z45, z46, z47, z48, z49, z50, z51, z52], []⟩ w9 := by
        intro P9 z0 z1 z2 z6 z7 z13 z14 z15 z16 z17 z18 z19 z20 z21 z22 z23 z24 z25 z26 z27 z28 z29 z30 z31 z32 z33 z34 z35 z36 z37 z38 z39 z40 z41 z42 z43 z44 z45 z46 z47 z48 z49 z50 z51 z52 w9 b9 hge R9
        refine hK7 _ _ ?_
        have E9 := E6.pass b9
        have J9 := J6.below b9 J6.lt
        have hm9 := hl6.keep b9
        have Q9 := Q6.below b9 Q6.lt
        clear E6 J6 hl6 Q6 b9 hK7
        have o0 := R9.c9
        have o1 := Q9.c9
        obtain ⟨r0, r1, r2, r3, r4, r5, r6, r7, r8⟩ := o0
        obtain ⟨s0, s1, s2, s3, s4, s5, s6, s7, s8⟩ := o1
        go_wp2_with fail
        refine (eqState_any V _).mono ?_
        rintro e w10 ⟨rfl, hb10⟩
        have E10 := E9.pass hb10
        have J10 := J9.below hb10 J9.lt
        have hm10 := hm9.keep hb10
        clear E9 J9 hm9 r0 r1 r2 r3 r4 r5 r6 r7 r8 s0 s1 s2 s3 s4 s5 s6 s7 s8 R9 Q9 hb10 hge
        go_wp2_with fail
        have b11 := (Below.refl w10.heap.size w10).drew
        have E11 := E10.pass b11
        have J11 := J10.below b11 J10.lt
        refine wp_region_cut 4 (by kernel_rfl) (by kernel_rfl) (S := fun W => (W.cell? ⟨PJ, 0, none⟩ = some (.int .i64 l.id) ∧ W.cell? ⟨PJ, 1, none⟩ = some (.int .i64 l.ticks) ∧ W.cell? ⟨PJ, 2, none⟩ = some (.int .i64 l.sx) ∧ W.cell? ⟨PJ, 3, none⟩ = some (.int .i64 l.sy) ∧ W.cell? ⟨PJ, 4, none⟩ = some (.slice wa6 l.wn wc6) ∧ W.cell? ⟨PJ, 5, none⟩ = some (.slice ga6 l.gn gc6) ∧ W.cell? ⟨PJ, 6, none⟩ = some (.int .i64 l.flx) ∧ W.cell? ⟨PJ, 7, none⟩ = some (.int .i64 l.fly) ∧ W.cell? ⟨PJ, 8, none⟩ = some (.int .i64 l.fhx) ∧ W.cell? ⟨PJ, 9, none⟩ = some (.int .i64 l.fhy) ∧ W.cell? ⟨PJ, 10, none⟩ = some (.int .i64 l.bans)) ∧ (W.cell? ⟨w.heap.size, 0, none⟩ = some (.int .i64 l.id) ∧ W.cell? ⟨w.heap.size, 1, none⟩ = some (.int .i64 l.ticks) ∧ W.cell? ⟨w.heap.size, 2, none⟩ = some (.int .i64 l.sx) ∧ W.cell? ⟨w.heap.size, 3, none⟩ = some (.int .i64 l.sy) ∧ W.cell? ⟨w.heap.size, 4, none⟩ = some (.slice l.wa l.wn l.wc) ∧ W.cell? ⟨w.heap.size, 5, none⟩ = some (.slice l.ga l.gn l.gc) ∧ W.cell? ⟨w.heap.size, 6, none⟩ = some (.int .i64 l.flx) ∧ W.cell? ⟨w.heap.size, 7, none⟩ = some (.int .i64 l.fly) ∧ W.cell? ⟨w.heap.size, 8, none⟩ = some (.int .i64 l.fhx) ∧ W.cell? ⟨w.heap.size, 9, none⟩ = some (.int .i64 l.fhy) ∧ W.cell? ⟨w.heap.size, 10, none⟩ = some (.int .i64 l.bans))) ⟨J11.c11, E11.L.c11⟩ (fun hHeld => ?_)
        simp only [List.take_succ_cons, List.take_zero]
        (refine wpAnyH_take (i := 0) (v := ?_) rfl (by kernel_rfl) (by kernel_rfl) (by kernel_rfl) (fun _ _ _ h => h) (Or.inl ⟨by rfl, ?_⟩) (by assumption) ?_; rotate_left; · (intro w hSw; (try dsimp only at hSw); go_simp; (try with_reducible rfl))); (try simp only [Act.put, List.setIfInBounds_toArray, List.set_cons_zero, List.set_cons_succ])
        (refine wpAnyH_take (i := 1) (v := ?_) rfl (by kernel_rfl) (by kernel_rfl) (by kernel_rfl) (fun _ _ _ h => h) (Or.inl ⟨by rfl, ?_⟩) (by assumption) ?_; rotate_left; · (intro w hSw; (try dsimp only at hSw); go_simp; (try with_reducible rfl))); (try simp only [Act.put, List.setIfInBounds_toArray, List.set_cons_zero, List.set_cons_succ])
        refine wpAnyH_ready (rs := [2]) (by kernel_rfl) (by simp) ?_; refine AllReadyH.cons rfl (fun K hK => ?_) AllReadyH.nil; (try simp only [List.getElem_toArray, List.getElem_cons_succ, List.getElem_cons_zero])
        go_simp
        go_at_call 29
        refine (toLevel_any l _ (by omega) (by omega) E11.lv).mono ?_
        rintro e w12 ⟨wa12, wc12, ga12, gc12, rfl, hl12, hb12⟩
        have E12 := E11.pass hb12
        have J12 := J11.below hb12 J11.lt
        have hm12 : LvAt w12 (l.re wa6 wc6 ga6 gc6) := (hm10.keep b11).keep hb12
        go_wp2_with fail
        refine hK.out _ _ (⟨J12.c11, E12.L.c11⟩) (fun hHeld => ?_); clear hK K; (try simp only [Act.put, List.setIfInBounds_toArray, List.set_cons_zero, List.set_cons_succ])
        refine wpAnyH_ready (rs := [3]) (by kernel_rfl) (by simp) ?_; refine AllReadyH.cons rfl (fun K hK => ?_) AllReadyH.nil; (try simp only [List.getElem_toArray, List.getElem_cons_succ, List.getElem_cons_zero])
        go_simp
        go_at_call 33
        refine (eqLevel_any l wa6 wa12 wc6 wc12 ga6 ga12 gc6 gc12 _ (by omega) (by omega) hm12 hl12).mono ?_
        rintro e w13 ⟨rfl, hb13⟩
        have E13 := E12.pass hb13
        have J13 := J12.below hb13 J12.lt
        go_wp2_with fail
        refine hK.out _ _ (⟨J13.c11, E13.L.c11⟩) (fun hHeld => ?_); clear hK K; (try simp only [Act.put, List.setIfInBounds_toArray, List.set_cons_zero, List.set_cons_succ])
        refine wpAnyH_done (by kernel_rfl) ?_ _
        simp only [TailQ, List.drop_succ_cons, List.drop_zero]
        clear hHeld
        go_wp2
        go_ret
        exact ⟨rfl, E13.bel⟩
      have hfin7 := Lib.hid fin7
      clear fin7 hK7
      have b8 := (Below.refl w7.heap.size w7).drew
      refine wp_region_held_drew (S := fun W => (W.cell? ⟨PJ, 0, none⟩ = some (.int .i64 l.id) ∧ W.cell? ⟨PJ, 1, none⟩ = some (.int .i64 l.ticks) ∧ W.cell? ⟨PJ, 2, none⟩ = some (.int .i64 l.sx) ∧ W.cell? ⟨PJ, 3, none⟩ = some (.int .i64 l.sy) ∧ W.cell? ⟨PJ, 4, none⟩ = some (.slice wa6 l.wn wc6) ∧ W.cell? ⟨PJ, 5, none⟩ = some (.slice ga6 l.gn gc6) ∧ W.cell? ⟨PJ, 6, none⟩ = some (.int .i64 l.flx) ∧ W.cell? ⟨PJ, 7, none⟩ = some (.int .i64 l.fly) ∧ W.cell? ⟨PJ, 8, none⟩ = some (.int .i64 l.fhx) ∧ W.cell? ⟨PJ, 9, none⟩ = some (.int .i64 l.fhy) ∧ W.cell? ⟨PJ, 10, none⟩ = some (.int .i64 l.bans)) ∧ (W.cell? ⟨w.heap.size, 0, none⟩ = some (.int .i64 l.id) ∧ W.cell? ⟨w.heap.size, 1, none⟩ = some (.int .i64 l.ticks) ∧ W.cell? ⟨w.heap.size, 2, none⟩ = some (.int .i64 l.sx) ∧ W.cell? ⟨w.heap.size, 3, none⟩ = some (.int .i64 l.sy) ∧ W.cell? ⟨w.heap.size, 4, none⟩ = some (.slice l.wa l.wn l.wc) ∧ W.cell? ⟨w.heap.size, 5, none⟩ = some (.slice l.ga l.gn l.gc) ∧ W.cell? ⟨w.heap.size, 6, none⟩ = some (.int .i64 l.flx) ∧ W.cell? ⟨w.heap.size, 7, none⟩ = some (.int .i64 l.fly) ∧ W.cell? ⟨w.heap.size, 8, none⟩ = some (.int .i64 l.fhx) ∧ W.cell? ⟨w.heap.size, 9, none⟩ = some (.int .i64 l.fhy) ∧ W.cell? ⟨w.heap.size, 10, none⟩ = some (.int .i64 l.bans)) ∧ (W.cell? ⟨w.heap.size + 1, 0, none⟩ = some (.int .i64 s.tick) ∧ W.cell? ⟨w.heap.size + 1, 1, none⟩ = some (.int .i64 s.ax) ∧ W.cell? ⟨w.heap.size + 1, 2, none⟩ = some (.int .i64 s.ay) ∧ W.cell? ⟨w.heap.size + 1, 3, none⟩ = some (.int .i64 s.fx) ∧ W.cell? ⟨w.heap.size + 1, 4, none⟩ = some (.int .i64 s.fy) ∧ W.cell? ⟨w.heap.size + 1, 5, none⟩ = some (.int .i64 s.turn) ∧ W.cell? ⟨w.heap.size + 1, 6, none⟩ = some (.int .i64 s.gate) ∧ W.cell? ⟨w.heap.size + 1, 7, none⟩ = some (.bool s.done) ∧ W.cell? ⟨w.heap.size + 1, 8, none⟩ = some (.bool s.over)) ∧ (W.cell? ⟨w.heap.size + 1 + 1, 0, none⟩ = some (.int .i64 d) ∧ W.cell? ⟨w.heap.size + 1 + 1, 1, none⟩ = some (.int .i64 p) ∧ W.cell? ⟨w.heap.size + 1 + 1, 2, none⟩ = some (.bool b))) (by kernel_rfl) (held7 E6 J6 b8) (fun hHeld => ?_)
      simp only [List.size_toArray, List.length_cons, List.length_nil, Nat.zero_add, Nat.reduceAdd]
      (refine wpAnyH_take (i := 0) (v := ?_) rfl (by kernel_rfl) (by kernel_rfl) (by kernel_rfl) (fun _ _ _ h => h) (Or.inl ⟨by rfl, ?_⟩) (by assumption) ?_; rotate_left; · (intro w hSw; (try dsimp only at hSw); go_simp; (try with_reducible rfl))); (try simp only [Act.put, List.setIfInBounds_toArray, List.set_cons_zero, List.set_cons_succ])
      (refine wpAnyH_take (i := 1) (v := ?_) rfl (by kernel_rfl) (by kernel_rfl) (by kernel_rfl) (fun _ _ _ h => h) (Or.inl ⟨by rfl, ?_⟩) (by assumption) ?_; rotate_left; · (intro w hSw; (try dsimp only at hSw); go_simp; (try with_reducible rfl))); (try simp only [Act.put, List.setIfInBounds_toArray, List.set_cons_zero, List.set_cons_succ])
      (refine wpAnyH_take (i := 3) (v := ?_) rfl (by kernel_rfl) (by kernel_rfl) (by kernel_rfl) (fun _ _ _ h => h) (Or.inl ⟨by rfl, ?_⟩) (by assumption) ?_; rotate_left; · (intro w hSw; (try dsimp only at hSw); go_simp; (try with_reducible rfl))); (try simp only [Act.put, List.setIfInBounds_toArray, List.set_cons_zero, List.set_cons_succ])
      generalize w7.drew = v0 at *
      refine wpAnyH_ready (rs := [2, 9]) (by kernel_rfl) (by simp) ?_
      refine AllReadyH.cons rfl (fun K hK => ?_) (AllReadyH.cons rfl (fun K hK => ?_) (AllReadyH.nil))
      · (try simp only [List.getElem_toArray, List.getElem_cons_succ, List.getElem_cons_zero])
        go_simp
        go_at_call 30
        refine (toState_any s _).mono ?_
        rintro e v1 ⟨rfl, hb1⟩
        have b1 := b8.trans (hb1.mono b8.size)
        go_wp2_with fail
        refine hK.out _ _ ((held7 E6 J6 b1)) (fun hHeld => ?_); clear hK K; (try simp only [Act.put, List.setIfInBounds_toArray, List.set_cons_zero, List.set_cons_succ])
        refine wpAnyH_ready (rs := [4, 9]) (by kernel_rfl) (by simp) ?_
        refine AllReadyH.cons rfl (fun K hK => ?_) (AllReadyH.cons rfl (fun K hK => ?_) (AllReadyH.nil))
        · (try simp only [List.getElem_toArray, List.getElem_cons_succ, List.getElem_cons_zero])
          go_simp
          go_at_call 31
          refine (toInp d p b _).mono ?_
          rintro e v2 ⟨rfl, hb2⟩
          have b2 := b1.trans (hb2.mono b1.size)
          go_wp2_with fail
          refine hK.out _ _ ((held7 E6 J6 b2)) (fun hHeld => ?_); clear hK K; (try simp only [Act.put, List.setIfInBounds_toArray, List.set_cons_zero, List.set_cons_succ])
          refine wpAnyH_ready (rs := [5, 9]) (by kernel_rfl) (by simp) ?_
          refine AllReadyH.cons rfl (fun K hK => ?_) (AllReadyH.cons rfl (fun K hK => ?_) (AllReadyH.nil))
          · (try simp only [List.getElem_toArray, List.getElem_cons_succ, List.getElem_cons_zero])
            go_simp
            go_at_call 25
            refine (iEStep (l.re wa6 wc6 ga6 gc6) s d p b _ (hl6.keep b2)).mono ?_
            rw [re_stepV, re_stepB, ← hVh.out, ← hBh.out]
            rintro e v3 ⟨rfl, hb3⟩
            have b3 := b2.trans (hb3.mono b2.size)
            go_wp2_with fail
            refine hK.out _ _ ((held7 E6 J6 b3)) (fun hHeld => ?_); clear hK K; (try simp only [Act.put, List.setIfInBounds_toArray, List.set_cons_zero, List.set_cons_succ])
            (refine wpAnyH_take (i := 6) (v := ?_) rfl (by kernel_rfl) (by kernel_rfl) (by kernel_rfl) (fun _ _ _ h => h) (Or.inl ⟨by rfl, ?_⟩) (by assumption) ?_; rotate_left; · (intro w hSw; (try dsimp only at hSw); go_simp; (try with_reducible rfl))); (try simp only [Act.put, List.setIfInBounds_toArray, List.set_cons_zero, List.set_cons_succ])
            (refine wpAnyH_take (i := 7) (v := ?_) rfl (by kernel_rfl) (by kernel_rfl) (by kernel_rfl) (fun _ _ _ h => h) (Or.inl ⟨by rfl, ?_⟩) (by assumption) ?_; rotate_left; · (intro w hSw; (try dsimp only at hSw); go_simp; (try with_reducible rfl))); (try simp only [Act.put, List.setIfInBounds_toArray, List.set_cons_zero, List.set_cons_succ])
            (refine wpAnyH_take (i := 8) (v := ?_) rfl (by kernel_rfl) (by kernel_rfl) (by kernel_rfl) (fun _ _ _ h => h) (Or.inl ⟨by rfl, ?_⟩) (by assumption) ?_; rotate_left; · (intro w hSw; (try dsimp only at hSw); go_simp; (try with_reducible rfl))); (try simp only [Act.put, List.setIfInBounds_toArray, List.set_cons_zero, List.set_cons_succ])
            refine wpAnyH_ready (rs := [9]) (by kernel_rfl) (by simp) ?_
            refine AllReadyH.cons rfl (fun K hK => ?_) (AllReadyH.nil)
            (try simp only [List.getElem_toArray, List.getElem_cons_succ, List.getElem_cons_zero])
            go_simp
            have bA4 := (Below.refl v3.heap.size v3).alloc (Nat.le_refl _) (.cells #[.int .i64 0, .int .i64 0, .int .i64 0, .int .i64 0, .int .i64 0, .int .i64 0, .int .i64 0, .bool false, .bool false] 31)
            have b4 := b3.trans (bA4.mono b3.size)
            have hge4 := b3.size
            have P4 : Blk (v3.alloc (.cells #[.int .i64 0, .int .i64 0, .int .i64 0, .int .i64 0, .int .i64 0, .int .i64 0, .int .i64 0, .bool false, .bool false] 31)) v3.heap.size #[.int .i64 0, .int .i64 0, .int .i64 0, .int .i64 0, .int .i64 0, .int .i64 0, .int .i64 0, .bool false, .bool false] := Blk.at rfl
            refine hK.out _ _ ((held7 E6 J6 b4)) (fun hHeld => ?_); clear hK K; (try simp only [Act.put, List.setIfInBounds_toArray, List.set_cons_zero, List.set_cons_succ])
            clear bA4
            generalize hQ4 : v3.heap.size = PB at *
            generalize hW4 : v3.alloc (.cells #[.int .i64 0, .int .i64 0, .int .i64 0, .int .i64 0, .int .i64 0, .int .i64 0, .int .i64 0, .bool false, .bool false] 31) = v4 at *
            have hlo5 := P4.lt
            have b5 := Below.setRow b4 hge4 #[.int .i64 V.tick, .int .i64 V.ax, .int .i64 V.ay, .int .i64 V.fx, .int .i64 V.fy, .int .i64 V.turn, .int .i64 V.gate, .bool V.done, .bool V.over]
            have R5 := P4.row #[.int .i64 V.tick, .int .i64 V.ax, .int .i64 V.ay, .int .i64 V.fx, .int .i64 V.fy, .int .i64 V.turn, .int .i64 V.gate, .bool V.done, .bool V.over]
            refine wpAnyH_ready (rs := [10]) (by kernel_rfl) (by simp) ?_; refine AllReadyH.cons rfl (fun K hK => ?_) AllReadyH.nil
            refine step_store (by rfl) _ _ _ (by rfl) (by rfl) (by rfl) P4 (by kernel_rfl) (by rfl) (by simp [Value.oneCell']) ?_
            refine hK.out _ _ ((held7 E6 J6 b5)) (fun hHeld => ?_); clear hK K; (try simp only [Act.put, List.setIfInBounds_toArray, List.set_cons_zero, List.set_cons_succ])
            (refine wpAnyH_take (i := 11) (v := ?_) rfl (by kernel_rfl) (by kernel_rfl) (by kernel_rfl) (fun _ _ _ h => h) (Or.inl ⟨by rfl, ?_⟩) (by assumption) ?_; rotate_left; · (intro w hSw; (try dsimp only at hSw); go_simp; (try with_reducible rfl))); (try simp only [Act.put, List.setIfInBounds_toArray, List.set_cons_zero, List.set_cons_succ])
            refine wpAnyH_done (by kernel_rfl) ?_ _
            exact hfin7.out PB _ _ _ _ _ _ _ _ _ _ _ _ _ _ _ _ _ _ _ _ _ _ _ _ _ _ _ _ _ _ _ _ _ _ _ _ _ _ _ _ _ _ _ _ _ _ b5 hge4 R5
          · (try simp only [List.getElem_toArray, List.getElem_cons_succ, List.getElem_cons_zero])
            go_simp
            have bA6 := (Below.refl v2.heap.size v2).alloc (Nat.le_refl _) (.cells #[.int .i64 0, .int .i64 0, .int .i64 0, .int .i64 0, .int .i64 0, .int .i64 0, .int .i64 0, .bool false, .bool false] 31)
            have b6 := b2.trans (bA6.mono b2.size)
            have hge6 := b2.size
            have P6 : Blk (v2.alloc (.cells #[.int .i64 0, .int .i64 0, .int .i64 0, .int .i64 0, .int .i64 0, .int .i64 0, .int .i64 0, .bool false, .bool false] 31)) v2.heap.size #[.int .i64 0, .int .i64 0, .int .i64 0, .int .i64 0, .int .i64 0, .int .i64 0, .int .i64 0, .bool false, .bool false] := Blk.at rfl
            refine hK.out _ _ ((held7 E6 J6 b6)) (fun hHeld => ?_); clear hK K; (try simp only [Act.put, List.setIfInBounds_toArray, List.set_cons_zero, List.set_cons_succ])
            clear bA6
            generalize hQ6 : v2.heap.size = PB at *
            generalize hW6 : v2.alloc (.cells #[.int .i64 0, .int .i64 0, .int .i64 0, .int .i64 0, .int .i64 0, .int .i64 0, .int .i64 0, .bool false, .bool false] 31) = v6 at *
            refine wpAnyH_ready (rs := [5]) (by kernel_rfl) (by simp) ?_
            refine AllReadyH.cons rfl (fun K hK => ?_) (AllReadyH.nil)
            (try simp only [List.getElem_toArray, List.getElem_cons_succ, List.getElem_cons_zero])
            go_simp
            go_at_call 25
            refine (iEStep (l.re wa6 wc6 ga6 gc6) s d p b _ (hl6.keep b6)).mono ?_
            rw [re_stepV, re_stepB, ← hVh.out, ← hBh.out]
            rintro e v7 ⟨rfl, hb7⟩
            have b7 := b6.trans (hb7.mono b6.size)
            have P7 := P6.below hb7 P6.lt
            go_wp2_with fail
            refine hK.out _ _ ((held7 E6 J6 b7)) (fun hHeld => ?_); clear hK K; (try simp only [Act.put, List.setIfInBounds_toArray, List.set_cons_zero, List.set_cons_succ])
            (refine wpAnyH_take (i := 6) (v := ?_) rfl (by kernel_rfl) (by kernel_rfl) (by kernel_rfl) (fun _ _ _ h => h) (Or.inl ⟨by rfl, ?_⟩) (by assumption) ?_; rotate_left; · (intro w hSw; (try dsimp only at hSw); go_simp; (try with_reducible rfl))); (try simp only [Act.put, List.setIfInBounds_toArray, List.set_cons_zero, List.set_cons_succ])
            (refine wpAnyH_take (i := 7) (v := ?_) rfl (by kernel_rfl) (by kernel_rfl) (by kernel_rfl) (fun _ _ _ h => h) (Or.inl ⟨by rfl, ?_⟩) (by assumption) ?_; rotate_left; · (intro w hSw; (try dsimp only at hSw); go_simp; (try with_reducible rfl))); (try simp only [Act.put, List.setIfInBounds_toArray, List.set_cons_zero, List.set_cons_succ])
            (refine wpAnyH_take (i := 8) (v := ?_) rfl (by kernel_rfl) (by kernel_rfl) (by kernel_rfl) (fun _ _ _ h => h) (Or.inl ⟨by rfl, ?_⟩) (by assumption) ?_; rotate_left; · (intro w hSw; (try dsimp only at hSw); go_simp; (try with_reducible rfl))); (try simp only [Act.put, List.setIfInBounds_toArray, List.set_cons_zero, List.set_cons_succ])
            have hlo8 := P7.lt
            have b8 := Below.setRow b7 hge6 #[.int .i64 V.tick, .int .i64 V.ax, .int .i64 V.ay, .int .i64 V.fx, .int .i64 V.fy, .int .i64 V.turn, .int .i64 V.gate, .bool V.done, .bool V.over]
            have R8 := P7.row #[.int .i64 V.tick, .int .i64 V.ax, .int .i64 V.ay, .int .i64 V.fx, .int .i64 V.fy, .int .i64 V.turn, .int .i64 V.gate, .bool V.done, .bool V.over]
            refine wpAnyH_ready (rs := [10]) (by kernel_rfl) (by simp) ?_; refine AllReadyH.cons rfl (fun K hK => ?_) AllReadyH.nil
            refine step_store (by rfl) _ _ _ (by rfl) (by rfl) (by rfl) P7 (by kernel_rfl) (by rfl) (by simp [Value.oneCell']) ?_
            refine hK.out _ _ ((held7 E6 J6 b8)) (fun hHeld => ?_); clear hK K; (try simp only [Act.put, List.setIfInBounds_toArray, List.set_cons_zero, List.set_cons_succ])
            (refine wpAnyH_take (i := 11) (v := ?_) rfl (by kernel_rfl) (by kernel_rfl) (by kernel_rfl) (fun _ _ _ h => h) (Or.inl ⟨by rfl, ?_⟩) (by assumption) ?_; rotate_left; · (intro w hSw; (try dsimp only at hSw); go_simp; (try with_reducible rfl))); (try simp only [Act.put, List.setIfInBounds_toArray, List.set_cons_zero, List.set_cons_succ])
            refine wpAnyH_done (by kernel_rfl) ?_ _
            exact hfin7.out PB _ _ _ _ _ _ _ _ _ _ _ _ _ _ _ _ _ _ _ _ _ _ _ _ _ _ _ _ _ _ _ _ _ _ _ _ _ _ _ _ _ _ _ _ _ _ b8 hge6 R8
        · (try simp only [List.getElem_toArray, List.getElem_cons_succ, List.getElem_cons_zero])
          go_simp
          have bA9 := (Below.refl v1.heap.size v1).alloc (Nat.le_refl _) (.cells #[.int .i64 0, .int .i64 0, .int .i64 0, .int .i64 0, .int .i64 0, .int .i64 0, .int .i64 0, .bool false, .bool false] 31)
          have b9 := b1.trans (bA9.mono b1.size)
          have hge9 := b1.size
          have P9 : Blk (v1.alloc (.cells #[.int .i64 0, .int .i64 0, .int .i64 0, .int .i64 0, .int .i64 0, .int .i64 0, .int .i64 0, .bool false, .bool false] 31)) v1.heap.size #[.int .i64 0, .int .i64 0, .int .i64 0, .int .i64 0, .int .i64 0, .int .i64 0, .int .i64 0, .bool false, .bool false] := Blk.at rfl
          refine hK.out _ _ ((held7 E6 J6 b9)) (fun hHeld => ?_); clear hK K; (try simp only [Act.put, List.setIfInBounds_toArray, List.set_cons_zero, List.set_cons_succ])
          clear bA9
          generalize hQ9 : v1.heap.size = PB at *
          generalize hW9 : v1.alloc (.cells #[.int .i64 0, .int .i64 0, .int .i64 0, .int .i64 0, .int .i64 0, .int .i64 0, .int .i64 0, .bool false, .bool false] 31) = v9 at *
          refine wpAnyH_ready (rs := [4]) (by kernel_rfl) (by simp) ?_
          refine AllReadyH.cons rfl (fun K hK => ?_) (AllReadyH.nil)
          (try simp only [List.getElem_toArray, List.getElem_cons_succ, List.getElem_cons_zero])
          go_simp
          go_at_call 31
          refine (toInp d p b _).mono ?_
          rintro e v10 ⟨rfl, hb10⟩
          have b10 := b9.trans (hb10.mono b9.size)
          have P10 := P9.below hb10 P9.lt
          go_wp2_with fail
          refine hK.out _ _ ((held7 E6 J6 b10)) (fun hHeld => ?_); clear hK K; (try simp only [Act.put, List.setIfInBounds_toArray, List.set_cons_zero, List.set_cons_succ])
          refine wpAnyH_ready (rs := [5]) (by kernel_rfl) (by simp) ?_
          refine AllReadyH.cons rfl (fun K hK => ?_) (AllReadyH.nil)
          (try simp only [List.getElem_toArray, List.getElem_cons_succ, List.getElem_cons_zero])
          go_simp
          go_at_call 25
          refine (iEStep (l.re wa6 wc6 ga6 gc6) s d p b _ (hl6.keep b10)).mono ?_
          rw [re_stepV, re_stepB, ← hVh.out, ← hBh.out]
          rintro e v11 ⟨rfl, hb11⟩
          have b11 := b10.trans (hb11.mono b10.size)
          have P11 := P10.below hb11 P10.lt
          go_wp2_with fail
          refine hK.out _ _ ((held7 E6 J6 b11)) (fun hHeld => ?_); clear hK K; (try simp only [Act.put, List.setIfInBounds_toArray, List.set_cons_zero, List.set_cons_succ])
          (refine wpAnyH_take (i := 6) (v := ?_) rfl (by kernel_rfl) (by kernel_rfl) (by kernel_rfl) (fun _ _ _ h => h) (Or.inl ⟨by rfl, ?_⟩) (by assumption) ?_; rotate_left; · (intro w hSw; (try dsimp only at hSw); go_simp; (try with_reducible rfl))); (try simp only [Act.put, List.setIfInBounds_toArray, List.set_cons_zero, List.set_cons_succ])
          (refine wpAnyH_take (i := 7) (v := ?_) rfl (by kernel_rfl) (by kernel_rfl) (by kernel_rfl) (fun _ _ _ h => h) (Or.inl ⟨by rfl, ?_⟩) (by assumption) ?_; rotate_left; · (intro w hSw; (try dsimp only at hSw); go_simp; (try with_reducible rfl))); (try simp only [Act.put, List.setIfInBounds_toArray, List.set_cons_zero, List.set_cons_succ])
          (refine wpAnyH_take (i := 8) (v := ?_) rfl (by kernel_rfl) (by kernel_rfl) (by kernel_rfl) (fun _ _ _ h => h) (Or.inl ⟨by rfl, ?_⟩) (by assumption) ?_; rotate_left; · (intro w hSw; (try dsimp only at hSw); go_simp; (try with_reducible rfl))); (try simp only [Act.put, List.setIfInBounds_toArray, List.set_cons_zero, List.set_cons_succ])
          have hlo12 := P11.lt
          have b12 := Below.setRow b11 hge9 #[.int .i64 V.tick, .int .i64 V.ax, .int .i64 V.ay, .int .i64 V.fx, .int .i64 V.fy, .int .i64 V.turn, .int .i64 V.gate, .bool V.done, .bool V.over]
          have R12 := P11.row #[.int .i64 V.tick, .int .i64 V.ax, .int .i64 V.ay, .int .i64 V.fx, .int .i64 V.fy, .int .i64 V.turn, .int .i64 V.gate, .bool V.done, .bool V.over]
          refine wpAnyH_ready (rs := [10]) (by kernel_rfl) (by simp) ?_; refine AllReadyH.cons rfl (fun K hK => ?_) AllReadyH.nil
          refine step_store (by rfl) _ _ _ (by rfl) (by rfl) (by rfl) P11 (by kernel_rfl) (by rfl) (by simp [Value.oneCell']) ?_
          refine hK.out _ _ ((held7 E6 J6 b12)) (fun hHeld => ?_); clear hK K; (try simp only [Act.put, List.setIfInBounds_toArray, List.set_cons_zero, List.set_cons_succ])
          (refine wpAnyH_take (i := 11) (v := ?_) rfl (by kernel_rfl) (by kernel_rfl) (by kernel_rfl) (fun _ _ _ h => h) (Or.inl ⟨by rfl, ?_⟩) (by assumption) ?_; rotate_left; · (intro w hSw; (try dsimp only at hSw); go_simp; (try with_reducible rfl))); (try simp only [Act.put, List.setIfInBounds_toArray, List.set_cons_zero, List.set_cons_succ])
          refine wpAnyH_done (by kernel_rfl) ?_ _
          exact hfin7.out PB _ _ _ _ _ _ _ _ _ _ _ _ _ _ _ _ _ _ _ _ _ _ _ _ _ _ _ _ _ _ _ _ _ _ _ _ _ _ _ _ _ _ _ _ _ _ b12 hge9 R12
      · (try simp only [List.getElem_toArray, List.getElem_cons_succ, List.getElem_cons_zero])
        go_simp
        have bA13 := (Below.refl v0.heap.size v0).alloc (Nat.le_refl _) (.cells #[.int .i64 0, .int .i64 0, .int .i64 0, .int .i64 0, .int .i64 0, .int .i64 0, .int .i64 0, .bool false, .bool false] 31)
        have b13 := b8.trans (bA13.mono b8.size)
        have hge13 := b8.size
        have P13 : Blk (v0.alloc (.cells #[.int .i64 0, .int .i64 0, .int .i64 0, .int .i64 0, .int .i64 0, .int .i64 0, .int .i64 0, .bool false, .bool false] 31)) v0.heap.size #[.int .i64 0, .int .i64 0, .int .i64 0, .int .i64 0, .int .i64 0, .int .i64 0, .int .i64 0, .bool false, .bool false] := Blk.at rfl
        refine hK.out _ _ ((held7 E6 J6 b13)) (fun hHeld => ?_); clear hK K; (try simp only [Act.put, List.setIfInBounds_toArray, List.set_cons_zero, List.set_cons_succ])
        clear bA13
        generalize hQ13 : v0.heap.size = PB at *
        generalize hW13 : v0.alloc (.cells #[.int .i64 0, .int .i64 0, .int .i64 0, .int .i64 0, .int .i64 0, .int .i64 0, .int .i64 0, .bool false, .bool false] 31) = v13 at *
        refine wpAnyH_ready (rs := [2]) (by kernel_rfl) (by simp) ?_
        refine AllReadyH.cons rfl (fun K hK => ?_) (AllReadyH.nil)
        (try simp only [List.getElem_toArray, List.getElem_cons_succ, List.getElem_cons_zero])
        go_simp
        go_at_call 30
        refine (toState_any s _).mono ?_
        rintro e v14 ⟨rfl, hb14⟩
        have b14 := b13.trans (hb14.mono b13.size)
        have P14 := P13.below hb14 P13.lt
        go_wp2_with fail
        refine hK.out _ _ ((held7 E6 J6 b14)) (fun hHeld => ?_); clear hK K; (try simp only [Act.put, List.setIfInBounds_toArray, List.set_cons_zero, List.set_cons_succ])
        refine wpAnyH_ready (rs := [4]) (by kernel_rfl) (by simp) ?_
        refine AllReadyH.cons rfl (fun K hK => ?_) (AllReadyH.nil)
        (try simp only [List.getElem_toArray, List.getElem_cons_succ, List.getElem_cons_zero])
        go_simp
        go_at_call 31
        refine (toInp d p b _).mono ?_
        rintro e v15 ⟨rfl, hb15⟩
        have b15 := b14.trans (hb15.mono b14.size)
        have P15 := P14.below hb15 P14.lt
        go_wp2_with fail
        refine hK.out _ _ ((held7 E6 J6 b15)) (fun hHeld => ?_); clear hK K; (try simp only [Act.put, List.setIfInBounds_toArray, List.set_cons_zero, List.set_cons_succ])
        refine wpAnyH_ready (rs := [5]) (by kernel_rfl) (by simp) ?_
        refine AllReadyH.cons rfl (fun K hK => ?_) (AllReadyH.nil)
        (try simp only [List.getElem_toArray, List.getElem_cons_succ, List.getElem_cons_zero])
        go_simp
        go_at_call 25
        refine (iEStep (l.re wa6 wc6 ga6 gc6) s d p b _ (hl6.keep b15)).mono ?_
        rw [re_stepV, re_stepB, ← hVh.out, ← hBh.out]
        rintro e v16 ⟨rfl, hb16⟩
        have b16 := b15.trans (hb16.mono b15.size)
        have P16 := P15.below hb16 P15.lt
        go_wp2_with fail
        refine hK.out _ _ ((held7 E6 J6 b16)) (fun hHeld => ?_); clear hK K; (try simp only [Act.put, List.setIfInBounds_toArray, List.set_cons_zero, List.set_cons_succ])
        (refine wpAnyH_take (i := 6) (v := ?_) rfl (by kernel_rfl) (by kernel_rfl) (by kernel_rfl) (fun _ _ _ h => h) (Or.inl ⟨by rfl, ?_⟩) (by assumption) ?_; rotate_left; · (intro w hSw; (try dsimp only at hSw); go_simp; (try with_reducible rfl))); (try simp only [Act.put, List.setIfInBounds_toArray, List.set_cons_zero, List.set_cons_succ])
        (refine wpAnyH_take (i := 7) (v := ?_) rfl (by kernel_rfl) (by kernel_rfl) (by kernel_rfl) (fun _ _ _ h => h) (Or.inl ⟨by rfl, ?_⟩) (by assumption) ?_; rotate_left; · (intro w hSw; (try dsimp only at hSw); go_simp; (try with_reducible rfl))); (try simp only [Act.put, List.setIfInBounds_toArray, List.set_cons_zero, List.set_cons_succ])
        (refine wpAnyH_take (i := 8) (v := ?_) rfl (by kernel_rfl) (by kernel_rfl) (by kernel_rfl) (fun _ _ _ h => h) (Or.inl ⟨by rfl, ?_⟩) (by assumption) ?_; rotate_left; · (intro w hSw; (try dsimp only at hSw); go_simp; (try with_reducible rfl))); (try simp only [Act.put, List.setIfInBounds_toArray, List.set_cons_zero, List.set_cons_succ])
        have hlo17 := P16.lt
        have b17 := Below.setRow b16 hge13 #[.int .i64 V.tick, .int .i64 V.ax, .int .i64 V.ay, .int .i64 V.fx, .int .i64 V.fy, .int .i64 V.turn, .int .i64 V.gate, .bool V.done, .bool V.over]
        have R17 := P16.row #[.int .i64 V.tick, .int .i64 V.ax, .int .i64 V.ay, .int .i64 V.fx, .int .i64 V.fy, .int .i64 V.turn, .int .i64 V.gate, .bool V.done, .bool V.over]
        refine wpAnyH_ready (rs := [10]) (by kernel_rfl) (by simp) ?_; refine AllReadyH.cons rfl (fun K hK => ?_) AllReadyH.nil
        refine step_store (by rfl) _ _ _ (by rfl) (by rfl) (by rfl) P16 (by kernel_rfl) (by rfl) (by simp [Value.oneCell']) ?_
        refine hK.out _ _ ((held7 E6 J6 b17)) (fun hHeld => ?_); clear hK K; (try simp only [Act.put, List.setIfInBounds_toArray, List.set_cons_zero, List.set_cons_succ])
        (refine wpAnyH_take (i := 11) (v := ?_) rfl (by kernel_rfl) (by kernel_rfl) (by kernel_rfl) (fun _ _ _ h => h) (Or.inl ⟨by rfl, ?_⟩) (by assumption) ?_; rotate_left; · (intro w hSw; (try dsimp only at hSw); go_simp; (try with_reducible rfl))); (try simp only [Act.put, List.setIfInBounds_toArray, List.set_cons_zero, List.set_cons_succ])
        refine wpAnyH_done (by kernel_rfl) ?_ _
        exact hfin7.out PB _ _ _ _ _ _ _ _ _ _ _ _ _ _ _ _ _ _ _ _ _ _ _ _ _ _ _ _ _ _ _ _ _ _ _ _ _ _ _ _ _ _ _ _ _ _ b17 hge13 R17
    have hfin5 := Lib.hid fin5
    clear fin5 hK5
    have b0 := (Below.refl w1.heap.size w1).drew
    refine wp_region_held_drew (S := fun W => (W.cell? ⟨w.heap.size, 0, none⟩ = some (.int .i64 l.id) ∧ W.cell? ⟨w.heap.size, 1, none⟩ = some (.int .i64 l.ticks) ∧ W.cell? ⟨w.heap.size, 2, none⟩ = some (.int .i64 l.sx) ∧ W.cell? ⟨w.heap.size, 3, none⟩ = some (.int .i64 l.sy) ∧ W.cell? ⟨w.heap.size, 4, none⟩ = some (.slice l.wa l.wn l.wc) ∧ W.cell? ⟨w.heap.size, 5, none⟩ = some (.slice l.ga l.gn l.gc) ∧ W.cell? ⟨w.heap.size, 6, none⟩ = some (.int .i64 l.flx) ∧ W.cell? ⟨w.heap.size, 7, none⟩ = some (.int .i64 l.fly) ∧ W.cell? ⟨w.heap.size, 8, none⟩ = some (.int .i64 l.fhx) ∧ W.cell? ⟨w.heap.size, 9, none⟩ = some (.int .i64 l.fhy) ∧ W.cell? ⟨w.heap.size, 10, none⟩ = some (.int .i64 l.bans)) ∧ (W.cell? ⟨w.heap.size + 1, 0, none⟩ = some (.int .i64 s.tick) ∧ W.cell? ⟨w.heap.size + 1, 1, none⟩ = some (.int .i64 s.ax) ∧ W.cell? ⟨w.heap.size + 1, 2, none⟩ = some (.int .i64 s.ay) ∧ W.cell? ⟨w.heap.size + 1, 3, none⟩ = some (.int .i64 s.fx) ∧ W.cell? ⟨w.heap.size + 1, 4, none⟩ = some (.int .i64 s.fy) ∧ W.cell? ⟨w.heap.size + 1, 5, none⟩ = some (.int .i64 s.turn) ∧ W.cell? ⟨w.heap.size + 1, 6, none⟩ = some (.int .i64 s.gate) ∧ W.cell? ⟨w.heap.size + 1, 7, none⟩ = some (.bool s.done) ∧ W.cell? ⟨w.heap.size + 1, 8, none⟩ = some (.bool s.over)) ∧ (W.cell? ⟨w.heap.size + 1 + 1, 0, none⟩ = some (.int .i64 d) ∧ W.cell? ⟨w.heap.size + 1 + 1, 1, none⟩ = some (.int .i64 p) ∧ W.cell? ⟨w.heap.size + 1 + 1, 2, none⟩ = some (.bool b))) (by kernel_rfl) (E1.held b0) (fun hHeld => ?_)
    simp only [List.size_toArray, List.length_cons, List.length_nil, Nat.zero_add, Nat.reduceAdd]
    (refine wpAnyH_take (i := 0) (v := ?_) rfl (by kernel_rfl) (by kernel_rfl) (by kernel_rfl) (fun _ _ _ h => h) (Or.inl ⟨by rfl, ?_⟩) (by assumption) ?_; rotate_left; · (intro w hSw; (try dsimp only at hSw); go_simp; (try with_reducible rfl))); (try simp only [Act.put, List.setIfInBounds_toArray, List.set_cons_zero, List.set_cons_succ])
    (refine wpAnyH_take (i := 2) (v := ?_) rfl (by kernel_rfl) (by kernel_rfl) (by kernel_rfl) (fun _ _ _ h => h) (Or.inl ⟨by rfl, ?_⟩) (by assumption) ?_; rotate_left; · (intro w hSw; (try dsimp only at hSw); go_simp; (try with_reducible rfl))); (try simp only [Act.put, List.setIfInBounds_toArray, List.set_cons_zero, List.set_cons_succ])
    (refine wpAnyH_take (i := 4) (v := ?_) rfl (by kernel_rfl) (by kernel_rfl) (by kernel_rfl) (fun _ _ _ h => h) (Or.inl ⟨by rfl, ?_⟩) (by assumption) ?_; rotate_left; · (intro w hSw; (try dsimp only at hSw); go_simp; (try with_reducible rfl))); (try simp only [Act.put, List.setIfInBounds_toArray, List.set_cons_zero, List.set_cons_succ])
    generalize w1.drew = v0 at *
    refine wpAnyH_ready (rs := [1, 10]) (by kernel_rfl) (by simp) ?_
    refine AllReadyH.cons rfl (fun K hK => ?_) (AllReadyH.cons rfl (fun K hK => ?_) (AllReadyH.nil))
    · (try simp only [List.getElem_toArray, List.getElem_cons_succ, List.getElem_cons_zero])
      go_simp
      go_at_call 29
      refine (toLevel_any l _ (by omega) (by omega) (E1.pass b0).lv).mono ?_
      rintro e v18 ⟨wa2, wc2, ga2, gc2, rfl, hl18, hb18⟩
      have b18 := b0.trans (hb18.mono b0.size)
      go_wp2_with fail
      refine hK.out _ _ ((E1.held b18)) (fun hHeld => ?_); clear hK K; (try simp only [Act.put, List.setIfInBounds_toArray, List.set_cons_zero, List.set_cons_succ])
      refine wpAnyH_ready (rs := [3, 10]) (by kernel_rfl) (by simp) ?_
      refine AllReadyH.cons rfl (fun K hK => ?_) (AllReadyH.cons rfl (fun K hK => ?_) (AllReadyH.nil))
      · (try simp only [List.getElem_toArray, List.getElem_cons_succ, List.getElem_cons_zero])
        go_simp
        go_at_call 30
        refine (toState_any s _).mono ?_
        rintro e v19 ⟨rfl, hb19⟩
        have b19 := b18.trans (hb19.mono b18.size)
        have hl19 := hl18.keep hb19
        go_wp2_with fail
        refine hK.out _ _ ((E1.held b19)) (fun hHeld => ?_); clear hK K; (try simp only [Act.put, List.setIfInBounds_toArray, List.set_cons_zero, List.set_cons_succ])
        refine wpAnyH_ready (rs := [5, 10]) (by kernel_rfl) (by simp) ?_
        refine AllReadyH.cons rfl (fun K hK => ?_) (AllReadyH.cons rfl (fun K hK => ?_) (AllReadyH.nil))
        · (try simp only [List.getElem_toArray, List.getElem_cons_succ, List.getElem_cons_zero])
          go_simp
          go_at_call 31
          refine (toInp d p b _).mono ?_
          rintro e v20 ⟨rfl, hb20⟩
          have b20 := b19.trans (hb20.mono b19.size)
          have hl20 := hl19.keep hb20
          go_wp2_with fail
          refine hK.out _ _ ((E1.held b20)) (fun hHeld => ?_); clear hK K; (try simp only [Act.put, List.setIfInBounds_toArray, List.set_cons_zero, List.set_cons_succ])
          refine wpAnyH_ready (rs := [6, 10]) (by kernel_rfl) (by simp) ?_
          refine AllReadyH.cons rfl (fun K hK => ?_) (AllReadyH.cons rfl (fun K hK => ?_) (AllReadyH.nil))
          · (try simp only [List.getElem_toArray, List.getElem_cons_succ, List.getElem_cons_zero])
            go_simp
            go_at_call 26
            refine (sEStep (l.re wa2 wc2 ga2 gc2) s d p b _ (by simp only; omega) (by simp only; omega) hl20).mono ?_
            rw [re_stepV, re_stepB, ← hVh.out, ← hBh.out]
            rintro e v21 ⟨rfl, hb21⟩
            have b21 := b20.trans (hb21.mono b20.size)
            have hl21 := hl20.keep hb21
            go_wp2_with fail
            refine hK.out _ _ ((E1.held b21)) (fun hHeld => ?_); clear hK K; (try simp only [Act.put, List.setIfInBounds_toArray, List.set_cons_zero, List.set_cons_succ])
            (refine wpAnyH_take (i := 7) (v := ?_) rfl (by kernel_rfl) (by kernel_rfl) (by kernel_rfl) (fun _ _ _ h => h) (Or.inl ⟨by rfl, ?_⟩) (by assumption) ?_; rotate_left; · (intro w hSw; (try dsimp only at hSw); go_simp; (try with_reducible rfl))); (try simp only [Act.put, List.setIfInBounds_toArray, List.set_cons_zero, List.set_cons_succ])
            (refine wpAnyH_take (i := 8) (v := ?_) rfl (by kernel_rfl) (by kernel_rfl) (by kernel_rfl) (fun _ _ _ h => h) (Or.inl ⟨by rfl, ?_⟩) (by assumption) ?_; rotate_left; · (intro w hSw; (try dsimp only at hSw); go_simp; (try with_reducible rfl))); (try simp only [Act.put, List.setIfInBounds_toArray, List.set_cons_zero, List.set_cons_succ])
            (refine wpAnyH_take (i := 9) (v := ?_) rfl (by kernel_rfl) (by kernel_rfl) (by kernel_rfl) (fun _ _ _ h => h) (Or.inl ⟨by rfl, ?_⟩) (by assumption) ?_; rotate_left; · (intro w hSw; (try dsimp only at hSw); go_simp; (try with_reducible rfl))); (try simp only [Act.put, List.setIfInBounds_toArray, List.set_cons_zero, List.set_cons_succ])
            refine wpAnyH_ready (rs := [10]) (by kernel_rfl) (by simp) ?_
            refine AllReadyH.cons rfl (fun K hK => ?_) (AllReadyH.nil)
            (try simp only [List.getElem_toArray, List.getElem_cons_succ, List.getElem_cons_zero])
            go_simp
            have bA22 := (Below.refl v21.heap.size v21).alloc (Nat.le_refl _) (.cells #[.int .i64 0, .int .i64 0, .int .i64 0, .int .i64 0, .int .i64 0, .int .i64 0, .int .i64 0, .bool false, .bool false] 31)
            have b22 := b21.trans (bA22.mono b21.size)
            have hge22 := b21.size
            have P22 : Blk (v21.alloc (.cells #[.int .i64 0, .int .i64 0, .int .i64 0, .int .i64 0, .int .i64 0, .int .i64 0, .int .i64 0, .bool false, .bool false] 31)) v21.heap.size #[.int .i64 0, .int .i64 0, .int .i64 0, .int .i64 0, .int .i64 0, .int .i64 0, .int .i64 0, .bool false, .bool false] := Blk.at rfl
            have hl22 := hl21.keep bA22
            refine hK.out _ _ ((E1.held b22)) (fun hHeld => ?_); clear hK K; (try simp only [Act.put, List.setIfInBounds_toArray, List.set_cons_zero, List.set_cons_succ])
            clear bA22
            generalize hQ22 : v21.heap.size = PB at *
            generalize hW22 : v21.alloc (.cells #[.int .i64 0, .int .i64 0, .int .i64 0, .int .i64 0, .int .i64 0, .int .i64 0, .int .i64 0, .bool false, .bool false] 31) = v22 at *
            have hlo23 := P22.lt
            have b23 := Below.setRow b22 hge22 #[.int .i64 V.tick, .int .i64 V.ax, .int .i64 V.ay, .int .i64 V.fx, .int .i64 V.fy, .int .i64 V.turn, .int .i64 V.gate, .bool V.done, .bool V.over]
            have R23 := P22.row #[.int .i64 V.tick, .int .i64 V.ax, .int .i64 V.ay, .int .i64 V.fx, .int .i64 V.fy, .int .i64 V.turn, .int .i64 V.gate, .bool V.done, .bool V.over]
            refine wpAnyH_ready (rs := [11]) (by kernel_rfl) (by simp) ?_; refine AllReadyH.cons rfl (fun K hK => ?_) AllReadyH.nil
            refine step_store (by rfl) _ _ _ (by rfl) (by rfl) (by rfl) P22 (by kernel_rfl) (by rfl) (by simp [Value.oneCell']) ?_
            refine hK.out _ _ ((E1.held b23)) (fun hHeld => ?_); clear hK K; (try simp only [Act.put, List.setIfInBounds_toArray, List.set_cons_zero, List.set_cons_succ])
            (refine wpAnyH_take (i := 12) (v := ?_) rfl (by kernel_rfl) (by kernel_rfl) (by kernel_rfl) (fun _ _ _ h => h) (Or.inl ⟨by rfl, ?_⟩) (by assumption) ?_; rotate_left; · (intro w hSw; (try dsimp only at hSw); go_simp; (try with_reducible rfl))); (try simp only [Act.put, List.setIfInBounds_toArray, List.set_cons_zero, List.set_cons_succ])
            refine wpAnyH_done (by kernel_rfl) ?_ _
            exact hfin5.out PB _ _ _ _ _ _ _ _ _ _ _ _ _ _ _ _ _ _ _ _ _ _ _ _ _ _ _ _ _ _ _ _ _ _ _ _ _ _ _ _ _ _ _ _ _ _ _ _ _ b23 hge22 R23
          · (try simp only [List.getElem_toArray, List.getElem_cons_succ, List.getElem_cons_zero])
            go_simp
            have bA24 := (Below.refl v20.heap.size v20).alloc (Nat.le_refl _) (.cells #[.int .i64 0, .int .i64 0, .int .i64 0, .int .i64 0, .int .i64 0, .int .i64 0, .int .i64 0, .bool false, .bool false] 31)
            have b24 := b20.trans (bA24.mono b20.size)
            have hge24 := b20.size
            have P24 : Blk (v20.alloc (.cells #[.int .i64 0, .int .i64 0, .int .i64 0, .int .i64 0, .int .i64 0, .int .i64 0, .int .i64 0, .bool false, .bool false] 31)) v20.heap.size #[.int .i64 0, .int .i64 0, .int .i64 0, .int .i64 0, .int .i64 0, .int .i64 0, .int .i64 0, .bool false, .bool false] := Blk.at rfl
            have hl24 := hl20.keep bA24
            refine hK.out _ _ ((E1.held b24)) (fun hHeld => ?_); clear hK K; (try simp only [Act.put, List.setIfInBounds_toArray, List.set_cons_zero, List.set_cons_succ])
            clear bA24
            generalize hQ24 : v20.heap.size = PB at *
            generalize hW24 : v20.alloc (.cells #[.int .i64 0, .int .i64 0, .int .i64 0, .int .i64 0, .int .i64 0, .int .i64 0, .int .i64 0, .bool false, .bool false] 31) = v24 at *
            refine wpAnyH_ready (rs := [6]) (by kernel_rfl) (by simp) ?_
            refine AllReadyH.cons rfl (fun K hK => ?_) (AllReadyH.nil)
            (try simp only [List.getElem_toArray, List.getElem_cons_succ, List.getElem_cons_zero])
            go_simp
            go_at_call 26
            refine (sEStep (l.re wa2 wc2 ga2 gc2) s d p b _ (by simp only; omega) (by simp only; omega) hl24).mono ?_
            rw [re_stepV, re_stepB, ← hVh.out, ← hBh.out]
            rintro e v25 ⟨rfl, hb25⟩
            have b25 := b24.trans (hb25.mono b24.size)
            have hl25 := hl24.keep hb25
            have P25 := P24.below hb25 P24.lt
            go_wp2_with fail
            refine hK.out _ _ ((E1.held b25)) (fun hHeld => ?_); clear hK K; (try simp only [Act.put, List.setIfInBounds_toArray, List.set_cons_zero, List.set_cons_succ])
            (refine wpAnyH_take (i := 7) (v := ?_) rfl (by kernel_rfl) (by kernel_rfl) (by kernel_rfl) (fun _ _ _ h => h) (Or.inl ⟨by rfl, ?_⟩) (by assumption) ?_; rotate_left; · (intro w hSw; (try dsimp only at hSw); go_simp; (try with_reducible rfl))); (try simp only [Act.put, List.setIfInBounds_toArray, List.set_cons_zero, List.set_cons_succ])
            (refine wpAnyH_take (i := 8) (v := ?_) rfl (by kernel_rfl) (by kernel_rfl) (by kernel_rfl) (fun _ _ _ h => h) (Or.inl ⟨by rfl, ?_⟩) (by assumption) ?_; rotate_left; · (intro w hSw; (try dsimp only at hSw); go_simp; (try with_reducible rfl))); (try simp only [Act.put, List.setIfInBounds_toArray, List.set_cons_zero, List.set_cons_succ])
            (refine wpAnyH_take (i := 9) (v := ?_) rfl (by kernel_rfl) (by kernel_rfl) (by kernel_rfl) (fun _ _ _ h => h) (Or.inl ⟨by rfl, ?_⟩) (by assumption) ?_; rotate_left; · (intro w hSw; (try dsimp only at hSw); go_simp; (try with_reducible rfl))); (try simp only [Act.put, List.setIfInBounds_toArray, List.set_cons_zero, List.set_cons_succ])
            have hlo26 := P25.lt
            have b26 := Below.setRow b25 hge24 #[.int .i64 V.tick, .int .i64 V.ax, .int .i64 V.ay, .int .i64 V.fx, .int .i64 V.fy, .int .i64 V.turn, .int .i64 V.gate, .bool V.done, .bool V.over]
            have R26 := P25.row #[.int .i64 V.tick, .int .i64 V.ax, .int .i64 V.ay, .int .i64 V.fx, .int .i64 V.fy, .int .i64 V.turn, .int .i64 V.gate, .bool V.done, .bool V.over]
            refine wpAnyH_ready (rs := [11]) (by kernel_rfl) (by simp) ?_; refine AllReadyH.cons rfl (fun K hK => ?_) AllReadyH.nil
            refine step_store (by rfl) _ _ _ (by rfl) (by rfl) (by rfl) P25 (by kernel_rfl) (by rfl) (by simp [Value.oneCell']) ?_
            refine hK.out _ _ ((E1.held b26)) (fun hHeld => ?_); clear hK K; (try simp only [Act.put, List.setIfInBounds_toArray, List.set_cons_zero, List.set_cons_succ])
            (refine wpAnyH_take (i := 12) (v := ?_) rfl (by kernel_rfl) (by kernel_rfl) (by kernel_rfl) (fun _ _ _ h => h) (Or.inl ⟨by rfl, ?_⟩) (by assumption) ?_; rotate_left; · (intro w hSw; (try dsimp only at hSw); go_simp; (try with_reducible rfl))); (try simp only [Act.put, List.setIfInBounds_toArray, List.set_cons_zero, List.set_cons_succ])
            refine wpAnyH_done (by kernel_rfl) ?_ _
            exact hfin5.out PB _ _ _ _ _ _ _ _ _ _ _ _ _ _ _ _ _ _ _ _ _ _ _ _ _ _ _ _ _ _ _ _ _ _ _ _ _ _ _ _ _ _ _ _ _ _ _ _ _ b26 hge24 R26
        · (try simp only [List.getElem_toArray, List.getElem_cons_succ, List.getElem_cons_zero])
          go_simp
          have bA27 := (Below.refl v19.heap.size v19).alloc (Nat.le_refl _) (.cells #[.int .i64 0, .int .i64 0, .int .i64 0, .int .i64 0, .int .i64 0, .int .i64 0, .int .i64 0, .bool false, .bool false] 31)
          have b27 := b19.trans (bA27.mono b19.size)
          have hge27 := b19.size
          have P27 : Blk (v19.alloc (.cells #[.int .i64 0, .int .i64 0, .int .i64 0, .int .i64 0, .int .i64 0, .int .i64 0, .int .i64 0, .bool false, .bool false] 31)) v19.heap.size #[.int .i64 0, .int .i64 0, .int .i64 0, .int .i64 0, .int .i64 0, .int .i64 0, .int .i64 0, .bool false, .bool false] := Blk.at rfl
          have hl27 := hl19.keep bA27
          refine hK.out _ _ ((E1.held b27)) (fun hHeld => ?_); clear hK K; (try simp only [Act.put, List.setIfInBounds_toArray, List.set_cons_zero, List.set_cons_succ])
          clear bA27
          generalize hQ27 : v19.heap.size = PB at *
          generalize hW27 : v19.alloc (.cells #[.int .i64 0, .int .i64 0, .int .i64 0, .int .i64 0, .int .i64 0, .int .i64 0, .int .i64 0, .bool false, .bool false] 31) = v27 at *
          refine wpAnyH_ready (rs := [5]) (by kernel_rfl) (by simp) ?_
          refine AllReadyH.cons rfl (fun K hK => ?_) (AllReadyH.nil)
          (try simp only [List.getElem_toArray, List.getElem_cons_succ, List.getElem_cons_zero])
          go_simp
          go_at_call 31
          refine (toInp d p b _).mono ?_
          rintro e v28 ⟨rfl, hb28⟩
          have b28 := b27.trans (hb28.mono b27.size)
          have hl28 := hl27.keep hb28
          have P28 := P27.below hb28 P27.lt
          go_wp2_with fail
          refine hK.out _ _ ((E1.held b28)) (fun hHeld => ?_); clear hK K; (try simp only [Act.put, List.setIfInBounds_toArray, List.set_cons_zero, List.set_cons_succ])
          refine wpAnyH_ready (rs := [6]) (by kernel_rfl) (by simp) ?_
          refine AllReadyH.cons rfl (fun K hK => ?_) (AllReadyH.nil)
          (try simp only [List.getElem_toArray, List.getElem_cons_succ, List.getElem_cons_zero])
          go_simp
          go_at_call 26
          refine (sEStep (l.re wa2 wc2 ga2 gc2) s d p b _ (by simp only; omega) (by simp only; omega) hl28).mono ?_
          rw [re_stepV, re_stepB, ← hVh.out, ← hBh.out]
          rintro e v29 ⟨rfl, hb29⟩
          have b29 := b28.trans (hb29.mono b28.size)
          have hl29 := hl28.keep hb29
          have P29 := P28.below hb29 P28.lt
          go_wp2_with fail
          refine hK.out _ _ ((E1.held b29)) (fun hHeld => ?_); clear hK K; (try simp only [Act.put, List.setIfInBounds_toArray, List.set_cons_zero, List.set_cons_succ])
          (refine wpAnyH_take (i := 7) (v := ?_) rfl (by kernel_rfl) (by kernel_rfl) (by kernel_rfl) (fun _ _ _ h => h) (Or.inl ⟨by rfl, ?_⟩) (by assumption) ?_; rotate_left; · (intro w hSw; (try dsimp only at hSw); go_simp; (try with_reducible rfl))); (try simp only [Act.put, List.setIfInBounds_toArray, List.set_cons_zero, List.set_cons_succ])
          (refine wpAnyH_take (i := 8) (v := ?_) rfl (by kernel_rfl) (by kernel_rfl) (by kernel_rfl) (fun _ _ _ h => h) (Or.inl ⟨by rfl, ?_⟩) (by assumption) ?_; rotate_left; · (intro w hSw; (try dsimp only at hSw); go_simp; (try with_reducible rfl))); (try simp only [Act.put, List.setIfInBounds_toArray, List.set_cons_zero, List.set_cons_succ])
          (refine wpAnyH_take (i := 9) (v := ?_) rfl (by kernel_rfl) (by kernel_rfl) (by kernel_rfl) (fun _ _ _ h => h) (Or.inl ⟨by rfl, ?_⟩) (by assumption) ?_; rotate_left; · (intro w hSw; (try dsimp only at hSw); go_simp; (try with_reducible rfl))); (try simp only [Act.put, List.setIfInBounds_toArray, List.set_cons_zero, List.set_cons_succ])
          have hlo30 := P29.lt
          have b30 := Below.setRow b29 hge27 #[.int .i64 V.tick, .int .i64 V.ax, .int .i64 V.ay, .int .i64 V.fx, .int .i64 V.fy, .int .i64 V.turn, .int .i64 V.gate, .bool V.done, .bool V.over]
          have R30 := P29.row #[.int .i64 V.tick, .int .i64 V.ax, .int .i64 V.ay, .int .i64 V.fx, .int .i64 V.fy, .int .i64 V.turn, .int .i64 V.gate, .bool V.done, .bool V.over]
          refine wpAnyH_ready (rs := [11]) (by kernel_rfl) (by simp) ?_; refine AllReadyH.cons rfl (fun K hK => ?_) AllReadyH.nil
          refine step_store (by rfl) _ _ _ (by rfl) (by rfl) (by rfl) P29 (by kernel_rfl) (by rfl) (by simp [Value.oneCell']) ?_
          refine hK.out _ _ ((E1.held b30)) (fun hHeld => ?_); clear hK K; (try simp only [Act.put, List.setIfInBounds_toArray, List.set_cons_zero, List.set_cons_succ])
          (refine wpAnyH_take (i := 12) (v := ?_) rfl (by kernel_rfl) (by kernel_rfl) (by kernel_rfl) (fun _ _ _ h => h) (Or.inl ⟨by rfl, ?_⟩) (by assumption) ?_; rotate_left; · (intro w hSw; (try dsimp only at hSw); go_simp; (try with_reducible rfl))); (try simp only [Act.put, List.setIfInBounds_toArray, List.set_cons_zero, List.set_cons_succ])
          refine wpAnyH_done (by kernel_rfl) ?_ _
          exact hfin5.out PB _ _ _ _ _ _ _ _ _ _ _ _ _ _ _ _ _ _ _ _ _ _ _ _ _ _ _ _ _ _ _ _ _ _ _ _ _ _ _ _ _ _ _ _ _ _ _ _ _ b30 hge27 R30
      · (try simp only [List.getElem_toArray, List.getElem_cons_succ, List.getElem_cons_zero])
        go_simp
        have bA31 := (Below.refl v18.heap.size v18).alloc (Nat.le_refl _) (.cells #[.int .i64 0, .int .i64 0, .int .i64 0, .int .i64 0, .int .i64 0, .int .i64 0, .int .i64 0, .bool false, .bool false] 31)
        have b31 := b18.trans (bA31.mono b18.size)
        have hge31 := b18.size
        have P31 : Blk (v18.alloc (.cells #[.int .i64 0, .int .i64 0, .int .i64 0, .int .i64 0, .int .i64 0, .int .i64 0, .int .i64 0, .bool false, .bool false] 31)) v18.heap.size #[.int .i64 0, .int .i64 0, .int .i64 0, .int .i64 0, .int .i64 0, .int .i64 0, .int .i64 0, .bool false, .bool false] := Blk.at rfl
        have hl31 := hl18.keep bA31
        refine hK.out _ _ ((E1.held b31)) (fun hHeld => ?_); clear hK K; (try simp only [Act.put, List.setIfInBounds_toArray, List.set_cons_zero, List.set_cons_succ])
        clear bA31
        generalize hQ31 : v18.heap.size = PB at *
        generalize hW31 : v18.alloc (.cells #[.int .i64 0, .int .i64 0, .int .i64 0, .int .i64 0, .int .i64 0, .int .i64 0, .int .i64 0, .bool false, .bool false] 31) = v31 at *
        refine wpAnyH_ready (rs := [3]) (by kernel_rfl) (by simp) ?_
        refine AllReadyH.cons rfl (fun K hK => ?_) (AllReadyH.nil)
        (try simp only [List.getElem_toArray, List.getElem_cons_succ, List.getElem_cons_zero])
        go_simp
        go_at_call 30
        refine (toState_any s _).mono ?_
        rintro e v32 ⟨rfl, hb32⟩
        have b32 := b31.trans (hb32.mono b31.size)
        have hl32 := hl31.keep hb32
        have P32 := P31.below hb32 P31.lt
        go_wp2_with fail
        refine hK.out _ _ ((E1.held b32)) (fun hHeld => ?_); clear hK K; (try simp only [Act.put, List.setIfInBounds_toArray, List.set_cons_zero, List.set_cons_succ])
        refine wpAnyH_ready (rs := [5]) (by kernel_rfl) (by simp) ?_
        refine AllReadyH.cons rfl (fun K hK => ?_) (AllReadyH.nil)
        (try simp only [List.getElem_toArray, List.getElem_cons_succ, List.getElem_cons_zero])
        go_simp
        go_at_call 31
        refine (toInp d p b _).mono ?_
        rintro e v33 ⟨rfl, hb33⟩
        have b33 := b32.trans (hb33.mono b32.size)
        have hl33 := hl32.keep hb33
        have P33 := P32.below hb33 P32.lt
        go_wp2_with fail
        refine hK.out _ _ ((E1.held b33)) (fun hHeld => ?_); clear hK K; (try simp only [Act.put, List.setIfInBounds_toArray, List.set_cons_zero, List.set_cons_succ])
        refine wpAnyH_ready (rs := [6]) (by kernel_rfl) (by simp) ?_
        refine AllReadyH.cons rfl (fun K hK => ?_) (AllReadyH.nil)
        (try simp only [List.getElem_toArray, List.getElem_cons_succ, List.getElem_cons_zero])
        go_simp
        go_at_call 26
        refine (sEStep (l.re wa2 wc2 ga2 gc2) s d p b _ (by simp only; omega) (by simp only; omega) hl33).mono ?_
        rw [re_stepV, re_stepB, ← hVh.out, ← hBh.out]
        rintro e v34 ⟨rfl, hb34⟩
        have b34 := b33.trans (hb34.mono b33.size)
        have hl34 := hl33.keep hb34
        have P34 := P33.below hb34 P33.lt
        go_wp2_with fail
        refine hK.out _ _ ((E1.held b34)) (fun hHeld => ?_); clear hK K; (try simp only [Act.put, List.setIfInBounds_toArray, List.set_cons_zero, List.set_cons_succ])
        (refine wpAnyH_take (i := 7) (v := ?_) rfl (by kernel_rfl) (by kernel_rfl) (by kernel_rfl) (fun _ _ _ h => h) (Or.inl ⟨by rfl, ?_⟩) (by assumption) ?_; rotate_left; · (intro w hSw; (try dsimp only at hSw); go_simp; (try with_reducible rfl))); (try simp only [Act.put, List.setIfInBounds_toArray, List.set_cons_zero, List.set_cons_succ])
        (refine wpAnyH_take (i := 8) (v := ?_) rfl (by kernel_rfl) (by kernel_rfl) (by kernel_rfl) (fun _ _ _ h => h) (Or.inl ⟨by rfl, ?_⟩) (by assumption) ?_; rotate_left; · (intro w hSw; (try dsimp only at hSw); go_simp; (try with_reducible rfl))); (try simp only [Act.put, List.setIfInBounds_toArray, List.set_cons_zero, List.set_cons_succ])
        (refine wpAnyH_take (i := 9) (v := ?_) rfl (by kernel_rfl) (by kernel_rfl) (by kernel_rfl) (fun _ _ _ h => h) (Or.inl ⟨by rfl, ?_⟩) (by assumption) ?_; rotate_left; · (intro w hSw; (try dsimp only at hSw); go_simp; (try with_reducible rfl))); (try simp only [Act.put, List.setIfInBounds_toArray, List.set_cons_zero, List.set_cons_succ])
        have hlo35 := P34.lt
        have b35 := Below.setRow b34 hge31 #[.int .i64 V.tick, .int .i64 V.ax, .int .i64 V.ay, .int .i64 V.fx, .int .i64 V.fy, .int .i64 V.turn, .int .i64 V.gate, .bool V.done, .bool V.over]
        have R35 := P34.row #[.int .i64 V.tick, .int .i64 V.ax, .int .i64 V.ay, .int .i64 V.fx, .int .i64 V.fy, .int .i64 V.turn, .int .i64 V.gate, .bool V.done, .bool V.over]
        refine wpAnyH_ready (rs := [11]) (by kernel_rfl) (by simp) ?_; refine AllReadyH.cons rfl (fun K hK => ?_) AllReadyH.nil
        refine step_store (by rfl) _ _ _ (by rfl) (by rfl) (by rfl) P34 (by kernel_rfl) (by rfl) (by simp [Value.oneCell']) ?_
        refine hK.out _ _ ((E1.held b35)) (fun hHeld => ?_); clear hK K; (try simp only [Act.put, List.setIfInBounds_toArray, List.set_cons_zero, List.set_cons_succ])
        (refine wpAnyH_take (i := 12) (v := ?_) rfl (by kernel_rfl) (by kernel_rfl) (by kernel_rfl) (fun _ _ _ h => h) (Or.inl ⟨by rfl, ?_⟩) (by assumption) ?_; rotate_left; · (intro w hSw; (try dsimp only at hSw); go_simp; (try with_reducible rfl))); (try simp only [Act.put, List.setIfInBounds_toArray, List.set_cons_zero, List.set_cons_succ])
        refine wpAnyH_done (by kernel_rfl) ?_ _
        exact hfin5.out PB _ _ _ _ _ _ _ _ _ _ _ _ _ _ _ _ _ _ _ _ _ _ _ _ _ _ _ _ _ _ _ _ _ _ _ _ _ _ _ _ _ _ _ _ _ _ _ _ _ b35 hge31 R35
    · (try simp only [List.getElem_toArray, List.getElem_cons_succ, List.getElem_cons_zero])
      go_simp
      have bA36 := (Below.refl v0.heap.size v0).alloc (Nat.le_refl _) (.cells #[.int .i64 0, .int .i64 0, .int .i64 0, .int .i64 0, .int .i64 0, .int .i64 0, .int .i64 0, .bool false, .bool false] 31)
      have b36 := b0.trans (bA36.mono b0.size)
      have hge36 := b0.size
      have P36 : Blk (v0.alloc (.cells #[.int .i64 0, .int .i64 0, .int .i64 0, .int .i64 0, .int .i64 0, .int .i64 0, .int .i64 0, .bool false, .bool false] 31)) v0.heap.size #[.int .i64 0, .int .i64 0, .int .i64 0, .int .i64 0, .int .i64 0, .int .i64 0, .int .i64 0, .bool false, .bool false] := Blk.at rfl
      refine hK.out _ _ ((E1.held b36)) (fun hHeld => ?_); clear hK K; (try simp only [Act.put, List.setIfInBounds_toArray, List.set_cons_zero, List.set_cons_succ])
      clear bA36
      generalize hQ36 : v0.heap.size = PB at *
      generalize hW36 : v0.alloc (.cells #[.int .i64 0, .int .i64 0, .int .i64 0, .int .i64 0, .int .i64 0, .int .i64 0, .int .i64 0, .bool false, .bool false] 31) = v36 at *
      refine wpAnyH_ready (rs := [1]) (by kernel_rfl) (by simp) ?_
      refine AllReadyH.cons rfl (fun K hK => ?_) (AllReadyH.nil)
      (try simp only [List.getElem_toArray, List.getElem_cons_succ, List.getElem_cons_zero])
      go_simp
      go_at_call 29
      refine (toLevel_any l _ (by omega) (by omega) (E1.pass b36).lv).mono ?_
      rintro e v37 ⟨wa2, wc2, ga2, gc2, rfl, hl37, hb37⟩
      have b37 := b36.trans (hb37.mono b36.size)
      have P37 := P36.below hb37 P36.lt
      go_wp2_with fail
      refine hK.out _ _ ((E1.held b37)) (fun hHeld => ?_); clear hK K; (try simp only [Act.put, List.setIfInBounds_toArray, List.set_cons_zero, List.set_cons_succ])
      refine wpAnyH_ready (rs := [3]) (by kernel_rfl) (by simp) ?_
      refine AllReadyH.cons rfl (fun K hK => ?_) (AllReadyH.nil)
      (try simp only [List.getElem_toArray, List.getElem_cons_succ, List.getElem_cons_zero])
      go_simp
      go_at_call 30
      refine (toState_any s _).mono ?_
      rintro e v38 ⟨rfl, hb38⟩
      have b38 := b37.trans (hb38.mono b37.size)
      have hl38 := hl37.keep hb38
      have P38 := P37.below hb38 P37.lt
      go_wp2_with fail
      refine hK.out _ _ ((E1.held b38)) (fun hHeld => ?_); clear hK K; (try simp only [Act.put, List.setIfInBounds_toArray, List.set_cons_zero, List.set_cons_succ])
      refine wpAnyH_ready (rs := [5]) (by kernel_rfl) (by simp) ?_
      refine AllReadyH.cons rfl (fun K hK => ?_) (AllReadyH.nil)
      (try simp only [List.getElem_toArray, List.getElem_cons_succ, List.getElem_cons_zero])
      go_simp
      go_at_call 31
      refine (toInp d p b _).mono ?_
      rintro e v39 ⟨rfl, hb39⟩
      have b39 := b38.trans (hb39.mono b38.size)
      have hl39 := hl38.keep hb39
      have P39 := P38.below hb39 P38.lt
      go_wp2_with fail
      refine hK.out _ _ ((E1.held b39)) (fun hHeld => ?_); clear hK K; (try simp only [Act.put, List.setIfInBounds_toArray, List.set_cons_zero, List.set_cons_succ])
      refine wpAnyH_ready (rs := [6]) (by kernel_rfl) (by simp) ?_
      refine AllReadyH.cons rfl (fun K hK => ?_) (AllReadyH.nil)
      (try simp only [List.getElem_toArray, List.getElem_cons_succ, List.getElem_cons_zero])
      go_simp
      go_at_call 26
      refine (sEStep (l.re wa2 wc2 ga2 gc2) s d p b _ (by simp only; omega) (by simp only; omega) hl39).mono ?_
      rw [re_stepV, re_stepB, ← hVh.out, ← hBh.out]
      rintro e v40 ⟨rfl, hb40⟩
      have b40 := b39.trans (hb40.mono b39.size)
      have hl40 := hl39.keep hb40
      have P40 := P39.below hb40 P39.lt
      go_wp2_with fail
      refine hK.out _ _ ((E1.held b40)) (fun hHeld => ?_); clear hK K; (try simp only [Act.put, List.setIfInBounds_toArray, List.set_cons_zero, List.set_cons_succ])
      (refine wpAnyH_take (i := 7) (v := ?_) rfl (by kernel_rfl) (by kernel_rfl) (by kernel_rfl) (fun _ _ _ h => h) (Or.inl ⟨by rfl, ?_⟩) (by assumption) ?_; rotate_left; · (intro w hSw; (try dsimp only at hSw); go_simp; (try with_reducible rfl))); (try simp only [Act.put, List.setIfInBounds_toArray, List.set_cons_zero, List.set_cons_succ])
      (refine wpAnyH_take (i := 8) (v := ?_) rfl (by kernel_rfl) (by kernel_rfl) (by kernel_rfl) (fun _ _ _ h => h) (Or.inl ⟨by rfl, ?_⟩) (by assumption) ?_; rotate_left; · (intro w hSw; (try dsimp only at hSw); go_simp; (try with_reducible rfl))); (try simp only [Act.put, List.setIfInBounds_toArray, List.set_cons_zero, List.set_cons_succ])
      (refine wpAnyH_take (i := 9) (v := ?_) rfl (by kernel_rfl) (by kernel_rfl) (by kernel_rfl) (fun _ _ _ h => h) (Or.inl ⟨by rfl, ?_⟩) (by assumption) ?_; rotate_left; · (intro w hSw; (try dsimp only at hSw); go_simp; (try with_reducible rfl))); (try simp only [Act.put, List.setIfInBounds_toArray, List.set_cons_zero, List.set_cons_succ])
      have hlo41 := P40.lt
      have b41 := Below.setRow b40 hge36 #[.int .i64 V.tick, .int .i64 V.ax, .int .i64 V.ay, .int .i64 V.fx, .int .i64 V.fy, .int .i64 V.turn, .int .i64 V.gate, .bool V.done, .bool V.over]
      have R41 := P40.row #[.int .i64 V.tick, .int .i64 V.ax, .int .i64 V.ay, .int .i64 V.fx, .int .i64 V.fy, .int .i64 V.turn, .int .i64 V.gate, .bool V.done, .bool V.over]
      refine wpAnyH_ready (rs := [11]) (by kernel_rfl) (by simp) ?_; refine AllReadyH.cons rfl (fun K hK => ?_) AllReadyH.nil
      refine step_store (by rfl) _ _ _ (by rfl) (by rfl) (by rfl) P40 (by kernel_rfl) (by rfl) (by simp [Value.oneCell']) ?_
      refine hK.out _ _ ((E1.held b41)) (fun hHeld => ?_); clear hK K; (try simp only [Act.put, List.setIfInBounds_toArray, List.set_cons_zero, List.set_cons_succ])
      (refine wpAnyH_take (i := 12) (v := ?_) rfl (by kernel_rfl) (by kernel_rfl) (by kernel_rfl) (fun _ _ _ h => h) (Or.inl ⟨by rfl, ?_⟩) (by assumption) ?_; rotate_left; · (intro w hSw; (try dsimp only at hSw); go_simp; (try with_reducible rfl))); (try simp only [Act.put, List.setIfInBounds_toArray, List.set_cons_zero, List.set_cons_succ])
      refine wpAnyH_done (by kernel_rfl) ?_ _
      exact hfin5.out PB _ _ _ _ _ _ _ _ _ _ _ _ _ _ _ _ _ _ _ _ _ _ _ _ _ _ _ _ _ _ _ _ _ _ _ _ _ _ _ _ _ _ _ _ _ _ _ _ _ b41 hge36 R41
  · go_enter Try.func6, Try.ntmps6
    go_wp2_with fail
    refine (szLevel_any l _ (by unfold maxLen at h1; omega) (by unfold maxLen at h2; omega)).mono ?_
    rintro e w1 ⟨⟨z1, rfl, hz⟩, hb1⟩
    rw [if_neg hs] at hz
    subst hz
    have E1 : EX w l s d p b w1 := EX.pass (w := ((w.alloc (.cells #[.int .i64 l.id, .int .i64 l.ticks, .int .i64 l.sx, .int .i64 l.sy, .slice l.wa l.wn l.wc, .slice l.ga l.gn l.gc, .int .i64 l.flx, .int .i64 l.fly, .int .i64 l.fhx, .int .i64 l.fhy, .int .i64 l.bans] 45)).alloc (.cells #[.int .i64 s.tick, .int .i64 s.ax, .int .i64 s.ay, .int .i64 s.fx, .int .i64 s.fy, .int .i64 s.turn, .int .i64 s.gate, .bool s.done, .bool s.over] 47)).alloc (.cells #[.int .i64 d, .int .i64 p, .bool b] 48)) ⟨((Blk.at rfl).alloc _).alloc _, (Blk.at (by simp)).alloc _, Blk.at (by simp), hl.keep (by (repeat (first | with_reducible assumption | with_reducible exact Below.refl _ _ | ((with_reducible refine Below.alloc ?_ ?_ _); rotate_left; · exact (by first | omega | (simp; done) | (simp; omega))) | ((with_reducible refine Below.setCell ?_ ?_ _); rotate_left; · exact (by first | omega | (simp; done) | (simp; omega))) | with_reducible refine Below.drew ?_ | assumption | exact Below.refl _ _ | refine Below.alloc ?_ (by first | omega | (simp; done) | (simp; omega)) _ | refine Below.setCell ?_ (by first | omega | (simp; done) | (simp; omega)) _ | refine Below.drew ?_))), by (repeat (first | with_reducible assumption | with_reducible exact Below.refl _ _ | ((with_reducible refine Below.alloc ?_ ?_ _); rotate_left; · exact (by first | omega | (simp; done) | (simp; omega))) | ((with_reducible refine Below.setCell ?_ ?_ _); rotate_left; · exact (by first | omega | (simp; done) | (simp; omega))) | with_reducible refine Below.drew ?_ | assumption | exact Below.refl _ _ | refine Below.alloc ?_ (by first | omega | (simp; done) | (simp; omega)) _ | refine Below.setCell ?_ (by first | omega | (simp; done) | (simp; omega)) _ | refine Below.drew ?_))⟩ hb1
    go_wp2
    go_ret
    exact ⟨rfl, E1.bel⟩
end Go.Proofs.Ytnhjalijnociaaa

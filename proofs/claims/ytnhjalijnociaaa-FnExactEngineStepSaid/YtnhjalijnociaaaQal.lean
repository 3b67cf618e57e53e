/- Copies and comparisons of levels. -/
import Derived.Test.YtnhjalijnociaaaQaj
import Derived.Test.YtnhjalijnociaaaQae
import Derived.Deep.RegionHeld3
import Derived.StillTailTactics
/- Copies and comparisons of levels. -/
set_option linter.unusedVariables false
namespace Go.Proofs.Ytnhjalijnociaaa
open Go.RowKit

theorem BoxesAt.same {w w' : World} {a : Option Addr} {n : Nat} {f : Nat → Bx} (h : BoxesAt w a n f) (hs : w.heap.size ≤ w'.heap.size) (he : ∀ p, a = some p → w'.heap[p.block]? = w.heap[p.block]?) : BoxesAt w' a n f := by
  rcases h with h | ⟨b, off, ha, hlt, hc⟩
  · exact .inl h
  · refine .inr ⟨b, off, ha, Nat.lt_of_lt_of_le hlt hs, fun i hi => ?_⟩
    have hb := he _ ha
    have e : ∀ o, w'.cell? ⟨b, o, none⟩ = w.cell? ⟨b, o, none⟩ := fun o => World.cell?_of_block (w := w) hb
    obtain ⟨c0, c1, c2, c3⟩ := hc i hi
    exact ⟨(e _).trans c0, (e _).trans c1, (e _).trans c2, (e _).trans c3⟩
theorem BoxesAt.set {w : World} {g n : Nat} {f : Nat → Bx} (h : BoxesAt w (some ⟨g, 0, none⟩) n f) {p : Addr} (hne : g ≠ p.block) (v : Value) : BoxesAt (w.setCell p v) (some ⟨g, 0, none⟩) n f :=
  h.same (by simp) fun q hq => by cases hq; exact heap_setCell_other w p g v hne
theorem BoxesAt.row {w : World} {g n : Nat} {f : Nat → Bx} (h : BoxesAt w (some ⟨g, 0, none⟩) n f) {k : Nat} (hne : g ≠ k) (c : Array Value) : BoxesAt (w.setRow k c) (some ⟨g, 0, none⟩) n f :=
  h.same (by simp) fun q hq => by cases hq; exact setRow_other w k g c hne
/-- a level in other places -/
@[reducible] def Lv.re (l : Lv) (wa : Option Addr) (wc : Nat) (ga : Option Addr) (gc : Nat) : Lv := ⟨l.id, l.ticks, l.sx, l.sy, wa, l.wn, wc, ga, l.gn, gc, l.flx, l.fly, l.fhx, l.fhy, l.bans, l.wf, l.gf⟩
/-- a copy of a level -/
def NewLevel (l : Lv) (w : World) (e : Ending) (w' : World) : Prop :=
  ∃ wa wc ga gc, e = .returned (.agg #[.int .i64 l.id, .int .i64 l.ticks, .int .i64 l.sx, .int .i64 l.sy, .slice wa l.wn wc, .slice ga l.gn gc, .int .i64 l.flx, .int .i64 l.fly, .int .i64 l.fhx, .int .i64 l.fhy, .int .i64 l.bans]) ∧ LvAt w' (l.re wa wc ga gc) ∧ Below w.heap.size w w'
set_option maxRecDepth 100000 in
set_option maxHeartbeats 2000000 in
theorem toLevel_any (l : Lv) (w : World) (h1 : l.wn ≤ 1048576) (h2 : l.gn ≤ 1048576) (hl : LvAt w l) : Calls Try.prog 29 #[.agg #[.int .i64 l.id, .int .i64 l.ticks, .int .i64 l.sx, .int .i64 l.sy, .slice l.wa l.wn l.wc, .slice l.ga l.gn l.gc, .int .i64 l.flx, .int .i64 l.fly, .int .i64 l.fhx, .int .i64 l.fhy, .int .i64 l.bans]] w (NewLevel l w) := by
  obtain ⟨lid, lticks, lsx, lsy, wa, wn, wc, ga, gn, gc, flx, fly, fhx, fhy, bans, wf, gf⟩ := l
  obtain ⟨hw, hg⟩ := hl
  simp only at h1 h2 hw hg ⊢
  have hw : BoxesAt w wa wn wf := hw
  have hg : BoxesAt w ga gn gf := hg
  go_enter Try.func29, Try.ntmps29
  go_wp2_with fail; refine (toVec_any _ _ _).mono ?_; rintro e w1 ⟨rfl, hb1⟩; obtain ⟨hc1, hf1⟩ := bcell hb1; have hz1 : w.heap.size < w1.heap.size := (by have := hb1.size; first | omega | (simp at this; omega)); have hy1 : w.heap.size < w1.heap.size + 1 := Nat.lt_succ_of_lt hz1; have hB1 : Below w.heap.size w w1 := bstep (by (repeat (first | with_reducible assumption | with_reducible exact Below.refl _ _ | ((with_reducible refine Below.alloc ?_ ?_ _); rotate_left; · exact (by first | omega | (simp; done) | (simp; omega))) | ((with_reducible refine Below.setCell ?_ ?_ _); rotate_left; · exact (by first | omega | (simp; done) | (simp; omega))) | with_reducible refine Below.drew ?_ | assumption | exact Below.refl _ _ | refine Below.alloc ?_ (by first | omega | (simp; done) | (simp; omega)) _ | refine Below.setCell ?_ (by first | omega | (simp; done) | (simp; omega)) _ | refine Below.drew ?_))) (by first | omega | (simp; done) | (simp; omega)) hb1
  try (have hz1b : w.heap.size + 1 < w1.heap.size := (by have := hb1.size; first | omega | (simp at this; omega))); try (have hne1b : w1.heap.size ≠ w.heap.size + 1 := by omega)
  try (have hz1c : w.heap.size + 2 < w1.heap.size := (by have := hb1.size; first | omega | (simp at this; omega))); try (have hne1c : w1.heap.size ≠ w.heap.size + 2 := by omega)
  go_wp2_with fail
  refine (toBS _ _ _ wf _ h1 (hw.keep (by (repeat (first | with_reducible assumption | with_reducible exact Below.refl _ _ | ((with_reducible refine Below.alloc ?_ ?_ _); rotate_left; · exact (by first | omega | (simp; done) | (simp; omega))) | ((with_reducible refine Below.setCell ?_ ?_ _); rotate_left; · exact (by first | omega | (simp; done) | (simp; omega))) | with_reducible refine Below.drew ?_ | assumption | exact Below.refl _ _ | refine Below.alloc ?_ (by first | omega | (simp; done) | (simp; omega)) _ | refine Below.setCell ?_ (by first | omega | (simp; done) | (simp; omega)) _ | refine Below.drew ?_))))).mono ?_
  rintro e w2 ⟨g2, c2, rfl, hx2, hg2, hl2, hb2⟩
  obtain ⟨hc2, hf2⟩ := bcell hb2; have hz2 : w.heap.size ≤ w2.heap.size := (by have := hb2.size; first | omega | (simp at this; omega)); have hB2 : Below w.heap.size w w2 := bstep (by (repeat (first | with_reducible assumption | with_reducible exact Below.refl _ _ | ((with_reducible refine Below.alloc ?_ ?_ _); rotate_left; · exact (by first | omega | (simp; done) | (simp; omega))) | ((with_reducible refine Below.setCell ?_ ?_ _); rotate_left; · exact (by first | omega | (simp; done) | (simp; omega))) | with_reducible refine Below.drew ?_ | assumption | exact Below.refl _ _ | refine Below.alloc ?_ (by first | omega | (simp; done) | (simp; omega)) _ | refine Below.setCell ?_ (by first | omega | (simp; done) | (simp; omega)) _ | refine Below.drew ?_))) (by first | omega | (simp; done) | (simp; omega)) hb2
  have hz2 : w.heap.size < w2.heap.size := (by have := hb2.size; first | omega | (simp at this; omega))
  have hy2 : w.heap.size < w2.heap.size + 1 := by omega
  try (have hz2b : w.heap.size + 1 < w2.heap.size := (by have := hb2.size; first | omega | (simp at this; omega))); try (have hne2b : w2.heap.size ≠ w.heap.size + 1 := by omega)
  try (have hz2c : w.heap.size + 2 < w2.heap.size := (by have := hb2.size; first | omega | (simp at this; omega))); try (have hne2c : w2.heap.size ≠ w.heap.size + 2 := by omega)
  go_wp2_with fail
  refine (toBS _ _ _ gf _ h2 (hg.keep (by (repeat (first | with_reducible assumption | with_reducible exact Below.refl _ _ | ((with_reducible refine Below.alloc ?_ ?_ _); rotate_left; · exact (by first | omega | (simp; done) | (simp; omega))) | ((with_reducible refine Below.setCell ?_ ?_ _); rotate_left; · exact (by first | omega | (simp; done) | (simp; omega))) | with_reducible refine Below.drew ?_ | assumption | exact Below.refl _ _ | refine Below.alloc ?_ (by first | omega | (simp; done) | (simp; omega)) _ | refine Below.setCell ?_ (by first | omega | (simp; done) | (simp; omega)) _ | refine Below.drew ?_))))).mono ?_
  rintro e w3 ⟨g3, c3, rfl, hx3, hg3, hl3, hb3⟩
  obtain ⟨hc3, hf3⟩ := bcell hb3; have hz3 : w.heap.size ≤ w3.heap.size := (by have := hb3.size; first | omega | (simp at this; omega)); have hB3 : Below w.heap.size w w3 := bstep (by (repeat (first | with_reducible assumption | with_reducible exact Below.refl _ _ | ((with_reducible refine Below.alloc ?_ ?_ _); rotate_left; · exact (by first | omega | (simp; done) | (simp; omega))) | ((with_reducible refine Below.setCell ?_ ?_ _); rotate_left; · exact (by first | omega | (simp; done) | (simp; omega))) | with_reducible refine Below.drew ?_ | assumption | exact Below.refl _ _ | refine Below.alloc ?_ (by first | omega | (simp; done) | (simp; omega)) _ | refine Below.setCell ?_ (by first | omega | (simp; done) | (simp; omega)) _ | refine Below.drew ?_))) (by first | omega | (simp; done) | (simp; omega)) hb3
  have hz3 : w.heap.size < w3.heap.size := (by have := hb3.size; first | omega | (simp at this; omega))
  have hy3 : w.heap.size < w3.heap.size + 1 := by omega
  try (have hz3b : w.heap.size + 1 < w3.heap.size := (by have := hb3.size; first | omega | (simp at this; omega))); try (have hne3b : w3.heap.size ≠ w.heap.size + 1 := by omega)
  try (have hz3c : w.heap.size + 2 < w3.heap.size := (by have := hb3.size; first | omega | (simp at this; omega))); try (have hne3c : w3.heap.size ≠ w.heap.size + 2 := by omega)
  go_wp2_with fail; refine (toBox_any _ _ _ _ _).mono ?_; rintro e w4 ⟨rfl, hb4⟩; obtain ⟨hc4, hf4⟩ := bcell hb4; have hz4 : w.heap.size < w4.heap.size := (by have := hb4.size; first | omega | (simp at this; omega)); have hy4 : w.heap.size < w4.heap.size + 1 := Nat.lt_succ_of_lt hz4; have hB4 : Below w.heap.size w w4 := bstep (by (repeat (first | with_reducible assumption | with_reducible exact Below.refl _ _ | ((with_reducible refine Below.alloc ?_ ?_ _); rotate_left; · exact (by first | omega | (simp; done) | (simp; omega))) | ((with_reducible refine Below.setCell ?_ ?_ _); rotate_left; · exact (by first | omega | (simp; done) | (simp; omega))) | with_reducible refine Below.drew ?_ | assumption | exact Below.refl _ _ | refine Below.alloc ?_ (by first | omega | (simp; done) | (simp; omega)) _ | refine Below.setCell ?_ (by first | omega | (simp; done) | (simp; omega)) _ | refine Below.drew ?_))) (by first | omega | (simp; done) | (simp; omega)) hb4
  have hz4c : w.heap.size + 1 + 1 < w4.heap.size := (by have := hb4.size; first | omega | (simp at this; omega))
  have hz4b : w.heap.size + 1 < w4.heap.size := by omega
  have O1 : Blk w1 (w.heap.size + 1 + 1) _ := (Blk.at (by simp)).below hb1 (by simp)
  have O2 := ((O1.s11_2 _).s11_3 _).below hb2 (by simp; omega)
  have O3 := (O2.s11_4 _).below hb3 (by simp; omega)
  have O4 := (O3.s11_5 _).below hb4 (by simp; omega)
  have F4 := O4.frozen
  obtain ⟨d0, d1, d2, d3, d4, d5, d6, d7, d8, d9, d10⟩ := O4.c11
  have n1 : w.heap.size ≠ w.heap.size + 1 + 1 := by omega
  have P1 := (((Blk.new w _ _).alloc _).alloc _).below hb1 (by simp; omega)
  have P2 := ((P1.other n1 _).other n1 _).below hb2 (by simp; omega)
  have P3 := (P2.other n1 _).below hb3 (by simp; omega)
  have P4 := (P3.other n1 _).below hb4 (by simp; omega)
  have e10 := P4.c11.2.2.2.2.2.2.2.2.2.2
  have m2 : g2 ≠ w.heap.size + 1 + 1 := by simp at hg2; omega
  have m3 : g3 ≠ w.heap.size + 1 + 1 := by simp at hg3; omega
  have k2 : g2 ≠ w.heap.size + 1 := by simp at hg2; omega
  have k3 : g3 ≠ w.heap.size + 1 := by simp at hg3; omega
  have n2 : w.heap.size + 1 ≠ w.heap.size + 1 + 1 := by omega
  have X2 := (((((((((hx2.set m2 (.slice (some ⟨g2, 0, none⟩) wn c2)).keep hb3).set m2 (.slice (some ⟨g3, 0, none⟩) gn c3)).keep hb4).set m2 (.int .i64 flx) (p := ⟨w.heap.size + 1 + 1, 6, none⟩)).set m2 (.int .i64 fly) (p := ⟨w.heap.size + 1 + 1, 7, none⟩)).set m2 (.int .i64 fhx) (p := ⟨w.heap.size + 1 + 1, 8, none⟩)).set m2 (.int .i64 fhy) (p := ⟨w.heap.size + 1 + 1, 9, none⟩)).set m2 (.int .i64 bans) (p := ⟨w.heap.size + 1 + 1, 10, none⟩))
  have X3 := (((((((hx3.set m3 (.slice (some ⟨g3, 0, none⟩) gn c3)).keep hb4).set m3 (.int .i64 flx) (p := ⟨w.heap.size + 1 + 1, 6, none⟩)).set m3 (.int .i64 fly) (p := ⟨w.heap.size + 1 + 1, 7, none⟩)).set m3 (.int .i64 fhx) (p := ⟨w.heap.size + 1 + 1, 8, none⟩)).set m3 (.int .i64 fhy) (p := ⟨w.heap.size + 1 + 1, 9, none⟩)).set m3 (.int .i64 bans) (p := ⟨w.heap.size + 1 + 1, 10, none⟩))
  have O5 := ((((O4.s11_6 (.int .i64 flx)).s11_7 (.int .i64 fly)).s11_8 (.int .i64 fhx)).s11_9 (.int .i64 fhy)).s11_10 (.int .i64 bans)
  have R1 : Blk w1 (w.heap.size + 1) _ := ((Blk.at (by simp)).alloc _).below hb1 (by simp)
  have R2 := ((R1.other n2 (.int .i64 lsx) (p := ⟨w.heap.size + 1 + 1, 2, none⟩)).other n2 (.int .i64 lsy) (p := ⟨w.heap.size + 1 + 1, 3, none⟩)).below hb2 (by simp; omega)
  have R3 := (R2.other n2 (.slice (some ⟨g2, 0, none⟩) wn c2) (p := ⟨w.heap.size + 1 + 1, 4, none⟩)).below hb3 (by simp; omega)
  have R4 := (R3.other n2 (.slice (some ⟨g3, 0, none⟩) gn c3) (p := ⟨w.heap.size + 1 + 1, 5, none⟩)).below hb4 (by simp; omega)
  have R5 := ((((R4.other n2 (.int .i64 flx) (p := ⟨w.heap.size + 1 + 1, 6, none⟩)).other n2 (.int .i64 fly) (p := ⟨w.heap.size + 1 + 1, 7, none⟩)).other n2 (.int .i64 fhx) (p := ⟨w.heap.size + 1 + 1, 8, none⟩)).other n2 (.int .i64 fhy) (p := ⟨w.heap.size + 1 + 1, 9, none⟩)).other n2 (.int .i64 bans) (p := ⟨w.heap.size + 1 + 1, 10, none⟩)
  have XX := Lib.hid (And.intro (And.intro (X2.row k2 #[.int .i64 lid, .int .i64 lticks, .int .i64 lsx, .int .i64 lsy, .slice (some ⟨g2, 0, none⟩) wn c2, .slice (some ⟨g3, 0, none⟩) gn c3, .int .i64 flx, .int .i64 fly, .int .i64 fhx, .int .i64 fhy, .int .i64 bans]) (X3.row k3 #[.int .i64 lid, .int .i64 lticks, .int .i64 lsx, .int .i64 lsy, .slice (some ⟨g2, 0, none⟩) wn c2, .slice (some ⟨g3, 0, none⟩) gn c3, .int .i64 flx, .int .i64 fly, .int .i64 fhx, .int .i64 fhy, .int .i64 bans])) hB4)
  have RR := R5.row #[.int .i64 lid, .int .i64 lticks, .int .i64 lsx, .int .i64 lsy, .slice (some ⟨g2, 0, none⟩) wn c2, .slice (some ⟨g3, 0, none⟩) gn c3, .int .i64 flx, .int .i64 fly, .int .i64 fhx, .int .i64 fhy, .int .i64 bans]
  have hO := Lib.hid O5
  have hR := Lib.hid R5
  have hS := Lib.hid RR
  clear hc1 hc2 hc3 hc4 hf1 hf2 hf3 hf4
  clear O5 R5 RR O1 O2 O3 O4 P1 P2 P3 P4 R1 R2 R3 R4 X2 X3 hB1 hB2 hB3 hb1 hb2 hb3 hb4 hx2 hx3 hg2 hg3 hl2 hl3
  go_upto_region 9 with fail
  refine wp_copy (ty := 29) rfl hO.out Try.underlying29 rfl (by kernel_rfl) rfl rfl hR.out rfl (by simp [Value.oneCell']) ?_
  rename_i K hK
  refine hK _ _ (wp_ret ?_)
  refine bodyPost_ret (res_row rfl rfl hS.out Try.underlying29 rfl (by kernel_rfl)) rfl ?_
  exact ⟨_, _, _, _, rfl, XX.out.1, by
    have hB4 := XX.out.2
    refine Below.setRow ?_ (by omega) _
    (repeat (first | with_reducible assumption | with_reducible exact Below.refl _ _ | ((with_reducible refine Below.alloc ?_ ?_ _); rotate_left; · exact (by first | omega | (simp; done) | (simp; omega))) | ((with_reducible refine Below.setCell ?_ ?_ _); rotate_left; · exact (by first | omega | (simp; done) | (simp; omega))) | with_reducible refine Below.drew ?_ | assumption | exact Below.refl _ _ | refine Below.alloc ?_ (by first | omega | (simp; done) | (simp; omega)) _ | refine Below.setCell ?_ (by first | omega | (simp; done) | (simp; omega)) _ | refine Below.drew ?_))⟩
set_option maxRecDepth 100000 in
set_option maxHeartbeats 2000000 in
theorem eqLevel_any (l : Lv) (wa wa' : Option Addr) (wc wc' : Nat) (ga ga' : Option Addr) (gc gc' : Nat) (w : World) (h1 : l.wn ≤ 1048576) (h2 : l.gn ≤ 1048576) (hl : LvAt w (l.re wa wc ga gc)) (hl' : LvAt w (l.re wa' wc' ga' gc')) :
    Calls Try.prog 33 #[.agg #[.int .i64 l.id, .int .i64 l.ticks, .int .i64 l.sx, .int .i64 l.sy, .slice wa l.wn wc, .slice ga l.gn gc, .int .i64 l.flx, .int .i64 l.fly, .int .i64 l.fhx, .int .i64 l.fhy, .int .i64 l.bans], .agg #[.int .i64 l.id, .int .i64 l.ticks, .int .i64 l.sx, .int .i64 l.sy, .slice wa' l.wn wc', .slice ga' l.gn gc', .int .i64 l.flx, .int .i64 l.fly, .int .i64 l.fhx, .int .i64 l.fhy, .int .i64 l.bans]] w fun e w' => e = .returned (.bool true) ∧ Below w.heap.size w w' := by
  obtain ⟨lid, lticks, lsx, lsy, _, wn, _, _, gn, _, flx, fly, fhx, fhy, bans, wf, gf⟩ := l
  obtain ⟨hw, hg⟩ := hl
  obtain ⟨hw', hg'⟩ := hl'
  simp only at h1 h2 ⊢
  have hw : BoxesAt w wa wn wf := hw
  have hg : BoxesAt w ga gn gf := hg
  have hw' : BoxesAt w wa' wn wf := hw'
  have hg' : BoxesAt w ga' gn gf := hg'
  go_enter Try.func33, Try.ntmps33
  go_wp2_with fail; refine (eqVec_any _ _ _).mono ?_; rintro e w1 ⟨rfl, hb1⟩; obtain ⟨hc1, hf1⟩ := bcell hb1; have hz1 : w.heap.size < w1.heap.size := (by have := hb1.size; first | omega | (simp at this; omega)); have hy1 : w.heap.size < w1.heap.size + 1 := Nat.lt_succ_of_lt hz1; have hB1 : Below w.heap.size w w1 := bstep (by (repeat (first | with_reducible assumption | with_reducible exact Below.refl _ _ | ((with_reducible refine Below.alloc ?_ ?_ _); rotate_left; · exact (by first | omega | (simp; done) | (simp; omega))) | ((with_reducible refine Below.setCell ?_ ?_ _); rotate_left; · exact (by first | omega | (simp; done) | (simp; omega))) | with_reducible refine Below.drew ?_ | assumption | exact Below.refl _ _ | refine Below.alloc ?_ (by first | omega | (simp; done) | (simp; omega)) _ | refine Below.setCell ?_ (by first | omega | (simp; done) | (simp; omega)) _ | refine Below.drew ?_))) (by first | omega | (simp; done) | (simp; omega)) hb1
  try (have hz1b : w.heap.size + 1 < w1.heap.size := (by have := hb1.size; first | omega | (simp at this; omega))); try (have hne1b : w1.heap.size ≠ w.heap.size + 1 := by omega)
  go_wp2_with fail
  refine (eqBS _ _ _ _ _ wf _ (by omega) (hw.keep (by (repeat (first | with_reducible assumption | with_reducible exact Below.refl _ _ | ((with_reducible refine Below.alloc ?_ ?_ _); rotate_left; · exact (by first | omega | (simp; done) | (simp; omega))) | ((with_reducible refine Below.setCell ?_ ?_ _); rotate_left; · exact (by first | omega | (simp; done) | (simp; omega))) | with_reducible refine Below.drew ?_ | assumption | exact Below.refl _ _ | refine Below.alloc ?_ (by first | omega | (simp; done) | (simp; omega)) _ | refine Below.setCell ?_ (by first | omega | (simp; done) | (simp; omega)) _ | refine Below.drew ?_)))) (hw'.keep (by (repeat (first | with_reducible assumption | with_reducible exact Below.refl _ _ | ((with_reducible refine Below.alloc ?_ ?_ _); rotate_left; · exact (by first | omega | (simp; done) | (simp; omega))) | ((with_reducible refine Below.setCell ?_ ?_ _); rotate_left; · exact (by first | omega | (simp; done) | (simp; omega))) | with_reducible refine Below.drew ?_ | assumption | exact Below.refl _ _ | refine Below.alloc ?_ (by first | omega | (simp; done) | (simp; omega)) _ | refine Below.setCell ?_ (by first | omega | (simp; done) | (simp; omega)) _ | refine Below.drew ?_))))).mono ?_
  rintro e w2 ⟨rfl, hb2⟩; obtain ⟨hc2, hf2⟩ := bcell hb2; have hz2 : w.heap.size < w2.heap.size := (by have := hb2.size; first | omega | (simp at this; omega)); have hy2 : w.heap.size < w2.heap.size + 1 := Nat.lt_succ_of_lt hz2; have hB2 : Below w.heap.size w w2 := bstep (by (repeat (first | with_reducible assumption | with_reducible exact Below.refl _ _ | ((with_reducible refine Below.alloc ?_ ?_ _); rotate_left; · exact (by first | omega | (simp; done) | (simp; omega))) | ((with_reducible refine Below.setCell ?_ ?_ _); rotate_left; · exact (by first | omega | (simp; done) | (simp; omega))) | with_reducible refine Below.drew ?_ | assumption | exact Below.refl _ _ | refine Below.alloc ?_ (by first | omega | (simp; done) | (simp; omega)) _ | refine Below.setCell ?_ (by first | omega | (simp; done) | (simp; omega)) _ | refine Below.drew ?_))) (by first | omega | (simp; done) | (simp; omega)) hb2
  try (have hz2b : w.heap.size + 1 < w2.heap.size := (by have := hb2.size; first | omega | (simp at this; omega))); try (have hne2b : w2.heap.size ≠ w.heap.size + 1 := by omega)
  go_wp2_with fail
  refine (eqBS _ _ _ _ _ gf _ (by omega) (hg.keep (by (repeat (first | with_reducible assumption | with_reducible exact Below.refl _ _ | ((with_reducible refine Below.alloc ?_ ?_ _); rotate_left; · exact (by first | omega | (simp; done) | (simp; omega))) | ((with_reducible refine Below.setCell ?_ ?_ _); rotate_left; · exact (by first | omega | (simp; done) | (simp; omega))) | with_reducible refine Below.drew ?_ | assumption | exact Below.refl _ _ | refine Below.alloc ?_ (by first | omega | (simp; done) | (simp; omega)) _ | refine Below.setCell ?_ (by first | omega | (simp; done) | (simp; omega)) _ | refine Below.drew ?_)))) (hg'.keep (by (repeat (first | with_reducible assumption | with_reducible exact Below.refl _ _ | ((with_reducible refine Below.alloc ?_ ?_ _); rotate_left; · exact (by first | omega | (simp; done) | (simp; omega))) | ((with_reducible refine Below.setCell ?_ ?_ _); rotate_left; · exact (by first | omega | (simp; done) | (simp; omega))) | with_reducible refine Below.drew ?_ | assumption | exact Below.refl _ _ | refine Below.alloc ?_ (by first | omega | (simp; done) | (simp; omega)) _ | refine Below.setCell ?_ (by first | omega | (simp; done) | (simp; omega)) _ | refine Below.drew ?_))))).mono ?_
  rintro e w3 ⟨rfl, hb3⟩; obtain ⟨hc3, hf3⟩ := bcell hb3; have hz3 : w.heap.size < w3.heap.size := (by have := hb3.size; first | omega | (simp at this; omega)); have hy3 : w.heap.size < w3.heap.size + 1 := Nat.lt_succ_of_lt hz3; have hB3 : Below w.heap.size w w3 := bstep (by (repeat (first | with_reducible assumption | with_reducible exact Below.refl _ _ | ((with_reducible refine Below.alloc ?_ ?_ _); rotate_left; · exact (by first | omega | (simp; done) | (simp; omega))) | ((with_reducible refine Below.setCell ?_ ?_ _); rotate_left; · exact (by first | omega | (simp; done) | (simp; omega))) | with_reducible refine Below.drew ?_ | assumption | exact Below.refl _ _ | refine Below.alloc ?_ (by first | omega | (simp; done) | (simp; omega)) _ | refine Below.setCell ?_ (by first | omega | (simp; done) | (simp; omega)) _ | refine Below.drew ?_))) (by first | omega | (simp; done) | (simp; omega)) hb3
  try (have hz3b : w.heap.size + 1 < w3.heap.size := (by have := hb3.size; first | omega | (simp at this; omega))); try (have hne3b : w3.heap.size ≠ w.heap.size + 1 := by omega)
  go_wp2_with fail; refine (eqBox_any _ _ _ _ _).mono ?_; rintro e w4 ⟨rfl, hb4⟩; obtain ⟨hc4, hf4⟩ := bcell hb4; have hz4 : w.heap.size < w4.heap.size := (by have := hb4.size; first | omega | (simp at this; omega)); have hy4 : w.heap.size < w4.heap.size + 1 := Nat.lt_succ_of_lt hz4; have hB4 : Below w.heap.size w w4 := bstep (by (repeat (first | with_reducible assumption | with_reducible exact Below.refl _ _ | ((with_reducible refine Below.alloc ?_ ?_ _); rotate_left; · exact (by first | omega | (simp; done) | (simp; omega))) | ((with_reducible refine Below.setCell ?_ ?_ _); rotate_left; · exact (by first | omega | (simp; done) | (simp; omega))) | with_reducible refine Below.drew ?_ | assumption | exact Below.refl _ _ | refine Below.alloc ?_ (by first | omega | (simp; done) | (simp; omega)) _ | refine Below.setCell ?_ (by first | omega | (simp; done) | (simp; omega)) _ | refine Below.drew ?_))) (by first | omega | (simp; done) | (simp; omega)) hb4
  try (have hz4b : w.heap.size + 1 < w4.heap.size := (by have := hb4.size; first | omega | (simp at this; omega))); try (have hne4b : w4.heap.size ≠ w.heap.size + 1 := by omega)
  go_wp2
  go_ret
  exact ⟨rfl, by (repeat (first | with_reducible assumption | with_reducible exact Below.refl _ _ | ((with_reducible refine Below.alloc ?_ ?_ _); rotate_left; · exact (by first | omega | (simp; done) | (simp; omega))) | ((with_reducible refine Below.setCell ?_ ?_ _); rotate_left; · exact (by first | omega | (simp; done) | (simp; omega))) | with_reducible refine Below.drew ?_ | assumption | exact Below.refl _ _ | refine Below.alloc ?_ (by first | omega | (simp; done) | (simp; omega)) _ | refine Below.setCell ?_ (by first | omega | (simp; done) | (simp; omega)) _ | refine Below.drew ?_))⟩
set_option maxHeartbeats 400000 in
theorem szB (a : Option Addr) (n c : Nat) (m : Nat) (w : World) (h : n ≤ 9223372036854775807) (hm : m ≤ 1048576) : Calls Try.prog 67 #[.slice a n c, .int .i64 m] w fun e w' => e = .returned (.int .i64 (if n ≤ m then (m : Int) - n else -1)) ∧ w = w' := by
  by_cases h1 : n ≤ m
  · rw [if_pos h1]
    have d : decide ((m : Int) - n < 0) = false := decide_eq_false (by omega)
    go_enter Try.func67, Try.ntmps67
    go_wp2
    go_ret
    exact ⟨rfl, rfl⟩
  · rw [if_neg h1]
    have d : decide ((m : Int) - n < 0) = true := decide_eq_true (by omega)
    go_enter Try.func67, Try.ntmps67
    go_wp2
    go_ret
    exact ⟨rfl, rfl⟩
/-- a level is not too large for the laws -/
def Lv.fits (l : Lv) : Bool := decide (l.wn + l.gn ≤ 1048576)
/-- what is left of a million -/
def Left (m : Nat) (e : Ending) : Prop := ∃ z : Int, e = .returned (.int .i64 z) ∧ z = if m ≤ 1048576 then 1048576 - (m : Int) else -1
set_option maxHeartbeats 1000000 in
theorem szLevel_any (l : Lv) (w : World) (h1 : l.wn ≤ 9223372036854775807) (h2 : l.gn ≤ 9223372036854775807) : Calls Try.prog 28 #[.agg #[.int .i64 l.id, .int .i64 l.ticks, .int .i64 l.sx, .int .i64 l.sy, .slice l.wa l.wn l.wc, .slice l.ga l.gn l.gc, .int .i64 l.flx, .int .i64 l.fly, .int .i64 l.fhx, .int .i64 l.fhy, .int .i64 l.bans], .int .i64 1048576] w fun e w' => Left (l.wn + l.gn) e ∧ Below w.heap.size w w' := by
  obtain ⟨lid, lticks, lsx, lsy, wa, wn, wc, ga, gn, gc, flx, fly, fhx, fhy, bans, wf, gf⟩ := l
  simp only at h1 h2 ⊢
  by_cases h3 : wn ≤ 1048576
  · have e1 : (if wn ≤ 1048576 then ((1048576 : Nat) : Int) - wn else -1) = ((1048576 - wn : Nat) : Int) := by rw [if_pos h3]; omega
    go_enter Try.func28, Try.ntmps28
    go_wp2_with fail
    refine (szB _ _ _ 1048576 _ h1 (Nat.le_refl _)).mono ?_
    rintro e w' ⟨rfl, rfl⟩
    rw [e1]
    have d1 : decide (((1048576 - wn : Nat) : Int) < 0) = false := decide_eq_false (by omega)
    go_wp2_with fail
    refine (szB _ _ _ (1048576 - wn) _ h2 (by omega)).mono ?_
    rintro e w' ⟨rfl, rfl⟩
    by_cases h4 : gn ≤ 1048576 - wn
    · rw [if_pos h4]
      have d2 : decide (((1048576 - wn : Nat) : Int) - (gn : Int) < 0) = false := decide_eq_false (by omega)
      go_wp2
      go_ret
      exact ⟨⟨_, rfl, by rw [if_pos (by omega)]; omega⟩, by (repeat (first | with_reducible assumption | with_reducible exact Below.refl _ _ | ((with_reducible refine Below.alloc ?_ ?_ _); rotate_left; · exact (by first | omega | (simp; done) | (simp; omega))) | ((with_reducible refine Below.setCell ?_ ?_ _); rotate_left; · exact (by first | omega | (simp; done) | (simp; omega))) | with_reducible refine Below.drew ?_ | assumption | exact Below.refl _ _ | refine Below.alloc ?_ (by first | omega | (simp; done) | (simp; omega)) _ | refine Below.setCell ?_ (by first | omega | (simp; done) | (simp; omega)) _ | refine Below.drew ?_))⟩
    · rw [if_neg h4]
      go_wp2
      go_ret
      exact ⟨⟨_, rfl, by rw [if_neg (by omega)]⟩, by (repeat (first | with_reducible assumption | with_reducible exact Below.refl _ _ | ((with_reducible refine Below.alloc ?_ ?_ _); rotate_left; · exact (by first | omega | (simp; done) | (simp; omega))) | ((with_reducible refine Below.setCell ?_ ?_ _); rotate_left; · exact (by first | omega | (simp; done) | (simp; omega))) | with_reducible refine Below.drew ?_ | assumption | exact Below.refl _ _ | refine Below.alloc ?_ (by first | omega | (simp; done) | (simp; omega)) _ | refine Below.setCell ?_ (by first | omega | (simp; done) | (simp; omega)) _ | refine Below.drew ?_))⟩
  · have e1 : (if wn ≤ 1048576 then ((1048576 : Nat) : Int) - wn else -1) = -1 := by rw [if_neg h3]
    go_enter Try.func28, Try.ntmps28
    go_wp2_with fail
    refine (szB _ _ _ 1048576 _ h1 (Nat.le_refl _)).mono ?_
    rintro e w' ⟨rfl, rfl⟩
    rw [e1]
    go_wp2
    go_ret
    exact ⟨⟨_, rfl, by rw [if_neg (by omega)]⟩, by (repeat (first | with_reducible assumption | with_reducible exact Below.refl _ _ | ((with_reducible refine Below.alloc ?_ ?_ _); rotate_left; · exact (by first | omega | (simp; done) | (simp; omega))) | ((with_reducible refine Below.setCell ?_ ?_ _); rotate_left; · exact (by first | omega | (simp; done) | (simp; omega))) | with_reducible refine Below.drew ?_ | assumption | exact Below.refl _ _ | refine Below.alloc ?_ (by first | omega | (simp; done) | (simp; omega)) _ | refine Below.setCell ?_ (by first | omega | (simp; done) | (simp; omega)) _ | refine Below.drew ?_))⟩
end Go.Proofs.Ytnhjalijnociaaa

/- The walks of FnExactLevelValid, FnExactLevelFree, FnExactLevelBans. -/
set_option linter.unusedVariables false
namespace Go.Proofs.Ytnhjalijnociaaa
open Go.RowKit

theorem re_ok (l : Lv) (wa : Option Addr) (wc : Nat) (ga : Option Addr) (gc : Nat) : (l.re wa wc ga gc).ok = l.ok := rfl
theorem re_bansB (l : Lv) (wa : Option Addr) (wc : Nat) (ga : Option Addr) (gc : Nat) (n : Int) : (l.re wa wc ga gc).bansB n = l.bansB n := rfl
theorem re_freeB (l : Lv) (wa : Option Addr) (wc : Nat) (ga : Option Addr) (gc : Nat) (x y : Int) : ((l.re wa wc ga gc).ok && vokB x y && frB (l.re wa wc ga gc).wf x y (l.re wa wc ga gc).wn) = (l.ok && vokB x y && frB l.wf x y l.wn) := rfl
/-- a level that came in -/
def LvIn (w : World) (l : Lv) : Prop := LvAt w l ∧ l.wn ≤ maxLen ∧ l.gn ≤ maxLen

end Go.Proofs.Ytnhjalijnociaaa

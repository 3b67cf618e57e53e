/- What the laws on levels draw. -/
import Derived.Test.YtnhjalijnociaaaQah
/- What the laws on levels draw. -/
set_option linter.unusedVariables false
set_option linter.unusedSimpArgs false
namespace Go.Proofs.Ytnhjalijnociaaa
open Go.RowKit

theorem res_row_tmp {P : Program} {fn : Func} {p u : Tmp} {ty : TypeId} {tmps : Array Value} {w : World} {g : Nat} {cs : Array Value} {d : TypeDesc} {v : Value} (h : fn.results = #[.cell p ty, .tmp u]) (hp : tmps.getD p undef = .pointer (some ⟨g, 0, none⟩)) (hb : Blk w g cs)
    (hu : P.underlying ty = some d) (hd : (match d with | .struct _ | .array _ _ => true | _ => false) = true) (hi : (P.info? ty).map (·.size) = some cs.size) (hv : tmps.getD u undef = v) : (results fn tmps).run P w = .ok (.tuple #[.agg cs, v]) w := by
  obtain ⟨t0, hg⟩ := hb
  have hp' : tmps[p]?.getD undef = .pointer (some ⟨g, 0, none⟩) := by simpa using hp
  have hv' : tmps[u]?.getD undef = v := by simpa using hv
  simp [results, h, hp', hv', asAddr, run_loadVar_row w g t0 ty cs (0, 0) d hg hu hd hi]
theorem res_row_row {P : Program} {fn : Func} {p q : Tmp} {ty ty2 : TypeId} {tmps : Array Value} {w : World} {g g2 : Nat} {cs cs2 : Array Value} {d d2 : TypeDesc} (h : fn.results = #[.cell p ty, .cell q ty2]) (hp : tmps.getD p undef = .pointer (some ⟨g, 0, none⟩)) (hb : Blk w g cs)
    (hu : P.underlying ty = some d) (hd : (match d with | .struct _ | .array _ _ => true | _ => false) = true) (hi : (P.info? ty).map (·.size) = some cs.size) (hp2 : tmps.getD q undef = .pointer (some ⟨g2, 0, none⟩)) (hb2 : Blk w g2 cs2)
    (hu2 : P.underlying ty2 = some d2) (hd2 : (match d2 with | .struct _ | .array _ _ => true | _ => false) = true) (hi2 : (P.info? ty2).map (·.size) = some cs2.size) : (results fn tmps).run P w = .ok (.tuple #[.agg cs, .agg cs2]) w := by
  obtain ⟨t0, hg⟩ := hb
  obtain ⟨t2, hg2⟩ := hb2
  have hp' : tmps[p]?.getD undef = .pointer (some ⟨g, 0, none⟩) := by simpa using hp
  have hp2' : tmps[q]?.getD undef = .pointer (some ⟨g2, 0, none⟩) := by simpa using hp2
  simp [results, h, hp', hp2', asAddr, run_loadVar_row w g t0 ty cs (0, 0) d hg hu hd hi, run_loadVar_row w g2 t2 ty2 cs2 (0, 0) d2 hg2 hu2 hd2 hi2]
theorem res_row3 {P : Program} {fn : Func} {p q r : Tmp} {ty ty2 ty3 : TypeId} {tmps : Array Value} {w : World} {g g2 g3 : Nat} {cs cs2 cs3 : Array Value} {d d2 d3 : TypeDesc} (h : fn.results = #[.cell p ty, .cell q ty2, .cell r ty3]) (hp : tmps.getD p undef = .pointer (some ⟨g, 0, none⟩)) (hb : Blk w g cs)
    (hu : P.underlying ty = some d) (hd : (match d with | .struct _ | .array _ _ => true | _ => false) = true) (hi : (P.info? ty).map (·.size) = some cs.size) (hp2 : tmps.getD q undef = .pointer (some ⟨g2, 0, none⟩)) (hb2 : Blk w g2 cs2)
    (hu2 : P.underlying ty2 = some d2) (hd2 : (match d2 with | .struct _ | .array _ _ => true | _ => false) = true) (hi2 : (P.info? ty2).map (·.size) = some cs2.size) (hp3 : tmps.getD r undef = .pointer (some ⟨g3, 0, none⟩)) (hb3 : Blk w g3 cs3)
    (hu3 : P.underlying ty3 = some d3) (hd3 : (match d3 with | .struct _ | .array _ _ => true | _ => false) = true) (hi3 : (P.info? ty3).map (·.size) = some cs3.size) : (results fn tmps).run P w = .ok (.tuple #[.agg cs, .agg cs2, .agg cs3]) w := by
  obtain ⟨t0, hg⟩ := hb
  obtain ⟨t2, hg2⟩ := hb2
  obtain ⟨t3, hg3⟩ := hb3
  have hp' : tmps[p]?.getD undef = .pointer (some ⟨g, 0, none⟩) := by simpa using hp
  have hp2' : tmps[q]?.getD undef = .pointer (some ⟨g2, 0, none⟩) := by simpa using hp2
  have hp3' : tmps[r]?.getD undef = .pointer (some ⟨g3, 0, none⟩) := by simpa using hp3
  simp [results, h, hp', hp2', hp3', asAddr, run_loadVar_row w g t0 ty cs (0, 0) d hg hu hd hi, run_loadVar_row w g2 t2 ty2 cs2 (0, 0) d2 hg2 hu2 hd2 hi2, run_loadVar_row w g3 t3 ty3 cs3 (0, 0) d3 hg3 hu3 hd3 hi3]
/-- cells stored one by one -/
def sets (A : Nat) : List Value → Nat → World → World
  | [], _, w => w
  | v :: vs, k, w => sets A vs (k + 1) (w.setCell ⟨A, k, none⟩ v)
theorem sets_up (A B : Nat) : ∀ (vs : List Value) (k : Nat) (w : World), Up A B w (sets A vs k w)
  | [], _, w => Up.refl _ _ w
  | v :: vs, k, w => ((Up.refl A B w).setCell (p := ⟨A, k, none⟩) (.inl rfl) v).trans (sets_up A B vs (k + 1) _)
/-- a level drawn by a law -/
def DrawnLv (w : World) (e : Ending) (w' : World) : Prop := ∃ (l : Lv) (R : Nat), e = .returned (.agg #[.int .i64 l.id, .int .i64 l.ticks, .int .i64 l.sx, .int .i64 l.sy, .slice l.wa l.wn l.wc, .slice l.ga l.gn l.gc, .int .i64 l.flx, .int .i64 l.fly, .int .i64 l.fhx, .int .i64 l.fhy, .int .i64 l.bans]) ∧ w.heap.size ≤ R ∧ LvR w' R l ∧ l.sm 6 ∧ Below w.heap.size w w'
set_option maxRecDepth 100000 in
set_option maxHeartbeats 2000000 in
theorem dLevelValid (a : Option Addr) (len cap : Nat) (zs : List Int) (w : World) (h : IsRow .u8 w a len cap zs) : Calls Try.prog 83 #[.slice a len cap] w (DrawnLv w) := by
  go_enter Try.func83, Try.ntmps83
  go_wp2_with fail
  refine (open_any _ _ _ _ _ (h.keep (by (repeat (first | with_reducible assumption | with_reducible exact Below.refl _ _ | ((with_reducible refine Below.alloc ?_ ?_ _); rotate_left; · exact (by first | omega | (simp; done) | (simp; omega))) | ((with_reducible refine Below.setCell ?_ ?_ _); rotate_left; · exact (by first | omega | (simp; done) | (simp; omega))) | with_reducible refine Below.drew ?_ | assumption | exact Below.refl _ _ | refine Below.alloc ?_ (by first | omega | (simp; done) | (simp; omega)) _ | refine Below.setCell ?_ (by first | omega | (simp; done) | (simp; omega)) _ | refine Below.drew ?_))))).mono ?_
  rintro e w1 ⟨R, rfl, hR0, hr1, hb1⟩
  have hR : w.heap.size < R := by simp at hR0; omega
  have Z1 : Blk w1 w.heap.size #[.int .i64 0, .int .i64 0, .int .i64 0, .int .i64 0, .slice none 0 0, .slice none 0 0, .int .i64 0, .int .i64 0, .int .i64 0, .int .i64 0, .int .i64 0] := (Blk.at rfl).below hb1 (by simp)
  have hU1 : Up R w.heap.size w w1 := Up.of_below (bstep (by (repeat (first | with_reducible assumption | with_reducible exact Below.refl _ _ | ((with_reducible refine Below.alloc ?_ ?_ _); rotate_left; · exact (by first | omega | (simp; done) | (simp; omega))) | ((with_reducible refine Below.setCell ?_ ?_ _); rotate_left; · exact (by first | omega | (simp; done) | (simp; omega))) | with_reducible refine Below.drew ?_ | assumption | exact Below.refl _ _ | refine Below.alloc ?_ (by first | omega | (simp; done) | (simp; omega)) _ | refine Below.setCell ?_ (by first | omega | (simp; done) | (simp; omega)) _ | refine Below.drew ?_))) (by first | omega | (simp; done) | (simp; omega)) hb1)
  have hne : w.heap.size ≠ R := by omega
  have hRl := hr1.lt
  go_wp2_with fail
  refine (lLevel_any R 0 _ hr1 (by omega)).mono ?_
  rintro e w2 ⟨l2, k2, rfl, hl2, hs2, hk1, hk2, hr2, hu2⟩
  have Z2 := Z1.up hu2 Z1.lt hne
  have hU2 : Up R w.heap.size w w2 := hU1.trans (hu2.mono hU1.size)
  go_wp2_with fail
  refine (lBent_any R k2 l2 _ hr2 (by omega) hl2 hs2).mono ?_
  rintro e w3 ⟨l, k3, rfl, hl3, hs3, hk3, hk4, hr3, hu3⟩
  have Z3 := Z2.up hu3 Z2.lt hne
  have hU3 : Up R w.heap.size w w3 := hU2.trans (hu3.mono hU2.size)
  obtain ⟨q0, q1, q2, q3, q4, q5, q6, q7, q8, q9, q10⟩ := Z3.c11
  have qf := Z3.frozen
  clear Z1 Z2 hU1 hU2 hu2 hu3 hb1 hr1 hr2 hl2 hs2
  have ZF := (((((((((((Z3.s11_0 (.int .i64 l.id)).s11_1 (.int .i64 l.ticks)).s11_2 (.int .i64 l.sx)).s11_3 (.int .i64 l.sy)).s11_4 (.slice l.wa l.wn l.wc)).s11_5 (.slice l.ga l.gn l.gc)).s11_6 (.int .i64 l.flx)).s11_7 (.int .i64 l.fly)).s11_8 (.int .i64 l.fhx)).s11_9 (.int .i64 l.fhy)).s11_10 (.int .i64 l.bans))
  have hA := sets_up w.heap.size w3.heap.size [.int .i64 l.id, .int .i64 l.ticks, .int .i64 l.sx, .int .i64 l.sy, .slice l.wa l.wn l.wc, .slice l.ga l.gn l.gc, .int .i64 l.flx, .int .i64 l.fly, .int .i64 l.fhx, .int .i64 l.fhy, .int .i64 l.bans] 0 w3
  go_wp2
  refine bodyPost_ret (res_row rfl rfl ZF Try.underlying29 rfl (by kernel_rfl)) rfl ?_
  exact ⟨l, R, rfl, by omega, hl3.set hA (by omega), hs3, (hU3.trans (hA.shift (Nat.le_refl _) hU3.size)).below (by omega)⟩
end Go.Proofs.Ytnhjalijnociaaa

/- The state of a run at a tick, by the reference. -/
import Derived.Test.YtnhjalijnociaaaQay
/- The state of a run at a tick, by the reference. -/
set_option linter.unusedVariables false
set_option linter.unusedSimpArgs false
namespace Go.Proofs.Ytnhjalijnociaaa
open Go.RowKit

/-- the variables: the level, the result, the state -/
structure TN (w0 : World) (l : Lv) (P : Nat) (s : St) (w : World) : Prop where
  L : Blk w w0.heap.size #[.int .i64 l.id, .int .i64 l.ticks, .int .i64 l.sx, .int .i64 l.sy, .slice l.wa l.wn l.wc, .slice l.ga l.gn l.gc, .int .i64 l.flx, .int .i64 l.fly, .int .i64 l.fhx, .int .i64 l.fhy, .int .i64 l.bans]
  Z : Blk w (w0.heap.size + 1) #[.int .i64 0, .int .i64 0, .int .i64 0, .int .i64 0, .int .i64 0, .int .i64 0, .int .i64 0, .bool false, .bool false]
  T : Blk w P #[.int .i64 s.tick, .int .i64 s.ax, .int .i64 s.ay, .int .i64 s.fx, .int .i64 s.fy, .int .i64 s.turn, .int .i64 s.gate, .bool s.done, .bool s.over]
  bel : Below w0.heap.size w0 w
  hP : w0.heap.size + 1 < P
section
variable {w0 w w' : World} {l : Lv} {P : Nat} {s : St}
theorem TN.pass (h : TN w0 l P s w) (hb : Below w.heap.size w w') : TN w0 l P s w' := ⟨h.L.below hb h.L.lt, h.Z.below hb h.Z.lt, h.T.below hb h.T.lt, h.bel.trans (hb.mono h.bel.size), h.hP⟩
theorem TN.drew (h : TN w0 l P s w) : TN w0 l P s w.drew := ⟨h.L, h.Z, h.T, h.bel.drew, h.hP⟩
theorem TN.row (h : TN w0 l P s w) (s2 : St) : TN w0 l P s2 (w.setRow P #[.int .i64 s2.tick, .int .i64 s2.ax, .int .i64 s2.ay, .int .i64 s2.fx, .int .i64 s2.fy, .int .i64 s2.turn, .int .i64 s2.gate, .bool s2.done, .bool s2.over]) := by
  have e := h.hP
  exact ⟨h.L.rowOther (by omega) _, h.Z.rowOther (by omega) _, h.T.row _, Below.setRow h.bel (by omega) _, h.hP⟩
end
set_option maxRecDepth 100000 in
set_option maxHeartbeats 4000000 in
theorem lTo (l : Lv) (a : Option Addr) (m c n : Nat) (f : Nat → Inp) (w : World) (hn : l.wn ≤ 4) (hgn : l.gn ≤ 4) (hl : LvAt w l) (hv : bxsB l.wf l.wn = true) (hs : vokB l.sx l.sy = true) (hx : InsAt w a m f) (hm : m ≤ 500) (hnm : n ≤ m) (hf : ∀ i, i < m → -10 ≤ (f i).s ∧ (f i).s ≤ 10) : Calls Try.prog 98 #[.agg #[.int .i64 l.id, .int .i64 l.ticks, .int .i64 l.sx, .int .i64 l.sy, .slice l.wa l.wn l.wc, .slice l.ga l.gn l.gc, .int .i64 l.flx, .int .i64 l.fly, .int .i64 l.fhx, .int .i64 l.fhy, .int .i64 l.bans], .slice a m c, .int .i64 (n : Int)] w fun e w' => ∃ s : St, e = .returned (.agg #[.int .i64 s.tick, .int .i64 s.ax, .int .i64 s.ay, .int .i64 s.fx, .int .i64 s.fy, .int .i64 s.turn, .int .i64 s.gate, .bool s.done, .bool s.over]) ∧ Below w.heap.size w w' := by
  go_enter Try.func98, Try.ntmps98
  go_wp2_with fail
  refine (sStart0 l _).mono ?_
  rintro e w1 ⟨rfl, hb1⟩
  have L1 : Blk w1 w.heap.size #[.int .i64 l.id, .int .i64 l.ticks, .int .i64 l.sx, .int .i64 l.sy, .slice l.wa l.wn l.wc, .slice l.ga l.gn l.gc, .int .i64 l.flx, .int .i64 l.fly, .int .i64 l.fhx, .int .i64 l.fhy, .int .i64 l.bans] := ((Blk.at rfl).alloc _).below hb1 (by simp; omega)
  have Z1 : Blk w1 (w.heap.size + 1) #[.int .i64 0, .int .i64 0, .int .i64 0, .int .i64 0, .int .i64 0, .int .i64 0, .int .i64 0, .bool false, .bool false] := (Blk.at (by simp)).below hb1 (by simp)
  have B1 : Below w.heap.size w w1 := bstep (by (repeat (first | with_reducible assumption | with_reducible exact Below.refl _ _ | ((with_reducible refine Below.alloc ?_ ?_ _); rotate_left; · exact (by first | omega | (simp; done) | (simp; omega))) | ((with_reducible refine Below.setCell ?_ ?_ _); rotate_left; · exact (by first | omega | (simp; done) | (simp; omega))) | with_reducible refine Below.drew ?_ | assumption | exact Below.refl _ _ | refine Below.alloc ?_ (by first | omega | (simp; done) | (simp; omega)) _ | refine Below.setCell ?_ (by first | omega | (simp; done) | (simp; omega)) _ | refine Below.drew ?_))) (by first | omega | (simp; done) | (simp; omega)) hb1
  have I1 : TN w l w1.heap.size ⟨0, l.sx, l.sy, 0, 0, 0, 0, false, false⟩ (w1.alloc (.cells #[.int .i64 0, .int .i64 l.sx, .int .i64 l.sy, .int .i64 0, .int .i64 0, .int .i64 0, .int .i64 0, .bool false, .bool false] 31)) := ⟨L1.alloc _, Z1.alloc _, Blk.at rfl, B1.alloc B1.size _, Z1.lt⟩
  clear hb1 L1 Z1 B1
  go_wp2_with fail
  go_loopw [8] (fun iv wr => ∃ (j : Nat) (s : St), iv = .int .i64 j ∧ j ≤ n ∧ s.Go l ∧ (0 ≤ s.tick ∧ s.tick ≤ j) ∧ TN w l w1.heap.size s wr) (fun iv _ => n - (intOf iv).toNat)
  case atStart => exact ⟨0, _, rfl, Nat.zero_le _, St.Go.start hs, ⟨by simp only; omega, by simp only; omega⟩, I1⟩
  case round =>
    obtain ⟨j, s, rfl, hj, hS, ⟨s0, s1⟩, I2⟩ := hrel
    clear I1
    generalize w1.heap.size = P at *
    by_cases hlt : j < n
    · have hq : (j : Int) < (n : Int) := by omega
      have q1 : (0 : Int) ≤ (j : Int) := by omega
      have q2 : (j : Int) < (m : Int) := by omega
      obtain ⟨f1, f2⟩ := hf j (by omega)
      have hx2 := hx.keep I2.bel
      obtain ⟨bb, off, rfl, hbl, hcs⟩ := hx2.resolve_left (by omega)
      obtain ⟨e0, e1, e2⟩ := hcs j (by omega)
      have hX := Lib.hid hx
      have hC := Lib.hid hcs
      have hF := Lib.hid hf
      clear hx hx2 hcs hf
      go_wp2_with fail
      have I3 := I2.drew
      refine wp_region_cut 7 (by kernel_rfl) (by kernel_rfl) (S := fun W => (W.cell? ⟨w.heap.size, 0, none⟩ = some (.int .i64 l.id) ∧ W.cell? ⟨w.heap.size, 1, none⟩ = some (.int .i64 l.ticks) ∧ W.cell? ⟨w.heap.size, 2, none⟩ = some (.int .i64 l.sx) ∧ W.cell? ⟨w.heap.size, 3, none⟩ = some (.int .i64 l.sy) ∧ W.cell? ⟨w.heap.size, 4, none⟩ = some (.slice l.wa l.wn l.wc) ∧ W.cell? ⟨w.heap.size, 5, none⟩ = some (.slice l.ga l.gn l.gc) ∧ W.cell? ⟨w.heap.size, 6, none⟩ = some (.int .i64 l.flx) ∧ W.cell? ⟨w.heap.size, 7, none⟩ = some (.int .i64 l.fly) ∧ W.cell? ⟨w.heap.size, 8, none⟩ = some (.int .i64 l.fhx) ∧ W.cell? ⟨w.heap.size, 9, none⟩ = some (.int .i64 l.fhy) ∧ W.cell? ⟨w.heap.size, 10, none⟩ = some (.int .i64 l.bans)) ∧ (W.cell? ⟨P, 0, none⟩ = some (.int .i64 s.tick) ∧ W.cell? ⟨P, 1, none⟩ = some (.int .i64 s.ax) ∧ W.cell? ⟨P, 2, none⟩ = some (.int .i64 s.ay) ∧ W.cell? ⟨P, 3, none⟩ = some (.int .i64 s.fx) ∧ W.cell? ⟨P, 4, none⟩ = some (.int .i64 s.fy) ∧ W.cell? ⟨P, 5, none⟩ = some (.int .i64 s.turn) ∧ W.cell? ⟨P, 6, none⟩ = some (.int .i64 s.gate) ∧ W.cell? ⟨P, 7, none⟩ = some (.bool s.done) ∧ W.cell? ⟨P, 8, none⟩ = some (.bool s.over)) ∧ W.cell? ⟨bb, off + j * 3, none⟩ = some (.int .i64 (f j).s) ∧ W.cell? ⟨bb, off + j * 3 + 1, none⟩ = some (.int .i64 (f j).p) ∧ W.cell? ⟨bb, off + j * 3 + 2, none⟩ = some (.bool (f j).b)) ⟨I3.L.c11, I3.T.c9, e0, e1, e2⟩ (fun hHeld => ?_)
      simp only [List.take_succ_cons, List.take_zero]
      (refine wpAnyH_take (i := 0) (v := ?_) rfl (by kernel_rfl) (by kernel_rfl) (by kernel_rfl) (fun _ _ _ h => h) (Or.inl ⟨by rfl, ?_⟩) (by assumption) ?_; rotate_left; · (intro w hSw; (try dsimp only at hSw); go_simp; (try with_reducible rfl))); (try simp only [Act.put, List.setIfInBounds_toArray, List.set_cons_zero, List.set_cons_succ])
      (refine wpAnyH_take (i := 1) (v := ?_) rfl (by kernel_rfl) (by kernel_rfl) (by kernel_rfl) (fun _ _ _ h => h) (Or.inl ⟨by rfl, ?_⟩) (by assumption) ?_; rotate_left; · (intro w hSw; (try dsimp only at hSw); go_simp; (try with_reducible rfl))); (try simp only [Act.put, List.setIfInBounds_toArray, List.set_cons_zero, List.set_cons_succ])
      (refine wpAnyH_take (i := 2) (v := ?_) rfl (by kernel_rfl) (by kernel_rfl) (by kernel_rfl) (fun _ _ _ h => h) (Or.inl ⟨by rfl, ?_⟩) (by assumption) ?_; rotate_left; · (intro w hSw; (try dsimp only at hSw); go_simp; (try with_reducible rfl))); (try simp only [Act.put, List.setIfInBounds_toArray, List.set_cons_zero, List.set_cons_succ])
      (refine wpAnyH_take (i := 3) (v := ?_) rfl (by kernel_rfl) (by kernel_rfl) (by kernel_rfl) (fun _ _ _ h => h) (Or.inl ⟨by rfl, ?_⟩) (by assumption) ?_; rotate_left; · (intro w hSw; (try dsimp only at hSw); go_simp; (try with_reducible rfl))); (try simp only [Act.put, List.setIfInBounds_toArray, List.set_cons_zero, List.set_cons_succ])
      (refine wpAnyH_take (i := 4) (v := ?_) rfl (by kernel_rfl) (by kernel_rfl) (by kernel_rfl) (fun _ _ _ h => h) (Or.inl ⟨by rfl, ?_⟩) (by assumption) ?_; rotate_left; · (intro w hSw; (try dsimp only at hSw); go_simp; (try with_reducible rfl))); (try simp only [Act.put, List.setIfInBounds_toArray, List.set_cons_zero, List.set_cons_succ])
      (refine wpAnyH_take (i := 5) (v := ?_) rfl (by kernel_rfl) (by kernel_rfl) (by kernel_rfl) (fun _ _ _ h => h) (Or.inl ⟨by rfl, ?_⟩) (by assumption) ?_; rotate_left; · (intro w hSw; (try dsimp only at hSw); go_simp; (try with_reducible rfl))); (try simp only [Act.put, List.setIfInBounds_toArray, List.set_cons_zero, List.set_cons_succ])
      refine wpAnyH_ready (rs := [6]) (by kernel_rfl) (by simp) ?_; refine AllReadyH.cons rfl (fun K hK => ?_) AllReadyH.nil; (try simp only [List.getElem_toArray, List.getElem_cons_succ, List.getElem_cons_zero])
      go_simp
      go_at_call 63
      refine (sTick l s (f j).s (f j).p (f j).b _ (by omega) (hl.keep I3.bel) hv hS.ha hS.hf hS.t0 hS.t1 hS.g0 (by have := hS.g1; omega) (by omega) (by omega) (by omega) (by omega)).mono ?_
      obtain ⟨hS2, s2, s3⟩ := hS.step (f j).s (f j).p (f j).b
      generalize stepF l s (f j).s (f j).p (f j).b = S2 at *
      rintro e w4 ⟨rfl, hb4⟩
      have I4 := I3.pass hb4
      have x0 := (hb4.cell (p := ⟨bb, off + j * 3, none⟩) hbl).trans e0
      have x1 := (hb4.cell (p := ⟨bb, off + j * 3 + 1, none⟩) hbl).trans e1
      have x2 := (hb4.cell (p := ⟨bb, off + j * 3 + 2, none⟩) hbl).trans e2
      clear I2 I3 hb4
      go_wp2_with fail
      refine hK.out _ _ (⟨I4.L.c11, I4.T.c9, x0, x1, x2⟩) (fun hHeld => ?_); clear hK K; (try simp only [Act.put, List.setIfInBounds_toArray, List.set_cons_zero, List.set_cons_succ])
      refine wpAnyH_done (by kernel_rfl) ?_ _
      simp only [TailQ, List.drop_succ_cons, List.drop_zero]
      clear hHeld
      refine st_row rfl rfl I4.T (by kernel_rfl) rfl (by simp [Value.oneCell']) ?_
      refine wpList_nil ?_
      have I5 := I4.row S2
      generalize w4.setRow P #[.int .i64 S2.tick, .int .i64 S2.ax, .int .i64 S2.ay, .int .i64 S2.fx, .int .i64 S2.fy, .int .i64 S2.turn, .int .i64 S2.gate, .bool S2.done, .bool S2.over] = w5 at *
      clear I4 x0 x1 x2 e0 e1 e2
      go_wp2
      go_roundw
      case rel => exact ⟨j + 1, S2, by go_num, by omega, hS2, ⟨by omega, by omega⟩, I5⟩
      case measure => simp [intOf]; omega
    · obtain rfl : j = n := by omega
      have hS2 := Lib.hid I2.T
      have hZ2 := Lib.hid I2.Z
      have hBB := Lib.hid I2.bel
      have hRR := Lib.hid (I2.Z.row #[.int .i64 s.tick, .int .i64 s.ax, .int .i64 s.ay, .int .i64 s.fx, .int .i64 s.fy, .int .i64 s.turn, .int .i64 s.gate, .bool s.done, .bool s.over])
      clear I2
      go_upto_region 6 with fail
      refine wp_copy (ty := 31) rfl hS2.out Try.underlying31 rfl (by kernel_rfl) rfl rfl hZ2.out rfl (by simp [Value.oneCell']) ?_
      rename_i K hK
      refine hK _ _ (wp_ret ?_)
      refine bodyPost_ret (res_row rfl rfl hRR.out Try.underlying31 rfl (by kernel_rfl)) rfl ?_
      exact ⟨s, rfl, Below.setRow hBB.out (by omega) _⟩
end Go.Proofs.Ytnhjalijnociaaa

/- The state of a run, drawn. -/
set_option linter.unusedVariables false
set_option linter.unusedSimpArgs false
namespace Go.Proofs.Ytnhjalijnociaaa
open Go.RowKit

/-- the variables while the inputs are drawn: the level, the result, the inputs -/
structure ZN (w0 : World) (R k : Nat) (l : Lv) (g cap n : Nat) (f : Nat → Inp) (w : World) : Prop where
  rd : Rd w R k
  up : Up R w0.heap.size w0 w
  L : Blk w w0.heap.size #[.int .i64 l.id, .int .i64 l.ticks, .int .i64 l.sx, .int .i64 l.sy, .slice l.wa l.wn l.wc, .slice l.ga l.gn l.gc, .int .i64 l.flx, .int .i64 l.fly, .int .i64 l.fhx, .int .i64 l.fhy, .int .i64 l.bans]
  Z : Blk w (w0.heap.size + 1) #[.int .i64 0, .int .i64 0, .int .i64 0, .int .i64 0, .int .i64 0, .int .i64 0, .int .i64 0, .bool false, .bool false]
  O : RowI w g cap n f
  hR : R < w0.heap.size
  hg : w0.heap.size + 1 < g
/-- .. and then: the state -/
structure SN (w0 : World) (R k : Nat) (P : Nat) (cs : Array Value) (w : World) : Prop where
  rd : Rd w R k
  up : Up R w0.heap.size w0 w
  Z : Blk w (w0.heap.size + 1) #[.int .i64 0, .int .i64 0, .int .i64 0, .int .i64 0, .int .i64 0, .int .i64 0, .int .i64 0, .bool false, .bool false]
  T : Blk w P cs
  hR : R < w0.heap.size
  hP : w0.heap.size + 1 < P
section
variable {w0 w w' : World} {R k k' : Nat} {l : Lv} {g cap n P : Nat} {f : Nat → Inp} {cs : Array Value}
theorem ZN.pass (h : ZN w0 R k l g cap n f w) (hr : Rd w' R k') (hu : Up R w.heap.size w w') : ZN w0 R k' l g cap n f w' := by
  have e := h.hR
  have e2 := h.hg
  exact ⟨hr, h.up.trans (hu.mono h.up.size), h.L.up hu h.L.lt (by omega), h.Z.up hu h.Z.lt (by omega), h.O.up hu h.O.lt (by omega), h.hR, h.hg⟩
theorem ZN.passB (h : ZN w0 R k l g cap n f w) (hb : Below w.heap.size w w') : ZN w0 R k l g cap n f w' := h.pass (h.rd.keep (hb.mono h.rd.lt)) (Up.of_below hb)
theorem ZN.drew (h : ZN w0 R k l g cap n f w) : ZN w0 R k l g cap n f w.drew := ⟨h.rd, h.up.drew, h.L, h.Z, h.O, h.hR, h.hg⟩
theorem ZN.seal (h : ZN w0 R k l g cap n f w) {c : Array Value} (hT : Blk w P c) (hP : w0.heap.size + 1 < P) : SN w0 R k P cs (w.setRow P cs) := by
  have e := h.hR
  exact ⟨h.rd.keep (Below.setRow (Below.refl _ _) (by omega) _), h.up.trans (Up.of_below (Below.setRow (Below.refl _ _) (by omega) _)), h.Z.rowOther (by omega) _, hT.row _, h.hR, hP⟩
theorem SN.pass (h : SN w0 R k P cs w) (hr : Rd w' R k') (hu : Up R w.heap.size w w') : SN w0 R k' P cs w' := by
  have e := h.hR
  have e2 := h.hP
  exact ⟨hr, h.up.trans (hu.mono h.up.size), h.Z.up hu h.Z.lt (by omega), h.T.up hu h.T.lt (by omega), h.hR, h.hP⟩
theorem SN.set (h : SN w0 R k P cs w) (i : Nat) (v : Value) : SN w0 R k P (cs.setIfInBounds i v) (w.setCell ⟨P, i, none⟩ v) := by
  have e := h.hR
  have e2 := h.hP
  exact ⟨h.rd.keep (Below.setCell (p := ⟨P, i, none⟩) (Below.refl _ _) (by simp only; omega) _), h.up.setCell (p := ⟨P, i, none⟩) (.inr (by simp only; omega)) _, h.Z.other (by simp only; omega) _, h.T.set i v, h.hR, h.hP⟩
theorem SN.done (h : SN w0 R k P cs w) (c : Array Value) : Rd (w.setRow (w0.heap.size + 1) c) R k ∧ Up R w0.heap.size w0 (w.setRow (w0.heap.size + 1) c) := by
  have e := h.hR
  exact ⟨h.rd.keep (Below.setRow (Below.refl _ _) (by omega) _), h.up.trans (Up.of_below (Below.setRow (Below.refl _ _) (by omega) _))⟩
end
/-- a state drawn -/
def DrawnState (R k c : Nat) (w : World) (e : Ending) (w' : World) : Prop :=
  ∃ (s : St) (k' : Nat), e = .returned (.agg #[.int .i64 s.tick, .int .i64 s.ax, .int .i64 s.ay, .int .i64 s.fx, .int .i64 s.fy, .int .i64 s.turn, .int .i64 s.gate, .bool s.done, .bool s.over]) ∧ k ≤ k' ∧ k' ≤ k + c ∧ Rd w' R k' ∧ Up R w.heap.size w w'
set_option maxRecDepth 100000 in
set_option maxHeartbeats 8000000 in
theorem lState (R k : Nat) (l : Lv) (w : World) (hr : Rd w R k) (hk : k < 840000) (hn : l.wn ≤ 4) (hgn : l.gn ≤ 4) (n0 : 0 ≤ l.bans) (n3 : l.bans ≤ 3) (hl : LvR w R l) (hbv : bxsB l.wf l.wn = true) (hs : vokB l.sx l.sy = true) : Calls Try.prog 57 #[.pointer (some ⟨R, 0, none⟩), .agg #[.int .i64 l.id, .int .i64 l.ticks, .int .i64 l.sx, .int .i64 l.sy, .slice l.wa l.wn l.wc, .slice l.ga l.gn l.gc, .int .i64 l.flx, .int .i64 l.fly, .int .i64 l.fhx, .int .i64 l.fhy, .int .i64 l.bans]] w (DrawnState R k 300 w) := by
  have hR := hr.lt
  go_enter Try.func57, Try.ntmps57
  go_wp2_with fail
  have hb0 : Below w.heap.size w ((w.alloc (.cells #[.int .i64 l.id, .int .i64 l.ticks, .int .i64 l.sx, .int .i64 l.sy, .slice l.wa l.wn l.wc, .slice l.ga l.gn l.gc, .int .i64 l.flx, .int .i64 l.fly, .int .i64 l.fhx, .int .i64 l.fhy, .int .i64 l.bans] 29)).alloc (.cells #[.int .i64 0, .int .i64 0, .int .i64 0, .int .i64 0, .int .i64 0, .int .i64 0, .int .i64 0, .bool false, .bool false] 31)) := by (repeat (first | with_reducible assumption | with_reducible exact Below.refl _ _ | ((with_reducible refine Below.alloc ?_ ?_ _); rotate_left; · exact (by first | omega | (simp; done) | (simp; omega))) | ((with_reducible refine Below.setCell ?_ ?_ _); rotate_left; · exact (by first | omega | (simp; done) | (simp; omega))) | with_reducible refine Below.drew ?_ | assumption | exact Below.refl _ _ | refine Below.alloc ?_ (by first | omega | (simp; done) | (simp; omega)) _ | refine Below.setCell ?_ (by first | omega | (simp; done) | (simp; omega)) _ | refine Below.drew ?_))
  have L0 : Blk ((w.alloc (.cells #[.int .i64 l.id, .int .i64 l.ticks, .int .i64 l.sx, .int .i64 l.sy, .slice l.wa l.wn l.wc, .slice l.ga l.gn l.gc, .int .i64 l.flx, .int .i64 l.fly, .int .i64 l.fhx, .int .i64 l.fhy, .int .i64 l.bans] 29)).alloc (.cells #[.int .i64 0, .int .i64 0, .int .i64 0, .int .i64 0, .int .i64 0, .int .i64 0, .int .i64 0, .bool false, .bool false] 31)) w.heap.size #[.int .i64 l.id, .int .i64 l.ticks, .int .i64 l.sx, .int .i64 l.sy, .slice l.wa l.wn l.wc, .slice l.ga l.gn l.gc, .int .i64 l.flx, .int .i64 l.fly, .int .i64 l.fhx, .int .i64 l.fhy, .int .i64 l.bans] := (Blk.at rfl).alloc _
  have Z0 : Blk ((w.alloc (.cells #[.int .i64 l.id, .int .i64 l.ticks, .int .i64 l.sx, .int .i64 l.sy, .slice l.wa l.wn l.wc, .slice l.ga l.gn l.gc, .int .i64 l.flx, .int .i64 l.fly, .int .i64 l.fhx, .int .i64 l.fhy, .int .i64 l.bans] 29)).alloc (.cells #[.int .i64 0, .int .i64 0, .int .i64 0, .int .i64 0, .int .i64 0, .int .i64 0, .int .i64 0, .bool false, .bool false] 31)) (w.heap.size + 1) #[.int .i64 0, .int .i64 0, .int .i64 0, .int .i64 0, .int .i64 0, .int .i64 0, .int .i64 0, .bool false, .bool false] := Blk.at (by simp)
  have hr0 : Rd ((w.alloc (.cells #[.int .i64 l.id, .int .i64 l.ticks, .int .i64 l.sx, .int .i64 l.sy, .slice l.wa l.wn l.wc, .slice l.ga l.gn l.gc, .int .i64 l.flx, .int .i64 l.fly, .int .i64 l.fhx, .int .i64 l.fhy, .int .i64 l.bans] 29)).alloc (.cells #[.int .i64 0, .int .i64 0, .int .i64 0, .int .i64 0, .int .i64 0, .int .i64 0, .int .i64 0, .bool false, .bool false] 31)) R k := hr.keep (hb0.mono hR)
  refine (lRun R k l _ hr0 (by omega) hn hgn n0 n3 (hl.below hb0) hbv hs).mono ?_
  rintro e w1 ⟨g, cap, m, f, k1, rfl, hO, hg, hm, hk1, hk2, hr1, hu1, hfb⟩
  have hg : w.heap.size + 1 < g := by simp at hg; omega
  have X1 : ZN w R k1 l g cap m f w1 := ⟨hr1, (Up.of_below hb0).trans (hu1.mono hb0.size), L0.up hu1 L0.lt (by omega), Z0.up hu1 Z0.lt (by omega), hO, hR, hg⟩
  clear hb0 L0 Z0 hr0 hO hr1 hu1 hr
  go_upto_region 2 with fail
  rename_i K2 hK2
  have fin2 : ∀ (P k' : Nat) (s : St) (z1 z2 z3 z5 z7 z8 z9 z10 z11 z12 z13 z14 z15 z16 z17 z18 z19 z20 z21 z22 z23 z24 z25 z26 z27 z28 z29 z30 z31 z32 z33 z34 z35 z36 z37 z38 z39 z40 z41 z42 z43 z44 z45 z46 z47 z48 z49 z50 z51 z52 z53 : Value) (w0 : World), k ≤ k' → k' ≤ k + 220 → SN w R k' P #[.int .i64 s.tick, .int .i64 s.ax, .int .i64 s.ay, .int .i64 s.fx, .int .i64 s.fy, .int .i64 s.turn, .int .i64 s.gate, .bool s.done, .bool s.over] w0 → K2 ⟨#[.pointer (some ⟨R, 0, none⟩), z1, z2, z3, .pointer (some ⟨w.heap.size + 1, 0, none⟩), z5, .pointer (some ⟨P, 0, none⟩), z7, z8, z9, z10, z11, z12, z13, z14, z15, z16, z17, z18, z19, z20, z21, z22, z23, z24, z25, z26, z27, z28, z29, z30, z31, z32, z33, z34, z35, z36, z37, z38, z39, z40, z41, z42, z43, z44, z45, z46, z47, z48, z49, z50, z51, z52, z53], []⟩ w0 := by
    intro P k' s z1 z2 z3 z5 z7 z8 z9 z10 z11 z12 z13 z14 z15 z16 z17 z18 z19 z20 z21 z22 z23 z24 z25 z26 z27 z28 z29 z30 z31 z32 z33 z34 z35 z36 z37 z38 z39 z40 z41 z42 z43 z44 z45 z46 z47 z48 z49 z50 z51 z52 z53 w0 hk1 hk2 I0
    clear X1
    refine hK2 _ _ ?_
    go_wp2_with fail
    refine (pick_any R k' 16 _ I0.rd (by omega) (by omega) (by omega)).mono ?_
    rintro e w1 ⟨v1, rfl, hv1, hw1, hr, hu⟩
    have I1 := I0.pass hr hu
    clear I0 hr hu hK2
    have hzP := I1.T.lt
    have pf := I1.T.frozen
    obtain ⟨c0, c1, c2, c3, c4, c5, c6, c7, c8⟩ := I1.T.c9
    by_cases h0 : v1 = 0
    · subst h0
      go_wp2_with fail
      refine (lVec_any R (k' + 1) _ I1.rd (by omega)).mono ?_
      rintro e w2 ⟨x, y, k2, rfl, hx1, hx2, hy1, hy2, hk2, hk3, hr, hu⟩
      have I2 := I1.pass hr hu
      clear I1 hr hu c0 c1 c2 c3 c4 c5 c6 c7 c8 pf
      have hzP := I2.T.lt
      have pf := I2.T.frozen
      obtain ⟨c0, c1, c2, c3, c4, c5, c6, c7, c8⟩ := I2.T.c9
      have I3 : SN w R k2 P #[.int .i64 (⟨s.tick, s.ax, s.ay, x, y, s.turn, s.gate, s.done, s.over⟩ : St).tick, .int .i64 (⟨s.tick, s.ax, s.ay, x, y, s.turn, s.gate, s.done, s.over⟩ : St).ax, .int .i64 (⟨s.tick, s.ax, s.ay, x, y, s.turn, s.gate, s.done, s.over⟩ : St).ay, .int .i64 (⟨s.tick, s.ax, s.ay, x, y, s.turn, s.gate, s.done, s.over⟩ : St).fx, .int .i64 (⟨s.tick, s.ax, s.ay, x, y, s.turn, s.gate, s.done, s.over⟩ : St).fy, .int .i64 (⟨s.tick, s.ax, s.ay, x, y, s.turn, s.gate, s.done, s.over⟩ : St).turn, .int .i64 (⟨s.tick, s.ax, s.ay, x, y, s.turn, s.gate, s.done, s.over⟩ : St).gate, .bool (⟨s.tick, s.ax, s.ay, x, y, s.turn, s.gate, s.done, s.over⟩ : St).done, .bool (⟨s.tick, s.ax, s.ay, x, y, s.turn, s.gate, s.done, s.over⟩ : St).over] ((w2.setCell ⟨P, 3, none⟩ (.int .i64 x)).setCell ⟨P, 4, none⟩ (.int .i64 y)) := (I2.set 3 (.int .i64 x)).set 4 (.int .i64 y)
      clear I2
      have hT := Lib.hid I3.T
      have hZ := Lib.hid I3.Z
      have hD := Lib.hid (I3.done #[.int .i64 (⟨s.tick, s.ax, s.ay, x, y, s.turn, s.gate, s.done, s.over⟩ : St).tick, .int .i64 (⟨s.tick, s.ax, s.ay, x, y, s.turn, s.gate, s.done, s.over⟩ : St).ax, .int .i64 (⟨s.tick, s.ax, s.ay, x, y, s.turn, s.gate, s.done, s.over⟩ : St).ay, .int .i64 (⟨s.tick, s.ax, s.ay, x, y, s.turn, s.gate, s.done, s.over⟩ : St).fx, .int .i64 (⟨s.tick, s.ax, s.ay, x, y, s.turn, s.gate, s.done, s.over⟩ : St).fy, .int .i64 (⟨s.tick, s.ax, s.ay, x, y, s.turn, s.gate, s.done, s.over⟩ : St).turn, .int .i64 (⟨s.tick, s.ax, s.ay, x, y, s.turn, s.gate, s.done, s.over⟩ : St).gate, .bool (⟨s.tick, s.ax, s.ay, x, y, s.turn, s.gate, s.done, s.over⟩ : St).done, .bool (⟨s.tick, s.ax, s.ay, x, y, s.turn, s.gate, s.done, s.over⟩ : St).over])
      clear I3
      go_upto_region 16 with fail
      refine wp_copy (ty := 31) rfl hT.out Try.underlying31 rfl (by kernel_rfl) rfl rfl hZ.out rfl (by simp [Value.oneCell']) ?_
      rename_i K hK
      refine hK _ _ (wp_ret ?_)
      refine bodyPost_ret (res_row rfl rfl (hZ.out.row _) Try.underlying31 rfl (by kernel_rfl)) rfl ?_
      obtain ⟨hL2, hL3⟩ := hD.out
      exact ⟨⟨s.tick, s.ax, s.ay, x, y, s.turn, s.gate, s.done, s.over⟩, k2, rfl, by omega, by omega, hL2, hL3⟩
    by_cases h1 : v1 = 1
    · subst h1
      go_wp2_with fail
      refine (pick_any R (k' + 1) 20 _ I1.rd (by omega) (by omega) (by omega)).mono ?_
      rintro e w2 ⟨v2, rfl, hv2, hw2, hr, hu⟩
      have I2 := I1.pass hr hu
      clear I1 hr hu c0 c1 c2 c3 c4 c5 c6 c7 c8 pf
      have hzP := I2.T.lt
      have pf := I2.T.frozen
      obtain ⟨c0, c1, c2, c3, c4, c5, c6, c7, c8⟩ := I2.T.c9
      have I3 : SN w R (k' + 1 + 1) P #[.int .i64 (⟨s.tick, s.ax, s.ay, s.fx, s.fy, v2 - 2, s.gate, s.done, s.over⟩ : St).tick, .int .i64 (⟨s.tick, s.ax, s.ay, s.fx, s.fy, v2 - 2, s.gate, s.done, s.over⟩ : St).ax, .int .i64 (⟨s.tick, s.ax, s.ay, s.fx, s.fy, v2 - 2, s.gate, s.done, s.over⟩ : St).ay, .int .i64 (⟨s.tick, s.ax, s.ay, s.fx, s.fy, v2 - 2, s.gate, s.done, s.over⟩ : St).fx, .int .i64 (⟨s.tick, s.ax, s.ay, s.fx, s.fy, v2 - 2, s.gate, s.done, s.over⟩ : St).fy, .int .i64 (⟨s.tick, s.ax, s.ay, s.fx, s.fy, v2 - 2, s.gate, s.done, s.over⟩ : St).turn, .int .i64 (⟨s.tick, s.ax, s.ay, s.fx, s.fy, v2 - 2, s.gate, s.done, s.over⟩ : St).gate, .bool (⟨s.tick, s.ax, s.ay, s.fx, s.fy, v2 - 2, s.gate, s.done, s.over⟩ : St).done, .bool (⟨s.tick, s.ax, s.ay, s.fx, s.fy, v2 - 2, s.gate, s.done, s.over⟩ : St).over] (w2.setCell ⟨P, 5, none⟩ (.int .i64 (v2 - 2))) := I2.set 5 (.int .i64 (v2 - 2))
      clear I2
      have hT := Lib.hid I3.T
      have hZ := Lib.hid I3.Z
      have hD := Lib.hid (I3.done #[.int .i64 (⟨s.tick, s.ax, s.ay, s.fx, s.fy, v2 - 2, s.gate, s.done, s.over⟩ : St).tick, .int .i64 (⟨s.tick, s.ax, s.ay, s.fx, s.fy, v2 - 2, s.gate, s.done, s.over⟩ : St).ax, .int .i64 (⟨s.tick, s.ax, s.ay, s.fx, s.fy, v2 - 2, s.gate, s.done, s.over⟩ : St).ay, .int .i64 (⟨s.tick, s.ax, s.ay, s.fx, s.fy, v2 - 2, s.gate, s.done, s.over⟩ : St).fx, .int .i64 (⟨s.tick, s.ax, s.ay, s.fx, s.fy, v2 - 2, s.gate, s.done, s.over⟩ : St).fy, .int .i64 (⟨s.tick, s.ax, s.ay, s.fx, s.fy, v2 - 2, s.gate, s.done, s.over⟩ : St).turn, .int .i64 (⟨s.tick, s.ax, s.ay, s.fx, s.fy, v2 - 2, s.gate, s.done, s.over⟩ : St).gate, .bool (⟨s.tick, s.ax, s.ay, s.fx, s.fy, v2 - 2, s.gate, s.done, s.over⟩ : St).done, .bool (⟨s.tick, s.ax, s.ay, s.fx, s.fy, v2 - 2, s.gate, s.done, s.over⟩ : St).over])
      clear I3
      go_upto_region 16 with fail
      refine wp_copy (ty := 31) rfl hT.out Try.underlying31 rfl (by kernel_rfl) rfl rfl hZ.out rfl (by simp [Value.oneCell']) ?_
      rename_i K hK
      refine hK _ _ (wp_ret ?_)
      refine bodyPost_ret (res_row rfl rfl (hZ.out.row _) Try.underlying31 rfl (by kernel_rfl)) rfl ?_
      obtain ⟨hL2, hL3⟩ := hD.out
      exact ⟨⟨s.tick, s.ax, s.ay, s.fx, s.fy, v2 - 2, s.gate, s.done, s.over⟩, (k' + 1 + 1), rfl, by omega, by omega, hL2, hL3⟩
    by_cases h2 : v1 = 2
    · subst h2
      go_wp2_with fail
      refine (lVec_any R (k' + 1) _ I1.rd (by omega)).mono ?_
      rintro e w2 ⟨x, y, k2, rfl, hx1, hx2, hy1, hy2, hk2, hk3, hr, hu⟩
      have I2 := I1.pass hr hu
      clear I1 hr hu c0 c1 c2 c3 c4 c5 c6 c7 c8 pf
      have hzP := I2.T.lt
      have pf := I2.T.frozen
      obtain ⟨c0, c1, c2, c3, c4, c5, c6, c7, c8⟩ := I2.T.c9
      have I3 : SN w R k2 P #[.int .i64 (⟨s.tick, x, y, s.fx, s.fy, s.turn, s.gate, s.done, s.over⟩ : St).tick, .int .i64 (⟨s.tick, x, y, s.fx, s.fy, s.turn, s.gate, s.done, s.over⟩ : St).ax, .int .i64 (⟨s.tick, x, y, s.fx, s.fy, s.turn, s.gate, s.done, s.over⟩ : St).ay, .int .i64 (⟨s.tick, x, y, s.fx, s.fy, s.turn, s.gate, s.done, s.over⟩ : St).fx, .int .i64 (⟨s.tick, x, y, s.fx, s.fy, s.turn, s.gate, s.done, s.over⟩ : St).fy, .int .i64 (⟨s.tick, x, y, s.fx, s.fy, s.turn, s.gate, s.done, s.over⟩ : St).turn, .int .i64 (⟨s.tick, x, y, s.fx, s.fy, s.turn, s.gate, s.done, s.over⟩ : St).gate, .bool (⟨s.tick, x, y, s.fx, s.fy, s.turn, s.gate, s.done, s.over⟩ : St).done, .bool (⟨s.tick, x, y, s.fx, s.fy, s.turn, s.gate, s.done, s.over⟩ : St).over] ((w2.setCell ⟨P, 1, none⟩ (.int .i64 x)).setCell ⟨P, 2, none⟩ (.int .i64 y)) := (I2.set 1 (.int .i64 x)).set 2 (.int .i64 y)
      clear I2
      have hT := Lib.hid I3.T
      have hZ := Lib.hid I3.Z
      have hD := Lib.hid (I3.done #[.int .i64 (⟨s.tick, x, y, s.fx, s.fy, s.turn, s.gate, s.done, s.over⟩ : St).tick, .int .i64 (⟨s.tick, x, y, s.fx, s.fy, s.turn, s.gate, s.done, s.over⟩ : St).ax, .int .i64 (⟨s.tick, x, y, s.fx, s.fy, s.turn, s.gate, s.done, s.over⟩ : St).ay, .int .i64 (⟨s.tick, x, y, s.fx, s.fy, s.turn, s.gate, s.done, s.over⟩ : St).fx, .int .i64 (⟨s.tick, x, y, s.fx, s.fy, s.turn, s.gate, s.done, s.over⟩ : St).fy, .int .i64 (⟨s.tick, x, y, s.fx, s.fy, s.turn, s.gate, s.done, s.over⟩ : St).turn, .int .i64 (⟨s.tick, x, y, s.fx, s.fy, s.turn, s.gate, s.done, s.over⟩ : St).gate, .bool (⟨s.tick, x, y, s.fx, s.fy, s.turn, s.gate, s.done, s.over⟩ : St).done, .bool (⟨s.tick, x, y, s.fx, s.fy, s.turn, s.gate, s.done, s.over⟩ : St).over])
      clear I3
      go_upto_region 16 with fail
      refine wp_copy (ty := 31) rfl hT.out Try.underlying31 rfl (by kernel_rfl) rfl rfl hZ.out rfl (by simp [Value.oneCell']) ?_
      rename_i K hK
      refine hK _ _ (wp_ret ?_)
      refine bodyPost_ret (res_row rfl rfl (hZ.out.row _) Try.underlying31 rfl (by kernel_rfl)) rfl ?_
      obtain ⟨hL2, hL3⟩ := hD.out
      exact ⟨⟨s.tick, x, y, s.fx, s.fy, s.turn, s.gate, s.done, s.over⟩, k2, rfl, by omega, by omega, hL2, hL3⟩
    by_cases h3 : v1 = 3
    · subst h3
      go_wp2_with fail
      refine (pick_any R (k' + 1) 5 _ I1.rd (by omega) (by omega) (by omega)).mono ?_
      rintro e w2 ⟨v2, rfl, hv2, hw2, hr, hu⟩
      have I2 := I1.pass hr hu
      clear I1 hr hu c0 c1 c2 c3 c4 c5 c6 c7 c8 pf
      have hzP := I2.T.lt
      have pf := I2.T.frozen
      obtain ⟨c0, c1, c2, c3, c4, c5, c6, c7, c8⟩ := I2.T.c9
      have I3 : SN w R (k' + 1 + 1) P #[.int .i64 (⟨s.tick, s.ax, s.ay, s.fx, s.fy, s.turn, v2 - 1, s.done, s.over⟩ : St).tick, .int .i64 (⟨s.tick, s.ax, s.ay, s.fx, s.fy, s.turn, v2 - 1, s.done, s.over⟩ : St).ax, .int .i64 (⟨s.tick, s.ax, s.ay, s.fx, s.fy, s.turn, v2 - 1, s.done, s.over⟩ : St).ay, .int .i64 (⟨s.tick, s.ax, s.ay, s.fx, s.fy, s.turn, v2 - 1, s.done, s.over⟩ : St).fx, .int .i64 (⟨s.tick, s.ax, s.ay, s.fx, s.fy, s.turn, v2 - 1, s.done, s.over⟩ : St).fy, .int .i64 (⟨s.tick, s.ax, s.ay, s.fx, s.fy, s.turn, v2 - 1, s.done, s.over⟩ : St).turn, .int .i64 (⟨s.tick, s.ax, s.ay, s.fx, s.fy, s.turn, v2 - 1, s.done, s.over⟩ : St).gate, .bool (⟨s.tick, s.ax, s.ay, s.fx, s.fy, s.turn, v2 - 1, s.done, s.over⟩ : St).done, .bool (⟨s.tick, s.ax, s.ay, s.fx, s.fy, s.turn, v2 - 1, s.done, s.over⟩ : St).over] (w2.setCell ⟨P, 6, none⟩ (.int .i64 (v2 - 1))) := I2.set 6 (.int .i64 (v2 - 1))
      clear I2
      have hT := Lib.hid I3.T
      have hZ := Lib.hid I3.Z
      have hD := Lib.hid (I3.done #[.int .i64 (⟨s.tick, s.ax, s.ay, s.fx, s.fy, s.turn, v2 - 1, s.done, s.over⟩ : St).tick, .int .i64 (⟨s.tick, s.ax, s.ay, s.fx, s.fy, s.turn, v2 - 1, s.done, s.over⟩ : St).ax, .int .i64 (⟨s.tick, s.ax, s.ay, s.fx, s.fy, s.turn, v2 - 1, s.done, s.over⟩ : St).ay, .int .i64 (⟨s.tick, s.ax, s.ay, s.fx, s.fy, s.turn, v2 - 1, s.done, s.over⟩ : St).fx, .int .i64 (⟨s.tick, s.ax, s.ay, s.fx, s.fy, s.turn, v2 - 1, s.done, s.over⟩ : St).fy, .int .i64 (⟨s.tick, s.ax, s.ay, s.fx, s.fy, s.turn, v2 - 1, s.done, s.over⟩ : St).turn, .int .i64 (⟨s.tick, s.ax, s.ay, s.fx, s.fy, s.turn, v2 - 1, s.done, s.over⟩ : St).gate, .bool (⟨s.tick, s.ax, s.ay, s.fx, s.fy, s.turn, v2 - 1, s.done, s.over⟩ : St).done, .bool (⟨s.tick, s.ax, s.ay, s.fx, s.fy, s.turn, v2 - 1, s.done, s.over⟩ : St).over])
      clear I3
      go_upto_region 16 with fail
      refine wp_copy (ty := 31) rfl hT.out Try.underlying31 rfl (by kernel_rfl) rfl rfl hZ.out rfl (by simp [Value.oneCell']) ?_
      rename_i K hK
      refine hK _ _ (wp_ret ?_)
      refine bodyPost_ret (res_row rfl rfl (hZ.out.row _) Try.underlying31 rfl (by kernel_rfl)) rfl ?_
      obtain ⟨hL2, hL3⟩ := hD.out
      exact ⟨⟨s.tick, s.ax, s.ay, s.fx, s.fy, s.turn, v2 - 1, s.done, s.over⟩, (k' + 1 + 1), rfl, by omega, by omega, hL2, hL3⟩
    by_cases h4 : v1 = 4
    · subst h4
      have I3 : SN w R (k' + 1) P #[.int .i64 (⟨s.tick, s.ax, s.ay, s.fx, s.fy, s.turn, s.gate, s.done, true⟩ : St).tick, .int .i64 (⟨s.tick, s.ax, s.ay, s.fx, s.fy, s.turn, s.gate, s.done, true⟩ : St).ax, .int .i64 (⟨s.tick, s.ax, s.ay, s.fx, s.fy, s.turn, s.gate, s.done, true⟩ : St).ay, .int .i64 (⟨s.tick, s.ax, s.ay, s.fx, s.fy, s.turn, s.gate, s.done, true⟩ : St).fx, .int .i64 (⟨s.tick, s.ax, s.ay, s.fx, s.fy, s.turn, s.gate, s.done, true⟩ : St).fy, .int .i64 (⟨s.tick, s.ax, s.ay, s.fx, s.fy, s.turn, s.gate, s.done, true⟩ : St).turn, .int .i64 (⟨s.tick, s.ax, s.ay, s.fx, s.fy, s.turn, s.gate, s.done, true⟩ : St).gate, .bool (⟨s.tick, s.ax, s.ay, s.fx, s.fy, s.turn, s.gate, s.done, true⟩ : St).done, .bool (⟨s.tick, s.ax, s.ay, s.fx, s.fy, s.turn, s.gate, s.done, true⟩ : St).over] (w1.setCell ⟨P, 8, none⟩ (.bool true)) := I1.set 8 (.bool true)
      clear I1
      have hT := Lib.hid I3.T
      have hZ := Lib.hid I3.Z
      have hD := Lib.hid (I3.done #[.int .i64 (⟨s.tick, s.ax, s.ay, s.fx, s.fy, s.turn, s.gate, s.done, true⟩ : St).tick, .int .i64 (⟨s.tick, s.ax, s.ay, s.fx, s.fy, s.turn, s.gate, s.done, true⟩ : St).ax, .int .i64 (⟨s.tick, s.ax, s.ay, s.fx, s.fy, s.turn, s.gate, s.done, true⟩ : St).ay, .int .i64 (⟨s.tick, s.ax, s.ay, s.fx, s.fy, s.turn, s.gate, s.done, true⟩ : St).fx, .int .i64 (⟨s.tick, s.ax, s.ay, s.fx, s.fy, s.turn, s.gate, s.done, true⟩ : St).fy, .int .i64 (⟨s.tick, s.ax, s.ay, s.fx, s.fy, s.turn, s.gate, s.done, true⟩ : St).turn, .int .i64 (⟨s.tick, s.ax, s.ay, s.fx, s.fy, s.turn, s.gate, s.done, true⟩ : St).gate, .bool (⟨s.tick, s.ax, s.ay, s.fx, s.fy, s.turn, s.gate, s.done, true⟩ : St).done, .bool (⟨s.tick, s.ax, s.ay, s.fx, s.fy, s.turn, s.gate, s.done, true⟩ : St).over])
      clear I3
      go_upto_region 16 with fail
      refine wp_copy (ty := 31) rfl hT.out Try.underlying31 rfl (by kernel_rfl) rfl rfl hZ.out rfl (by simp [Value.oneCell']) ?_
      rename_i K hK
      refine hK _ _ (wp_ret ?_)
      refine bodyPost_ret (res_row rfl rfl (hZ.out.row _) Try.underlying31 rfl (by kernel_rfl)) rfl ?_
      obtain ⟨hL2, hL3⟩ := hD.out
      exact ⟨⟨s.tick, s.ax, s.ay, s.fx, s.fy, s.turn, s.gate, s.done, true⟩, (k' + 1), rfl, by omega, by omega, hL2, hL3⟩
    by_cases h5 : v1 = 5
    · subst h5
      go_wp2_with fail
      have Ia := I1.pass (I1.rd.keep ((Below.refl _ _).alloc I1.rd.lt (.cells #[.int .i64 (-1), .int .i64 0, .int .i64 60, .int .i64 61] 3))) (Up.of_below ((Below.refl _ _).alloc (Nat.le_refl _) (.cells #[.int .i64 (-1), .int .i64 0, .int .i64 60, .int .i64 61] 3)))
      have hN : w1.heap.size ≠ R := by have := I1.rd.lt; omega
      refine (pick_any R (k' + 1) 4 _ Ia.rd (by omega) (by omega) (by omega)).mono ?_
      rintro e w2 ⟨v2, rfl, hv2, hw2, hr, hu⟩
      have I2 := Ia.pass hr hu
      have N2 : Blk w2 w1.heap.size #[.int .i64 (-1), .int .i64 0, .int .i64 60, .int .i64 61] := (Blk.at rfl).up hu (by simp) hN
      clear I1 Ia hr hu c0 c1 c2 c3 c4 c5 c6 c7 c8 pf
      have hzP := I2.T.lt
      have hzN := N2.lt
      have pf := I2.T.frozen
      obtain ⟨c0, c1, c2, c3, c4, c5, c6, c7, c8⟩ := I2.T.c9
      have n0 := N2.cell 0;have n1 := N2.cell 1;have n2 := N2.cell 2;have n3 := N2.cell 3
      simp only [List.getElem?_toArray, List.getElem?_cons_zero, List.getElem?_cons_succ] at n0 n1 n2 n3
      rcases four_of hv2 hw2 with rfl | rfl | rfl | rfl
      · have I3 : SN w R (k' + 1 + 1) P #[.int .i64 (⟨(-1), s.ax, s.ay, s.fx, s.fy, s.turn, s.gate, s.done, s.over⟩ : St).tick, .int .i64 (⟨(-1), s.ax, s.ay, s.fx, s.fy, s.turn, s.gate, s.done, s.over⟩ : St).ax, .int .i64 (⟨(-1), s.ax, s.ay, s.fx, s.fy, s.turn, s.gate, s.done, s.over⟩ : St).ay, .int .i64 (⟨(-1), s.ax, s.ay, s.fx, s.fy, s.turn, s.gate, s.done, s.over⟩ : St).fx, .int .i64 (⟨(-1), s.ax, s.ay, s.fx, s.fy, s.turn, s.gate, s.done, s.over⟩ : St).fy, .int .i64 (⟨(-1), s.ax, s.ay, s.fx, s.fy, s.turn, s.gate, s.done, s.over⟩ : St).turn, .int .i64 (⟨(-1), s.ax, s.ay, s.fx, s.fy, s.turn, s.gate, s.done, s.over⟩ : St).gate, .bool (⟨(-1), s.ax, s.ay, s.fx, s.fy, s.turn, s.gate, s.done, s.over⟩ : St).done, .bool (⟨(-1), s.ax, s.ay, s.fx, s.fy, s.turn, s.gate, s.done, s.over⟩ : St).over] (w2.setCell ⟨P, 0, none⟩ (.int .i64 (-1))) := I2.set 0 (.int .i64 (-1))
        clear I2
        have hT := Lib.hid I3.T
        have hZ := Lib.hid I3.Z
        have hD := Lib.hid (I3.done #[.int .i64 (⟨(-1), s.ax, s.ay, s.fx, s.fy, s.turn, s.gate, s.done, s.over⟩ : St).tick, .int .i64 (⟨(-1), s.ax, s.ay, s.fx, s.fy, s.turn, s.gate, s.done, s.over⟩ : St).ax, .int .i64 (⟨(-1), s.ax, s.ay, s.fx, s.fy, s.turn, s.gate, s.done, s.over⟩ : St).ay, .int .i64 (⟨(-1), s.ax, s.ay, s.fx, s.fy, s.turn, s.gate, s.done, s.over⟩ : St).fx, .int .i64 (⟨(-1), s.ax, s.ay, s.fx, s.fy, s.turn, s.gate, s.done, s.over⟩ : St).fy, .int .i64 (⟨(-1), s.ax, s.ay, s.fx, s.fy, s.turn, s.gate, s.done, s.over⟩ : St).turn, .int .i64 (⟨(-1), s.ax, s.ay, s.fx, s.fy, s.turn, s.gate, s.done, s.over⟩ : St).gate, .bool (⟨(-1), s.ax, s.ay, s.fx, s.fy, s.turn, s.gate, s.done, s.over⟩ : St).done, .bool (⟨(-1), s.ax, s.ay, s.fx, s.fy, s.turn, s.gate, s.done, s.over⟩ : St).over])
        clear I3
        go_upto_region 16 with fail
        refine wp_copy (ty := 31) rfl hT.out Try.underlying31 rfl (by kernel_rfl) rfl rfl hZ.out rfl (by simp [Value.oneCell']) ?_
        rename_i K hK
        refine hK _ _ (wp_ret ?_)
        refine bodyPost_ret (res_row rfl rfl (hZ.out.row _) Try.underlying31 rfl (by kernel_rfl)) rfl ?_
        obtain ⟨hL2, hL3⟩ := hD.out
        exact ⟨⟨(-1), s.ax, s.ay, s.fx, s.fy, s.turn, s.gate, s.done, s.over⟩, (k' + 1 + 1), rfl, by omega, by omega, hL2, hL3⟩
      · have I3 : SN w R (k' + 1 + 1) P #[.int .i64 (⟨0, s.ax, s.ay, s.fx, s.fy, s.turn, s.gate, s.done, s.over⟩ : St).tick, .int .i64 (⟨0, s.ax, s.ay, s.fx, s.fy, s.turn, s.gate, s.done, s.over⟩ : St).ax, .int .i64 (⟨0, s.ax, s.ay, s.fx, s.fy, s.turn, s.gate, s.done, s.over⟩ : St).ay, .int .i64 (⟨0, s.ax, s.ay, s.fx, s.fy, s.turn, s.gate, s.done, s.over⟩ : St).fx, .int .i64 (⟨0, s.ax, s.ay, s.fx, s.fy, s.turn, s.gate, s.done, s.over⟩ : St).fy, .int .i64 (⟨0, s.ax, s.ay, s.fx, s.fy, s.turn, s.gate, s.done, s.over⟩ : St).turn, .int .i64 (⟨0, s.ax, s.ay, s.fx, s.fy, s.turn, s.gate, s.done, s.over⟩ : St).gate, .bool (⟨0, s.ax, s.ay, s.fx, s.fy, s.turn, s.gate, s.done, s.over⟩ : St).done, .bool (⟨0, s.ax, s.ay, s.fx, s.fy, s.turn, s.gate, s.done, s.over⟩ : St).over] (w2.setCell ⟨P, 0, none⟩ (.int .i64 0)) := I2.set 0 (.int .i64 0)
        clear I2
        have hT := Lib.hid I3.T
        have hZ := Lib.hid I3.Z
        have hD := Lib.hid (I3.done #[.int .i64 (⟨0, s.ax, s.ay, s.fx, s.fy, s.turn, s.gate, s.done, s.over⟩ : St).tick, .int .i64 (⟨0, s.ax, s.ay, s.fx, s.fy, s.turn, s.gate, s.done, s.over⟩ : St).ax, .int .i64 (⟨0, s.ax, s.ay, s.fx, s.fy, s.turn, s.gate, s.done, s.over⟩ : St).ay, .int .i64 (⟨0, s.ax, s.ay, s.fx, s.fy, s.turn, s.gate, s.done, s.over⟩ : St).fx, .int .i64 (⟨0, s.ax, s.ay, s.fx, s.fy, s.turn, s.gate, s.done, s.over⟩ : St).fy, .int .i64 (⟨0, s.ax, s.ay, s.fx, s.fy, s.turn, s.gate, s.done, s.over⟩ : St).turn, .int .i64 (⟨0, s.ax, s.ay, s.fx, s.fy, s.turn, s.gate, s.done, s.over⟩ : St).gate, .bool (⟨0, s.ax, s.ay, s.fx, s.fy, s.turn, s.gate, s.done, s.over⟩ : St).done, .bool (⟨0, s.ax, s.ay, s.fx, s.fy, s.turn, s.gate, s.done, s.over⟩ : St).over])
        clear I3
        go_upto_region 16 with fail
        refine wp_copy (ty := 31) rfl hT.out Try.underlying31 rfl (by kernel_rfl) rfl rfl hZ.out rfl (by simp [Value.oneCell']) ?_
        rename_i K hK
        refine hK _ _ (wp_ret ?_)
        refine bodyPost_ret (res_row rfl rfl (hZ.out.row _) Try.underlying31 rfl (by kernel_rfl)) rfl ?_
        obtain ⟨hL2, hL3⟩ := hD.out
        exact ⟨⟨0, s.ax, s.ay, s.fx, s.fy, s.turn, s.gate, s.done, s.over⟩, (k' + 1 + 1), rfl, by omega, by omega, hL2, hL3⟩
      · have I3 : SN w R (k' + 1 + 1) P #[.int .i64 (⟨60, s.ax, s.ay, s.fx, s.fy, s.turn, s.gate, s.done, s.over⟩ : St).tick, .int .i64 (⟨60, s.ax, s.ay, s.fx, s.fy, s.turn, s.gate, s.done, s.over⟩ : St).ax, .int .i64 (⟨60, s.ax, s.ay, s.fx, s.fy, s.turn, s.gate, s.done, s.over⟩ : St).ay, .int .i64 (⟨60, s.ax, s.ay, s.fx, s.fy, s.turn, s.gate, s.done, s.over⟩ : St).fx, .int .i64 (⟨60, s.ax, s.ay, s.fx, s.fy, s.turn, s.gate, s.done, s.over⟩ : St).fy, .int .i64 (⟨60, s.ax, s.ay, s.fx, s.fy, s.turn, s.gate, s.done, s.over⟩ : St).turn, .int .i64 (⟨60, s.ax, s.ay, s.fx, s.fy, s.turn, s.gate, s.done, s.over⟩ : St).gate, .bool (⟨60, s.ax, s.ay, s.fx, s.fy, s.turn, s.gate, s.done, s.over⟩ : St).done, .bool (⟨60, s.ax, s.ay, s.fx, s.fy, s.turn, s.gate, s.done, s.over⟩ : St).over] (w2.setCell ⟨P, 0, none⟩ (.int .i64 60)) := I2.set 0 (.int .i64 60)
        clear I2
        have hT := Lib.hid I3.T
        have hZ := Lib.hid I3.Z
        have hD := Lib.hid (I3.done #[.int .i64 (⟨60, s.ax, s.ay, s.fx, s.fy, s.turn, s.gate, s.done, s.over⟩ : St).tick, .int .i64 (⟨60, s.ax, s.ay, s.fx, s.fy, s.turn, s.gate, s.done, s.over⟩ : St).ax, .int .i64 (⟨60, s.ax, s.ay, s.fx, s.fy, s.turn, s.gate, s.done, s.over⟩ : St).ay, .int .i64 (⟨60, s.ax, s.ay, s.fx, s.fy, s.turn, s.gate, s.done, s.over⟩ : St).fx, .int .i64 (⟨60, s.ax, s.ay, s.fx, s.fy, s.turn, s.gate, s.done, s.over⟩ : St).fy, .int .i64 (⟨60, s.ax, s.ay, s.fx, s.fy, s.turn, s.gate, s.done, s.over⟩ : St).turn, .int .i64 (⟨60, s.ax, s.ay, s.fx, s.fy, s.turn, s.gate, s.done, s.over⟩ : St).gate, .bool (⟨60, s.ax, s.ay, s.fx, s.fy, s.turn, s.gate, s.done, s.over⟩ : St).done, .bool (⟨60, s.ax, s.ay, s.fx, s.fy, s.turn, s.gate, s.done, s.over⟩ : St).over])
        clear I3
        go_upto_region 16 with fail
        refine wp_copy (ty := 31) rfl hT.out Try.underlying31 rfl (by kernel_rfl) rfl rfl hZ.out rfl (by simp [Value.oneCell']) ?_
        rename_i K hK
        refine hK _ _ (wp_ret ?_)
        refine bodyPost_ret (res_row rfl rfl (hZ.out.row _) Try.underlying31 rfl (by kernel_rfl)) rfl ?_
        obtain ⟨hL2, hL3⟩ := hD.out
        exact ⟨⟨60, s.ax, s.ay, s.fx, s.fy, s.turn, s.gate, s.done, s.over⟩, (k' + 1 + 1), rfl, by omega, by omega, hL2, hL3⟩
      · have I3 : SN w R (k' + 1 + 1) P #[.int .i64 (⟨61, s.ax, s.ay, s.fx, s.fy, s.turn, s.gate, s.done, s.over⟩ : St).tick, .int .i64 (⟨61, s.ax, s.ay, s.fx, s.fy, s.turn, s.gate, s.done, s.over⟩ : St).ax, .int .i64 (⟨61, s.ax, s.ay, s.fx, s.fy, s.turn, s.gate, s.done, s.over⟩ : St).ay, .int .i64 (⟨61, s.ax, s.ay, s.fx, s.fy, s.turn, s.gate, s.done, s.over⟩ : St).fx, .int .i64 (⟨61, s.ax, s.ay, s.fx, s.fy, s.turn, s.gate, s.done, s.over⟩ : St).fy, .int .i64 (⟨61, s.ax, s.ay, s.fx, s.fy, s.turn, s.gate, s.done, s.over⟩ : St).turn, .int .i64 (⟨61, s.ax, s.ay, s.fx, s.fy, s.turn, s.gate, s.done, s.over⟩ : St).gate, .bool (⟨61, s.ax, s.ay, s.fx, s.fy, s.turn, s.gate, s.done, s.over⟩ : St).done, .bool (⟨61, s.ax, s.ay, s.fx, s.fy, s.turn, s.gate, s.done, s.over⟩ : St).over] (w2.setCell ⟨P, 0, none⟩ (.int .i64 61)) := I2.set 0 (.int .i64 61)
        clear I2
        have hT := Lib.hid I3.T
        have hZ := Lib.hid I3.Z
        have hD := Lib.hid (I3.done #[.int .i64 (⟨61, s.ax, s.ay, s.fx, s.fy, s.turn, s.gate, s.done, s.over⟩ : St).tick, .int .i64 (⟨61, s.ax, s.ay, s.fx, s.fy, s.turn, s.gate, s.done, s.over⟩ : St).ax, .int .i64 (⟨61, s.ax, s.ay, s.fx, s.fy, s.turn, s.gate, s.done, s.over⟩ : St).ay, .int .i64 (⟨61, s.ax, s.ay, s.fx, s.fy, s.turn, s.gate, s.done, s.over⟩ : St).fx, .int .i64 (⟨61, s.ax, s.ay, s.fx, s.fy, s.turn, s.gate, s.done, s.over⟩ : St).fy, .int .i64 (⟨61, s.ax, s.ay, s.fx, s.fy, s.turn, s.gate, s.done, s.over⟩ : St).turn, .int .i64 (⟨61, s.ax, s.ay, s.fx, s.fy, s.turn, s.gate, s.done, s.over⟩ : St).gate, .bool (⟨61, s.ax, s.ay, s.fx, s.fy, s.turn, s.gate, s.done, s.over⟩ : St).done, .bool (⟨61, s.ax, s.ay, s.fx, s.fy, s.turn, s.gate, s.done, s.over⟩ : St).over])
        clear I3
        go_upto_region 16 with fail
        refine wp_copy (ty := 31) rfl hT.out Try.underlying31 rfl (by kernel_rfl) rfl rfl hZ.out rfl (by simp [Value.oneCell']) ?_
        rename_i K hK
        refine hK _ _ (wp_ret ?_)
        refine bodyPost_ret (res_row rfl rfl (hZ.out.row _) Try.underlying31 rfl (by kernel_rfl)) rfl ?_
        obtain ⟨hL2, hL3⟩ := hD.out
        exact ⟨⟨61, s.ax, s.ay, s.fx, s.fy, s.turn, s.gate, s.done, s.over⟩, (k' + 1 + 1), rfl, by omega, by omega, hL2, hL3⟩
    have e0 : (v1 == 0) = false := by simpa using h0
    have e1 : (v1 == 1) = false := by simpa using h1
    have e2 : (v1 == 2) = false := by simpa using h2
    have e3 : (v1 == 3) = false := by simpa using h3
    have e4 : (v1 == 4) = false := by simpa using h4
    have e5 : (v1 == 5) = false := by simpa using h5
    clear h0 h1 h2 h3 h4 h5
    have hT := Lib.hid I1.T
    have hZ := Lib.hid I1.Z
    have hD := Lib.hid (I1.done #[.int .i64 (⟨s.tick, s.ax, s.ay, s.fx, s.fy, s.turn, s.gate, s.done, s.over⟩ : St).tick, .int .i64 (⟨s.tick, s.ax, s.ay, s.fx, s.fy, s.turn, s.gate, s.done, s.over⟩ : St).ax, .int .i64 (⟨s.tick, s.ax, s.ay, s.fx, s.fy, s.turn, s.gate, s.done, s.over⟩ : St).ay, .int .i64 (⟨s.tick, s.ax, s.ay, s.fx, s.fy, s.turn, s.gate, s.done, s.over⟩ : St).fx, .int .i64 (⟨s.tick, s.ax, s.ay, s.fx, s.fy, s.turn, s.gate, s.done, s.over⟩ : St).fy, .int .i64 (⟨s.tick, s.ax, s.ay, s.fx, s.fy, s.turn, s.gate, s.done, s.over⟩ : St).turn, .int .i64 (⟨s.tick, s.ax, s.ay, s.fx, s.fy, s.turn, s.gate, s.done, s.over⟩ : St).gate, .bool (⟨s.tick, s.ax, s.ay, s.fx, s.fy, s.turn, s.gate, s.done, s.over⟩ : St).done, .bool (⟨s.tick, s.ax, s.ay, s.fx, s.fy, s.turn, s.gate, s.done, s.over⟩ : St).over])
    clear I1
    go_upto_region 16 with fail
    refine wp_copy (ty := 31) rfl hT.out Try.underlying31 rfl (by kernel_rfl) rfl rfl hZ.out rfl (by simp [Value.oneCell']) ?_
    rename_i K hK
    refine hK _ _ (wp_ret ?_)
    refine bodyPost_ret (res_row rfl rfl (hZ.out.row _) Try.underlying31 rfl (by kernel_rfl)) rfl ?_
    obtain ⟨hL2, hL3⟩ := hD.out
    exact ⟨⟨s.tick, s.ax, s.ay, s.fx, s.fy, s.turn, s.gate, s.done, s.over⟩, (k' + 1), rfl, by omega, by omega, hL2, hL3⟩
  have hfin := Lib.hid fin2
  clear fin2 hK2
  have X2 := X1.drew
  clear X1
  have hzO := X2.O.lt
  have hzV : w1.heap.size ≤ w1.drew.heap.size := Nat.le_refl _
  refine wp_region_cut 9 (by kernel_rfl) (by kernel_rfl) (S := fun W => W.cell? ⟨w.heap.size, 0, none⟩ = some (.int .i64 l.id) ∧ W.cell? ⟨w.heap.size, 1, none⟩ = some (.int .i64 l.ticks) ∧ W.cell? ⟨w.heap.size, 2, none⟩ = some (.int .i64 l.sx) ∧ W.cell? ⟨w.heap.size, 3, none⟩ = some (.int .i64 l.sy) ∧ W.cell? ⟨w.heap.size, 4, none⟩ = some (.slice l.wa l.wn l.wc) ∧ W.cell? ⟨w.heap.size, 5, none⟩ = some (.slice l.ga l.gn l.gc) ∧ W.cell? ⟨w.heap.size, 6, none⟩ = some (.int .i64 l.flx) ∧ W.cell? ⟨w.heap.size, 7, none⟩ = some (.int .i64 l.fly) ∧ W.cell? ⟨w.heap.size, 8, none⟩ = some (.int .i64 l.fhx) ∧ W.cell? ⟨w.heap.size, 9, none⟩ = some (.int .i64 l.fhy) ∧ W.cell? ⟨w.heap.size, 10, none⟩ = some (.int .i64 l.bans)) X2.L.c11 (fun hHeld => ?_)
  simp only [List.take_succ_cons, List.take_zero]
  (refine wpAnyH_take (i := 0) (v := ?_) rfl (by kernel_rfl) (by kernel_rfl) (by kernel_rfl) (fun _ _ _ h => h) (Or.inl ⟨by rfl, ?_⟩) (by assumption) ?_; rotate_left; · (intro w hSw; (try dsimp only at hSw); go_simp; (try with_reducible rfl))); (try simp only [Act.put, List.setIfInBounds_toArray, List.set_cons_zero, List.set_cons_succ])
  (refine wpAnyH_take (i := 1) (v := ?_) rfl (by kernel_rfl) (by kernel_rfl) (by kernel_rfl) (fun _ _ _ h => h) (Or.inl ⟨by rfl, ?_⟩) (by assumption) ?_; rotate_left; · (intro w hSw; (try dsimp only at hSw); go_simp; (try with_reducible rfl))); (try simp only [Act.put, List.setIfInBounds_toArray, List.set_cons_zero, List.set_cons_succ])
  (refine wpAnyH_take (i := 2) (v := ?_) rfl (by kernel_rfl) (by kernel_rfl) (by kernel_rfl) (fun _ _ _ h => h) (Or.inl ⟨by rfl, ?_⟩) (by assumption) ?_; rotate_left; · (intro w hSw; (try dsimp only at hSw); go_simp; (try with_reducible rfl))); (try simp only [Act.put, List.setIfInBounds_toArray, List.set_cons_zero, List.set_cons_succ])
  (refine wpAnyH_take (i := 3) (v := ?_) rfl (by kernel_rfl) (by kernel_rfl) (by kernel_rfl) (fun _ _ _ h => h) (Or.inl ⟨by rfl, ?_⟩) (by assumption) ?_; rotate_left; · (intro w hSw; (try dsimp only at hSw); go_simp; (try with_reducible rfl))); (try simp only [Act.put, List.setIfInBounds_toArray, List.set_cons_zero, List.set_cons_succ])
  (refine wpAnyH_take (i := 4) (v := ?_) rfl (by kernel_rfl) (by kernel_rfl) (by kernel_rfl) (fun _ _ _ h => h) (Or.inl ⟨by rfl, ?_⟩) (by assumption) ?_; rotate_left; · (intro w hSw; (try dsimp only at hSw); go_simp; (try with_reducible rfl))); (try simp only [Act.put, List.setIfInBounds_toArray, List.set_cons_zero, List.set_cons_succ])
  (refine wpAnyH_take (i := 5) (v := ?_) rfl (by kernel_rfl) (by kernel_rfl) (by kernel_rfl) (fun _ _ _ h => h) (Or.inl ⟨by rfl, ?_⟩) (by assumption) ?_; rotate_left; · (intro w hSw; (try dsimp only at hSw); go_simp; (try with_reducible rfl))); (try simp only [Act.put, List.setIfInBounds_toArray, List.set_cons_zero, List.set_cons_succ])
  rw [show IntKind.i64.wrap ((m : Int) + 1) = (m : Int) + 1 from IntWalk.i64_in _ (by omega)]
  generalize w1.drew = V0 at *
  refine wpAnyH_ready (rs := [6, 8]) (by kernel_rfl) (by simp) ?_
  refine AllReadyH.cons rfl (fun K hK => ?_) (AllReadyH.cons rfl (fun K hK => ?_) (AllReadyH.nil))
  · (try simp only [List.getElem_toArray, List.getElem_cons_succ, List.getElem_cons_zero])
    go_simp
    go_at_call 58
    refine (pick_any R k1 ((m : Int) + 1) _ X2.rd (by omega) (by omega) (by omega)).mono ?_
    rintro e V1 ⟨v, rfl, hv0, hv1, hr, hu⟩
    obtain ⟨n, rfl⟩ := Int.eq_ofNat_of_zero_le hv0
    have hnm : n ≤ m := by omega
    have X3 := X2.pass hr hu
    clear X2 hr hu
    go_wp2_with fail
    refine hK.out _ _ (X3.L.c11) (fun hHeld => ?_); clear hK K; (try simp only [Act.put, List.setIfInBounds_toArray, List.set_cons_zero, List.set_cons_succ])
    refine wpAnyH_ready (rs := [7, 8]) (by kernel_rfl) (by simp) ?_
    refine AllReadyH.cons rfl (fun K hK => ?_) (AllReadyH.cons rfl (fun K hK => ?_) (AllReadyH.nil))
    · (try simp only [List.getElem_toArray, List.getElem_cons_succ, List.getElem_cons_zero])
      go_simp
      go_at_call 98
      refine (lTo l (some ⟨g, 0, none⟩) m cap n f _ hn hgn (hl.up X3.up).1 hbv hs X3.O.ins (by omega) hnm (fun i hi => ⟨(hfb i hi).1, (hfb i hi).2.1⟩)).mono ?_
      rintro e V2 ⟨s, rfl, hb⟩
      have X4 := X3.passB hb
      clear X3 hb
      go_wp2_with fail
      refine hK.out _ _ (X4.L.c11) (fun hHeld => ?_); clear hK K; (try simp only [Act.put, List.setIfInBounds_toArray, List.set_cons_zero, List.set_cons_succ])
      refine wpAnyH_ready (rs := [8]) (by kernel_rfl) (by simp) ?_; refine AllReadyH.cons rfl (fun K hK => ?_) AllReadyH.nil; (try simp only [List.getElem_toArray, List.getElem_cons_succ, List.getElem_cons_zero])
      go_simp
      have bA := (Below.refl V2.heap.size V2).alloc (Nat.le_refl _) (.cells #[.int .i64 0, .int .i64 0, .int .i64 0, .int .i64 0, .int .i64 0, .int .i64 0, .int .i64 0, .bool false, .bool false] 31)
      have X5 := X4.passB bA
      have TX5 : Blk (V2.alloc (.cells #[.int .i64 0, .int .i64 0, .int .i64 0, .int .i64 0, .int .i64 0, .int .i64 0, .int .i64 0, .bool false, .bool false] 31)) V2.heap.size #[.int .i64 0, .int .i64 0, .int .i64 0, .int .i64 0, .int .i64 0, .int .i64 0, .int .i64 0, .bool false, .bool false] := Blk.at rfl
      have hzX5 : V2.heap.size < (V2.alloc (.cells #[.int .i64 0, .int .i64 0, .int .i64 0, .int .i64 0, .int .i64 0, .int .i64 0, .int .i64 0, .bool false, .bool false] 31)).heap.size := by simp
      refine hK.out _ _ (X5.L.c11) (fun hHeld => ?_); clear hK K; (try simp only [Act.put, List.setIfInBounds_toArray, List.set_cons_zero, List.set_cons_succ])
      have hzX := X4.Z.lt
      clear X4 bA
      refine wpAnyH_done (by kernel_rfl) ?_ _
      simp only [TailQ, List.drop_succ_cons, List.drop_zero]
      clear hHeld
      refine st_row rfl rfl TX5 (by kernel_rfl) rfl (by simp [Value.oneCell']) ?_
      refine wpList_nil ?_
      exact hfin.out V2.heap.size (k1 + 1) s _ _ _ _ _ _ _ _ _ _ _ _ _ _ _ _ _ _ _ _ _ _ _ _ _ _ _ _ _ _ _ _ _ _ _ _ _ _ _ _ _ _ _ _ _ _ _ _ _ _ _ _ (by omega) (by omega) (X5.seal TX5 (by omega))
    · (try simp only [List.getElem_toArray, List.getElem_cons_succ, List.getElem_cons_zero])
      go_simp
      have bA := (Below.refl V1.heap.size V1).alloc (Nat.le_refl _) (.cells #[.int .i64 0, .int .i64 0, .int .i64 0, .int .i64 0, .int .i64 0, .int .i64 0, .int .i64 0, .bool false, .bool false] 31)
      have X4 := X3.passB bA
      have TX4 : Blk (V1.alloc (.cells #[.int .i64 0, .int .i64 0, .int .i64 0, .int .i64 0, .int .i64 0, .int .i64 0, .int .i64 0, .bool false, .bool false] 31)) V1.heap.size #[.int .i64 0, .int .i64 0, .int .i64 0, .int .i64 0, .int .i64 0, .int .i64 0, .int .i64 0, .bool false, .bool false] := Blk.at rfl
      have hzX4 : V1.heap.size < (V1.alloc (.cells #[.int .i64 0, .int .i64 0, .int .i64 0, .int .i64 0, .int .i64 0, .int .i64 0, .int .i64 0, .bool false, .bool false] 31)).heap.size := by simp
      refine hK.out _ _ (X4.L.c11) (fun hHeld => ?_); clear hK K; (try simp only [Act.put, List.setIfInBounds_toArray, List.set_cons_zero, List.set_cons_succ])
      have hzX := X3.Z.lt
      clear X3 bA
      generalize V1.alloc (.cells #[.int .i64 0, .int .i64 0, .int .i64 0, .int .i64 0, .int .i64 0, .int .i64 0, .int .i64 0, .bool false, .bool false] 31) = V2 at *
      refine wpAnyH_ready (rs := [7]) (by kernel_rfl) (by simp) ?_; refine AllReadyH.cons rfl (fun K hK => ?_) AllReadyH.nil; (try simp only [List.getElem_toArray, List.getElem_cons_succ, List.getElem_cons_zero])
      go_simp
      go_at_call 98
      refine (lTo l (some ⟨g, 0, none⟩) m cap n f _ hn hgn (hl.up X4.up).1 hbv hs X4.O.ins (by omega) hnm (fun i hi => ⟨(hfb i hi).1, (hfb i hi).2.1⟩)).mono ?_
      rintro e V3 ⟨s, rfl, hb⟩
      have X5 := X4.passB hb
      have TX5 := TX4.below hb TX4.lt
      clear X4 TX4 hb
      go_wp2_with fail
      refine hK.out _ _ (X5.L.c11) (fun hHeld => ?_); clear hK K; (try simp only [Act.put, List.setIfInBounds_toArray, List.set_cons_zero, List.set_cons_succ])
      refine wpAnyH_done (by kernel_rfl) ?_ _
      simp only [TailQ, List.drop_succ_cons, List.drop_zero]
      clear hHeld
      refine st_row rfl rfl TX5 (by kernel_rfl) rfl (by simp [Value.oneCell']) ?_
      refine wpList_nil ?_
      exact hfin.out V1.heap.size (k1 + 1) s _ _ _ _ _ _ _ _ _ _ _ _ _ _ _ _ _ _ _ _ _ _ _ _ _ _ _ _ _ _ _ _ _ _ _ _ _ _ _ _ _ _ _ _ _ _ _ _ _ _ _ _ (by omega) (by omega) (X5.seal TX5 (by omega))
  · (try simp only [List.getElem_toArray, List.getElem_cons_succ, List.getElem_cons_zero])
    go_simp
    have bA := (Below.refl V0.heap.size V0).alloc (Nat.le_refl _) (.cells #[.int .i64 0, .int .i64 0, .int .i64 0, .int .i64 0, .int .i64 0, .int .i64 0, .int .i64 0, .bool false, .bool false] 31)
    have X3 := X2.passB bA
    have TX3 : Blk (V0.alloc (.cells #[.int .i64 0, .int .i64 0, .int .i64 0, .int .i64 0, .int .i64 0, .int .i64 0, .int .i64 0, .bool false, .bool false] 31)) V0.heap.size #[.int .i64 0, .int .i64 0, .int .i64 0, .int .i64 0, .int .i64 0, .int .i64 0, .int .i64 0, .bool false, .bool false] := Blk.at rfl
    have hzX3 : V0.heap.size < (V0.alloc (.cells #[.int .i64 0, .int .i64 0, .int .i64 0, .int .i64 0, .int .i64 0, .int .i64 0, .int .i64 0, .bool false, .bool false] 31)).heap.size := by simp
    refine hK.out _ _ (X3.L.c11) (fun hHeld => ?_); clear hK K; (try simp only [Act.put, List.setIfInBounds_toArray, List.set_cons_zero, List.set_cons_succ])
    have hzX := X2.Z.lt
    have hzR := X2.rd.lt
    clear X2 bA
    generalize V0.alloc (.cells #[.int .i64 0, .int .i64 0, .int .i64 0, .int .i64 0, .int .i64 0, .int .i64 0, .int .i64 0, .bool false, .bool false] 31) = V1 at *
    refine wpAnyH_ready (rs := [6]) (by kernel_rfl) (by simp) ?_; refine AllReadyH.cons rfl (fun K hK => ?_) AllReadyH.nil; (try simp only [List.getElem_toArray, List.getElem_cons_succ, List.getElem_cons_zero])
    go_simp
    go_at_call 58
    refine (pick_any R k1 ((m : Int) + 1) _ X3.rd (by omega) (by omega) (by omega)).mono ?_
    rintro e V2 ⟨v, rfl, hv0, hv1, hr, hu⟩
    obtain ⟨n, rfl⟩ := Int.eq_ofNat_of_zero_le hv0
    have hnm : n ≤ m := by omega
    have X4 := X3.pass hr hu
    have TX4 := TX3.up hu TX3.lt (by omega)
    clear X3 TX3 hr hu
    go_wp2_with fail
    refine hK.out _ _ (X4.L.c11) (fun hHeld => ?_); clear hK K; (try simp only [Act.put, List.setIfInBounds_toArray, List.set_cons_zero, List.set_cons_succ])
    refine wpAnyH_ready (rs := [7]) (by kernel_rfl) (by simp) ?_; refine AllReadyH.cons rfl (fun K hK => ?_) AllReadyH.nil; (try simp only [List.getElem_toArray, List.getElem_cons_succ, List.getElem_cons_zero])
    go_simp
    go_at_call 98
    refine (lTo l (some ⟨g, 0, none⟩) m cap n f _ hn hgn (hl.up X4.up).1 hbv hs X4.O.ins (by omega) hnm (fun i hi => ⟨(hfb i hi).1, (hfb i hi).2.1⟩)).mono ?_
    rintro e V3 ⟨s, rfl, hb⟩
    have X5 := X4.passB hb
    have TX5 := TX4.below hb TX4.lt
    clear X4 TX4 hb
    go_wp2_with fail
    refine hK.out _ _ (X5.L.c11) (fun hHeld => ?_); clear hK K; (try simp only [Act.put, List.setIfInBounds_toArray, List.set_cons_zero, List.set_cons_succ])
    refine wpAnyH_done (by kernel_rfl) ?_ _
    simp only [TailQ, List.drop_succ_cons, List.drop_zero]
    clear hHeld
    refine st_row rfl rfl TX5 (by kernel_rfl) rfl (by simp [Value.oneCell']) ?_
    refine wpList_nil ?_
    exact hfin.out V0.heap.size (k1 + 1) s _ _ _ _ _ _ _ _ _ _ _ _ _ _ _ _ _ _ _ _ _ _ _ _ _ _ _ _ _ _ _ _ _ _ _ _ _ _ _ _ _ _ _ _ _ _ _ _ _ _ _ _ (by omega) (by omega) (X5.seal TX5 (by omega))
end Go.Proofs.Ytnhjalijnociaaa

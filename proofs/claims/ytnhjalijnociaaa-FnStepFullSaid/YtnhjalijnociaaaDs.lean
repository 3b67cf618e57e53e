/- What the laws of a tick draw: a level, a state, an input. -/
import Derived.Test.YtnhjalijnociaaaQaz
import Derived.Test.YtnhjalijnociaaaQau
set_option linter.unusedVariables false
set_option linter.unusedSimpArgs false
namespace Go.Proofs.Ytnhjalijnociaaa
open Go.RowKit

theorem run_cut0 (a : Option Addr) (n c : Nat) (w : World) : (Instr.slice 25 (.slice a n c) none (some (.int .i64 0)) none).run Try.prog w = .ok (.slice a 0 c) w := by
  cases a with
  | none => simp [Instr.slice, go_sem, Try.underlying25]
  | some ad => simp [Instr.slice, go_sem, Try.underlying25]
attribute [local go_sem ↓] run_cut0
theorem step_store {P : Program} {ops : Array Oper} {o : Oper} {a : Act} {w : World} {K : Act → World → Prop} {Q : Exit → Act → World → Prop} {E : Prop} {g : Nat} {cells old : Array Value} (hgd : o.guard = none) (ty : TypeId) (x y : Operand) (ho : o.op = .store ty x y)
    (hx : a.eval x = .pointer (some ⟨g, 0, none⟩)) (hy : a.eval y = .agg cells) (hb : Blk w g old) (hi : (P.info? ty).map (·.size) = some cells.size) (hold : old.size = cells.size) (h1 : cells.all (·.oneCell') = true) (hK : K (a.put o.dst undef) (w.setRow g cells)) :
    if Region.wanted o (yielded ops a.tmps) = true then Oper.wp P o a w K Q else E := by
  obtain ⟨t0, hg⟩ := hb
  rw [if_pos (by simp [Region.wanted, hgd])]
  exact wp_store_row ty x y ho g cells hx hy t0 old hg hi hold h1 hK
/-- a level, a state, an input drawn by a law -/
def DrawnStep (w : World) (e : Ending) (w' : World) : Prop :=
  ∃ (l : Lv) (s : St) (d p : Int) (b : Bool), e = .returned (.tuple #[.agg #[.int .i64 l.id, .int .i64 l.ticks, .int .i64 l.sx, .int .i64 l.sy, .slice l.wa l.wn l.wc, .slice l.ga l.gn l.gc, .int .i64 l.flx, .int .i64 l.fly, .int .i64 l.fhx, .int .i64 l.fhy, .int .i64 l.bans], .agg #[.int .i64 s.tick, .int .i64 s.ax, .int .i64 s.ay, .int .i64 s.fx, .int .i64 s.fy, .int .i64 s.turn, .int .i64 s.gate, .bool s.done, .bool s.over], .agg #[.int .i64 d, .int .i64 p, .bool b]]) ∧ LvAt w' l ∧ l.sm 6 ∧ Below w.heap.size w w'
/-- the variables of the draw: the reader, the three results, the level, the state -/
structure MI (w0 v : World) (R k P Q : Nat) (l : Lv) (s : Array Value) (w : World) : Prop where
  rd : Rd w R k
  up : Up R w0.heap.size w0 w
  zl : Blk w w0.heap.size #[.int .i64 0, .int .i64 0, .int .i64 0, .int .i64 0, .slice none 0 0, .slice none 0 0, .int .i64 0, .int .i64 0, .int .i64 0, .int .i64 0, .int .i64 0]
  zs : Blk w (w0.heap.size + 1) #[.int .i64 0, .int .i64 0, .int .i64 0, .int .i64 0, .int .i64 0, .int .i64 0, .int .i64 0, .bool false, .bool false]
  zx : Blk w (w0.heap.size + 1 + 1) #[.int .i64 0, .int .i64 0, .bool false]
  L : Blk w P #[.int .i64 l.id, .int .i64 l.ticks, .int .i64 l.sx, .int .i64 l.sy, .slice l.wa l.wn l.wc, .slice l.ga l.gn l.gc, .int .i64 l.flx, .int .i64 l.fly, .int .i64 l.fhx, .int .i64 l.fhy, .int .i64 l.bans]
  S : Blk w Q s
  lv : LvR v R l
  vu : Up R v.heap.size v w
  hR : w0.heap.size + 1 + 1 < R
  hP : R < P
  hQ : P < Q
  hv : v.heap.size ≤ P
theorem MI.lvR {w0 v w : World} {R k P Q : Nat} {l : Lv} {s : Array Value} (h : MI w0 v R k P Q l s w) : LvR w R l := h.lv.up h.vu
theorem MI.pass {w0 v w w' : World} {R k k' P Q : Nat} {l : Lv} {s : Array Value} (h : MI w0 v R k P Q l s w) (hr : Rd w' R k') (hu : Up R w.heap.size w w') : MI w0 v R k' P Q l s w' := by
  have e1 := h.hR; have e2 := h.hP; have e3 := h.hQ
  exact ⟨hr, h.up.trans (hu.mono h.up.size), h.zl.up hu h.zl.lt (by omega), h.zs.up hu h.zs.lt (by omega), h.zx.up hu h.zx.lt (by omega), h.L.up hu h.L.lt (by omega), h.S.up hu h.S.lt (by omega), h.lv, h.vu.trans (hu.mono h.vu.size), h.hR, h.hP, h.hQ, h.hv⟩
theorem MI.drew {w0 v w : World} {R k P Q : Nat} {l : Lv} {s : Array Value} (h : MI w0 v R k P Q l s w) : MI w0 v R k P Q l s w.drew := ⟨h.rd, h.up.drew, h.zl, h.zs, h.zx, h.L, h.S, h.lv, h.vu.drew, h.hR, h.hP, h.hQ, h.hv⟩
theorem MI.setS {w0 v w : World} {R k P Q : Nat} {l : Lv} {s : Array Value} (h : MI w0 v R k P Q l s w) (i : Nat) (x : Value) : MI w0 v R k P Q l (s.setIfInBounds i x) (w.setCell ⟨Q, i, none⟩ x) := by
  have e1 := h.hR; have e2 := h.hP; have e3 := h.hQ; have e4 := h.hv
  exact ⟨h.rd.keep (Below.setCell (p := ⟨Q, i, none⟩) (Below.refl _ _) (by simp only; omega) _), h.up.setCell (p := ⟨Q, i, none⟩) (.inr (by simp only; omega)) _, h.zl.other (by simp only; omega) _, h.zs.other (by simp only; omega) _, h.zx.other (by simp only; omega) _, h.L.other (by simp only; omega) _, h.S.set i x, h.lv, h.vu.setCell (p := ⟨Q, i, none⟩) (.inr (by simp only; omega)) _, h.hR, h.hP, h.hQ, h.hv⟩
theorem upRow (A : Nat) (w : World) (c : Array Value) : Up A w.heap.size w (w.setRow A c) := ⟨rfl, rfl, rfl, by simp, fun k _ hr => setRow_other w A k c hr⟩
theorem MI.setAll {w0 v w : World} {R k P Q : Nat} {l : Lv} {a0 a1 a2 a3 a4 a5 a6 a7 a8 : Value} (h : MI w0 v R k P Q l #[a0, a1, a2, a3, a4, a5, a6, a7, a8] w) (b0 b1 b2 b3 b4 b5 b6 b7 b8 : Value) : MI w0 v R k P Q l #[b0, b1, b2, b3, b4, b5, b6, b7, b8] (((((((((w.setCell ⟨Q, 0, none⟩ b0).setCell ⟨Q, 1, none⟩ b1).setCell ⟨Q, 2, none⟩ b2).setCell ⟨Q, 3, none⟩ b3).setCell ⟨Q, 4, none⟩ b4).setCell ⟨Q, 5, none⟩ b5).setCell ⟨Q, 6, none⟩ b6).setCell ⟨Q, 7, none⟩ b7).setCell ⟨Q, 8, none⟩ b8) := by
  have h1 : MI w0 v R k P Q l #[b0, a1, a2, a3, a4, a5, a6, a7, a8] (w.setCell ⟨Q, 0, none⟩ b0) := h.setS 0 b0
  have h2 : MI w0 v R k P Q l #[b0, b1, a2, a3, a4, a5, a6, a7, a8] ((w.setCell ⟨Q, 0, none⟩ b0).setCell ⟨Q, 1, none⟩ b1) := h1.setS 1 b1
  have h3 : MI w0 v R k P Q l #[b0, b1, b2, a3, a4, a5, a6, a7, a8] (((w.setCell ⟨Q, 0, none⟩ b0).setCell ⟨Q, 1, none⟩ b1).setCell ⟨Q, 2, none⟩ b2) := h2.setS 2 b2
  have h4 : MI w0 v R k P Q l #[b0, b1, b2, b3, a4, a5, a6, a7, a8] ((((w.setCell ⟨Q, 0, none⟩ b0).setCell ⟨Q, 1, none⟩ b1).setCell ⟨Q, 2, none⟩ b2).setCell ⟨Q, 3, none⟩ b3) := h3.setS 3 b3
  have h5 : MI w0 v R k P Q l #[b0, b1, b2, b3, b4, a5, a6, a7, a8] (((((w.setCell ⟨Q, 0, none⟩ b0).setCell ⟨Q, 1, none⟩ b1).setCell ⟨Q, 2, none⟩ b2).setCell ⟨Q, 3, none⟩ b3).setCell ⟨Q, 4, none⟩ b4) := h4.setS 4 b4
  have h6 : MI w0 v R k P Q l #[b0, b1, b2, b3, b4, b5, a6, a7, a8] ((((((w.setCell ⟨Q, 0, none⟩ b0).setCell ⟨Q, 1, none⟩ b1).setCell ⟨Q, 2, none⟩ b2).setCell ⟨Q, 3, none⟩ b3).setCell ⟨Q, 4, none⟩ b4).setCell ⟨Q, 5, none⟩ b5) := h5.setS 5 b5
  have h7 : MI w0 v R k P Q l #[b0, b1, b2, b3, b4, b5, b6, a7, a8] (((((((w.setCell ⟨Q, 0, none⟩ b0).setCell ⟨Q, 1, none⟩ b1).setCell ⟨Q, 2, none⟩ b2).setCell ⟨Q, 3, none⟩ b3).setCell ⟨Q, 4, none⟩ b4).setCell ⟨Q, 5, none⟩ b5).setCell ⟨Q, 6, none⟩ b6) := h6.setS 6 b6
  have h8 : MI w0 v R k P Q l #[b0, b1, b2, b3, b4, b5, b6, b7, a8] ((((((((w.setCell ⟨Q, 0, none⟩ b0).setCell ⟨Q, 1, none⟩ b1).setCell ⟨Q, 2, none⟩ b2).setCell ⟨Q, 3, none⟩ b3).setCell ⟨Q, 4, none⟩ b4).setCell ⟨Q, 5, none⟩ b5).setCell ⟨Q, 6, none⟩ b6).setCell ⟨Q, 7, none⟩ b7) := h7.setS 7 b7
  have h9 : MI w0 v R k P Q l #[b0, b1, b2, b3, b4, b5, b6, b7, b8] (((((((((w.setCell ⟨Q, 0, none⟩ b0).setCell ⟨Q, 1, none⟩ b1).setCell ⟨Q, 2, none⟩ b2).setCell ⟨Q, 3, none⟩ b3).setCell ⟨Q, 4, none⟩ b4).setCell ⟨Q, 5, none⟩ b5).setCell ⟨Q, 6, none⟩ b6).setCell ⟨Q, 7, none⟩ b7).setCell ⟨Q, 8, none⟩ b8) := h8.setS 8 b8
  exact h9
/-- the level without its walls -/
def Lv.bare (l : Lv) : Lv := { l with wn := 0 }
theorem MI.cut {w0 v w : World} {R k P Q : Nat} {l : Lv} {s : Array Value} (h : MI w0 v R k P Q l s w) : MI w0 v R k P Q l.bare s (w.setCell ⟨P, 4, none⟩ (.slice l.wa 0 l.wc)) := by
  have e1 := h.hR; have e2 := h.hP; have e3 := h.hQ; have e4 := h.hv
  exact ⟨h.rd.keep (Below.setCell (p := ⟨P, 4, none⟩) (Below.refl _ _) (by simp only; omega) _), h.up.setCell (p := ⟨P, 4, none⟩) (.inr (by simp only; omega)) _, h.zl.other (by simp only; omega) _, h.zs.other (by simp only; omega) _, h.zx.other (by simp only; omega) _, h.L.s11_4 _, h.S.other (by simp only; omega) _, ⟨⟨.inl rfl, h.lv.1.2⟩, h.lv.2⟩, h.vu.setCell (p := ⟨P, 4, none⟩) (.inr (by simp only; omega)) _, h.hR, h.hP, h.hQ, h.hv⟩
theorem Lv.bare_sm {l : Lv} {n : Nat} (h : l.sm n) : l.bare.sm n := ⟨Nat.zero_le _, h.gn, h.id, h.ticks, h.sx, h.sy, h.fin, h.bans, fun i hi => absurd hi (Nat.not_lt_zero _), h.gates, Nat.zero_le _, h.gcap⟩
/-- what is handed back -/
theorem MI.fin {w0 v w : World} {R k P Q : Nat} {l k6 : Lv} {s : Array Value} (h : MI w0 v R k P Q l s w) (hk : LvR w R k6) (a b c : Array Value) :
    Blk (((w.setRow w0.heap.size a).setRow (w0.heap.size + 1) b).setRow (w0.heap.size + 1 + 1) c) w0.heap.size a ∧ Blk (((w.setRow w0.heap.size a).setRow (w0.heap.size + 1) b).setRow (w0.heap.size + 1 + 1) c) (w0.heap.size + 1) b ∧ Blk (((w.setRow w0.heap.size a).setRow (w0.heap.size + 1) b).setRow (w0.heap.size + 1 + 1) c) (w0.heap.size + 1 + 1) c ∧
    LvAt (((w.setRow w0.heap.size a).setRow (w0.heap.size + 1) b).setRow (w0.heap.size + 1 + 1) c) k6 ∧ Below w0.heap.size w0 (((w.setRow w0.heap.size a).setRow (w0.heap.size + 1) b).setRow (w0.heap.size + 1 + 1) c) := by
  have e1 := h.hR
  refine ⟨((h.zl.row a).rowOther (by omega) b).rowOther (by omega) c, ((h.zs.rowOther (by omega) a).row b).rowOther (by omega) c, ((h.zx.rowOther (by omega) a).rowOther (by omega) b).row c, ?_, ?_⟩
  · exact (((hk.set (upRow w0.heap.size w a) (by omega)).set (upRow (w0.heap.size + 1) _ b) (by omega)).set (upRow (w0.heap.size + 1 + 1) _ c) (by omega)).1
  · exact (((h.up.setRow (Nat.le_refl _) a).setRow (by omega) b).setRow (by omega) c).below (by omega)
set_option maxRecDepth 100000 in
set_option maxHeartbeats 2000000 in
theorem dEngineStep (a : Option Addr) (len cap : Nat) (zs : List Int) (w : World) (h : IsRow .u8 w a len cap zs) : Calls Try.prog 24 #[.slice a len cap] w (DrawnStep w) := by
  go_enter Try.func24, Try.ntmps24
  go_wp2_with fail
  refine (open_any _ _ _ _ _ (h.keep (by (repeat (first | with_reducible assumption | with_reducible exact Below.refl _ _ | ((with_reducible refine Below.alloc ?_ ?_ _); rotate_left; · exact (by first | omega | (simp; done) | (simp; omega))) | ((with_reducible refine Below.setCell ?_ ?_ _); rotate_left; · exact (by first | omega | (simp; done) | (simp; omega))) | with_reducible refine Below.drew ?_ | assumption | exact Below.refl _ _ | refine Below.alloc ?_ (by first | omega | (simp; done) | (simp; omega)) _ | refine Below.setCell ?_ (by first | omega | (simp; done) | (simp; omega)) _ | refine Below.drew ?_))))).mono ?_
  rintro e w1 ⟨R, rfl, hR0, hr1, hb1⟩
  have hR : w.heap.size + 1 + 1 < R := by simp at hR0; omega
  have ZL1 : Blk w1 w.heap.size #[.int .i64 0, .int .i64 0, .int .i64 0, .int .i64 0, .slice none 0 0, .slice none 0 0, .int .i64 0, .int .i64 0, .int .i64 0, .int .i64 0, .int .i64 0] := (((Blk.at rfl).alloc _).alloc _).below hb1 (by simp; omega)
  have ZS1 : Blk w1 (w.heap.size + 1) #[.int .i64 0, .int .i64 0, .int .i64 0, .int .i64 0, .int .i64 0, .int .i64 0, .int .i64 0, .bool false, .bool false] := ((Blk.at (by simp)).alloc _).below hb1 (by simp)
  have ZX1 : Blk w1 (w.heap.size + 1 + 1) #[.int .i64 0, .int .i64 0, .bool false] := (Blk.at (by simp)).below hb1 (by simp)
  have hU1 : Up R w.heap.size w w1 := Up.of_below (bstep (by (repeat (first | with_reducible assumption | with_reducible exact Below.refl _ _ | ((with_reducible refine Below.alloc ?_ ?_ _); rotate_left; · exact (by first | omega | (simp; done) | (simp; omega))) | ((with_reducible refine Below.setCell ?_ ?_ _); rotate_left; · exact (by first | omega | (simp; done) | (simp; omega))) | with_reducible refine Below.drew ?_ | assumption | exact Below.refl _ _ | refine Below.alloc ?_ (by first | omega | (simp; done) | (simp; omega)) _ | refine Below.setCell ?_ (by first | omega | (simp; done) | (simp; omega)) _ | refine Below.drew ?_))) (by first | omega | (simp; done) | (simp; omega)) hb1)
  have hRl := hr1.lt
  clear hb1 hR0
  go_wp2_with fail
  refine (lLevel_first R 0 _ hr1 (by omega)).mono ?_
  rintro e w2 ⟨l, k2, rfl, hl2, hs2, hbv, hvk, ⟨n0, n3⟩, hk1, hk2, hr2, hu2⟩
  have hwn := hs2.wn
  have hgn := hs2.gn
  have hR2 := hr2.lt
  have bA := (Below.refl w2.heap.size w2).alloc (Nat.le_refl _) (.cells #[.int .i64 l.id, .int .i64 l.ticks, .int .i64 l.sx, .int .i64 l.sy, .slice l.wa l.wn l.wc, .slice l.ga l.gn l.gc, .int .i64 l.flx, .int .i64 l.fly, .int .i64 l.fhx, .int .i64 l.fhy, .int .i64 l.bans] 29)
  have ZL2 := (ZL1.up hu2 ZL1.lt (by omega)).alloc (.cells #[.int .i64 l.id, .int .i64 l.ticks, .int .i64 l.sx, .int .i64 l.sy, .slice l.wa l.wn l.wc, .slice l.ga l.gn l.gc, .int .i64 l.flx, .int .i64 l.fly, .int .i64 l.fhx, .int .i64 l.fhy, .int .i64 l.bans] 29)
  have ZS2 := (ZS1.up hu2 ZS1.lt (by omega)).alloc (.cells #[.int .i64 l.id, .int .i64 l.ticks, .int .i64 l.sx, .int .i64 l.sy, .slice l.wa l.wn l.wc, .slice l.ga l.gn l.gc, .int .i64 l.flx, .int .i64 l.fly, .int .i64 l.fhx, .int .i64 l.fhy, .int .i64 l.bans] 29)
  have ZX2 := (ZX1.up hu2 ZX1.lt (by omega)).alloc (.cells #[.int .i64 l.id, .int .i64 l.ticks, .int .i64 l.sx, .int .i64 l.sy, .slice l.wa l.wn l.wc, .slice l.ga l.gn l.gc, .int .i64 l.flx, .int .i64 l.fly, .int .i64 l.fhx, .int .i64 l.fhy, .int .i64 l.bans] 29)
  have PL2 : Blk (w2.alloc (.cells #[.int .i64 l.id, .int .i64 l.ticks, .int .i64 l.sx, .int .i64 l.sy, .slice l.wa l.wn l.wc, .slice l.ga l.gn l.gc, .int .i64 l.flx, .int .i64 l.fly, .int .i64 l.fhx, .int .i64 l.fhy, .int .i64 l.bans] 29)) w2.heap.size #[.int .i64 l.id, .int .i64 l.ticks, .int .i64 l.sx, .int .i64 l.sy, .slice l.wa l.wn l.wc, .slice l.ga l.gn l.gc, .int .i64 l.flx, .int .i64 l.fly, .int .i64 l.fhx, .int .i64 l.fhy, .int .i64 l.bans] := Blk.at rfl
  have hU2 := (hU1.trans (hu2.mono hU1.size)).alloc (hU1.trans (hu2.mono hU1.size)).size (.cells #[.int .i64 l.id, .int .i64 l.ticks, .int .i64 l.sx, .int .i64 l.sy, .slice l.wa l.wn l.wc, .slice l.ga l.gn l.gc, .int .i64 l.flx, .int .i64 l.fly, .int .i64 l.fhx, .int .i64 l.fhy, .int .i64 l.bans] 29)
  have hr2' := hr2.keep (bA.mono hR2)
  have hl2' := hl2.below bA
  have vU2 : Up R w2.heap.size w2 (w2.alloc (.cells #[.int .i64 l.id, .int .i64 l.ticks, .int .i64 l.sx, .int .i64 l.sy, .slice l.wa l.wn l.wc, .slice l.ga l.gn l.gc, .int .i64 l.flx, .int .i64 l.fly, .int .i64 l.fhx, .int .i64 l.fhy, .int .i64 l.bans] 29)) := Up.of_below bA
  clear ZL1 ZS1 ZX1 hU1 hu2 hr1 hr2
  have hzV : w2.heap.size < (w2.alloc (.cells #[.int .i64 l.id, .int .i64 l.ticks, .int .i64 l.sx, .int .i64 l.sy, .slice l.wa l.wn l.wc, .slice l.ga l.gn l.gc, .int .i64 l.flx, .int .i64 l.fly, .int .i64 l.fhx, .int .i64 l.fhy, .int .i64 l.bans] 29)).heap.size := by simp
  go_wp2_with fail
  refine (lState R k2 l _ hr2' (by omega) hwn hgn n0 n3 hl2' hbv hvk).mono ?_
  rintro e w3 ⟨s, k3, rfl, hk3, hk4, hr3, hu3⟩
  have hz3 := hu3.size
  have bS := (Below.refl w3.heap.size w3).alloc (Nat.le_refl _) (.cells #[.int .i64 s.tick, .int .i64 s.ax, .int .i64 s.ay, .int .i64 s.fx, .int .i64 s.fy, .int .i64 s.turn, .int .i64 s.gate, .bool s.done, .bool s.over] 31)
  have hR3 := hr3.lt
  have M4 : MI w w2 R k3 w2.heap.size w3.heap.size l #[.int .i64 s.tick, .int .i64 s.ax, .int .i64 s.ay, .int .i64 s.fx, .int .i64 s.fy, .int .i64 s.turn, .int .i64 s.gate, .bool s.done, .bool s.over] (w3.alloc (.cells #[.int .i64 s.tick, .int .i64 s.ax, .int .i64 s.ay, .int .i64 s.fx, .int .i64 s.fy, .int .i64 s.turn, .int .i64 s.gate, .bool s.done, .bool s.over] 31)) :=
    ⟨hr3.keep (bS.mono hR3), (hU2.trans (hu3.mono hU2.size)).alloc (hU2.trans (hu3.mono hU2.size)).size _, (ZL2.up hu3 ZL2.lt (by omega)).alloc _, (ZS2.up hu3 ZS2.lt (by omega)).alloc _, (ZX2.up hu3 ZX2.lt (by omega)).alloc _, (PL2.up hu3 PL2.lt (by omega)).alloc _, Blk.at rfl, hl2, (vU2.trans (hu3.mono vU2.size)).alloc (vU2.trans (hu3.mono vU2.size)).size _, hR, hR2, by omega, Nat.le_refl _⟩
  clear ZL2 ZS2 ZX2 PL2 hU2 hr2' hl2' vU2 hr3 hu3 bA bS hl2 hzV hz3 hR3
  generalize hP : w2.heap.size = P at *
  go_wp2_with fail
  refine (pick_any R k3 10 _ M4.rd (by omega) (by omega) (by omega)).mono ?_
  rintro e w5 ⟨v, rfl, hv0, hv1, hr5, hu5⟩
  have M5 := M4.pass hr5 hu5
  generalize w3.heap.size = Q at *
  clear M4 hr5 hu5
  have hzP := M5.L.lt
  have hzQ := M5.S.lt
  by_cases hv : v = 0
  · subst hv
    obtain ⟨c0, c1, c2, c3, c4, c5, c6, c7, c8⟩ := M5.S.c9
    have cf := M5.S.frozen
    have lf := M5.L.frozen
    (try clear q0 q1 q2 q3 q4 q5 q6 q7 q8 q9 q10); obtain ⟨q0, q1, q2, q3, q4, q5, q6, q7, q8, q9, q10⟩ := M5.L.c11
    have hne : P ≠ Q := by have := M5.hQ; omega
    have hsm0 := Lv.bare_sm hs2
    obtain ⟨lb, hlb⟩ : ∃ lb, lb = l.bare := ⟨_, rfl⟩
    rw [← hlb] at hsm0
    obtain ⟨s6, hs6⟩ : ∃ s6 : St, s6 = ⟨0, 999000, 0, 1500, 0, 0, 0, false, false⟩ := ⟨_, rfl⟩
    have M6 : MI w w2 R (k3 + 1) P Q lb #[.int .i64 s6.tick, .int .i64 s6.ax, .int .i64 s6.ay, .int .i64 s6.fx, .int .i64 s6.fy, .int .i64 s6.turn, .int .i64 s6.gate, .bool s6.done, .bool s6.over] ((((((((((w5.setCell ⟨Q, 0, none⟩ (.int .i64 0)).setCell ⟨Q, 1, none⟩ (.int .i64 999000)).setCell ⟨Q, 2, none⟩ (.int .i64 0)).setCell ⟨Q, 3, none⟩ (.int .i64 1500)).setCell ⟨Q, 4, none⟩ (.int .i64 0)).setCell ⟨Q, 5, none⟩ (.int .i64 0)).setCell ⟨Q, 6, none⟩ (.int .i64 0)).setCell ⟨Q, 7, none⟩ (.bool false)).setCell ⟨Q, 8, none⟩ (.bool false)).setCell ⟨P, 4, none⟩ (.slice l.wa 0 l.wc)) := by
      rw [hlb, hs6]
      exact (M5.setAll (.int .i64 0) (.int .i64 999000) (.int .i64 0) (.int .i64 1500) (.int .i64 0) (.int .i64 0) (.int .i64 0) (.bool false) (.bool false)).cut
    clear hlb hs6 M5
    go_upto_region 7 with fail
    clear c0 c1 c2 c3 c4 c5 c6 c7 c8 cf lf q0 q1 q2 q3 q4 q5 q6 q7 q8 q9 q10
    generalize ((((((((((w5.setCell ⟨Q, 0, none⟩ (.int .i64 0)).setCell ⟨Q, 1, none⟩ (.int .i64 999000)).setCell ⟨Q, 2, none⟩ (.int .i64 0)).setCell ⟨Q, 3, none⟩ (.int .i64 1500)).setCell ⟨Q, 4, none⟩ (.int .i64 0)).setCell ⟨Q, 5, none⟩ (.int .i64 0)).setCell ⟨Q, 6, none⟩ (.int .i64 0)).setCell ⟨Q, 7, none⟩ (.bool false)).setCell ⟨Q, 8, none⟩ (.bool false)).setCell ⟨P, 4, none⟩ (.slice l.wa 0 l.wc)) = w6 at *
    have M6 := M6.drew
    refine wp_region_held_drew (S := fun W => (W.cell? ⟨P, 0, none⟩ = some (.int .i64 lb.id) ∧ W.cell? ⟨P, 1, none⟩ = some (.int .i64 lb.ticks) ∧ W.cell? ⟨P, 2, none⟩ = some (.int .i64 lb.sx) ∧ W.cell? ⟨P, 3, none⟩ = some (.int .i64 lb.sy) ∧ W.cell? ⟨P, 4, none⟩ = some (.slice lb.wa lb.wn lb.wc) ∧ W.cell? ⟨P, 5, none⟩ = some (.slice lb.ga lb.gn lb.gc) ∧ W.cell? ⟨P, 6, none⟩ = some (.int .i64 lb.flx) ∧ W.cell? ⟨P, 7, none⟩ = some (.int .i64 lb.fly) ∧ W.cell? ⟨P, 8, none⟩ = some (.int .i64 lb.fhx) ∧ W.cell? ⟨P, 9, none⟩ = some (.int .i64 lb.fhy) ∧ W.cell? ⟨P, 10, none⟩ = some (.int .i64 lb.bans)) ∧ (W.cell? ⟨Q, 0, none⟩ = some (.int .i64 s6.tick) ∧ W.cell? ⟨Q, 1, none⟩ = some (.int .i64 s6.ax) ∧ W.cell? ⟨Q, 2, none⟩ = some (.int .i64 s6.ay) ∧ W.cell? ⟨Q, 3, none⟩ = some (.int .i64 s6.fx) ∧ W.cell? ⟨Q, 4, none⟩ = some (.int .i64 s6.fy) ∧ W.cell? ⟨Q, 5, none⟩ = some (.int .i64 s6.turn) ∧ W.cell? ⟨Q, 6, none⟩ = some (.int .i64 s6.gate) ∧ W.cell? ⟨Q, 7, none⟩ = some (.bool s6.done) ∧ W.cell? ⟨Q, 8, none⟩ = some (.bool s6.over))) (by kernel_rfl) ⟨M6.L.c11, M6.S.c9⟩ (fun hHeld => ?_)
    simp only [List.size_toArray, List.length_cons, List.length_nil, Nat.zero_add, Nat.reduceAdd]
    (refine wpAnyH_take (i := 0) (v := ?_) rfl (by kernel_rfl) (by kernel_rfl) (by kernel_rfl) (fun _ _ _ h => h) (Or.inl ⟨by rfl, ?_⟩) (by assumption) ?_; rotate_left; · (intro w hSw; (try dsimp only at hSw); go_simp; (try with_reducible rfl))); (try simp only [Act.put, List.setIfInBounds_toArray, List.set_cons_zero, List.set_cons_succ])
    (refine wpAnyH_take (i := 1) (v := ?_) rfl (by kernel_rfl) (by kernel_rfl) (by kernel_rfl) (fun _ _ _ h => h) (Or.inl ⟨by rfl, ?_⟩) (by assumption) ?_; rotate_left; · (intro w hSw; (try dsimp only at hSw); go_simp; (try with_reducible rfl))); (try simp only [Act.put, List.setIfInBounds_toArray, List.set_cons_zero, List.set_cons_succ])
    (refine wpAnyH_take (i := 3) (v := ?_) rfl (by kernel_rfl) (by kernel_rfl) (by kernel_rfl) (fun _ _ _ h => h) (Or.inl ⟨by rfl, ?_⟩) (by assumption) ?_; rotate_left; · (intro w hSw; (try dsimp only at hSw); go_simp; (try with_reducible rfl))); (try simp only [Act.put, List.setIfInBounds_toArray, List.set_cons_zero, List.set_cons_succ])
    (refine wpAnyH_take (i := 4) (v := ?_) rfl (by kernel_rfl) (by kernel_rfl) (by kernel_rfl) (fun _ _ _ h => h) (Or.inl ⟨by rfl, ?_⟩) (by assumption) ?_; rotate_left; · (intro w hSw; (try dsimp only at hSw); go_simp; (try with_reducible rfl))); (try simp only [Act.put, List.setIfInBounds_toArray, List.set_cons_zero, List.set_cons_succ])
    refine wpAnyH_ready (rs := [2]) (by kernel_rfl) (by simp) ?_; refine AllReadyH.cons rfl (fun K hK => ?_) AllReadyH.nil; (try simp only [List.getElem_toArray, List.getElem_cons_succ, List.getElem_cons_zero])
    go_simp
    go_at_call 59
    refine (lBent_any R (k3 + 1) lb _ M6.rd (by omega) M6.lvR hsm0).mono ?_
    rintro e w7 ⟨l6, k6, rfl, hl6, hs6, hk7, hk8, hr7, hu7⟩
    have M7 := M6.pass hr7 hu7
    clear hr7 hu7
    go_wp2_with fail
    refine hK.out _ _ (⟨M7.L.c11, M7.S.c9⟩) (fun hHeld => ?_); clear hK K; (try simp only [Act.put, List.setIfInBounds_toArray, List.set_cons_zero, List.set_cons_succ])
    refine wpAnyH_ready (rs := [5]) (by kernel_rfl) (by simp) ?_; refine AllReadyH.cons rfl (fun K hK => ?_) AllReadyH.nil; (try simp only [List.getElem_toArray, List.getElem_cons_succ, List.getElem_cons_zero])
    go_simp
    go_at_call 60
    refine (lInput_any R k6 _ M7.rd (by omega)).mono ?_
    rintro e w8 ⟨x, xp, xb, k8, rfl, hx1, hx2, hx3, hx4, hx5, hx6, hr8, hu8⟩
    have M8 := M7.pass hr8 hu8
    have hl8 := hl6.up hu8
    clear M7 hr8 hu8 hl6
    go_wp2_with fail
    refine hK.out _ _ (⟨M8.L.c11, M8.S.c9⟩) (fun hHeld => ?_); clear hK K; (try simp only [Act.put, List.setIfInBounds_toArray, List.set_cons_zero, List.set_cons_succ])
    have hR1 := M8.hR
    have hR2 := M8.hP
    have hR3 := M8.hQ
    obtain ⟨f1, f2, f3, f4, f5⟩ := M8.fin hl8 #[.int .i64 l6.id, .int .i64 l6.ticks, .int .i64 l6.sx, .int .i64 l6.sy, .slice l6.wa l6.wn l6.wc, .slice l6.ga l6.gn l6.gc, .int .i64 l6.flx, .int .i64 l6.fly, .int .i64 l6.fhx, .int .i64 l6.fhy, .int .i64 l6.bans] #[.int .i64 s6.tick, .int .i64 s6.ax, .int .i64 s6.ay, .int .i64 s6.fx, .int .i64 s6.fy, .int .i64 s6.turn, .int .i64 s6.gate, .bool s6.done, .bool s6.over] #[.int .i64 x, .int .i64 xp, .bool xb]
    have V8 := M8.L.rowOther (g := w.heap.size) (by omega) #[.int .i64 l6.id, .int .i64 l6.ticks, .int .i64 l6.sx, .int .i64 l6.sy, .slice l6.wa l6.wn l6.wc, .slice l6.ga l6.gn l6.gc, .int .i64 l6.flx, .int .i64 l6.fly, .int .i64 l6.fhx, .int .i64 l6.fhy, .int .i64 l6.bans]
    have U8 := M8.S.rowOther (g := w.heap.size) (by omega) #[.int .i64 l6.id, .int .i64 l6.ticks, .int .i64 l6.sx, .int .i64 l6.sy, .slice l6.wa l6.wn l6.wc, .slice l6.ga l6.gn l6.gc, .int .i64 l6.flx, .int .i64 l6.fly, .int .i64 l6.fhx, .int .i64 l6.fhy, .int .i64 l6.bans]
    have Y8 := M8.zs.rowOther (g := w.heap.size) (by omega) #[.int .i64 l6.id, .int .i64 l6.ticks, .int .i64 l6.sx, .int .i64 l6.sy, .slice l6.wa l6.wn l6.wc, .slice l6.ga l6.gn l6.gc, .int .i64 l6.flx, .int .i64 l6.fly, .int .i64 l6.fhx, .int .i64 l6.fhy, .int .i64 l6.bans]
    have X8 := M8.zx.rowOther (g := w.heap.size) (by omega) #[.int .i64 l6.id, .int .i64 l6.ticks, .int .i64 l6.sx, .int .i64 l6.sy, .slice l6.wa l6.wn l6.wc, .slice l6.ga l6.gn l6.gc, .int .i64 l6.flx, .int .i64 l6.fly, .int .i64 l6.fhx, .int .i64 l6.fhy, .int .i64 l6.bans]
    refine wpAnyH_ready (rs := [6]) (by kernel_rfl) (by simp) ?_; refine AllReadyH.cons rfl (fun K hK => ?_) AllReadyH.nil
    refine step_store (by rfl) _ _ _ (by rfl) (by rfl) (by rfl) M8.zl (by kernel_rfl) (by rfl) (by simp [Value.oneCell']) ?_
    refine hK.out _ _ (⟨V8.c11, U8.c9⟩) (fun hHeld => ?_); clear hK K; (try simp only [Act.put, List.setIfInBounds_toArray, List.set_cons_zero, List.set_cons_succ])
    generalize w8.setRow w.heap.size #[.int .i64 l6.id, .int .i64 l6.ticks, .int .i64 l6.sx, .int .i64 l6.sy, .slice l6.wa l6.wn l6.wc, .slice l6.ga l6.gn l6.gc, .int .i64 l6.flx, .int .i64 l6.fly, .int .i64 l6.fhx, .int .i64 l6.fhy, .int .i64 l6.bans] = w9 at *
    have V9 := V8.rowOther (g := w.heap.size + 1) (by omega) #[.int .i64 s6.tick, .int .i64 s6.ax, .int .i64 s6.ay, .int .i64 s6.fx, .int .i64 s6.fy, .int .i64 s6.turn, .int .i64 s6.gate, .bool s6.done, .bool s6.over]
    have U9 := U8.rowOther (g := w.heap.size + 1) (by omega) #[.int .i64 s6.tick, .int .i64 s6.ax, .int .i64 s6.ay, .int .i64 s6.fx, .int .i64 s6.fy, .int .i64 s6.turn, .int .i64 s6.gate, .bool s6.done, .bool s6.over]
    have X9 := X8.rowOther (g := w.heap.size + 1) (by omega) #[.int .i64 s6.tick, .int .i64 s6.ax, .int .i64 s6.ay, .int .i64 s6.fx, .int .i64 s6.fy, .int .i64 s6.turn, .int .i64 s6.gate, .bool s6.done, .bool s6.over]
    refine wpAnyH_ready (rs := [7]) (by kernel_rfl) (by simp) ?_; refine AllReadyH.cons rfl (fun K hK => ?_) AllReadyH.nil
    refine step_store (by rfl) _ _ _ (by rfl) (by rfl) (by rfl) Y8 (by kernel_rfl) (by rfl) (by simp [Value.oneCell']) ?_
    refine hK.out _ _ (⟨V9.c11, U9.c9⟩) (fun hHeld => ?_); clear hK K; (try simp only [Act.put, List.setIfInBounds_toArray, List.set_cons_zero, List.set_cons_succ])
    generalize w9.setRow (w.heap.size + 1) #[.int .i64 s6.tick, .int .i64 s6.ax, .int .i64 s6.ay, .int .i64 s6.fx, .int .i64 s6.fy, .int .i64 s6.turn, .int .i64 s6.gate, .bool s6.done, .bool s6.over] = w10 at *
    have V10 := V9.rowOther (g := w.heap.size + 1 + 1) (by omega) #[.int .i64 x, .int .i64 xp, .bool xb]
    have U10 := U9.rowOther (g := w.heap.size + 1 + 1) (by omega) #[.int .i64 x, .int .i64 xp, .bool xb]
    refine wpAnyH_ready (rs := [8]) (by kernel_rfl) (by simp) ?_; refine AllReadyH.cons rfl (fun K hK => ?_) AllReadyH.nil
    refine step_store (by rfl) _ _ _ (by rfl) (by rfl) (by rfl) X9 (by kernel_rfl) (by rfl) (by simp [Value.oneCell']) ?_
    refine hK.out _ _ (⟨V10.c11, U10.c9⟩) (fun hHeld => ?_); clear hK K; (try simp only [Act.put, List.setIfInBounds_toArray, List.set_cons_zero, List.set_cons_succ])
    generalize w10.setRow (w.heap.size + 1 + 1) #[.int .i64 x, .int .i64 xp, .bool xb] = w11 at *
    refine wpAnyH_done (by kernel_rfl) ?_ _
    clear hHeld V8 U8 Y8 X8 V9 U9 X9 V10 U10 M8 hl8
    have f1 := Lib.hid f1
    have f2 := Lib.hid f2
    have f3 := Lib.hid f3
    go_wp2
    refine bodyPost_ret (res_row3 rfl rfl f1.out Try.underlying29 rfl (by kernel_rfl) rfl f2.out Try.underlying31 rfl (by kernel_rfl) rfl f3.out Try.underlying33 rfl (by kernel_rfl)) rfl ?_
    exact ⟨l6, s6, x, xp, xb, rfl, f4, hs6, f5⟩
  · have hvb : (v == 0) = false := by simpa using hv
    clear hv
    go_upto_region 7 with fail
    have M6 := M5.drew
    clear M5
    refine wp_region_held_drew (S := fun W => (W.cell? ⟨P, 0, none⟩ = some (.int .i64 l.id) ∧ W.cell? ⟨P, 1, none⟩ = some (.int .i64 l.ticks) ∧ W.cell? ⟨P, 2, none⟩ = some (.int .i64 l.sx) ∧ W.cell? ⟨P, 3, none⟩ = some (.int .i64 l.sy) ∧ W.cell? ⟨P, 4, none⟩ = some (.slice l.wa l.wn l.wc) ∧ W.cell? ⟨P, 5, none⟩ = some (.slice l.ga l.gn l.gc) ∧ W.cell? ⟨P, 6, none⟩ = some (.int .i64 l.flx) ∧ W.cell? ⟨P, 7, none⟩ = some (.int .i64 l.fly) ∧ W.cell? ⟨P, 8, none⟩ = some (.int .i64 l.fhx) ∧ W.cell? ⟨P, 9, none⟩ = some (.int .i64 l.fhy) ∧ W.cell? ⟨P, 10, none⟩ = some (.int .i64 l.bans)) ∧ (W.cell? ⟨Q, 0, none⟩ = some (.int .i64 s.tick) ∧ W.cell? ⟨Q, 1, none⟩ = some (.int .i64 s.ax) ∧ W.cell? ⟨Q, 2, none⟩ = some (.int .i64 s.ay) ∧ W.cell? ⟨Q, 3, none⟩ = some (.int .i64 s.fx) ∧ W.cell? ⟨Q, 4, none⟩ = some (.int .i64 s.fy) ∧ W.cell? ⟨Q, 5, none⟩ = some (.int .i64 s.turn) ∧ W.cell? ⟨Q, 6, none⟩ = some (.int .i64 s.gate) ∧ W.cell? ⟨Q, 7, none⟩ = some (.bool s.done) ∧ W.cell? ⟨Q, 8, none⟩ = some (.bool s.over))) (by kernel_rfl) ⟨M6.L.c11, M6.S.c9⟩ (fun hHeld => ?_)
    simp only [List.size_toArray, List.length_cons, List.length_nil, Nat.zero_add, Nat.reduceAdd]
    (refine wpAnyH_take (i := 0) (v := ?_) rfl (by kernel_rfl) (by kernel_rfl) (by kernel_rfl) (fun _ _ _ h => h) (Or.inl ⟨by rfl, ?_⟩) (by assumption) ?_; rotate_left; · (intro w hSw; (try dsimp only at hSw); go_simp; (try with_reducible rfl))); (try simp only [Act.put, List.setIfInBounds_toArray, List.set_cons_zero, List.set_cons_succ])
    (refine wpAnyH_take (i := 1) (v := ?_) rfl (by kernel_rfl) (by kernel_rfl) (by kernel_rfl) (fun _ _ _ h => h) (Or.inl ⟨by rfl, ?_⟩) (by assumption) ?_; rotate_left; · (intro w hSw; (try dsimp only at hSw); go_simp; (try with_reducible rfl))); (try simp only [Act.put, List.setIfInBounds_toArray, List.set_cons_zero, List.set_cons_succ])
    (refine wpAnyH_take (i := 3) (v := ?_) rfl (by kernel_rfl) (by kernel_rfl) (by kernel_rfl) (fun _ _ _ h => h) (Or.inl ⟨by rfl, ?_⟩) (by assumption) ?_; rotate_left; · (intro w hSw; (try dsimp only at hSw); go_simp; (try with_reducible rfl))); (try simp only [Act.put, List.setIfInBounds_toArray, List.set_cons_zero, List.set_cons_succ])
    (refine wpAnyH_take (i := 4) (v := ?_) rfl (by kernel_rfl) (by kernel_rfl) (by kernel_rfl) (fun _ _ _ h => h) (Or.inl ⟨by rfl, ?_⟩) (by assumption) ?_; rotate_left; · (intro w hSw; (try dsimp only at hSw); go_simp; (try with_reducible rfl))); (try simp only [Act.put, List.setIfInBounds_toArray, List.set_cons_zero, List.set_cons_succ])
    refine wpAnyH_ready (rs := [2]) (by kernel_rfl) (by simp) ?_; refine AllReadyH.cons rfl (fun K hK => ?_) AllReadyH.nil; (try simp only [List.getElem_toArray, List.getElem_cons_succ, List.getElem_cons_zero])
    go_simp
    go_at_call 59
    refine (lBent_any R (k3 + 1) l _ M6.rd (by omega) M6.lvR hs2).mono ?_
    rintro e w7 ⟨l6, k6, rfl, hl6, hs6, hk7, hk8, hr7, hu7⟩
    have M7 := M6.pass hr7 hu7
    clear hr7 hu7
    go_wp2_with fail
    refine hK.out _ _ (⟨M7.L.c11, M7.S.c9⟩) (fun hHeld => ?_); clear hK K; (try simp only [Act.put, List.setIfInBounds_toArray, List.set_cons_zero, List.set_cons_succ])
    refine wpAnyH_ready (rs := [5]) (by kernel_rfl) (by simp) ?_; refine AllReadyH.cons rfl (fun K hK => ?_) AllReadyH.nil; (try simp only [List.getElem_toArray, List.getElem_cons_succ, List.getElem_cons_zero])
    go_simp
    go_at_call 60
    refine (lInput_any R k6 _ M7.rd (by omega)).mono ?_
    rintro e w8 ⟨x, xp, xb, k8, rfl, hx1, hx2, hx3, hx4, hx5, hx6, hr8, hu8⟩
    have M8 := M7.pass hr8 hu8
    have hl8 := hl6.up hu8
    clear M7 hr8 hu8 hl6
    go_wp2_with fail
    refine hK.out _ _ (⟨M8.L.c11, M8.S.c9⟩) (fun hHeld => ?_); clear hK K; (try simp only [Act.put, List.setIfInBounds_toArray, List.set_cons_zero, List.set_cons_succ])
    have hR1 := M8.hR
    have hR2 := M8.hP
    have hR3 := M8.hQ
    obtain ⟨f1, f2, f3, f4, f5⟩ := M8.fin hl8 #[.int .i64 l6.id, .int .i64 l6.ticks, .int .i64 l6.sx, .int .i64 l6.sy, .slice l6.wa l6.wn l6.wc, .slice l6.ga l6.gn l6.gc, .int .i64 l6.flx, .int .i64 l6.fly, .int .i64 l6.fhx, .int .i64 l6.fhy, .int .i64 l6.bans] #[.int .i64 s.tick, .int .i64 s.ax, .int .i64 s.ay, .int .i64 s.fx, .int .i64 s.fy, .int .i64 s.turn, .int .i64 s.gate, .bool s.done, .bool s.over] #[.int .i64 x, .int .i64 xp, .bool xb]
    have V8 := M8.L.rowOther (g := w.heap.size) (by omega) #[.int .i64 l6.id, .int .i64 l6.ticks, .int .i64 l6.sx, .int .i64 l6.sy, .slice l6.wa l6.wn l6.wc, .slice l6.ga l6.gn l6.gc, .int .i64 l6.flx, .int .i64 l6.fly, .int .i64 l6.fhx, .int .i64 l6.fhy, .int .i64 l6.bans]
    have U8 := M8.S.rowOther (g := w.heap.size) (by omega) #[.int .i64 l6.id, .int .i64 l6.ticks, .int .i64 l6.sx, .int .i64 l6.sy, .slice l6.wa l6.wn l6.wc, .slice l6.ga l6.gn l6.gc, .int .i64 l6.flx, .int .i64 l6.fly, .int .i64 l6.fhx, .int .i64 l6.fhy, .int .i64 l6.bans]
    have Y8 := M8.zs.rowOther (g := w.heap.size) (by omega) #[.int .i64 l6.id, .int .i64 l6.ticks, .int .i64 l6.sx, .int .i64 l6.sy, .slice l6.wa l6.wn l6.wc, .slice l6.ga l6.gn l6.gc, .int .i64 l6.flx, .int .i64 l6.fly, .int .i64 l6.fhx, .int .i64 l6.fhy, .int .i64 l6.bans]
    have X8 := M8.zx.rowOther (g := w.heap.size) (by omega) #[.int .i64 l6.id, .int .i64 l6.ticks, .int .i64 l6.sx, .int .i64 l6.sy, .slice l6.wa l6.wn l6.wc, .slice l6.ga l6.gn l6.gc, .int .i64 l6.flx, .int .i64 l6.fly, .int .i64 l6.fhx, .int .i64 l6.fhy, .int .i64 l6.bans]
    refine wpAnyH_ready (rs := [6]) (by kernel_rfl) (by simp) ?_; refine AllReadyH.cons rfl (fun K hK => ?_) AllReadyH.nil
    refine step_store (by rfl) _ _ _ (by rfl) (by rfl) (by rfl) M8.zl (by kernel_rfl) (by rfl) (by simp [Value.oneCell']) ?_
    refine hK.out _ _ (⟨V8.c11, U8.c9⟩) (fun hHeld => ?_); clear hK K; (try simp only [Act.put, List.setIfInBounds_toArray, List.set_cons_zero, List.set_cons_succ])
    generalize w8.setRow w.heap.size #[.int .i64 l6.id, .int .i64 l6.ticks, .int .i64 l6.sx, .int .i64 l6.sy, .slice l6.wa l6.wn l6.wc, .slice l6.ga l6.gn l6.gc, .int .i64 l6.flx, .int .i64 l6.fly, .int .i64 l6.fhx, .int .i64 l6.fhy, .int .i64 l6.bans] = w9 at *
    have V9 := V8.rowOther (g := w.heap.size + 1) (by omega) #[.int .i64 s.tick, .int .i64 s.ax, .int .i64 s.ay, .int .i64 s.fx, .int .i64 s.fy, .int .i64 s.turn, .int .i64 s.gate, .bool s.done, .bool s.over]
    have U9 := U8.rowOther (g := w.heap.size + 1) (by omega) #[.int .i64 s.tick, .int .i64 s.ax, .int .i64 s.ay, .int .i64 s.fx, .int .i64 s.fy, .int .i64 s.turn, .int .i64 s.gate, .bool s.done, .bool s.over]
    have X9 := X8.rowOther (g := w.heap.size + 1) (by omega) #[.int .i64 s.tick, .int .i64 s.ax, .int .i64 s.ay, .int .i64 s.fx, .int .i64 s.fy, .int .i64 s.turn, .int .i64 s.gate, .bool s.done, .bool s.over]
    refine wpAnyH_ready (rs := [7]) (by kernel_rfl) (by simp) ?_; refine AllReadyH.cons rfl (fun K hK => ?_) AllReadyH.nil
    refine step_store (by rfl) _ _ _ (by rfl) (by rfl) (by rfl) Y8 (by kernel_rfl) (by rfl) (by simp [Value.oneCell']) ?_
    refine hK.out _ _ (⟨V9.c11, U9.c9⟩) (fun hHeld => ?_); clear hK K; (try simp only [Act.put, List.setIfInBounds_toArray, List.set_cons_zero, List.set_cons_succ])
    generalize w9.setRow (w.heap.size + 1) #[.int .i64 s.tick, .int .i64 s.ax, .int .i64 s.ay, .int .i64 s.fx, .int .i64 s.fy, .int .i64 s.turn, .int .i64 s.gate, .bool s.done, .bool s.over] = w10 at *
    have V10 := V9.rowOther (g := w.heap.size + 1 + 1) (by omega) #[.int .i64 x, .int .i64 xp, .bool xb]
    have U10 := U9.rowOther (g := w.heap.size + 1 + 1) (by omega) #[.int .i64 x, .int .i64 xp, .bool xb]
    refine wpAnyH_ready (rs := [8]) (by kernel_rfl) (by simp) ?_; refine AllReadyH.cons rfl (fun K hK => ?_) AllReadyH.nil
    refine step_store (by rfl) _ _ _ (by rfl) (by rfl) (by rfl) X9 (by kernel_rfl) (by rfl) (by simp [Value.oneCell']) ?_
    refine hK.out _ _ (⟨V10.c11, U10.c9⟩) (fun hHeld => ?_); clear hK K; (try simp only [Act.put, List.setIfInBounds_toArray, List.set_cons_zero, List.set_cons_succ])
    generalize w10.setRow (w.heap.size + 1 + 1) #[.int .i64 x, .int .i64 xp, .bool xb] = w11 at *
    refine wpAnyH_done (by kernel_rfl) ?_ _
    clear hHeld V8 U8 Y8 X8 V9 U9 X9 V10 U10 M8 hl8
    have f1 := Lib.hid f1
    have f2 := Lib.hid f2
    have f3 := Lib.hid f3
    go_wp2
    refine bodyPost_ret (res_row3 rfl rfl f1.out Try.underlying29 rfl (by kernel_rfl) rfl f2.out Try.underlying31 rfl (by kernel_rfl) rfl f3.out Try.underlying33 rfl (by kernel_rfl)) rfl ?_
    exact ⟨l6, s, x, xp, xb, rfl, f4, hs6, f5⟩
end Go.Proofs.Ytnhjalijnociaaa

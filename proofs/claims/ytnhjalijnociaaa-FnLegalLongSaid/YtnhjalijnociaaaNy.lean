/- Inputs of a run, drawn, seldom not legal; what the laws on legal lists draw. -/
import Derived.Test.YtnhjalijnociaaaQay
import Derived.Test.YtnhjalijnociaaaQau
set_option linter.unusedVariables false
set_option linter.unusedSimpArgs false
namespace Go.Proofs.Ytnhjalijnociaaa
open Go.RowKit

theorem InsAt.up {R B : Nat} {w w' : World} {g n : Nat} {f : Nat → Inp} (h : InsAt w (some ⟨g, 0, none⟩) n f) (hu : Up R B w w') (hlt : g < B) (hne : g ≠ R) : InsAt w' (some ⟨g, 0, none⟩) n f := by
  rcases h with h | ⟨b, off, ha, hb, hc⟩
  · exact .inl h
  · simp only [Option.some.injEq, Addr.mk.injEq, and_true] at ha
    obtain ⟨rfl, rfl⟩ := ha
    refine .inr ⟨g, 0, rfl, Nat.lt_of_lt_of_le hb hu.size, fun i hi => ?_⟩
    obtain ⟨c0, c1, c2⟩ := hc i hi
    exact ⟨(hu.cell (p := ⟨g, 0 + i * 3, none⟩) hlt hne).trans c0, (hu.cell (p := ⟨g, 0 + i * 3 + 1, none⟩) hlt hne).trans c1, (hu.cell (p := ⟨g, 0 + i * 3 + 2, none⟩) hlt hne).trans c2⟩
theorem RowI.frozen {w : World} {g cap n : Nat} {f : Nat → Inp} (h : RowI w g cap n f) (o : Nat) : w.frozen? ⟨g, o, none⟩ = false := by
  obtain ⟨cur, hg, _⟩ := h.raw
  simp [World.frozen?, hg]
theorem RowI.blk {w : World} {g cap n : Nat} {f : Nat → Inp} (h : RowI w g cap n f) : ∃ cur, Blk w g cur ∧ n * 3 ≤ cur.size := by
  obtain ⟨cur, hg, h1, h2, h3, h4⟩ := h.raw
  refine ⟨cur, ⟨_, hg⟩, ?_⟩
  rw [h3]
  exact Nat.mul_le_mul_right 3 h1
/-- an input of a row set -/
theorem RowI.put {w : World} {g cap n i : Nat} {f : Nat → Inp} (h : RowI w g cap n f) (hi : i < n) (x : Inp) :
    InsAt (((w.setCell ⟨g, i * 3, none⟩ (.int .i64 x.s)).setCell ⟨g, i * 3 + 1, none⟩ (.int .i64 x.p)).setCell ⟨g, i * 3 + 2, none⟩ (.bool x.b)) (some ⟨g, 0, none⟩) n (fun j => if j = i then x else f j) := by
  obtain ⟨cur, hb, hs⟩ := h.blk
  have hb3 := ((hb.set (i * 3) (.int .i64 x.s)).set (i * 3 + 1) (.int .i64 x.p)).set (i * 3 + 2) (.bool x.b)
  have hc := h.ins.resolve_left (by omega)
  obtain ⟨b, off, ha, hlt, hc⟩ := hc
  simp only [Option.some.injEq, Addr.mk.injEq, and_true] at ha
  obtain ⟨rfl, rfl⟩ := ha
  refine .inr ⟨g, 0, rfl, hb3.lt, fun j hj => ?_⟩
  obtain ⟨c0, c1, c2⟩ := hc j hj
  rw [hb.cell] at c0 c1 c2
  unfold InCells
  rw [hb3.cell, hb3.cell, hb3.cell]
  simp only [Nat.zero_add] at c0 c1 c2 ⊢
  by_cases e : j = i
  · subst e
    simp only [if_true]
    refine ⟨?_, ?_, ?_⟩
    · rw [Array.getElem?_setIfInBounds_ne (by omega), Array.getElem?_setIfInBounds_ne (by omega), Array.getElem?_setIfInBounds_self_of_lt (by omega)]
    · rw [Array.getElem?_setIfInBounds_ne (by omega), Array.getElem?_setIfInBounds_self_of_lt (by simp; omega)]
    · rw [Array.getElem?_setIfInBounds_self_of_lt (by simp; omega)]
  · simp only [if_neg e]
    refine ⟨?_, ?_, ?_⟩
    · rw [Array.getElem?_setIfInBounds_ne (by omega), Array.getElem?_setIfInBounds_ne (by omega), Array.getElem?_setIfInBounds_ne (by omega)]; exact c0
    · rw [Array.getElem?_setIfInBounds_ne (by omega), Array.getElem?_setIfInBounds_ne (by omega), Array.getElem?_setIfInBounds_ne (by omega)]; exact c1
    · rw [Array.getElem?_setIfInBounds_ne (by omega), Array.getElem?_setIfInBounds_ne (by omega), Array.getElem?_setIfInBounds_ne (by omega)]; exact c2
/-- inputs that a list names -/
def inL (xs : List Inp) : Nat → Inp := fun i => xs.getD i ⟨0, 0, false⟩
theorem ins_two {w : World} {V : Nat} {a b a' b' : Int} {c c' : Bool} (h : Blk w V #[.int .i64 a, .int .i64 b, .bool c, .int .i64 a', .int .i64 b', .bool c']) : InsAt w (some ⟨V, 0, none⟩) 2 (inL [⟨a, b, c⟩, ⟨a', b', c'⟩]) := by
  refine .inr ⟨V, 0, rfl, h.lt, fun i hi => ?_⟩
  have e : i = 0 ∨ i = 1 := by omega
  rcases e with rfl | rfl
  · exact ⟨h.cell 0, h.cell 1, h.cell 2⟩
  · exact ⟨h.cell 3, h.cell 4, h.cell 5⟩
theorem ins_three {w : World} {V : Nat} {a b a' b' a2 b2 : Int} {c c' c2 : Bool} (h : Blk w V #[.int .i64 a, .int .i64 b, .bool c, .int .i64 a', .int .i64 b', .bool c', .int .i64 a2, .int .i64 b2, .bool c2]) : InsAt w (some ⟨V, 0, none⟩) 3 (inL [⟨a, b, c⟩, ⟨a', b', c'⟩, ⟨a2, b2, c2⟩]) := by
  refine .inr ⟨V, 0, rfl, h.lt, fun i hi => ?_⟩
  have e : i = 0 ∨ i = 1 ∨ i = 2 := by omega
  rcases e with rfl | rfl | rfl
  · exact ⟨h.cell 0, h.cell 1, h.cell 2⟩
  · exact ⟨h.cell 3, h.cell 4, h.cell 5⟩
  · exact ⟨h.cell 6, h.cell 7, h.cell 8⟩
/-- inputs drawn -/
def DrawnAny (R k c m : Nat) (w : World) (e : Ending) (w' : World) : Prop :=
  ∃ (g cap n : Nat) (f : Nat → Inp) (k' : Nat), e = .returned (.slice (some ⟨g, 0, none⟩) n cap) ∧ InsAt w' (some ⟨g, 0, none⟩) n f ∧ n ≤ cap ∧ w.heap.size ≤ g ∧ g < w'.heap.size ∧ n ≤ m ∧ k ≤ k' ∧ k' ≤ k + c ∧ Rd w' R k' ∧ Up R w.heap.size w w'
set_option maxRecDepth 100000 in
set_option maxHeartbeats 2000000 in
theorem lAny (R k : Nat) (l : Lv) (w : World) (hr : Rd w R k) (hk : k < 840000) (hn : l.wn ≤ 4) (hgn : l.gn ≤ 4) (n0 : 0 ≤ l.bans) (n3 : l.bans ≤ 3) (hl : LvR w R l) (hv : bxsB l.wf l.wn = true) (hs : vokB l.sx l.sy = true) : Calls Try.prog 90 #[.pointer (some ⟨R, 0, none⟩), .agg #[.int .i64 l.id, .int .i64 l.ticks, .int .i64 l.sx, .int .i64 l.sy, .slice l.wa l.wn l.wc, .slice l.ga l.gn l.gc, .int .i64 l.flx, .int .i64 l.fly, .int .i64 l.fhx, .int .i64 l.fhy, .int .i64 l.bans]] w (DrawnAny R k 220 63 w) := by
  have hR := hr.lt
  go_enter Try.func90, Try.ntmps90
  go_wp2_with fail
  have hb0 : Below w.heap.size w (w.alloc (.cells #[.int .i64 l.id, .int .i64 l.ticks, .int .i64 l.sx, .int .i64 l.sy, .slice l.wa l.wn l.wc, .slice l.ga l.gn l.gc, .int .i64 l.flx, .int .i64 l.fly, .int .i64 l.fhx, .int .i64 l.fhy, .int .i64 l.bans] 29)) := (Below.refl _ _).alloc (Nat.le_refl _) _
  refine (lRun R k l _ (hr.keep (hb0.mono hR)) (by omega) hn hgn n0 n3 (hl.below hb0) hv hs).mono ?_
  rintro e w1 ⟨g, cap, n, f, k1, rfl, hO, hg, hm, hk1, hk2, hr1, hu1, hfb⟩
  have hg : w.heap.size < g := by simp at hg; omega
  have hU1 : Up R w.heap.size w w1 := (Up.of_below hb0).trans (hu1.mono hb0.size)
  have hgl := hO.lt
  clear hb0 hu1 hr hl hfb
  go_wp2_with fail
  refine (pick_any R k1 12 _ hr1 (by omega) (by omega) (by omega)).mono ?_
  rintro e w2 ⟨v, rfl, hv0, hv1, hr2, hu2⟩
  have O2 := hO.up hu2 hO.lt (by omega)
  have hU2 : Up R w.heap.size w w2 := hU1.trans (hu2.mono hU1.size)
  have hgl2 := O2.lt
  have hcap := O2.le_cap
  have hR2 := hr2.lt
  have hzw := hU2.size
  clear hu2 hU1 hr1 hO hgl
  by_cases h0 : v = 0
  · subst h0
    have V2 : Blk (w2.alloc (.cells #[.int .i64 0, .int .i64 0, .bool false, .int .i64 0, .int .i64 1, .bool false] 33)) w2.heap.size #[.int .i64 0, .int .i64 0, .bool false, .int .i64 0, .int .i64 1, .bool false] := Blk.at rfl
    have i2 := ins_two V2
    have O3 := O2.alloc (.cells #[.int .i64 0, .int .i64 0, .bool false, .int .i64 0, .int .i64 1, .bool false] 33)
    have bA : Below w2.heap.size w2 (w2.alloc (.cells #[.int .i64 0, .int .i64 0, .bool false, .int .i64 0, .int .i64 1, .bool false] 33)) := (Below.refl _ _).alloc (Nat.le_refl _) _
    have zA : (w2.alloc (.cells #[.int .i64 0, .int .i64 0, .bool false, .int .i64 0, .int .i64 1, .bool false] 33)).heap.size = w2.heap.size + 1 := by simp
    go_wp2_with (at_builtin; refine app_ins rfl _ _ rfl g cap n f (some ⟨w2.heap.size, 0, none⟩) 2 2 _ rfl O3 rfl i2 (by omega) ?_; rintro g4 cap4 w4 O4 hg4 hu4 hz4)
    go_ret
    exact ⟨g4, cap4, n + 2, _, k1 + 1, rfl, O4.ins, O4.le_cap, by omega, hz4, by omega, by omega, by omega, (hr2.keep (bA.mono hR2)).keep (hu4.under (by omega) (by omega)), (hU2.trans ((Up.of_below bA).mono hU2.size)).trans (hu4.shift (by omega) (by omega))⟩
  · by_cases h1 : v = 1
    · subst h1
      by_cases hn0 : n = 0
      · subst hn0
        go_wp2
        go_ret
        exact ⟨g, cap, 0, f, k1 + 1, rfl, O2.ins, hcap, by omega, hgl2, by omega, by omega, by omega, hr2, hU2⟩
      · have hn1 : (0 : Int) < (n : Int) := by omega
        go_wp2_with fail
        refine (pick_any R (k1 + 1) (n : Int) _ hr2 (by omega) (by omega) (by omega)).mono ?_
        rintro e w3 ⟨v3, rfl, hv3, hw3, hr3, hu3⟩
        obtain ⟨i, rfl⟩ := Int.eq_ofNat_of_zero_le hv3
        have hi : i < n := by omega
        have O3 := O2.up hu3 O2.lt (by omega)
        have hU3 := hU2.trans (hu3.mono hU2.size)
        go_wp2_with fail
        refine (lInput_any R (k1 + 1 + 1) _ hr3 (by omega)).mono ?_
        rintro e w4 ⟨x, xp, xb, k4, rfl, hx1, hx2, hx3, hx4, hx5, hx6, hr4, hu4⟩
        have O4 := O3.up hu4 O3.lt (by omega)
        have hU4 := hU3.trans (hu4.mono hU3.size)
        have hgl4 := O4.lt
        have hR4 := hr4.lt
        have hp := O4.put hi ⟨x, xp, xb⟩
        obtain ⟨b, off, ha, hlt, hc⟩ := O4.ins.resolve_left hn0
        simp only [Option.some.injEq, Addr.mk.injEq, and_true] at ha
        obtain ⟨rfl, rfl⟩ := ha
        obtain ⟨e0, e1, e2⟩ := hc i hi
        simp only [Nat.zero_add] at e0 e1 e2
        have ff := O4.frozen
        have q1 : (0 : Int) ≤ (i : Int) := by omega
        have q2 : (i : Int) < (n : Int) := by omega
        have hp := Lib.hid hp
        have hB : Below w.heap.size w4 (((w4.setCell ⟨g, i * 3, none⟩ (.int .i64 x)).setCell ⟨g, i * 3 + 1, none⟩ (.int .i64 xp)).setCell ⟨g, i * 3 + 2, none⟩ (.bool xb)) := Below.setCell (p := ⟨g, i * 3 + 2, none⟩) (Below.setCell (p := ⟨g, i * 3 + 1, none⟩) (Below.setCell (p := ⟨g, i * 3, none⟩) (Below.refl _ _) (by simp only; omega) _) (by simp only; omega) _) (by simp only; omega) _
        have hBR : Below (R + 1) w4 (((w4.setCell ⟨g, i * 3, none⟩ (.int .i64 x)).setCell ⟨g, i * 3 + 1, none⟩ (.int .i64 xp)).setCell ⟨g, i * 3 + 2, none⟩ (.bool xb)) := hB.mono (by omega)
        have hB := Lib.hid hB
        have hBR := Lib.hid hBR
        clear hc hu3 hu4 O3 hn0
        go_wp2
        go_ret
        exact ⟨g, cap, n, _, k4, rfl, hp.out, hcap, by omega, by simp; omega, by omega, by omega, by omega, hr4.keep hBR.out, hU4.trans (Up.of_below hB.out)⟩
    · by_cases h2 : v = 2
      · subst h2
        go_wp2_with fail
        refine (lInput_any R (k1 + 1) _ hr2 (by omega)).mono ?_
        rintro e w3 ⟨x, xp, xb, k3, rfl, hx1, hx2, hx3, hx4, hx5, hx6, hr3, hu3⟩
        have O3 := O2.up hu3 O2.lt (by omega)
        have hU3 := hU2.trans (hu3.mono hU2.size)
        clear O2 hU2 hu3 hr2
        go_wp2_with fail
        refine (lInput_any R k3 _ hr3 (by omega)).mono ?_
        rintro e w4 ⟨y, yp, yb, k4, rfl, hy1, hy2, hy3, hy4, hy5, hy6, hr4, hu4⟩
        have O4 := O3.up hu4 O3.lt (by omega)
        have hU4 := hU3.trans (hu4.mono hU3.size)
        clear O3 hU3 hu4 hr3
        go_wp2_with fail
        refine (lInput_any R k4 _ hr4 (by omega)).mono ?_
        rintro e w5 ⟨z, zp, zb, k5, rfl, hz1, hz2, hz3, hz4, hz5, hz6, hr5, hu5⟩
        have O5 := O4.up hu5 O4.lt (by omega)
        have hU5 := hU4.trans (hu5.mono hU4.size)
        have hR5 := hr5.lt
        have hgl5 := O5.lt
        clear O4 hU4 hu5 hr4
        have V5 : Blk (w5.alloc (.cells #[.int .i64 x, .int .i64 xp, .bool xb, .int .i64 y, .int .i64 yp, .bool yb, .int .i64 z, .int .i64 zp, .bool zb] 33)) w5.heap.size #[.int .i64 x, .int .i64 xp, .bool xb, .int .i64 y, .int .i64 yp, .bool yb, .int .i64 z, .int .i64 zp, .bool zb] := Blk.at rfl
        have i5 := ins_three V5
        have O6 := O5.alloc (.cells #[.int .i64 x, .int .i64 xp, .bool xb, .int .i64 y, .int .i64 yp, .bool yb, .int .i64 z, .int .i64 zp, .bool zb] 33)
        have bA : Below w5.heap.size w5 (w5.alloc (.cells #[.int .i64 x, .int .i64 xp, .bool xb, .int .i64 y, .int .i64 yp, .bool yb, .int .i64 z, .int .i64 zp, .bool zb] 33)) := (Below.refl _ _).alloc (Nat.le_refl _) _
        have zA : (w5.alloc (.cells #[.int .i64 x, .int .i64 xp, .bool xb, .int .i64 y, .int .i64 yp, .bool yb, .int .i64 z, .int .i64 zp, .bool zb] 33)).heap.size = w5.heap.size + 1 := by simp
        have hzw5 := hU5.size
        go_wp2_with (at_builtin; refine app_ins rfl _ _ rfl g cap n f (some ⟨w5.heap.size, 0, none⟩) 3 3 _ rfl O6 rfl i5 (by omega) ?_; rintro g7 cap7 w7 O7 hg7 hu7 hz7)
        go_ret
        exact ⟨g7, cap7, n + 3, _, k5, rfl, O7.ins, O7.le_cap, by omega, hz7, by omega, by omega, by omega, (hr5.keep (bA.mono hR5)).keep (hu7.under (by omega) (by omega)), (hU5.trans ((Up.of_below bA).mono hU5.size)).trans (hu7.shift (by omega) (by omega))⟩
      · have e0 : (v == 0) = false := by simpa using h0
        have e1 : (v == 1) = false := by simpa using h1
        have e2 : (v == 2) = false := by simpa using h2
        clear h0 h1 h2
        go_wp2
        go_ret
        exact ⟨g, cap, n, f, k1 + 1, rfl, O2.ins, hcap, by omega, hgl2, by omega, by omega, by omega, hr2, hU2⟩
/-- a level and inputs drawn by a law -/
def DrawnLegal (w : World) (e : Ending) (w' : World) : Prop :=
  ∃ (l : Lv) (g cap n : Nat) (f : Nat → Inp), e = .returned (.tuple #[.agg #[.int .i64 l.id, .int .i64 l.ticks, .int .i64 l.sx, .int .i64 l.sy, .slice l.wa l.wn l.wc, .slice l.ga l.gn l.gc, .int .i64 l.flx, .int .i64 l.fly, .int .i64 l.fhx, .int .i64 l.fhy, .int .i64 l.bans], .slice (some ⟨g, 0, none⟩) n cap]) ∧ LvAt w' l ∧ l.sm 6 ∧ InsAt w' (some ⟨g, 0, none⟩) n f ∧ n ≤ cap ∧ n ≤ 63 ∧ Below w.heap.size w w'
set_option maxRecDepth 100000 in
set_option maxHeartbeats 2000000 in
theorem dInputsLegal (a : Option Addr) (len cap : Nat) (zs : List Int) (w : World) (h : IsRow .u8 w a len cap zs) : Calls Try.prog 49 #[.slice a len cap] w (DrawnLegal w) := by
  go_enter Try.func49, Try.ntmps49
  go_wp2_with fail
  refine (open_any _ _ _ _ _ (h.keep (by (repeat (first | with_reducible assumption | with_reducible exact Below.refl _ _ | ((with_reducible refine Below.alloc ?_ ?_ _); rotate_left; · exact (by first | omega | (simp; done) | (simp; omega))) | ((with_reducible refine Below.setCell ?_ ?_ _); rotate_left; · exact (by first | omega | (simp; done) | (simp; omega))) | with_reducible refine Below.drew ?_ | assumption | exact Below.refl _ _ | refine Below.alloc ?_ (by first | omega | (simp; done) | (simp; omega)) _ | refine Below.setCell ?_ (by first | omega | (simp; done) | (simp; omega)) _ | refine Below.drew ?_))))).mono ?_
  rintro e w1 ⟨R, rfl, hR0, hr1, hb1⟩
  have hR : w.heap.size < R := by simp at hR0; omega
  have Z1 : Blk w1 w.heap.size #[.int .i64 0, .int .i64 0, .int .i64 0, .int .i64 0, .slice none 0 0, .slice none 0 0, .int .i64 0, .int .i64 0, .int .i64 0, .int .i64 0, .int .i64 0] := (Blk.at rfl).below hb1 (by simp)
  have hU1 : Up R w.heap.size w w1 := Up.of_below (bstep (by (repeat (first | with_reducible assumption | with_reducible exact Below.refl _ _ | ((with_reducible refine Below.alloc ?_ ?_ _); rotate_left; · exact (by first | omega | (simp; done) | (simp; omega))) | ((with_reducible refine Below.setCell ?_ ?_ _); rotate_left; · exact (by first | omega | (simp; done) | (simp; omega))) | with_reducible refine Below.drew ?_ | assumption | exact Below.refl _ _ | refine Below.alloc ?_ (by first | omega | (simp; done) | (simp; omega)) _ | refine Below.setCell ?_ (by first | omega | (simp; done) | (simp; omega)) _ | refine Below.drew ?_))) (by first | omega | (simp; done) | (simp; omega)) hb1)
  have hne : w.heap.size ≠ R := by omega
  have hRl := hr1.lt
  go_wp2_with fail
  refine (lLevel_first R 0 _ hr1 (by omega)).mono ?_
  rintro e w2 ⟨l, k2, rfl, hl2, hs2, hbv, hvk, ⟨n0, n3⟩, hk1, hk2, hr2, hu2⟩
  have hwn := hs2.wn
  have hgn := hs2.gn
  have hR2 := hr2.lt
  have bA : Below w2.heap.size w2 (w2.alloc (.cells #[.int .i64 l.id, .int .i64 l.ticks, .int .i64 l.sx, .int .i64 l.sy, .slice l.wa l.wn l.wc, .slice l.ga l.gn l.gc, .int .i64 l.flx, .int .i64 l.fly, .int .i64 l.fhx, .int .i64 l.fhy, .int .i64 l.bans] 29)) := (Below.refl _ _).alloc (Nat.le_refl _) _
  have Z2 := (Z1.up hu2 Z1.lt hne).alloc (.cells #[.int .i64 l.id, .int .i64 l.ticks, .int .i64 l.sx, .int .i64 l.sy, .slice l.wa l.wn l.wc, .slice l.ga l.gn l.gc, .int .i64 l.flx, .int .i64 l.fly, .int .i64 l.fhx, .int .i64 l.fhy, .int .i64 l.bans] 29)
  have P2 : Blk (w2.alloc (.cells #[.int .i64 l.id, .int .i64 l.ticks, .int .i64 l.sx, .int .i64 l.sy, .slice l.wa l.wn l.wc, .slice l.ga l.gn l.gc, .int .i64 l.flx, .int .i64 l.fly, .int .i64 l.fhx, .int .i64 l.fhy, .int .i64 l.bans] 29)) w2.heap.size #[.int .i64 l.id, .int .i64 l.ticks, .int .i64 l.sx, .int .i64 l.sy, .slice l.wa l.wn l.wc, .slice l.ga l.gn l.gc, .int .i64 l.flx, .int .i64 l.fly, .int .i64 l.fhx, .int .i64 l.fhy, .int .i64 l.bans] := Blk.at rfl
  have hU2 : Up R w.heap.size w (w2.alloc (.cells #[.int .i64 l.id, .int .i64 l.ticks, .int .i64 l.sx, .int .i64 l.sy, .slice l.wa l.wn l.wc, .slice l.ga l.gn l.gc, .int .i64 l.flx, .int .i64 l.fly, .int .i64 l.fhx, .int .i64 l.fhy, .int .i64 l.bans] 29)) := (hU1.trans (hu2.mono hU1.size)).alloc (hU1.trans (hu2.mono hU1.size)).size _
  have hl3 := hl2.below bA
  have hr3 := hr2.keep (bA.mono hR2)
  clear Z1 hU1 hu2 hb1 hr1 hr2 hl2 bA
  go_wp2_with fail
  refine (lAny R k2 l _ hr3 (by omega) hwn hgn n0 n3 hl3 hbv hvk).mono ?_
  rintro e w4 ⟨g, c, n, f, k4, rfl, hi4, hcn, hg4, hgz, hn4, hk3, hk4, hr4, hu4⟩
  have Z4 := Z2.up hu4 Z2.lt hne
  have P4 := P2.up hu4 P2.lt (by omega)
  have hU4 : Up R w.heap.size w w4 := hU2.trans (hu4.mono hU2.size)
  have hl4 := hl3.up hu4
  have hzw := hU4.size
  have hzP := P4.lt
  have hgw : w.heap.size < g := by have := hU2.size; simp at hg4 this; omega
  have hgR : R < g := by simp at hg4; omega
  clear Z2 P2 hU2 hu4 hr3 hl3
  (try clear q0 q1 q2 q3 q4 q5 q6 q7 q8 q9 q10); obtain ⟨q0, q1, q2, q3, q4, q5, q6, q7, q8, q9, q10⟩ := P4.c11
  go_wp2_with fail
  refine (lBent_any R k4 l _ hr4 (by omega) hl4 hs2).mono ?_
  rintro e w5 ⟨l5, k5, rfl, hl5, hs5, hk5, hk6, hr5, hu5⟩
  have Z5 := Z4.up hu5 Z4.lt hne
  have hi5 := hi4.up hu5 hgz (by omega)
  have hU5 : Up R w.heap.size w w5 := hU4.trans (hu5.mono hU4.size)
  have hg5 : g < w5.heap.size := Nat.lt_of_lt_of_le hgz hu5.size
  clear Z4 P4 hU4 hu5 hr4 hi4 hl4 q0 q1 q2 q3 q4 q5 q6 q7 q8 q9 q10
  obtain ⟨q0, q1, q2, q3, q4, q5, q6, q7, q8, q9, q10⟩ := Z5.c11
  have qf := Z5.frozen
  have ZF := (((((((((((Z5.s11_0 (.int .i64 l5.id)).s11_1 (.int .i64 l5.ticks)).s11_2 (.int .i64 l5.sx)).s11_3 (.int .i64 l5.sy)).s11_4 (.slice l5.wa l5.wn l5.wc)).s11_5 (.slice l5.ga l5.gn l5.gc)).s11_6 (.int .i64 l5.flx)).s11_7 (.int .i64 l5.fly)).s11_8 (.int .i64 l5.fhx)).s11_9 (.int .i64 l5.fhy)).s11_10 (.int .i64 l5.bans))
  have hA := sets_up w.heap.size w5.heap.size [.int .i64 l5.id, .int .i64 l5.ticks, .int .i64 l5.sx, .int .i64 l5.sy, .slice l5.wa l5.wn l5.wc, .slice l5.ga l5.gn l5.gc, .int .i64 l5.flx, .int .i64 l5.fly, .int .i64 l5.fhx, .int .i64 l5.fhy, .int .i64 l5.bans] 0 w5
  have ZF := Lib.hid ZF
  go_wp2
  refine bodyPost_ret (res_row_tmp (v := .slice (some ⟨g, 0, none⟩) n c) rfl rfl ZF.out Try.underlying29 rfl (by kernel_rfl) rfl) rfl ?_
  exact ⟨l5, g, c, n, f, rfl, (hl5.set hA (by omega)).1, hs5, hi5.up hA hg5 (by omega), hcn, by omega, (hU5.trans (hA.shift (Nat.le_refl _) hU5.size)).below (by omega)⟩
end Go.Proofs.Ytnhjalijnociaaa

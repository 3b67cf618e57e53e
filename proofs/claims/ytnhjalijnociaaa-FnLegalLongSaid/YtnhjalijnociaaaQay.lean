/- The inputs of a run, drawn. -/
import Derived.Test.YtnhjalijnociaaaQao
import Derived.Test.YtnhjalijnociaaaQax
/- The inputs of a run, drawn. -/
set_option linter.unusedVariables false
set_option linter.unusedSimpArgs false
namespace Go.Proofs.Ytnhjalijnociaaa
open Go.RowKit

/-- what a state keeps while a run is drawn -/
structure St.Go (l : Lv) (s : St) : Prop where
  ha : vokB s.ax s.ay = true
  hf : len s.fx s.fy ≤ 2000
  t0 : 0 ≤ s.turn
  t1 : s.turn ≤ 15
  g0 : 0 ≤ s.gate
  g1 : s.gate ≤ l.gn
theorem St.Go.step {l : Lv} {s : St} (h : s.Go l) (d p : Int) (b : Bool) : (stepF l s d p b).Go l ∧ s.tick ≤ (stepF l s d p b).tick ∧ (stepF l s d p b).tick ≤ s.tick + 1 := by
  cases hr : (s.done || s.over) with
  | true => rw [step_rest hr]; exact ⟨h, Int.le_refl _, by omega⟩
  | false =>
    cases b with
    | true => rw [step_pause hr]; exact ⟨⟨h.ha, h.hf, h.t0, h.t1, h.g0, h.g1⟩, by simp only; omega, by simp only; omega⟩
    | false =>
      rw [step_drive hr]
      obtain ⟨m1, m2, m3, m4, m5⟩ := moved_same l { s with tick := s.tick + 1 } d p
      rcases drive_cases l { s with tick := s.tick + 1 } d p with ⟨hv, he⟩ | he
      · rw [he]
        have hl := moved_len (l := l) (s := { s with tick := s.tick + 1 }) d p h.hf
        have ht := turn_bd { s with tick := s.tick + 1 } d
        have hg := gateF_bd (l := l) (s := movedF l { s with tick := s.tick + 1 } d p) (by rw [m3]; exact h.g0) (by rw [m3]; exact h.g1)
        rw [m3] at hg
        have g0 := h.g0
        simp only at hg
        exact ⟨⟨hv, hl, by simp only; rw [m2]; exact ht.1, by simp only; rw [m2]; exact ht.2, by simp only; omega, hg.2⟩, by simp only; rw [m1]; simp only; omega, by simp only; rw [m1]; simp only; omega⟩
      · rw [he]
        exact ⟨⟨h.ha, h.hf, h.t0, h.t1, h.g0, h.g1⟩, by simp only; omega, by simp only; omega⟩
theorem St.Go.start {l : Lv} (hv : vokB l.sx l.sy = true) : (⟨0, l.sx, l.sy, 0, 0, 0, 0, false, false⟩ : St).Go l := by
  refine ⟨hv, ?_, by simp only; omega, by simp only; omega, by simp only; omega, by simp only; omega⟩
  have := rt_le (n := 0 * 0 + 0 * 0) (m := 2000) (by omega) (by omega) (by omega)
  exact this

/-- the run's variables: the level, the input before, the inputs so far -/
structure RN (w0 : World) (R k : Nat) (l : Lv) (g cap n : Nat) (f : Nat → Inp) (t tp : Int) (tb : Bool) (w : World) : Prop where
  rd : Rd w R k
  up : Up R w0.heap.size w0 w
  L : Blk w w0.heap.size #[.int .i64 l.id, .int .i64 l.ticks, .int .i64 l.sx, .int .i64 l.sy, .slice l.wa l.wn l.wc, .slice l.ga l.gn l.gc, .int .i64 l.flx, .int .i64 l.fly, .int .i64 l.fhx, .int .i64 l.fhy, .int .i64 l.bans]
  B : Blk w (w0.heap.size + 1 + 1) #[.int .i64 t, .int .i64 tp, .bool tb]
  O : RowI w g cap n f
  hR : R < w0.heap.size
  hg : w0.heap.size < g
  hgB : g ≠ w0.heap.size + 1 + 1
section
variable {w0 w w' : World} {R k k' : Nat} {l : Lv} {g cap n : Nat} {f : Nat → Inp} {t tp : Int} {tb : Bool}
theorem RN.pass (h : RN w0 R k l g cap n f t tp tb w) (hr : Rd w' R k') (hu : Up R w.heap.size w w') : RN w0 R k' l g cap n f t tp tb w' := by
  have e := h.hR
  have e2 := h.hg
  exact ⟨hr, h.up.trans (hu.mono h.up.size), h.L.up hu h.L.lt (by omega), h.B.up hu h.B.lt (by omega), h.O.up hu h.O.lt (by omega), h.hR, h.hg, h.hgB⟩
theorem RN.passB (h : RN w0 R k l g cap n f t tp tb w) (hb : Below w.heap.size w w') : RN w0 R k l g cap n f t tp tb w' := h.pass (h.rd.keep (hb.mono h.rd.lt)) (Up.of_below hb)
theorem RN.drew (h : RN w0 R k l g cap n f t tp tb w) : RN w0 R k l g cap n f t tp tb w.drew := ⟨h.rd, h.up.drew, h.L, h.B, h.O, h.hR, h.hg, h.hgB⟩
theorem RN.setB (h : RN w0 R k l g cap n f t tp tb w) (a b : Int) (c : Bool) : RN w0 R k l g cap n f a b c (((w.setCell ⟨w0.heap.size + 1 + 1, 0, none⟩ (.int .i64 a)).setCell ⟨w0.heap.size + 1 + 1, 1, none⟩ (.int .i64 b)).setCell ⟨w0.heap.size + 1 + 1, 2, none⟩ (.bool c)) := by
  have e := h.hR
  have e2 := h.hgB
  have hb : Below (R + 1) w (((w.setCell ⟨w0.heap.size + 1 + 1, 0, none⟩ (.int .i64 a)).setCell ⟨w0.heap.size + 1 + 1, 1, none⟩ (.int .i64 b)).setCell ⟨w0.heap.size + 1 + 1, 2, none⟩ (.bool c)) := Below.setCell (p := ⟨w0.heap.size + 1 + 1, 2, none⟩) (Below.setCell (p := ⟨w0.heap.size + 1 + 1, 1, none⟩) (Below.setCell (p := ⟨w0.heap.size + 1 + 1, 0, none⟩) (Below.refl _ _) (by simp only; omega) _) (by simp only; omega) _) (by simp only; omega) _
  exact ⟨h.rd.keep hb, ((h.up.setCell (p := ⟨w0.heap.size + 1 + 1, 0, none⟩) (.inr (by simp only; omega)) _).setCell (p := ⟨w0.heap.size + 1 + 1, 1, none⟩) (.inr (by simp only; omega)) _).setCell (p := ⟨w0.heap.size + 1 + 1, 2, none⟩) (.inr (by simp only; omega)) _,
    ((h.L.other (by simp only; omega) _).other (by simp only; omega) _).other (by simp only; omega) _, ((h.B.set 0 _).set 1 _).set 2 _, ((h.O.other (by simp only; omega) _).other (by simp only; omega) _).other (by simp only; omega) _, h.hR, h.hg, h.hgB⟩
theorem RN.setX (h : RN w0 R k l g cap n f t tp tb w) {X : Nat} (hX : w0.heap.size + 1 + 1 < X) (hgX : g ≠ X) (a b c : Value) : RN w0 R k l g cap n f t tp tb (((w.setCell ⟨X, 0, none⟩ a).setCell ⟨X, 1, none⟩ b).setCell ⟨X, 2, none⟩ c) := by
  have e := h.hR
  have hb : ∀ B, B ≤ X → Below B w (((w.setCell ⟨X, 0, none⟩ a).setCell ⟨X, 1, none⟩ b).setCell ⟨X, 2, none⟩ c) := fun B hB => Below.setCell (p := ⟨X, 2, none⟩) (Below.setCell (p := ⟨X, 1, none⟩) (Below.setCell (p := ⟨X, 0, none⟩) (Below.refl _ _) hB _) hB _) hB _
  exact ⟨h.rd.keep (hb _ (by omega)), h.up.trans (Up.of_below (hb _ (by omega))), ((h.L.other (by simp only; omega) _).other (by simp only; omega) _).other (by simp only; omega) _, ((h.B.other (by simp only; omega) _).other (by simp only; omega) _).other (by simp only; omega) _, ((h.O.other (by simp only; omega) _).other (by simp only; omega) _).other (by simp only; omega) _, h.hR, h.hg, h.hgB⟩
theorem RN.far (h : RN w0 R k l g cap n f t tp tb w) {P : Nat} (hP : w0.heap.size + 1 + 1 < P) (hgP : g ≠ P) (c : Array Value) : RN w0 R k l g cap n f t tp tb (w.setRow P c) := by
  have e := h.hR
  have e2 := h.hg
  exact ⟨h.rd.keep (Below.setRow (Below.refl _ _) (by omega) c), h.up.trans (Up.of_below (Below.setRow (Below.refl _ _) (by omega) c)), h.L.rowOther (by omega) _, h.B.rowOther (by omega) _, h.O.row hgP _, h.hR, h.hg, h.hgB⟩
theorem RN.next {g' cap' n' : Nat} {f' : Nat → Inp} (h : RN w0 R k l g cap n f t tp tb w) (hrow : RowI w g' cap' n' f') (hge : w0.heap.size + 1 + 1 < g') : RN w0 R k l g' cap' n' f' t tp tb w := ⟨h.rd, h.up, h.L, h.B, hrow, h.hR, by omega, by omega⟩
end
/-- the inputs of a run, drawn -/
def DrawnRun (R k c m : Nat) (w : World) (e : Ending) (w' : World) : Prop :=
  ∃ (g cap n : Nat) (f : Nat → Inp) (k' : Nat), e = .returned (.slice (some ⟨g, 0, none⟩) n cap) ∧ RowI w' g cap n f ∧ w.heap.size ≤ g ∧ n ≤ m ∧ k ≤ k' ∧ k' ≤ k + c ∧ Rd w' R k' ∧ Up R w.heap.size w w' ∧ (∀ i, i < n → -10 ≤ (f i).s ∧ (f i).s ≤ 10 ∧ -10 ≤ (f i).p ∧ (f i).p ≤ 10)
def in0 : Nat → Inp := fun _ => ⟨0, 0, false⟩
theorem inpV_zero : inpV 0 0 false = true := by
  unfold inpV
  rw [inB_yes (by omega) (by omega), inB_yes (by omega) (by omega)]
  rfl
theorem in_bd {x : Inp} (h : inpV x.s x.p x.b = true) : -10 ≤ x.s ∧ x.s ≤ 10 ∧ -10 ≤ x.p ∧ x.p ≤ 10 := by
  obtain ⟨h1, h2, h3, h4, _⟩ := inpV_bd h
  omega
theorem ins_blk {w : World} {X : Nat} {x p : Int} {b : Bool} (h : Blk w X #[.int .i64 x, .int .i64 p, .bool b]) : InsAt w (some ⟨X, 0, none⟩) 1 (fun _ => ⟨x, p, b⟩) := by
  refine .inr ⟨X, 0, rfl, h.lt, fun i hi => ?_⟩
  obtain rfl : i = 0 := by omega
  exact ⟨h.cell 0, h.cell 1, h.cell 2⟩
theorem app_end {w : World} {g c j : Nat} {f : Nat → Inp} {x : Inp} (h : RowI w g c (j + 1) (iglue (iglue in0 0 f) j (fun _ => x))) : RowI w g c (j + 1) (isnoc f j x) := by
  refine RowI.rebase h (jvals_congr _ fun i hi => ?_)
  simp only [iglue, isnoc, Nat.not_lt_zero, if_false, Nat.sub_zero]
  by_cases h1 : i < j
  · rw [if_pos h1, if_neg (by omega)]
  · rw [if_neg h1, if_pos (by omega)]
set_option maxRecDepth 100000 in
set_option maxHeartbeats 8000000 in
theorem lRun (R k : Nat) (l : Lv) (w : World) (hr : Rd w R k) (hk : k < 850000) (hn : l.wn ≤ 4) (hgn : l.gn ≤ 4) (n0 : 0 ≤ l.bans) (n3 : l.bans ≤ 3) (hl : LvR w R l) (hv : bxsB l.wf l.wn = true) (hs : vokB l.sx l.sy = true) : Calls Try.prog 97 #[.pointer (some ⟨R, 0, none⟩), .agg #[.int .i64 l.id, .int .i64 l.ticks, .int .i64 l.sx, .int .i64 l.sy, .slice l.wa l.wn l.wc, .slice l.ga l.gn l.gc, .int .i64 l.flx, .int .i64 l.fly, .int .i64 l.fhx, .int .i64 l.fhy, .int .i64 l.bans]] w (DrawnRun R k 200 60 w) := by
  have hR := hr.lt
  go_enter Try.func97, Try.ntmps97
  go_wp2_with fail
  have M0 : RN w R k l (w.heap.size + 1) 0 0 in0 0 0 false (((w.alloc (.cells #[.int .i64 l.id, .int .i64 l.ticks, .int .i64 l.sx, .int .i64 l.sy, .slice l.wa l.wn l.wc, .slice l.ga l.gn l.gc, .int .i64 l.flx, .int .i64 l.fly, .int .i64 l.fhx, .int .i64 l.fhy, .int .i64 l.bans] 29)).alloc (.cells #[] 33)).alloc (.cells #[.int .i64 0, .int .i64 0, .bool false] 33)) :=
    ⟨hr.keep (by (repeat (first | with_reducible assumption | with_reducible exact Below.refl _ _ | ((with_reducible refine Below.alloc ?_ ?_ _); rotate_left; · exact (by first | omega | (simp; done) | (simp; omega))) | ((with_reducible refine Below.setCell ?_ ?_ _); rotate_left; · exact (by first | omega | (simp; done) | (simp; omega))) | with_reducible refine Below.drew ?_ | assumption | exact Below.refl _ _ | refine Below.alloc ?_ (by first | omega | (simp; done) | (simp; omega)) _ | refine Below.setCell ?_ (by first | omega | (simp; done) | (simp; omega)) _ | refine Below.drew ?_))), by (repeat (first | assumption | exact Up.refl _ _ _ | refine Up.alloc ?_ (by first | omega | (simp; done) | (simp; omega)) _ | refine Up.setCell ?_ (.inr (by first | omega | (simp; done) | (simp; omega))) _ | refine Up.drew ?_ | refine Up.drewN ?_ _)), ((Blk.at rfl).alloc _).alloc _, Blk.at (by simp), (RowI.empty in0 (by simp)).alloc _, hR, by omega, by omega⟩
  refine (pick_any R k 40 _ M0.rd (by omega) (by omega) (by omega)).mono ?_
  rintro e w1 ⟨v1, rfl, hv1, hw1, hr1, hu1⟩
  have M1 := M0.pass hr1 hu1
  clear M0 hr1 hu1 hr
  go_upto_region 4 with fail
  rename_i Kr hKr Kc hKc
  have fin6 : ∀ (N : Int) (x1 x2 x4 x8 x9 x10 x11 x12 x13 x14 x15 x16 x17 x18 x19 x20 x21 x22 x23 x24 x25 x26 x27 x28 x29 x30 x31 x32 x33 x34 x35 x36 x37 x38 x39 x40 x41 x42 x43 x44 x45 x46 x47 x48 x49 x50 x51 x52 x53 x54 x55 x56 x57 x58 x59 x60 x61 x62 x63 x64 x65 x66 x67 : Value) (w2 : World), 0 ≤ N → N ≤ 60 → RN w R (k + 1 + 1) l (w.heap.size + 1) 0 0 in0 0 0 false w2 → Kr ⟨#[.pointer (some ⟨R, 0, none⟩), x1, x2, .pointer (some ⟨w.heap.size, 0, none⟩), x4, .slice (some ⟨w.heap.size + 1, 0, none⟩) 0 0, .pointer (some ⟨w.heap.size + 1 + 1, 0, none⟩), .int .i64 N, x8, x9, x10, x11, x12, x13, x14, x15, x16, x17, x18, x19, x20, x21, x22, x23, x24, x25, x26, x27, x28, x29, x30, x31, x32, x33, x34, x35, x36, x37, x38, x39, x40, x41, x42, x43, x44, x45, x46, x47, x48, x49, x50, x51, x52, x53, x54, x55, x56, x57, x58, x59, x60, x61, x62, x63, x64, x65, x66, x67], []⟩ w2 := by
    intro N x1 x2 x4 x8 x9 x10 x11 x12 x13 x14 x15 x16 x17 x18 x19 x20 x21 x22 x23 x24 x25 x26 x27 x28 x29 x30 x31 x32 x33 x34 x35 x36 x37 x38 x39 x40 x41 x42 x43 x44 x45 x46 x47 x48 x49 x50 x51 x52 x53 x54 x55 x56 x57 x58 x59 x60 x61 x62 x63 x64 x65 x66 x67 w2 hN0 hN1 M2
    clear M1
    refine hKr _ _ ?_
    (try clear q0 q1 q2 q3 q4 q5 q6 q7 q8 q9 q10 b0 b1 b2)
    obtain ⟨q0, q1, q2, q3, q4, q5, q6, q7, q8, q9, q10⟩ := M2.L.c11
    have b0 := M2.B.cell 0
    have b1 := M2.B.cell 1
    have b2 := M2.B.cell 2
    simp only [List.getElem?_toArray, List.getElem?_cons_zero, List.getElem?_cons_succ] at b0 b1 b2
    have hzLM2 := M2.L.lt
    have hzBM2 := M2.B.lt
    go_wp2_with fail
    refine (sStart0 l _).mono ?_
    rintro e w3 ⟨rfl, hb3⟩
    have M3 := M2.passB hb3
    clear q0 q1 q2 q3 q4 q5 q6 q7 q8 q9 q10 b0 b1 b2
    have T4 : Blk (w3.alloc (.cells #[.int .i64 0, .int .i64 l.sx, .int .i64 l.sy, .int .i64 0, .int .i64 0, .int .i64 0, .int .i64 0, .bool false, .bool false] 31)) w3.heap.size #[.int .i64 0, .int .i64 l.sx, .int .i64 l.sy, .int .i64 0, .int .i64 0, .int .i64 0, .int .i64 0, .bool false, .bool false] := Blk.at rfl
    have M4 := M3.passB ((Below.refl w3.heap.size w3).alloc (Nat.le_refl _) (.cells #[.int .i64 0, .int .i64 l.sx, .int .i64 l.sy, .int .i64 0, .int .i64 0, .int .i64 0, .int .i64 0, .bool false, .bool false] 31))
    have hP : w.heap.size + 1 + 1 < w3.heap.size := M3.B.lt
    have hgP0 : w.heap.size + 1 ≠ w3.heap.size := by omega
    clear hb3 M2 M3
    go_wp2_with fail
    go_loopw [5, 9] (fun ov iv wr => ∃ (j kk g cap : Nat) (f : Nat → Inp) (t tp : Int) (tb : Bool) (s : St), ov = .slice (some ⟨g, 0, none⟩) j cap ∧ iv = .int .i64 j ∧ j ≤ 60 ∧ k + 2 ≤ kk ∧ kk ≤ k + 2 + 2 * j ∧ (-1 ≤ t ∧ t ≤ 1) ∧ (∀ i, i < j → inpV (f i).s (f i).p (f i).b = true) ∧ s.Go l ∧ (0 ≤ s.tick ∧ s.tick ≤ j) ∧ RN w R kk l g cap j f t tp tb wr ∧ Blk wr w3.heap.size #[.int .i64 s.tick, .int .i64 s.ax, .int .i64 s.ay, .int .i64 s.fx, .int .i64 s.fy, .int .i64 s.turn, .int .i64 s.gate, .bool s.done, .bool s.over] ∧ g ≠ w3.heap.size) (fun _ iv _ => 60 - (intOf iv).toNat)
    case atStart => exact ⟨0, k + 1 + 1, w.heap.size + 1, 0, in0, 0, 0, false, ⟨0, l.sx, l.sy, 0, 0, 0, 0, false, false⟩, rfl, rfl, by omega, by omega, by omega, ⟨by omega, by omega⟩, fun i hi => absurd hi (Nat.not_lt_zero _), St.Go.start hs, ⟨by simp only; omega, by simp only; omega⟩, M4, T4, hgP0⟩
    case round =>
      obtain ⟨j, kk, g, cap, f, t, tp, tb, s, rfl, rfl, hj, hk0, hk1, ⟨st1, st2⟩, hfv, hS, ⟨s0, s1⟩, M5, T5, hgP⟩ := hrel
      clear M4 T4 hgP0
      generalize w3.heap.size = P at *
      have hFv := Lib.hid hfv
      have hzT5 := T5.lt
      clear hfv
      (try clear q0 q1 q2 q3 q4 q5 q6 q7 q8 q9 q10 b0 b1 b2)
      obtain ⟨q0, q1, q2, q3, q4, q5, q6, q7, q8, q9, q10⟩ := M5.L.c11
      have b0 := M5.B.cell 0
      have b1 := M5.B.cell 1
      have b2 := M5.B.cell 2
      simp only [List.getElem?_toArray, List.getElem?_cons_zero, List.getElem?_cons_succ] at b0 b1 b2
      have hzLM5 := M5.L.lt
      have hzBM5 := M5.B.lt
      by_cases hjN : (j : Int) < N
      · by_cases hjt : (j : Int) < l.ticks
        go_wp2_with fail
        refine (lNext R kk l t tp tb _ M5.rd (by omega) n0 n3 st1 st2).mono ?_
        rintro e w6 ⟨x, xp, xb, k6, rfl, hxv, hk6, hk7, hr6, hu6⟩
        have M6 := M5.pass hr6 hu6
        have hRP : P ≠ R := by omega
        have T6 := T5.up hu6 T5.lt hRP
        clear M5 T5 hr6 hu6 q0 q1 q2 q3 q4 q5 q6 q7 q8 q9 q10 b0 b1 b2
        go_upto_region 11 with fail
        · have X7 : Blk (w6.alloc (.cells #[.int .i64 x, .int .i64 xp, .bool xb] 33)) w6.heap.size #[.int .i64 x, .int .i64 xp, .bool xb] := Blk.at rfl
          have bA := (Below.refl w6.heap.size w6).alloc (Nat.le_refl _) (.cells #[.int .i64 x, .int .i64 xp, .bool xb] 33)
          have M7 := M6.passB bA
          have T7 := T6.below bA T6.lt
          have hzT6 := T6.lt
          have hzO6 := M6.O.lt
          have hzW1 : w6.heap.size < (w6.alloc (.cells #[.int .i64 x, .int .i64 xp, .bool xb] 33)).heap.size := by simp
          clear bA M6 T6
          generalize w6.alloc (.cells #[.int .i64 x, .int .i64 xp, .bool xb] 33) = W1 at *
          generalize w6.heap.size = X at *
          have hX : w.heap.size + 1 + 1 < X := by omega
          rename_i K11 hK11
          have fin11 : ∀ (g2 c2 : Nat) (y4 y21 y22 y23 y24 y25 y26 y27 y28 y29 y30 y31 y32 y33 y34 y35 y36 y37 y38 y39 y40 y41 y42 y43 y44 y45 y46 y47 y48 y49 y50 y51 y52 y53 y54 y55 y56 y57 y58 y59 y60 y61 y62 y63 y64 y65 y66 : Value) (w2 : World), RowI w2 g2 c2 (j + 1) (isnoc f j ⟨x, xp, xb⟩) → X < g2 → Below W1.heap.size W1 w2 → K11 ⟨#[.pointer (some ⟨R, 0, none⟩), x1, x2, .pointer (some ⟨w.heap.size, 0, none⟩), y4, .slice (some ⟨g, 0, none⟩) j cap, .pointer (some ⟨w.heap.size + 1 + 1, 0, none⟩), .int .i64 N, .pointer (some ⟨P, 0, none⟩), .int .i64 j, .pointer (some ⟨X, 0, none⟩), .slice (some ⟨g2, 0, none⟩) (j + 1) c2, x12, x13, x14, x15, x16, x17, x18, .agg #[.int .i64 l.id, .int .i64 l.ticks, .int .i64 l.sx, .int .i64 l.sy, .slice l.wa l.wn l.wc, .slice l.ga l.gn l.gc, .int .i64 l.flx, .int .i64 l.fly, .int .i64 l.fhx, .int .i64 l.fhy, .int .i64 l.bans], .agg #[.int .i64 0, .int .i64 l.sx, .int .i64 l.sy, .int .i64 0, .int .i64 0, .int .i64 0, .int .i64 0, .bool false, .bool false], y21, y22, y23, y24, y25, y26, y27, y28, y29, y30, y31, y32, y33, y34, y35, y36, y37, y38, y39, y40, y41, y42, y43, y44, y45, y46, y47, y48, y49, y50, y51, y52, y53, y54, y55, y56, y57, y58, y59, y60, y61, y62, y63, y64, y65, y66, x67], []⟩ w2 := by
            intro g2 c2 y4 y21 y22 y23 y24 y25 y26 y27 y28 y29 y30 y31 y32 y33 y34 y35 y36 y37 y38 y39 y40 y41 y42 y43 y44 y45 y46 y47 y48 y49 y50 y51 y52 y53 y54 y55 y56 y57 y58 y59 y60 y61 y62 y63 y64 y65 y66 w2 hrow2 hge2 hb2
            refine hK11 _ _ ?_
            have M8 := M7.passB hb2
            have T8 := T7.below hb2 T7.lt
            have X8 := X7.below hb2 X7.lt
            clear M7 T7 X7 hK11
            go_upto_region 12 with fail
            rename_i K15 hK15 Kc hKc
            have fin15 : ∀ (y yp : Int) (yb : Bool) (f2 : Nat → Inp) (g2 c2 : Nat) (z4 z21 z22 z23 z24 z25 z26 z27 z28 z29 z30 z31 z32 z33 z34 z35 z36 z37 z38 z39 z40 z41 z42 z43 z44 z45 z46 z47 z48 z49 z50 z51 z52 z53 z54 z55 z56 z57 z58 z59 z60 z61 z62 z63 z64 z65 z66 : Value) (w3 : World), inpV y yp yb = true → (∀ i, i < j + 1 → inpV (f2 i).s (f2 i).p (f2 i).b = true) → RowI w3 g2 c2 (j + 1) f2 → X < g2 → RN w R k6 l g cap j f t tp tb w3 → Blk w3 P #[.int .i64 s.tick, .int .i64 s.ax, .int .i64 s.ay, .int .i64 s.fx, .int .i64 s.fy, .int .i64 s.turn, .int .i64 s.gate, .bool s.done, .bool s.over] → Blk w3 X #[.int .i64 y, .int .i64 yp, .bool yb] → K15 ⟨#[.pointer (some ⟨R, 0, none⟩), x1, x2, .pointer (some ⟨w.heap.size, 0, none⟩), z4, .slice (some ⟨g, 0, none⟩) j cap, .pointer (some ⟨w.heap.size + 1 + 1, 0, none⟩), .int .i64 N, .pointer (some ⟨P, 0, none⟩), .int .i64 j, .pointer (some ⟨X, 0, none⟩), .slice (some ⟨g2, 0, none⟩) (j + 1) c2, x12, x13, x14, x15, x16, x17, x18, .agg #[.int .i64 l.id, .int .i64 l.ticks, .int .i64 l.sx, .int .i64 l.sy, .slice l.wa l.wn l.wc, .slice l.ga l.gn l.gc, .int .i64 l.flx, .int .i64 l.fly, .int .i64 l.fhx, .int .i64 l.fhy, .int .i64 l.bans], .agg #[.int .i64 0, .int .i64 l.sx, .int .i64 l.sy, .int .i64 0, .int .i64 0, .int .i64 0, .int .i64 0, .bool false, .bool false], z21, z22, z23, z24, z25, z26, z27, z28, z29, z30, z31, z32, z33, z34, z35, z36, z37, z38, z39, z40, z41, z42, z43, z44, z45, z46, z47, z48, z49, z50, z51, z52, z53, z54, z55, z56, z57, z58, z59, z60, z61, z62, z63, z64, z65, z66, x67], []⟩ w3 := by
              intro y yp yb f2 g2 c2 z4 z21 z22 z23 z24 z25 z26 z27 z28 z29 z30 z31 z32 z33 z34 z35 z36 z37 z38 z39 z40 z41 z42 z43 z44 z45 z46 z47 z48 z49 z50 z51 z52 z53 z54 z55 z56 z57 z58 z59 z60 z61 z62 z63 z64 z65 z66 w3 hyv hf2 hrow3 hg2 M3 T3 X3
              clear M8 T8 X8 hrow2 hb2
              have hF2 := Lib.hid hf2
              clear hf2
              obtain ⟨yv1, yv2, yv3, yv4, _⟩ := inpV_bd hyv
              refine hK15 _ _ ?_
              (try clear q0 q1 q2 q3 q4 q5 q6 q7 q8 q9 q10 b0 b1 b2)
              obtain ⟨q0, q1, q2, q3, q4, q5, q6, q7, q8, q9, q10⟩ := M3.L.c11
              have b0 := M3.B.cell 0
              have b1 := M3.B.cell 1
              have b2 := M3.B.cell 2
              simp only [List.getElem?_toArray, List.getElem?_cons_zero, List.getElem?_cons_succ] at b0 b1 b2
              have hzLM3 := M3.L.lt
              have hzBM3 := M3.B.lt
              (try clear x0 x1 x2)
              have x0 := X3.cell 0
              have x1 := X3.cell 1
              have x2 := X3.cell 2
              simp only [List.getElem?_toArray, List.getElem?_cons_zero, List.getElem?_cons_succ] at x0 x1 x2
              have hzX3 := X3.lt
              go_wp2_with fail
              refine (sLegal l _ (j + 1) c2 f2 _ n0 n3 (by omega) hrow3.ins).mono ?_
              rintro e w4 ⟨rfl, hb4⟩
              obtain ⟨V, hV⟩ : ∃ V, V = l.leg f2 (j + 1) := ⟨_, rfl⟩
              rw [← hV]
              clear hV
              have M4 := M3.passB hb4
              have T4 := T3.below hb4 T3.lt
              have X4 := X3.below hb4 X3.lt
              have row4 := hrow3.below hb4 hrow3.lt
              clear M3 T3 X3 hrow3 hb4
              by_cases hV0 : V ≥ 0
              · go_wp2
                go_ret
                exact ⟨g, cap, j, f, k6, rfl, M4.O, by have := M4.hg; omega, by omega, by omega, by omega, M4.rd, M4.up, fun i hi => in_bd (hFv.out i hi)⟩
              · (try clear q0 q1 q2 q3 q4 q5 q6 q7 q8 q9 q10 b0 b1 b2)
                obtain ⟨q0, q1, q2, q3, q4, q5, q6, q7, q8, q9, q10⟩ := M4.L.c11
                have b0 := M4.B.cell 0
                have b1 := M4.B.cell 1
                have b2 := M4.B.cell 2
                simp only [List.getElem?_toArray, List.getElem?_cons_zero, List.getElem?_cons_succ] at b0 b1 b2
                have hzLM4 := M4.L.lt
                have hzBM4 := M4.B.lt
                (try clear x0 x1 x2)
                have x0 := X4.cell 0
                have x1 := X4.cell 1
                have x2 := X4.cell 2
                simp only [List.getElem?_toArray, List.getElem?_cons_zero, List.getElem?_cons_succ] at x0 x1 x2
                have hzX4 := X4.lt
                obtain ⟨r0, r1, r2, r3, r4, r5, r6, r7, r8⟩ := T4.c9
                have bf := M4.B.frozen
                have hzT4 := T4.lt
                have M5 := M4.setB y yp yb
                have ePB : P ≠ w.heap.size + 1 + 1 := by omega
                have eXB : X ≠ w.heap.size + 1 + 1 := by omega
                have T5 := ((T4.other (p := ⟨w.heap.size + 1 + 1, 0, none⟩) (by simp only; omega) (.int .i64 y)).other (p := ⟨w.heap.size + 1 + 1, 1, none⟩) (by simp only; omega) (.int .i64 yp)).other (p := ⟨w.heap.size + 1 + 1, 2, none⟩) (by simp only; omega) (.bool yb)
                have row5 := ((row4.other (p := ⟨w.heap.size + 1 + 1, 0, none⟩) (by simp only; omega) (.int .i64 y)).other (p := ⟨w.heap.size + 1 + 1, 1, none⟩) (by simp only; omega) (.int .i64 yp)).other (p := ⟨w.heap.size + 1 + 1, 2, none⟩) (by simp only; omega) (.bool yb)
                have hM5 := Lib.hid M5
                have hT5 := Lib.hid T5
                have hrow5 := Lib.hid row5
                clear M5 T5 row5
                go_wp2_with fail
                refine (sTick l s y yp yb _ (by omega) (hl.up hM5.out.up).1 hv hS.ha hS.hf hS.t0 hS.t1 hS.g0 (by have := hS.g1; omega) (by omega) (by omega) (by omega) (by omega)).mono ?_
                obtain ⟨hS2, s2, s3⟩ := hS.step y yp yb
                generalize stepF l s y yp yb = S2 at *
                rintro e w5 ⟨rfl, hb5⟩
                have M6 := hM5.out.passB hb5
                have T6 := hT5.out.below hb5 hT5.out.lt
                have row6 := hrow5.out.below hb5 hrow5.out.lt
                have hzr6 := row6.lt
                have hzX6 : X < w5.heap.size := by omega
                clear q0 q1 q2 q3 q4 q5 q6 q7 q8 q9 q10 b0 b1 b2 x0 x1 x2 r0 r1 r2 r3 r4 r5 r6 r7 r8 bf hM5 hT5 hrow5 M4 T4 X4 row4 hb5
                rename_i K hK
                refine hK _ _ ?_
                refine st_row rfl rfl T6 (by kernel_rfl) rfl (by simp [Value.oneCell']) ?_
                refine wpList_nil ?_
                clear hK K
                have M7 := M6.far hP hgP #[.int .i64 S2.tick, .int .i64 S2.ax, .int .i64 S2.ay, .int .i64 S2.fx, .int .i64 S2.fy, .int .i64 S2.turn, .int .i64 S2.gate, .bool S2.done, .bool S2.over]
                have T7 := T6.row #[.int .i64 S2.tick, .int .i64 S2.ax, .int .i64 S2.ay, .int .i64 S2.fx, .int .i64 S2.fy, .int .i64 S2.turn, .int .i64 S2.gate, .bool S2.done, .bool S2.over]
                have row7 := row6.row (b := P) (by omega) #[.int .i64 S2.tick, .int .i64 S2.ax, .int .i64 S2.ay, .int .i64 S2.fx, .int .i64 S2.fy, .int .i64 S2.turn, .int .i64 S2.gate, .bool S2.done, .bool S2.over]
                have M7' := M7.next row7 (by omega)
                generalize w5.setRow P #[.int .i64 S2.tick, .int .i64 S2.ax, .int .i64 S2.ay, .int .i64 S2.fx, .int .i64 S2.fy, .int .i64 S2.turn, .int .i64 S2.gate, .bool S2.done, .bool S2.over] = w7 at *
                clear M6 T6 row6 M7
                obtain ⟨r0, r1, r2, r3, r4, r5, r6, r7, r8⟩ := T7.c9
                have hzT7 := T7.lt
                cases hd : S2.done with
                | true =>
                  go_wp2
                  go_ret
                  exact ⟨g2, c2, (j + 1), f2, k6, rfl, row7, by have := M7'.hg; omega, by omega, by omega, by omega, M7'.rd, M7'.up, fun i hi => in_bd (hF2.out i hi)⟩
                | false =>
                  go_wp2
                  go_roundw
                  case rel => exact ⟨j + 1, k6, g2, c2, f2, y, yp, yb, S2, rfl, by go_num, by omega, by omega, by omega, ⟨by omega, by omega⟩, hF2.out, hS2, ⟨by omega, by omega⟩, M7', T7, by omega⟩
                  case measure => simp [intOf]; omega
            have hfin15 := Lib.hid fin15
            clear fin15 hK15
            (try clear q0 q1 q2 q3 q4 q5 q6 q7 q8 q9 q10 b0 b1 b2)
            obtain ⟨q0, q1, q2, q3, q4, q5, q6, q7, q8, q9, q10⟩ := M8.L.c11
            have b0 := M8.B.cell 0
            have b1 := M8.B.cell 1
            have b2 := M8.B.cell 2
            simp only [List.getElem?_toArray, List.getElem?_cons_zero, List.getElem?_cons_succ] at b0 b1 b2
            have hzLM8 := M8.L.lt
            have hzBM8 := M8.B.lt
            (try clear x0 x1 x2)
            have x0 := X8.cell 0
            have x1 := X8.cell 1
            have x2 := X8.cell 2
            simp only [List.getElem?_toArray, List.getElem?_cons_zero, List.getElem?_cons_succ] at x0 x1 x2
            have hzX8 := X8.lt
            go_wp2_with fail
            refine (sLegal l _ (j + 1) c2 _ _ n0 n3 (by omega) hrow2.ins).mono ?_
            rintro e w3 ⟨rfl, hb3⟩
            obtain ⟨V, hV⟩ : ∃ V, V = l.leg (isnoc f j ⟨x, xp, xb⟩) (j + 1) := ⟨_, rfl⟩
            rw [← hV]
            clear hV
            have M9 := M8.passB hb3
            have T9 := T8.below hb3 T8.lt
            have X9 := X8.below hb3 X8.lt
            have row9 := hrow2.below hb3 hrow2.lt
            clear M8 T8 X8 hrow2 hb3
            by_cases hV0 : V ≥ 0
            · (try clear q0 q1 q2 q3 q4 q5 q6 q7 q8 q9 q10 b0 b1 b2)
              obtain ⟨q0, q1, q2, q3, q4, q5, q6, q7, q8, q9, q10⟩ := M9.L.c11
              have b0 := M9.B.cell 0
              have b1 := M9.B.cell 1
              have b2 := M9.B.cell 2
              simp only [List.getElem?_toArray, List.getElem?_cons_zero, List.getElem?_cons_succ] at b0 b1 b2
              have hzLM9 := M9.L.lt
              have hzBM9 := M9.B.lt
              (try clear x0 x1 x2)
              have x0 := X9.cell 0
              have x1 := X9.cell 1
              have x2 := X9.cell 2
              simp only [List.getElem?_toArray, List.getElem?_cons_zero, List.getElem?_cons_succ] at x0 x1 x2
              have hzX9 := X9.lt
              have xf := X9.frozen
              have M10 : RN w R k6 l g cap j f t tp tb (((w3.setCell ⟨X, 0, none⟩ (.int .i64 0)).setCell ⟨X, 1, none⟩ (.int .i64 0)).setCell ⟨X, 2, none⟩ (.bool false)) := M9.setX hX (by omega) _ _ _
              have T10 := ((T9.other (p := ⟨X, 0, none⟩) (by simp only; omega) (.int .i64 0)).other (p := ⟨X, 1, none⟩) (by simp only; omega) (.int .i64 0)).other (p := ⟨X, 2, none⟩) (by simp only; omega) (.bool false)
              have X10 : Blk (((w3.setCell ⟨X, 0, none⟩ (.int .i64 0)).setCell ⟨X, 1, none⟩ (.int .i64 0)).setCell ⟨X, 2, none⟩ (.bool false)) X #[.int .i64 0, .int .i64 0, .bool false] := ((X9.set 0 _).set 1 _).set 2 _
              clear M9 T9 X9 row9
              have hM10 := Lib.hid M10
              have hT10 := Lib.hid T10
              have hX10 := Lib.hid X10
              clear M10 T10 X10
              go_upto_region 14 with fail
              have M10 := hM10.out
              have T10 := hT10.out
              have X10 := hX10.out
              clear hM10 hT10 hX10 q0 q1 q2 q3 q4 q5 q6 q7 q8 q9 q10 b0 b1 b2 x0 x1 x2 xf
              generalize ((w3.setCell ⟨X, 0, none⟩ (.int .i64 0)).setCell ⟨X, 1, none⟩ (.int .i64 0)).setCell ⟨X, 2, none⟩ (.bool false) = W3 at *
              have hX3 : w.heap.size + 1 + 1 < X := hX
              have fin14 : ∀ (g2 c2 : Nat) (z4 z21 z22 z23 z24 z25 z26 z27 z28 z29 z30 z31 z32 z33 z34 z35 z36 z37 z38 z39 z40 z41 z42 z43 z44 z45 z46 z47 z48 z49 z50 z51 z52 z53 z54 z55 z56 z57 z58 z59 z60 z61 z62 z63 z64 z65 z66 : Value) (w2 : World), RowI w2 g2 c2 (j + 1) (isnoc f j ⟨0, 0, false⟩) → X < g2 → Below W3.heap.size W3 w2 → K15 ⟨#[.pointer (some ⟨R, 0, none⟩), x1, x2, .pointer (some ⟨w.heap.size, 0, none⟩), z4, .slice (some ⟨g, 0, none⟩) j cap, .pointer (some ⟨w.heap.size + 1 + 1, 0, none⟩), .int .i64 N, .pointer (some ⟨P, 0, none⟩), .int .i64 j, .pointer (some ⟨X, 0, none⟩), .slice (some ⟨g2, 0, none⟩) (j + 1) c2, x12, x13, x14, x15, x16, x17, x18, .agg #[.int .i64 l.id, .int .i64 l.ticks, .int .i64 l.sx, .int .i64 l.sy, .slice l.wa l.wn l.wc, .slice l.ga l.gn l.gc, .int .i64 l.flx, .int .i64 l.fly, .int .i64 l.fhx, .int .i64 l.fhy, .int .i64 l.bans], .agg #[.int .i64 0, .int .i64 l.sx, .int .i64 l.sy, .int .i64 0, .int .i64 0, .int .i64 0, .int .i64 0, .bool false, .bool false], z21, z22, z23, z24, z25, z26, z27, z28, z29, z30, z31, z32, z33, z34, z35, z36, z37, z38, z39, z40, z41, z42, z43, z44, z45, z46, z47, z48, z49, z50, z51, z52, z53, z54, z55, z56, z57, z58, z59, z60, z61, z62, z63, z64, z65, z66, x67], []⟩ w2 := by
                intro g2 c2 z4 z21 z22 z23 z24 z25 z26 z27 z28 z29 z30 z31 z32 z33 z34 z35 z36 z37 z38 z39 z40 z41 z42 z43 z44 z45 z46 z47 z48 z49 z50 z51 z52 z53 z54 z55 z56 z57 z58 z59 z60 z61 z62 z63 z64 z65 z66 w2 hrow hge hb
                exact hfin15.out 0 0 false _ g2 c2 _ _ _ _ _ _ _ _ _ _ _ _ _ _ _ _ _ _ _ _ _ _ _ _ _ _ _ _ _ _ _ _ _ _ _ _ _ _ _ _ _ _ _ _ _ _ _ w2 inpV_zero (isnoc_all (p := fun y => inpV y.s y.p y.b = true) hFv.out inpV_zero) hrow hge (M10.passB hb) (T10.below hb T10.lt) (X10.below hb X10.lt)
              have hfin4 := Lib.hid fin14
              clear fin14 T10
              have M8 := M10.drew
              have X8 : Blk W3.drew X #[.int .i64 (0), .int .i64 (0), .bool (false)] := (show Blk W3 X #[.int .i64 (0), .int .i64 (0), .bool (false)] from X10)
              have B8 : Below W3.heap.size W3 W3.drew := (Below.refl _ _).drew
              have hzV : W3.heap.size ≤ W3.drew.heap.size := Nat.le_refl _
              have hzXW := X10.lt
              have hzO8 := M8.O.lt
              have hzX8 := X8.lt
              refine wp_region_cut 5 (by kernel_rfl) (by kernel_rfl) (S := fun W => W.cell? ⟨X, 0, none⟩ = some (.int .i64 0) ∧ W.cell? ⟨X, 1, none⟩ = some (.int .i64 0) ∧ W.cell? ⟨X, 2, none⟩ = some (.bool false)) ⟨X8.cell 0, X8.cell 1, X8.cell 2⟩ (fun hHeld => ?_)
              simp only [List.take_succ_cons, List.take_zero]
              (refine wpAnyH_take (i := 1) (v := ?_) rfl (by kernel_rfl) (by kernel_rfl) (by kernel_rfl) (fun _ _ _ h => h) (Or.inl ⟨by rfl, ?_⟩) (by assumption) ?_; rotate_left; · (intro w hSw; (try dsimp only at hSw); go_simp; (try with_reducible rfl))); (try simp only [Act.put, List.setIfInBounds_toArray, List.set_cons_zero, List.set_cons_succ])
              (refine wpAnyH_take (i := 3) (v := ?_) rfl (by kernel_rfl) (by kernel_rfl) (by kernel_rfl) (fun _ _ _ h => h) (Or.inl ⟨by rfl, ?_⟩) (by assumption) ?_; rotate_left; · (intro w hSw; (try dsimp only at hSw); go_simp; (try with_reducible rfl))); (try simp only [Act.put, List.setIfInBounds_toArray, List.set_cons_zero, List.set_cons_succ])
              generalize W3.drew = V0 at *
              refine wpAnyH_ready (rs := [0, 4]) (by kernel_rfl) (by simp) ?_
              refine AllReadyH.cons rfl (fun K hK => ?_) (AllReadyH.cons rfl (fun K hK => ?_) (AllReadyH.nil))
              · (try simp only [List.getElem_toArray, List.getElem_cons_succ, List.getElem_cons_zero])
                go_simp
                have r36 : RowI (V0.alloc (.cells #[] 33)) V0.heap.size 0 0 in0 := RowI.empty in0 rfl
                have bA := (Below.refl V0.heap.size V0).alloc (Nat.le_refl _) (.cells #[] 33)
                have M9 := M8.passB bA
                have X9 := X8.below bA X8.lt
                have B9 := B8.trans (bA.mono hzV)
                have hz9 : V0.heap.size < (V0.alloc (.cells #[] 33)).heap.size := by simp
                clear M8 X8 bA
                refine hK.out _ _ (⟨X9.cell 0, X9.cell 1, X9.cell 2⟩) (fun hHeld => ?_); clear hK K; (try simp only [Act.put, List.setIfInBounds_toArray, List.set_cons_zero, List.set_cons_succ])
                generalize V0.alloc (.cells #[] 33) = V1 at *
                refine wpAnyH_ready (rs := [2, 4]) (by kernel_rfl) (by simp) ?_
                refine AllReadyH.cons rfl (fun K hK => ?_) (AllReadyH.cons rfl (fun K hK => ?_) (AllReadyH.nil))
                · refine step_app_ins (by rfl) _ _ (by rfl) _ 0 0 in0 (some ⟨g, 0, none⟩) j cap f (by rfl) r36 (by rfl) M9.O.ins (by omega) ?_
                  intro g3 c3 V3 r38 hge3 hu3 hlt3
                  rw [Nat.zero_add] at r38 ⊢
                  (try simp only [List.getElem_toArray, List.getElem_cons_zero, List.getElem_cons_succ, Act.put, List.setIfInBounds_toArray, List.set_cons_zero, List.set_cons_succ])
                  have hb3 : Below W3.heap.size V1 V3 := hu3.under (by omega) (by omega)
                  have B3 := B9.trans hb3
                  have X3 := X9.below hb3 (by omega)
                  have hz3 := hu3.size
                  clear M9 X9 r36 hu3 hb3
                  refine hK.out _ _ (⟨X3.cell 0, X3.cell 1, X3.cell 2⟩) (fun hHeld => ?_); clear hK K; (try simp only [Act.put, List.setIfInBounds_toArray, List.set_cons_zero, List.set_cons_succ])
                  refine wpAnyH_ready (rs := [4]) (by kernel_rfl) (by simp) ?_; refine AllReadyH.cons rfl (fun K hK => ?_) AllReadyH.nil; (try simp only [List.getElem_toArray, List.getElem_cons_succ, List.getElem_cons_zero])
                  go_simp
                  have bA := (Below.refl V3.heap.size V3).alloc (Nat.le_refl _) (.cells #[.int .i64 (0), .int .i64 (0), .bool (false)] 33)
                  have X4 := X3.below bA X3.lt
                  have Y4 : Blk (V3.alloc (.cells #[.int .i64 (0), .int .i64 (0), .bool (false)] 33)) V3.heap.size #[.int .i64 (0), .int .i64 (0), .bool (false)] := Blk.at rfl
                  have r4 := r38.alloc (.cells #[.int .i64 (0), .int .i64 (0), .bool (false)] 33)
                  have B4 := B3.trans (bA.mono B3.size)
                  clear bA X3 r38
                  refine hK.out _ _ (⟨X4.cell 0, X4.cell 1, X4.cell 2⟩) (fun hHeld => ?_); clear hK K; (try simp only [Act.put, List.setIfInBounds_toArray, List.set_cons_zero, List.set_cons_succ])
                  refine wpAnyH_done (by kernel_rfl) ?_ _
                  simp only [TailQ, List.drop_succ_cons, List.drop_zero]
                  clear hHeld
                  refine app_ins rfl _ _ rfl g3 c3 j _ (some ⟨V3.heap.size, 0, none⟩) 1 1 (fun _ => ⟨0, 0, false⟩) rfl r4 rfl (ins_blk Y4) (by omega) ?_
                  intro g4 c4 V4 row4 hge4 hu4 hlt4
                  have row5 := app_end row4
                  have B5 : Below W3.heap.size W3 V4 := B4.trans (hu4.under (by omega) B4.size)
                  go_wp2_with fail
                  exact hfin4.out g4 c4 _ _ _ _ _ _ _ _ _ _ _ _ _ _ _ _ _ _ _ _ _ _ _ _ _ _ _ _ _ _ _ _ _ _ _ _ _ _ _ _ _ _ _ _ _ _ _ V4 row5 (by omega) B5
                · (try simp only [List.getElem_toArray, List.getElem_cons_succ, List.getElem_cons_zero])
                  go_simp
                  have bA := (Below.refl V1.heap.size V1).alloc (Nat.le_refl _) (.cells #[.int .i64 (0), .int .i64 (0), .bool (false)] 33)
                  have M4 := M9.passB bA
                  have X4 := X9.below bA X9.lt
                  have Y4 : Blk (V1.alloc (.cells #[.int .i64 (0), .int .i64 (0), .bool (false)] 33)) V1.heap.size #[.int .i64 (0), .int .i64 (0), .bool (false)] := Blk.at rfl
                  have r4 := r36.alloc (.cells #[.int .i64 (0), .int .i64 (0), .bool (false)] 33)
                  have B4 := B9.trans (bA.mono B9.size)
                  have hz4 : V1.heap.size < (V1.alloc (.cells #[.int .i64 (0), .int .i64 (0), .bool (false)] 33)).heap.size := by simp
                  clear bA X9 r36 M9
                  refine hK.out _ _ (⟨X4.cell 0, X4.cell 1, X4.cell 2⟩) (fun hHeld => ?_); clear hK K; (try simp only [Act.put, List.setIfInBounds_toArray, List.set_cons_zero, List.set_cons_succ])
                  generalize V1.alloc (.cells #[.int .i64 (0), .int .i64 (0), .bool (false)] 33) = V2 at *
                  refine wpAnyH_ready (rs := [2]) (by kernel_rfl) (by simp) ?_; refine AllReadyH.cons rfl (fun K hK => ?_) AllReadyH.nil
                  refine step_app_ins (by rfl) _ _ (by rfl) _ 0 0 in0 (some ⟨g, 0, none⟩) j cap f (by rfl) r4 (by rfl) M4.O.ins (by omega) ?_
                  intro g3 c3 V3 r38 hge3 hu3 hlt3
                  rw [Nat.zero_add] at r38 ⊢
                  (try simp only [List.getElem_toArray, List.getElem_cons_zero, List.getElem_cons_succ, Act.put, List.setIfInBounds_toArray, List.set_cons_zero, List.set_cons_succ])
                  have hb3 : Below W3.heap.size V2 V3 := hu3.under (by omega) (by omega)
                  have B3 := B4.trans hb3
                  have X3 := X4.below hb3 (by omega)
                  have Y3 := Y4.up hu3 Y4.lt (by omega)
                  have hz3 := hu3.size
                  clear M4 X4 Y4 r4 hu3 hb3
                  refine hK.out _ _ (⟨X3.cell 0, X3.cell 1, X3.cell 2⟩) (fun hHeld => ?_); clear hK K; (try simp only [Act.put, List.setIfInBounds_toArray, List.set_cons_zero, List.set_cons_succ])
                  refine wpAnyH_done (by kernel_rfl) ?_ _
                  simp only [TailQ, List.drop_succ_cons, List.drop_zero]
                  clear hHeld
                  refine app_ins rfl _ _ rfl g3 c3 j _ (some ⟨V1.heap.size, 0, none⟩) 1 1 (fun _ => ⟨0, 0, false⟩) rfl r38 rfl (ins_blk Y3) (by omega) ?_
                  intro g4 c4 V4 row4 hge4 hu4 hlt4
                  have row5 := app_end row4
                  have B5 : Below W3.heap.size W3 V4 := B3.trans (hu4.under (by omega) B3.size)
                  go_wp2_with fail
                  exact hfin4.out g4 c4 _ _ _ _ _ _ _ _ _ _ _ _ _ _ _ _ _ _ _ _ _ _ _ _ _ _ _ _ _ _ _ _ _ _ _ _ _ _ _ _ _ _ _ _ _ _ _ V4 row5 (by omega) B5
              · (try simp only [List.getElem_toArray, List.getElem_cons_succ, List.getElem_cons_zero])
                go_simp
                have bA := (Below.refl V0.heap.size V0).alloc (Nat.le_refl _) (.cells #[.int .i64 (0), .int .i64 (0), .bool (false)] 33)
                have M9 := M8.passB bA
                have X9 := X8.below bA X8.lt
                have Y9 : Blk (V0.alloc (.cells #[.int .i64 (0), .int .i64 (0), .bool (false)] 33)) V0.heap.size #[.int .i64 (0), .int .i64 (0), .bool (false)] := Blk.at rfl
                have B9 := B8.trans (bA.mono hzV)
                have hz9 : V0.heap.size < (V0.alloc (.cells #[.int .i64 (0), .int .i64 (0), .bool (false)] 33)).heap.size := by simp
                clear M8 X8 bA
                refine hK.out _ _ (⟨X9.cell 0, X9.cell 1, X9.cell 2⟩) (fun hHeld => ?_); clear hK K; (try simp only [Act.put, List.setIfInBounds_toArray, List.set_cons_zero, List.set_cons_succ])
                generalize V0.alloc (.cells #[.int .i64 (0), .int .i64 (0), .bool (false)] 33) = V1 at *
                refine wpAnyH_ready (rs := [0]) (by kernel_rfl) (by simp) ?_; refine AllReadyH.cons rfl (fun K hK => ?_) AllReadyH.nil; (try simp only [List.getElem_toArray, List.getElem_cons_succ, List.getElem_cons_zero])
                go_simp
                have r36 : RowI (V1.alloc (.cells #[] 33)) V1.heap.size 0 0 in0 := RowI.empty in0 rfl
                have bA := (Below.refl V1.heap.size V1).alloc (Nat.le_refl _) (.cells #[] 33)
                have M4 := M9.passB bA
                have X4 := X9.below bA X9.lt
                have Y4 := Y9.below bA Y9.lt
                have hzY := Y9.lt
                have B4 := B9.trans (bA.mono B9.size)
                have hz4 : V1.heap.size < (V1.alloc (.cells #[] 33)).heap.size := by simp
                clear bA X9 Y9 M9
                refine hK.out _ _ (⟨X4.cell 0, X4.cell 1, X4.cell 2⟩) (fun hHeld => ?_); clear hK K; (try simp only [Act.put, List.setIfInBounds_toArray, List.set_cons_zero, List.set_cons_succ])
                generalize V1.alloc (.cells #[] 33) = V2 at *
                refine wpAnyH_ready (rs := [2]) (by kernel_rfl) (by simp) ?_; refine AllReadyH.cons rfl (fun K hK => ?_) AllReadyH.nil
                refine step_app_ins (by rfl) _ _ (by rfl) _ 0 0 in0 (some ⟨g, 0, none⟩) j cap f (by rfl) r36 (by rfl) M4.O.ins (by omega) ?_
                intro g3 c3 V3 r38 hge3 hu3 hlt3
                rw [Nat.zero_add] at r38 ⊢
                (try simp only [List.getElem_toArray, List.getElem_cons_zero, List.getElem_cons_succ, Act.put, List.setIfInBounds_toArray, List.set_cons_zero, List.set_cons_succ])
                have hb3 : Below W3.heap.size V2 V3 := hu3.under (by omega) (by omega)
                have B3 := B4.trans hb3
                have X3 := X4.below hb3 (by omega)
                have Y3 := Y4.up hu3 Y4.lt (by omega)
                have hz3 := hu3.size
                clear M4 X4 Y4 r36 hu3 hb3
                refine hK.out _ _ (⟨X3.cell 0, X3.cell 1, X3.cell 2⟩) (fun hHeld => ?_); clear hK K; (try simp only [Act.put, List.setIfInBounds_toArray, List.set_cons_zero, List.set_cons_succ])
                refine wpAnyH_done (by kernel_rfl) ?_ _
                simp only [TailQ, List.drop_succ_cons, List.drop_zero]
                clear hHeld
                refine app_ins rfl _ _ rfl g3 c3 j _ (some ⟨V0.heap.size, 0, none⟩) 1 1 (fun _ => ⟨0, 0, false⟩) rfl r38 rfl (ins_blk Y3) (by omega) ?_
                intro g4 c4 V4 row4 hge4 hu4 hlt4
                have row5 := app_end row4
                have B5 : Below W3.heap.size W3 V4 := B3.trans (hu4.under (by omega) B3.size)
                go_wp2_with fail
                exact hfin4.out g4 c4 _ _ _ _ _ _ _ _ _ _ _ _ _ _ _ _ _ _ _ _ _ _ _ _ _ _ _ _ _ _ _ _ _ _ _ _ _ _ _ _ _ _ _ _ _ _ _ V4 row5 (by omega) B5
            · go_wp2_with fail
              exact hfin15.out x xp xb _ g2 c2 _ _ _ _ _ _ _ _ _ _ _ _ _ _ _ _ _ _ _ _ _ _ _ _ _ _ _ _ _ _ _ _ _ _ _ _ _ _ _ _ _ _ _ _ _ _ _ w3 hxv (isnoc_all (p := fun y => inpV y.s y.p y.b = true) hFv.out hxv) row9 hge2 M9 T9 X9
          have hfin := Lib.hid fin11
          clear fin11 hK11 T7
          have M8 := M7.drew
          have X8 : Blk W1.drew X #[.int .i64 (x), .int .i64 (xp), .bool (xb)] := (show Blk W1 X #[.int .i64 (x), .int .i64 (xp), .bool (xb)] from X7)
          have B8 : Below W1.heap.size W1 W1.drew := (Below.refl _ _).drew
          have hzV : W1.heap.size ≤ W1.drew.heap.size := Nat.le_refl _
          have hzXW := X7.lt
          have hzO8 := M8.O.lt
          have hzX8 := X8.lt
          refine wp_region_cut 5 (by kernel_rfl) (by kernel_rfl) (S := fun W => W.cell? ⟨X, 0, none⟩ = some (.int .i64 x) ∧ W.cell? ⟨X, 1, none⟩ = some (.int .i64 xp) ∧ W.cell? ⟨X, 2, none⟩ = some (.bool xb)) ⟨X8.cell 0, X8.cell 1, X8.cell 2⟩ (fun hHeld => ?_)
          simp only [List.take_succ_cons, List.take_zero]
          (refine wpAnyH_take (i := 1) (v := ?_) rfl (by kernel_rfl) (by kernel_rfl) (by kernel_rfl) (fun _ _ _ h => h) (Or.inl ⟨by rfl, ?_⟩) (by assumption) ?_; rotate_left; · (intro w hSw; (try dsimp only at hSw); go_simp; (try with_reducible rfl))); (try simp only [Act.put, List.setIfInBounds_toArray, List.set_cons_zero, List.set_cons_succ])
          (refine wpAnyH_take (i := 3) (v := ?_) rfl (by kernel_rfl) (by kernel_rfl) (by kernel_rfl) (fun _ _ _ h => h) (Or.inl ⟨by rfl, ?_⟩) (by assumption) ?_; rotate_left; · (intro w hSw; (try dsimp only at hSw); go_simp; (try with_reducible rfl))); (try simp only [Act.put, List.setIfInBounds_toArray, List.set_cons_zero, List.set_cons_succ])
          generalize W1.drew = V0 at *
          refine wpAnyH_ready (rs := [0, 4]) (by kernel_rfl) (by simp) ?_
          refine AllReadyH.cons rfl (fun K hK => ?_) (AllReadyH.cons rfl (fun K hK => ?_) (AllReadyH.nil))
          · (try simp only [List.getElem_toArray, List.getElem_cons_succ, List.getElem_cons_zero])
            go_simp
            have r36 : RowI (V0.alloc (.cells #[] 33)) V0.heap.size 0 0 in0 := RowI.empty in0 rfl
            have bA := (Below.refl V0.heap.size V0).alloc (Nat.le_refl _) (.cells #[] 33)
            have M9 := M8.passB bA
            have X9 := X8.below bA X8.lt
            have B9 := B8.trans (bA.mono hzV)
            have hz9 : V0.heap.size < (V0.alloc (.cells #[] 33)).heap.size := by simp
            clear M8 X8 bA
            refine hK.out _ _ (⟨X9.cell 0, X9.cell 1, X9.cell 2⟩) (fun hHeld => ?_); clear hK K; (try simp only [Act.put, List.setIfInBounds_toArray, List.set_cons_zero, List.set_cons_succ])
            generalize V0.alloc (.cells #[] 33) = V1 at *
            refine wpAnyH_ready (rs := [2, 4]) (by kernel_rfl) (by simp) ?_
            refine AllReadyH.cons rfl (fun K hK => ?_) (AllReadyH.cons rfl (fun K hK => ?_) (AllReadyH.nil))
            · refine step_app_ins (by rfl) _ _ (by rfl) _ 0 0 in0 (some ⟨g, 0, none⟩) j cap f (by rfl) r36 (by rfl) M9.O.ins (by omega) ?_
              intro g3 c3 V3 r38 hge3 hu3 hlt3
              rw [Nat.zero_add] at r38 ⊢
              (try simp only [List.getElem_toArray, List.getElem_cons_zero, List.getElem_cons_succ, Act.put, List.setIfInBounds_toArray, List.set_cons_zero, List.set_cons_succ])
              have hb3 : Below W1.heap.size V1 V3 := hu3.under (by omega) (by omega)
              have B3 := B9.trans hb3
              have X3 := X9.below hb3 (by omega)
              have hz3 := hu3.size
              clear M9 X9 r36 hu3 hb3
              refine hK.out _ _ (⟨X3.cell 0, X3.cell 1, X3.cell 2⟩) (fun hHeld => ?_); clear hK K; (try simp only [Act.put, List.setIfInBounds_toArray, List.set_cons_zero, List.set_cons_succ])
              refine wpAnyH_ready (rs := [4]) (by kernel_rfl) (by simp) ?_; refine AllReadyH.cons rfl (fun K hK => ?_) AllReadyH.nil; (try simp only [List.getElem_toArray, List.getElem_cons_succ, List.getElem_cons_zero])
              go_simp
              have bA := (Below.refl V3.heap.size V3).alloc (Nat.le_refl _) (.cells #[.int .i64 (x), .int .i64 (xp), .bool (xb)] 33)
              have X4 := X3.below bA X3.lt
              have Y4 : Blk (V3.alloc (.cells #[.int .i64 (x), .int .i64 (xp), .bool (xb)] 33)) V3.heap.size #[.int .i64 (x), .int .i64 (xp), .bool (xb)] := Blk.at rfl
              have r4 := r38.alloc (.cells #[.int .i64 (x), .int .i64 (xp), .bool (xb)] 33)
              have B4 := B3.trans (bA.mono B3.size)
              clear bA X3 r38
              refine hK.out _ _ (⟨X4.cell 0, X4.cell 1, X4.cell 2⟩) (fun hHeld => ?_); clear hK K; (try simp only [Act.put, List.setIfInBounds_toArray, List.set_cons_zero, List.set_cons_succ])
              refine wpAnyH_done (by kernel_rfl) ?_ _
              simp only [TailQ, List.drop_succ_cons, List.drop_zero]
              clear hHeld
              refine app_ins rfl _ _ rfl g3 c3 j _ (some ⟨V3.heap.size, 0, none⟩) 1 1 (fun _ => ⟨x, xp, xb⟩) rfl r4 rfl (ins_blk Y4) (by omega) ?_
              intro g4 c4 V4 row4 hge4 hu4 hlt4
              have row5 := app_end row4
              have B5 : Below W1.heap.size W1 V4 := B4.trans (hu4.under (by omega) B4.size)
              go_wp2_with fail
              exact hfin.out g4 c4 _ _ _ _ _ _ _ _ _ _ _ _ _ _ _ _ _ _ _ _ _ _ _ _ _ _ _ _ _ _ _ _ _ _ _ _ _ _ _ _ _ _ _ _ _ _ _ V4 row5 (by omega) B5
            · (try simp only [List.getElem_toArray, List.getElem_cons_succ, List.getElem_cons_zero])
              go_simp
              have bA := (Below.refl V1.heap.size V1).alloc (Nat.le_refl _) (.cells #[.int .i64 (x), .int .i64 (xp), .bool (xb)] 33)
              have M4 := M9.passB bA
              have X4 := X9.below bA X9.lt
              have Y4 : Blk (V1.alloc (.cells #[.int .i64 (x), .int .i64 (xp), .bool (xb)] 33)) V1.heap.size #[.int .i64 (x), .int .i64 (xp), .bool (xb)] := Blk.at rfl
              have r4 := r36.alloc (.cells #[.int .i64 (x), .int .i64 (xp), .bool (xb)] 33)
              have B4 := B9.trans (bA.mono B9.size)
              have hz4 : V1.heap.size < (V1.alloc (.cells #[.int .i64 (x), .int .i64 (xp), .bool (xb)] 33)).heap.size := by simp
              clear bA X9 r36 M9
              refine hK.out _ _ (⟨X4.cell 0, X4.cell 1, X4.cell 2⟩) (fun hHeld => ?_); clear hK K; (try simp only [Act.put, List.setIfInBounds_toArray, List.set_cons_zero, List.set_cons_succ])
              generalize V1.alloc (.cells #[.int .i64 (x), .int .i64 (xp), .bool (xb)] 33) = V2 at *
              refine wpAnyH_ready (rs := [2]) (by kernel_rfl) (by simp) ?_; refine AllReadyH.cons rfl (fun K hK => ?_) AllReadyH.nil
              refine step_app_ins (by rfl) _ _ (by rfl) _ 0 0 in0 (some ⟨g, 0, none⟩) j cap f (by rfl) r4 (by rfl) M4.O.ins (by omega) ?_
              intro g3 c3 V3 r38 hge3 hu3 hlt3
              rw [Nat.zero_add] at r38 ⊢
              (try simp only [List.getElem_toArray, List.getElem_cons_zero, List.getElem_cons_succ, Act.put, List.setIfInBounds_toArray, List.set_cons_zero, List.set_cons_succ])
              have hb3 : Below W1.heap.size V2 V3 := hu3.under (by omega) (by omega)
              have B3 := B4.trans hb3
              have X3 := X4.below hb3 (by omega)
              have Y3 := Y4.up hu3 Y4.lt (by omega)
              have hz3 := hu3.size
              clear M4 X4 Y4 r4 hu3 hb3
              refine hK.out _ _ (⟨X3.cell 0, X3.cell 1, X3.cell 2⟩) (fun hHeld => ?_); clear hK K; (try simp only [Act.put, List.setIfInBounds_toArray, List.set_cons_zero, List.set_cons_succ])
              refine wpAnyH_done (by kernel_rfl) ?_ _
              simp only [TailQ, List.drop_succ_cons, List.drop_zero]
              clear hHeld
              refine app_ins rfl _ _ rfl g3 c3 j _ (some ⟨V1.heap.size, 0, none⟩) 1 1 (fun _ => ⟨x, xp, xb⟩) rfl r38 rfl (ins_blk Y3) (by omega) ?_
              intro g4 c4 V4 row4 hge4 hu4 hlt4
              have row5 := app_end row4
              have B5 : Below W1.heap.size W1 V4 := B3.trans (hu4.under (by omega) B3.size)
              go_wp2_with fail
              exact hfin.out g4 c4 _ _ _ _ _ _ _ _ _ _ _ _ _ _ _ _ _ _ _ _ _ _ _ _ _ _ _ _ _ _ _ _ _ _ _ _ _ _ _ _ _ _ _ _ _ _ _ V4 row5 (by omega) B5
          · (try simp only [List.getElem_toArray, List.getElem_cons_succ, List.getElem_cons_zero])
            go_simp
            have bA := (Below.refl V0.heap.size V0).alloc (Nat.le_refl _) (.cells #[.int .i64 (x), .int .i64 (xp), .bool (xb)] 33)
            have M9 := M8.passB bA
            have X9 := X8.below bA X8.lt
            have Y9 : Blk (V0.alloc (.cells #[.int .i64 (x), .int .i64 (xp), .bool (xb)] 33)) V0.heap.size #[.int .i64 (x), .int .i64 (xp), .bool (xb)] := Blk.at rfl
            have B9 := B8.trans (bA.mono hzV)
            have hz9 : V0.heap.size < (V0.alloc (.cells #[.int .i64 (x), .int .i64 (xp), .bool (xb)] 33)).heap.size := by simp
            clear M8 X8 bA
            refine hK.out _ _ (⟨X9.cell 0, X9.cell 1, X9.cell 2⟩) (fun hHeld => ?_); clear hK K; (try simp only [Act.put, List.setIfInBounds_toArray, List.set_cons_zero, List.set_cons_succ])
            generalize V0.alloc (.cells #[.int .i64 (x), .int .i64 (xp), .bool (xb)] 33) = V1 at *
            refine wpAnyH_ready (rs := [0]) (by kernel_rfl) (by simp) ?_; refine AllReadyH.cons rfl (fun K hK => ?_) AllReadyH.nil; (try simp only [List.getElem_toArray, List.getElem_cons_succ, List.getElem_cons_zero])
            go_simp
            have r36 : RowI (V1.alloc (.cells #[] 33)) V1.heap.size 0 0 in0 := RowI.empty in0 rfl
            have bA := (Below.refl V1.heap.size V1).alloc (Nat.le_refl _) (.cells #[] 33)
            have M4 := M9.passB bA
            have X4 := X9.below bA X9.lt
            have Y4 := Y9.below bA Y9.lt
            have hzY := Y9.lt
            have B4 := B9.trans (bA.mono B9.size)
            have hz4 : V1.heap.size < (V1.alloc (.cells #[] 33)).heap.size := by simp
            clear bA X9 Y9 M9
            refine hK.out _ _ (⟨X4.cell 0, X4.cell 1, X4.cell 2⟩) (fun hHeld => ?_); clear hK K; (try simp only [Act.put, List.setIfInBounds_toArray, List.set_cons_zero, List.set_cons_succ])
            generalize V1.alloc (.cells #[] 33) = V2 at *
            refine wpAnyH_ready (rs := [2]) (by kernel_rfl) (by simp) ?_; refine AllReadyH.cons rfl (fun K hK => ?_) AllReadyH.nil
            refine step_app_ins (by rfl) _ _ (by rfl) _ 0 0 in0 (some ⟨g, 0, none⟩) j cap f (by rfl) r36 (by rfl) M4.O.ins (by omega) ?_
            intro g3 c3 V3 r38 hge3 hu3 hlt3
            rw [Nat.zero_add] at r38 ⊢
            (try simp only [List.getElem_toArray, List.getElem_cons_zero, List.getElem_cons_succ, Act.put, List.setIfInBounds_toArray, List.set_cons_zero, List.set_cons_succ])
            have hb3 : Below W1.heap.size V2 V3 := hu3.under (by omega) (by omega)
            have B3 := B4.trans hb3
            have X3 := X4.below hb3 (by omega)
            have Y3 := Y4.up hu3 Y4.lt (by omega)
            have hz3 := hu3.size
            clear M4 X4 Y4 r36 hu3 hb3
            refine hK.out _ _ (⟨X3.cell 0, X3.cell 1, X3.cell 2⟩) (fun hHeld => ?_); clear hK K; (try simp only [Act.put, List.setIfInBounds_toArray, List.set_cons_zero, List.set_cons_succ])
            refine wpAnyH_done (by kernel_rfl) ?_ _
            simp only [TailQ, List.drop_succ_cons, List.drop_zero]
            clear hHeld
            refine app_ins rfl _ _ rfl g3 c3 j _ (some ⟨V0.heap.size, 0, none⟩) 1 1 (fun _ => ⟨x, xp, xb⟩) rfl r38 rfl (ins_blk Y3) (by omega) ?_
            intro g4 c4 V4 row4 hge4 hu4 hlt4
            have row5 := app_end row4
            have B5 : Below W1.heap.size W1 V4 := B3.trans (hu4.under (by omega) B3.size)
            go_wp2_with fail
            exact hfin.out g4 c4 _ _ _ _ _ _ _ _ _ _ _ _ _ _ _ _ _ _ _ _ _ _ _ _ _ _ _ _ _ _ _ _ _ _ _ _ _ _ _ _ _ _ _ _ _ _ _ V4 row5 (by omega) B5
        · go_ret
          exact ⟨g, cap, j, f, kk, rfl, M5.O, by have := M5.hg; omega, by omega, by omega, by omega, M5.rd, M5.up, fun i hi => in_bd (hFv.out i hi)⟩
      · go_wp2
        go_ret
        exact ⟨g, cap, j, f, kk, rfl, M5.O, by have := M5.hg; omega, by omega, by omega, by omega, M5.rd, M5.up, fun i hi => in_bd (hFv.out i hi)⟩
  go_wp2_with fail
  refine (pick_any R (k + 1) 3 _ M1.rd (by omega) (by omega) (by omega)).mono ?_
  rintro e w2 ⟨v2, rfl, hv2, hw2, hr2, hu2⟩
  have M2 := M1.pass hr2 hu2
  clear hr2 hu2
  have hfin := Lib.hid fin6
  clear hKr fin6
  go_wp2_with fail
  · exact hfin.out _ _ _ _ _ _ _ _ _ _ _ _ _ _ _ _ _ _ _ _ _ _ _ _ _ _ _ _ _ _ _ _ _ _ _ _ _ _ _ _ _ _ _ _ _ _ _ _ _ _ _ _ _ _ _ _ _ _ _ _ _ _ _ _ w2 (by omega) (by omega) M2
  · exact hfin.out _ _ _ _ _ _ _ _ _ _ _ _ _ _ _ _ _ _ _ _ _ _ _ _ _ _ _ _ _ _ _ _ _ _ _ _ _ _ _ _ _ _ _ _ _ _ _ _ _ _ _ _ _ _ _ _ _ _ _ _ _ _ _ _ w2 (by omega) (by omega) M2
end Go.Proofs.Ytnhjalijnociaaa

/- States that a law draws; the walks of FnSpeed, FnEngineHash, FnEngineHashAt. -/
import Derived.Test.YtnhjalijnociaaaQaz
import Derived.Test.YtnhjalijnociaaaQba
import Derived.Test.YtnhjalijnociaaaQau
set_option linter.unusedVariables false
set_option linter.unusedSimpArgs false
namespace Go.Proofs.Ytnhjalijnociaaa
open Go.RowKit

/-- a state drawn by a law -/
def DrawnSt (w : World) (e : Ending) (w' : World) : Prop := ∃ s : St, e = .returned (.agg #[.int .i64 s.tick, .int .i64 s.ax, .int .i64 s.ay, .int .i64 s.fx, .int .i64 s.fy, .int .i64 s.turn, .int .i64 s.gate, .bool s.done, .bool s.over]) ∧ Below w.heap.size w w'
set_option maxRecDepth 100000 in
set_option maxHeartbeats 2000000 in
theorem dEngineHash (a : Option Addr) (len cap : Nat) (zs : List Int) (w : World) (h : IsRow .u8 w a len cap zs) : Calls Try.prog 46 #[.slice a len cap] w (DrawnSt w) := by
  go_enter Try.func46, Try.ntmps46
  go_wp2_with fail
  refine (open_any _ _ _ _ _ (h.keep (by (repeat (first | with_reducible assumption | with_reducible exact Below.refl _ _ | ((with_reducible refine Below.alloc ?_ ?_ _); rotate_left; · exact (by first | omega | (simp; done) | (simp; omega))) | ((with_reducible refine Below.setCell ?_ ?_ _); rotate_left; · exact (by first | omega | (simp; done) | (simp; omega))) | with_reducible refine Below.drew ?_ | assumption | exact Below.refl _ _ | refine Below.alloc ?_ (by first | omega | (simp; done) | (simp; omega)) _ | refine Below.setCell ?_ (by first | omega | (simp; done) | (simp; omega)) _ | refine Below.drew ?_))))).mono ?_
  rintro e w1 ⟨R, rfl, hR0, hr1, hb1⟩
  have hR : w.heap.size < R := by simp at hR0; omega
  have Z1 : Blk w1 w.heap.size #[.int .i64 0, .int .i64 0, .int .i64 0, .int .i64 0, .int .i64 0, .int .i64 0, .int .i64 0, .bool false, .bool false] := (Blk.at rfl).below hb1 (by simp)
  have hU1 : Up R w.heap.size w w1 := Up.of_below (bstep (by (repeat (first | with_reducible assumption | with_reducible exact Below.refl _ _ | ((with_reducible refine Below.alloc ?_ ?_ _); rotate_left; · exact (by first | omega | (simp; done) | (simp; omega))) | ((with_reducible refine Below.setCell ?_ ?_ _); rotate_left; · exact (by first | omega | (simp; done) | (simp; omega))) | with_reducible refine Below.drew ?_ | assumption | exact Below.refl _ _ | refine Below.alloc ?_ (by first | omega | (simp; done) | (simp; omega)) _ | refine Below.setCell ?_ (by first | omega | (simp; done) | (simp; omega)) _ | refine Below.drew ?_))) (by first | omega | (simp; done) | (simp; omega)) hb1)
  have hne : w.heap.size ≠ R := by omega
  have hRl := hr1.lt
  go_wp2_with fail
  refine (lLevel_first R 0 _ hr1 (by omega)).mono ?_
  rintro e w2 ⟨l, k2, rfl, hl2, hs2, hbv, hvk, ⟨n0, n3⟩, hk1, hk2, hr2, hu2⟩
  have Z2 := Z1.up hu2 Z1.lt hne
  have hU2 : Up R w.heap.size w w2 := hU1.trans (hu2.mono hU1.size)
  have hwn := hs2.wn
  have hgn := hs2.gn
  go_wp2_with fail
  refine (lState R k2 l _ hr2 (by omega) hwn hgn n0 n3 hl2 hbv hvk).mono ?_
  rintro e w3 ⟨s, k3, rfl, hk3, hk4, hr3, hu3⟩
  have Z3 := Z2.up hu3 Z2.lt hne
  have hU3 : Up R w.heap.size w w3 := hU2.trans (hu3.mono hU2.size)
  obtain ⟨q0, q1, q2, q3, q4, q5, q6, q7, q8⟩ := Z3.c9
  have qf := Z3.frozen
  clear Z1 Z2 hU1 hU2 hu2 hu3 hb1 hr1 hr2 hl2 hs2
  have ZF := (((((((((Z3.s9_0 (.int .i64 s.tick)).s9_1 (.int .i64 s.ax)).s9_2 (.int .i64 s.ay)).s9_3 (.int .i64 s.fx)).s9_4 (.int .i64 s.fy)).s9_5 (.int .i64 s.turn)).s9_6 (.int .i64 s.gate)).s9_7 (.bool s.done)).s9_8 (.bool s.over))
  have hA := sets_up w.heap.size w3.heap.size [.int .i64 s.tick, .int .i64 s.ax, .int .i64 s.ay, .int .i64 s.fx, .int .i64 s.fy, .int .i64 s.turn, .int .i64 s.gate, .bool s.done, .bool s.over] 0 w3
  go_wp2
  refine bodyPost_ret (res_row rfl rfl ZF Try.underlying31 rfl (by kernel_rfl)) rfl ?_
  exact ⟨s, rfl, (hU3.trans (hA.shift (Nat.le_refl _) hU3.size)).below (by omega)⟩
set_option maxRecDepth 100000 in
set_option maxHeartbeats 2000000 in
theorem dEngineSpeed (a : Option Addr) (len cap : Nat) (zs : List Int) (w : World) (h : IsRow .u8 w a len cap zs) : Calls Try.prog 42 #[.slice a len cap] w (DrawnSt w) := by
  go_enter Try.func42, Try.ntmps42
  go_wp2_with fail
  refine (dEngineHash _ _ _ _ _ (h.keep (by (repeat (first | with_reducible assumption | with_reducible exact Below.refl _ _ | ((with_reducible refine Below.alloc ?_ ?_ _); rotate_left; · exact (by first | omega | (simp; done) | (simp; omega))) | ((with_reducible refine Below.setCell ?_ ?_ _); rotate_left; · exact (by first | omega | (simp; done) | (simp; omega))) | with_reducible refine Below.drew ?_ | assumption | exact Below.refl _ _ | refine Below.alloc ?_ (by first | omega | (simp; done) | (simp; omega)) _ | refine Below.setCell ?_ (by first | omega | (simp; done) | (simp; omega)) _ | refine Below.drew ?_))))).mono ?_
  rintro e w3 ⟨s, rfl, hb3⟩
  have Z3 : Blk w3 w.heap.size #[.int .i64 0, .int .i64 0, .int .i64 0, .int .i64 0, .int .i64 0, .int .i64 0, .int .i64 0, .bool false, .bool false] := (Blk.at rfl).below hb3 (by simp)
  have hU3 : Below w.heap.size w w3 := bstep (by (repeat (first | with_reducible assumption | with_reducible exact Below.refl _ _ | ((with_reducible refine Below.alloc ?_ ?_ _); rotate_left; · exact (by first | omega | (simp; done) | (simp; omega))) | ((with_reducible refine Below.setCell ?_ ?_ _); rotate_left; · exact (by first | omega | (simp; done) | (simp; omega))) | with_reducible refine Below.drew ?_ | assumption | exact Below.refl _ _ | refine Below.alloc ?_ (by first | omega | (simp; done) | (simp; omega)) _ | refine Below.setCell ?_ (by first | omega | (simp; done) | (simp; omega)) _ | refine Below.drew ?_))) (by first | omega | (simp; done) | (simp; omega)) hb3
  obtain ⟨q0, q1, q2, q3, q4, q5, q6, q7, q8⟩ := Z3.c9
  have qf := Z3.frozen
  have ZF := (((((((((Z3.s9_0 (.int .i64 s.tick)).s9_1 (.int .i64 s.ax)).s9_2 (.int .i64 s.ay)).s9_3 (.int .i64 s.fx)).s9_4 (.int .i64 s.fy)).s9_5 (.int .i64 s.turn)).s9_6 (.int .i64 s.gate)).s9_7 (.bool s.done)).s9_8 (.bool s.over))
  have hA := sets_up w.heap.size w3.heap.size [.int .i64 s.tick, .int .i64 s.ax, .int .i64 s.ay, .int .i64 s.fx, .int .i64 s.fy, .int .i64 s.turn, .int .i64 s.gate, .bool s.done, .bool s.over] 0 w3
  go_wp2
  refine bodyPost_ret (res_row rfl rfl ZF Try.underlying31 rfl (by kernel_rfl)) rfl ?_
  exact ⟨s, rfl, hU3.trans (hA.under (Nat.le_refl _) hU3.size)⟩
/-- a law's variable that holds a state -/
structure SJ (w0 : World) (P : Nat) (s : St) (w : World) : Prop where
  blk : Blk w P #[.int .i64 s.tick, .int .i64 s.ax, .int .i64 s.ay, .int .i64 s.fx, .int .i64 s.fy, .int .i64 s.turn, .int .i64 s.gate, .bool s.done, .bool s.over]
  bel : Below w0.heap.size w0 w
  hP : w0.heap.size ≤ P
theorem SJ.mk0 {w0 w : World} {s : St} {t : TypeId} (hb : Below w0.heap.size w0 w) : SJ w0 w.heap.size s (w.alloc (.cells #[.int .i64 s.tick, .int .i64 s.ax, .int .i64 s.ay, .int .i64 s.fx, .int .i64 s.fy, .int .i64 s.turn, .int .i64 s.gate, .bool s.done, .bool s.over] t)) := ⟨Blk.at rfl, hb.alloc hb.size _, hb.size⟩
theorem SJ.pass {w0 w w' : World} {P : Nat} {s : St} (h : SJ w0 P s w) (hb : Below w.heap.size w w') : SJ w0 P s w' := ⟨h.blk.below hb h.blk.lt, h.bel.trans (hb.mono h.bel.size), h.hP⟩
theorem SJ.alloc {w0 w : World} {P : Nat} {s : St} (h : SJ w0 P s w) (o : Obj) : SJ w0 P s (w.alloc o) := h.pass ((Below.refl _ _).alloc (Nat.le_refl _) o)
set_option maxRecDepth 100000 in
set_option maxHeartbeats 2000000 in
theorem lawSpeed (a : Option Addr) (len cap : Nat) (zs : List Int) (w : World) (h : IsRow .u8 w a len cap zs) : Calls Try.prog 15 #[.slice a len cap] w fun e w' => e = .returned (.bool true) ∧ Below w.heap.size w w' := by
  by_cases hl : len ≤ 1048576
  · go_enter Try.func15, Try.ntmps15
    go_wp2_with fail
    refine (dEngineSpeed _ _ _ _ _ h).mono ?_
    rintro e w1 ⟨s, rfl, hb1⟩
    have I1 : SJ w w1.heap.size s (w1.alloc (.cells #[.int .i64 s.tick, .int .i64 s.ax, .int .i64 s.ay, .int .i64 s.fx, .int .i64 s.fy, .int .i64 s.turn, .int .i64 s.gate, .bool s.done, .bool s.over] 31)) := SJ.mk0 hb1
    go_wp2_with fail
    refine (iSpeed s _).mono ?_
    rintro e w2 ⟨rfl, hb2⟩
    have I2 := I1.pass hb2
    (try clear q0 q1 q2 q3 q4 q5 q6 q7 q8); obtain ⟨q0, q1, q2, q3, q4, q5, q6, q7, q8⟩ := I2.blk.c9
    have hz2 := I2.blk.lt
    go_wp2_with fail
    refine (sSpeed s _).mono ?_
    rintro e w3 ⟨rfl, hb3⟩
    have I3 := I2.pass hb3
    (try clear q0 q1 q2 q3 q4 q5 q6 q7 q8); obtain ⟨q0, q1, q2, q3, q4, q5, q6, q7, q8⟩ := I3.blk.c9
    have hz3 := I3.blk.lt
    clear hb2 hb3 I1 I2 hz2 hb1
    cases hk : s.own with
    | false =>
      go_wp2
      go_ret
      exact ⟨ret_bool (by simp), I3.bel⟩
    | true =>
      have h3 : vokB s.fx s.fy = true := by
        simp only [St.own, Bool.and_eq_true] at hk
        exact hk.1.1.1.1.2
      have hsp := Lib.hid (St.speed_t hk)
      go_wp2_with fail
      refine (iLength _ _ _).mono ?_
      rw [h3, if_pos rfl]
      rintro e w4 ⟨rfl, hb4⟩
      have I4 := I3.pass hb4
      rw [← hsp.out]
      go_wp2
      go_ret
      exact ⟨ret_bool (by simp), I4.bel⟩
  · go_enter Try.func15, Try.ntmps15
    go_wp2
    go_ret
    exact ⟨rfl, by (repeat (first | with_reducible assumption | with_reducible exact Below.refl _ _ | ((with_reducible refine Below.alloc ?_ ?_ _); rotate_left; · exact (by first | omega | (simp; done) | (simp; omega))) | ((with_reducible refine Below.setCell ?_ ?_ _); rotate_left; · exact (by first | omega | (simp; done) | (simp; omega))) | with_reducible refine Below.drew ?_ | assumption | exact Below.refl _ _ | refine Below.alloc ?_ (by first | omega | (simp; done) | (simp; omega)) _ | refine Below.setCell ?_ (by first | omega | (simp; done) | (simp; omega)) _ | refine Below.drew ?_))⟩
set_option maxRecDepth 100000 in
set_option maxHeartbeats 2000000 in
theorem lawEngineHash (a : Option Addr) (len cap : Nat) (zs : List Int) (a2 : Option Addr) (len2 cap2 : Nat) (zs2 : List Int) (w : World) (h : IsRow .u8 w a len cap zs) (h2 : IsRow .u8 w a2 len2 cap2 zs2) : Calls Try.prog 16 #[.slice a len cap, .slice a2 len2 cap2] w fun e w' => e = .returned (.bool true) ∧ Below w.heap.size w w' := by
  by_cases hl : len ≤ 1048576
  · by_cases hl2 : len2 ≤ 1048576
    · go_enter Try.func16, Try.ntmps16
      go_wp2_with fail
      refine (dEngineHash _ _ _ _ _ h).mono ?_
      rintro e w1 ⟨s, rfl, hb1⟩
      have I1 : SJ w w1.heap.size s (w1.alloc (.cells #[.int .i64 s.tick, .int .i64 s.ax, .int .i64 s.ay, .int .i64 s.fx, .int .i64 s.fy, .int .i64 s.turn, .int .i64 s.gate, .bool s.done, .bool s.over] 31)) := SJ.mk0 hb1
      have hbd := s.hashV_bd
      go_wp2_with fail
      refine (iEngineHash s _).mono ?_
      rintro e w2 ⟨rfl, hb2⟩
      have I2 := I1.pass hb2
      (try clear q0 q1 q2 q3 q4 q5 q6 q7 q8); obtain ⟨q0, q1, q2, q3, q4, q5, q6, q7, q8⟩ := I2.blk.c9
      have hz2 := I2.blk.lt
      go_wp2_with fail
      refine (sEngineHash s _).mono ?_
      rintro e w3 ⟨rfl, hb3⟩
      have I3 := I2.pass hb3
      (try clear q0 q1 q2 q3 q4 q5 q6 q7 q8); obtain ⟨q0, q1, q2, q3, q4, q5, q6, q7, q8⟩ := I3.blk.c9
      have hz3 := I3.blk.lt
      clear hb2 hb3 I1 I2 hz2 hb1
      obtain ⟨z, hz⟩ : ∃ z, s.hashV = z := ⟨_, rfl⟩
      rw [hz] at hbd ⊢
      by_cases h0 : z < 0
      · go_wp2
        go_ret
        exact ⟨rfl, I3.bel⟩
      · have hk : s.own = true := St.hashV_ok (by omega)
        obtain ⟨⟨b1, b2⟩, ⟨b3, b4⟩, ⟨b5, b6⟩⟩ := St.own_bd hk
        have t1 : ((len2 : Nat) : Int).tmod 60 = ((len2 : Nat) : Int) % 60 := Int.tmod_eq_emod_of_nonneg (by omega)
        have t2 : ((len2 : Nat) : Int).tmod 15 = ((len2 : Nat) : Int) % 15 := Int.tmod_eq_emod_of_nonneg (by omega)
        have e1 := St.new_tick hk ((len2 : Nat) : Int) (by omega)
        have e2 := St.new_turn hk ((len2 : Nat) : Int) (by omega)
        have n1 : 0 ≤ s.tick + 1 + ((len2 : Nat) : Int) % 60 := by omega
        have n2 : 0 ≤ s.turn + 1 + ((len2 : Nat) : Int) % 15 := by omega
        rw [hz] at e1 e2
        go_wp2_with fail
        generalize (s.tick + 1 + ((len2 : Nat) : Int) % 60) % 61 = T at *
        generalize (s.turn + 1 + ((len2 : Nat) : Int) % 15) % 16 = U at *
        refine (iEngineHash ⟨T, s.ax, s.ay, s.fx, s.fy, s.turn, s.gate, s.done, s.over⟩ _).mono ?_
        rintro e w4 ⟨rfl, hb4⟩
        have I4 := ((I3.alloc (.cells #[.int .i64 T, .int .i64 s.ax, .int .i64 s.ay, .int .i64 s.fx, .int .i64 s.fy, .int .i64 s.turn, .int .i64 s.gate, .bool s.done, .bool s.over] 31)).alloc (.cells #[.int .i64 s.tick, .int .i64 s.ax, .int .i64 s.ay, .int .i64 s.fx, .int .i64 s.fy, .int .i64 U, .int .i64 s.gate, .bool s.done, .bool s.over] 31)).pass hb4
        have B4 : Blk w4 (w3.heap.size + 1) #[.int .i64 s.tick, .int .i64 s.ax, .int .i64 s.ay, .int .i64 s.fx, .int .i64 s.fy, .int .i64 U, .int .i64 s.gate, .bool s.done, .bool s.over] := (Blk.at (by simp)).below hb4 (by simp)
        generalize ({ tick := T, ax := s.ax, ay := s.ay, fx := s.fx, fy := s.fy, turn := s.turn, gate := s.gate, done := s.done, over := s.over } : St).hashV = A at *
        have eA : (A != z) = true := by simpa using e1
        clear e1 q0 q1 q2 q3 q4 q5 q6 q7 q8
        obtain ⟨r0, r1, r2, r3, r4, r5, r6, r7, r8⟩ := B4.c9
        have hz4 := B4.lt
        go_wp2_with fail
        refine (iEngineHash ⟨s.tick, s.ax, s.ay, s.fx, s.fy, U, s.gate, s.done, s.over⟩ _).mono ?_
        rintro e w5 ⟨rfl, hb5⟩
        have I5 := I4.pass hb5
        generalize ({ tick := s.tick, ax := s.ax, ay := s.ay, fx := s.fx, fy := s.fy, turn := U, gate := s.gate, done := s.done, over := s.over } : St).hashV = C at *
        have eC : (C != z) = true := by simpa using e2
        clear e2
        go_wp2
        go_ret
        exact ⟨ret_bool (by first | rfl | simp [eA, eC]), I5.bel⟩
    · go_enter Try.func16, Try.ntmps16
      go_wp2
      go_ret
      exact ⟨rfl, by (repeat (first | with_reducible assumption | with_reducible exact Below.refl _ _ | ((with_reducible refine Below.alloc ?_ ?_ _); rotate_left; · exact (by first | omega | (simp; done) | (simp; omega))) | ((with_reducible refine Below.setCell ?_ ?_ _); rotate_left; · exact (by first | omega | (simp; done) | (simp; omega))) | with_reducible refine Below.drew ?_ | assumption | exact Below.refl _ _ | refine Below.alloc ?_ (by first | omega | (simp; done) | (simp; omega)) _ | refine Below.setCell ?_ (by first | omega | (simp; done) | (simp; omega)) _ | refine Below.drew ?_))⟩
  · go_enter Try.func16, Try.ntmps16
    go_wp2
    go_ret
    exact ⟨rfl, by (repeat (first | with_reducible assumption | with_reducible exact Below.refl _ _ | ((with_reducible refine Below.alloc ?_ ?_ _); rotate_left; · exact (by first | omega | (simp; done) | (simp; omega))) | ((with_reducible refine Below.setCell ?_ ?_ _); rotate_left; · exact (by first | omega | (simp; done) | (simp; omega))) | with_reducible refine Below.drew ?_ | assumption | exact Below.refl _ _ | refine Below.alloc ?_ (by first | omega | (simp; done) | (simp; omega)) _ | refine Below.setCell ?_ (by first | omega | (simp; done) | (simp; omega)) _ | refine Below.drew ?_))⟩
set_option maxRecDepth 100000 in
set_option maxHeartbeats 2000000 in
theorem lawEngineHashAt (a : Option Addr) (len cap : Nat) (zs : List Int) (a2 : Option Addr) (len2 cap2 : Nat) (zs2 : List Int) (w : World) (h : IsRow .u8 w a len cap zs) (h2 : IsRow .u8 w a2 len2 cap2 zs2) : Calls Try.prog 17 #[.slice a len cap, .slice a2 len2 cap2] w fun e w' => e = .returned (.bool true) ∧ Below w.heap.size w w' := by
  by_cases hl : len ≤ 1048576
  · by_cases hl2 : len2 ≤ 1048576
    · go_enter Try.func17, Try.ntmps17
      go_wp2_with fail
      refine (dEngineHash _ _ _ _ _ h).mono ?_
      rintro e w1 ⟨s, rfl, hb1⟩
      have I1 : SJ w w1.heap.size s (w1.alloc (.cells #[.int .i64 s.tick, .int .i64 s.ax, .int .i64 s.ay, .int .i64 s.fx, .int .i64 s.fy, .int .i64 s.turn, .int .i64 s.gate, .bool s.done, .bool s.over] 31)) := SJ.mk0 hb1
      have hbd := s.hashV_bd
      go_wp2_with fail
      refine (iEngineHash s _).mono ?_
      rintro e w2 ⟨rfl, hb2⟩
      have I2 := I1.pass hb2
      (try clear q0 q1 q2 q3 q4 q5 q6 q7 q8); obtain ⟨q0, q1, q2, q3, q4, q5, q6, q7, q8⟩ := I2.blk.c9
      have hz2 := I2.blk.lt
      go_wp2_with fail
      refine (sEngineHash s _).mono ?_
      rintro e w3 ⟨rfl, hb3⟩
      have I3 := I2.pass hb3
      (try clear q0 q1 q2 q3 q4 q5 q6 q7 q8); obtain ⟨q0, q1, q2, q3, q4, q5, q6, q7, q8⟩ := I3.blk.c9
      have hz3 := I3.blk.lt
      clear hb2 hb3 I1 I2 hz2 hb1
      obtain ⟨z, hz⟩ : ∃ z, s.hashV = z := ⟨_, rfl⟩
      rw [hz] at hbd ⊢
      by_cases h0 : z < 0
      · go_wp2
        go_ret
        exact ⟨rfl, I3.bel⟩
      · have hk : s.own = true := St.hashV_ok (by omega)
        obtain ⟨⟨b1, b2⟩, ⟨b3, b4⟩, ⟨b5, b6⟩⟩ := St.own_bd hk
        have t1 : ((len2 : Nat) : Int).tmod 500 = ((len2 : Nat) : Int) % 500 := Int.tmod_eq_emod_of_nonneg (by omega)
        have e1 := St.new_ax hk ((len2 : Nat) : Int) (by omega)
        have n1 : -9000000 ≤ s.ax + 1 + ((len2 : Nat) : Int) % 500 := by omega
        have n2 : s.ax + 1 + ((len2 : Nat) : Int) % 500 ≤ 9000000 := by omega
        rw [hz] at e1
        have e1 := Lib.hid e1
        by_cases hx : 1000000 < s.ax + 1 + ((len2 : Nat) : Int) % 500
        · go_wp2
          go_ret
          exact ⟨ret_bool (by simp [hx]), I3.bel.alloc I3.bel.size _⟩
        · go_wp2_with fail
          refine (iEngineHash ⟨s.tick, s.ax + 1 + ((len2 : Nat) : Int) % 500, s.ay, s.fx, s.fy, s.turn, s.gate, s.done, s.over⟩ _).mono ?_
          rintro e w4 ⟨rfl, hb4⟩
          have I4 := (I3.alloc (.cells #[.int .i64 s.tick, .int .i64 (s.ax + 1 + ((len2 : Nat) : Int) % 500), .int .i64 s.ay, .int .i64 s.fx, .int .i64 s.fy, .int .i64 s.turn, .int .i64 s.gate, .bool s.done, .bool s.over] 31)).pass hb4
          have eA : (({ tick := s.tick, ax := s.ax + 1 + ((len2 : Nat) : Int) % 500, ay := s.ay, fx := s.fx, fy := s.fy, turn := s.turn, gate := s.gate, done := s.done, over := s.over } : St).hashV != z) = true := by simpa using e1.out
          generalize ({ tick := s.tick, ax := s.ax + 1 + ((len2 : Nat) : Int) % 500, ay := s.ay, fx := s.fx, fy := s.fy, turn := s.turn, gate := s.gate, done := s.done, over := s.over } : St).hashV = A at *
          go_wp2
          go_ret
          exact ⟨ret_bool (by first | rfl | simp [eA]), I4.bel⟩
    · go_enter Try.func17, Try.ntmps17
      go_wp2
      go_ret
      exact ⟨rfl, by (repeat (first | with_reducible assumption | with_reducible exact Below.refl _ _ | ((with_reducible refine Below.alloc ?_ ?_ _); rotate_left; · exact (by first | omega | (simp; done) | (simp; omega))) | ((with_reducible refine Below.setCell ?_ ?_ _); rotate_left; · exact (by first | omega | (simp; done) | (simp; omega))) | with_reducible refine Below.drew ?_ | assumption | exact Below.refl _ _ | refine Below.alloc ?_ (by first | omega | (simp; done) | (simp; omega)) _ | refine Below.setCell ?_ (by first | omega | (simp; done) | (simp; omega)) _ | refine Below.drew ?_))⟩
  · go_enter Try.func17, Try.ntmps17
    go_wp2
    go_ret
    exact ⟨rfl, by (repeat (first | with_reducible assumption | with_reducible exact Below.refl _ _ | ((with_reducible refine Below.alloc ?_ ?_ _); rotate_left; · exact (by first | omega | (simp; done) | (simp; omega))) | ((with_reducible refine Below.setCell ?_ ?_ _); rotate_left; · exact (by first | omega | (simp; done) | (simp; omega))) | with_reducible refine Below.drew ?_ | assumption | exact Below.refl _ _ | refine Below.alloc ?_ (by first | omega | (simp; done) | (simp; omega)) _ | refine Below.setCell ?_ (by first | omega | (simp; done) | (simp; omega)) _ | refine Below.drew ?_))⟩
end Go.Proofs.Ytnhjalijnociaaa

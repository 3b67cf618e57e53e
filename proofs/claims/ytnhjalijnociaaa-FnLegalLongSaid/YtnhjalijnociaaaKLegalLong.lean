/- The walk of FnLegalLong. -/
import Derived.Test.YtnhjalijnociaaaKa
set_option linter.unusedVariables false
set_option linter.unusedSimpArgs false
namespace Go.Proofs.Ytnhjalijnociaaa
open Go.RowKit

theorem made_in (m : Nat) : (madeCells (Value.agg #[.int .i64 0, .int .i64 0, .bool false]).cells (m * 3)).toList = jvals (inC ⟨0, 0, false⟩) m := by
  refine jvals_of (by simp [size_madeCells]) (fun i hi j hj => ?_)
  have e : i * 3 + j < m * 3 := by omega
  have e2 : (i * 3 + j) % 3 = j := by omega
  have hc : (Value.agg #[.int .i64 0, .int .i64 0, .bool false] : Value).cells = #[.int .i64 0, .int .i64 0, .bool false] := rfl
  rw [hc]
  have hm : j = 0 ∨ j = 1 ∨ j = 2 := by omega
  rcases hm with rfl | rfl | rfl <;> simp [madeCells, e, inC, Inp.cells] <;> exact ⟨i * 3, by rw [List.getElem?_range (by omega)], by rw [show i * 3 % 3 = 0 by omega]; rfl⟩
set_option maxRecDepth 100000 in
set_option maxHeartbeats 1000000 in
theorem lawLegalLong (a : Option Addr) (len cap : Nat) (zs : List Int) (a2 : Option Addr) (len2 cap2 : Nat) (zs2 : List Int) (w : World) (h : IsRow .u8 w a len cap zs) (h2 : IsRow .u8 w a2 len2 cap2 zs2) : Calls Try.prog 18 #[.slice a len cap, .slice a2 len2 cap2] w fun e w' => e = .returned (.bool true) ∧ Below w.heap.size w w' := by
  by_cases hl : len ≤ 1048576
  · by_cases hl2 : len2 ≤ 1048576
    · go_enter Try.func18, Try.ntmps18
      go_wp2_with fail
      refine (dInputsLegal _ _ _ _ _ h).mono ?_
      rintro e w1 ⟨l, g, c, n, f, rfl, hl1, hs1, hi1, hcn, hn, hb1⟩
      have hwn := hs1.wn
      have hgn := hs1.gn
      have I1 : QJ w w1.heap.size l g n f (w1.alloc (.cells #[.int .i64 l.id, .int .i64 l.ticks, .int .i64 l.sx, .int .i64 l.sy, .slice l.wa l.wn l.wc, .slice l.ga l.gn l.gc, .int .i64 l.flx, .int .i64 l.fly, .int .i64 l.fhx, .int .i64 l.fhy, .int .i64 l.bans] 29)) := QJ.mk0 hl1 hi1 hb1
      clear hl1 hs1 hi1
      go_wp2_with fail
      refine (iLegal l (some ⟨g, 0, none⟩) n c f _ I1.lv (by omega) I1.xs).mono ?_
      rintro e w2 ⟨rfl, hb2⟩
      have I2 := I1.pass hb2
      generalize w1.heap.size = B at *
      clear I1 hb1 hb2
      obtain ⟨V, hV⟩ : ∃ V, V = l.legV f n := ⟨_, rfl⟩
      rw [← hV]
      have hVh := Lib.hid hV
      clear hV
      (try clear q0 q1 q2 q3 q4 q5 q6 q7 q8 q9 q10); obtain ⟨q0, q1, q2, q3, q4, q5, q6, q7, q8, q9, q10⟩ := I2.L.c11
      have hzL2 := I2.L.lt
      go_wp2_with fail
      refine (sInputsLegal l (some ⟨g, 0, none⟩) n c f _ (by omega) (by omega) I2.lv (by omega) I2.xs).mono ?_
      rw [← hVh.out]
      rintro e w3 ⟨rfl, hb3⟩
      have I3 := I2.pass hb3
      clear I2 hb3
      (try clear q0 q1 q2 q3 q4 q5 q6 q7 q8 q9 q10); obtain ⟨q0, q1, q2, q3, q4, q5, q6, q7, q8, q9, q10⟩ := I3.L.c11
      have hzL3 := I3.L.lt
      go_wp2_with fail
      refine (sLevelValid l _ (by omega) (by omega) I3.lv).mono ?_
      rintro e w4 ⟨rfl, hb4⟩
      have I4 := I3.pass hb4
      clear I3 hb4
      (try clear q0 q1 q2 q3 q4 q5 q6 q7 q8 q9 q10); obtain ⟨q0, q1, q2, q3, q4, q5, q6, q7, q8, q9, q10⟩ := I4.L.c11
      have hzL4 := I4.L.lt
      cases hk : l.ok with
      | false =>
        go_wp2
        go_ret
        exact ⟨ret_bool (by first | rfl | simp), I4.bel⟩
      | true =>
        have hbd := Lv.ok_num2 hk
        obtain ⟨_, ⟨t1, t2⟩, ⟨n0, n3⟩, _⟩ := hbd
        have t0 : ((len2 : Nat) : Int).tmod 3 = ((len2 : Nat) : Int) % 3 := Int.tmod_eq_emod_of_nonneg (by omega)
        obtain ⟨m, hm⟩ : ∃ m : Nat, (m : Int) = l.ticks + ((len2 : Nat) : Int) % 3 := ⟨(l.ticks + ((len2 : Nat) : Int) % 3).toNat, by omega⟩
        have hm1 : m ≤ 62 := by omega
        have hm2 : l.ticks ≤ (m : Int) := by omega
        obtain ⟨i0, hi, hz0, hz1, hz2⟩ := info_parts infoIn
        have hwl : wrap64 (l.ticks + ((len2 : Nat) : Int) % 3) = (m : Int) := by rw [← hm]; exact IntWalk.wrap64_in _ (by omega)
        have hwlh := Lib.hid hwl
        have hmh := Lib.hid hm
        clear hwl
        clear hm
        go_wp2_with (at_make; refine wpList_make_full _ rfl _ _ 69 rfl w4.heap.size 33 i0 _ 3 Try.underlying69 hi hz0 hz1 .i64 .i64 _ _ m rfl rfl (by first | with_reducible exact hmh.out.symm | with_reducible exact hwlh.out) (by first | with_reducible exact hmh.out.symm | with_reducible exact hwlh.out) (by rw [hz2]; omega) (by unfold maxLen; omega) (Nat.le_refl _) ?_; intro w0 hown0 hgrow0; have hB0 : Below w4.heap.size w4 w0 := (Below.refl _ _).grown hgrow0 (Nat.le_refl _) (fun k h => by cases h); have I5 := I4.pass hB0; have x5 : InsAt w0 (some ⟨w4.heap.size, 0, none⟩) m (inC ⟨0, 0, false⟩) := ins_own (by rw [← made_in]; exact hown0); clear hown0 hgrow0 hB0 q0 q1 q2 q3 q4 q5 q6 q7 q8 q9 q10 I4; (try clear q0 q1 q2 q3 q4 q5 q6 q7 q8 q9 q10); obtain ⟨q0, q1, q2, q3, q4, q5, q6, q7, q8, q9, q10⟩ := I5.L.c11; have hzL5 := I5.L.lt)
        refine (iLegal l (some ⟨w4.heap.size, 0, none⟩) m m (inC ⟨0, 0, false⟩) _ I5.lv (by omega) x5).mono ?_
        by_cases hmt : (m : Int) = l.ticks
        case pos =>
          rw [zero_leg hk (by omega)]
          rintro e w6 ⟨rfl, hb6⟩
          have I6 := I5.pass hb6
          clear I5 hb6 x5 q0 q1 q2 q3 q4 q5 q6 q7 q8 q9 q10
          (try clear q0 q1 q2 q3 q4 q5 q6 q7 q8 q9 q10); obtain ⟨q0, q1, q2, q3, q4, q5, q6, q7, q8, q9, q10⟩ := I6.L.c11
          have hzL6 := I6.L.lt
          go_wp2
          go_ret
          exact ⟨ret_bool (by first | rfl | (simp; done) | (simp; omega)), I6.bel⟩
        case neg =>
          rw [zero_long hk (by omega) (by omega)]
          rintro e w6 ⟨rfl, hb6⟩
          have I6 := I5.pass hb6
          clear I5 hb6 x5 q0 q1 q2 q3 q4 q5 q6 q7 q8 q9 q10
          (try clear q0 q1 q2 q3 q4 q5 q6 q7 q8 q9 q10); obtain ⟨q0, q1, q2, q3, q4, q5, q6, q7, q8, q9, q10⟩ := I6.L.c11
          have hzL6 := I6.L.lt
          go_wp2
          go_ret
          exact ⟨ret_bool (by first | rfl | (simp; done) | (simp; omega)), I6.bel⟩
    · go_enter Try.func18, Try.ntmps18
      go_wp2
      go_ret
      exact ⟨rfl, by (repeat (first | with_reducible assumption | with_reducible exact Below.refl _ _ | ((with_reducible refine Below.alloc ?_ ?_ _); rotate_left; · exact (by first | omega | (simp; done) | (simp; omega))) | ((with_reducible refine Below.setCell ?_ ?_ _); rotate_left; · exact (by first | omega | (simp; done) | (simp; omega))) | with_reducible refine Below.drew ?_ | assumption | exact Below.refl _ _ | refine Below.alloc ?_ (by first | omega | (simp; done) | (simp; omega)) _ | refine Below.setCell ?_ (by first | omega | (simp; done) | (simp; omega)) _ | refine Below.drew ?_))⟩
  · go_enter Try.func18, Try.ntmps18
    go_wp2
    go_ret
    exact ⟨rfl, by (repeat (first | with_reducible assumption | with_reducible exact Below.refl _ _ | ((with_reducible refine Below.alloc ?_ ?_ _); rotate_left; · exact (by first | omega | (simp; done) | (simp; omega))) | ((with_reducible refine Below.setCell ?_ ?_ _); rotate_left; · exact (by first | omega | (simp; done) | (simp; omega))) | with_reducible refine Below.drew ?_ | assumption | exact Below.refl _ _ | refine Below.alloc ?_ (by first | omega | (simp; done) | (simp; omega)) _ | refine Below.setCell ?_ (by first | omega | (simp; done) | (simp; omega)) _ | refine Below.drew ?_))⟩
end Go.Proofs.Ytnhjalijnociaaa

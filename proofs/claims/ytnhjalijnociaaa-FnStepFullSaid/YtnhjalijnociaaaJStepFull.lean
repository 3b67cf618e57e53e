/- The walk of FnStepFull. -/
import Derived.Test.YtnhjalijnociaaaJa
import Derived.Test.YtnhjalijnociaaaSw
set_option linter.unusedVariables false
set_option linter.unusedSimpArgs false
namespace Go.Proofs.Ytnhjalijnociaaa
open Go.RowKit
attribute [local go_sem ↓] run_eqlVec run_neqVec vq_self bq_self

attribute [local go_sem ↓] run_eq9 run_ne9
set_option maxRecDepth 100000 in
set_option maxHeartbeats 2000000 in
theorem lawStepFull (a : Option Addr) (len cap : Nat) (zs : List Int) (w : World) (h : IsRow .u8 w a len cap zs) : Calls Try.prog 14 #[.slice a len cap] w fun e w' => e = .returned (.bool true) ∧ Below w.heap.size w w' := by
  by_cases hl : len ≤ 1048576
  · go_enter Try.func14, Try.ntmps14
    go_wp2_with fail
    refine (dEngineStart _ _ _ _ _ h).mono ?_
    rintro e w1 ⟨l, R, rfl, hR, hl1, hs1, hb1⟩
    have hs2 := hs1.wn
    have hs3 := hs1.gn
    have I1 : LJ w w1.heap.size l (w1.alloc (.cells #[.int .i64 l.id, .int .i64 l.ticks, .int .i64 l.sx, .int .i64 l.sy, .slice l.wa l.wn l.wc, .slice l.ga l.gn l.gc, .int .i64 l.flx, .int .i64 l.fly, .int .i64 l.fhx, .int .i64 l.fhy, .int .i64 l.bans] 29)) := LJ.mk0 hl1.1 hb1
    clear hR hl1 hs1 hb1
    go_wp2_with fail
    refine (iStart l _ I1.lv).mono ?_
    rintro e w2 ⟨rfl, hb2⟩
    have I2 := I1.pass hb2
    generalize w1.heap.size = P at *
    (try clear q0 q1 q2 q3 q4 q5 q6 q7 q8 q9 q10); obtain ⟨q0, q1, q2, q3, q4, q5, q6, q7, q8, q9, q10⟩ := I2.blk.c11
    have hz2 := I2.blk.lt
    clear I1 hb2
    cases hk : l.ok with
    | false =>
      rw [Lv.start_f hk]
      go_wp2_with fail
      refine (sStart l _ (by omega) (by omega) (I2.alloc _).lv).mono ?_
      rw [hk, Lv.start_f hk]
      rintro e w3 ⟨rfl, hb3⟩
      have I3 := (I2.alloc (.cells #[.int .i64 0, .int .i64 0, .int .i64 0, .int .i64 0, .int .i64 0, .int .i64 0, .int .i64 0, .bool false, .bool false] 31)).pass hb3
      have S3 : Blk w3 w2.heap.size #[.int .i64 0, .int .i64 0, .int .i64 0, .int .i64 0, .int .i64 0, .int .i64 0, .int .i64 0, .bool false, .bool false] := (Blk.at rfl).below hb3 (by simp)
      have hz3 := S3.lt
      have hzP := I3.blk.lt
      clear hb3 I2 hz2
      (try clear q0 q1 q2 q3 q4 q5 q6 q7 q8 q9 q10); obtain ⟨q0, q1, q2, q3, q4, q5, q6, q7, q8, q9, q10⟩ := I3.blk.c11
      (try clear c0 c1 c2 c3 c4 c5 c6 c7 c8); obtain ⟨c0, c1, c2, c3, c4, c5, c6, c7, c8⟩ := S3.c9
      go_wp2
      go_ret
      exact ⟨ret_bool (by first | rfl | simp), I3.bel.alloc I3.bel.size _⟩
    | true =>
      rw [Lv.start_t hk]
      go_wp2_with fail
      refine (sStart l _ (by omega) (by omega) (I2.alloc _).lv).mono ?_
      rw [hk, Lv.start_t hk]
      rintro e w3 ⟨rfl, hb3⟩
      have I3 := ((I2.alloc (.cells #[.int .i64 0, .int .i64 l.sx, .int .i64 l.sy, .int .i64 0, .int .i64 0, .int .i64 0, .int .i64 0, .bool false, .bool false] 31)).pass hb3).alloc (.cells #[.int .i64 0, .int .i64 l.sx, .int .i64 l.sy, .int .i64 0, .int .i64 0, .int .i64 0, .int .i64 0, .bool false, .bool false] 31)
      have S3 := ((Blk.at rfl : Blk (w2.alloc (.cells #[.int .i64 0, .int .i64 l.sx, .int .i64 l.sy, .int .i64 0, .int .i64 0, .int .i64 0, .int .i64 0, .bool false, .bool false] 31)) w2.heap.size #[.int .i64 0, .int .i64 l.sx, .int .i64 l.sy, .int .i64 0, .int .i64 0, .int .i64 0, .int .i64 0, .bool false, .bool false]).below hb3 (by simp)).alloc (.cells #[.int .i64 0, .int .i64 l.sx, .int .i64 l.sy, .int .i64 0, .int .i64 0, .int .i64 0, .int .i64 0, .bool false, .bool false] 31)
      have N3 : Blk (w3.alloc (.cells #[.int .i64 0, .int .i64 l.sx, .int .i64 l.sy, .int .i64 0, .int .i64 0, .int .i64 0, .int .i64 0, .bool false, .bool false] 31)) w3.heap.size #[.int .i64 0, .int .i64 l.sx, .int .i64 l.sy, .int .i64 0, .int .i64 0, .int .i64 0, .int .i64 0, .bool false, .bool false] := Blk.at rfl
      clear hb3 I2 hz2
      go_upto_region 6 with fail
      generalize w3.alloc (.cells #[.int .i64 0, .int .i64 l.sx, .int .i64 l.sy, .int .i64 0, .int .i64 0, .int .i64 0, .int .i64 0, .bool false, .bool false] 31) = w4 at *
      generalize w3.heap.size = N at *
      generalize w2.heap.size = O at *
      have hz3 := S3.lt
      have hz4 := N3.lt
      have hzP := I3.blk.lt
      (try clear q0 q1 q2 q3 q4 q5 q6 q7 q8 q9 q10); obtain ⟨q0, q1, q2, q3, q4, q5, q6, q7, q8, q9, q10⟩ := I3.blk.c11
      (try clear c0 c1 c2 c3 c4 c5 c6 c7 c8); obtain ⟨c0, c1, c2, c3, c4, c5, c6, c7, c8⟩ := S3.c9
      (try clear o0 o1 o2 o3 o4 o5 o6 o7 o8); obtain ⟨o0, o1, o2, o3, o4, o5, o6, o7, o8⟩ := N3.c9
      by_cases ht : l.ticks < 17
      · go_wp2
        go_ret
        exact ⟨ret_bool (by first | rfl | simp), I3.bel⟩
      · have ht2 : 17 ≤ l.ticks := by omega
        have F0 : FullI l 0 ⟨0, l.sx, l.sy, 0, 0, 0, 0, false, false⟩ := ⟨start_okIn hk, Int.le_refl _, fun _ => rfl⟩
        have B4 : Below w4.heap.size w4 (w4.alloc (.cells #[.int .i64 0, .int .i64 l.sx, .int .i64 l.sy, .int .i64 0, .int .i64 0, .int .i64 0, .int .i64 0, .bool false, .bool false] 31)) := (Below.refl _ _).alloc (Nat.le_refl _) _
        have S4 : Blk (w4.alloc (.cells #[.int .i64 0, .int .i64 l.sx, .int .i64 l.sy, .int .i64 0, .int .i64 0, .int .i64 0, .int .i64 0, .bool false, .bool false] 31)) w4.heap.size #[.int .i64 0, .int .i64 l.sx, .int .i64 l.sy, .int .i64 0, .int .i64 0, .int .i64 0, .int .i64 0, .bool false, .bool false] := Blk.at rfl
        go_upto_region 10 with fail
        generalize w4.alloc (.cells #[.int .i64 0, .int .i64 l.sx, .int .i64 l.sy, .int .i64 0, .int .i64 0, .int .i64 0, .int .i64 0, .bool false, .bool false] 31) = w5 at *
        generalize hQ : w4.heap.size = Q at *
        have hPQ : P ≠ Q := by omega
        have hbz := I3.bel.size
        clear q0 q1 q2 q3 q4 q5 q6 q7 q8 q9 q10 c0 c1 c2 c3 c4 c5 c6 c7 c8 o0 o1 o2 o3 o4 o5 o6 o7 o8 S3 N3 hz3 hz4 ht
        go_loopw [9] (fun iv wr => ∃ (i : Nat) (s : St), i ≤ 16 ∧ iv = .int .i64 i ∧ FullI l i s ∧ Below Q w4 wr ∧ Blk wr Q #[.int .i64 s.tick, .int .i64 s.ax, .int .i64 s.ay, .int .i64 s.fx, .int .i64 s.fy, .int .i64 s.turn, .int .i64 s.gate, .bool s.done, .bool s.over]) (fun iv _ => 16 - (intOf iv).toNat)
        case atStart => exact ⟨0, _, by omega, rfl, F0, B4, S4⟩
        case round =>
          obtain ⟨i, s, hi, rfl, hF, B5, S5⟩ := hrel
          clear F0 B4 S4
          have I5 : LJ w P l wr := ⟨I3.blk.below B5 hzP, I3.lv.keep (by rw [hQ]; exact B5), I3.bel.trans (B5.mono (by omega)), I3.hP⟩
          have hzS5 := S5.lt
          have hzL5 := I5.blk.lt
          (try clear c0 c1 c2 c3 c4 c5 c6 c7 c8); obtain ⟨c0, c1, c2, c3, c4, c5, c6, c7, c8⟩ := S5.c9
          by_cases hlt : i < 16
          · have hb := hF.b hlt ht2
            have hN := hF.next hlt ht2
            have hv := stepV_t hb
            obtain ⟨R2, hR2⟩ : ∃ R2, R2 = stepF l s 1 0 false := ⟨_, rfl⟩
            rw [← hR2] at hN hv
            have hNh := Lib.hid hN
            have hbh := Lib.hid hb
            have hvh := Lib.hid hv
            have hFh := Lib.hid hF
            clear hR2 hN hb hv hF
            (try clear q0 q1 q2 q3 q4 q5 q6 q7 q8 q9 q10); obtain ⟨q0, q1, q2, q3, q4, q5, q6, q7, q8, q9, q10⟩ := I5.blk.c11
            have q1' : (i : Int) < 16 := by omega
            go_wp2_with fail
            refine (iEStep l s 1 0 false _ I5.lv).mono ?_
            rw [hbh.out, hvh.out]
            rintro e w6 ⟨rfl, hb6⟩
            have B7 := (B5.trans (hb6.mono (by omega))).alloc (by have := hb6.size; omega) (.cells #[.int .i64 R2.tick, .int .i64 R2.ax, .int .i64 R2.ay, .int .i64 R2.fx, .int .i64 R2.fy, .int .i64 R2.turn, .int .i64 R2.gate, .bool R2.done, .bool R2.over] 31)
            have S7 := (S5.below hb6 S5.lt).alloc (.cells #[.int .i64 R2.tick, .int .i64 R2.ax, .int .i64 R2.ay, .int .i64 R2.fx, .int .i64 R2.fy, .int .i64 R2.turn, .int .i64 R2.gate, .bool R2.done, .bool R2.over] 31)
            have X7 : Blk (w6.alloc (.cells #[.int .i64 R2.tick, .int .i64 R2.ax, .int .i64 R2.ay, .int .i64 R2.fx, .int .i64 R2.fy, .int .i64 R2.turn, .int .i64 R2.gate, .bool R2.done, .bool R2.over] 31)) w6.heap.size #[.int .i64 R2.tick, .int .i64 R2.ax, .int .i64 R2.ay, .int .i64 R2.fx, .int .i64 R2.fy, .int .i64 R2.turn, .int .i64 R2.gate, .bool R2.done, .bool R2.over] := Blk.at rfl
            clear I5 B5 S5 hb6 c0 c1 c2 c3 c4 c5 c6 c7 c8 q0 q1 q2 q3 q4 q5 q6 q7 q8 q9 q10
            go_upto_region 15 with fail
            generalize w6.alloc (.cells #[.int .i64 R2.tick, .int .i64 R2.ax, .int .i64 R2.ay, .int .i64 R2.fx, .int .i64 R2.fy, .int .i64 R2.turn, .int .i64 R2.gate, .bool R2.done, .bool R2.over] 31) = w7 at *
            refine wp_copy (ty := 31) rfl X7 Try.underlying31 rfl (by kernel_rfl) rfl rfl S7 rfl (by simp [Value.oneCell']) ?_
            rename_i K hK
            refine hK _ _ ?_
            have S8 := S7.row #[.int .i64 R2.tick, .int .i64 R2.ax, .int .i64 R2.ay, .int .i64 R2.fx, .int .i64 R2.fy, .int .i64 R2.turn, .int .i64 R2.gate, .bool R2.done, .bool R2.over]
            have B8 := Below.setRow B7 (Nat.le_refl _) #[.int .i64 R2.tick, .int .i64 R2.ax, .int .i64 R2.ay, .int .i64 R2.fx, .int .i64 R2.fy, .int .i64 R2.turn, .int .i64 R2.gate, .bool R2.done, .bool R2.over]
            generalize w7.setRow Q #[.int .i64 R2.tick, .int .i64 R2.ax, .int .i64 R2.ay, .int .i64 R2.fx, .int .i64 R2.fy, .int .i64 R2.turn, .int .i64 R2.gate, .bool R2.done, .bool R2.over] = w8 at *
            go_wp2
            go_roundw
            case rel => exact ⟨i + 1, R2, by omega, by go_num, hNh.out, B8, S8⟩
            case measure => simp [intOf]; omega
          · obtain rfl : i = 16 := by omega
            have hT := hF.turn
            clear hF
            cases hdn : s.done with
            | true =>
              go_wp2
              go_ret
              exact ⟨ret_bool (by first | rfl | simp), I5.bel⟩
            | false =>
              cases hov : s.over with
              | true =>
                go_wp2
                go_ret
                exact ⟨ret_bool (by first | rfl | simp), I5.bel⟩
              | false =>
                have hT2 := Lib.hid (show s.turn = 0 by rw [hT (by rw [hdn, hov]; rfl)]; rfl)
                clear hT
                go_wp2
                go_ret
                exact ⟨ret_bool (by first | rfl | simp [hT2.out]), I5.bel⟩
  · go_enter Try.func14, Try.ntmps14
    go_wp2
    go_ret
    exact ⟨rfl, by (repeat (first | with_reducible assumption | with_reducible exact Below.refl _ _ | ((with_reducible refine Below.alloc ?_ ?_ _); rotate_left; · exact (by first | omega | (simp; done) | (simp; omega))) | ((with_reducible refine Below.setCell ?_ ?_ _); rotate_left; · exact (by first | omega | (simp; done) | (simp; omega))) | with_reducible refine Below.drew ?_ | assumption | exact Below.refl _ _ | refine Below.alloc ?_ (by first | omega | (simp; done) | (simp; omega)) _ | refine Below.setCell ?_ (by first | omega | (simp; done) | (simp; omega)) _ | refine Below.drew ?_))⟩
end Go.Proofs.Ytnhjalijnociaaa

/- The walks of the laws on inputs that follow. -/
import Derived.Test.YtgghfbkeipchkaaDi
import Derived.Test.YtgghfbkeipchkaaFx
set_option linter.unusedVariables false
set_option linter.unusedSimpArgs false
namespace Go.Proofs.Ytgghfbkeipchkaa
open Go.RowKit

theorem folV_parts {l : Lv} {t tp : Int} {tb : Bool} {s p : Int} {b : Bool} (h : l.folV ⟨t, tp, tb⟩ ⟨s, p, b⟩ = true) : l.ok = true ∧ inpV t tp tb = true ∧ inpV s p b = true ∧ (b = true → banB l.bans 2 = false) ∧ (p = 2 → banB l.bans 1 = false) ∧ (-1 ≤ s - t ∧ s - t ≤ 1) := by
  simp only [folV_eq, Lv.fol_eq, folB, Bool.and_eq_true] at h
  obtain ⟨⟨h1, h2⟩, ⟨⟨h3, h4⟩, h5⟩, h6⟩ := h
  refine ⟨h1, h2, h3, fun e => ?_, fun e => ?_, inB_true h6⟩
  · subst e
    simpa using h4
  · subst e
    simpa using h5
theorem folV_self {l : Lv} {s p : Int} (h1 : l.ok = true) (h2 : inpV s p false = true) (hp : p ≠ 2) : l.folV ⟨s, p, false⟩ ⟨s, p, false⟩ = true := by
  have hpb : (p == 2) = false := by simpa using hp
  rw [folV_eq, Lv.fol_eq, folB, h1, h2, hpb, inB_yes (by omega) (by omega)]
  rfl
theorem folV_none {l : Lv} {s p : Int} {b : Bool} (h1 : l.ok = true) (h2 : inpV s p b = true) : l.folV ⟨s, p, b⟩ ⟨0, 0, false⟩ = true := by
  obtain ⟨v1, v2, v3, v4, _⟩ := inpV_bd h2
  have e0 : inpV 0 0 false = true := by simp [inpV, inB]
  rw [folV_eq, Lv.fol_eq, folB, h1, h2, inB_yes (n := 0 - s) (by omega) (by omega), e0]
  rfl
set_option maxRecDepth 100000 in
set_option maxHeartbeats 2000000 in
theorem lawFollowsSteer (a : Option Addr) (len cap : Nat) (zs : List Int) (w : World) (h : IsRow .u8 w a len cap zs) : Calls Try.prog 13 #[.slice a len cap] w fun e w' => e = .returned (.bool true) ∧ Below w.heap.size w w' := by
  by_cases hl : len ≤ 1048576
  · go_enter Try.func13, Try.ntmps13
    go_wp2_with fail
    refine (dInputFollows _ _ _ _ _ h).mono ?_
    rintro e w1 ⟨l, R, s, p, b, s', p', b', rfl, hR, hl1, hs1, ⟨c1, c2, c3, c4⟩, ⟨d1, d2, d3, d4⟩, hb1⟩
    have hs2 := hs1.wn
    have hs3 := hs1.gn
    have I1 : XI w1 l s p b s' p' b' (((w1.alloc (.cells #[.int .i64 l.id, .int .i64 l.ticks, .int .i64 l.sx, .int .i64 l.sy, .slice l.wa l.wn l.wc, .slice l.ga l.gn l.gc, .int .i64 l.flx, .int .i64 l.fly, .int .i64 l.fhx, .int .i64 l.fhy, .int .i64 l.bans] 37)).alloc (.cells #[.int .i64 s, .int .i64 p, .bool b] 51)).alloc (.cells #[.int .i64 s', .int .i64 p', .bool b'] 51)) :=
      ⟨((Blk.at rfl).alloc _).alloc _, (Blk.at (by simp)).alloc _, Blk.at (by simp), by (repeat (first | with_reducible assumption | with_reducible exact Below.refl _ _ | ((with_reducible refine Below.alloc ?_ ?_ _); rotate_left; · exact (by first | omega | (simp; done) | (simp; omega))) | ((with_reducible refine Below.setCell ?_ ?_ _); rotate_left; · exact (by first | omega | (simp; done) | (simp; omega))) | with_reducible refine Below.drew ?_ | assumption | exact Below.refl _ _ | refine Below.alloc ?_ (by first | omega | (simp; done) | (simp; omega)) _ | refine Below.setCell ?_ (by first | omega | (simp; done) | (simp; omega)) _ | refine Below.drew ?_)), hl1.1.keep (by (repeat (first | with_reducible assumption | with_reducible exact Below.refl _ _ | ((with_reducible refine Below.alloc ?_ ?_ _); rotate_left; · exact (by first | omega | (simp; done) | (simp; omega))) | ((with_reducible refine Below.setCell ?_ ?_ _); rotate_left; · exact (by first | omega | (simp; done) | (simp; omega))) | with_reducible refine Below.drew ?_ | assumption | exact Below.refl _ _ | refine Below.alloc ?_ (by first | omega | (simp; done) | (simp; omega)) _ | refine Below.setCell ?_ (by first | omega | (simp; done) | (simp; omega)) _ | refine Below.drew ?_)))⟩
    go_wp2_with fail
    refine (iInputFollows l s p b s' p' b' _ I1.lv).mono ?_
    rintro e w2 ⟨rfl, hb2⟩
    have I2 := I1.pass hb2
    (try clear q0 q1 q2 q3 q4 q5 q6 q7 q8 q9 q10 y0 y1 y2 z0 z1 z2); obtain ⟨⟨q0, q1, q2, q3, q4, q5, q6, q7, q8, q9, q10⟩, ⟨y0, y1, y2⟩, ⟨z0, z1, z2⟩⟩ := I2.cells
    go_wp2_with fail
    refine (sInputFollows l s p b s' p' b' _ (by omega) (by omega) I2.lv).mono ?_
    rintro e w3 ⟨rfl, hb3⟩
    have I3 := I2.pass hb3
    (try clear q0 q1 q2 q3 q4 q5 q6 q7 q8 q9 q10 y0 y1 y2 z0 z1 z2); obtain ⟨⟨q0, q1, q2, q3, q4, q5, q6, q7, q8, q9, q10⟩, ⟨y0, y1, y2⟩, ⟨z0, z1, z2⟩⟩ := I3.cells
    clear hb2 hb3 I1 I2
    cases hF : l.folV ⟨s, p, b⟩ ⟨s', p', b'⟩ with
    | false =>
      go_wp2
      go_ret
      exact ⟨rfl, hb1.trans (I3.bel.mono hb1.size)⟩
    | true =>
      obtain ⟨g1, g2, g3, _, _, g6⟩ := folV_parts hF
      clear hF
      have k1 : -1 ≤ s - s' := by omega
      have k2 : s - s' ≤ 1 := by omega
      go_wp2_with fail
      refine (iInpV s' p' b' _).mono ?_
      rw [g3]
      rintro e w4 ⟨rfl, hb4⟩
      have I4 := I3.pass hb4
      go_wp2
      go_ret
      exact ⟨rfl, hb1.trans (I4.bel.mono hb1.size)⟩
  · go_enter Try.func13, Try.ntmps13
    go_wp2
    go_ret
    exact ⟨rfl, by (repeat (first | with_reducible assumption | with_reducible exact Below.refl _ _ | ((with_reducible refine Below.alloc ?_ ?_ _); rotate_left; · exact (by first | omega | (simp; done) | (simp; omega))) | ((with_reducible refine Below.setCell ?_ ?_ _); rotate_left; · exact (by first | omega | (simp; done) | (simp; omega))) | with_reducible refine Below.drew ?_ | assumption | exact Below.refl _ _ | refine Below.alloc ?_ (by first | omega | (simp; done) | (simp; omega)) _ | refine Below.setCell ?_ (by first | omega | (simp; done) | (simp; omega)) _ | refine Below.drew ?_))⟩
set_option maxRecDepth 100000 in
set_option maxHeartbeats 2000000 in
theorem lawFollowsBans (a : Option Addr) (len cap : Nat) (zs : List Int) (w : World) (h : IsRow .u8 w a len cap zs) : Calls Try.prog 14 #[.slice a len cap] w fun e w' => e = .returned (.bool true) ∧ Below w.heap.size w w' := by
  by_cases hl : len ≤ 1048576
  · go_enter Try.func14, Try.ntmps14
    go_wp2_with fail
    refine (dInputFollows _ _ _ _ _ h).mono ?_
    rintro e w1 ⟨l, R, s, p, b, s', p', b', rfl, hR, hl1, hs1, ⟨c1, c2, c3, c4⟩, ⟨d1, d2, d3, d4⟩, hb1⟩
    have hs2 := hs1.wn
    have hs3 := hs1.gn
    have I1 : XI w1 l s p b s' p' b' (((w1.alloc (.cells #[.int .i64 l.id, .int .i64 l.ticks, .int .i64 l.sx, .int .i64 l.sy, .slice l.wa l.wn l.wc, .slice l.ga l.gn l.gc, .int .i64 l.flx, .int .i64 l.fly, .int .i64 l.fhx, .int .i64 l.fhy, .int .i64 l.bans] 37)).alloc (.cells #[.int .i64 s, .int .i64 p, .bool b] 51)).alloc (.cells #[.int .i64 s', .int .i64 p', .bool b'] 51)) :=
      ⟨((Blk.at rfl).alloc _).alloc _, (Blk.at (by simp)).alloc _, Blk.at (by simp), by (repeat (first | with_reducible assumption | with_reducible exact Below.refl _ _ | ((with_reducible refine Below.alloc ?_ ?_ _); rotate_left; · exact (by first | omega | (simp; done) | (simp; omega))) | ((with_reducible refine Below.setCell ?_ ?_ _); rotate_left; · exact (by first | omega | (simp; done) | (simp; omega))) | with_reducible refine Below.drew ?_ | assumption | exact Below.refl _ _ | refine Below.alloc ?_ (by first | omega | (simp; done) | (simp; omega)) _ | refine Below.setCell ?_ (by first | omega | (simp; done) | (simp; omega)) _ | refine Below.drew ?_)), hl1.1.keep (by (repeat (first | with_reducible assumption | with_reducible exact Below.refl _ _ | ((with_reducible refine Below.alloc ?_ ?_ _); rotate_left; · exact (by first | omega | (simp; done) | (simp; omega))) | ((with_reducible refine Below.setCell ?_ ?_ _); rotate_left; · exact (by first | omega | (simp; done) | (simp; omega))) | with_reducible refine Below.drew ?_ | assumption | exact Below.refl _ _ | refine Below.alloc ?_ (by first | omega | (simp; done) | (simp; omega)) _ | refine Below.setCell ?_ (by first | omega | (simp; done) | (simp; omega)) _ | refine Below.drew ?_)))⟩
    go_wp2_with fail
    refine (iInputFollows l s p b s' p' b' _ I1.lv).mono ?_
    rintro e w2 ⟨rfl, hb2⟩
    have I2 := I1.pass hb2
    (try clear q0 q1 q2 q3 q4 q5 q6 q7 q8 q9 q10 y0 y1 y2 z0 z1 z2); obtain ⟨⟨q0, q1, q2, q3, q4, q5, q6, q7, q8, q9, q10⟩, ⟨y0, y1, y2⟩, ⟨z0, z1, z2⟩⟩ := I2.cells
    go_wp2_with fail
    refine (sInputFollows l s p b s' p' b' _ (by omega) (by omega) I2.lv).mono ?_
    rintro e w3 ⟨rfl, hb3⟩
    have I3 := I2.pass hb3
    (try clear q0 q1 q2 q3 q4 q5 q6 q7 q8 q9 q10 y0 y1 y2 z0 z1 z2); obtain ⟨⟨q0, q1, q2, q3, q4, q5, q6, q7, q8, q9, q10⟩, ⟨y0, y1, y2⟩, ⟨z0, z1, z2⟩⟩ := I3.cells
    clear hb2 hb3 I1 I2
    cases hF : l.folV ⟨s, p, b⟩ ⟨s', p', b'⟩ with
    | false =>
      go_wp2
      go_ret
      exact ⟨rfl, hb1.trans (I3.bel.mono hb1.size)⟩
    | true =>
      obtain ⟨g1, g2, g3, g4, g5, g6⟩ := folV_parts hF
      clear hF
      have b1 : l.bansB 1 = banB l.bans 1 := by simp [Lv.bansB, g1]
      have b2 : l.bansB 2 = banB l.bans 2 := by simp [Lv.bansB, g1]
      by_cases hp : p' = 2
      · subst hp
        rw [g5 rfl] at b1
        have hb' : b' = false := by
          obtain ⟨_, _, _, _, v5⟩ := inpV_bd g3
          cases hb : b' with
          | false => rfl
          | true =>
            have := (v5 hb).2
            omega
        subst hb'
        clear g4 g5 b2
        go_wp2_with fail
        refine (iLevelBans l 1 _ I3.lv).mono ?_
        rw [b1]
        rintro e w4 ⟨rfl, hb4⟩
        have I4 := I3.pass hb4
        (try clear q0 q1 q2 q3 q4 q5 q6 q7 q8 q9 q10 y0 y1 y2 z0 z1 z2); obtain ⟨⟨q0, q1, q2, q3, q4, q5, q6, q7, q8, q9, q10⟩, ⟨y0, y1, y2⟩, ⟨z0, z1, z2⟩⟩ := I4.cells
        go_wp2
        go_ret
        exact ⟨rfl, hb1.trans (I4.bel.mono hb1.size)⟩
      · have hpb : (p' == 2) = false := by simpa using hp
        clear hp g5
        cases b' with
        | false =>
          go_wp2
          go_ret
          exact ⟨rfl, hb1.trans (I3.bel.mono hb1.size)⟩
        | true =>
          rw [g4 rfl] at b2
          clear g4 b1
          go_wp2_with fail
          refine (iLevelBans l 2 _ I3.lv).mono ?_
          rw [b2]
          rintro e w4 ⟨rfl, hb4⟩
          have I4 := I3.pass hb4
          go_wp2
          go_ret
          exact ⟨rfl, hb1.trans (I4.bel.mono hb1.size)⟩
  · go_enter Try.func14, Try.ntmps14
    go_wp2
    go_ret
    exact ⟨rfl, by (repeat (first | with_reducible assumption | with_reducible exact Below.refl _ _ | ((with_reducible refine Below.alloc ?_ ?_ _); rotate_left; · exact (by first | omega | (simp; done) | (simp; omega))) | ((with_reducible refine Below.setCell ?_ ?_ _); rotate_left; · exact (by first | omega | (simp; done) | (simp; omega))) | with_reducible refine Below.drew ?_ | assumption | exact Below.refl _ _ | refine Below.alloc ?_ (by first | omega | (simp; done) | (simp; omega)) _ | refine Below.setCell ?_ (by first | omega | (simp; done) | (simp; omega)) _ | refine Below.drew ?_))⟩
set_option maxRecDepth 100000 in
set_option maxHeartbeats 2000000 in
theorem lawFollowsSelf (a : Option Addr) (len cap : Nat) (zs : List Int) (w : World) (h : IsRow .u8 w a len cap zs) : Calls Try.prog 12 #[.slice a len cap] w fun e w' => e = .returned (.bool true) ∧ Below w.heap.size w w' := by
  by_cases hl : len ≤ 1048576
  · go_enter Try.func12, Try.ntmps12
    go_wp2_with fail
    refine (dInputFollows _ _ _ _ _ h).mono ?_
    rintro e w1 ⟨l, R, s, p, b, s', p', b', rfl, hR, hl1, hs1, ⟨c1, c2, c3, c4⟩, ⟨d1, d2, d3, d4⟩, hb1⟩
    have hs2 := hs1.wn
    have hs3 := hs1.gn
    have I1 : XI w1 l s p b s' p' b' (((w1.alloc (.cells #[.int .i64 l.id, .int .i64 l.ticks, .int .i64 l.sx, .int .i64 l.sy, .slice l.wa l.wn l.wc, .slice l.ga l.gn l.gc, .int .i64 l.flx, .int .i64 l.fly, .int .i64 l.fhx, .int .i64 l.fhy, .int .i64 l.bans] 37)).alloc (.cells #[.int .i64 s, .int .i64 p, .bool b] 51)).alloc (.cells #[.int .i64 s', .int .i64 p', .bool b'] 51)) :=
      ⟨((Blk.at rfl).alloc _).alloc _, (Blk.at (by simp)).alloc _, Blk.at (by simp), by (repeat (first | with_reducible assumption | with_reducible exact Below.refl _ _ | ((with_reducible refine Below.alloc ?_ ?_ _); rotate_left; · exact (by first | omega | (simp; done) | (simp; omega))) | ((with_reducible refine Below.setCell ?_ ?_ _); rotate_left; · exact (by first | omega | (simp; done) | (simp; omega))) | with_reducible refine Below.drew ?_ | assumption | exact Below.refl _ _ | refine Below.alloc ?_ (by first | omega | (simp; done) | (simp; omega)) _ | refine Below.setCell ?_ (by first | omega | (simp; done) | (simp; omega)) _ | refine Below.drew ?_)), hl1.1.keep (by (repeat (first | with_reducible assumption | with_reducible exact Below.refl _ _ | ((with_reducible refine Below.alloc ?_ ?_ _); rotate_left; · exact (by first | omega | (simp; done) | (simp; omega))) | ((with_reducible refine Below.setCell ?_ ?_ _); rotate_left; · exact (by first | omega | (simp; done) | (simp; omega))) | with_reducible refine Below.drew ?_ | assumption | exact Below.refl _ _ | refine Below.alloc ?_ (by first | omega | (simp; done) | (simp; omega)) _ | refine Below.setCell ?_ (by first | omega | (simp; done) | (simp; omega)) _ | refine Below.drew ?_)))⟩
    go_wp2_with fail
    refine (iInputFollows l s p b s' p' b' _ I1.lv).mono ?_
    rintro e w2 ⟨rfl, hb2⟩
    have I2 := I1.pass hb2
    (try clear q0 q1 q2 q3 q4 q5 q6 q7 q8 q9 q10 y0 y1 y2 z0 z1 z2); obtain ⟨⟨q0, q1, q2, q3, q4, q5, q6, q7, q8, q9, q10⟩, ⟨y0, y1, y2⟩, ⟨z0, z1, z2⟩⟩ := I2.cells
    go_wp2_with fail
    refine (sInputFollows l s p b s' p' b' _ (by omega) (by omega) I2.lv).mono ?_
    rintro e w3 ⟨rfl, hb3⟩
    have I3 := I2.pass hb3
    (try clear q0 q1 q2 q3 q4 q5 q6 q7 q8 q9 q10 y0 y1 y2 z0 z1 z2); obtain ⟨⟨q0, q1, q2, q3, q4, q5, q6, q7, q8, q9, q10⟩, ⟨y0, y1, y2⟩, ⟨z0, z1, z2⟩⟩ := I3.cells
    clear hb2 hb3 I1 I2
    generalize l.folV ⟨s, p, b⟩ ⟨s', p', b'⟩ = F
    go_wp2_with fail
    refine (sLevelValid l _ (by omega) (by omega) I3.lv).mono ?_
    rintro e w4 ⟨rfl, hb4⟩
    have I4 := I3.pass hb4
    (try clear q0 q1 q2 q3 q4 q5 q6 q7 q8 q9 q10 y0 y1 y2 z0 z1 z2); obtain ⟨⟨q0, q1, q2, q3, q4, q5, q6, q7, q8, q9, q10⟩, ⟨y0, y1, y2⟩, ⟨z0, z1, z2⟩⟩ := I4.cells
    cases hk : l.ok with
    | false =>
      go_wp2
      go_ret
      exact ⟨ret_bool (by simp), hb1.trans (I4.bel.mono hb1.size)⟩
    | true =>
      go_wp2_with fail
      refine (sInpV s p b _).mono ?_
      rintro e w5 ⟨rfl, hb5⟩
      have I5 := I4.pass hb5
      (try clear q0 q1 q2 q3 q4 q5 q6 q7 q8 q9 q10 y0 y1 y2 z0 z1 z2); obtain ⟨⟨q0, q1, q2, q3, q4, q5, q6, q7, q8, q9, q10⟩, ⟨y0, y1, y2⟩, ⟨z0, z1, z2⟩⟩ := I5.cells
      cases hv : inpV s p b with
      | false =>
        go_wp2
        go_ret
        exact ⟨ret_bool (by simp), hb1.trans (I5.bel.mono hb1.size)⟩
      | true =>
        by_cases hp : p = 2
        · subst hp
          go_wp2
          go_ret
          exact ⟨ret_bool (by simp), hb1.trans (I5.bel.mono hb1.size)⟩
        · have hpb : (p == 2) = false := by simpa using hp
          cases b with
          | true =>
            clear hp
            go_wp2
            go_ret
            exact ⟨ret_bool (by simp), hb1.trans (I5.bel.mono hb1.size)⟩
          | false =>
            have f1 := folV_self hk hv hp
            have f2 := folV_none hk hv
            clear hp hv
            go_wp2_with fail
            refine (iInputFollows l s p false s p false _ I5.lv).mono ?_
            rw [f1]
            rintro e w6 ⟨rfl, hb6⟩
            have I6 := I5.pass hb6
            (try clear q0 q1 q2 q3 q4 q5 q6 q7 q8 q9 q10 y0 y1 y2 z0 z1 z2); obtain ⟨⟨q0, q1, q2, q3, q4, q5, q6, q7, q8, q9, q10⟩, ⟨y0, y1, y2⟩, ⟨z0, z1, z2⟩⟩ := I6.cells
            go_wp2_with fail
            refine (iInputFollows l s p false 0 0 false _ I6.lv).mono ?_
            rw [f2]
            rintro e w7 ⟨rfl, hb7⟩
            have I7 := I6.pass hb7
            go_wp2
            go_ret
            exact ⟨rfl, hb1.trans (I7.bel.mono hb1.size)⟩
  · go_enter Try.func12, Try.ntmps12
    go_wp2
    go_ret
    exact ⟨rfl, by (repeat (first | with_reducible assumption | with_reducible exact Below.refl _ _ | ((with_reducible refine Below.alloc ?_ ?_ _); rotate_left; · exact (by first | omega | (simp; done) | (simp; omega))) | ((with_reducible refine Below.setCell ?_ ?_ _); rotate_left; · exact (by first | omega | (simp; done) | (simp; omega))) | with_reducible refine Below.drew ?_ | assumption | exact Below.refl _ _ | refine Below.alloc ?_ (by first | omega | (simp; done) | (simp; omega)) _ | refine Below.setCell ?_ (by first | omega | (simp; done) | (simp; omega)) _ | refine Below.drew ?_))⟩
end Go.Proofs.Ytgghfbkeipchkaa

/- The walks of the laws on levels. -/
import Derived.Test.YtgghfbkeipchkaaDw
import Derived.Test.YtgghfbkeipchkaaLe
import Derived.Test.YtgghfbkeipchkaaHw
import Derived.Test.YtgghfbkeipchkaaMl
set_option linter.unusedVariables false
set_option linter.unusedSimpArgs false
namespace Go.Proofs.Ytgghfbkeipchkaa
open Go.RowKit

/-- a law's variable that holds a level -/
structure LI (w0 : World) (P : Nat) (l : Lv) (w : World) : Prop where
  blk : Blk w P #[.int .i64 l.id, .int .i64 l.ticks, .int .i64 l.sx, .int .i64 l.sy, .slice l.wa l.wn l.wc, .slice l.ga l.gn l.gc, .int .i64 l.flx, .int .i64 l.fly, .int .i64 l.fhx, .int .i64 l.fhy, .int .i64 l.bans]
  lv : LvAt w l
  bel : Below w0.heap.size w0 w
  hP : w0.heap.size ≤ P
theorem LI.mk0 {w0 w : World} {l : Lv} {t : TypeId} (h : LvAt w l) (hb : Below w0.heap.size w0 w) : LI w0 w.heap.size l (w.alloc (.cells #[.int .i64 l.id, .int .i64 l.ticks, .int .i64 l.sx, .int .i64 l.sy, .slice l.wa l.wn l.wc, .slice l.ga l.gn l.gc, .int .i64 l.flx, .int .i64 l.fly, .int .i64 l.fhx, .int .i64 l.fhy, .int .i64 l.bans] t)) := ⟨Blk.at rfl, h.keep ((Below.refl _ _).alloc (Nat.le_refl _) _), hb.alloc hb.size _, hb.size⟩
theorem LI.pass {w0 w w' : World} {P : Nat} {l : Lv} (h : LI w0 P l w) (hb : Below w.heap.size w w') : LI w0 P l w' := ⟨h.blk.below hb h.blk.lt, h.lv.keep hb, h.bel.trans (hb.mono h.bel.size), h.hP⟩
theorem LI.alloc {w0 w : World} {P : Nat} {l : Lv} (h : LI w0 P l w) (o : Obj) : LI w0 P l (w.alloc o) := h.pass ((Below.refl _ _).alloc (Nat.le_refl _) o)
theorem LI.drew {w0 w : World} {P : Nat} {l : Lv} (h : LI w0 P l w) : LI w0 P l w.drew := ⟨h.blk, h.lv, h.bel.drew, h.hP⟩
theorem Lv.ok_free {l : Lv} (h : l.ok = true) : (l.ok && vokB l.sx l.sy && frB l.wf l.sx l.sy l.wn) = true := by
  have h' := h
  simp only [Lv.ok, Bool.and_eq_true] at h'
  obtain ⟨⟨⟨⟨⟨⟨⟨⟨⟨_, _⟩, h3⟩, _⟩, _⟩, _⟩, _⟩, _⟩, _⟩, h10⟩ := h'
  rw [h, h3, h10]
  rfl
set_option maxRecDepth 100000 in
set_option maxHeartbeats 2000000 in
theorem lawLevelStart (a : Option Addr) (len cap : Nat) (zs : List Int) (w : World) (h : IsRow .u8 w a len cap zs) : Calls Try.prog 4 #[.slice a len cap] w fun e w' => e = .returned (.bool true) ∧ Below w.heap.size w w' := by
  by_cases hl : len ≤ 1048576
  · go_enter Try.func4, Try.ntmps4
    go_wp2_with fail
    refine (dLevelValid _ _ _ _ _ h).mono ?_
    rintro e w1 ⟨l, R, rfl, hR, hl1, hs1, hb1⟩
    have hs2 := hs1.wn
    have hs3 := hs1.gn
    have I1 : LI w w1.heap.size l (w1.alloc (.cells #[.int .i64 l.id, .int .i64 l.ticks, .int .i64 l.sx, .int .i64 l.sy, .slice l.wa l.wn l.wc, .slice l.ga l.gn l.gc, .int .i64 l.flx, .int .i64 l.fly, .int .i64 l.fhx, .int .i64 l.fhy, .int .i64 l.bans] 37)) := LI.mk0 hl1.1 hb1
    go_wp2_with fail
    refine (iLevelValid l _ I1.lv).mono ?_
    rintro e w2 ⟨rfl, hb2⟩; have I2 := I1.pass hb2; (try clear q0 q1 q2 q3 q4 q5 q6 q7 q8 q9 q10); obtain ⟨q0, q1, q2, q3, q4, q5, q6, q7, q8, q9, q10⟩ := I2.blk.c11; have hz2 := I2.blk.lt
    go_wp2_with fail
    refine (sLevelValid l _ (by omega) (by omega) I2.lv).mono ?_
    rintro e w3 ⟨rfl, hb3⟩; have I3 := I2.pass hb3; (try clear q0 q1 q2 q3 q4 q5 q6 q7 q8 q9 q10); obtain ⟨q0, q1, q2, q3, q4, q5, q6, q7, q8, q9, q10⟩ := I3.blk.c11; have hz3 := I3.blk.lt
    cases hk : l.ok with
    | false =>
      go_wp2
      go_ret
      exact ⟨rfl, I3.bel⟩
    | true =>
      have hf := Lv.ok_free hk
      go_wp2_with fail
      refine (iLevelFree l l.sx l.sy _ I3.lv).mono ?_
      rw [hf]
      rintro e w4 ⟨rfl, hb4⟩; have I4 := I3.pass hb4; (try clear q0 q1 q2 q3 q4 q5 q6 q7 q8 q9 q10); obtain ⟨q0, q1, q2, q3, q4, q5, q6, q7, q8, q9, q10⟩ := I4.blk.c11; have hz4 := I4.blk.lt
      go_wp2
      go_ret
      exact ⟨rfl, I4.bel⟩
  · go_enter Try.func4, Try.ntmps4
    go_wp2
    go_ret
    exact ⟨rfl, by (repeat (first | with_reducible assumption | with_reducible exact Below.refl _ _ | ((with_reducible refine Below.alloc ?_ ?_ _); rotate_left; · exact (by first | omega | (simp; done) | (simp; omega))) | ((with_reducible refine Below.setCell ?_ ?_ _); rotate_left; · exact (by first | omega | (simp; done) | (simp; omega))) | with_reducible refine Below.drew ?_ | assumption | exact Below.refl _ _ | refine Below.alloc ?_ (by first | omega | (simp; done) | (simp; omega)) _ | refine Below.setCell ?_ (by first | omega | (simp; done) | (simp; omega)) _ | refine Below.drew ?_))⟩
theorem Lv.ok_nums {l : Lv} (h : l.ok = true) : (0 ≤ l.id ∧ l.id ≤ 99) ∧ (1 ≤ l.ticks ∧ l.ticks ≤ 60) ∧ (0 ≤ l.bans ∧ l.bans ≤ 3) ∧ bxB l.flx l.fly l.fhx l.fhy = true := by
  simp only [Lv.ok, Bool.and_eq_true] at h
  obtain ⟨⟨⟨⟨⟨⟨⟨⟨⟨h1, h2⟩, h3⟩, _⟩, _⟩, _⟩, _⟩, h8⟩, h9⟩, _⟩ := h
  exact ⟨inB_true h1, inB_true h2, inB_true h9, h8⟩
set_option maxRecDepth 100000 in
set_option maxHeartbeats 2000000 in
theorem lawBans (a : Option Addr) (len cap : Nat) (zs : List Int) (w : World) (h : IsRow .u8 w a len cap zs) : Calls Try.prog 5 #[.slice a len cap] w fun e w' => e = .returned (.bool true) ∧ Below w.heap.size w w' := by
  by_cases hl : len ≤ 1048576
  · go_enter Try.func5, Try.ntmps5
    go_wp2_with fail
    refine (dLevelValid _ _ _ _ _ h).mono ?_
    rintro e w1 ⟨l, R, rfl, hR, hl1, hs1, hb1⟩
    have hs2 := hs1.wn
    have hs3 := hs1.gn
    have I1 : LI w w1.heap.size l (w1.alloc (.cells #[.int .i64 l.id, .int .i64 l.ticks, .int .i64 l.sx, .int .i64 l.sy, .slice l.wa l.wn l.wc, .slice l.ga l.gn l.gc, .int .i64 l.flx, .int .i64 l.fly, .int .i64 l.fhx, .int .i64 l.fhy, .int .i64 l.bans] 37)) := LI.mk0 hl1.1 hb1
    go_wp2_with fail
    refine (iLevelValid l _ I1.lv).mono ?_
    rintro e w2 ⟨rfl, hb2⟩; have I2 := I1.pass hb2; (try clear q0 q1 q2 q3 q4 q5 q6 q7 q8 q9 q10); obtain ⟨q0, q1, q2, q3, q4, q5, q6, q7, q8, q9, q10⟩ := I2.blk.c11; have hz2 := I2.blk.lt
    go_wp2_with fail
    refine (sLevelValid l _ (by omega) (by omega) I2.lv).mono ?_
    rintro e w3 ⟨rfl, hb3⟩; have I3 := I2.pass hb3; (try clear q0 q1 q2 q3 q4 q5 q6 q7 q8 q9 q10); obtain ⟨q0, q1, q2, q3, q4, q5, q6, q7, q8, q9, q10⟩ := I3.blk.c11; have hz3 := I3.blk.lt
    cases hk : l.ok with
    | false =>
      go_wp2
      go_ret
      exact ⟨rfl, I3.bel⟩
    | true =>
      obtain ⟨_, _, hbn, _⟩ := Lv.ok_nums hk
      have hb4 : l.bans = 0 ∨ l.bans = 1 ∨ l.bans = 2 ∨ l.bans = 3 := by omega
      have b1 : l.bansB 1 = (l.bans == 1 || l.bans == 3) := by rcases hb4 with e | e | e | e <;> simp [Lv.bansB, hk, e, banB]
      have b2 : l.bansB 2 = (l.bans == 2 || l.bans == 3) := by rcases hb4 with e | e | e | e <;> simp [Lv.bansB, hk, e, banB]
      rcases hb4 with hb | hb | hb | hb
      all_goals
        rw [hb] at b1 b2
        have hB := Lib.hid hb
        clear hb
        go_wp2_with fail
        refine (iLevelBans l 1 _ I3.lv).mono ?_
        rw [b1]
        rintro e w4 ⟨rfl, hb4⟩; have I4 := I3.pass hb4; (try clear q0 q1 q2 q3 q4 q5 q6 q7 q8 q9 q10); obtain ⟨q0, q1, q2, q3, q4, q5, q6, q7, q8, q9, q10⟩ := I4.blk.c11; have hz4 := I4.blk.lt
        go_wp2_with fail
        refine (iLevelBans l 2 _ I4.lv).mono ?_
        rw [b2]
        rintro e w5 ⟨rfl, hb5⟩; have I5 := I4.pass hb5; (try clear q0 q1 q2 q3 q4 q5 q6 q7 q8 q9 q10); obtain ⟨q0, q1, q2, q3, q4, q5, q6, q7, q8, q9, q10⟩ := I5.blk.c11; have hz5 := I5.blk.lt
        go_wp2
        go_ret
        exact ⟨ret_bool (by rw [hB.out]; rfl), I5.bel⟩
  · go_enter Try.func5, Try.ntmps5
    go_wp2
    go_ret
    exact ⟨rfl, by (repeat (first | with_reducible assumption | with_reducible exact Below.refl _ _ | ((with_reducible refine Below.alloc ?_ ?_ _); rotate_left; · exact (by first | omega | (simp; done) | (simp; omega))) | ((with_reducible refine Below.setCell ?_ ?_ _); rotate_left; · exact (by first | omega | (simp; done) | (simp; omega))) | with_reducible refine Below.drew ?_ | assumption | exact Below.refl _ _ | refine Below.alloc ?_ (by first | omega | (simp; done) | (simp; omega)) _ | refine Below.setCell ?_ (by first | omega | (simp; done) | (simp; omega)) _ | refine Below.drew ?_))⟩
set_option maxRecDepth 100000 in
set_option maxHeartbeats 2000000 in
theorem lawBansNone (a : Option Addr) (len cap : Nat) (zs : List Int) (w : World) (h : IsRow .u8 w a len cap zs) : Calls Try.prog 6 #[.slice a len cap] w fun e w' => e = .returned (.bool true) ∧ Below w.heap.size w w' := by
  by_cases hl : len ≤ 1048576
  · go_enter Try.func6, Try.ntmps6
    go_wp2_with fail
    refine (dLevelBans _ _ _ _ _ h).mono ?_
    rintro e w1 ⟨l, R, n, rfl, hR, hl1, hs1, hn0, hn4, hb1⟩
    have hs2 := hs1.wn
    have hs3 := hs1.gn
    have I1 : LI w w1.heap.size l (w1.alloc (.cells #[.int .i64 l.id, .int .i64 l.ticks, .int .i64 l.sx, .int .i64 l.sy, .slice l.wa l.wn l.wc, .slice l.ga l.gn l.gc, .int .i64 l.flx, .int .i64 l.fly, .int .i64 l.fhx, .int .i64 l.fhy, .int .i64 l.bans] 37)) := LI.mk0 hl1.1 hb1
    go_wp2_with fail
    refine (iLevelBans l n _ I1.lv).mono ?_
    rintro e w2 ⟨rfl, hb2⟩; have I2 := I1.pass hb2; (try clear q0 q1 q2 q3 q4 q5 q6 q7 q8 q9 q10); obtain ⟨q0, q1, q2, q3, q4, q5, q6, q7, q8, q9, q10⟩ := I2.blk.c11; have hz2 := I2.blk.lt
    go_wp2_with fail
    refine (sLevelBans l n _ (by omega) (by omega) I2.lv).mono ?_
    rintro e w3 ⟨rfl, hb3⟩; have I3 := I2.pass hb3; (try clear q0 q1 q2 q3 q4 q5 q6 q7 q8 q9 q10); obtain ⟨q0, q1, q2, q3, q4, q5, q6, q7, q8, q9, q10⟩ := I3.blk.c11; have hz3 := I3.blk.lt
    have b0 : l.bansB 0 = false := by simp [Lv.bansB]
    have b3 : l.bansB 3 = false := by simp [Lv.bansB]
    cases hk : l.bansB n with
    | false =>
      go_wp2_with fail
      refine (iLevelBans l 0 _ I3.lv).mono ?_
      rw [b0]
      rintro e w4 ⟨rfl, hb4⟩; have I4 := I3.pass hb4; (try clear q0 q1 q2 q3 q4 q5 q6 q7 q8 q9 q10); obtain ⟨q0, q1, q2, q3, q4, q5, q6, q7, q8, q9, q10⟩ := I4.blk.c11; have hz4 := I4.blk.lt
      go_wp2_with fail
      refine (iLevelBans l 3 _ I4.lv).mono ?_
      rw [b3]
      rintro e w5 ⟨rfl, hb5⟩; have I5 := I4.pass hb5; (try clear q0 q1 q2 q3 q4 q5 q6 q7 q8 q9 q10); obtain ⟨q0, q1, q2, q3, q4, q5, q6, q7, q8, q9, q10⟩ := I5.blk.c11; have hz5 := I5.blk.lt
      go_wp2
      go_ret
      exact ⟨rfl, I5.bel⟩
    | true =>
      have hn : n = 1 ∨ n = 2 := by
        simp only [Lv.bansB, Bool.and_eq_true, Bool.or_eq_true, decide_eq_true_eq] at hk
        exact hk.1.2
      clear hk
      rcases hn with rfl | rfl
      all_goals
        go_wp2_with fail
        refine (iLevelBans l 0 _ I3.lv).mono ?_
        rw [b0]
        rintro e w4 ⟨rfl, hb4⟩; have I4 := I3.pass hb4; (try clear q0 q1 q2 q3 q4 q5 q6 q7 q8 q9 q10); obtain ⟨q0, q1, q2, q3, q4, q5, q6, q7, q8, q9, q10⟩ := I4.blk.c11; have hz4 := I4.blk.lt
        go_wp2_with fail
        refine (iLevelBans l 3 _ I4.lv).mono ?_
        rw [b3]
        rintro e w5 ⟨rfl, hb5⟩; have I5 := I4.pass hb5; (try clear q0 q1 q2 q3 q4 q5 q6 q7 q8 q9 q10); obtain ⟨q0, q1, q2, q3, q4, q5, q6, q7, q8, q9, q10⟩ := I5.blk.c11; have hz5 := I5.blk.lt
        go_wp2
        go_ret
        exact ⟨rfl, I5.bel⟩
  · go_enter Try.func6, Try.ntmps6
    go_wp2
    go_ret
    exact ⟨rfl, by (repeat (first | with_reducible assumption | with_reducible exact Below.refl _ _ | ((with_reducible refine Below.alloc ?_ ?_ _); rotate_left; · exact (by first | omega | (simp; done) | (simp; omega))) | ((with_reducible refine Below.setCell ?_ ?_ _); rotate_left; · exact (by first | omega | (simp; done) | (simp; omega))) | with_reducible refine Below.drew ?_ | assumption | exact Below.refl _ _ | refine Below.alloc ?_ (by first | omega | (simp; done) | (simp; omega)) _ | refine Below.setCell ?_ (by first | omega | (simp; done) | (simp; omega)) _ | refine Below.drew ?_))⟩
end Go.Proofs.Ytgghfbkeipchkaa

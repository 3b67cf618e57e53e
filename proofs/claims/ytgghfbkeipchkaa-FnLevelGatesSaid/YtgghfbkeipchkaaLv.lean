/- The walks of the laws on the hashes of levels. -/
import Derived.Test.YtgghfbkeipchkaaLw
set_option linter.unusedVariables false
set_option linter.unusedSimpArgs false
namespace Go.Proofs.Ytgghfbkeipchkaa
open Go.RowKit

theorem LI.mk1 {w0 w : World} {P : Nat} {l k : Lv} {t : TypeId} (h : LI w0 P l w) (hk : LvAt w k) : LI w0 w.heap.size k (w.alloc (.cells #[.int .i64 k.id, .int .i64 k.ticks, .int .i64 k.sx, .int .i64 k.sy, .slice k.wa k.wn k.wc, .slice k.ga k.gn k.gc, .int .i64 k.flx, .int .i64 k.fly, .int .i64 k.fhx, .int .i64 k.fhy, .int .i64 k.bans] t)) := LI.mk0 hk h.bel
theorem boxes_less {w : World} {a : Option Addr} {n m : Nat} {f : Nat → Bx} (h : BoxesAt w a n f) (hm : m ≤ n) : BoxesAt w a m f := by
  rcases h with h | ⟨b, off, ha, hlt, hc⟩
  · exact .inl (by omega)
  · exact .inr ⟨b, off, ha, hlt, fun i hi => hc i (by omega)⟩
theorem Lv.ok_less {l : Lv} {n : Nat} (h : l.ok = true) (hn : n ≤ l.gn := by omega) : ({ l with gn := n } : Lv).ok = true := by
  simp only [Lv.ok, Bool.and_eq_true, decide_eq_true_eq] at h
  obtain ⟨⟨⟨⟨⟨⟨⟨⟨⟨h1, h2⟩, h3⟩, h4⟩, h5⟩, h6⟩, h7⟩, h8⟩, h9⟩, h10⟩ := h
  exact Lv.ok_mk h1 h2 h3 h4 h5 (Nat.le_trans hn h6) (bxsB_le h7 hn) h8 h9 h10
set_option maxRecDepth 100000 in
set_option maxHeartbeats 1000000 in
theorem lawLevelHash (a : Option Addr) (len cap : Nat) (zs : List Int) (a2 : Option Addr) (len2 cap2 : Nat) (zs2 : List Int) (w : World) (h : IsRow .u8 w a len cap zs) (h2 : IsRow .u8 w a2 len2 cap2 zs2) : Calls Try.prog 10 #[.slice a len cap, .slice a2 len2 cap2] w fun e w' => e = .returned (.bool true) ∧ Below w.heap.size w w' := by
  by_cases hl : len ≤ 1048576
  · by_cases hl2 : len2 ≤ 1048576
    · go_enter Try.func10, Try.ntmps10
      go_wp2_with fail
      refine (dLevelHash _ _ _ _ _ h).mono ?_
      rintro e w1 ⟨l, R, rfl, hR, hl1, hs1, hb1⟩
      have hs2 := hs1.wn
      have hs3 := hs1.gn
      have hs4 := hs1.gcap
      have I1 : LI w w1.heap.size l (w1.alloc (.cells #[.int .i64 l.id, .int .i64 l.ticks, .int .i64 l.sx, .int .i64 l.sy, .slice l.wa l.wn l.wc, .slice l.ga l.gn l.gc, .int .i64 l.flx, .int .i64 l.fly, .int .i64 l.fhx, .int .i64 l.fhy, .int .i64 l.bans] 37)) := LI.mk0 hl1.1 hb1
      have hbd := l.hashV_bd
      go_wp2_with fail
      refine (iLevelHash l _ I1.lv).mono ?_
      rintro e w2 ⟨rfl, hb2⟩; have I2 := I1.pass hb2; (try clear q0 q1 q2 q3 q4 q5 q6 q7 q8 q9 q10); obtain ⟨q0, q1, q2, q3, q4, q5, q6, q7, q8, q9, q10⟩ := I2.blk.c11; have hz2 := I2.blk.lt
      go_wp2_with fail
      refine (sLevelHash l _ (by omega) (by omega) I2.lv).mono ?_
      rintro e w3 ⟨rfl, hb3⟩; have I3 := I2.pass hb3; (try clear q0 q1 q2 q3 q4 q5 q6 q7 q8 q9 q10); obtain ⟨q0, q1, q2, q3, q4, q5, q6, q7, q8, q9, q10⟩ := I3.blk.c11; have hz3 := I3.blk.lt
      by_cases h0 : l.hashV < 0
      · go_wp2
        go_ret
        exact ⟨rfl, I3.bel⟩
      · have hk : l.ok = true := Lv.hashV_ok (by omega)
        obtain ⟨hid, htk, _, _⟩ := Lv.ok_nums hk
        have t1 : ((len2 : Nat) : Int).tmod 99 = ((len2 : Nat) : Int) % 99 := Int.tmod_eq_emod_of_nonneg (by omega)
        have t2 : ((len2 : Nat) : Int).tmod 59 = ((len2 : Nat) : Int) % 59 := Int.tmod_eq_emod_of_nonneg (by omega)
        go_wp2_with fail
        have n1 : (l.id + 1 + (len2 : Int) % 99) % 100 % 1000003 ≠ l.id % 1000003 := by omega
        have n2 : 1 + (l.ticks + (len2 : Int) % 59) % 60 = l.ticks ∨ (1 + (l.ticks + (len2 : Int) % 59) % 60) % 1000003 ≠ l.ticks % 1000003 := by omega
        generalize (l.id + 1 + (len2 : Int) % 99) % 100 = n at *
        generalize 1 + (l.ticks + (len2 : Int) % 59) % 60 = T at *
        have hv1 : ({ l with id := n } : Lv).hashV ≠ l.hashV := Lv.hashV_ne hk (fun e => Lv.hash_id l n1 e.symm)
        have hv1b : (({ l with id := n } : Lv).hashV != l.hashV) = true := by simpa using hv1
        have hl4 : LvAt ((w3.alloc (.cells #[.int .i64 n, .int .i64 l.ticks, .int .i64 l.sx, .int .i64 l.sy, .slice l.wa l.wn l.wc, .slice l.ga l.gn l.gc, .int .i64 l.flx, .int .i64 l.fly, .int .i64 l.fhx, .int .i64 l.fhy, .int .i64 l.bans] 37)).alloc (.cells #[.int .i64 l.id, .int .i64 T, .int .i64 l.sx, .int .i64 l.sy, .slice l.wa l.wn l.wc, .slice l.ga l.gn l.gc, .int .i64 l.flx, .int .i64 l.fly, .int .i64 l.fhx, .int .i64 l.fhy, .int .i64 l.bans] 37)) { l with id := n } := ((I3.alloc _).alloc _).lv
        refine (iLevelHash { l with id := n } _ hl4).mono ?_
        rintro e w4 ⟨rfl, hb4⟩
        have I4 := ((I3.alloc _).alloc _).pass hb4
        have B4 : Blk w4 (w3.heap.size + 1) #[.int .i64 l.id, .int .i64 T, .int .i64 l.sx, .int .i64 l.sy, .slice l.wa l.wn l.wc, .slice l.ga l.gn l.gc, .int .i64 l.flx, .int .i64 l.fly, .int .i64 l.fhx, .int .i64 l.fhy, .int .i64 l.bans] := (Blk.at (by simp)).below hb4 (by simp)
        clear q0 q1 q2 q3 q4 q5 q6 q7 q8 q9 q10 hl4 hv1
        generalize ({ l with id := n } : Lv).hashV = hA at *
        have q1 := I4.blk.c11.2.1
        obtain ⟨r0, r1, r2, r3, r4, r5, r6, r7, r8, r9, r10⟩ := B4.c11
        rcases n2 with n2 | n2
        · have n3 : (T == l.ticks) = true := by simpa using n2
          have n4 := Lib.hid n2
          clear n2
          go_wp2
          go_ret
          exact ⟨ret_bool (by first | rfl | simp [hv1b, n3]), I4.bel⟩
        · have n3 : (T == l.ticks) = false := by
            have : T ≠ l.ticks := fun e => n2 (by rw [e])
            simpa using this
          have hv2 : ({ l with ticks := T } : Lv).hashV ≠ l.hashV := Lv.hashV_ne hk (fun e => Lv.hash_ticks l n2 e.symm)
          have hv2b : (({ l with ticks := T } : Lv).hashV != l.hashV) = true := by simpa using hv2
          clear n2 hv2
          go_wp2_with fail
          refine (iLevelHash { l with ticks := T } _ (show LvAt w4 { l with ticks := T } from I4.lv)).mono ?_
          rintro e w5 ⟨rfl, hb5⟩
          have I5 := I4.pass hb5
          go_wp2
          go_ret
          exact ⟨rfl, I5.bel⟩
    · go_enter Try.func10, Try.ntmps10
      go_wp2
      go_ret
      exact ⟨rfl, by (repeat (first | with_reducible assumption | with_reducible exact Below.refl _ _ | ((with_reducible refine Below.alloc ?_ ?_ _); rotate_left; · exact (by first | omega | (simp; done) | (simp; omega))) | ((with_reducible refine Below.setCell ?_ ?_ _); rotate_left; · exact (by first | omega | (simp; done) | (simp; omega))) | with_reducible refine Below.drew ?_ | assumption | exact Below.refl _ _ | refine Below.alloc ?_ (by first | omega | (simp; done) | (simp; omega)) _ | refine Below.setCell ?_ (by first | omega | (simp; done) | (simp; omega)) _ | refine Below.drew ?_))⟩
  · go_enter Try.func10, Try.ntmps10
    go_wp2
    go_ret
    exact ⟨rfl, by (repeat (first | with_reducible assumption | with_reducible exact Below.refl _ _ | ((with_reducible refine Below.alloc ?_ ?_ _); rotate_left; · exact (by first | omega | (simp; done) | (simp; omega))) | ((with_reducible refine Below.setCell ?_ ?_ _); rotate_left; · exact (by first | omega | (simp; done) | (simp; omega))) | with_reducible refine Below.drew ?_ | assumption | exact Below.refl _ _ | refine Below.alloc ?_ (by first | omega | (simp; done) | (simp; omega)) _ | refine Below.setCell ?_ (by first | omega | (simp; done) | (simp; omega)) _ | refine Below.drew ?_))⟩
set_option maxRecDepth 100000 in
set_option maxHeartbeats 1000000 in
theorem lawLevelHashWalls (a : Option Addr) (len cap : Nat) (zs : List Int) (a2 : Option Addr) (len2 cap2 : Nat) (zs2 : List Int) (w : World) (h : IsRow .u8 w a len cap zs) (h2 : IsRow .u8 w a2 len2 cap2 zs2) : Calls Try.prog 11 #[.slice a len cap, .slice a2 len2 cap2] w fun e w' => e = .returned (.bool true) ∧ Below w.heap.size w w' := by
  by_cases hl : len ≤ 1048576
  · by_cases hl2 : len2 ≤ 1048576
    · go_enter Try.func11, Try.ntmps11
      go_wp2_with fail
      refine (dLevelHash _ _ _ _ _ h).mono ?_
      rintro e w1 ⟨l, R, rfl, hR, hl1, hs1, hb1⟩
      have hs2 := hs1.wn
      have hs3 := hs1.gn
      have hs4 := hs1.gcap
      have I1 : LI w w1.heap.size l (w1.alloc (.cells #[.int .i64 l.id, .int .i64 l.ticks, .int .i64 l.sx, .int .i64 l.sy, .slice l.wa l.wn l.wc, .slice l.ga l.gn l.gc, .int .i64 l.flx, .int .i64 l.fly, .int .i64 l.fhx, .int .i64 l.fhy, .int .i64 l.bans] 37)) := LI.mk0 hl1.1 hb1
      have hbd := l.hashV_bd
      go_wp2_with fail
      refine (iLevelHash l _ I1.lv).mono ?_
      rintro e w2 ⟨rfl, hb2⟩; have I2 := I1.pass hb2; (try clear q0 q1 q2 q3 q4 q5 q6 q7 q8 q9 q10); obtain ⟨q0, q1, q2, q3, q4, q5, q6, q7, q8, q9, q10⟩ := I2.blk.c11; have hz2 := I2.blk.lt
      go_wp2_with fail
      refine (sLevelHash l _ (by omega) (by omega) I2.lv).mono ?_
      rintro e w3 ⟨rfl, hb3⟩; have I3 := I2.pass hb3; (try clear q0 q1 q2 q3 q4 q5 q6 q7 q8 q9 q10); obtain ⟨q0, q1, q2, q3, q4, q5, q6, q7, q8, q9, q10⟩ := I3.blk.c11; have hz3 := I3.blk.lt
      by_cases h0 : l.hashV < 0
      · go_wp2
        go_ret
        exact ⟨rfl, I3.bel⟩
      · have hk : l.ok = true := Lv.hashV_ok (by omega)
        obtain ⟨hid, htk, _, hfb⟩ := Lv.ok_nums hk
        obtain ⟨_, _, ⟨a5, a6⟩, _⟩ := bxB_ok hfb
        have t1 : ((len2 : Nat) : Int).tmod 100 = ((len2 : Nat) : Int) % 100 := Int.tmod_eq_emod_of_nonneg (by omega)
        have hx0 : -1000000 ≤ l.fhx + 1 + (len2 : Int) % 100 := by omega
        have hx1 : l.fhx + 1 + (len2 : Int) % 100 ≤ 1000100 := by omega
        by_cases hx : 1000000 < l.fhx + 1 + (len2 : Int) % 100
        · go_wp2
          go_ret
          exact ⟨ret_bool (by simp [hx]), I3.bel.alloc I3.bel.size _⟩
        · have n1 : (l.fhx + 1 + (len2 : Int) % 100) % 1000003 ≠ l.fhx % 1000003 := by omega
          go_wp2_with fail
          generalize l.fhx + 1 + (len2 : Int) % 100 = n at *
          have hv1 : ({ l with fhx := n } : Lv).hashV ≠ l.hashV := Lv.hashV_ne hk (fun e => Lv.hash_fhx l n1 e.symm)
          have hv1b : (({ l with fhx := n } : Lv).hashV != l.hashV) = true := by simpa using hv1
          have hl4 : LvAt (w3.alloc (.cells #[.int .i64 l.id, .int .i64 l.ticks, .int .i64 l.sx, .int .i64 l.sy, .slice l.wa l.wn l.wc, .slice l.ga l.gn l.gc, .int .i64 l.flx, .int .i64 l.fly, .int .i64 n, .int .i64 l.fhy, .int .i64 l.bans] 37)) { l with fhx := n } := (I3.alloc _).lv
          refine (iLevelHash { l with fhx := n } _ hl4).mono ?_
          rintro e w4 ⟨rfl, hb4⟩
          have I4 := (I3.alloc _).pass hb4
          go_wp2
          go_ret
          exact ⟨rfl, I4.bel⟩
    · go_enter Try.func11, Try.ntmps11
      go_wp2
      go_ret
      exact ⟨rfl, by (repeat (first | with_reducible assumption | with_reducible exact Below.refl _ _ | ((with_reducible refine Below.alloc ?_ ?_ _); rotate_left; · exact (by first | omega | (simp; done) | (simp; omega))) | ((with_reducible refine Below.setCell ?_ ?_ _); rotate_left; · exact (by first | omega | (simp; done) | (simp; omega))) | with_reducible refine Below.drew ?_ | assumption | exact Below.refl _ _ | refine Below.alloc ?_ (by first | omega | (simp; done) | (simp; omega)) _ | refine Below.setCell ?_ (by first | omega | (simp; done) | (simp; omega)) _ | refine Below.drew ?_))⟩
  · go_enter Try.func11, Try.ntmps11
    go_wp2
    go_ret
    exact ⟨rfl, by (repeat (first | with_reducible assumption | with_reducible exact Below.refl _ _ | ((with_reducible refine Below.alloc ?_ ?_ _); rotate_left; · exact (by first | omega | (simp; done) | (simp; omega))) | ((with_reducible refine Below.setCell ?_ ?_ _); rotate_left; · exact (by first | omega | (simp; done) | (simp; omega))) | with_reducible refine Below.drew ?_ | assumption | exact Below.refl _ _ | refine Below.alloc ?_ (by first | omega | (simp; done) | (simp; omega)) _ | refine Below.setCell ?_ (by first | omega | (simp; done) | (simp; omega)) _ | refine Below.drew ?_))⟩
set_option maxRecDepth 100000 in
set_option maxHeartbeats 1000000 in
theorem lawLevelGates (a : Option Addr) (len cap : Nat) (zs : List Int) (a2 : Option Addr) (len2 cap2 : Nat) (zs2 : List Int) (w : World) (h : IsRow .u8 w a len cap zs) (h2 : IsRow .u8 w a2 len2 cap2 zs2) : Calls Try.prog 9 #[.slice a len cap, .slice a2 len2 cap2] w fun e w' => e = .returned (.bool true) ∧ Below w.heap.size w w' := by
  by_cases hl : len ≤ 1048576
  · by_cases hl2 : len2 ≤ 1048576
    · go_enter Try.func9, Try.ntmps9
      go_wp2_with fail
      refine (dLevelHash _ _ _ _ _ h).mono ?_
      rintro e w1 ⟨l, R, rfl, hR, hl1, hs1, hb1⟩
      have hs2 := hs1.wn
      have hs3 := hs1.gn
      have hs4 := hs1.gcap
      have I1 : LI w w1.heap.size l (w1.alloc (.cells #[.int .i64 l.id, .int .i64 l.ticks, .int .i64 l.sx, .int .i64 l.sy, .slice l.wa l.wn l.wc, .slice l.ga l.gn l.gc, .int .i64 l.flx, .int .i64 l.fly, .int .i64 l.fhx, .int .i64 l.fhy, .int .i64 l.bans] 37)) := LI.mk0 hl1.1 hb1
      have hbd := l.hashV_bd
      go_wp2_with fail
      refine (iLevelHash l _ I1.lv).mono ?_
      rintro e w2 ⟨rfl, hb2⟩; have I2 := I1.pass hb2; (try clear q0 q1 q2 q3 q4 q5 q6 q7 q8 q9 q10); obtain ⟨q0, q1, q2, q3, q4, q5, q6, q7, q8, q9, q10⟩ := I2.blk.c11; have hz2 := I2.blk.lt
      go_wp2_with fail
      refine (sLevelHash l _ (by omega) (by omega) I2.lv).mono ?_
      rintro e w3 ⟨rfl, hb3⟩; have I3 := I2.pass hb3; (try clear q0 q1 q2 q3 q4 q5 q6 q7 q8 q9 q10); obtain ⟨q0, q1, q2, q3, q4, q5, q6, q7, q8, q9, q10⟩ := I3.blk.c11; have hz3 := I3.blk.lt
      by_cases h0 : l.hashV < 0
      · go_wp2
        go_ret
        exact ⟨rfl, I3.bel⟩
      · by_cases hg0 : l.gn = 0
        · have hgb : (((l.gn : Nat) : Int) == 0) = true := by simp [hg0]
          have hG := Lib.hid hg0
          clear hg0
          go_wp2
          go_ret
          exact ⟨rfl, I3.bel⟩
        · have hgb : (((l.gn : Nat) : Int) == 0) = false := by simp; omega
          have hgp : (1 : Int) ≤ (l.gn : Int) := by omega
          have hgc : ((l.gn : Nat) : Int) - 1 ≤ (l.gc : Int) := by omega
          have hk : l.ok = true := Lv.hashV_ok (by omega)
          have hk2 : ({ l with gn := l.gn - 1 } : Lv).ok = true := Lv.ok_less hk
          have hv0 : 0 ≤ ({ l with gn := l.gn - 1 } : Lv).hashV := by rw [Lv.hashV_t hk2]; exact Lv.hash_lo _
          go_wp2_with fail
          have hl4 : LvAt (w3.alloc (.cells #[.int .i64 l.id, .int .i64 l.ticks, .int .i64 l.sx, .int .i64 l.sy, .slice l.wa l.wn l.wc, .slice l.ga (l.gn - 1) l.gc, .int .i64 l.flx, .int .i64 l.fly, .int .i64 l.fhx, .int .i64 l.fhy, .int .i64 l.bans] 37)) { l with gn := l.gn - 1 } := ⟨(I3.alloc _).lv.1, boxes_less (I3.alloc _).lv.2 (Nat.sub_le _ _)⟩
          refine (iLevelValid { l with gn := l.gn - 1 } _ hl4).mono ?_
          rw [hk2]
          rintro e w4 ⟨rfl, hb4⟩
          have I4 := (I3.alloc _).pass hb4
          have B4 : Blk w4 w3.heap.size #[.int .i64 l.id, .int .i64 l.ticks, .int .i64 l.sx, .int .i64 l.sy, .slice l.wa l.wn l.wc, .slice l.ga (l.gn - 1) l.gc, .int .i64 l.flx, .int .i64 l.fly, .int .i64 l.fhx, .int .i64 l.fhy, .int .i64 l.bans] := (Blk.at rfl).below hb4 (by simp)
          clear q0 q1 q2 q3 q4 q5 q6 q7 q8 q9 q10
          obtain ⟨r0, r1, r2, r3, r4, r5, r6, r7, r8, r9, r10⟩ := B4.c11
          go_wp2_with fail
          refine (iLevelHash { l with gn := l.gn - 1 } _ (hl4.keep hb4)).mono ?_
          rintro e w5 ⟨rfl, hb5⟩
          have I5 := I4.pass hb5
          generalize ({ l with gn := l.gn - 1 } : Lv).hashV = hh at *
          go_wp2
          go_ret
          exact ⟨ret_bool (by simp [hv0]), I5.bel⟩
    · go_enter Try.func9, Try.ntmps9
      go_wp2
      go_ret
      exact ⟨rfl, by (repeat (first | with_reducible assumption | with_reducible exact Below.refl _ _ | ((with_reducible refine Below.alloc ?_ ?_ _); rotate_left; · exact (by first | omega | (simp; done) | (simp; omega))) | ((with_reducible refine Below.setCell ?_ ?_ _); rotate_left; · exact (by first | omega | (simp; done) | (simp; omega))) | with_reducible refine Below.drew ?_ | assumption | exact Below.refl _ _ | refine Below.alloc ?_ (by first | omega | (simp; done) | (simp; omega)) _ | refine Below.setCell ?_ (by first | omega | (simp; done) | (simp; omega)) _ | refine Below.drew ?_))⟩
  · go_enter Try.func9, Try.ntmps9
    go_wp2
    go_ret
    exact ⟨rfl, by (repeat (first | with_reducible assumption | with_reducible exact Below.refl _ _ | ((with_reducible refine Below.alloc ?_ ?_ _); rotate_left; · exact (by first | omega | (simp; done) | (simp; omega))) | ((with_reducible refine Below.setCell ?_ ?_ _); rotate_left; · exact (by first | omega | (simp; done) | (simp; omega))) | with_reducible refine Below.drew ?_ | assumption | exact Below.refl _ _ | refine Below.alloc ?_ (by first | omega | (simp; done) | (simp; omega)) _ | refine Below.setCell ?_ (by first | omega | (simp; done) | (simp; omega)) _ | refine Below.drew ?_))⟩
end Go.Proofs.Ytgghfbkeipchkaa

/- An input that may follow another one, drawn. -/
import Derived.Test.YtnhjalijnociaaaQah
import Derived.Test.YtnhjalijnociaaaQan
import Derived.Test.YtnhjalijnociaaaQam
/- An input that may follow another one, drawn. -/
set_option linter.unusedVariables false
set_option linter.unusedSimpArgs false
namespace Go.Proofs.Ytnhjalijnociaaa
open Go.RowKit

/-- its variables: the level, the input before, the result, the input drawn -/
structure NX (w0 : World) (R k : Nat) (l : Lv) (t tp : Int) (tb : Bool) (o : Array Value) (w : World) : Prop where
  rd : Rd w R k
  up : Up R w0.heap.size w0 w
  L : Blk w w0.heap.size #[.int .i64 l.id, .int .i64 l.ticks, .int .i64 l.sx, .int .i64 l.sy, .slice l.wa l.wn l.wc, .slice l.ga l.gn l.gc, .int .i64 l.flx, .int .i64 l.fly, .int .i64 l.fhx, .int .i64 l.fhy, .int .i64 l.bans]
  B : Blk w (w0.heap.size + 1) #[.int .i64 t, .int .i64 tp, .bool tb]
  Z : Blk w (w0.heap.size + 1 + 1) #[.int .i64 0, .int .i64 0, .bool false]
  X : Blk w (w0.heap.size + 1 + 1 + 1) o
  hR : R < w0.heap.size
section
variable {w0 w w' : World} {R k k' : Nat} {l : Lv} {t tp : Int} {tb : Bool} {o : Array Value}
theorem NX.pass (h : NX w0 R k l t tp tb o w) (hr : Rd w' R k') (hu : Up R w.heap.size w w') : NX w0 R k' l t tp tb o w' := by
  have e := h.hR
  exact ⟨hr, h.up.trans (hu.mono h.up.size), h.L.up hu h.L.lt (by omega), h.B.up hu h.B.lt (by omega), h.Z.up hu h.Z.lt (by omega), h.X.up hu h.X.lt (by omega), h.hR⟩
theorem NX.passB (h : NX w0 R k l t tp tb o w) (hb : Below w.heap.size w w') : NX w0 R k l t tp tb o w' := h.pass (h.rd.keep (hb.mono h.rd.lt)) (Up.of_below hb)
theorem NX.set (h : NX w0 R k l t tp tb o w) (i : Nat) (v : Value) : NX w0 R k l t tp tb (o.setIfInBounds i v) (w.setCell ⟨w0.heap.size + 1 + 1 + 1, i, none⟩ v) := by
  have e := h.hR
  have hx := h.X.lt
  exact ⟨h.rd.keep (Below.setCell (p := ⟨w0.heap.size + 1 + 1 + 1, i, none⟩) (Below.refl (R + 1) w) (by simp only; omega) v), h.up.setCell (p := ⟨w0.heap.size + 1 + 1 + 1, i, none⟩) (.inr (by simp only; omega)) v, h.L.other (by simp only; omega) _, h.B.other (by simp only; omega) _, h.Z.other (by simp only; omega) _, h.X.set i v, h.hR⟩
theorem NX.fin (h : NX w0 R k l t tp tb o w) (a b c : Value) : Rd ((((w.setCell ⟨w0.heap.size + 1 + 1, 0, none⟩ a).setCell ⟨w0.heap.size + 1 + 1, 1, none⟩ b).setCell ⟨w0.heap.size + 1 + 1, 2, none⟩ c)) R k ∧ Up R w0.heap.size w0 ((((w.setCell ⟨w0.heap.size + 1 + 1, 0, none⟩ a).setCell ⟨w0.heap.size + 1 + 1, 1, none⟩ b).setCell ⟨w0.heap.size + 1 + 1, 2, none⟩ c)) ∧ Blk (((w.setCell ⟨w0.heap.size + 1 + 1, 0, none⟩ a).setCell ⟨w0.heap.size + 1 + 1, 1, none⟩ b).setCell ⟨w0.heap.size + 1 + 1, 2, none⟩ c) (w0.heap.size + 1 + 1) #[a, b, c] := by
  have e := h.hR
  have hb : Below (R + 1) w (((w.setCell ⟨w0.heap.size + 1 + 1, 0, none⟩ a).setCell ⟨w0.heap.size + 1 + 1, 1, none⟩ b).setCell ⟨w0.heap.size + 1 + 1, 2, none⟩ c) := Below.setCell (p := ⟨w0.heap.size + 1 + 1, 2, none⟩) (Below.setCell (p := ⟨w0.heap.size + 1 + 1, 1, none⟩) (Below.setCell (p := ⟨w0.heap.size + 1 + 1, 0, none⟩) (Below.refl _ _) (by simp only; omega) _) (by simp only; omega) _) (by simp only; omega) _
  exact ⟨h.rd.keep hb, ((h.up.setCell (p := ⟨w0.heap.size + 1 + 1, 0, none⟩) (.inr (by simp only; omega)) _).setCell (p := ⟨w0.heap.size + 1 + 1, 1, none⟩) (.inr (by simp only; omega)) _).setCell (p := ⟨w0.heap.size + 1 + 1, 2, none⟩) (.inr (by simp only; omega)) _, ((h.Z.set 0 a).set 1 b).set 2 c⟩
end
theorem inpV_go1 : inpV 0 1 false = true := by
  unfold inpV
  rw [inB_yes (by omega) (by omega), inB_yes (by omega) (by omega)]
  rfl
/-- an input drawn that is valid -/
def DrawnNext (R k : Nat) (w : World) (e : Ending) (w' : World) : Prop :=
  ∃ (s p : Int) (b : Bool) (k' : Nat), e = .returned (.agg #[.int .i64 s, .int .i64 p, .bool b]) ∧ inpV s p b = true ∧ k ≤ k' ∧ k' ≤ k + 2 ∧ Rd w' R k' ∧ Up R w.heap.size w w'
set_option maxRecDepth 100000 in
set_option maxHeartbeats 2000000 in
theorem lNext (R k : Nat) (l : Lv) (t tp : Int) (tb : Bool) (w : World) (hr : Rd w R k) (hk : k < 900000) (n0 : 0 ≤ l.bans) (n3 : l.bans ≤ 3) (st1 : -1 ≤ t) (st2 : t ≤ 1) : Calls Try.prog 123 #[.pointer (some ⟨R, 0, none⟩), .agg #[.int .i64 l.id, .int .i64 l.ticks, .int .i64 l.sx, .int .i64 l.sy, .slice l.wa l.wn l.wc, .slice l.ga l.gn l.gc, .int .i64 l.flx, .int .i64 l.fly, .int .i64 l.fhx, .int .i64 l.fhy, .int .i64 l.bans], .agg #[.int .i64 t, .int .i64 tp, .bool tb]] w (DrawnNext R k w) := by
  have hR := hr.lt
  go_enter Try.func123, Try.ntmps123
  go_wp2_with fail
  have I0 : NX w R k l t tp tb #[.int .i64 0, .int .i64 1, .bool false] ((((w.alloc (.cells #[.int .i64 l.id, .int .i64 l.ticks, .int .i64 l.sx, .int .i64 l.sy, .slice l.wa l.wn l.wc, .slice l.ga l.gn l.gc, .int .i64 l.flx, .int .i64 l.fly, .int .i64 l.fhx, .int .i64 l.fhy, .int .i64 l.bans] 29)).alloc (.cells #[.int .i64 t, .int .i64 tp, .bool tb] 33)).alloc (.cells #[.int .i64 0, .int .i64 0, .bool false] 33)).alloc (.cells #[.int .i64 0, .int .i64 1, .bool false] 33)) :=
    ⟨hr.keep (by (repeat (first | with_reducible assumption | with_reducible exact Below.refl _ _ | ((with_reducible refine Below.alloc ?_ ?_ _); rotate_left; · exact (by first | omega | (simp; done) | (simp; omega))) | ((with_reducible refine Below.setCell ?_ ?_ _); rotate_left; · exact (by first | omega | (simp; done) | (simp; omega))) | with_reducible refine Below.drew ?_ | assumption | exact Below.refl _ _ | refine Below.alloc ?_ (by first | omega | (simp; done) | (simp; omega)) _ | refine Below.setCell ?_ (by first | omega | (simp; done) | (simp; omega)) _ | refine Below.drew ?_))), by (repeat (first | assumption | exact Up.refl _ _ _ | refine Up.alloc ?_ (by first | omega | (simp; done) | (simp; omega)) _ | refine Up.setCell ?_ (.inr (by first | omega | (simp; done) | (simp; omega))) _ | refine Up.drew ?_ | refine Up.drewN ?_ _)), (((Blk.at rfl).alloc _).alloc _).alloc _, ((Blk.at (by simp)).alloc _).alloc _, (Blk.at (by simp)).alloc _, Blk.at (by simp), hR⟩
  refine (pick_any R k 12 _ I0.rd (by omega) (by omega) (by omega)).mono ?_
  rintro e w1 ⟨v1, rfl, hv1, hw1, hr1, hu1⟩
  have I1 := I0.pass hr1 hu1
  clear I0 hr1 hu1 hr
  have hXl := I1.X.lt
  by_cases h0 : v1 = 0
  · subst h0
    go_wp2_with fail
    refine (pick_any R (k + 1) 3 _ I1.rd (by omega) (by omega) (by omega)).mono ?_
    rintro e w2 ⟨v2, rfl, hv2, hw2, hr2, hu2⟩
    have I2 := I1.pass hr2 hu2
    clear I1 hr2 hu2
    have I3 : NX w R (k + 1 + 1) l t tp tb #[.int .i64 0, .int .i64 v2, .bool false] (w2.setCell ⟨w.heap.size + 1 + 1 + 1, 1, none⟩ (.int .i64 v2)) := I2.set 1 (.int .i64 v2)
    (try clear q0 q1 q2 q3 q4 q5 q6 q7 q8 q9 q10 b0 b1 b2 x0 x1 x2 z0 z1 z2 zf)
    (try clear q0 q1 q2 q3 q4 q5 q6 q7 q8 q9 q10); obtain ⟨q0, q1, q2, q3, q4, q5, q6, q7, q8, q9, q10⟩ := I2.L.c11
    have b0 := I2.B.cell 0
    have b1 := I2.B.cell 1
    have b2 := I2.B.cell 2
    have x0 := I2.X.cell 0
    have x1 := I2.X.cell 1
    have x2 := I2.X.cell 2
    simp only [List.getElem?_toArray, List.getElem?_cons_zero, List.getElem?_cons_succ] at b0 b1 b2 x0 x1 x2
    have hZl := I2.Z.lt
    have hXl := I2.X.lt
    have xf := I2.X.frozen
    (try clear q0 q1 q2 q3 q4 q5 q6 q7 q8 q9 q10 b0 b1 b2 x0 x1 x2 z0 z1 z2 zf)
    (try clear q0 q1 q2 q3 q4 q5 q6 q7 q8 q9 q10); obtain ⟨q0, q1, q2, q3, q4, q5, q6, q7, q8, q9, q10⟩ := I3.L.c11
    have b0 := I3.B.cell 0
    have b1 := I3.B.cell 1
    have b2 := I3.B.cell 2
    have x0 := I3.X.cell 0
    have x1 := I3.X.cell 1
    have x2 := I3.X.cell 2
    simp only [List.getElem?_toArray, List.getElem?_cons_zero, List.getElem?_cons_succ] at b0 b1 b2 x0 x1 x2
    have hZl := I3.Z.lt
    have hXl := I3.X.lt
    go_wp2_with fail
    refine (sFollows l t tp tb (0) (v2) (false) _ n0 n3 st1 st2).mono ?_
    rintro e w8 ⟨rfl, hb8⟩
    have I8 := I3.passB hb8
    (try clear q0 q1 q2 q3 q4 q5 q6 q7 q8 q9 q10 b0 b1 b2 x0 x1 x2 z0 z1 z2 zf)
    (try clear q0 q1 q2 q3 q4 q5 q6 q7 q8 q9 q10); obtain ⟨q0, q1, q2, q3, q4, q5, q6, q7, q8, q9, q10⟩ := I8.L.c11
    have b0 := I8.B.cell 0
    have b1 := I8.B.cell 1
    have b2 := I8.B.cell 2
    have x0 := I8.X.cell 0
    have x1 := I8.X.cell 1
    have x2 := I8.X.cell 2
    simp only [List.getElem?_toArray, List.getElem?_cons_zero, List.getElem?_cons_succ] at b0 b1 b2 x0 x1 x2
    have hZl := I8.Z.lt
    have hXl := I8.X.lt
    have z0 := I8.Z.cell 0
    have z1 := I8.Z.cell 1
    have z2 := I8.Z.cell 2
    have zf := I8.Z.frozen
    obtain ⟨v, hv⟩ : ∃ v, l.fol t ⟨0, v2, false⟩ = v := ⟨_, rfl⟩
    rw [hv]
    have hvh := Lib.hid hv
    clear hv hb8
    have hF := Lib.hid (I8.fin (.int .i64 0) (.int .i64 1) (.bool false))
    have hG := Lib.hid (I8.fin (.int .i64 (0)) (.int .i64 (v2)) (.bool (false)))
    cases v with
    | false =>
      go_wp2
      refine bodyPost_ret (res_row rfl rfl hF.out.2.2 Try.underlying33 rfl (by kernel_rfl)) rfl ?_
      exact ⟨0, 1, false, _, rfl, inpV_go1, by omega, by omega, hF.out.1, hF.out.2.1⟩
    | true =>
      go_wp2
      refine bodyPost_ret (res_row rfl rfl hG.out.2.2 Try.underlying33 rfl (by kernel_rfl)) rfl ?_
      exact ⟨_, _, _, _, rfl, fol_valid hvh.out, by omega, by omega, hG.out.1, hG.out.2.1⟩
  · by_cases h12 : v1 = 1 ∨ v1 = 2
    · have key : ∀ v2 : Int, 0 ≤ v2 → v2 < 3 → IntKind.i64.wrap (v2 - 1) = v2 - 1 := fun v2 a b => IntWalk.i64_in _ (by omega)
      rcases h12 with rfl | rfl
      · go_wp2_with fail
        refine (pick_any R (k + 1) 3 _ I1.rd (by omega) (by omega) (by omega)).mono ?_
        rintro e w2 ⟨v2, rfl, hv2, hw2, hr2, hu2⟩
        have I2 := I1.pass hr2 hu2
        clear I1 hr2 hu2
        have I3 : NX w R (k + 1 + 1) l t tp tb #[.int .i64 (v2 - 1), .int .i64 1, .bool false] (w2.setCell ⟨w.heap.size + 1 + 1 + 1, 0, none⟩ (.int .i64 (v2 - 1))) := I2.set 0 (.int .i64 (v2 - 1))
        (try clear q0 q1 q2 q3 q4 q5 q6 q7 q8 q9 q10 b0 b1 b2 x0 x1 x2 z0 z1 z2 zf)
        (try clear q0 q1 q2 q3 q4 q5 q6 q7 q8 q9 q10); obtain ⟨q0, q1, q2, q3, q4, q5, q6, q7, q8, q9, q10⟩ := I2.L.c11
        have b0 := I2.B.cell 0
        have b1 := I2.B.cell 1
        have b2 := I2.B.cell 2
        have x0 := I2.X.cell 0
        have x1 := I2.X.cell 1
        have x2 := I2.X.cell 2
        simp only [List.getElem?_toArray, List.getElem?_cons_zero, List.getElem?_cons_succ] at b0 b1 b2 x0 x1 x2
        have hZl := I2.Z.lt
        have hXl := I2.X.lt
        have xf := I2.X.frozen
        (try clear q0 q1 q2 q3 q4 q5 q6 q7 q8 q9 q10 b0 b1 b2 x0 x1 x2 z0 z1 z2 zf)
        (try clear q0 q1 q2 q3 q4 q5 q6 q7 q8 q9 q10); obtain ⟨q0, q1, q2, q3, q4, q5, q6, q7, q8, q9, q10⟩ := I3.L.c11
        have b0 := I3.B.cell 0
        have b1 := I3.B.cell 1
        have b2 := I3.B.cell 2
        have x0 := I3.X.cell 0
        have x1 := I3.X.cell 1
        have x2 := I3.X.cell 2
        simp only [List.getElem?_toArray, List.getElem?_cons_zero, List.getElem?_cons_succ] at b0 b1 b2 x0 x1 x2
        have hZl := I3.Z.lt
        have hXl := I3.X.lt
        go_wp2_with fail
        refine (sFollows l t tp tb (v2 - 1) (1) (false) _ n0 n3 st1 st2).mono ?_
        rintro e w8 ⟨rfl, hb8⟩
        have I8 := I3.passB hb8
        (try clear q0 q1 q2 q3 q4 q5 q6 q7 q8 q9 q10 b0 b1 b2 x0 x1 x2 z0 z1 z2 zf)
        (try clear q0 q1 q2 q3 q4 q5 q6 q7 q8 q9 q10); obtain ⟨q0, q1, q2, q3, q4, q5, q6, q7, q8, q9, q10⟩ := I8.L.c11
        have b0 := I8.B.cell 0
        have b1 := I8.B.cell 1
        have b2 := I8.B.cell 2
        have x0 := I8.X.cell 0
        have x1 := I8.X.cell 1
        have x2 := I8.X.cell 2
        simp only [List.getElem?_toArray, List.getElem?_cons_zero, List.getElem?_cons_succ] at b0 b1 b2 x0 x1 x2
        have hZl := I8.Z.lt
        have hXl := I8.X.lt
        have z0 := I8.Z.cell 0
        have z1 := I8.Z.cell 1
        have z2 := I8.Z.cell 2
        have zf := I8.Z.frozen
        obtain ⟨v, hv⟩ : ∃ v, l.fol t ⟨v2 - 1, 1, false⟩ = v := ⟨_, rfl⟩
        rw [hv]
        have hvh := Lib.hid hv
        clear hv hb8
        have hF := Lib.hid (I8.fin (.int .i64 0) (.int .i64 1) (.bool false))
        have hG := Lib.hid (I8.fin (.int .i64 (v2 - 1)) (.int .i64 (1)) (.bool (false)))
        cases v with
        | false =>
          go_wp2
          refine bodyPost_ret (res_row rfl rfl hF.out.2.2 Try.underlying33 rfl (by kernel_rfl)) rfl ?_
          exact ⟨0, 1, false, _, rfl, inpV_go1, by omega, by omega, hF.out.1, hF.out.2.1⟩
        | true =>
          go_wp2
          refine bodyPost_ret (res_row rfl rfl hG.out.2.2 Try.underlying33 rfl (by kernel_rfl)) rfl ?_
          exact ⟨_, _, _, _, rfl, fol_valid hvh.out, by omega, by omega, hG.out.1, hG.out.2.1⟩
      · go_wp2_with fail
        refine (pick_any R (k + 1) 3 _ I1.rd (by omega) (by omega) (by omega)).mono ?_
        rintro e w2 ⟨v2, rfl, hv2, hw2, hr2, hu2⟩
        have I2 := I1.pass hr2 hu2
        clear I1 hr2 hu2
        have I3 : NX w R (k + 1 + 1) l t tp tb #[.int .i64 (v2 - 1), .int .i64 1, .bool false] (w2.setCell ⟨w.heap.size + 1 + 1 + 1, 0, none⟩ (.int .i64 (v2 - 1))) := I2.set 0 (.int .i64 (v2 - 1))
        (try clear q0 q1 q2 q3 q4 q5 q6 q7 q8 q9 q10 b0 b1 b2 x0 x1 x2 z0 z1 z2 zf)
        (try clear q0 q1 q2 q3 q4 q5 q6 q7 q8 q9 q10); obtain ⟨q0, q1, q2, q3, q4, q5, q6, q7, q8, q9, q10⟩ := I2.L.c11
        have b0 := I2.B.cell 0
        have b1 := I2.B.cell 1
        have b2 := I2.B.cell 2
        have x0 := I2.X.cell 0
        have x1 := I2.X.cell 1
        have x2 := I2.X.cell 2
        simp only [List.getElem?_toArray, List.getElem?_cons_zero, List.getElem?_cons_succ] at b0 b1 b2 x0 x1 x2
        have hZl := I2.Z.lt
        have hXl := I2.X.lt
        have xf := I2.X.frozen
        (try clear q0 q1 q2 q3 q4 q5 q6 q7 q8 q9 q10 b0 b1 b2 x0 x1 x2 z0 z1 z2 zf)
        (try clear q0 q1 q2 q3 q4 q5 q6 q7 q8 q9 q10); obtain ⟨q0, q1, q2, q3, q4, q5, q6, q7, q8, q9, q10⟩ := I3.L.c11
        have b0 := I3.B.cell 0
        have b1 := I3.B.cell 1
        have b2 := I3.B.cell 2
        have x0 := I3.X.cell 0
        have x1 := I3.X.cell 1
        have x2 := I3.X.cell 2
        simp only [List.getElem?_toArray, List.getElem?_cons_zero, List.getElem?_cons_succ] at b0 b1 b2 x0 x1 x2
        have hZl := I3.Z.lt
        have hXl := I3.X.lt
        go_wp2_with fail
        refine (sFollows l t tp tb (v2 - 1) (1) (false) _ n0 n3 st1 st2).mono ?_
        rintro e w8 ⟨rfl, hb8⟩
        have I8 := I3.passB hb8
        (try clear q0 q1 q2 q3 q4 q5 q6 q7 q8 q9 q10 b0 b1 b2 x0 x1 x2 z0 z1 z2 zf)
        (try clear q0 q1 q2 q3 q4 q5 q6 q7 q8 q9 q10); obtain ⟨q0, q1, q2, q3, q4, q5, q6, q7, q8, q9, q10⟩ := I8.L.c11
        have b0 := I8.B.cell 0
        have b1 := I8.B.cell 1
        have b2 := I8.B.cell 2
        have x0 := I8.X.cell 0
        have x1 := I8.X.cell 1
        have x2 := I8.X.cell 2
        simp only [List.getElem?_toArray, List.getElem?_cons_zero, List.getElem?_cons_succ] at b0 b1 b2 x0 x1 x2
        have hZl := I8.Z.lt
        have hXl := I8.X.lt
        have z0 := I8.Z.cell 0
        have z1 := I8.Z.cell 1
        have z2 := I8.Z.cell 2
        have zf := I8.Z.frozen
        obtain ⟨v, hv⟩ : ∃ v, l.fol t ⟨v2 - 1, 1, false⟩ = v := ⟨_, rfl⟩
        rw [hv]
        have hvh := Lib.hid hv
        clear hv hb8
        have hF := Lib.hid (I8.fin (.int .i64 0) (.int .i64 1) (.bool false))
        have hG := Lib.hid (I8.fin (.int .i64 (v2 - 1)) (.int .i64 (1)) (.bool (false)))
        cases v with
        | false =>
          go_wp2
          refine bodyPost_ret (res_row rfl rfl hF.out.2.2 Try.underlying33 rfl (by kernel_rfl)) rfl ?_
          exact ⟨0, 1, false, _, rfl, inpV_go1, by omega, by omega, hF.out.1, hF.out.2.1⟩
        | true =>
          go_wp2
          refine bodyPost_ret (res_row rfl rfl hG.out.2.2 Try.underlying33 rfl (by kernel_rfl)) rfl ?_
          exact ⟨_, _, _, _, rfl, fol_valid hvh.out, by omega, by omega, hG.out.1, hG.out.2.1⟩
    · by_cases h3 : v1 = 3
      · subst h3
        go_wp2_with fail
        refine (pick_any R (k + 1) 10 _ I1.rd (by omega) (by omega) (by omega)).mono ?_
        rintro e w2 ⟨v2, rfl, hv2, hw2, hr2, hu2⟩
        have I2 := I1.pass hr2 hu2
        clear I1 hr2 hu2
        go_wp2_with fail
        refine (sInputOf v2 _).mono ?_
        rintro e w3 ⟨rfl, hb3⟩
        have I3 := I2.passB hb3
        have I4 : NX w R (k + 1 + 1) l t tp tb #[.int .i64 (ioS v2), .int .i64 (ioP v2), .bool (ioB v2)] (((w3.setCell ⟨w.heap.size + 1 + 1 + 1, 0, none⟩ (.int .i64 (ioS v2))).setCell ⟨w.heap.size + 1 + 1 + 1, 1, none⟩ (.int .i64 (ioP v2))).setCell ⟨w.heap.size + 1 + 1 + 1, 2, none⟩ (.bool (ioB v2))) := ((I3.set 0 _).set 1 _).set 2 _
        clear hb3 I2
        (try clear q0 q1 q2 q3 q4 q5 q6 q7 q8 q9 q10 b0 b1 b2 x0 x1 x2 z0 z1 z2 zf)
        (try clear q0 q1 q2 q3 q4 q5 q6 q7 q8 q9 q10); obtain ⟨q0, q1, q2, q3, q4, q5, q6, q7, q8, q9, q10⟩ := I3.L.c11
        have b0 := I3.B.cell 0
        have b1 := I3.B.cell 1
        have b2 := I3.B.cell 2
        have x0 := I3.X.cell 0
        have x1 := I3.X.cell 1
        have x2 := I3.X.cell 2
        simp only [List.getElem?_toArray, List.getElem?_cons_zero, List.getElem?_cons_succ] at b0 b1 b2 x0 x1 x2
        have hZl := I3.Z.lt
        have hXl := I3.X.lt
        have xf := I3.X.frozen
        (try clear q0 q1 q2 q3 q4 q5 q6 q7 q8 q9 q10 b0 b1 b2 x0 x1 x2 z0 z1 z2 zf)
        (try clear q0 q1 q2 q3 q4 q5 q6 q7 q8 q9 q10); obtain ⟨q0, q1, q2, q3, q4, q5, q6, q7, q8, q9, q10⟩ := I4.L.c11
        have b0 := I4.B.cell 0
        have b1 := I4.B.cell 1
        have b2 := I4.B.cell 2
        have x0 := I4.X.cell 0
        have x1 := I4.X.cell 1
        have x2 := I4.X.cell 2
        simp only [List.getElem?_toArray, List.getElem?_cons_zero, List.getElem?_cons_succ] at b0 b1 b2 x0 x1 x2
        have hZl := I4.Z.lt
        have hXl := I4.X.lt
        go_wp2_with fail
        refine (sFollows l t tp tb (ioS v2) (ioP v2) (ioB v2) _ n0 n3 st1 st2).mono ?_
        rintro e w8 ⟨rfl, hb8⟩
        have I8 := I4.passB hb8
        (try clear q0 q1 q2 q3 q4 q5 q6 q7 q8 q9 q10 b0 b1 b2 x0 x1 x2 z0 z1 z2 zf)
        (try clear q0 q1 q2 q3 q4 q5 q6 q7 q8 q9 q10); obtain ⟨q0, q1, q2, q3, q4, q5, q6, q7, q8, q9, q10⟩ := I8.L.c11
        have b0 := I8.B.cell 0
        have b1 := I8.B.cell 1
        have b2 := I8.B.cell 2
        have x0 := I8.X.cell 0
        have x1 := I8.X.cell 1
        have x2 := I8.X.cell 2
        simp only [List.getElem?_toArray, List.getElem?_cons_zero, List.getElem?_cons_succ] at b0 b1 b2 x0 x1 x2
        have hZl := I8.Z.lt
        have hXl := I8.X.lt
        have z0 := I8.Z.cell 0
        have z1 := I8.Z.cell 1
        have z2 := I8.Z.cell 2
        have zf := I8.Z.frozen
        obtain ⟨v, hv⟩ : ∃ v, l.fol t ⟨ioS v2, ioP v2, ioB v2⟩ = v := ⟨_, rfl⟩
        rw [hv]
        have hvh := Lib.hid hv
        clear hv hb8
        have hF := Lib.hid (I8.fin (.int .i64 0) (.int .i64 1) (.bool false))
        have hG := Lib.hid (I8.fin (.int .i64 (ioS v2)) (.int .i64 (ioP v2)) (.bool (ioB v2)))
        cases v with
        | false =>
          go_wp2
          refine bodyPost_ret (res_row rfl rfl hF.out.2.2 Try.underlying33 rfl (by kernel_rfl)) rfl ?_
          exact ⟨0, 1, false, _, rfl, inpV_go1, by omega, by omega, hF.out.1, hF.out.2.1⟩
        | true =>
          go_wp2
          refine bodyPost_ret (res_row rfl rfl hG.out.2.2 Try.underlying33 rfl (by kernel_rfl)) rfl ?_
          exact ⟨_, _, _, _, rfl, fol_valid hvh.out, by omega, by omega, hG.out.1, hG.out.2.1⟩
      · have e0 : (v1 == 0) = false := by simpa using h0
        have e1 : (v1 == 1) = false := by simp; omega
        have e2 : (v1 == 2) = false := by simp; omega
        have e3 : (v1 == 3) = false := by simpa using h3
        clear h0 h12 h3
        (try clear q0 q1 q2 q3 q4 q5 q6 q7 q8 q9 q10 b0 b1 b2 x0 x1 x2 z0 z1 z2 zf)
        (try clear q0 q1 q2 q3 q4 q5 q6 q7 q8 q9 q10); obtain ⟨q0, q1, q2, q3, q4, q5, q6, q7, q8, q9, q10⟩ := I1.L.c11
        have b0 := I1.B.cell 0
        have b1 := I1.B.cell 1
        have b2 := I1.B.cell 2
        have x0 := I1.X.cell 0
        have x1 := I1.X.cell 1
        have x2 := I1.X.cell 2
        simp only [List.getElem?_toArray, List.getElem?_cons_zero, List.getElem?_cons_succ] at b0 b1 b2 x0 x1 x2
        have hZl := I1.Z.lt
        have hXl := I1.X.lt
        go_wp2_with fail
        refine (sFollows l t tp tb (0) (1) (false) _ n0 n3 st1 st2).mono ?_
        rintro e w8 ⟨rfl, hb8⟩
        have I8 := I1.passB hb8
        (try clear q0 q1 q2 q3 q4 q5 q6 q7 q8 q9 q10 b0 b1 b2 x0 x1 x2 z0 z1 z2 zf)
        (try clear q0 q1 q2 q3 q4 q5 q6 q7 q8 q9 q10); obtain ⟨q0, q1, q2, q3, q4, q5, q6, q7, q8, q9, q10⟩ := I8.L.c11
        have b0 := I8.B.cell 0
        have b1 := I8.B.cell 1
        have b2 := I8.B.cell 2
        have x0 := I8.X.cell 0
        have x1 := I8.X.cell 1
        have x2 := I8.X.cell 2
        simp only [List.getElem?_toArray, List.getElem?_cons_zero, List.getElem?_cons_succ] at b0 b1 b2 x0 x1 x2
        have hZl := I8.Z.lt
        have hXl := I8.X.lt
        have z0 := I8.Z.cell 0
        have z1 := I8.Z.cell 1
        have z2 := I8.Z.cell 2
        have zf := I8.Z.frozen
        obtain ⟨v, hv⟩ : ∃ v, l.fol t ⟨0, 1, false⟩ = v := ⟨_, rfl⟩
        rw [hv]
        have hvh := Lib.hid hv
        clear hv hb8
        have hF := Lib.hid (I8.fin (.int .i64 0) (.int .i64 1) (.bool false))
        have hG := Lib.hid (I8.fin (.int .i64 (0)) (.int .i64 (1)) (.bool (false)))
        cases v with
        | false =>
          go_wp2
          refine bodyPost_ret (res_row rfl rfl hF.out.2.2 Try.underlying33 rfl (by kernel_rfl)) rfl ?_
          exact ⟨0, 1, false, _, rfl, inpV_go1, by omega, by omega, hF.out.1, hF.out.2.1⟩
        | true =>
          go_wp2
          refine bodyPost_ret (res_row rfl rfl hG.out.2.2 Try.underlying33 rfl (by kernel_rfl)) rfl ?_
          exact ⟨_, _, _, _, rfl, fol_valid hvh.out, by omega, by omega, hG.out.1, hG.out.2.1⟩
end Go.Proofs.Ytnhjalijnociaaa

/- Rows of inputs that a function grows. -/
set_option linter.unusedVariables false
namespace Go.Proofs.Ytnhjalijnociaaa
open Go.RowKit

/-- a row of n inputs that block g holds -/
def RowI (w : World) (g cap n : Nat) (f : Nat → Inp) : Prop := w.ownsRow g 33 3 (.slice (some ⟨g, 0, none⟩) n cap) n (jvals f n)
theorem jvals_congr {f g : Nat → Inp} : ∀ n, (∀ i, i < n → f i = g i) → jvals f n = jvals g n
  | 0, _ => rfl
  | n + 1, h => by rw [jvals, jvals, jvals_congr n (fun i hi => h i (by omega)), h n (by omega)]
theorem jvals_add (f : Nat → Inp) (n : Nat) : ∀ m, jvals f (n + m) = jvals f n ++ jvals (fun i => f (n + i)) m
  | 0 => by simp [jvals]
  | m + 1 => by rw [← Nat.add_assoc, jvals, jvals_add f n m, jvals, List.append_assoc]
section
variable {w w' : World} {g cap n : Nat} {f : Nat → Inp}
theorem RowI.raw (h : RowI w g cap n f) : ∃ cur, w.heap[g]? = some (.cells cur 33 (0, 0)) ∧ n ≤ cap ∧ cap ≤ maxLen ∧ cur.size = cap * 3 ∧ cur.toList.take (n * 3) = jvals f n := by
  rcases h.2 with ⟨h', _⟩ | ⟨g', cap', cur, h', hb, hg, h1, h2, h3, h4⟩
  · simp at h'
  · simp only [Value.slice.injEq, Option.some.injEq, Addr.mk.injEq, and_true, true_and] at h'
    obtain ⟨rfl, rfl⟩ := h'
    exact ⟨cur, hg, h1, h2, h3, h4⟩
theorem RowI.of {cur : Array Value} (hg : w.heap[g]? = some (.cells cur 33 (0, 0))) (h1 : n ≤ cap) (h2 : cap ≤ maxLen) (h3 : cur.size = cap * 3) (h4 : cur.toList.take (n * 3) = jvals f n) : RowI w g cap n f :=
  ⟨jvals_len f n, .inr ⟨g, cap, cur, rfl, Nat.le_refl _, hg, h1, h2, h3, h4⟩⟩
theorem RowI.keep (h : RowI w g cap n f) (e : w'.heap[g]? = w.heap[g]?) : RowI w' g cap n f := by
  obtain ⟨cur, hg, h1, h2, h3, h4⟩ := h.raw
  exact RowI.of (e.trans hg) h1 h2 h3 h4
theorem RowI.lt (h : RowI w g cap n f) : g < w.heap.size := by
  obtain ⟨cur, hg, _⟩ := h.raw
  exact (Array.getElem?_eq_some_iff.1 hg).1
theorem RowI.le_cap (h : RowI w g cap n f) : n ≤ cap := by
  obtain ⟨cur, _, h1, _⟩ := h.raw
  exact h1
theorem RowI.up {R B : Nat} (h : RowI w g cap n f) (hu : Up R B w w') (hlt : g < B) (hne : g ≠ R) : RowI w' g cap n f := h.keep (hu.block g hlt hne)
theorem RowI.below {B : Nat} (h : RowI w g cap n f) (hb : Below B w w') (hlt : g < B) : RowI w' g cap n f := h.keep (hb.block g hlt)
theorem RowI.alloc (h : RowI w g cap n f) (o : Obj) : RowI (w.alloc o) g cap n f := h.below ((Below.refl w.heap.size w).alloc (Nat.le_refl _) o) h.lt
theorem RowI.other (h : RowI w g cap n f) {p : Addr} (hne : g ≠ p.block) (v : Value) : RowI (w.setCell p v) g cap n f := h.keep (heap_setCell_other w p g v hne)
theorem RowI.row (h : RowI w g cap n f) {b : Nat} (hne : g ≠ b) (c : Array Value) : RowI (w.setRow b c) g cap n f := h.keep (setRow_other w b g c hne)
theorem RowI.ins (h : RowI w g cap n f) : InsAt w (some ⟨g, 0, none⟩) n f := ins_own h
theorem RowI.rebase {base : Nat} {xs : List Value} (h : w.ownsRow base 33 3 (.slice (some ⟨g, 0, none⟩) n cap) n xs) (e : xs = jvals f n) : RowI w g cap n f := by
  subst e
  rcases h.2 with ⟨h', _⟩ | ⟨g', cap', cur, h', hb, hg, h1, h2, h3, h4⟩
  · simp at h'
  · simp only [Value.slice.injEq, Option.some.injEq, Addr.mk.injEq, and_true, true_and] at h'
    obtain ⟨rfl, rfl⟩ := h'
    exact RowI.of hg h1 h2 h3 h4
theorem RowI.empty (f : Nat → Inp) (hg : w.heap.size = g) : RowI (w.alloc (.cells #[] 33)) g 0 0 f := by
  subst hg
  exact RowI.of (heap_alloc_new w _) (Nat.le_refl _) (Nat.zero_le _) rfl rfl
end
/-- one input more -/
def isnoc (f : Nat → Inp) (n : Nat) (b : Inp) : Nat → Inp := fun i => if i = n then b else f i
theorem jvals_snoc (f : Nat → Inp) (n : Nat) (b : Inp) : jvals (isnoc f n b) (n + 1) = jvals f n ++ b.cells := by
  rw [jvals, jvals_congr n fun i hi => by simp only [isnoc]; rw [if_neg (by omega)]]
  simp [isnoc]
theorem isnoc_all {p : Inp → Prop} {f : Nat → Inp} {n : Nat} {b : Inp} (h : ∀ i, i < n → p (f i)) (hb : p b) : ∀ i, i < n + 1 → p (isnoc f n b i) := by
  intro i hi
  by_cases e : i = n
  · simp [isnoc, e, hb]
  · simp only [isnoc, if_neg e]
    exact h i (by omega)
/-- inputs behind inputs -/
def iglue (f : Nat → Inp) (n : Nat) (f2 : Nat → Inp) : Nat → Inp := fun i => if i < n then f i else f2 (i - n)
theorem jvals_glue (f : Nat → Inp) (n : Nat) (f2 : Nat → Inp) (m : Nat) : jvals (iglue f n f2) (n + m) = jvals f n ++ jvals f2 m := by
  rw [jvals_add]
  congr 1
  · exact jvals_congr _ fun i hi => by simp [iglue, hi]
  · exact jvals_congr _ fun i hi => by
      have h1 : ¬ (n + i < n) := by omega
      have h2 : n + i - n = i := by omega
      simp only [iglue, if_neg h1, h2]
theorem iglue_all {p : Inp → Prop} {f f2 : Nat → Inp} {n m : Nat} (h : ∀ i, i < n → p (f i)) (h2 : ∀ i, i < m → p (f2 i)) : ∀ i, i < n + m → p (iglue f n f2 i) := by
  intro i hi
  by_cases e : i < n
  · simp only [iglue, if_pos e]; exact h i e
  · simp only [iglue, if_neg e]; exact h2 _ (by omega)
theorem jvals_cells {w : World} {b off n : Nat} {f : Nat → Inp} (hc : ∀ i, i < n → InCells w b (off + i * 3) (f i)) : ∀ j u, (jvals f n)[j]? = some u → w.cell? ((⟨b, off, none⟩ : Addr).add j) = some u := by
  intro j u hu
  have hj : j < n * 3 := by have := (List.getElem?_eq_some_iff.1 hu).1; rw [jvals_len] at this; omega
  have hi : j / 3 < n := by omega
  obtain ⟨c0, c1, c2⟩ := hc (j / 3) hi
  have e : j = j / 3 * 3 + j % 3 := by omega
  rw [e, jvals_at f hi (by omega)] at hu
  rw [addr_add, e]
  have hm : j % 3 = 0 ∨ j % 3 = 1 ∨ j % 3 = 2 := by omega
  rcases hm with hm | hm | hm <;> rw [hm] at hu ⊢ <;> simp [Inp.cells] at hu <;> subst hu
  · rw [Nat.add_zero]; exact c0
  · rw [← Nat.add_assoc]; exact c1
  · rw [← Nat.add_assoc]; exact c2
theorem jvals_one (f : Nat → Inp) : ∀ n, ∀ u ∈ jvals f n, u.oneCell' = true
  | 0, u, h => by simp [jvals] at h
  | n + 1, u, h => by
    rw [jvals, List.mem_append] at h
    rcases h with h | h
    · exact jvals_one f n u h
    · simp only [Inp.cells, List.mem_cons, List.not_mem_nil, or_false] at h
      rcases h with rfl | rfl | rfl <;> rfl
set_option maxRecDepth 100000 in
/-- inputs appended: the slice may be any that the function owns -/
theorem app_ins {w : World} {ops : Array Oper} {rest : List Oper} {o : Oper} {a : Act} {Q : Exit → Act → World → Prop} (hgd : o.guard = none) (s x : Operand)
    (ho : o.op = .call { callee := .builtin .append, args := #[s, x], argTypes := #[69, 69] }) (g cap n : Nat) (f : Nat → Inp) (A : Option Addr) (m c : Nat) (f2 : Nat → Inp)
    (hs : a.eval s = .slice (some ⟨g, 0, none⟩) n cap) (hrow : RowI w g cap n f) (hx : a.eval x = .slice A m c) (hB : InsAt w A m f2) (hn : n + m ≤ 1000)
    (h : ∀ g' cap' w', RowI w' g' cap' (n + m) (iglue f n f2) → g ≤ g' → Up g w.heap.size w w' → g' < w'.heap.size → wpList Try.prog ops Q rest (a.put o.dst (.slice (some ⟨g', 0, none⟩) (n + m) cap')) w') : wpList Try.prog ops Q (o :: rest) a w := by
  have fin : ∀ v' w', w'.ownsRow g 33 3 v' (n + m) (jvals f n ++ jvals f2 m) → w.grownBy w' (Value.ownBlock (.slice (some ⟨g, 0, none⟩) n cap)) → (v' = .slice none 0 0 ↔ Value.slice (some ⟨g, 0, none⟩) n cap = .slice none 0 0 ∧ m = 0) → wpList Try.prog ops Q rest (a.put o.dst v') w' := by
    intro v' w' hown hgrow hnil
    have hup : Up g w.heap.size w w' := ⟨hgrow.os, hgrow.tape, hgrow.output, hgrow.size, fun k hk hne => hgrow.block k hk (by simpa [Value.ownBlock] using hne)⟩
    rcases hown.2 with ⟨h', _⟩ | ⟨g', cap', cur, rfl, hb, hg, h1, h2, h3, h4⟩
    · have := hnil.1 h'
      simp at this
    · exact h g' cap' w' (RowI.rebase hown (jvals_glue f n f2 m).symm) hb hup (Array.getElem?_eq_some_iff.1 hg).1
  obtain ⟨i0, hii, hiz, his, hib⟩ := info_parts infoIn
  have hbase := Nat.le_of_lt hrow.lt
  cases A with
  | none =>
    have hm : m = 0 := by
      rcases hB with hB | ⟨b, off, ha, _⟩
      · exact hB
      · cases ha
    subst hm
    have hrun := run_app_none (P := Try.prog) g 69 o.type 33 i0 3 c Try.underlying69 hii _ n _ hrow
    exact Lib.wpList_append_run w hgd s x _ _ ho _ _ hs hx _ _ hrun (fin _ w (by have h1 := hrow; unfold RowI at h1; simpa [jvals] using h1) ⟨rfl, rfl, rfl, Nat.le_refl _, fun _ _ _ => rfl⟩ (by simp))
  | some ad =>
    rcases hB with hB | ⟨b, off, ha, hlt, hc⟩
    · subst hB
      exact wpList_append_own w hgd s x _ ho g 33 i0 _ 3 24 Try.underlying69 hii hiz his hib rfl (by decide) _ n _ hs hrow ad 0 c [] hx rfl (by simp) (by simp) (by unfold maxLen; omega) (by omega) hbase fin
    · cases ha
      exact wpList_append_own w hgd s x _ ho g 33 i0 _ 3 24 Try.underlying69 hii hiz his hib rfl (by decide) _ n _ hs hrow _ m c (jvals f2 m) hx (jvals_len f2 m) (jvals_cells hc) (jvals_one f2 m) (by unfold maxLen; omega) (by omega) hbase fin
set_option maxRecDepth 100000 in
theorem run_app_ins {w : World} (ty : TypeId) (g cap n : Nat) (f : Nat → Inp) (hrow : RowI w g cap n f) (A : Option Addr) (m c : Nat) (f2 : Nat → Inp) (hB : InsAt w A m f2) (hn : n + m ≤ 1000) :
    ∃ g' cap' w', (Builtin.append_ #[69, 69] ty #[.slice (some ⟨g, 0, none⟩) n cap, .slice A m c]).run Try.prog w = .ok (.slice (some ⟨g', 0, none⟩) (n + m) cap') w' ∧ RowI w' g' cap' (n + m) (iglue f n f2) ∧ g ≤ g' ∧ Up g w.heap.size w w' ∧ g' < w'.heap.size := by
  obtain ⟨i0, hii, hiz, his, hib⟩ := info_parts infoIn
  have some_case : ∀ (ad : Addr) (m : Nat) (news : List Value), news = jvals f2 m → n + m ≤ 1000 → (∀ j u, news[j]? = some u → w.cell? (ad.add j) = some u) →
      ∃ g' cap' w', (Builtin.append_ #[69, 69] ty #[.slice (some ⟨g, 0, none⟩) n cap, .slice (some ad) m c]).run Try.prog w = .ok (.slice (some ⟨g', 0, none⟩) (n + m) cap') w' ∧ RowI w' g' cap' (n + m) (iglue f n f2) ∧ g ≤ g' ∧ Up g w.heap.size w w' ∧ g' < w'.heap.size := by
    intro ad m news hnw hn hcell
    subst hnw
    obtain ⟨v', w', hr, hown, hgrow, hnil, _⟩ := run_append_own_at (P := Try.prog) w g 69 ty 33 i0 _ 3 24 Try.underlying69 hii hiz his hib rfl (by decide) _ n _ hrow ad m c (jvals f2 m) (jvals_len f2 m) hcell (jvals_one f2 m) (by unfold maxLen; omega) (by omega) (Nat.le_of_lt hrow.lt)
    have hup : Up g w.heap.size w w' := ⟨hgrow.os, hgrow.tape, hgrow.output, hgrow.size, fun k hk hne => hgrow.block k hk (by simpa [Value.ownBlock] using hne)⟩
    rcases hown.2 with ⟨h', _⟩ | ⟨g', cap', cur, rfl, hb, hg, h1, h2, h3, h4⟩
    · have := hnil.1 h'
      simp at this
    · exact ⟨g', cap', w', hr, RowI.rebase hown (jvals_glue f n f2 m).symm, hb, hup, (Array.getElem?_eq_some_iff.1 hg).1⟩
  cases A with
  | none =>
    have hm : m = 0 := by
      rcases hB with hB | ⟨b, off, ha, _⟩
      · exact hB
      · cases ha
    subst hm
    exact ⟨g, cap, w, run_app_none (P := Try.prog) g 69 ty 33 i0 3 c Try.underlying69 hii _ n _ hrow, RowI.rebase hrow (by rw [jvals_glue]; simp [jvals]), Nat.le_refl _, Up.refl _ _ _, hrow.lt⟩
  | some ad =>
    rcases hB with hB | ⟨b, off, ha, hlt, hc⟩
    · subst hB
      exact some_case ad 0 [] rfl hn (by simp)
    · cases ha
      exact some_case _ m _ rfl hn (jvals_cells hc)
theorem step_app_ins {ops : Array Oper} {o : Oper} {a : Act} {w : World} {K : Act → World → Prop} {Q : Exit → Act → World → Prop} {E : Prop} (hgd : o.guard = none) (s x : Operand)
    (ho : o.op = .call { callee := .builtin .append, args := #[s, x], argTypes := #[69, 69] }) (g cap n : Nat) (f : Nat → Inp) (A : Option Addr) (m c : Nat) (f2 : Nat → Inp)
    (hs : a.eval s = .slice (some ⟨g, 0, none⟩) n cap) (hrow : RowI w g cap n f) (hx : a.eval x = .slice A m c) (hB : InsAt w A m f2) (hn : n + m ≤ 1000)
    (h : ∀ g' cap' w', RowI w' g' cap' (n + m) (iglue f n f2) → g ≤ g' → Up g w.heap.size w w' → g' < w'.heap.size → K (a.put o.dst (.slice (some ⟨g', 0, none⟩) (n + m) cap')) w') : if Region.wanted o (yielded ops a.tmps) = true then Oper.wp Try.prog o a w K Q else E := by
  obtain ⟨g', cap', w', hr, h1, h2, h3, h4⟩ := run_app_ins o.type g cap n f hrow A m c f2 hB hn
  rw [if_pos (by simp [Region.wanted, hgd])]
  unfold Oper.wp execOp
  simp only [ho, resolve, invoke, builtin, Sem.run_bind, Sem.run_pure, Result.andThen_ok, List.map_toArray, List.map_cons, List.map_nil, hs, hx, hr]
  exact h g' cap' w' h1 h2 h3 h4
end Go.Proofs.Ytnhjalijnociaaa

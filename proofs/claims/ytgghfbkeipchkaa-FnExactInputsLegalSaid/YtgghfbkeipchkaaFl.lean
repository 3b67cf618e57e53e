/- Which inputs follow: of the program and of the reference. -/
import Derived.Test.YtgghfbkeipchkaaFo
set_option linter.unusedVariables false
set_option linter.unusedSimpArgs false
namespace Go.Proofs.Ytgghfbkeipchkaa
open Go.RowKit

/-- follows, in parts -/
def folB (x1 x2 : Bool) (t s p : Int) (b : Bool) : Bool := inpV s p b && !(b && x2) && !(p == 2 && x1) && inB (s - t) (-1) 1
theorem Lv.fol_eq (l : Lv) (t s p : Int) (b : Bool) : l.fol t ⟨s, p, b⟩ = folB (banB l.bans 1) (banB l.bans 2) t s p b := rfl
set_option maxRecDepth 100000 in
set_option maxHeartbeats 2000000 in
theorem iFollows (l : Lv) (t s p : Int) (b : Bool) (w : World) (h0 : 0 ≤ l.bans) (h3 : l.bans ≤ 3) (ht : -1 ≤ t) (ht2 : t ≤ 1) : Calls Try.prog 76 #[.agg #[.int .i64 l.id, .int .i64 l.ticks, .int .i64 l.sx, .int .i64 l.sy, .slice l.wa l.wn l.wc, .slice l.ga l.gn l.gc, .int .i64 l.flx, .int .i64 l.fly, .int .i64 l.fhx, .int .i64 l.fhy, .int .i64 l.bans], .int .i64 t, .agg #[.int .i64 s, .int .i64 p, .bool b]] w fun e w' => e = .returned (.bool (l.fol t ⟨s, p, b⟩)) ∧ Below w.heap.size w w' := by
  rw [Lv.fol_eq]
  generalize hx1 : banB l.bans 1 = x1
  generalize hx2 : banB l.bans 2 = x2
  go_enter Try.func76, Try.ntmps76
  go_wp2_with fail
  refine (iForbid l _ h0 h3).mono ?_
  rintro e w1 ⟨M, rfl, m1, hb1⟩
  rw [hx1, hx2] at m1
  have X1 : Blk w1 (w.heap.size + 1) #[.int .i64 s, .int .i64 p, .bool b] := (Blk.at (by simp)).below hb1 (by simp)
  have hB1 : Below w.heap.size w w1 := bstep (by (repeat (first | with_reducible assumption | with_reducible exact Below.refl _ _ | ((with_reducible refine Below.alloc ?_ ?_ _); rotate_left; · exact (by first | omega | (simp; done) | (simp; omega))) | ((with_reducible refine Below.setCell ?_ ?_ _); rotate_left; · exact (by first | omega | (simp; done) | (simp; omega))) | with_reducible refine Below.drew ?_ | assumption | exact Below.refl _ _ | refine Below.alloc ?_ (by first | omega | (simp; done) | (simp; omega)) _ | refine Below.setCell ?_ (by first | omega | (simp; done) | (simp; omega)) _ | refine Below.drew ?_))) (by first | omega | (simp; done) | (simp; omega)) hb1
  have c0 := X1.cell 0
  have c1 := X1.cell 1
  have c2 := X1.cell 2
  simp only [List.getElem?_toArray, List.getElem?_cons_zero, List.getElem?_cons_succ] at c0 c1 c2
  clear hx1 hx2 hb1
  go_wp2_with fail
  refine (iInpV s p b _).mono ?_
  rintro e w2 ⟨rfl, hb2⟩
  have X2 := X1.below hb2 X1.lt
  have m2 := m1.below hb2
  obtain ⟨lk1, lk2⟩ := m2.look
  have hB2 : Below w.heap.size w w2 := bstep hB1 hB1.size hb2
  have d0 := X2.cell 0
  have d1 := X2.cell 1
  have d2 := X2.cell 2
  simp only [List.getElem?_toArray, List.getElem?_cons_zero, List.getElem?_cons_succ] at d0 d1 d2
  clear c0 c1 c2 hb2 X1 m1 X2 m2
  cases hv : inpV s p b with
  | false =>
    go_wp2
    go_ret
    exact ⟨ret_bool (by simp [folB, hv]), hB2⟩
  | true =>
    obtain ⟨v1, v2, v3, v4, v5⟩ := inpV_bd hv
    clear v5
    have e1 : IntKind.i64.wrap (s - t) = s - t := IntWalk.i64_in _ (by omega)
    have hV := Lib.hid hv
    clear hv
    by_cases hp : p = 2
    · subst hp
      have hI := Lib.hid (show folB x1 x2 t s 2 b = (!(b && x2) && !x1 && inB (s - t) (-1) 1) by simp [folB, hV.out])
      cases b <;> cases x1 <;> cases x2
      all_goals
        first
        | (go_wp2; go_ret; exact ⟨ret_bool (by rw [hI.out]; rfl), hB2⟩)
        | (go_wp2_with fail
           refine (iIn _ _ _ _).mono ?_
           rintro e w' ⟨rfl, rfl⟩
           go_wp2
           go_ret
           exact ⟨ret_bool (by rw [hI.out]; rfl), hB2⟩)
    · have hpb : (p == 2) = false := by simpa using hp
      have hI := Lib.hid (show folB x1 x2 t s p b = (!(b && x2) && inB (s - t) (-1) 1) by simp [folB, hV.out, hpb])
      clear hp
      cases b <;> cases x2
      all_goals
        first
        | (go_wp2; go_ret; exact ⟨ret_bool (by rw [hI.out]; rfl), hB2⟩)
        | (go_wp2_with fail
           refine (iIn _ _ _ _).mono ?_
           rintro e w' ⟨rfl, rfl⟩
           go_wp2
           go_ret
           exact ⟨ret_bool (by rw [hI.out]; rfl), hB2⟩)
set_option maxRecDepth 100000 in
set_option maxHeartbeats 2000000 in
theorem sFollows (l : Lv) (t tp : Int) (tb : Bool) (s p : Int) (b : Bool) (w : World) (h0 : 0 ≤ l.bans) (h3 : l.bans ≤ 3) (ht : -1 ≤ t) (ht2 : t ≤ 1) : Calls Try.prog 77 #[.agg #[.int .i64 l.id, .int .i64 l.ticks, .int .i64 l.sx, .int .i64 l.sy, .slice l.wa l.wn l.wc, .slice l.ga l.gn l.gc, .int .i64 l.flx, .int .i64 l.fly, .int .i64 l.fhx, .int .i64 l.fhy, .int .i64 l.bans], .agg #[.int .i64 t, .int .i64 tp, .bool tb], .agg #[.int .i64 s, .int .i64 p, .bool b]] w fun e w' => e = .returned (.bool (l.fol t ⟨s, p, b⟩)) ∧ Below w.heap.size w w' := by
  rw [Lv.fol_eq]
  generalize hx1 : banB l.bans 1 = x1
  generalize hx2 : banB l.bans 2 = x2
  go_enter Try.func77, Try.ntmps77
  go_wp2_with fail
  refine (sInpV s p b _).mono ?_
  rintro e w1 ⟨rfl, hb1⟩
  have L1 : Blk w1 w.heap.size #[.int .i64 l.id, .int .i64 l.ticks, .int .i64 l.sx, .int .i64 l.sy, .slice l.wa l.wn l.wc, .slice l.ga l.gn l.gc, .int .i64 l.flx, .int .i64 l.fly, .int .i64 l.fhx, .int .i64 l.fhy, .int .i64 l.bans] := (((Blk.at rfl).alloc _).alloc _).below hb1 (by simp; omega)
  have Y1 : Blk w1 (w.heap.size + 1) #[.int .i64 t, .int .i64 tp, .bool tb] := ((Blk.at (by simp)).alloc _).below hb1 (by simp)
  have X1 : Blk w1 (w.heap.size + 1 + 1) #[.int .i64 s, .int .i64 p, .bool b] := (Blk.at (by simp)).below hb1 (by simp)
  have hB1 : Below w.heap.size w w1 := bstep (by (repeat (first | with_reducible assumption | with_reducible exact Below.refl _ _ | ((with_reducible refine Below.alloc ?_ ?_ _); rotate_left; · exact (by first | omega | (simp; done) | (simp; omega))) | ((with_reducible refine Below.setCell ?_ ?_ _); rotate_left; · exact (by first | omega | (simp; done) | (simp; omega))) | with_reducible refine Below.drew ?_ | assumption | exact Below.refl _ _ | refine Below.alloc ?_ (by first | omega | (simp; done) | (simp; omega)) _ | refine Below.setCell ?_ (by first | omega | (simp; done) | (simp; omega)) _ | refine Below.drew ?_))) (by first | omega | (simp; done) | (simp; omega)) hb1
  clear hb1
  cases hv : inpV s p b with
  | false =>
    go_wp2
    go_ret
    exact ⟨ret_bool (by simp [folB, hv]), hB1⟩
  | true =>
    obtain ⟨v1, v2, v3, v4, v5⟩ := inpV_bd hv
    clear v5
    have e1 : IntKind.i64.wrap (s - t) = s - t := IntWalk.i64_in _ (by omega)
    have hI := Lib.hid (show folB x1 x2 t s p b = (!(b && x2) && !(p == 2 && x1) && inB (s - t) (-1) 1) by simp [folB, hv])
    clear hv
    (try clear q0 q1 q2 q3 q4 q5 q6 q7 q8 q9 q10); obtain ⟨q0, q1, q2, q3, q4, q5, q6, q7, q8, q9, q10⟩ := L1.c11
    have y0 := Y1.cell 0
    have c0 := X1.cell 0
    have c1 := X1.cell 1
    have c2 := X1.cell 2
    simp only [List.getElem?_toArray, List.getElem?_cons_zero, List.getElem?_cons_succ] at y0 c0 c1 c2
    cases b with
    | false =>
      by_cases hp : p = 2
      · subst hp
        go_wp2_with fail
        refine (sBans l 1 _ h0 h3 (by simp)).mono ?_
        rw [hx1]
        rintro e w2 ⟨rfl, hb2⟩
        have L2 := L1.below hb2 L1.lt
        have Y2 := Y1.below hb2 Y1.lt
        have X2 := X1.below hb2 X1.lt
        have hB2 : Below w.heap.size w w2 := bstep hB1 hB1.size hb2
        clear y0 c0 c1 c2
        (try clear q0 q1 q2 q3 q4 q5 q6 q7 q8 q9 q10); obtain ⟨q0, q1, q2, q3, q4, q5, q6, q7, q8, q9, q10⟩ := L2.c11
        have y0 := Y2.cell 0
        have c0 := X2.cell 0
        have c1 := X2.cell 1
        have c2 := X2.cell 2
        simp only [List.getElem?_toArray, List.getElem?_cons_zero, List.getElem?_cons_succ] at y0 c0 c1 c2
        cases x1 with
        | true =>
          go_wp2
          go_ret
          exact ⟨ret_bool (by rw [hI.out]; simp), hB2⟩
        | false =>
          go_wp2_with fail
          refine (sIn _ _ _ _).mono ?_
          rintro e w' ⟨rfl, rfl⟩
          go_wp2
          go_ret
          exact ⟨ret_bool (by rw [hI.out]; simp), hB2⟩
      · have hpb : (p == 2) = false := by simpa using hp
        clear hp
        go_wp2_with fail
        refine (sIn _ _ _ _).mono ?_
        rintro e w' ⟨rfl, rfl⟩
        go_wp2
        go_ret
        exact ⟨ret_bool (by rw [hI.out]; simp [hpb]), hB1⟩
    | true =>
      go_wp2_with fail
      refine (sBans l 2 _ h0 h3 (by simp)).mono ?_
      rw [hx2]
      rintro e w2 ⟨rfl, hb2⟩
      have L2 := L1.below hb2 L1.lt
      have Y2 := Y1.below hb2 Y1.lt
      have X2 := X1.below hb2 X1.lt
      have hB2 : Below w.heap.size w w2 := bstep hB1 hB1.size hb2
      clear y0 c0 c1 c2
      (try clear q0 q1 q2 q3 q4 q5 q6 q7 q8 q9 q10); obtain ⟨q0, q1, q2, q3, q4, q5, q6, q7, q8, q9, q10⟩ := L2.c11
      have y0 := Y2.cell 0
      have c0 := X2.cell 0
      have c1 := X2.cell 1
      have c2 := X2.cell 2
      simp only [List.getElem?_toArray, List.getElem?_cons_zero, List.getElem?_cons_succ] at y0 c0 c1 c2
      cases x2 with
      | true =>
        go_wp2
        go_ret
        exact ⟨ret_bool (by rw [hI.out]; simp), hB2⟩
      | false =>
        by_cases hp : p = 2
        · subst hp
          go_wp2_with fail
          refine (sBans l 1 _ h0 h3 (by simp)).mono ?_
          rw [hx1]
          rintro e w3 ⟨rfl, hb3⟩
          have L3 := L2.below hb3 L2.lt
          have Y3 := Y2.below hb3 Y2.lt
          have X3 := X2.below hb3 X2.lt
          have hB3 : Below w.heap.size w w3 := bstep hB2 hB2.size hb3
          clear y0 c0 c1 c2
          (try clear q0 q1 q2 q3 q4 q5 q6 q7 q8 q9 q10); obtain ⟨q0, q1, q2, q3, q4, q5, q6, q7, q8, q9, q10⟩ := L3.c11
          have y0 := Y3.cell 0
          have c0 := X3.cell 0
          have c1 := X3.cell 1
          have c2 := X3.cell 2
          simp only [List.getElem?_toArray, List.getElem?_cons_zero, List.getElem?_cons_succ] at y0 c0 c1 c2
          cases x1 with
          | true =>
            go_wp2
            go_ret
            exact ⟨ret_bool (by rw [hI.out]; simp), hB3⟩
          | false =>
            go_wp2_with fail
            refine (sIn _ _ _ _).mono ?_
            rintro e w' ⟨rfl, rfl⟩
            go_wp2
            go_ret
            exact ⟨ret_bool (by rw [hI.out]; simp), hB3⟩
        · have hpb : (p == 2) = false := by simpa using hp
          clear hp
          go_wp2_with fail
          refine (sIn _ _ _ _).mono ?_
          rintro e w' ⟨rfl, rfl⟩
          go_wp2
          go_ret
          exact ⟨ret_bool (by rw [hI.out]; simp [hpb]), hB2⟩
end Go.Proofs.Ytgghfbkeipchkaa

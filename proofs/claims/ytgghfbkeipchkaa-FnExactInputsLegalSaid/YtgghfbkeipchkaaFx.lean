/- Which inputs follow: the functions of both sides, the walk of FnExactInputFollows. -/
import Derived.Test.YtgghfbkeipchkaaFl
import Derived.Test.YtgghfbkeipchkaaTp
import Derived.Test.YtgghfbkeipchkaaLx
set_option linter.unusedVariables false
set_option linter.unusedSimpArgs false
namespace Go.Proofs.Ytgghfbkeipchkaa
open Go.RowKit

theorem folV_eq (l : Lv) (t tp : Int) (tb : Bool) (s p : Int) (b : Bool) : l.folV ⟨t, tp, tb⟩ ⟨s, p, b⟩ = (l.ok && inpV t tp tb && l.fol t ⟨s, p, b⟩) := rfl
theorem Lv.ok_num2 {l : Lv} (h : l.ok = true) : (0 ≤ l.id ∧ l.id ≤ 99) ∧ (1 ≤ l.ticks ∧ l.ticks ≤ 60) ∧ (0 ≤ l.bans ∧ l.bans ≤ 3) ∧ bxB l.flx l.fly l.fhx l.fhy = true := by
  simp only [Lv.ok, Bool.and_eq_true] at h
  obtain ⟨⟨⟨⟨⟨⟨⟨⟨⟨h1, h2⟩, h3⟩, _⟩, _⟩, _⟩, _⟩, h8⟩, h9⟩, _⟩ := h
  exact ⟨inB_true h1, inB_true h2, inB_true h9, h8⟩
set_option maxRecDepth 100000 in
set_option maxHeartbeats 2000000 in
theorem iInputFollows (l : Lv) (t tp : Int) (tb : Bool) (s p : Int) (b : Bool) (w : World) (hl : LvAt w l) : Calls Try.prog 37 #[.agg #[.int .i64 l.id, .int .i64 l.ticks, .int .i64 l.sx, .int .i64 l.sy, .slice l.wa l.wn l.wc, .slice l.ga l.gn l.gc, .int .i64 l.flx, .int .i64 l.fly, .int .i64 l.fhx, .int .i64 l.fhy, .int .i64 l.bans], .agg #[.int .i64 t, .int .i64 tp, .bool tb], .agg #[.int .i64 s, .int .i64 p, .bool b]] w fun e w' => e = .returned (.bool (l.folV ⟨t, tp, tb⟩ ⟨s, p, b⟩)) ∧ Below w.heap.size w w' := by
  go_enter Try.func37, Try.ntmps37
  go_wp2_with fail
  refine (iLevelValid l _  (hl.keep (by (repeat (first | with_reducible assumption | with_reducible exact Below.refl _ _ | ((with_reducible refine Below.alloc ?_ ?_ _); rotate_left; · exact (by first | omega | (simp; done) | (simp; omega))) | ((with_reducible refine Below.setCell ?_ ?_ _); rotate_left; · exact (by first | omega | (simp; done) | (simp; omega))) | with_reducible refine Below.drew ?_ | assumption | exact Below.refl _ _ | refine Below.alloc ?_ (by first | omega | (simp; done) | (simp; omega)) _ | refine Below.setCell ?_ (by first | omega | (simp; done) | (simp; omega)) _ | refine Below.drew ?_))))).mono ?_
  rintro e w1 ⟨rfl, hb1⟩
  have L1 : Blk w1 w.heap.size #[.int .i64 l.id, .int .i64 l.ticks, .int .i64 l.sx, .int .i64 l.sy, .slice l.wa l.wn l.wc, .slice l.ga l.gn l.gc, .int .i64 l.flx, .int .i64 l.fly, .int .i64 l.fhx, .int .i64 l.fhy, .int .i64 l.bans] := (((Blk.at rfl).alloc _).alloc _).below hb1 (by simp; omega)
  have Y1 : Blk w1 (w.heap.size + 1) #[.int .i64 t, .int .i64 tp, .bool tb] := ((Blk.at (by simp)).alloc _).below hb1 (by simp)
  have X1 : Blk w1 (w.heap.size + 1 + 1) #[.int .i64 s, .int .i64 p, .bool b] := (Blk.at (by simp)).below hb1 (by simp)
  have hB1 : Below w.heap.size w w1 := bstep (by (repeat (first | with_reducible assumption | with_reducible exact Below.refl _ _ | ((with_reducible refine Below.alloc ?_ ?_ _); rotate_left; · exact (by first | omega | (simp; done) | (simp; omega))) | ((with_reducible refine Below.setCell ?_ ?_ _); rotate_left; · exact (by first | omega | (simp; done) | (simp; omega))) | with_reducible refine Below.drew ?_ | assumption | exact Below.refl _ _ | refine Below.alloc ?_ (by first | omega | (simp; done) | (simp; omega)) _ | refine Below.setCell ?_ (by first | omega | (simp; done) | (simp; omega)) _ | refine Below.drew ?_))) (by first | omega | (simp; done) | (simp; omega)) hb1
  clear hb1
  have y0 := Y1.cell 0
  have y1 := Y1.cell 1
  have y2 := Y1.cell 2
  simp only [List.getElem?_toArray, List.getElem?_cons_zero, List.getElem?_cons_succ] at y0 y1 y2
  cases hk : l.ok with
  | false =>
    go_wp2
    go_ret
    exact ⟨ret_bool (by simp [folV_eq, hk]), hB1⟩
  | true =>
    obtain ⟨_, _, ⟨n0, n3⟩, _⟩ := Lv.ok_num2 hk
    have hK := Lib.hid hk
    clear hk
    go_wp2_with fail
    refine (iInpV t tp tb _).mono ?_
    rintro e w2 ⟨rfl, hb2⟩
    have L2 := L1.below hb2 L1.lt
    have Y2 := Y1.below hb2 Y1.lt
    have X2 := X1.below hb2 X1.lt
    have hB2 : Below w.heap.size w w2 := bstep hB1 hB1.size hb2
    clear y0 y1 y2 hb2
    (try clear q0 q1 q2 q3 q4 q5 q6 q7 q8 q9 q10); obtain ⟨q0, q1, q2, q3, q4, q5, q6, q7, q8, q9, q10⟩ := L2.c11
    have y0 := Y2.cell 0
    have y1 := Y2.cell 1
    have y2 := Y2.cell 2
    have c0 := X2.cell 0
    have c1 := X2.cell 1
    have c2 := X2.cell 2
    simp only [List.getElem?_toArray, List.getElem?_cons_zero, List.getElem?_cons_succ] at y0 y1 y2 c0 c1 c2
    cases hv : inpV t tp tb with
    | false =>
      go_wp2
      go_ret
      exact ⟨ret_bool (by simp [folV_eq, hv]), hB2⟩
    | true =>
      obtain ⟨v1, v2, v3, v4, v5⟩ := inpV_bd hv
      have hI := Lib.hid (show l.folV ⟨t, tp, tb⟩ ⟨s, p, b⟩ = l.fol t ⟨s, p, b⟩ by rw [folV_eq, hK.out, hv]; rfl)
      clear v3 v4 v5 hv
      go_wp2_with fail
      refine (iFollows l t s p b _ n0 n3 v1 v2).mono ?_
      rintro e w3 ⟨rfl, hb3⟩
      have hB3 : Below w.heap.size w w3 := bstep hB2 hB2.size hb3
      go_wp2
      go_ret
      exact ⟨ret_bool hI.out.symm, hB3⟩
set_option maxRecDepth 100000 in
set_option maxHeartbeats 2000000 in
theorem sInputFollows (l : Lv) (t tp : Int) (tb : Bool) (s p : Int) (b : Bool) (w : World) (hn1 : l.wn ≤ 1099511627776) (hn2 : l.gn ≤ 1099511627776) (hl : LvAt w l) : Calls Try.prog 38 #[.agg #[.int .i64 l.id, .int .i64 l.ticks, .int .i64 l.sx, .int .i64 l.sy, .slice l.wa l.wn l.wc, .slice l.ga l.gn l.gc, .int .i64 l.flx, .int .i64 l.fly, .int .i64 l.fhx, .int .i64 l.fhy, .int .i64 l.bans], .agg #[.int .i64 t, .int .i64 tp, .bool tb], .agg #[.int .i64 s, .int .i64 p, .bool b]] w fun e w' => e = .returned (.bool (l.folV ⟨t, tp, tb⟩ ⟨s, p, b⟩)) ∧ Below w.heap.size w w' := by
  go_enter Try.func38, Try.ntmps38
  go_wp2_with fail
  refine (sLevelValid l _ hn1 hn2 (hl.keep (by (repeat (first | with_reducible assumption | with_reducible exact Below.refl _ _ | ((with_reducible refine Below.alloc ?_ ?_ _); rotate_left; · exact (by first | omega | (simp; done) | (simp; omega))) | ((with_reducible refine Below.setCell ?_ ?_ _); rotate_left; · exact (by first | omega | (simp; done) | (simp; omega))) | with_reducible refine Below.drew ?_ | assumption | exact Below.refl _ _ | refine Below.alloc ?_ (by first | omega | (simp; done) | (simp; omega)) _ | refine Below.setCell ?_ (by first | omega | (simp; done) | (simp; omega)) _ | refine Below.drew ?_))))).mono ?_
  rintro e w1 ⟨rfl, hb1⟩
  have L1 : Blk w1 w.heap.size #[.int .i64 l.id, .int .i64 l.ticks, .int .i64 l.sx, .int .i64 l.sy, .slice l.wa l.wn l.wc, .slice l.ga l.gn l.gc, .int .i64 l.flx, .int .i64 l.fly, .int .i64 l.fhx, .int .i64 l.fhy, .int .i64 l.bans] := (((Blk.at rfl).alloc _).alloc _).below hb1 (by simp; omega)
  have Y1 : Blk w1 (w.heap.size + 1) #[.int .i64 t, .int .i64 tp, .bool tb] := ((Blk.at (by simp)).alloc _).below hb1 (by simp)
  have X1 : Blk w1 (w.heap.size + 1 + 1) #[.int .i64 s, .int .i64 p, .bool b] := (Blk.at (by simp)).below hb1 (by simp)
  have hB1 : Below w.heap.size w w1 := bstep (by (repeat (first | with_reducible assumption | with_reducible exact Below.refl _ _ | ((with_reducible refine Below.alloc ?_ ?_ _); rotate_left; · exact (by first | omega | (simp; done) | (simp; omega))) | ((with_reducible refine Below.setCell ?_ ?_ _); rotate_left; · exact (by first | omega | (simp; done) | (simp; omega))) | with_reducible refine Below.drew ?_ | assumption | exact Below.refl _ _ | refine Below.alloc ?_ (by first | omega | (simp; done) | (simp; omega)) _ | refine Below.setCell ?_ (by first | omega | (simp; done) | (simp; omega)) _ | refine Below.drew ?_))) (by first | omega | (simp; done) | (simp; omega)) hb1
  clear hb1
  have y0 := Y1.cell 0
  have y1 := Y1.cell 1
  have y2 := Y1.cell 2
  simp only [List.getElem?_toArray, List.getElem?_cons_zero, List.getElem?_cons_succ] at y0 y1 y2
  cases hk : l.ok with
  | false =>
    go_wp2
    go_ret
    exact ⟨ret_bool (by simp [folV_eq, hk]), hB1⟩
  | true =>
    obtain ⟨_, _, ⟨n0, n3⟩, _⟩ := Lv.ok_num2 hk
    have hK := Lib.hid hk
    clear hk
    go_wp2_with fail
    refine (sInpV t tp tb _).mono ?_
    rintro e w2 ⟨rfl, hb2⟩
    have L2 := L1.below hb2 L1.lt
    have Y2 := Y1.below hb2 Y1.lt
    have X2 := X1.below hb2 X1.lt
    have hB2 : Below w.heap.size w w2 := bstep hB1 hB1.size hb2
    clear y0 y1 y2 hb2
    (try clear q0 q1 q2 q3 q4 q5 q6 q7 q8 q9 q10); obtain ⟨q0, q1, q2, q3, q4, q5, q6, q7, q8, q9, q10⟩ := L2.c11
    have y0 := Y2.cell 0
    have y1 := Y2.cell 1
    have y2 := Y2.cell 2
    have c0 := X2.cell 0
    have c1 := X2.cell 1
    have c2 := X2.cell 2
    simp only [List.getElem?_toArray, List.getElem?_cons_zero, List.getElem?_cons_succ] at y0 y1 y2 c0 c1 c2
    cases hv : inpV t tp tb with
    | false =>
      go_wp2
      go_ret
      exact ⟨ret_bool (by simp [folV_eq, hv]), hB2⟩
    | true =>
      obtain ⟨v1, v2, v3, v4, v5⟩ := inpV_bd hv
      have hI := Lib.hid (show l.folV ⟨t, tp, tb⟩ ⟨s, p, b⟩ = l.fol t ⟨s, p, b⟩ by rw [folV_eq, hK.out, hv]; rfl)
      clear v3 v4 v5 hv
      go_wp2_with fail
      refine (sFollows l t tp tb s p b _ n0 n3 v1 v2).mono ?_
      rintro e w3 ⟨rfl, hb3⟩
      have hB3 : Below w.heap.size w w3 := bstep hB2 hB2.size hb3
      go_wp2
      go_ret
      exact ⟨ret_bool hI.out.symm, hB3⟩
/-- the law's three arguments in memory -/
structure XI (w0 : World) (l : Lv) (t tp : Int) (tb : Bool) (s p : Int) (b : Bool) (w : World) : Prop where
  L : Blk w w0.heap.size #[.int .i64 l.id, .int .i64 l.ticks, .int .i64 l.sx, .int .i64 l.sy, .slice l.wa l.wn l.wc, .slice l.ga l.gn l.gc, .int .i64 l.flx, .int .i64 l.fly, .int .i64 l.fhx, .int .i64 l.fhy, .int .i64 l.bans]
  Y : Blk w (w0.heap.size + 1) #[.int .i64 t, .int .i64 tp, .bool tb]
  X : Blk w (w0.heap.size + 1 + 1) #[.int .i64 s, .int .i64 p, .bool b]
  bel : Below w0.heap.size w0 w
  lv : LvAt w l
section
variable {w0 w w' : World} {l : Lv} {t tp : Int} {tb : Bool} {s p : Int} {b : Bool}
theorem XI.pass (h : XI w0 l t tp tb s p b w) (hb : Below w.heap.size w w') : XI w0 l t tp tb s p b w' := ⟨h.L.below hb h.L.lt, h.Y.below hb h.Y.lt, h.X.below hb h.X.lt, h.bel.trans (hb.mono h.bel.size), h.lv.keep hb⟩
theorem XI.alloc (h : XI w0 l t tp tb s p b w) (o : Obj) : XI w0 l t tp tb s p b (w.alloc o) := h.pass ((Below.refl _ _).alloc (Nat.le_refl _) o)
theorem XI.drew (h : XI w0 l t tp tb s p b w) : XI w0 l t tp tb s p b w.drew := ⟨h.L, h.Y, h.X, h.bel.drew, h.lv⟩
theorem XI.cells {W : World} (h : XI w0 l t tp tb s p b W) : (W.cell? ⟨w0.heap.size, 0, none⟩ = some (.int .i64 l.id) ∧ W.cell? ⟨w0.heap.size, 1, none⟩ = some (.int .i64 l.ticks) ∧ W.cell? ⟨w0.heap.size, 2, none⟩ = some (.int .i64 l.sx) ∧ W.cell? ⟨w0.heap.size, 3, none⟩ = some (.int .i64 l.sy) ∧ W.cell? ⟨w0.heap.size, 4, none⟩ = some (.slice l.wa l.wn l.wc) ∧ W.cell? ⟨w0.heap.size, 5, none⟩ = some (.slice l.ga l.gn l.gc) ∧ W.cell? ⟨w0.heap.size, 6, none⟩ = some (.int .i64 l.flx) ∧ W.cell? ⟨w0.heap.size, 7, none⟩ = some (.int .i64 l.fly) ∧ W.cell? ⟨w0.heap.size, 8, none⟩ = some (.int .i64 l.fhx) ∧ W.cell? ⟨w0.heap.size, 9, none⟩ = some (.int .i64 l.fhy) ∧ W.cell? ⟨w0.heap.size, 10, none⟩ = some (.int .i64 l.bans)) ∧ (W.cell? ⟨w0.heap.size + 1, 0, none⟩ = some (.int .i64 t) ∧ W.cell? ⟨w0.heap.size + 1, 1, none⟩ = some (.int .i64 tp) ∧ W.cell? ⟨w0.heap.size + 1, 2, none⟩ = some (.bool tb)) ∧ (W.cell? ⟨w0.heap.size + 1 + 1, 0, none⟩ = some (.int .i64 s) ∧ W.cell? ⟨w0.heap.size + 1 + 1, 1, none⟩ = some (.int .i64 p) ∧ W.cell? ⟨w0.heap.size + 1 + 1, 2, none⟩ = some (.bool b)) := ⟨h.L.c11, ⟨h.Y.cell 0, h.Y.cell 1, h.Y.cell 2⟩, ⟨h.X.cell 0, h.X.cell 1, h.X.cell 2⟩⟩
end
theorem re_folV (l : Lv) (wa : Option Addr) (wc : Nat) (ga : Option Addr) (gc : Nat) (x y : Inp) : (l.re wa wc ga gc).folV x y = l.folV x y := rfl
set_option maxRecDepth 100000 in
set_option maxHeartbeats 4000000 in
theorem lawExInputFollows (l : Lv) (t tp : Int) (tb : Bool) (s p : Int) (b : Bool) (w : World) (h : LvIn w l) (_ : (Lit.int .i64 t).wf = true) (_ : (Lit.int .i64 tp).wf = true) (_ : (Lit.int .i64 s).wf = true) (_ : (Lit.int .i64 p).wf = true) : Calls Try.prog 15 #[.agg #[.int .i64 l.id, .int .i64 l.ticks, .int .i64 l.sx, .int .i64 l.sy, .slice l.wa l.wn l.wc, .slice l.ga l.gn l.gc, .int .i64 l.flx, .int .i64 l.fly, .int .i64 l.fhx, .int .i64 l.fhy, .int .i64 l.bans], .agg #[.int .i64 t, .int .i64 tp, .bool tb], .agg #[.int .i64 s, .int .i64 p, .bool b]] w fun e w' => e = .returned (.bool true) ∧ Below w.heap.size w w' := by
  obtain ⟨hl, h1, h2⟩ := h
  by_cases hs : l.wn + l.gn ≤ 1048576
  · go_enter Try.func15, Try.ntmps15
    go_wp2_with fail
    refine (szLevel_any l _ (by unfold maxLen at h1; omega) (by unfold maxLen at h2; omega)).mono ?_
    rintro e w1 ⟨⟨z1, rfl, hz⟩, hb1⟩
    rw [if_pos hs] at hz
    subst hz
    have I1 : XI w l t tp tb s p b w1 := XI.pass (w := ((w.alloc (.cells #[.int .i64 l.id, .int .i64 l.ticks, .int .i64 l.sx, .int .i64 l.sy, .slice l.wa l.wn l.wc, .slice l.ga l.gn l.gc, .int .i64 l.flx, .int .i64 l.fly, .int .i64 l.fhx, .int .i64 l.fhy, .int .i64 l.bans] 61)).alloc (.cells #[.int .i64 t, .int .i64 tp, .bool tb] 62)).alloc (.cells #[.int .i64 s, .int .i64 p, .bool b] 62))
      ⟨((Blk.at rfl).alloc _).alloc _, (Blk.at (by simp)).alloc _, Blk.at (by simp), by (repeat (first | with_reducible assumption | with_reducible exact Below.refl _ _ | ((with_reducible refine Below.alloc ?_ ?_ _); rotate_left; · exact (by first | omega | (simp; done) | (simp; omega))) | ((with_reducible refine Below.setCell ?_ ?_ _); rotate_left; · exact (by first | omega | (simp; done) | (simp; omega))) | with_reducible refine Below.drew ?_ | assumption | exact Below.refl _ _ | refine Below.alloc ?_ (by first | omega | (simp; done) | (simp; omega)) _ | refine Below.setCell ?_ (by first | omega | (simp; done) | (simp; omega)) _ | refine Below.drew ?_)), hl.keep (by (repeat (first | with_reducible assumption | with_reducible exact Below.refl _ _ | ((with_reducible refine Below.alloc ?_ ?_ _); rotate_left; · exact (by first | omega | (simp; done) | (simp; omega))) | ((with_reducible refine Below.setCell ?_ ?_ _); rotate_left; · exact (by first | omega | (simp; done) | (simp; omega))) | with_reducible refine Below.drew ?_ | assumption | exact Below.refl _ _ | refine Below.alloc ?_ (by first | omega | (simp; done) | (simp; omega)) _ | refine Below.setCell ?_ (by first | omega | (simp; done) | (simp; omega)) _ | refine Below.drew ?_)))⟩ hb1
    have D1 := I1.drew
    go_wp2_with fail
    refine wp_region_cut 7 (by kernel_rfl) (by kernel_rfl) (S := fun W => (W.cell? ⟨w.heap.size, 0, none⟩ = some (.int .i64 l.id) ∧ W.cell? ⟨w.heap.size, 1, none⟩ = some (.int .i64 l.ticks) ∧ W.cell? ⟨w.heap.size, 2, none⟩ = some (.int .i64 l.sx) ∧ W.cell? ⟨w.heap.size, 3, none⟩ = some (.int .i64 l.sy) ∧ W.cell? ⟨w.heap.size, 4, none⟩ = some (.slice l.wa l.wn l.wc) ∧ W.cell? ⟨w.heap.size, 5, none⟩ = some (.slice l.ga l.gn l.gc) ∧ W.cell? ⟨w.heap.size, 6, none⟩ = some (.int .i64 l.flx) ∧ W.cell? ⟨w.heap.size, 7, none⟩ = some (.int .i64 l.fly) ∧ W.cell? ⟨w.heap.size, 8, none⟩ = some (.int .i64 l.fhx) ∧ W.cell? ⟨w.heap.size, 9, none⟩ = some (.int .i64 l.fhy) ∧ W.cell? ⟨w.heap.size, 10, none⟩ = some (.int .i64 l.bans)) ∧ (W.cell? ⟨w.heap.size + 1, 0, none⟩ = some (.int .i64 t) ∧ W.cell? ⟨w.heap.size + 1, 1, none⟩ = some (.int .i64 tp) ∧ W.cell? ⟨w.heap.size + 1, 2, none⟩ = some (.bool tb)) ∧ (W.cell? ⟨w.heap.size + 1 + 1, 0, none⟩ = some (.int .i64 s) ∧ W.cell? ⟨w.heap.size + 1 + 1, 1, none⟩ = some (.int .i64 p) ∧ W.cell? ⟨w.heap.size + 1 + 1, 2, none⟩ = some (.bool b))) D1.cells (fun hHeld => ?_)
    simp only [List.take_succ_cons, List.take_zero]
    (refine wpAnyH_take (i := 0) (v := ?_) rfl (by kernel_rfl) (by kernel_rfl) (by kernel_rfl) (fun _ _ _ h => h) (Or.inl ⟨by rfl, ?_⟩) (by assumption) ?_; rotate_left; · (intro w hSw; (try dsimp only at hSw); go_simp; (try with_reducible rfl))); (try simp only [Act.put, List.setIfInBounds_toArray, List.set_cons_zero, List.set_cons_succ])
    (refine wpAnyH_take (i := 2) (v := ?_) rfl (by kernel_rfl) (by kernel_rfl) (by kernel_rfl) (fun _ _ _ h => h) (Or.inl ⟨by rfl, ?_⟩) (by assumption) ?_; rotate_left; · (intro w hSw; (try dsimp only at hSw); go_simp; (try with_reducible rfl))); (try simp only [Act.put, List.setIfInBounds_toArray, List.set_cons_zero, List.set_cons_succ])
    (refine wpAnyH_take (i := 4) (v := ?_) rfl (by kernel_rfl) (by kernel_rfl) (by kernel_rfl) (fun _ _ _ h => h) (Or.inl ⟨by rfl, ?_⟩) (by assumption) ?_; rotate_left; · (intro w hSw; (try dsimp only at hSw); go_simp; (try with_reducible rfl))); (try simp only [Act.put, List.setIfInBounds_toArray, List.set_cons_zero, List.set_cons_succ])
    refine wpAnyH_ready (rs := [1]) (by kernel_rfl) (by simp) ?_; refine AllReadyH.cons rfl (fun K hK => ?_) AllReadyH.nil; (try simp only [List.getElem_toArray, List.getElem_cons_succ, List.getElem_cons_zero])
    go_simp
    go_at_call 42
    refine (toLevel_any l _ (by omega) (by omega) D1.lv).mono ?_
    rintro e w2 ⟨wa2, wc2, ga2, gc2, rfl, hl2, hb2⟩
    have I2 := D1.pass hb2
    go_wp2_with fail
    refine hK.out _ _ (I2.cells) (fun hHeld => ?_); clear hK K; (try simp only [Act.put, List.setIfInBounds_toArray, List.set_cons_zero, List.set_cons_succ])
    refine wpAnyH_ready (rs := [3]) (by kernel_rfl) (by simp) ?_; refine AllReadyH.cons rfl (fun K hK => ?_) AllReadyH.nil; (try simp only [List.getElem_toArray, List.getElem_cons_succ, List.getElem_cons_zero])
    go_simp
    go_at_call 43
    refine (toInp t tp tb _).mono ?_
    rintro e w3 ⟨rfl, hb3⟩
    have I3 := I2.pass hb3
    have hl3 := hl2.keep hb3
    go_wp2_with fail
    refine hK.out _ _ (I3.cells) (fun hHeld => ?_); clear hK K; (try simp only [Act.put, List.setIfInBounds_toArray, List.set_cons_zero, List.set_cons_succ])
    refine wpAnyH_ready (rs := [5]) (by kernel_rfl) (by simp) ?_; refine AllReadyH.cons rfl (fun K hK => ?_) AllReadyH.nil; (try simp only [List.getElem_toArray, List.getElem_cons_succ, List.getElem_cons_zero])
    go_simp
    go_at_call 43
    refine (toInp s p b _).mono ?_
    rintro e w4 ⟨rfl, hb4⟩
    have I4 := I3.pass hb4
    have hl4 := hl3.keep hb4
    go_wp2_with fail
    refine hK.out _ _ (I4.cells) (fun hHeld => ?_); clear hK K; (try simp only [Act.put, List.setIfInBounds_toArray, List.set_cons_zero, List.set_cons_succ])
    refine wpAnyH_ready (rs := [6]) (by kernel_rfl) (by simp) ?_; refine AllReadyH.cons rfl (fun K hK => ?_) AllReadyH.nil; (try simp only [List.getElem_toArray, List.getElem_cons_succ, List.getElem_cons_zero])
    go_simp
    go_at_call 38
    refine (sInputFollows (l.re wa2 wc2 ga2 gc2) t tp tb s p b _ (by simp only; omega) (by simp only; omega) hl4).mono ?_
    rintro e w5 ⟨rfl, hb5⟩
    have I5 := I4.pass hb5
    go_wp2_with fail
    refine hK.out _ _ (I5.cells) (fun hHeld => ?_); clear hK K; (try simp only [Act.put, List.setIfInBounds_toArray, List.set_cons_zero, List.set_cons_succ])
    refine wpAnyH_done (by kernel_rfl) ?_ _
    simp only [TailQ, List.drop_succ_cons, List.drop_zero]
    rw [re_folV]
    clear hHeld hb1 hb2 hb3 hb4 hb5 I1 D1 I2 I3 I4 hl2 hl3 hl4
    generalize hF : l.folV ⟨t, tp, tb⟩ ⟨s, p, b⟩ = F
    obtain ⟨⟨q0, q1, q2, q3, q4, q5, q6, q7, q8, q9, q10⟩, _, _⟩ := I5.cells
    go_wp2_with fail
    refine (toLevel_any l _ (by omega) (by omega) I5.lv).mono ?_
    rintro e w6 ⟨wa6, wc6, ga6, gc6, rfl, hl6, hb6⟩
    have I6 := I5.pass hb6
    have I7 := (I6.alloc (.cells #[.int .i64 l.id, .int .i64 l.ticks, .int .i64 l.sx, .int .i64 l.sy, .slice wa6 l.wn wc6, .slice ga6 l.gn gc6, .int .i64 l.flx, .int .i64 l.fly, .int .i64 l.fhx, .int .i64 l.fhy, .int .i64 l.bans] 37)).drew
    have J7 : Blk (w6.alloc (.cells #[.int .i64 l.id, .int .i64 l.ticks, .int .i64 l.sx, .int .i64 l.sy, .slice wa6 l.wn wc6, .slice ga6 l.gn gc6, .int .i64 l.flx, .int .i64 l.fly, .int .i64 l.fhx, .int .i64 l.fhy, .int .i64 l.bans] 37)).drew w6.heap.size #[.int .i64 l.id, .int .i64 l.ticks, .int .i64 l.sx, .int .i64 l.sy, .slice wa6 l.wn wc6, .slice ga6 l.gn gc6, .int .i64 l.flx, .int .i64 l.fly, .int .i64 l.fhx, .int .i64 l.fhy, .int .i64 l.bans] := (show Blk (w6.alloc (.cells #[.int .i64 l.id, .int .i64 l.ticks, .int .i64 l.sx, .int .i64 l.sy, .slice wa6 l.wn wc6, .slice ga6 l.gn gc6, .int .i64 l.flx, .int .i64 l.fly, .int .i64 l.fhx, .int .i64 l.fhy, .int .i64 l.bans] 37)) w6.heap.size #[.int .i64 l.id, .int .i64 l.ticks, .int .i64 l.sx, .int .i64 l.sy, .slice wa6 l.wn wc6, .slice ga6 l.gn gc6, .int .i64 l.flx, .int .i64 l.fly, .int .i64 l.fhx, .int .i64 l.fhy, .int .i64 l.bans] from Blk.at rfl)
    have hl7 : LvAt (w6.alloc (.cells #[.int .i64 l.id, .int .i64 l.ticks, .int .i64 l.sx, .int .i64 l.sy, .slice wa6 l.wn wc6, .slice ga6 l.gn gc6, .int .i64 l.flx, .int .i64 l.fly, .int .i64 l.fhx, .int .i64 l.fhy, .int .i64 l.bans] 37)).drew (l.re wa6 wc6 ga6 gc6) := (show LvAt (w6.alloc (.cells #[.int .i64 l.id, .int .i64 l.ticks, .int .i64 l.sx, .int .i64 l.sy, .slice wa6 l.wn wc6, .slice ga6 l.gn gc6, .int .i64 l.flx, .int .i64 l.fly, .int .i64 l.fhx, .int .i64 l.fhy, .int .i64 l.bans] 37)) (l.re wa6 wc6 ga6 gc6) from hl6.keep ((Below.refl _ _).alloc (Nat.le_refl _) _))
    clear q0 q1 q2 q3 q4 q5 q6 q7 q8 q9 q10 hb6
    go_wp2_with fail
    refine wp_region_cut 6 (by kernel_rfl) (by kernel_rfl) (S := fun W => (W.cell? ⟨w6.heap.size, 0, none⟩ = some (.int .i64 l.id) ∧ W.cell? ⟨w6.heap.size, 1, none⟩ = some (.int .i64 l.ticks) ∧ W.cell? ⟨w6.heap.size, 2, none⟩ = some (.int .i64 l.sx) ∧ W.cell? ⟨w6.heap.size, 3, none⟩ = some (.int .i64 l.sy) ∧ W.cell? ⟨w6.heap.size, 4, none⟩ = some (.slice wa6 l.wn wc6) ∧ W.cell? ⟨w6.heap.size, 5, none⟩ = some (.slice ga6 l.gn gc6) ∧ W.cell? ⟨w6.heap.size, 6, none⟩ = some (.int .i64 l.flx) ∧ W.cell? ⟨w6.heap.size, 7, none⟩ = some (.int .i64 l.fly) ∧ W.cell? ⟨w6.heap.size, 8, none⟩ = some (.int .i64 l.fhx) ∧ W.cell? ⟨w6.heap.size, 9, none⟩ = some (.int .i64 l.fhy) ∧ W.cell? ⟨w6.heap.size, 10, none⟩ = some (.int .i64 l.bans)) ∧ ((W.cell? ⟨w.heap.size, 0, none⟩ = some (.int .i64 l.id) ∧ W.cell? ⟨w.heap.size, 1, none⟩ = some (.int .i64 l.ticks) ∧ W.cell? ⟨w.heap.size, 2, none⟩ = some (.int .i64 l.sx) ∧ W.cell? ⟨w.heap.size, 3, none⟩ = some (.int .i64 l.sy) ∧ W.cell? ⟨w.heap.size, 4, none⟩ = some (.slice l.wa l.wn l.wc) ∧ W.cell? ⟨w.heap.size, 5, none⟩ = some (.slice l.ga l.gn l.gc) ∧ W.cell? ⟨w.heap.size, 6, none⟩ = some (.int .i64 l.flx) ∧ W.cell? ⟨w.heap.size, 7, none⟩ = some (.int .i64 l.fly) ∧ W.cell? ⟨w.heap.size, 8, none⟩ = some (.int .i64 l.fhx) ∧ W.cell? ⟨w.heap.size, 9, none⟩ = some (.int .i64 l.fhy) ∧ W.cell? ⟨w.heap.size, 10, none⟩ = some (.int .i64 l.bans)) ∧ (W.cell? ⟨w.heap.size + 1, 0, none⟩ = some (.int .i64 t) ∧ W.cell? ⟨w.heap.size + 1, 1, none⟩ = some (.int .i64 tp) ∧ W.cell? ⟨w.heap.size + 1, 2, none⟩ = some (.bool tb)) ∧ (W.cell? ⟨w.heap.size + 1 + 1, 0, none⟩ = some (.int .i64 s) ∧ W.cell? ⟨w.heap.size + 1 + 1, 1, none⟩ = some (.int .i64 p) ∧ W.cell? ⟨w.heap.size + 1 + 1, 2, none⟩ = some (.bool b)))) ⟨J7.c11, I7.cells⟩ (fun hHeld => ?_)
    simp only [List.take_succ_cons, List.take_zero]
    (refine wpAnyH_take (i := 0) (v := ?_) rfl (by kernel_rfl) (by kernel_rfl) (by kernel_rfl) (fun _ _ _ h => h) (Or.inl ⟨by rfl, ?_⟩) (by assumption) ?_; rotate_left; · (intro w hSw; (try dsimp only at hSw); go_simp; (try with_reducible rfl))); (try simp only [Act.put, List.setIfInBounds_toArray, List.set_cons_zero, List.set_cons_succ])
    (refine wpAnyH_take (i := 1) (v := ?_) rfl (by kernel_rfl) (by kernel_rfl) (by kernel_rfl) (fun _ _ _ h => h) (Or.inl ⟨by rfl, ?_⟩) (by assumption) ?_; rotate_left; · (intro w hSw; (try dsimp only at hSw); go_simp; (try with_reducible rfl))); (try simp only [Act.put, List.setIfInBounds_toArray, List.set_cons_zero, List.set_cons_succ])
    (refine wpAnyH_take (i := 3) (v := ?_) rfl (by kernel_rfl) (by kernel_rfl) (by kernel_rfl) (fun _ _ _ h => h) (Or.inl ⟨by rfl, ?_⟩) (by assumption) ?_; rotate_left; · (intro w hSw; (try dsimp only at hSw); go_simp; (try with_reducible rfl))); (try simp only [Act.put, List.setIfInBounds_toArray, List.set_cons_zero, List.set_cons_succ])
    refine wpAnyH_ready (rs := [2]) (by kernel_rfl) (by simp) ?_; refine AllReadyH.cons rfl (fun K hK => ?_) AllReadyH.nil; (try simp only [List.getElem_toArray, List.getElem_cons_succ, List.getElem_cons_zero])
    go_simp
    go_at_call 43
    refine (toInp t tp tb _).mono ?_
    rintro e w8 ⟨rfl, hb8⟩
    have I8 := I7.pass hb8
    have J8 := J7.below hb8 J7.lt
    have hl8 := hl7.keep hb8
    go_wp2_with fail
    refine hK.out _ _ (⟨J8.c11, I8.cells⟩) (fun hHeld => ?_); clear hK K; (try simp only [Act.put, List.setIfInBounds_toArray, List.set_cons_zero, List.set_cons_succ])
    refine wpAnyH_ready (rs := [4]) (by kernel_rfl) (by simp) ?_; refine AllReadyH.cons rfl (fun K hK => ?_) AllReadyH.nil; (try simp only [List.getElem_toArray, List.getElem_cons_succ, List.getElem_cons_zero])
    go_simp
    go_at_call 43
    refine (toInp s p b _).mono ?_
    rintro e w9 ⟨rfl, hb9⟩
    have I9 := I8.pass hb9
    have J9 := J8.below hb9 J8.lt
    have hl9 := hl8.keep hb9
    go_wp2_with fail
    refine hK.out _ _ (⟨J9.c11, I9.cells⟩) (fun hHeld => ?_); clear hK K; (try simp only [Act.put, List.setIfInBounds_toArray, List.set_cons_zero, List.set_cons_succ])
    refine wpAnyH_ready (rs := [5]) (by kernel_rfl) (by simp) ?_; refine AllReadyH.cons rfl (fun K hK => ?_) AllReadyH.nil; (try simp only [List.getElem_toArray, List.getElem_cons_succ, List.getElem_cons_zero])
    go_simp
    go_at_call 37
    refine (iInputFollows (l.re wa6 wc6 ga6 gc6) t tp tb s p b _ hl9).mono ?_
    rintro e w10 ⟨rfl, hb10⟩
    have I10 := I9.pass hb10
    have J10 := J9.below hb10 J9.lt
    have hl10 := hl9.keep hb10
    go_wp2_with fail
    refine hK.out _ _ (⟨J10.c11, I10.cells⟩) (fun hHeld => ?_); clear hK K; (try simp only [Act.put, List.setIfInBounds_toArray, List.set_cons_zero, List.set_cons_succ])
    refine wpAnyH_done (by kernel_rfl) ?_ _
    simp only [TailQ, List.drop_succ_cons, List.drop_zero]
    rw [re_folV, hF]
    clear hHeld hb8 hb9 hb10 I5 I6 I7 I8 I9 J7 J8 J9 hl6 hl7 hl8 hl9 hF
    have I11 := I10.drew
    have J11 : Blk w10.drew w6.heap.size #[.int .i64 l.id, .int .i64 l.ticks, .int .i64 l.sx, .int .i64 l.sy, .slice wa6 l.wn wc6, .slice ga6 l.gn gc6, .int .i64 l.flx, .int .i64 l.fly, .int .i64 l.fhx, .int .i64 l.fhy, .int .i64 l.bans] := J10
    go_wp2_with fail
    refine wp_region_cut 4 (by kernel_rfl) (by kernel_rfl) (S := fun W => (W.cell? ⟨w6.heap.size, 0, none⟩ = some (.int .i64 l.id) ∧ W.cell? ⟨w6.heap.size, 1, none⟩ = some (.int .i64 l.ticks) ∧ W.cell? ⟨w6.heap.size, 2, none⟩ = some (.int .i64 l.sx) ∧ W.cell? ⟨w6.heap.size, 3, none⟩ = some (.int .i64 l.sy) ∧ W.cell? ⟨w6.heap.size, 4, none⟩ = some (.slice wa6 l.wn wc6) ∧ W.cell? ⟨w6.heap.size, 5, none⟩ = some (.slice ga6 l.gn gc6) ∧ W.cell? ⟨w6.heap.size, 6, none⟩ = some (.int .i64 l.flx) ∧ W.cell? ⟨w6.heap.size, 7, none⟩ = some (.int .i64 l.fly) ∧ W.cell? ⟨w6.heap.size, 8, none⟩ = some (.int .i64 l.fhx) ∧ W.cell? ⟨w6.heap.size, 9, none⟩ = some (.int .i64 l.fhy) ∧ W.cell? ⟨w6.heap.size, 10, none⟩ = some (.int .i64 l.bans)) ∧ (W.cell? ⟨w.heap.size, 0, none⟩ = some (.int .i64 l.id) ∧ W.cell? ⟨w.heap.size, 1, none⟩ = some (.int .i64 l.ticks) ∧ W.cell? ⟨w.heap.size, 2, none⟩ = some (.int .i64 l.sx) ∧ W.cell? ⟨w.heap.size, 3, none⟩ = some (.int .i64 l.sy) ∧ W.cell? ⟨w.heap.size, 4, none⟩ = some (.slice l.wa l.wn l.wc) ∧ W.cell? ⟨w.heap.size, 5, none⟩ = some (.slice l.ga l.gn l.gc) ∧ W.cell? ⟨w.heap.size, 6, none⟩ = some (.int .i64 l.flx) ∧ W.cell? ⟨w.heap.size, 7, none⟩ = some (.int .i64 l.fly) ∧ W.cell? ⟨w.heap.size, 8, none⟩ = some (.int .i64 l.fhx) ∧ W.cell? ⟨w.heap.size, 9, none⟩ = some (.int .i64 l.fhy) ∧ W.cell? ⟨w.heap.size, 10, none⟩ = some (.int .i64 l.bans))) ⟨J11.c11, I11.cells.1⟩ (fun hHeld => ?_)
    simp only [List.take_succ_cons, List.take_zero]
    (refine wpAnyH_take (i := 0) (v := ?_) rfl (by kernel_rfl) (by kernel_rfl) (by kernel_rfl) (fun _ _ _ h => h) (Or.inl ⟨by rfl, ?_⟩) (by assumption) ?_; rotate_left; · (intro w hSw; (try dsimp only at hSw); go_simp; (try with_reducible rfl))); (try simp only [Act.put, List.setIfInBounds_toArray, List.set_cons_zero, List.set_cons_succ])
    (refine wpAnyH_take (i := 1) (v := ?_) rfl (by kernel_rfl) (by kernel_rfl) (by kernel_rfl) (fun _ _ _ h => h) (Or.inl ⟨by rfl, ?_⟩) (by assumption) ?_; rotate_left; · (intro w hSw; (try dsimp only at hSw); go_simp; (try with_reducible rfl))); (try simp only [Act.put, List.setIfInBounds_toArray, List.set_cons_zero, List.set_cons_succ])
    refine wpAnyH_ready (rs := [2]) (by kernel_rfl) (by simp) ?_; refine AllReadyH.cons rfl (fun K hK => ?_) AllReadyH.nil; (try simp only [List.getElem_toArray, List.getElem_cons_succ, List.getElem_cons_zero])
    go_simp
    go_at_call 42
    refine (toLevel_any l _ (by omega) (by omega) I11.lv).mono ?_
    rintro e w12 ⟨wa12, wc12, ga12, gc12, rfl, hl12, hb12⟩
    have I12 := I11.pass hb12
    have J12 := J11.below hb12 J11.lt
    have hm12 : LvAt w12 (l.re wa6 wc6 ga6 gc6) := LvAt.keep (w := w10.drew) hl10 hb12
    go_wp2_with fail
    refine hK.out _ _ (⟨J12.c11, I12.cells.1⟩) (fun hHeld => ?_); clear hK K; (try simp only [Act.put, List.setIfInBounds_toArray, List.set_cons_zero, List.set_cons_succ])
    refine wpAnyH_ready (rs := [3]) (by kernel_rfl) (by simp) ?_; refine AllReadyH.cons rfl (fun K hK => ?_) AllReadyH.nil; (try simp only [List.getElem_toArray, List.getElem_cons_succ, List.getElem_cons_zero])
    go_simp
    go_at_call 44
    refine (eqLevel_any l wa6 wa12 wc6 wc12 ga6 ga12 gc6 gc12 _ (by omega) (by omega) hm12 hl12).mono ?_
    rintro e w13 ⟨rfl, hb13⟩
    have I13 := I12.pass hb13
    have J13 := J12.below hb13 J12.lt
    go_wp2_with fail
    refine hK.out _ _ (⟨J13.c11, I13.cells.1⟩) (fun hHeld => ?_); clear hK K; (try simp only [Act.put, List.setIfInBounds_toArray, List.set_cons_zero, List.set_cons_succ])
    refine wpAnyH_done (by kernel_rfl) ?_ _
    simp only [TailQ, List.drop_succ_cons, List.drop_zero]
    clear hHeld
    go_wp2
    go_ret
    exact ⟨rfl, I13.bel⟩
  · go_enter Try.func15, Try.ntmps15
    go_wp2_with fail
    refine (szLevel_any l _ (by unfold maxLen at h1; omega) (by unfold maxLen at h2; omega)).mono ?_
    rintro e w1 ⟨⟨z1, rfl, hz⟩, hb1⟩
    have hB1 : Below w.heap.size w w1 := bstep (by (repeat (first | with_reducible assumption | with_reducible exact Below.refl _ _ | ((with_reducible refine Below.alloc ?_ ?_ _); rotate_left; · exact (by first | omega | (simp; done) | (simp; omega))) | ((with_reducible refine Below.setCell ?_ ?_ _); rotate_left; · exact (by first | omega | (simp; done) | (simp; omega))) | with_reducible refine Below.drew ?_ | assumption | exact Below.refl _ _ | refine Below.alloc ?_ (by first | omega | (simp; done) | (simp; omega)) _ | refine Below.setCell ?_ (by first | omega | (simp; done) | (simp; omega)) _ | refine Below.drew ?_))) (by first | omega | (simp; done) | (simp; omega)) hb1
    rw [if_neg hs] at hz
    go_wp2
    go_ret
    exact ⟨rfl, hB1⟩
end Go.Proofs.Ytgghfbkeipchkaa

/- A box and a point drawn; the walk of FnMeetPoint. -/
import Derived.Test.YtgghfbkeipchkaaZm
set_option linter.unusedVariables false
set_option linter.unusedSimpArgs false
namespace Go.Proofs.Ytgghfbkeipchkaa
open Go.RowKit

set_option maxRecDepth 100000 in
set_option maxHeartbeats 2000000 in
theorem dBoxHas (a : Option Addr) (len cap : Nat) (zs : List Int) (w : World) (h : IsRow .u8 w a len cap zs) : Calls Try.prog 20 #[.slice a len cap] w (DrawnHas w) := by
  go_enter Try.func20, Try.ntmps20
  go_wp2_with fail
  refine (open_any _ _ _ _ _ (h.keep (by (repeat (first | with_reducible assumption | with_reducible exact Below.refl _ _ | ((with_reducible refine Below.alloc ?_ ?_ _); rotate_left; · exact (by first | omega | (simp; done) | (simp; omega))) | ((with_reducible refine Below.setCell ?_ ?_ _); rotate_left; · exact (by first | omega | (simp; done) | (simp; omega))) | with_reducible refine Below.drew ?_ | assumption | exact Below.refl _ _ | refine Below.alloc ?_ (by first | omega | (simp; done) | (simp; omega)) _ | refine Below.setCell ?_ (by first | omega | (simp; done) | (simp; omega)) _ | refine Below.drew ?_))))).mono ?_
  rintro e w1 ⟨R, rfl, hR0, hr1, hb1⟩
  have hR : w.heap.size + 1 < R := by simp at hR0; omega
  have S1 : Blk w1 w.heap.size #[.int .i64 0, .int .i64 0, .int .i64 0, .int .i64 0] := ((Blk.at rfl).alloc _).below hb1 (by simp; omega)
  have T1 : Blk w1 (w.heap.size + 1) #[.int .i64 0, .int .i64 0] := (Blk.at (by simp)).below hb1 (by simp)
  have hU1 : Up R w.heap.size w w1 := Up.of_below (bstep (by (repeat (first | with_reducible assumption | with_reducible exact Below.refl _ _ | ((with_reducible refine Below.alloc ?_ ?_ _); rotate_left; · exact (by first | omega | (simp; done) | (simp; omega))) | ((with_reducible refine Below.setCell ?_ ?_ _); rotate_left; · exact (by first | omega | (simp; done) | (simp; omega))) | with_reducible refine Below.drew ?_ | assumption | exact Below.refl _ _ | refine Below.alloc ?_ (by first | omega | (simp; done) | (simp; omega)) _ | refine Below.setCell ?_ (by first | omega | (simp; done) | (simp; omega)) _ | refine Below.drew ?_))) (by first | omega | (simp; done) | (simp; omega)) hb1)
  have hs1 : w.heap.size ≠ R := by omega
  have ht1 : w.heap.size + 1 ≠ R := by omega
  have hRl := hr1.lt
  go_wp2_with fail
  refine (lBox_any R 0 _ hr1 (by omega)).mono ?_
  rintro e w2 ⟨x0, x1, x2, x3, k2, rfl, b1, b2, b3, b4, b5, b6, b7, b8, hk1, hk2, hr2, hu2⟩
  have S2 := S1.up hu2 S1.lt hs1
  have T2 := T1.up hu2 T1.lt ht1
  have hU2 : Up R w.heap.size w w2 := hU1.trans (hu2.mono hU1.size)
  have hA2 : R < w2.heap.size := hr2.lt
  have hA2' : w2.heap.size ≠ R := by omega
  go_wp2_with fail
  have A3 : Blk (w2.alloc (.cells #[.int .i64 x0, .int .i64 x1, .int .i64 x2, .int .i64 x3] 26)).drew w2.heap.size #[.int .i64 x0, .int .i64 x1, .int .i64 x2, .int .i64 x3] := (show Blk (w2.alloc (.cells #[.int .i64 x0, .int .i64 x1, .int .i64 x2, .int .i64 x3] 26)) w2.heap.size #[.int .i64 x0, .int .i64 x1, .int .i64 x2, .int .i64 x3] from Blk.at rfl)
  have S3 : Blk (w2.alloc (.cells #[.int .i64 x0, .int .i64 x1, .int .i64 x2, .int .i64 x3] 26)).drew w.heap.size #[.int .i64 0, .int .i64 0, .int .i64 0, .int .i64 0] := (show Blk (w2.alloc (.cells #[.int .i64 x0, .int .i64 x1, .int .i64 x2, .int .i64 x3] 26)) w.heap.size #[.int .i64 0, .int .i64 0, .int .i64 0, .int .i64 0] from S2.alloc _)
  have T3 : Blk (w2.alloc (.cells #[.int .i64 x0, .int .i64 x1, .int .i64 x2, .int .i64 x3] 26)).drew (w.heap.size + 1) #[.int .i64 0, .int .i64 0] := (show Blk (w2.alloc (.cells #[.int .i64 x0, .int .i64 x1, .int .i64 x2, .int .i64 x3] 26)) (w.heap.size + 1) #[.int .i64 0, .int .i64 0] from T2.alloc _)
  have hr3 : Rd (w2.alloc (.cells #[.int .i64 x0, .int .i64 x1, .int .i64 x2, .int .i64 x3] 26)).drew R k2 := (show Rd (w2.alloc (.cells #[.int .i64 x0, .int .i64 x1, .int .i64 x2, .int .i64 x3] 26)) R k2 from hr2.keep ((Below.refl _ _).alloc hA2 _))
  have hU3 : Up R w.heap.size w (w2.alloc (.cells #[.int .i64 x0, .int .i64 x1, .int .i64 x2, .int .i64 x3] 26)).drew := (hU2.alloc hU2.size _).drew
  clear S1 S2 T1 T2 hU1 hU2 hr1 hr2 hu2 hb1
  refine wp_region_cut 4 (by kernel_rfl) (by kernel_rfl) (S := fun W => W.cell? ⟨w2.heap.size, 0, none⟩ = some (.int .i64 x0) ∧ W.cell? ⟨w2.heap.size, 1, none⟩ = some (.int .i64 x1) ∧ W.cell? ⟨w2.heap.size, 2, none⟩ = some (.int .i64 x2) ∧ W.cell? ⟨w2.heap.size, 3, none⟩ = some (.int .i64 x3)) A3.c4 (fun hHeld => ?_)
  simp only [List.take_succ_cons, List.take_zero]
  (refine wpAnyH_take (i := 0) (v := ?_) rfl (by kernel_rfl) (by kernel_rfl) (by kernel_rfl) (fun _ _ _ h => h) (Or.inl ⟨by rfl, ?_⟩) (by assumption) ?_; rotate_left; · (intro w hSw; (try dsimp only at hSw); go_simp; (try with_reducible rfl))); (try simp only [Act.put, List.setIfInBounds_toArray, List.set_cons_zero, List.set_cons_succ])
  (refine wpAnyH_take (i := 1) (v := ?_) rfl (by kernel_rfl) (by kernel_rfl) (by kernel_rfl) (fun _ _ _ h => h) (Or.inl ⟨by rfl, ?_⟩) (by assumption) ?_; rotate_left; · (intro w hSw; (try dsimp only at hSw); go_simp; (try with_reducible rfl))); (try simp only [Act.put, List.setIfInBounds_toArray, List.set_cons_zero, List.set_cons_succ])
  (refine wpAnyH_take (i := 2) (v := ?_) rfl (by kernel_rfl) (by kernel_rfl) (by kernel_rfl) (fun _ _ _ h => h) (Or.inl ⟨by rfl, ?_⟩) (by assumption) ?_; rotate_left; · (intro w hSw; (try dsimp only at hSw); go_simp; (try with_reducible rfl))); (try simp only [Act.put, List.setIfInBounds_toArray, List.set_cons_zero, List.set_cons_succ])
  refine wpAnyH_ready (rs := [3]) (by kernel_rfl) (by simp) ?_; refine AllReadyH.cons rfl (fun K hK => ?_) AllReadyH.nil; (try simp only [List.getElem_toArray, List.getElem_cons_succ, List.getElem_cons_zero])
  go_simp
  go_at_call 53
  refine (lNear_any R k2 x0 x1 x2 x3 _ hr3 (by omega) b1 b2 b3 b4).mono ?_
  rintro e w4 ⟨x, y, k4, rfl, d1, d2, d3, d4, hk3, hk4, hr4, hu4⟩
  have A4 := A3.up hu4 A3.lt hA2'
  have S4 := S3.up hu4 S3.lt hs1
  have T4 := T3.up hu4 T3.lt ht1
  have hU4 : Up R w.heap.size w w4 := hU3.trans (hu4.mono hU3.size)
  go_wp2_with fail
  refine hK.out _ _ (A4.c4) (fun hHeld => ?_); clear hK K; (try simp only [Act.put, List.setIfInBounds_toArray, List.set_cons_zero, List.set_cons_succ])
  refine wpAnyH_done (by kernel_rfl) ?_ _
  simp only [TailQ, List.drop_succ_cons, List.drop_zero]
  clear hHeld
  refine st_row rfl rfl S4 (by kernel_rfl) rfl (by simp [Value.oneCell']) ?_
  have S5 := S4.row #[.int .i64 x0, .int .i64 x1, .int .i64 x2, .int .i64 x3]
  have T5 := T4.rowOther (g := w.heap.size) (by omega) #[.int .i64 x0, .int .i64 x1, .int .i64 x2, .int .i64 x3]
  have P5 := hU4.setRow (g := w.heap.size) (Nat.le_refl _) #[.int .i64 x0, .int .i64 x1, .int .i64 x2, .int .i64 x3]
  refine st_row rfl rfl T5 (by kernel_rfl) rfl (by simp [Value.oneCell']) ?_
  refine wpList_nil ?_
  have S6 := S5.rowOther (g := w.heap.size + 1) (by omega) #[.int .i64 x, .int .i64 y]
  have T6 := T5.row #[.int .i64 x, .int .i64 y]
  have P6 := P5.setRow (g := w.heap.size + 1) (Nat.le_succ _) #[.int .i64 x, .int .i64 y]
  have hS := Lib.hid S6
  have hT := Lib.hid T6
  have hP := Lib.hid P6
  clear A3 S3 T3 hU3 hr3 A4 S4 T4 hU4 hr4 hu4 S5 T5 P5 S6 T6 P6
  go_wp2
  refine bodyPost_ret (res_row_row rfl rfl hS.out Try.underlying26 rfl (by kernel_rfl) rfl hT.out Try.underlying24 rfl (by kernel_rfl)) rfl ?_
  exact ⟨x0, x1, x2, x3, x, y, rfl, hP.out.below (by omega)⟩
theorem meet_has {a b c d a' b' c' d' x y : Int} (h : meB a b c d a' b' c' d' = true) : (bvB (mx a a') (mx b b') (mn c c') (mn d d') x y && hasB (mx a a') (mx b b') (mn c c') (mn d d') x y) = ((bvB a b c d x y && hasB a b c d x y) && (bvB a' b' c' d' x y && hasB a' b' c' d' x y)) := by
  simp only [meB, Bool.and_eq_true] at h
  obtain ⟨⟨h1, h2⟩, h3⟩ := h
  have e1 := mx_eq a a'
  have e2 := mx_eq b b'
  have e3 := mn_eq c c'
  have e4 := mn_eq d d'
  simp only [bvB, h1, h2, h3, Bool.true_and]
  cases hv : vokB x y with
  | false => rfl
  | true =>
    rw [Bool.eq_iff_iff]
    simp only [Bool.true_and, hasB, inB, Bool.and_eq_true, decide_eq_true_eq]
    omega
theorem meet_low {a b c d a' b' c' d' : Int} (h : meB a b c d a' b' c' d' = true) : (bvB a b c d (mx a a') (mx b b') && hasB a b c d (mx a a') (mx b b')) = true := by
  simp only [meB, Bool.and_eq_true] at h
  obtain ⟨⟨h1, h2⟩, h3⟩ := h
  have e1 := mx_eq a a'
  have e2 := mx_eq b b'
  have e3 := mn_eq c c'
  have e4 := mn_eq d d'
  obtain ⟨_, _, _, _, o5, o6⟩ := bxB_ok h3
  have hv : vokB (mx a a') (mx b b') = true := by
    simp only [bxB, Bool.and_eq_true] at h3
    exact h3.1.1.1
  simp only [bvB, h1, hv, Bool.and_self, Bool.true_and, hasB, inB, Bool.and_eq_true, decide_eq_true_eq]
  omega
attribute [local go_sem ↓] run_eqlVec run_neqVec vq_self bq_self
/-- the law's boxes in memory -/
structure MI (w0 : World) (Q : Nat) (a b c d a' b' c' d' p q r s : Int) (w : World) : Prop where
  A : Blk w w0.heap.size #[.int .i64 a, .int .i64 b, .int .i64 c, .int .i64 d]
  B : Blk w (w0.heap.size + 1) #[.int .i64 a', .int .i64 b', .int .i64 c', .int .i64 d']
  O : Blk w Q #[.int .i64 p, .int .i64 q, .int .i64 r, .int .i64 s]
  bel : Below w0.heap.size w0 w
theorem MI.pass {w0 w w' : World} {Q : Nat} {a b c d a' b' c' d' p q r s : Int} (h : MI w0 Q a b c d a' b' c' d' p q r s w) (hb : Below w.heap.size w w') : MI w0 Q a b c d a' b' c' d' p q r s w' := ⟨h.A.below hb h.A.lt, h.B.below hb h.B.lt, h.O.below hb h.O.lt, h.bel.trans (hb.mono h.bel.size)⟩
theorem MI.drew {w0 w : World} {Q : Nat} {a b c d a' b' c' d' p q r s : Int} (h : MI w0 Q a b c d a' b' c' d' p q r s w) : MI w0 Q a b c d a' b' c' d' p q r s w.drew := ⟨h.A, h.B, h.O, h.bel.drew⟩
set_option maxRecDepth 100000 in
set_option maxHeartbeats 2000000 in
theorem lawMeetPoint (a0 : Option Addr) (len cap : Nat) (zs : List Int) (a2 : Option Addr) (len2 cap2 : Nat) (zs2 : List Int) (w : World) (h : IsRow .u8 w a0 len cap zs) (h2 : IsRow .u8 w a2 len2 cap2 zs2) : Calls Try.prog 3 #[.slice a0 len cap, .slice a2 len2 cap2] w fun e w' => e = .returned (.bool true) ∧ Below w.heap.size w w' := by
  by_cases hl : len ≤ 1048576
  · by_cases hl2 : len2 ≤ 1048576
    · go_enter Try.func3, Try.ntmps3
      go_wp2_with fail
      refine (dBoxMeet _ _ _ _ _ h).mono ?_
      rintro e w1 ⟨a, b, c, d, a', b', c', d', rfl, hb1⟩
      go_wp2_with fail
      refine (iBoxMeet a b c d a' b' c' d' _).mono ?_
      rintro e w2 ⟨rfl, hb2⟩
      obtain ⟨M, hM⟩ : ∃ M, M = meB a b c d a' b' c' d' := ⟨_, rfl⟩
      rw [← hM]
      have hMh := Lib.hid hM
      have A2 : Blk w2 w1.heap.size #[.int .i64 a, .int .i64 b, .int .i64 c, .int .i64 d] := ((Blk.at rfl).alloc _).below hb2 (by simp; omega)
      have B2 : Blk w2 (w1.heap.size + 1) #[.int .i64 a', .int .i64 b', .int .i64 c', .int .i64 d'] := (Blk.at (by simp)).below hb2 (by simp)
      have bel2 : Below w1.heap.size w1 w2 := (((Below.refl _ _).alloc (Nat.le_refl _) _).alloc (by simp) _).trans (hb2.mono (by simp; omega))
      clear hM hb2
      obtain ⟨p, hp⟩ : ∃ p, p = onB M (mx a a') := ⟨_, rfl⟩
      obtain ⟨q, hq⟩ : ∃ q, q = onB M (mx b b') := ⟨_, rfl⟩
      obtain ⟨r, hr⟩ : ∃ r, r = onB M (mn c c') := ⟨_, rfl⟩
      obtain ⟨s, hs⟩ : ∃ s, s = onB M (mn d d') := ⟨_, rfl⟩
      rw [← hp, ← hq, ← hr, ← hs]
      obtain ⟨p0, p1, p2, p3⟩ := A2.c4
      obtain ⟨q0, q1, q2, q3⟩ := B2.c4
      have hz2 := B2.lt
      have hz2' := A2.lt
      have hpp := Lib.hid hp
      have hqq := Lib.hid hq
      have hrr := Lib.hid hr
      have hss := Lib.hid hs
      clear hp hq hr hs
      go_wp2_with fail
      refine (sBoxMeet a b c d a' b' c' d' _).mono ?_
      rintro e w3 ⟨rfl, hb3⟩
      rw [← hMh.out, ← hpp.out, ← hqq.out, ← hrr.out, ← hss.out]
      have I3 : MI w1 w2.heap.size a b c d a' b' c' d' p q r s w3 := MI.pass (w := w2.alloc (.cells #[.int .i64 p, .int .i64 q, .int .i64 r, .int .i64 s] 26)) ⟨A2.alloc _, B2.alloc _, Blk.at rfl, bel2.alloc bel2.size _⟩ hb3
      clear p0 p1 p2 p3 q0 q1 q2 q3 A2 B2 bel2 hb3
      obtain ⟨p0, p1, p2, p3⟩ := I3.O.c4
      have hz3 := I3.O.lt
      cases M with
      | false =>
        go_wp2
        go_ret
        exact ⟨rfl, (hb1.trans (I3.bel.mono hb1.size)).alloc (Nat.le_trans hb1.size I3.bel.size) _⟩
      | true =>
        have hbW : Below w.heap.size w (w3.alloc (.cells #[.int .i64 p, .int .i64 q, .int .i64 r, .int .i64 s] 26)) := (hb1.trans (I3.bel.mono hb1.size)).alloc (Nat.le_trans hb1.size I3.bel.size) _
        go_wp2_with fail
        refine (dBoxHas _ _ _ _ _ (h2.keep hbW)).mono ?_
        rintro e w4 ⟨f0, f1, f2, f3, x, y, rfl, hb4⟩
        have I4 : MI w1 w2.heap.size a b c d a' b' c' d' p q r s w4 := MI.pass (w := w3.alloc (.cells #[.int .i64 p, .int .i64 q, .int .i64 r, .int .i64 s] 26)) (I3.pass ((Below.refl _ _).alloc (Nat.le_refl _) _)) hb4
        have I5 : MI w1 w2.heap.size a b c d a' b' c' d' p q r s ((w4.alloc (.cells #[.int .i64 f0, .int .i64 f1, .int .i64 f2, .int .i64 f3] 26)).alloc (.cells #[.int .i64 x, .int .i64 y] 24)).drew := MI.drew (MI.pass (MI.pass I4 ((Below.refl _ _).alloc (Nat.le_refl _) _)) ((Below.refl _ _).alloc (Nat.le_refl _) _))
        have V5 : Blk ((w4.alloc (.cells #[.int .i64 f0, .int .i64 f1, .int .i64 f2, .int .i64 f3] 26)).alloc (.cells #[.int .i64 x, .int .i64 y] 24)).drew (w4.heap.size + 1) #[.int .i64 x, .int .i64 y] := (show Blk ((w4.alloc (.cells #[.int .i64 f0, .int .i64 f1, .int .i64 f2, .int .i64 f3] 26)).alloc (.cells #[.int .i64 x, .int .i64 y] 24)) (w4.heap.size + 1) #[.int .i64 x, .int .i64 y] from Blk.at (by simp))
        obtain ⟨H1, hH1⟩ : ∃ H, (bvB p q r s x y && hasB p q r s x y) = H := ⟨_, rfl⟩
        obtain ⟨H2, hH2⟩ : ∃ H, (bvB a b c d x y && hasB a b c d x y) = H := ⟨_, rfl⟩
        obtain ⟨H3, hH3⟩ : ∃ H, (bvB a' b' c' d' x y && hasB a' b' c' d' x y) = H := ⟨_, rfl⟩
        have hE : H1 = (H2 && H3) := by rw [← hH1, ← hH2, ← hH3, hpp.out, hqq.out, hrr.out, hss.out, onB_t rfl, onB_t rfl, onB_t rfl, onB_t rfl]; exact meet_has hMh.out.symm
        have hL : (bvB a b c d p q && hasB a b c d p q) = true := by rw [hpp.out, hqq.out, onB_t rfl, onB_t rfl]; exact meet_low hMh.out.symm
        have hL := Lib.hid hL
        have hH1 := Lib.hid hH1
        have hH2 := Lib.hid hH2
        have hH3 := Lib.hid hH3
        clear p0 p1 p2 p3 hpp hqq hrr hss hMh I3 I4 hb4 hbW
        go_wp2_with fail
        refine wp_region_held_drew (S := fun W => ((W.cell? ⟨w1.heap.size, 0, none⟩ = some (.int .i64 a) ∧ W.cell? ⟨w1.heap.size, 1, none⟩ = some (.int .i64 b) ∧ W.cell? ⟨w1.heap.size, 2, none⟩ = some (.int .i64 c) ∧ W.cell? ⟨w1.heap.size, 3, none⟩ = some (.int .i64 d)) ∧ (W.cell? ⟨w1.heap.size + 1, 0, none⟩ = some (.int .i64 a') ∧ W.cell? ⟨w1.heap.size + 1, 1, none⟩ = some (.int .i64 b') ∧ W.cell? ⟨w1.heap.size + 1, 2, none⟩ = some (.int .i64 c') ∧ W.cell? ⟨w1.heap.size + 1, 3, none⟩ = some (.int .i64 d'))) ∧ (W.cell? ⟨w2.heap.size, 0, none⟩ = some (.int .i64 p) ∧ W.cell? ⟨w2.heap.size, 1, none⟩ = some (.int .i64 q) ∧ W.cell? ⟨w2.heap.size, 2, none⟩ = some (.int .i64 r) ∧ W.cell? ⟨w2.heap.size, 3, none⟩ = some (.int .i64 s)) ∧ (W.cell? ⟨w4.heap.size + 1, 0, none⟩ = some (.int .i64 x) ∧ W.cell? ⟨w4.heap.size + 1, 1, none⟩ = some (.int .i64 y))) (by kernel_rfl) ⟨⟨I5.A.c4, I5.B.c4⟩, I5.O.c4, V5.c2⟩ (fun hHeld => ?_)
        simp only [List.size_toArray, List.length_cons, List.length_nil, Nat.zero_add, Nat.reduceAdd]
        (refine wpAnyH_take (i := 0) (v := ?_) rfl (by kernel_rfl) (by kernel_rfl) (by kernel_rfl) (fun _ _ _ h => h) (Or.inl ⟨by rfl, ?_⟩) (by assumption) ?_; rotate_left; · (intro w hSw; (try dsimp only at hSw); go_simp; (try with_reducible rfl))); (try simp only [Act.put, List.setIfInBounds_toArray, List.set_cons_zero, List.set_cons_succ])
        (refine wpAnyH_take (i := 1) (v := ?_) rfl (by kernel_rfl) (by kernel_rfl) (by kernel_rfl) (fun _ _ _ h => h) (Or.inl ⟨by rfl, ?_⟩) (by assumption) ?_; rotate_left; · (intro w hSw; (try dsimp only at hSw); go_simp; (try with_reducible rfl))); (try simp only [Act.put, List.setIfInBounds_toArray, List.set_cons_zero, List.set_cons_succ])
        (refine wpAnyH_take (i := 3) (v := ?_) rfl (by kernel_rfl) (by kernel_rfl) (by kernel_rfl) (fun _ _ _ h => h) (Or.inl ⟨by rfl, ?_⟩) (by assumption) ?_; rotate_left; · (intro w hSw; (try dsimp only at hSw); go_simp; (try with_reducible rfl))); (try simp only [Act.put, List.setIfInBounds_toArray, List.set_cons_zero, List.set_cons_succ])
        (refine wpAnyH_take (i := 4) (v := ?_) rfl (by kernel_rfl) (by kernel_rfl) (by kernel_rfl) (fun _ _ _ h => h) (Or.inl ⟨by rfl, ?_⟩) (by assumption) ?_; rotate_left; · (intro w hSw; (try dsimp only at hSw); go_simp; (try with_reducible rfl))); (try simp only [Act.put, List.setIfInBounds_toArray, List.set_cons_zero, List.set_cons_succ])
        refine wpAnyH_ready (rs := [2]) (by kernel_rfl) (by simp) ?_; refine AllReadyH.cons rfl (fun K hK => ?_) AllReadyH.nil; (try simp only [List.getElem_toArray, List.getElem_cons_succ, List.getElem_cons_zero])
        go_simp
        go_at_call 21
        refine (iBoxHas p q r s x y _).mono ?_
        rw [hH1.out]
        rintro e w6 ⟨rfl, hb6⟩
        have I6 := I5.pass hb6
        have V6 := V5.below hb6 V5.lt
        go_wp2_with fail
        refine hK.out _ _ (⟨⟨I6.A.c4, I6.B.c4⟩, I6.O.c4, V6.c2⟩) (fun hHeld => ?_); clear hK K; (try simp only [Act.put, List.setIfInBounds_toArray, List.set_cons_zero, List.set_cons_succ])
        refine wpAnyH_ready (rs := [5]) (by kernel_rfl) (by simp) ?_; refine AllReadyH.cons rfl (fun K hK => ?_) AllReadyH.nil; (try simp only [List.getElem_toArray, List.getElem_cons_succ, List.getElem_cons_zero])
        go_simp
        go_at_call 21
        refine (iBoxHas a b c d x y _).mono ?_
        rw [hH2.out]
        rintro e w7 ⟨rfl, hb7⟩
        have I7 := I6.pass hb7
        have V7 := V6.below hb7 V6.lt
        go_wp2_with fail
        refine hK.out _ _ (⟨⟨I7.A.c4, I7.B.c4⟩, I7.O.c4, V7.c2⟩) (fun hHeld => ?_); clear hK K; (try simp only [Act.put, List.setIfInBounds_toArray, List.set_cons_zero, List.set_cons_succ])
        cases H2 with
        | false =>
          have hE1 : H1 = false := hE
          clear hE
          subst hE1
          (refine wpAnyH_take (i := 6) (v := ?_) rfl (by kernel_rfl) (by kernel_rfl) (by kernel_rfl) (fun _ _ _ h => h) (Or.inl ⟨by rfl, ?_⟩) (by assumption) ?_; rotate_left; · (intro w hSw; (try dsimp only at hSw); go_simp; (try with_reducible rfl))); (try simp only [Act.put, List.setIfInBounds_toArray, List.set_cons_zero, List.set_cons_succ])
          refine wpAnyH_take (i := 7) (v := undef) rfl (by kernel_rfl) (by kernel_rfl) (by kernel_rfl) (fun _ _ _ h => h) (Or.inr ⟨by kernel_rfl, rfl⟩) (by assumption) ?_; (try simp only [Act.put, List.setIfInBounds_toArray, List.set_cons_zero, List.set_cons_succ])
          refine wpAnyH_take (i := 8) (v := undef) rfl (by kernel_rfl) (by kernel_rfl) (by kernel_rfl) (fun _ _ _ h => h) (Or.inr ⟨by kernel_rfl, rfl⟩) (by assumption) ?_; (try simp only [Act.put, List.setIfInBounds_toArray, List.set_cons_zero, List.set_cons_succ])
          refine wpAnyH_take (i := 9) (v := undef) rfl (by kernel_rfl) (by kernel_rfl) (by kernel_rfl) (fun _ _ _ h => h) (Or.inr ⟨by kernel_rfl, rfl⟩) (by assumption) ?_; (try simp only [Act.put, List.setIfInBounds_toArray, List.set_cons_zero, List.set_cons_succ])
          refine wpAnyH_ready (rs := [10]) (by kernel_rfl) (by simp) ?_; refine AllReadyH.cons rfl (fun K hK => ?_) AllReadyH.nil; (try simp only [List.getElem_toArray, List.getElem_cons_succ, List.getElem_cons_zero])
          go_simp
          refine hK.out _ _ (⟨⟨I7.A.c4, I7.B.c4⟩, I7.O.c4, V7.c2⟩) (fun hHeld => ?_); clear hK K; (try simp only [Act.put, List.setIfInBounds_toArray, List.set_cons_zero, List.set_cons_succ])
          refine wpAnyH_ready (rs := [11]) (by kernel_rfl) (by simp) ?_; refine AllReadyH.cons rfl (fun K hK => ?_) AllReadyH.nil; (try simp only [List.getElem_toArray, List.getElem_cons_succ, List.getElem_cons_zero])
          go_simp
          refine hK.out _ _ (⟨⟨I7.A.c4, I7.B.c4⟩, I7.O.c4, V7.c2⟩) (fun hHeld => ?_); clear hK K; (try simp only [Act.put, List.setIfInBounds_toArray, List.set_cons_zero, List.set_cons_succ])
          (refine wpAnyH_take (i := 12) (v := ?_) rfl (by kernel_rfl) (by kernel_rfl) (by kernel_rfl) (fun _ _ _ h => h) (Or.inl ⟨by rfl, ?_⟩) (by assumption) ?_; rotate_left; · (intro w hSw; (try dsimp only at hSw); go_simp; (try with_reducible rfl))); (try simp only [Act.put, List.setIfInBounds_toArray, List.set_cons_zero, List.set_cons_succ])
          (refine wpAnyH_take (i := 13) (v := ?_) rfl (by kernel_rfl) (by kernel_rfl) (by kernel_rfl) (fun _ _ _ h => h) (Or.inl ⟨by kernel_rfl, ?_⟩) (by assumption) ?_; rotate_left; · (intro w hSw; (try dsimp only at hSw); go_simp; (try with_reducible rfl))); (try simp only [Act.put, List.setIfInBounds_toArray, List.set_cons_zero, List.set_cons_succ])
          (refine wpAnyH_take (i := 14) (v := ?_) rfl (by kernel_rfl) (by kernel_rfl) (by kernel_rfl) (fun _ _ _ h => h) (Or.inl ⟨by kernel_rfl, ?_⟩) (by assumption) ?_; rotate_left; · (intro w hSw; (try dsimp only at hSw); go_simp; (try with_reducible rfl))); (try simp only [Act.put, List.setIfInBounds_toArray, List.set_cons_zero, List.set_cons_succ])
          (refine wpAnyH_take (i := 15) (v := ?_) rfl (by kernel_rfl) (by kernel_rfl) (by kernel_rfl) (fun _ _ _ h => h) (Or.inl ⟨by kernel_rfl, ?_⟩) (by assumption) ?_; rotate_left; · (intro w hSw; (try dsimp only at hSw); go_simp; (try with_reducible rfl))); (try simp only [Act.put, List.setIfInBounds_toArray, List.set_cons_zero, List.set_cons_succ])
          refine wpAnyH_ready (rs := [16]) (by kernel_rfl) (by simp) ?_; refine AllReadyH.cons rfl (fun K hK => ?_) AllReadyH.nil; (try simp only [List.getElem_toArray, List.getElem_cons_succ, List.getElem_cons_zero])
          go_simp
          go_at_call 21
          refine (iBoxHas a b c d p q _).mono ?_
          rw [hL.out]
          rintro e w8 ⟨rfl, hb8⟩
          have I8 := I7.pass hb8
          have V8 := V7.below hb8 V7.lt
          go_wp2_with fail
          refine hK.out _ _ (⟨⟨I8.A.c4, I8.B.c4⟩, I8.O.c4, V8.c2⟩) (fun hHeld => ?_); clear hK K; (try simp only [Act.put, List.setIfInBounds_toArray, List.set_cons_zero, List.set_cons_succ])
          refine wpAnyH_ready (rs := [17]) (by kernel_rfl) (by simp) ?_; refine AllReadyH.cons rfl (fun K hK => ?_) AllReadyH.nil; (try simp only [List.getElem_toArray, List.getElem_cons_succ, List.getElem_cons_zero])
          go_simp
          refine hK.out _ _ (⟨⟨I8.A.c4, I8.B.c4⟩, I8.O.c4, V8.c2⟩) (fun hHeld => ?_); clear hK K; (try simp only [Act.put, List.setIfInBounds_toArray, List.set_cons_zero, List.set_cons_succ])
          refine wpAnyH_ready (rs := [18]) (by kernel_rfl) (by simp) ?_; refine AllReadyH.cons rfl (fun K hK => ?_) AllReadyH.nil; (try simp only [List.getElem_toArray, List.getElem_cons_succ, List.getElem_cons_zero])
          go_simp
          refine hK.out _ _ (⟨⟨I8.A.c4, I8.B.c4⟩, I8.O.c4, V8.c2⟩) (fun hHeld => ?_); clear hK K; (try simp only [Act.put, List.setIfInBounds_toArray, List.set_cons_zero, List.set_cons_succ])
          refine wpAnyH_done (by kernel_rfl) ?_ _
          clear hHeld
          go_wp2
          go_ret
          exact ⟨ret_bool (by first | rfl | simp), hb1.trans (I8.bel.mono hb1.size)⟩
        | true =>
          have hE1 : H1 = H3 := hE
          clear hE
          subst hE1
          (refine wpAnyH_take (i := 6) (v := ?_) rfl (by kernel_rfl) (by kernel_rfl) (by kernel_rfl) (fun _ _ _ h => h) (Or.inl ⟨by rfl, ?_⟩) (by assumption) ?_; rotate_left; · (intro w hSw; (try dsimp only at hSw); go_simp; (try with_reducible rfl))); (try simp only [Act.put, List.setIfInBounds_toArray, List.set_cons_zero, List.set_cons_succ])
          (refine wpAnyH_take (i := 7) (v := ?_) rfl (by kernel_rfl) (by kernel_rfl) (by kernel_rfl) (fun _ _ _ h => h) (Or.inl ⟨by kernel_rfl, ?_⟩) (by assumption) ?_; rotate_left; · (intro w hSw; (try dsimp only at hSw); go_simp; (try with_reducible rfl))); (try simp only [Act.put, List.setIfInBounds_toArray, List.set_cons_zero, List.set_cons_succ])
          (refine wpAnyH_take (i := 8) (v := ?_) rfl (by kernel_rfl) (by kernel_rfl) (by kernel_rfl) (fun _ _ _ h => h) (Or.inl ⟨by kernel_rfl, ?_⟩) (by assumption) ?_; rotate_left; · (intro w hSw; (try dsimp only at hSw); go_simp; (try with_reducible rfl))); (try simp only [Act.put, List.setIfInBounds_toArray, List.set_cons_zero, List.set_cons_succ])
          refine wpAnyH_ready (rs := [9]) (by kernel_rfl) (by simp) ?_; refine AllReadyH.cons rfl (fun K hK => ?_) AllReadyH.nil; (try simp only [List.getElem_toArray, List.getElem_cons_succ, List.getElem_cons_zero])
          go_simp
          go_at_call 21
          refine (iBoxHas a' b' c' d' x y _).mono ?_
          rw [hH3.out]
          rintro e w8 ⟨rfl, hb8⟩
          have I8 := I7.pass hb8
          have V8 := V7.below hb8 V7.lt
          go_wp2_with fail
          refine hK.out _ _ (⟨⟨I8.A.c4, I8.B.c4⟩, I8.O.c4, V8.c2⟩) (fun hHeld => ?_); clear hK K; (try simp only [Act.put, List.setIfInBounds_toArray, List.set_cons_zero, List.set_cons_succ])
          refine wpAnyH_ready (rs := [10]) (by kernel_rfl) (by simp) ?_; refine AllReadyH.cons rfl (fun K hK => ?_) AllReadyH.nil; (try simp only [List.getElem_toArray, List.getElem_cons_succ, List.getElem_cons_zero])
          go_simp
          refine hK.out _ _ (⟨⟨I8.A.c4, I8.B.c4⟩, I8.O.c4, V8.c2⟩) (fun hHeld => ?_); clear hK K; (try simp only [Act.put, List.setIfInBounds_toArray, List.set_cons_zero, List.set_cons_succ])
          refine wpAnyH_ready (rs := [11]) (by kernel_rfl) (by simp) ?_; refine AllReadyH.cons rfl (fun K hK => ?_) AllReadyH.nil; (try simp only [List.getElem_toArray, List.getElem_cons_succ, List.getElem_cons_zero])
          go_simp
          refine hK.out _ _ (⟨⟨I8.A.c4, I8.B.c4⟩, I8.O.c4, V8.c2⟩) (fun hHeld => ?_); clear hK K; (try simp only [Act.put, List.setIfInBounds_toArray, List.set_cons_zero, List.set_cons_succ])
          try simp only [beq_self_eq_true]
          (refine wpAnyH_take (i := 12) (v := ?_) rfl (by kernel_rfl) (by kernel_rfl) (by kernel_rfl) (fun _ _ _ h => h) (Or.inl ⟨by rfl, ?_⟩) (by assumption) ?_; rotate_left; · (intro w hSw; (try dsimp only at hSw); go_simp; (try with_reducible rfl))); (try simp only [Act.put, List.setIfInBounds_toArray, List.set_cons_zero, List.set_cons_succ])
          (refine wpAnyH_take (i := 13) (v := ?_) rfl (by kernel_rfl) (by kernel_rfl) (by kernel_rfl) (fun _ _ _ h => h) (Or.inl ⟨by kernel_rfl, ?_⟩) (by assumption) ?_; rotate_left; · (intro w hSw; (try dsimp only at hSw); go_simp; (try with_reducible rfl))); (try simp only [Act.put, List.setIfInBounds_toArray, List.set_cons_zero, List.set_cons_succ])
          (refine wpAnyH_take (i := 14) (v := ?_) rfl (by kernel_rfl) (by kernel_rfl) (by kernel_rfl) (fun _ _ _ h => h) (Or.inl ⟨by kernel_rfl, ?_⟩) (by assumption) ?_; rotate_left; · (intro w hSw; (try dsimp only at hSw); go_simp; (try with_reducible rfl))); (try simp only [Act.put, List.setIfInBounds_toArray, List.set_cons_zero, List.set_cons_succ])
          (refine wpAnyH_take (i := 15) (v := ?_) rfl (by kernel_rfl) (by kernel_rfl) (by kernel_rfl) (fun _ _ _ h => h) (Or.inl ⟨by kernel_rfl, ?_⟩) (by assumption) ?_; rotate_left; · (intro w hSw; (try dsimp only at hSw); go_simp; (try with_reducible rfl))); (try simp only [Act.put, List.setIfInBounds_toArray, List.set_cons_zero, List.set_cons_succ])
          refine wpAnyH_ready (rs := [16]) (by kernel_rfl) (by simp) ?_; refine AllReadyH.cons rfl (fun K hK => ?_) AllReadyH.nil; (try simp only [List.getElem_toArray, List.getElem_cons_succ, List.getElem_cons_zero])
          go_simp
          go_at_call 21
          refine (iBoxHas a b c d p q _).mono ?_
          rw [hL.out]
          rintro e w9 ⟨rfl, hb9⟩
          have I9 := I8.pass hb9
          have V9 := V8.below hb9 V8.lt
          go_wp2_with fail
          refine hK.out _ _ (⟨⟨I9.A.c4, I9.B.c4⟩, I9.O.c4, V9.c2⟩) (fun hHeld => ?_); clear hK K; (try simp only [Act.put, List.setIfInBounds_toArray, List.set_cons_zero, List.set_cons_succ])
          refine wpAnyH_ready (rs := [17]) (by kernel_rfl) (by simp) ?_; refine AllReadyH.cons rfl (fun K hK => ?_) AllReadyH.nil; (try simp only [List.getElem_toArray, List.getElem_cons_succ, List.getElem_cons_zero])
          go_simp
          refine hK.out _ _ (⟨⟨I9.A.c4, I9.B.c4⟩, I9.O.c4, V9.c2⟩) (fun hHeld => ?_); clear hK K; (try simp only [Act.put, List.setIfInBounds_toArray, List.set_cons_zero, List.set_cons_succ])
          refine wpAnyH_ready (rs := [18]) (by kernel_rfl) (by simp) ?_; refine AllReadyH.cons rfl (fun K hK => ?_) AllReadyH.nil; (try simp only [List.getElem_toArray, List.getElem_cons_succ, List.getElem_cons_zero])
          go_simp
          refine hK.out _ _ (⟨⟨I9.A.c4, I9.B.c4⟩, I9.O.c4, V9.c2⟩) (fun hHeld => ?_); clear hK K; (try simp only [Act.put, List.setIfInBounds_toArray, List.set_cons_zero, List.set_cons_succ])
          refine wpAnyH_done (by kernel_rfl) ?_ _
          clear hHeld
          go_wp2
          go_ret
          exact ⟨ret_bool (by first | rfl | simp), hb1.trans (I9.bel.mono hb1.size)⟩
    · go_enter Try.func3, Try.ntmps3
      go_wp2
      go_ret
      exact ⟨rfl, by (repeat (first | with_reducible assumption | with_reducible exact Below.refl _ _ | ((with_reducible refine Below.alloc ?_ ?_ _); rotate_left; · exact (by first | omega | (simp; done) | (simp; omega))) | ((with_reducible refine Below.setCell ?_ ?_ _); rotate_left; · exact (by first | omega | (simp; done) | (simp; omega))) | with_reducible refine Below.drew ?_ | assumption | exact Below.refl _ _ | refine Below.alloc ?_ (by first | omega | (simp; done) | (simp; omega)) _ | refine Below.setCell ?_ (by first | omega | (simp; done) | (simp; omega)) _ | refine Below.drew ?_))⟩
  · go_enter Try.func3, Try.ntmps3
    go_wp2
    go_ret
    exact ⟨rfl, by (repeat (first | with_reducible assumption | with_reducible exact Below.refl _ _ | ((with_reducible refine Below.alloc ?_ ?_ _); rotate_left; · exact (by first | omega | (simp; done) | (simp; omega))) | ((with_reducible refine Below.setCell ?_ ?_ _); rotate_left; · exact (by first | omega | (simp; done) | (simp; omega))) | with_reducible refine Below.drew ?_ | assumption | exact Below.refl _ _ | refine Below.alloc ?_ (by first | omega | (simp; done) | (simp; omega)) _ | refine Below.setCell ?_ (by first | omega | (simp; done) | (simp; omega)) _ | refine Below.drew ?_))⟩
end Go.Proofs.Ytgghfbkeipchkaa

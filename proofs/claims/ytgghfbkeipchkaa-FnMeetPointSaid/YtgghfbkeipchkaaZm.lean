/- Two boxes drawn, a box and a point drawn; the walk of FnMeetPoint. -/
import Derived.Test.YtgghfbkeipchkaaZn
import Derived.Test.YtgghfbkeipchkaaDw
import Derived.Test.YtgghfbkeipchkaaDi
set_option linter.unusedVariables false
set_option linter.unusedSimpArgs false
namespace Go.Proofs.Ytgghfbkeipchkaa
open Go.RowKit

/-- two boxes drawn by a law -/
def DrawnMeet (w : World) (e : Ending) (w' : World) : Prop :=
  ∃ (a b c d a' b' c' d' : Int), e = .returned (.tuple #[.agg #[.int .i64 a, .int .i64 b, .int .i64 c, .int .i64 d], .agg #[.int .i64 a', .int .i64 b', .int .i64 c', .int .i64 d']]) ∧ Below w.heap.size w w'
/-- a box and a point drawn by a law -/
def DrawnHas (w : World) (e : Ending) (w' : World) : Prop :=
  ∃ (a b c d x y : Int), e = .returned (.tuple #[.agg #[.int .i64 a, .int .i64 b, .int .i64 c, .int .i64 d], .agg #[.int .i64 x, .int .i64 y]]) ∧ Below w.heap.size w w'
/-- two boxes under way -/
structure MB (w0 : World) (R k U V : Nat) (a0 a1 a2 a3 b0 b1 b2 b3 : Int) (w : World) : Prop where
  rd : Rd w R k
  up : Up R w0.heap.size w0 w
  bu : Blk w U #[.int .i64 a0, .int .i64 a1, .int .i64 a2, .int .i64 a3]
  bv : Blk w V #[.int .i64 b0, .int .i64 b1, .int .i64 b2, .int .i64 b3]
  z0 : Blk w w0.heap.size #[.int .i64 0, .int .i64 0, .int .i64 0, .int .i64 0]
  z1 : Blk w (w0.heap.size + 1) #[.int .i64 0, .int .i64 0, .int .i64 0, .int .i64 0]
  hR : w0.heap.size + 1 < R
  hU : R < U
  hV : R < V
  ne : U ≠ V
section
variable {w0 w w' : World} {R k k' U V : Nat} {a0 a1 a2 a3 b0 b1 b2 b3 : Int}
theorem MB.pass (h : MB w0 R k U V a0 a1 a2 a3 b0 b1 b2 b3 w) (hr : Rd w' R k') (hu : Up R w.heap.size w w') : MB w0 R k' U V a0 a1 a2 a3 b0 b1 b2 b3 w' := by
  have e1 := h.hR; have e2 := h.hU; have e3 := h.hV
  exact ⟨hr, h.up.trans (hu.mono h.up.size), h.bu.up hu h.bu.lt (by omega), h.bv.up hu h.bv.lt (by omega), h.z0.up hu h.z0.lt (by omega), h.z1.up hu h.z1.lt (by omega), h.hR, h.hU, h.hV, h.ne⟩
theorem MB.drew (h : MB w0 R k U V a0 a1 a2 a3 b0 b1 b2 b3 w) : MB w0 R k U V a0 a1 a2 a3 b0 b1 b2 b3 w.drew := ⟨h.rd, h.up.drew, h.bu, h.bv, h.z0, h.z1, h.hR, h.hU, h.hV, h.ne⟩
theorem MB.lo (h : MB w0 R k U V a0 a1 a2 a3 b0 b1 b2 b3 w) (x y : Int) : MB w0 R k U V a0 a1 a2 a3 x y b2 b3 ((w.setCell ⟨V, 0, none⟩ (.int .i64 x)).setCell ⟨V, 1, none⟩ (.int .i64 y)) := by
  have e1 := h.hR; have e2 := h.hU; have e3 := h.hV; have e4 := h.ne
  exact ⟨h.rd.keep (Below.setCell (p := ⟨V, 1, none⟩) (Below.setCell (p := ⟨V, 0, none⟩) (Below.refl _ _) (by simp only; omega) _) (by simp only; omega) _), (h.up.setCell (p := ⟨V, 0, none⟩) (.inr (by simp only; omega)) _).setCell (p := ⟨V, 1, none⟩) (.inr (by simp only; omega)) _, (h.bu.other (by simp only; omega) _).other (by simp only; omega) _, (h.bv.s4_0 _).s4_1 _, (h.z0.other (by simp only; omega) _).other (by simp only; omega) _, (h.z1.other (by simp only; omega) _).other (by simp only; omega) _, h.hR, h.hU, h.hV, h.ne⟩
theorem MB.hi (h : MB w0 R k U V a0 a1 a2 a3 b0 b1 b2 b3 w) (x y : Int) : MB w0 R k U V a0 a1 a2 a3 b0 b1 x y ((w.setCell ⟨V, 2, none⟩ (.int .i64 x)).setCell ⟨V, 3, none⟩ (.int .i64 y)) := by
  have e1 := h.hR; have e2 := h.hU; have e3 := h.hV; have e4 := h.ne
  exact ⟨h.rd.keep (Below.setCell (p := ⟨V, 3, none⟩) (Below.setCell (p := ⟨V, 2, none⟩) (Below.refl _ _) (by simp only; omega) _) (by simp only; omega) _), (h.up.setCell (p := ⟨V, 2, none⟩) (.inr (by simp only; omega)) _).setCell (p := ⟨V, 3, none⟩) (.inr (by simp only; omega)) _, (h.bu.other (by simp only; omega) _).other (by simp only; omega) _, (h.bv.s4_2 _).s4_3 _, (h.z0.other (by simp only; omega) _).other (by simp only; omega) _, (h.z1.other (by simp only; omega) _).other (by simp only; omega) _, h.hR, h.hU, h.hV, h.ne⟩
end
set_option maxRecDepth 100000 in
set_option maxHeartbeats 2000000 in
theorem dBoxMeet (a : Option Addr) (len cap : Nat) (zs : List Int) (w : World) (h : IsRow .u8 w a len cap zs) : Calls Try.prog 17 #[.slice a len cap] w (DrawnMeet w) := by
  go_enter Try.func17, Try.ntmps17
  go_wp2_with fail
  refine (open_any _ _ _ _ _ (h.keep (by (repeat (first | with_reducible assumption | with_reducible exact Below.refl _ _ | ((with_reducible refine Below.alloc ?_ ?_ _); rotate_left; · exact (by first | omega | (simp; done) | (simp; omega))) | ((with_reducible refine Below.setCell ?_ ?_ _); rotate_left; · exact (by first | omega | (simp; done) | (simp; omega))) | with_reducible refine Below.drew ?_ | assumption | exact Below.refl _ _ | refine Below.alloc ?_ (by first | omega | (simp; done) | (simp; omega)) _ | refine Below.setCell ?_ (by first | omega | (simp; done) | (simp; omega)) _ | refine Below.drew ?_))))).mono ?_
  rintro e w1 ⟨R, rfl, hR0, hr1, hb1⟩
  have hR : w.heap.size + 1 < R := by simp at hR0; omega
  have S1 : Blk w1 w.heap.size #[.int .i64 0, .int .i64 0, .int .i64 0, .int .i64 0] := ((Blk.at rfl).alloc _).below hb1 (by simp; omega)
  have T1 : Blk w1 (w.heap.size + 1) #[.int .i64 0, .int .i64 0, .int .i64 0, .int .i64 0] := (Blk.at (by simp)).below hb1 (by simp)
  have hU1 : Up R w.heap.size w w1 := Up.of_below (bstep (by (repeat (first | with_reducible assumption | with_reducible exact Below.refl _ _ | ((with_reducible refine Below.alloc ?_ ?_ _); rotate_left; · exact (by first | omega | (simp; done) | (simp; omega))) | ((with_reducible refine Below.setCell ?_ ?_ _); rotate_left; · exact (by first | omega | (simp; done) | (simp; omega))) | with_reducible refine Below.drew ?_ | assumption | exact Below.refl _ _ | refine Below.alloc ?_ (by first | omega | (simp; done) | (simp; omega)) _ | refine Below.setCell ?_ (by first | omega | (simp; done) | (simp; omega)) _ | refine Below.drew ?_))) (by first | omega | (simp; done) | (simp; omega)) hb1)
  have hs1 : w.heap.size ≠ R := by omega
  have ht1 : w.heap.size + 1 ≠ R := by omega
  have hRl := hr1.lt
  go_wp2_with fail
  refine (lBox_any R 0 _ hr1 (by omega)).mono ?_
  rintro e w2 ⟨x0, x1, x2, x3, k2, rfl, b1, b2, b3, b4, b5, b6, b7, b8, hk1, hk2, hr2, hu2⟩
  have S2 := S1.up hu2 S1.lt hs1
  have T2 := T1.up hu2 T1.lt ht1
  have hU2 : Up R w.heap.size w w2 := hU1.trans (hu2.mono hU1.size)
  have hA2 : R < w2.heap.size := hr2.lt
  have hA2' : w2.heap.size ≠ R := by omega
  go_wp2_with fail
  refine (lBox_any R k2 _ (Rd.keep hr2 (by (repeat (first | with_reducible assumption | with_reducible exact Below.refl _ _ | ((with_reducible refine Below.alloc ?_ ?_ _); rotate_left; · exact (by first | omega | (simp; done) | (simp; omega))) | ((with_reducible refine Below.setCell ?_ ?_ _); rotate_left; · exact (by first | omega | (simp; done) | (simp; omega))) | with_reducible refine Below.drew ?_ | assumption | exact Below.refl _ _ | refine Below.alloc ?_ (by first | omega | (simp; done) | (simp; omega)) _ | refine Below.setCell ?_ (by first | omega | (simp; done) | (simp; omega)) _ | refine Below.drew ?_)))) (by omega)).mono ?_
  rintro e w3 ⟨z0, z1, z2, z3, k3, rfl, c1, c2, c3, c4, c5, c6, c7, c8, hk3, hk4, hr3, hu3⟩
  have S3 := (S2.alloc _).up hu3 (by simp; have := S2.lt; omega) hs1
  have T3 := (T2.alloc _).up hu3 (by simp; have := T2.lt; omega) ht1
  have A3 : Blk w3 w2.heap.size #[.int .i64 x0, .int .i64 x1, .int .i64 x2, .int .i64 x3] := (Blk.at rfl).up hu3 (by simp) hA2'
  have hU3 : Up R w.heap.size w w3 := hU2.trans ((Up.refl R w2.heap.size w2).alloc (Nat.le_refl _) _ |>.mono hU2.size |>.trans (hu3.mono (by have := hU2.size; simp; omega)))
  have hz3 := A3.lt
  have hr3l := hr3.lt
  have M4 : MB w R k3 w2.heap.size w3.heap.size x0 x1 x2 x3 z0 z1 z2 z3 (w3.alloc (.cells #[.int .i64 z0, .int .i64 z1, .int .i64 z2, .int .i64 z3] 26)) :=
    ⟨hr3.keep ((Below.refl _ _).alloc hr3l _), hU3.alloc hU3.size _, A3.alloc _, Blk.at rfl, S3.alloc _, T3.alloc _, hR, hA2, by omega, by omega⟩
  clear S1 S2 S3 T1 T2 T3 A3 hU1 hU2 hU3 hr1 hr2 hr3 hu2 hu3 hb1
  go_wp2_with fail
  refine (pick_any R k3 3 _ M4.rd (by omega) (by omega) (by omega)).mono ?_
  rintro e w4 ⟨v4, rfl, hv4, hw4, hr4, hu4⟩
  have M5 := M4.pass hr4 hu4
  clear M4 hr4 hu4
  by_cases h0 : 0 < v4
  · obtain ⟨p0, p1, p2, p3⟩ := M5.bu.c4
    go_wp2_with fail
    refine (lNear_any R (k3 + 1) x0 x1 x2 x3 _ M5.rd (by omega) b1 b2 b3 b4).mono ?_
    rintro e w5 ⟨x, y, k5, rfl, d1, d2, d3, d4, hk5, hk6, hr5, hu5⟩
    have M6 := M5.pass hr5 hu5
    clear p0 p1 p2 p3 M5 hr5 hu5
    obtain ⟨p0, p1, p2, p3⟩ := M6.bv.c4
    have pf := M6.bv.frozen
    go_wp2_with fail
    have M7 := (M6.lo x y).drew
    clear p0 p1 p2 p3 pf M6
    refine wp_region_cut 15 (by kernel_rfl) (by kernel_rfl) (S := fun W => W.cell? ⟨w3.heap.size, 0, none⟩ = some (.int .i64 x) ∧ W.cell? ⟨w3.heap.size, 1, none⟩ = some (.int .i64 y) ∧ W.cell? ⟨w3.heap.size, 2, none⟩ = some (.int .i64 z2) ∧ W.cell? ⟨w3.heap.size, 3, none⟩ = some (.int .i64 z3)) M7.bv.c4 (fun hHeld => ?_)
    simp only [List.take_succ_cons, List.take_zero]
    (refine wpAnyH_take (i := 0) (v := ?_) rfl (by kernel_rfl) (by kernel_rfl) (by kernel_rfl) (fun _ _ _ h => h) (Or.inl ⟨by rfl, ?_⟩) (by assumption) ?_; rotate_left; · (intro w hSw; (try dsimp only at hSw); go_simp; (try with_reducible rfl))); (try simp only [Act.put, List.setIfInBounds_toArray, List.set_cons_zero, List.set_cons_succ])
    (refine wpAnyH_take (i := 1) (v := ?_) rfl (by kernel_rfl) (by kernel_rfl) (by kernel_rfl) (fun _ _ _ h => h) (Or.inl ⟨by rfl, ?_⟩) (by assumption) ?_; rotate_left; · (intro w hSw; (try dsimp only at hSw); go_simp; (try with_reducible rfl))); (try simp only [Act.put, List.setIfInBounds_toArray, List.set_cons_zero, List.set_cons_succ])
    (refine wpAnyH_take (i := 2) (v := ?_) rfl (by kernel_rfl) (by kernel_rfl) (by kernel_rfl) (fun _ _ _ h => h) (Or.inl ⟨by rfl, ?_⟩) (by assumption) ?_; rotate_left; · (intro w hSw; (try dsimp only at hSw); go_simp; (try with_reducible rfl))); (try simp only [Act.put, List.setIfInBounds_toArray, List.set_cons_zero, List.set_cons_succ])
    (refine wpAnyH_take (i := 3) (v := ?_) rfl (by kernel_rfl) (by kernel_rfl) (by kernel_rfl) (fun _ _ _ h => h) (Or.inl ⟨by rfl, ?_⟩) (by assumption) ?_; rotate_left; · (intro w hSw; (try dsimp only at hSw); go_simp; (try with_reducible rfl))); (try simp only [Act.put, List.setIfInBounds_toArray, List.set_cons_zero, List.set_cons_succ])
    (refine wpAnyH_take (i := 7) (v := ?_) rfl (by kernel_rfl) (by kernel_rfl) (by kernel_rfl) (fun _ _ _ h => h) (Or.inl ⟨by rfl, ?_⟩) (by assumption) ?_; rotate_left; · (intro w hSw; (try dsimp only at hSw); go_simp; (try with_reducible rfl))); (try simp only [Act.put, List.setIfInBounds_toArray, List.set_cons_zero, List.set_cons_succ])
    (refine wpAnyH_take (i := 8) (v := ?_) rfl (by kernel_rfl) (by kernel_rfl) (by kernel_rfl) (fun _ _ _ h => h) (Or.inl ⟨by rfl, ?_⟩) (by assumption) ?_; rotate_left; · (intro w hSw; (try dsimp only at hSw); go_simp; (try with_reducible rfl))); (try simp only [Act.put, List.setIfInBounds_toArray, List.set_cons_zero, List.set_cons_succ])
    (refine wpAnyH_take (i := 9) (v := ?_) rfl (by kernel_rfl) (by kernel_rfl) (by kernel_rfl) (fun _ _ _ h => h) (Or.inl ⟨by rfl, ?_⟩) (by assumption) ?_; rotate_left; · (intro w hSw; (try dsimp only at hSw); go_simp; (try with_reducible rfl))); (try simp only [Act.put, List.setIfInBounds_toArray, List.set_cons_zero, List.set_cons_succ])
    (refine wpAnyH_take (i := 10) (v := ?_) rfl (by kernel_rfl) (by kernel_rfl) (by kernel_rfl) (fun _ _ _ h => h) (Or.inl ⟨by rfl, ?_⟩) (by assumption) ?_; rotate_left; · (intro w hSw; (try dsimp only at hSw); go_simp; (try with_reducible rfl))); (try simp only [Act.put, List.setIfInBounds_toArray, List.set_cons_zero, List.set_cons_succ])
    refine wpAnyH_ready (rs := [4]) (by kernel_rfl) (by simp) ?_; refine AllReadyH.cons rfl (fun K hK => ?_) AllReadyH.nil; (try simp only [List.getElem_toArray, List.getElem_cons_succ, List.getElem_cons_zero])
    go_simp
    go_at_call 52
    refine (pick_any R k5 40 _ M7.rd (by omega) (by omega) (by omega)).mono ?_
    rintro e w8 ⟨v8, rfl, hv8, hw8, hr8, hu8⟩
    have M8 := M7.pass hr8 hu8
    go_wp2_with fail
    refine hK.out _ _ (M8.bv.c4) (fun hHeld => ?_); clear hK K; (try simp only [Act.put, List.setIfInBounds_toArray, List.set_cons_zero, List.set_cons_succ])
    (refine wpAnyH_take (i := 5) (v := ?_) rfl (by kernel_rfl) (by kernel_rfl) (by kernel_rfl) (fun _ _ _ h => h) (Or.inl ⟨by rfl, ?_⟩) (by assumption) ?_; rotate_left; · (intro w hSw; (try dsimp only at hSw); go_simp; (try with_reducible rfl))); (try simp only [Act.put, List.setIfInBounds_toArray, List.set_cons_zero, List.set_cons_succ])
    (refine wpAnyH_take (i := 6) (v := ?_) rfl (by kernel_rfl) (by kernel_rfl) (by kernel_rfl) (fun _ _ _ h => h) (Or.inl ⟨by rfl, ?_⟩) (by assumption) ?_; rotate_left; · (intro w hSw; (try dsimp only at hSw); go_simp; (try with_reducible rfl))); (try simp only [Act.put, List.setIfInBounds_toArray, List.set_cons_zero, List.set_cons_succ])
    refine wpAnyH_ready (rs := [11]) (by kernel_rfl) (by simp) ?_; refine AllReadyH.cons rfl (fun K hK => ?_) AllReadyH.nil; (try simp only [List.getElem_toArray, List.getElem_cons_succ, List.getElem_cons_zero])
    go_simp
    go_at_call 52
    refine (pick_any R (k5 + 1) 40 _ M8.rd (by omega) (by omega) (by omega)).mono ?_
    rintro e w9 ⟨v9, rfl, hv9, hw9, hr9, hu9⟩
    have M9 := M8.pass hr9 hu9
    go_wp2_with fail
    refine hK.out _ _ (M9.bv.c4) (fun hHeld => ?_); clear hK K; (try simp only [Act.put, List.setIfInBounds_toArray, List.set_cons_zero, List.set_cons_succ])
    (refine wpAnyH_take (i := 12) (v := ?_) rfl (by kernel_rfl) (by kernel_rfl) (by kernel_rfl) (fun _ _ _ h => h) (Or.inl ⟨by rfl, ?_⟩) (by assumption) ?_; rotate_left; · (intro w hSw; (try dsimp only at hSw); go_simp; (try with_reducible rfl))); (try simp only [Act.put, List.setIfInBounds_toArray, List.set_cons_zero, List.set_cons_succ])
    (refine wpAnyH_take (i := 13) (v := ?_) rfl (by kernel_rfl) (by kernel_rfl) (by kernel_rfl) (fun _ _ _ h => h) (Or.inl ⟨by rfl, ?_⟩) (by assumption) ?_; rotate_left; · (intro w hSw; (try dsimp only at hSw); go_simp; (try with_reducible rfl))); (try simp only [Act.put, List.setIfInBounds_toArray, List.set_cons_zero, List.set_cons_succ])
    (refine wpAnyH_take (i := 14) (v := ?_) rfl (by kernel_rfl) (by kernel_rfl) (by kernel_rfl) (fun _ _ _ h => h) (Or.inl ⟨by rfl, ?_⟩) (by assumption) ?_; rotate_left; · (intro w hSw; (try dsimp only at hSw); go_simp; (try with_reducible rfl))); (try simp only [Act.put, List.setIfInBounds_toArray, List.set_cons_zero, List.set_cons_succ])
    refine wpAnyH_done (by kernel_rfl) ?_ _
    simp only [TailQ, List.drop_succ_cons, List.drop_zero]
    clear hHeld M7 M8 hr8 hu8 hr9 hu9
    obtain ⟨p0, p1, p2, p3⟩ := M9.bv.c4
    have pf := M9.bv.frozen
    generalize IntKind.i64.wrap (x + IntKind.i64.wrap (v8 * 100)) = X
    generalize IntKind.i64.wrap (y + IntKind.i64.wrap (v9 * 100)) = Y
    have M10 := M9.hi X Y
    have hM := Lib.hid M9
    clear M9
    go_wp2_with fail
    have N1 := M10.drew
    refine wp_region_held_drew (S := fun W => (W.cell? ⟨w2.heap.size, 0, none⟩ = some (.int .i64 x0) ∧ W.cell? ⟨w2.heap.size, 1, none⟩ = some (.int .i64 x1) ∧ W.cell? ⟨w2.heap.size, 2, none⟩ = some (.int .i64 x2) ∧ W.cell? ⟨w2.heap.size, 3, none⟩ = some (.int .i64 x3)) ∧ (W.cell? ⟨w3.heap.size, 0, none⟩ = some (.int .i64 x) ∧ W.cell? ⟨w3.heap.size, 1, none⟩ = some (.int .i64 y) ∧ W.cell? ⟨w3.heap.size, 2, none⟩ = some (.int .i64 X) ∧ W.cell? ⟨w3.heap.size, 3, none⟩ = some (.int .i64 Y))) (by kernel_rfl) ⟨N1.bu.c4, N1.bv.c4⟩ (fun hHeld => ?_)
    simp only [List.size_toArray, List.length_cons, List.length_nil, Nat.zero_add, Nat.reduceAdd]
    have g1 := N1.hR
    have g2 := N1.hU
    have g3 := N1.hV
    have sz := N1.up.size
    (refine wpAnyH_take (i := 0) (v := ?_) rfl (by kernel_rfl) (by kernel_rfl) (by kernel_rfl) (fun _ _ _ h => h) (Or.inl ⟨by rfl, ?_⟩) (by assumption) ?_; rotate_left; · (intro w hSw; (try dsimp only at hSw); go_simp; (try with_reducible rfl))); (try simp only [Act.put, List.setIfInBounds_toArray, List.set_cons_zero, List.set_cons_succ])
    (refine wpAnyH_take (i := 1) (v := ?_) rfl (by kernel_rfl) (by kernel_rfl) (by kernel_rfl) (fun _ _ _ h => h) (Or.inl ⟨by rfl, ?_⟩) (by assumption) ?_; rotate_left; · (intro w hSw; (try dsimp only at hSw); go_simp; (try with_reducible rfl))); (try simp only [Act.put, List.setIfInBounds_toArray, List.set_cons_zero, List.set_cons_succ])
    try simp only [List.getElem_toArray, List.getElem_cons_zero, List.getElem_cons_succ, Act.put, List.setIfInBounds_toArray, List.set_cons_zero, List.set_cons_succ]
    refine wpAnyH_ready (rs := [2]) (by kernel_rfl) (by simp) ?_; refine AllReadyH.cons rfl (fun K hK => ?_) AllReadyH.nil
    refine step_store (by rfl) _ _ _ (by rfl) (by rfl) (by rfl) N1.z0 (by kernel_rfl) (by rfl) (by simp [Value.oneCell']) ?_
    have U8 := N1.bu.rowOther (g := w.heap.size) (by omega) #[.int .i64 x0, .int .i64 x1, .int .i64 x2, .int .i64 x3]
    have V8 := N1.bv.rowOther (g := w.heap.size) (by omega) #[.int .i64 x0, .int .i64 x1, .int .i64 x2, .int .i64 x3]
    have Z8 := N1.z0.row #[.int .i64 x0, .int .i64 x1, .int .i64 x2, .int .i64 x3]
    have Y8 := N1.z1.rowOther (g := w.heap.size) (by omega) #[.int .i64 x0, .int .i64 x1, .int .i64 x2, .int .i64 x3]
    have P8 := N1.up.setRow (g := w.heap.size) (Nat.le_refl _) #[.int .i64 x0, .int .i64 x1, .int .i64 x2, .int .i64 x3]
    refine hK.out _ _ (⟨U8.c4, V8.c4⟩) (fun hHeld => ?_); clear hK K; (try simp only [Act.put, List.setIfInBounds_toArray, List.set_cons_zero, List.set_cons_succ])
    refine wpAnyH_ready (rs := [3]) (by kernel_rfl) (by simp) ?_; refine AllReadyH.cons rfl (fun K hK => ?_) AllReadyH.nil
    refine step_store (by rfl) _ _ _ (by rfl) (by rfl) (by rfl) Y8 (by kernel_rfl) (by rfl) (by simp [Value.oneCell']) ?_
    have U9 := U8.rowOther (g := w.heap.size + 1) (by omega) #[.int .i64 x, .int .i64 y, .int .i64 X, .int .i64 Y]
    have V9 := V8.rowOther (g := w.heap.size + 1) (by omega) #[.int .i64 x, .int .i64 y, .int .i64 X, .int .i64 Y]
    have Z9 := Z8.rowOther (g := w.heap.size + 1) (by omega) #[.int .i64 x, .int .i64 y, .int .i64 X, .int .i64 Y]
    have Y9 := Y8.row #[.int .i64 x, .int .i64 y, .int .i64 X, .int .i64 Y]
    have P9 := P8.setRow (g := w.heap.size + 1) (Nat.le_succ _) #[.int .i64 x, .int .i64 y, .int .i64 X, .int .i64 Y]
    refine hK.out _ _ (⟨U9.c4, V9.c4⟩) (fun hHeld => ?_); clear hK K; (try simp only [Act.put, List.setIfInBounds_toArray, List.set_cons_zero, List.set_cons_succ])
    refine wpAnyH_done (by kernel_rfl) ?_ _
    have hZ := Lib.hid Z9
    have hY := Lib.hid Y9
    have hP := Lib.hid P9
    clear hHeld N1 U8 V8 Z8 Y8 P8 U9 V9 Z9 Y9 P9
    go_wp2
    refine bodyPost_ret (res_row_row rfl rfl hZ.out Try.underlying26 rfl (by kernel_rfl) rfl hY.out Try.underlying26 rfl (by kernel_rfl)) rfl ?_
    exact ⟨_, _, _, _, _, _, _, _, rfl, hP.out.below (by omega)⟩
  · clear b1 b2 b3 b4
    go_wp2_with fail
    have N1 := M5.drew
    refine wp_region_held_drew (S := fun W => (W.cell? ⟨w2.heap.size, 0, none⟩ = some (.int .i64 x0) ∧ W.cell? ⟨w2.heap.size, 1, none⟩ = some (.int .i64 x1) ∧ W.cell? ⟨w2.heap.size, 2, none⟩ = some (.int .i64 x2) ∧ W.cell? ⟨w2.heap.size, 3, none⟩ = some (.int .i64 x3)) ∧ (W.cell? ⟨w3.heap.size, 0, none⟩ = some (.int .i64 z0) ∧ W.cell? ⟨w3.heap.size, 1, none⟩ = some (.int .i64 z1) ∧ W.cell? ⟨w3.heap.size, 2, none⟩ = some (.int .i64 z2) ∧ W.cell? ⟨w3.heap.size, 3, none⟩ = some (.int .i64 z3))) (by kernel_rfl) ⟨N1.bu.c4, N1.bv.c4⟩ (fun hHeld => ?_)
    simp only [List.size_toArray, List.length_cons, List.length_nil, Nat.zero_add, Nat.reduceAdd]
    have g1 := N1.hR
    have g2 := N1.hU
    have g3 := N1.hV
    have sz := N1.up.size
    (refine wpAnyH_take (i := 0) (v := ?_) rfl (by kernel_rfl) (by kernel_rfl) (by kernel_rfl) (fun _ _ _ h => h) (Or.inl ⟨by rfl, ?_⟩) (by assumption) ?_; rotate_left; · (intro w hSw; (try dsimp only at hSw); go_simp; (try with_reducible rfl))); (try simp only [Act.put, List.setIfInBounds_toArray, List.set_cons_zero, List.set_cons_succ])
    (refine wpAnyH_take (i := 1) (v := ?_) rfl (by kernel_rfl) (by kernel_rfl) (by kernel_rfl) (fun _ _ _ h => h) (Or.inl ⟨by rfl, ?_⟩) (by assumption) ?_; rotate_left; · (intro w hSw; (try dsimp only at hSw); go_simp; (try with_reducible rfl))); (try simp only [Act.put, List.setIfInBounds_toArray, List.set_cons_zero, List.set_cons_succ])
    try simp only [List.getElem_toArray, List.getElem_cons_zero, List.getElem_cons_succ, Act.put, List.setIfInBounds_toArray, List.set_cons_zero, List.set_cons_succ]
    refine wpAnyH_ready (rs := [2]) (by kernel_rfl) (by simp) ?_; refine AllReadyH.cons rfl (fun K hK => ?_) AllReadyH.nil
    refine step_store (by rfl) _ _ _ (by rfl) (by rfl) (by rfl) N1.z0 (by kernel_rfl) (by rfl) (by simp [Value.oneCell']) ?_
    have U8 := N1.bu.rowOther (g := w.heap.size) (by omega) #[.int .i64 x0, .int .i64 x1, .int .i64 x2, .int .i64 x3]
    have V8 := N1.bv.rowOther (g := w.heap.size) (by omega) #[.int .i64 x0, .int .i64 x1, .int .i64 x2, .int .i64 x3]
    have Z8 := N1.z0.row #[.int .i64 x0, .int .i64 x1, .int .i64 x2, .int .i64 x3]
    have Y8 := N1.z1.rowOther (g := w.heap.size) (by omega) #[.int .i64 x0, .int .i64 x1, .int .i64 x2, .int .i64 x3]
    have P8 := N1.up.setRow (g := w.heap.size) (Nat.le_refl _) #[.int .i64 x0, .int .i64 x1, .int .i64 x2, .int .i64 x3]
    refine hK.out _ _ (⟨U8.c4, V8.c4⟩) (fun hHeld => ?_); clear hK K; (try simp only [Act.put, List.setIfInBounds_toArray, List.set_cons_zero, List.set_cons_succ])
    refine wpAnyH_ready (rs := [3]) (by kernel_rfl) (by simp) ?_; refine AllReadyH.cons rfl (fun K hK => ?_) AllReadyH.nil
    refine step_store (by rfl) _ _ _ (by rfl) (by rfl) (by rfl) Y8 (by kernel_rfl) (by rfl) (by simp [Value.oneCell']) ?_
    have U9 := U8.rowOther (g := w.heap.size + 1) (by omega) #[.int .i64 z0, .int .i64 z1, .int .i64 z2, .int .i64 z3]
    have V9 := V8.rowOther (g := w.heap.size + 1) (by omega) #[.int .i64 z0, .int .i64 z1, .int .i64 z2, .int .i64 z3]
    have Z9 := Z8.rowOther (g := w.heap.size + 1) (by omega) #[.int .i64 z0, .int .i64 z1, .int .i64 z2, .int .i64 z3]
    have Y9 := Y8.row #[.int .i64 z0, .int .i64 z1, .int .i64 z2, .int .i64 z3]
    have P9 := P8.setRow (g := w.heap.size + 1) (Nat.le_succ _) #[.int .i64 z0, .int .i64 z1, .int .i64 z2, .int .i64 z3]
    refine hK.out _ _ (⟨U9.c4, V9.c4⟩) (fun hHeld => ?_); clear hK K; (try simp only [Act.put, List.setIfInBounds_toArray, List.set_cons_zero, List.set_cons_succ])
    refine wpAnyH_done (by kernel_rfl) ?_ _
    have hZ := Lib.hid Z9
    have hY := Lib.hid Y9
    have hP := Lib.hid P9
    clear hHeld N1 U8 V8 Z8 Y8 P8 U9 V9 Z9 Y9 P9
    go_wp2
    refine bodyPost_ret (res_row_row rfl rfl hZ.out Try.underlying26 rfl (by kernel_rfl) rfl hY.out Try.underlying26 rfl (by kernel_rfl)) rfl ?_
    exact ⟨_, _, _, _, _, _, _, _, rfl, hP.out.below (by omega)⟩
end Go.Proofs.Ytgghfbkeipchkaa

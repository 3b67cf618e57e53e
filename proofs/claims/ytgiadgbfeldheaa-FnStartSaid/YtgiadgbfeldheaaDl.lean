/- The levels drawn. -/
import Derived.Test.YtgiadgbfeldheaaRw
import Derived.Test.YtgiadgbfeldheaaZn
import Derived.Test.YtgiadgbfeldheaaCt
set_option linter.unusedVariables false
set_option linter.unusedSimpArgs false
namespace Go.Proofs.Ytgiadgbfeldheaa
open Go.RowKit

theorem sgn2_bd {a s : Int} (h1 : 0 ≤ a) (h2 : a < 20) (h5 : 0 ≤ s) (h6 : s < 2) : -3400 ≤ (1500 + a * 100) * (1 - 2 * s) ∧ (1500 + a * 100) * (1 - 2 * s) ≤ 3400 := by
  rcases two_of h5 h6 with rfl | rfl <;> omega
def bx0 : Nat → Bx := fun _ => ⟨0, 0, 0, 0⟩
set_option maxRecDepth 100000 in
set_option maxHeartbeats 1000000 in
theorem lLevel_any (R k : Nat) (w : World) (hr : Rd w R k) (hk : k < 800000) : Calls Try.prog 45 #[.pointer (some ⟨R, 0, none⟩)] w (DrawnLevel 4 60 R k w) := by
  have hR := hr.lt
  have hne : w.heap.size ≠ R := by omega
  go_enter Try.func45, Try.ntmps45
  go_wp2_with fail; refine (pick_any R _ _ _ (by (first | assumption | exact Rd.keep ‹Rd _ R _› (by (repeat (first | with_reducible assumption | with_reducible exact Below.refl _ _ | ((with_reducible refine Below.alloc ?_ ?_ _); rotate_left; · exact (by first | omega | (simp; done) | (simp; omega))) | ((with_reducible refine Below.setCell ?_ ?_ _); rotate_left; · exact (by first | omega | (simp; done) | (simp; omega))) | with_reducible refine Below.drew ?_ | assumption | exact Below.refl _ _ | refine Below.alloc ?_ (by first | omega | (simp; done) | (simp; omega)) _ | refine Below.setCell ?_ (by first | omega | (simp; done) | (simp; omega)) _ | refine Below.drew ?_))))) (by omega) (by omega) (by omega)).mono ?_; rintro e w1 ⟨v1, rfl, hv1, hw1, hr1, hu1⟩; have hz1 : w.heap.size ≤ w1.heap.size := (by have := hu1.size; first | omega | (simp at this; omega)); have hU1 : Up R w.heap.size w w1 := upstep (by (repeat (first | assumption | exact Up.refl _ _ _ | refine Up.alloc ?_ (by first | omega | (simp; done) | (simp; omega)) _ | refine Up.setCell ?_ (.inr (by first | omega | (simp; done) | (simp; omega))) _ | refine Up.drew ?_ | refine Up.drewN ?_ _))) (by first | omega | (simp; done) | (simp; omega)) hu1
  go_wp2_with fail; refine (pick_any R _ _ _ (by (first | assumption | exact Rd.keep ‹Rd _ R _› (by (repeat (first | with_reducible assumption | with_reducible exact Below.refl _ _ | ((with_reducible refine Below.alloc ?_ ?_ _); rotate_left; · exact (by first | omega | (simp; done) | (simp; omega))) | ((with_reducible refine Below.setCell ?_ ?_ _); rotate_left; · exact (by first | omega | (simp; done) | (simp; omega))) | with_reducible refine Below.drew ?_ | assumption | exact Below.refl _ _ | refine Below.alloc ?_ (by first | omega | (simp; done) | (simp; omega)) _ | refine Below.setCell ?_ (by first | omega | (simp; done) | (simp; omega)) _ | refine Below.drew ?_))))) (by omega) (by omega) (by omega)).mono ?_; rintro e w2 ⟨v2, rfl, hv2, hw2, hr2, hu2⟩; have hz2 : w.heap.size ≤ w2.heap.size := (by have := hu2.size; first | omega | (simp at this; omega)); have hU2 : Up R w.heap.size w w2 := upstep (by (repeat (first | assumption | exact Up.refl _ _ _ | refine Up.alloc ?_ (by first | omega | (simp; done) | (simp; omega)) _ | refine Up.setCell ?_ (.inr (by first | omega | (simp; done) | (simp; omega))) _ | refine Up.drew ?_ | refine Up.drewN ?_ _))) (by first | omega | (simp; done) | (simp; omega)) hu2
  go_wp2_with fail; refine (pick_any R _ _ _ (by (first | assumption | exact Rd.keep ‹Rd _ R _› (by (repeat (first | with_reducible assumption | with_reducible exact Below.refl _ _ | ((with_reducible refine Below.alloc ?_ ?_ _); rotate_left; · exact (by first | omega | (simp; done) | (simp; omega))) | ((with_reducible refine Below.setCell ?_ ?_ _); rotate_left; · exact (by first | omega | (simp; done) | (simp; omega))) | with_reducible refine Below.drew ?_ | assumption | exact Below.refl _ _ | refine Below.alloc ?_ (by first | omega | (simp; done) | (simp; omega)) _ | refine Below.setCell ?_ (by first | omega | (simp; done) | (simp; omega)) _ | refine Below.drew ?_))))) (by omega) (by omega) (by omega)).mono ?_; rintro e w3 ⟨v3, rfl, hv3, hw3, hr3, hu3⟩; have hz3 : w.heap.size ≤ w3.heap.size := (by have := hu3.size; first | omega | (simp at this; omega)); have hU3 : Up R w.heap.size w w3 := upstep (by (repeat (first | assumption | exact Up.refl _ _ _ | refine Up.alloc ?_ (by first | omega | (simp; done) | (simp; omega)) _ | refine Up.setCell ?_ (.inr (by first | omega | (simp; done) | (simp; omega))) _ | refine Up.drew ?_ | refine Up.drewN ?_ _))) (by first | omega | (simp; done) | (simp; omega)) hu3
  go_wp2_with fail; refine (pick_any R _ _ _ (by (first | assumption | exact Rd.keep ‹Rd _ R _› (by (repeat (first | with_reducible assumption | with_reducible exact Below.refl _ _ | ((with_reducible refine Below.alloc ?_ ?_ _); rotate_left; · exact (by first | omega | (simp; done) | (simp; omega))) | ((with_reducible refine Below.setCell ?_ ?_ _); rotate_left; · exact (by first | omega | (simp; done) | (simp; omega))) | with_reducible refine Below.drew ?_ | assumption | exact Below.refl _ _ | refine Below.alloc ?_ (by first | omega | (simp; done) | (simp; omega)) _ | refine Below.setCell ?_ (by first | omega | (simp; done) | (simp; omega)) _ | refine Below.drew ?_))))) (by omega) (by omega) (by omega)).mono ?_; rintro e w4 ⟨v4, rfl, hv4, hw4, hr4, hu4⟩; have hz4 : w.heap.size ≤ w4.heap.size := (by have := hu4.size; first | omega | (simp at this; omega)); have hU4 : Up R w.heap.size w w4 := upstep (by (repeat (first | assumption | exact Up.refl _ _ _ | refine Up.alloc ?_ (by first | omega | (simp; done) | (simp; omega)) _ | refine Up.setCell ?_ (.inr (by first | omega | (simp; done) | (simp; omega))) _ | refine Up.drew ?_ | refine Up.drewN ?_ _))) (by first | omega | (simp; done) | (simp; omega)) hu4
  go_wp2_with fail
  refine (pick_any R (k + 1 + 1 + 1 + 1) _ _ (by (first | assumption | exact Rd.keep ‹Rd _ R _› (by (repeat (first | with_reducible assumption | with_reducible exact Below.refl _ _ | ((with_reducible refine Below.alloc ?_ ?_ _); rotate_left; · exact (by first | omega | (simp; done) | (simp; omega))) | ((with_reducible refine Below.setCell ?_ ?_ _); rotate_left; · exact (by first | omega | (simp; done) | (simp; omega))) | with_reducible refine Below.drew ?_ | assumption | exact Below.refl _ _ | refine Below.alloc ?_ (by first | omega | (simp; done) | (simp; omega)) _ | refine Below.setCell ?_ (by first | omega | (simp; done) | (simp; omega)) _ | refine Below.drew ?_))))) (by omega) (by omega) (by omega)).mono ?_
  rintro e w5 ⟨v5, rfl, hv5, hw5, hr5, hu5⟩
  have Z0 : Blk (w.alloc (.cells #[.int .i64 0, .int .i64 0, .int .i64 0, .int .i64 0, .slice none 0 0, .slice none 0 0, .int .i64 0, .int .i64 0, .int .i64 0, .int .i64 0, .int .i64 0] 43)) w.heap.size #[.int .i64 0, .int .i64 0, .int .i64 0, .int .i64 0, .slice none 0 0, .slice none 0 0, .int .i64 0, .int .i64 0, .int .i64 0, .int .i64 0, .int .i64 0] := Blk.at rfl
  have Z4 := (((Z0.up hu1 Z0.lt hne).up hu2 (Z0.up hu1 Z0.lt hne).lt hne).up hu3 ((Z0.up hu1 Z0.lt hne).up hu2 (Z0.up hu1 Z0.lt hne).lt hne).lt hne).up hu4 (((Z0.up hu1 Z0.lt hne).up hu2 (Z0.up hu1 Z0.lt hne).lt hne).up hu3 ((Z0.up hu1 Z0.lt hne).up hu2 (Z0.up hu1 Z0.lt hne).lt hne).lt hne).lt hne
  have hz4 := Z4.lt
  have hn4 : w4.heap.size ≠ R := by omega
  have hn4' : w4.heap.size + 1 ≠ R := by omega
  have hZs : w.heap.size < ((w4.alloc (.cells #[] 41)).alloc (.cells #[] 41)).heap.size := by simp; omega
  have Z5 := ((Z4.alloc (.cells #[] 41)).alloc (.cells #[] 41)).up hu5 hZs hne
  have W5 : Row w5 w4.heap.size 0 0 bx0 := ((Row.empty bx0 rfl).alloc _).up hu5 (by simp; omega) hn4
  have G5 : Row w5 (w4.heap.size + 1) 0 0 bx0 := (Row.empty bx0 (by simp)).up hu5 (by simp) hn4'
  have hU5 : Up R w.heap.size w w5 := upstep (by (repeat (first | assumption | exact Up.refl _ _ _ | refine Up.alloc ?_ (by first | omega | (simp; done) | (simp; omega)) _ | refine Up.setCell ?_ (.inr (by first | omega | (simp; done) | (simp; omega))) _ | refine Up.drew ?_ | refine Up.drewN ?_ _))) (by first | omega | (simp; done) | (simp; omega)) hu5
  have hz5 := Z5.lt
  have hwl := W5.lt
  have hgl := G5.lt
  clear Z0 Z4 hu1 hu2 hu3 hu4 hu5 hU1 hU2 hU3 hU4 hr1 hr2 hr3 hr4
  go_wp2_with fail
  have M5 : LM w R w5.heap.size w4.heap.size (w4.heap.size + 1) (k + 1 + 1 + 1 + 1 + 1) v1 (10 + v2) (v3 * 100) (v4 * 100 - 500) 0 0 0 0 0 0 0 0 v5 bx0 bx0 (w5.alloc (.cells #[.int .i64 v1, .int .i64 (10 + v2), .int .i64 (v3 * 100), .int .i64 (v4 * 100 - 500), .slice (some ⟨w4.heap.size, 0, none⟩) 0 0, .slice (some ⟨w4.heap.size + 1, 0, none⟩) 0 0, .int .i64 0, .int .i64 0, .int .i64 0, .int .i64 0, .int .i64 v5] 43)) :=
    ⟨hr5.keep ((Below.refl _ _).alloc (by omega) _), hU5.alloc (by omega) _, Blk.at rfl, Z5.alloc _, W5.alloc _, G5.alloc _, hR, hz5, by omega, by omega, by omega, by omega, by omega⟩
  refine (pick_any R (k + 1 + 1 + 1 + 1 + 1) 3 _ M5.rd (by omega) (by omega) (by omega)).mono ?_
  rintro e w6 ⟨n, rfl, hn0, hn3, hr6, hu6⟩
  have M6 := M5.pass hr6 hu6
  clear M5 hr6 hu6 hr5 hU5 Z5 W5 G5 hZs hn4 hn4' hz5 hwl hgl
  generalize w5.heap.size = L at *
  generalize w4.heap.size + 1 = gg0 at *
  generalize w4.heap.size = gw at *
  have hw6 := M6.up.size
  clear hz1 hz2 hz3 hz4
  go_wp2_with fail
  go_loopw [4, 6] (fun xv iv wr => ∃ (j kk gg cg : Nat) (x : Int) (gf : Nat → Bx), xv = .int .i64 x ∧ iv = .int .i64 j ∧ (j : Int) ≤ n ∧ 0 ≤ x ∧ x ≤ 1000 + 3000 * j ∧ k + 6 ≤ kk ∧ kk ≤ k + 6 + 2 * j ∧ (∀ i, i < j → (gf i).sm) ∧ LM w R L gw gg kk v1 (10 + v2) (v3 * 100) (v4 * 100 - 500) 0 0 j cg 0 0 0 0 v5 bx0 gf wr) (fun _ iv _ => (n - intOf iv).toNat)
  case atStart => exact ⟨0, k + 1 + 1 + 1 + 1 + 1 + 1, gg0, 0, v3 * 100, bx0, rfl, rfl, by omega, by omega, by omega, by omega, by omega, fun i hi => absurd hi (Nat.not_lt_zero _), M6⟩
  case round =>
    obtain ⟨j, kk, gg, cg, x, gf, rfl, rfl, hj, hx0, hx1, hk0, hk1, hsm, M7⟩ := hrel
    clear M6
    by_cases hlt : (j : Int) < n
    · go_wp2_with fail
      refine (pick_any R kk 20 _ M7.rd (by omega) (by omega) (by omega)).mono ?_
      rintro e w8 ⟨v8, rfl, hv8, hw8, hr8, hu8⟩
      have M8 := M7.pass hr8 hu8
      clear M7 hr8 hu8
      go_wp2_with fail
      have hX0 : 0 ≤ x + 200 + v8 * 100 := by omega
      have hX1 : x + 200 + v8 * 100 ≤ 3100 + 3000 * j := by omega
      generalize x + 200 + v8 * 100 = X at *
      have M8d := M8.drew
      refine wp_region_cut 13 (by kernel_rfl) (by kernel_rfl) (S := fun W => W.cell? ⟨L, 5, none⟩ = some (.slice (some ⟨gg, 0, none⟩) j cg)) M8d.cells.2.2.2.2.2.1 (fun hHeld => ?_)
      simp only [List.take_succ_cons, List.take_zero]
      (refine wpAnyH_take (i := 0) (v := ?_) rfl (by kernel_rfl) (by kernel_rfl) (by kernel_rfl) (fun _ _ _ h => h) (Or.inl ⟨by rfl, ?_⟩) (by assumption) ?_; rotate_left; · (intro w hSw; (try dsimp only at hSw); go_simp; (try with_reducible rfl))); (try simp only [Act.put, List.setIfInBounds_toArray, List.set_cons_zero, List.set_cons_succ])
      (refine wpAnyH_take (i := 1) (v := ?_) rfl (by kernel_rfl) (by kernel_rfl) (by kernel_rfl) (fun _ _ _ h => h) (Or.inl ⟨by rfl, ?_⟩) (by assumption) ?_; rotate_left; · (intro w hSw; (try dsimp only at hSw); go_simp; (try with_reducible rfl))); (try simp only [Act.put, List.setIfInBounds_toArray, List.set_cons_zero, List.set_cons_succ])
      (refine wpAnyH_take (i := 2) (v := ?_) rfl (by kernel_rfl) (by kernel_rfl) (by kernel_rfl) (fun _ _ _ h => h) (Or.inl ⟨by rfl, ?_⟩) (by assumption) ?_; rotate_left; · (intro w hSw; (try dsimp only at hSw); go_simp; (try with_reducible rfl))); (try simp only [Act.put, List.setIfInBounds_toArray, List.set_cons_zero, List.set_cons_succ])
      (refine wpAnyH_take (i := 3) (v := ?_) rfl (by kernel_rfl) (by kernel_rfl) (by kernel_rfl) (fun _ _ _ h => h) (Or.inl ⟨by rfl, ?_⟩) (by assumption) ?_; rotate_left; · (intro w hSw; (try dsimp only at hSw); go_simp; (try with_reducible rfl))); (try simp only [Act.put, List.setIfInBounds_toArray, List.set_cons_zero, List.set_cons_succ])
      (refine wpAnyH_take (i := 4) (v := ?_) rfl (by kernel_rfl) (by kernel_rfl) (by kernel_rfl) (fun _ _ _ h => h) (Or.inl ⟨by rfl, ?_⟩) (by assumption) ?_; rotate_left; · (intro w hSw; (try dsimp only at hSw); go_simp; (try with_reducible rfl))); (try simp only [Act.put, List.setIfInBounds_toArray, List.set_cons_zero, List.set_cons_succ])
      (refine wpAnyH_take (i := 5) (v := ?_) rfl (by kernel_rfl) (by kernel_rfl) (by kernel_rfl) (fun _ _ _ h => h) (Or.inl ⟨by rfl, ?_⟩) (by assumption) ?_; rotate_left; · (intro w hSw; (try dsimp only at hSw); go_simp; (try with_reducible rfl))); (try simp only [Act.put, List.setIfInBounds_toArray, List.set_cons_zero, List.set_cons_succ])
      (refine wpAnyH_take (i := 6) (v := ?_) rfl (by kernel_rfl) (by kernel_rfl) (by kernel_rfl) (fun _ _ _ h => h) (Or.inl ⟨by rfl, ?_⟩) (by assumption) ?_; rotate_left; · (intro w hSw; (try dsimp only at hSw); go_simp; (try with_reducible rfl))); (try simp only [Act.put, List.setIfInBounds_toArray, List.set_cons_zero, List.set_cons_succ])
      refine wpAnyH_ready (rs := [7]) (by kernel_rfl) (by simp) ?_; refine AllReadyH.cons rfl (fun K hK => ?_) AllReadyH.nil; (try simp only [List.getElem_toArray, List.getElem_cons_succ, List.getElem_cons_zero])
      go_simp
      go_at_call 64
      refine (pick_any R (kk + 1) 20 _ M8d.rd (by omega) (by omega) (by omega)).mono ?_
      rintro e w9 ⟨v9, rfl, hv9, hw9, hr9, hu9⟩
      have M9 := M8d.pass hr9 hu9
      go_wp2_with fail
      refine hK.out _ _ (M9.cells.2.2.2.2.2.1) (fun hHeld => ?_); clear hK K; (try simp only [Act.put, List.setIfInBounds_toArray, List.set_cons_zero, List.set_cons_succ])
      (refine wpAnyH_take (i := 8) (v := ?_) rfl (by kernel_rfl) (by kernel_rfl) (by kernel_rfl) (fun _ _ _ h => h) (Or.inl ⟨by rfl, ?_⟩) (by assumption) ?_; rotate_left; · (intro w hSw; (try dsimp only at hSw); go_simp; (try with_reducible rfl))); (try simp only [Act.put, List.setIfInBounds_toArray, List.set_cons_zero, List.set_cons_succ])
      (refine wpAnyH_take (i := 9) (v := ?_) rfl (by kernel_rfl) (by kernel_rfl) (by kernel_rfl) (fun _ _ _ h => h) (Or.inl ⟨by rfl, ?_⟩) (by assumption) ?_; rotate_left; · (intro w hSw; (try dsimp only at hSw); go_simp; (try with_reducible rfl))); (try simp only [Act.put, List.setIfInBounds_toArray, List.set_cons_zero, List.set_cons_succ])
      (refine wpAnyH_take (i := 10) (v := ?_) rfl (by kernel_rfl) (by kernel_rfl) (by kernel_rfl) (fun _ _ _ h => h) (Or.inl ⟨by rfl, ?_⟩) (by assumption) ?_; rotate_left; · (intro w hSw; (try dsimp only at hSw); go_simp; (try with_reducible rfl))); (try simp only [Act.put, List.setIfInBounds_toArray, List.set_cons_zero, List.set_cons_succ])
      (refine wpAnyH_take (i := 11) (v := ?_) rfl (by kernel_rfl) (by kernel_rfl) (by kernel_rfl) (fun _ _ _ h => h) (Or.inl ⟨by rfl, ?_⟩) (by assumption) ?_; rotate_left; · (intro w hSw; (try dsimp only at hSw); go_simp; (try with_reducible rfl))); (try simp only [Act.put, List.setIfInBounds_toArray, List.set_cons_zero, List.set_cons_succ])
      refine wpAnyH_ready (rs := [12]) (by kernel_rfl) (by simp) ?_; refine AllReadyH.cons rfl (fun K hK => ?_) AllReadyH.nil; (try simp only [List.getElem_toArray, List.getElem_cons_succ, List.getElem_cons_zero])
      go_simp
      refine hK.out _ _ ((M9.alloc _).cells.2.2.2.2.2.1) (fun hHeld => ?_); clear hK K; (try simp only [Act.put, List.setIfInBounds_toArray, List.set_cons_zero, List.set_cons_succ])
      refine wpAnyH_done (by kernel_rfl) ?_ _
      simp only [TailQ, List.drop_succ_cons, List.drop_zero]
      have e9 : IntKind.i64.wrap (IntKind.i64.wrap (X + 1500) + IntKind.i64.wrap (v9 * 100)) = X + 1500 + v9 * 100 := by rw [IntWalk.i64_in (X + 1500) (by omega), IntWalk.i64_in (v9 * 100) (by omega)]; exact IntWalk.i64_in _ (by omega)
      rw [e9]
      have M10 := M9.alloc (.cells #[.int .i64 X, .int .i64 (-3000), .int .i64 (X + 1500 + v9 * 100), .int .i64 3000] 41)
      have hX9 : X + 1500 + v9 * 100 ≤ 20000 := by omega
      refine app_one rfl _ _ rfl gg cg j gf X (-3000) (X + 1500 + v9 * 100) 3000 w9.heap.size 1 rfl M10.gr rfl (Blk.at rfl) (by omega) ?_
      intro g' c' w11 hrow hat hu hlt11
      have q5 := (M10.blk.up hu M10.blk.lt (fun e => M10.n3 e.symm)).cell 5
      have qf := (M10.blk.up hu M10.blk.lt (fun e => M10.n3 e.symm)).frozen 5
      have M11 := M10.gates hrow hat hu
      clear M8 M8d M9 M10 hr9 hu9
      go_wp2
      go_roundw
      case rel => exact ⟨j + 1, kk + 1 + 1, g', c', X, _, rfl, by go_num, by omega, by omega, by omega, by omega, by omega, snoc_all hsm (Bx.sm_of (by omega) (by omega) (by omega) (by omega) (by omega) (by omega) (by omega) (by omega)), M11⟩
      case measure => simp [intOf]; omega
    · obtain rfl : (j : Int) = n := by omega
      go_wp2_with fail
      refine (pick_any R kk 20 _ M7.rd (by omega) (by omega) (by omega)).mono ?_
      rintro e w12 ⟨v12, rfl, hv12, hw12, hr12, hu12⟩
      have M12 := M7.pass hr12 hu12
      clear M7 hr12 hu12
      obtain ⟨_, _, _, _, _, _, q6, q7, q8, q9, _⟩ := M12.cells
      have qf := M12.frozen
      have hX0 : 0 ≤ x + 500 + v12 * 100 := by omega
      have hX1 : x + 500 + v12 * 100 ≤ 20000 := by omega
      go_wp2_with fail
      generalize x + 500 + v12 * 100 = X at *
      have M13 := M12.fin X (-4000) (X + 6000) 4000
      refine (pick_any R (kk + 1) 4 _ M13.rd (by omega) (by omega) (by omega)).mono ?_
      rintro e w14 ⟨m, rfl, hm0, hm4, hr14, hu14⟩
      have M14 := M13.pass hr14 hu14
      clear q6 q7 q8 q9 qf M12 M13 hr14 hu14
      go_wp2_with fail
      go_loopw [7] (fun iv wr => ∃ (i kz gw cw : Nat) (wf : Nat → Bx), iv = .int .i64 i ∧ (i : Int) ≤ m ∧ k + 6 ≤ kz ∧ kz ≤ k + 20 + 4 * i ∧ (∀ t, t < i → (wf t).sm) ∧ LM w R L gw gg kz v1 (10 + v2) (v3 * 100) (v4 * 100 - 500) i cw j cg X (-4000) (X + 6000) 4000 v5 wf gf wr) (fun iv _ => (m - intOf iv).toNat)
      case atStart => exact ⟨0, kk + 1 + 1, gw, 0, bx0, rfl, by omega, by omega, by omega, fun i hi => absurd hi (Nat.not_lt_zero _), M14⟩
      case round =>
        obtain ⟨i, kz, gw, cw, wf, rfl, hi, hk2, hk3, hwsm, M15⟩ := hrel
        clear M14
        by_cases hlt : (i : Int) < m
        · go_wp2_with fail
          refine (pick_any R kz 40 _ M15.rd (by omega) (by omega) (by omega)).mono ?_
          rintro e w16 ⟨v16, rfl, hv16, hw16, hr16, hu16⟩
          have M16 := M15.pass hr16 hu16
          go_wp2_with fail
          refine (pick_any R (kz + 1) 20 _ M16.rd (by omega) (by omega) (by omega)).mono ?_
          rintro e w17 ⟨v17, rfl, hv17, hw17, hr17, hu17⟩
          have M17 := M16.pass hr17 hu17
          go_wp2_with fail
          refine (pick_any R (kz + 1 + 1) 2 _ M17.rd (by omega) (by omega) (by omega)).mono ?_
          rintro e w18 ⟨v18, rfl, hv18, hw18, hr18, hu18⟩
          have M18 := M17.pass hr18 hu18
          clear M15 M16 M17 hr16 hr17 hr18 hu16 hu17 hu18
          obtain ⟨y0, y1⟩ := sgn2_bd hv17 hw17 hv18 hw18
          have hx0 : -2000 ≤ v16 * 400 - 2000 := by omega
          have hx1 : v16 * 400 - 2000 ≤ 14000 := by omega
          go_wp2_with fail
          generalize (1500 + v17 * 100) * (1 - 2 * v18) = Y at *
          generalize v16 * 400 - 2000 = Z at *
          have hV := M18.rd.lt
          have V19 : Blk (w18.alloc (.cells #[.int .i64 Z, .int .i64 Y] 34)).drew w18.heap.size #[.int .i64 Z, .int .i64 Y] := (show Blk (w18.alloc (.cells #[.int .i64 Z, .int .i64 Y] 34)) w18.heap.size #[.int .i64 Z, .int .i64 Y] from Blk.at rfl)
          have M19 := (M18.alloc (.cells #[.int .i64 Z, .int .i64 Y] 34)).drew
          have hVR : w18.heap.size ≠ R := by omega
          refine wp_region_cut 21 (by kernel_rfl) (by kernel_rfl) (S := fun W => W.cell? ⟨L, 4, none⟩ = some (.slice (some ⟨gw, 0, none⟩) i cw) ∧ W.cell? ⟨w18.heap.size, 0, none⟩ = some (.int .i64 Z) ∧ W.cell? ⟨w18.heap.size, 1, none⟩ = some (.int .i64 Y)) ⟨M19.cells.2.2.2.2.1, V19.c2⟩ (fun hHeld => ?_)
          simp only [List.take_succ_cons, List.take_zero]
          (refine wpAnyH_take (i := 0) (v := ?_) rfl (by kernel_rfl) (by kernel_rfl) (by kernel_rfl) (fun _ _ _ h => h) (Or.inl ⟨by rfl, ?_⟩) (by assumption) ?_; rotate_left; · (intro w hSw; (try dsimp only at hSw); go_simp; (try with_reducible rfl))); (try simp only [Act.put, List.setIfInBounds_toArray, List.set_cons_zero, List.set_cons_succ])
          (refine wpAnyH_take (i := 1) (v := ?_) rfl (by kernel_rfl) (by kernel_rfl) (by kernel_rfl) (fun _ _ _ h => h) (Or.inl ⟨by rfl, ?_⟩) (by assumption) ?_; rotate_left; · (intro w hSw; (try dsimp only at hSw); go_simp; (try with_reducible rfl))); (try simp only [Act.put, List.setIfInBounds_toArray, List.set_cons_zero, List.set_cons_succ])
          (refine wpAnyH_take (i := 2) (v := ?_) rfl (by kernel_rfl) (by kernel_rfl) (by kernel_rfl) (fun _ _ _ h => h) (Or.inl ⟨by rfl, ?_⟩) (by assumption) ?_; rotate_left; · (intro w hSw; (try dsimp only at hSw); go_simp; (try with_reducible rfl))); (try simp only [Act.put, List.setIfInBounds_toArray, List.set_cons_zero, List.set_cons_succ])
          (refine wpAnyH_take (i := 3) (v := ?_) rfl (by kernel_rfl) (by kernel_rfl) (by kernel_rfl) (fun _ _ _ h => h) (Or.inl ⟨by rfl, ?_⟩) (by assumption) ?_; rotate_left; · (intro w hSw; (try dsimp only at hSw); go_simp; (try with_reducible rfl))); (try simp only [Act.put, List.setIfInBounds_toArray, List.set_cons_zero, List.set_cons_succ])
          (refine wpAnyH_take (i := 4) (v := ?_) rfl (by kernel_rfl) (by kernel_rfl) (by kernel_rfl) (fun _ _ _ h => h) (Or.inl ⟨by rfl, ?_⟩) (by assumption) ?_; rotate_left; · (intro w hSw; (try dsimp only at hSw); go_simp; (try with_reducible rfl))); (try simp only [Act.put, List.setIfInBounds_toArray, List.set_cons_zero, List.set_cons_succ])
          (refine wpAnyH_take (i := 5) (v := ?_) rfl (by kernel_rfl) (by kernel_rfl) (by kernel_rfl) (fun _ _ _ h => h) (Or.inl ⟨by rfl, ?_⟩) (by assumption) ?_; rotate_left; · (intro w hSw; (try dsimp only at hSw); go_simp; (try with_reducible rfl))); (try simp only [Act.put, List.setIfInBounds_toArray, List.set_cons_zero, List.set_cons_succ])
          (refine wpAnyH_take (i := 6) (v := ?_) rfl (by kernel_rfl) (by kernel_rfl) (by kernel_rfl) (fun _ _ _ h => h) (Or.inl ⟨by rfl, ?_⟩) (by assumption) ?_; rotate_left; · (intro w hSw; (try dsimp only at hSw); go_simp; (try with_reducible rfl))); (try simp only [Act.put, List.setIfInBounds_toArray, List.set_cons_zero, List.set_cons_succ])
          (refine wpAnyH_take (i := 7) (v := ?_) rfl (by kernel_rfl) (by kernel_rfl) (by kernel_rfl) (fun _ _ _ h => h) (Or.inl ⟨by rfl, ?_⟩) (by assumption) ?_; rotate_left; · (intro w hSw; (try dsimp only at hSw); go_simp; (try with_reducible rfl))); (try simp only [Act.put, List.setIfInBounds_toArray, List.set_cons_zero, List.set_cons_succ])
          (refine wpAnyH_take (i := 8) (v := ?_) rfl (by kernel_rfl) (by kernel_rfl) (by kernel_rfl) (fun _ _ _ h => h) (Or.inl ⟨by rfl, ?_⟩) (by assumption) ?_; rotate_left; · (intro w hSw; (try dsimp only at hSw); go_simp; (try with_reducible rfl))); (try simp only [Act.put, List.setIfInBounds_toArray, List.set_cons_zero, List.set_cons_succ])
          (refine wpAnyH_take (i := 9) (v := ?_) rfl (by kernel_rfl) (by kernel_rfl) (by kernel_rfl) (fun _ _ _ h => h) (Or.inl ⟨by rfl, ?_⟩) (by assumption) ?_; rotate_left; · (intro w hSw; (try dsimp only at hSw); go_simp; (try with_reducible rfl))); (try simp only [Act.put, List.setIfInBounds_toArray, List.set_cons_zero, List.set_cons_succ])
          (refine wpAnyH_take (i := 10) (v := ?_) rfl (by kernel_rfl) (by kernel_rfl) (by kernel_rfl) (fun _ _ _ h => h) (Or.inl ⟨by rfl, ?_⟩) (by assumption) ?_; rotate_left; · (intro w hSw; (try dsimp only at hSw); go_simp; (try with_reducible rfl))); (try simp only [Act.put, List.setIfInBounds_toArray, List.set_cons_zero, List.set_cons_succ])
          (refine wpAnyH_take (i := 11) (v := ?_) rfl (by kernel_rfl) (by kernel_rfl) (by kernel_rfl) (fun _ _ _ h => h) (Or.inl ⟨by rfl, ?_⟩) (by assumption) ?_; rotate_left; · (intro w hSw; (try dsimp only at hSw); go_simp; (try with_reducible rfl))); (try simp only [Act.put, List.setIfInBounds_toArray, List.set_cons_zero, List.set_cons_succ])
          (refine wpAnyH_take (i := 15) (v := ?_) rfl (by kernel_rfl) (by kernel_rfl) (by kernel_rfl) (fun _ _ _ h => h) (Or.inl ⟨by rfl, ?_⟩) (by assumption) ?_; rotate_left; · (intro w hSw; (try dsimp only at hSw); go_simp; (try with_reducible rfl))); (try simp only [Act.put, List.setIfInBounds_toArray, List.set_cons_zero, List.set_cons_succ])
          (refine wpAnyH_take (i := 16) (v := ?_) rfl (by kernel_rfl) (by kernel_rfl) (by kernel_rfl) (fun _ _ _ h => h) (Or.inl ⟨by rfl, ?_⟩) (by assumption) ?_; rotate_left; · (intro w hSw; (try dsimp only at hSw); go_simp; (try with_reducible rfl))); (try simp only [Act.put, List.setIfInBounds_toArray, List.set_cons_zero, List.set_cons_succ])
          (refine wpAnyH_take (i := 17) (v := ?_) rfl (by kernel_rfl) (by kernel_rfl) (by kernel_rfl) (fun _ _ _ h => h) (Or.inl ⟨by rfl, ?_⟩) (by assumption) ?_; rotate_left; · (intro w hSw; (try dsimp only at hSw); go_simp; (try with_reducible rfl))); (try simp only [Act.put, List.setIfInBounds_toArray, List.set_cons_zero, List.set_cons_succ])
          refine wpAnyH_ready (rs := [12]) (by kernel_rfl) (by simp) ?_; refine AllReadyH.cons rfl (fun K hK => ?_) AllReadyH.nil; (try simp only [List.getElem_toArray, List.getElem_cons_succ, List.getElem_cons_zero])
          go_simp
          go_at_call 64
          refine (pick_any R (kz + 1 + 1 + 1) 30 _ M19.rd (by omega) (by omega) (by omega)).mono ?_
          rintro e w20 ⟨v20, rfl, hv20, hw20, hr20, hu20⟩
          have M20 := M19.pass hr20 hu20
          have V20 := V19.up hu20 V19.lt hVR
          go_wp2_with fail
          refine hK.out _ _ (⟨M20.cells.2.2.2.2.1, V20.c2⟩) (fun hHeld => ?_); clear hK K; (try simp only [Act.put, List.setIfInBounds_toArray, List.set_cons_zero, List.set_cons_succ])
          (refine wpAnyH_take (i := 13) (v := ?_) rfl (by kernel_rfl) (by kernel_rfl) (by kernel_rfl) (fun _ _ _ h => h) (Or.inl ⟨by rfl, ?_⟩) (by assumption) ?_; rotate_left; · (intro w hSw; (try dsimp only at hSw); go_simp; (try with_reducible rfl))); (try simp only [Act.put, List.setIfInBounds_toArray, List.set_cons_zero, List.set_cons_succ])
          (refine wpAnyH_take (i := 14) (v := ?_) rfl (by kernel_rfl) (by kernel_rfl) (by kernel_rfl) (fun _ _ _ h => h) (Or.inl ⟨by rfl, ?_⟩) (by assumption) ?_; rotate_left; · (intro w hSw; (try dsimp only at hSw); go_simp; (try with_reducible rfl))); (try simp only [Act.put, List.setIfInBounds_toArray, List.set_cons_zero, List.set_cons_succ])
          (refine wpAnyH_take (i := 18) (v := ?_) rfl (by kernel_rfl) (by kernel_rfl) (by kernel_rfl) (fun _ _ _ h => h) (Or.inl ⟨by rfl, ?_⟩) (by assumption) ?_; rotate_left; · (intro w hSw; (try dsimp only at hSw); go_simp; (try with_reducible rfl))); (try simp only [Act.put, List.setIfInBounds_toArray, List.set_cons_zero, List.set_cons_succ])
          (refine wpAnyH_take (i := 19) (v := ?_) rfl (by kernel_rfl) (by kernel_rfl) (by kernel_rfl) (fun _ _ _ h => h) (Or.inl ⟨by rfl, ?_⟩) (by assumption) ?_; rotate_left; · (intro w hSw; (try dsimp only at hSw); go_simp; (try with_reducible rfl))); (try simp only [Act.put, List.setIfInBounds_toArray, List.set_cons_zero, List.set_cons_succ])
          refine wpAnyH_ready (rs := [20]) (by kernel_rfl) (by simp) ?_; refine AllReadyH.cons rfl (fun K hK => ?_) AllReadyH.nil; (try simp only [List.getElem_toArray, List.getElem_cons_succ, List.getElem_cons_zero])
          go_simp
          refine hK.out _ _ (⟨(M20.alloc _).cells.2.2.2.2.1, (V20.alloc _).c2⟩) (fun hHeld => ?_); clear hK K; (try simp only [Act.put, List.setIfInBounds_toArray, List.set_cons_zero, List.set_cons_succ])
          refine wpAnyH_done (by kernel_rfl) ?_ _
          simp only [TailQ, List.drop_succ_cons, List.drop_zero]
          clear hHeld
          have f1 : IntKind.i64.wrap (Y - 500) = Y - 500 := IntWalk.i64_in _ (by omega)
          have f2 : IntKind.i64.wrap (Y + 500) = Y + 500 := IntWalk.i64_in _ (by omega)
          have f3 : IntKind.i64.wrap (IntKind.i64.wrap (Z + 1000) + IntKind.i64.wrap (v20 * 100)) = Z + 1000 + v20 * 100 := by rw [IntWalk.i64_in (Z + 1000) (by omega), IntWalk.i64_in (v20 * 100) (by omega)]; exact IntWalk.i64_in _ (by omega)
          rw [f1, f2, f3]
          have M21 := M20.alloc (.cells #[.int .i64 Z, .int .i64 (Y - 500), .int .i64 (Z + 1000 + v20 * 100), .int .i64 (Y + 500)] 41)
          refine app_one rfl _ _ rfl gw cw i wf Z (Y - 500) (Z + 1000 + v20 * 100) (Y + 500) w20.heap.size 1 rfl M21.wr rfl (Blk.at rfl) (by omega) ?_
          intro g' c' w22 hrow hat hu hlt22
          have q5 := (M21.blk.up hu M21.blk.lt (fun e => M21.n2 e.symm)).cell 4
          have qf := (M21.blk.up hu M21.blk.lt (fun e => M21.n2 e.symm)).frozen 4
          have M22 := M21.walls hrow hat hu
          clear M18 M19 M20 M21 V19 V20 hr20 hu20
          go_wp2
          go_roundw
          case rel => exact ⟨i + 1, kz + 1 + 1 + 1 + 1, g', c', _, by go_num, by omega, by omega, by omega, snoc_all hwsm (Bx.sm_of (by omega) (by omega) (by omega) (by omega) (by omega) (by omega) (by omega) (by omega)), M22⟩
          case measure => simp [intOf]; omega
        · obtain rfl : (i : Int) = m := by omega
          go_wp2_with fail
          refine (pick_any R kz 6 _ M15.rd (by omega) (by omega) (by omega)).mono ?_
          rintro e w23 ⟨v23, rfl, hv23, hw23, hr23, hu23⟩
          have M23 := M15.pass hr23 hu23
          clear M15 hr23 hu23
          have q4 := M23.cells.2.2.2.2.1
          have qf := M23.frozen
          by_cases h23 : v23 = 0
          · subst h23
            go_upto_region 19 with (at_builtin; refine app_one rfl _ _ rfl gw cw i wf (X + 7000) (-9000) (X + 8000) 9000 w23.heap.size 1 rfl (M23.alloc _).wr rfl (Blk.at rfl) (by omega) ?_; intro g' c' w25 hrow hat hu hlt25; have q5 := ((M23.alloc _).blk.up hu (M23.alloc _).blk.lt (fun e => M23.n2 e.symm)).cell 4; have qf' := ((M23.alloc _).blk.up hu (M23.alloc _).blk.lt (fun e => M23.n2 e.symm)).frozen 4; have M25 := (M23.alloc _).walls hrow hat hu)
            have hws : ∀ t, t < i + 1 → (snoc wf i ⟨X + 7000, -9000, X + 8000, 9000⟩ t).sm := snoc_all hwsm (Bx.sm_of (by omega) (by omega) (by omega) (by omega) (by omega) (by omega) (by omega) (by omega))
            clear q4 qf q5 qf' hrow hat hu M23
            have hfin : Bx.sm ⟨X, -4000, X + 6000, 4000⟩ := Bx.sm_of (by omega) (by omega) (by omega) (by omega) (by omega) (by omega) (by omega) (by omega)
            have hcw := M25.wr.le_cap
            have hcg := M25.gr.le_cap
            have hO := Lib.hid M25.blk
            have hA := Lib.hid M25.res
            have hD := Lib.hid (M25.done #[.int .i64 v1, .int .i64 (10 + v2), .int .i64 (v3 * 100), .int .i64 (v4 * 100 - 500), .slice (some ⟨g', 0, none⟩) (i + 1 : Nat) c', .slice (some ⟨gg, 0, none⟩) j cg, .int .i64 X, .int .i64 (-4000), .int .i64 (X + 6000), .int .i64 4000, .int .i64 v5])
            refine wp_copy (ty := 43) rfl hO.out Try.underlying43 rfl (by kernel_rfl) rfl rfl hA.out rfl (by simp [Value.oneCell']) ?_
            rename_i K hK
            refine hK _ _ (wp_ret ?_)
            refine bodyPost_ret (res_row rfl rfl (hA.out.row _) Try.underlying43 rfl (by kernel_rfl)) rfl ?_
            obtain ⟨hL1, hL2, hL3⟩ := hD.out
            exact ⟨_, _, rfl, hL1, ⟨by simp only; omega, by simp only; omega, by simp only; omega, by simp only; omega, by simp only; omega, by simp only; omega, hfin, by simp only; omega, hws, hsm, hcw, hcg⟩, by omega, by omega, hL2, hL3⟩
          · have h23b : (v23 == 0) = false := by simpa using h23
            clear h23
            go_upto_region 19 with fail
            clear q4 qf
            have hfin : Bx.sm ⟨X, -4000, X + 6000, 4000⟩ := Bx.sm_of (by omega) (by omega) (by omega) (by omega) (by omega) (by omega) (by omega) (by omega)
            have hcw := M23.wr.le_cap
            have hcg := M23.gr.le_cap
            have hO := Lib.hid M23.blk
            have hA := Lib.hid M23.res
            have hD := Lib.hid (M23.done #[.int .i64 v1, .int .i64 (10 + v2), .int .i64 (v3 * 100), .int .i64 (v4 * 100 - 500), .slice (some ⟨gw, 0, none⟩) i cw, .slice (some ⟨gg, 0, none⟩) j cg, .int .i64 X, .int .i64 (-4000), .int .i64 (X + 6000), .int .i64 4000, .int .i64 v5])
            refine wp_copy (ty := 43) rfl hO.out Try.underlying43 rfl (by kernel_rfl) rfl rfl hA.out rfl (by simp [Value.oneCell']) ?_
            rename_i K hK
            refine hK _ _ (wp_ret ?_)
            refine bodyPost_ret (res_row rfl rfl (hA.out.row _) Try.underlying43 rfl (by kernel_rfl)) rfl ?_
            obtain ⟨hL1, hL2, hL3⟩ := hD.out
            exact ⟨_, _, rfl, hL1, ⟨by simp only; omega, by simp only; omega, by simp only; omega, by simp only; omega, by simp only; omega, by simp only; omega, hfin, by simp only; omega, hwsm, hsm, hcw, hcg⟩, by omega, by omega, hL2, hL3⟩
end Go.Proofs.Ytgiadgbfeldheaa

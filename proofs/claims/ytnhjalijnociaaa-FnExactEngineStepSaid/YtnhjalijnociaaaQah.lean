/- The levels drawn. -/
import Derived.Test.YtnhjalijnociaaaQae
import Derived.Test.YtnhjalijnociaaaQag
import Derived.Test.YtnhjalijnociaaaQaf
/- The levels drawn. -/
set_option linter.unusedVariables false
set_option linter.unusedSimpArgs false
namespace Go.Proofs.Ytnhjalijnociaaa
open Go.RowKit

theorem sgn2_bd {a s : Int} (h1 : 0 ≤ a) (h2 : a < 20) (h5 : 0 ≤ s) (h6 : s < 2) : -3400 ≤ (1500 + a * 100) * (1 - 2 * s) ∧ (1500 + a * 100) * (1 - 2 * s) ≤ 3400 := by
  rcases two_of h5 h6 with rfl | rfl <;> omega
def bx0 : Nat → Bx := fun _ => ⟨0, 0, 0, 0⟩
theorem vok_mk {x y : Int} (h1 : -1000000 ≤ x) (h2 : x ≤ 1000000) (h3 : -1000000 ≤ y) (h4 : y ≤ 1000000) : vokB x y = true := by
  unfold vokB
  rw [inB_yes h1 h2, inB_yes h3 h4]
  rfl
/-- a wall drawn: not large, valid -/
def Bx.wk (b : Bx) : Prop := b.sm ∧ b.ok = true
theorem Bx.wk_of {a b c d : Int} (h1 : -1000000 ≤ a) (h3 : -1000000 ≤ b) (h6 : c ≤ 1000000) (h8 : d ≤ 1000000) (h : a ≤ c) (h' : b ≤ d) : Bx.wk ⟨a, b, c, d⟩ :=
  ⟨Bx.sm_of (by omega) (by omega) (by omega) (by omega) (by omega) (by omega) (by omega) (by omega), by
    unfold Bx.ok bxB
    rw [vok_mk h1 (by omega) h3 (by omega), vok_mk (by omega) h6 (by omega) h8, decide_eq_true h, decide_eq_true h']
    rfl⟩
theorem bxs_mk {f : Nat → Bx} : ∀ n, (∀ i, i < n → (f i).ok = true) → bxsB f n = true
  | 0, _ => rfl
  | n + 1, h => bxsB_yes (bxs_mk n fun i hi => h i (by omega)) (h n (by omega))
/-- a level drawn, not bent: its walls are valid, its start is in range -/
def DrawnFirst (R k : Nat) (w : World) (e : Ending) (w' : World) : Prop :=
  ∃ (l : Lv) (k' : Nat), e = .returned (.agg #[.int .i64 l.id, .int .i64 l.ticks, .int .i64 l.sx, .int .i64 l.sy, .slice l.wa l.wn l.wc, .slice l.ga l.gn l.gc, .int .i64 l.flx, .int .i64 l.fly, .int .i64 l.fhx, .int .i64 l.fhy, .int .i64 l.bans]) ∧ LvR w' R l ∧ l.sm 4 ∧ bxsB l.wf l.wn = true ∧ vokB l.sx l.sy = true ∧ (0 ≤ l.bans ∧ l.bans ≤ 3) ∧ k ≤ k' ∧ k' ≤ k + 60 ∧ Rd w' R k' ∧ Up R w.heap.size w w'
set_option maxRecDepth 100000 in
set_option maxHeartbeats 1000000 in
theorem lLevel_first (R k : Nat) (w : World) (hr : Rd w R k) (hk : k < 800000) : Calls Try.prog 56 #[.pointer (some ⟨R, 0, none⟩)] w (DrawnFirst R k w) := by
  have hR := hr.lt
  have hne : w.heap.size ≠ R := by omega
  go_enter Try.func56, Try.ntmps56
  go_wp2_with fail; refine (pick_any R _ _ _ (by (first | assumption | exact Rd.keep ‹Rd _ R _› (by (repeat (first | with_reducible assumption | with_reducible exact Below.refl _ _ | ((with_reducible refine Below.alloc ?_ ?_ _); rotate_left; · exact (by first | omega | (simp; done) | (simp; omega))) | ((with_reducible refine Below.setCell ?_ ?_ _); rotate_left; · exact (by first | omega | (simp; done) | (simp; omega))) | with_reducible refine Below.drew ?_ | assumption | exact Below.refl _ _ | refine Below.alloc ?_ (by first | omega | (simp; done) | (simp; omega)) _ | refine Below.setCell ?_ (by first | omega | (simp; done) | (simp; omega)) _ | refine Below.drew ?_))))) (by omega) (by omega) (by omega)).mono ?_; rintro e w1 ⟨v1, rfl, hv1, hw1, hr1, hu1⟩; have hz1 : w.heap.size ≤ w1.heap.size := (by have := hu1.size; first | omega | (simp at this; omega)); have hU1 : Up R w.heap.size w w1 := upstep (by (repeat (first | assumption | exact Up.refl _ _ _ | refine Up.alloc ?_ (by first | omega | (simp; done) | (simp; omega)) _ | refine Up.setCell ?_ (.inr (by first | omega | (simp; done) | (simp; omega))) _ | refine Up.drew ?_ | refine Up.drewN ?_ _))) (by first | omega | (simp; done) | (simp; omega)) hu1
  go_wp2_with fail; refine (pick_any R _ _ _ (by (first | assumption | exact Rd.keep ‹Rd _ R _› (by (repeat (first | with_reducible assumption | with_reducible exact Below.refl _ _ | ((with_reducible refine Below.alloc ?_ ?_ _); rotate_left; · exact (by first | omega | (simp; done) | (simp; omega))) | ((with_reducible refine Below.setCell ?_ ?_ _); rotate_left; · exact (by first | omega | (simp; done) | (simp; omega))) | with_reducible refine Below.drew ?_ | assumption | exact Below.refl _ _ | refine Below.alloc ?_ (by first | omega | (simp; done) | (simp; omega)) _ | refine Below.setCell ?_ (by first | omega | (simp; done) | (simp; omega)) _ | refine Below.drew ?_))))) (by omega) (by omega) (by omega)).mono ?_; rintro e w2 ⟨v2, rfl, hv2, hw2, hr2, hu2⟩; have hz2 : w.heap.size ≤ w2.heap.size := (by have := hu2.size; first | omega | (simp at this; omega)); have hU2 : Up R w.heap.size w w2 := upstep (by (repeat (first | assumption | exact Up.refl _ _ _ | refine Up.alloc ?_ (by first | omega | (simp; done) | (simp; omega)) _ | refine Up.setCell ?_ (.inr (by first | omega | (simp; done) | (simp; omega))) _ | refine Up.drew ?_ | refine Up.drewN ?_ _))) (by first | omega | (simp; done) | (simp; omega)) hu2
  go_wp2_with fail; refine (pick_any R _ _ _ (by (first | assumption | exact Rd.keep ‹Rd _ R _› (by (repeat (first | with_reducible assumption | with_reducible exact Below.refl _ _ | ((with_reducible refine Below.alloc ?_ ?_ _); rotate_left; · exact (by first | omega | (simp; done) | (simp; omega))) | ((with_reducible refine Below.setCell ?_ ?_ _); rotate_left; · exact (by first | omega | (simp; done) | (simp; omega))) | with_reducible refine Below.drew ?_ | assumption | exact Below.refl _ _ | refine Below.alloc ?_ (by first | omega | (simp; done) | (simp; omega)) _ | refine Below.setCell ?_ (by first | omega | (simp; done) | (simp; omega)) _ | refine Below.drew ?_))))) (by omega) (by omega) (by omega)).mono ?_; rintro e w3 ⟨v3, rfl, hv3, hw3, hr3, hu3⟩; have hz3 : w.heap.size ≤ w3.heap.size := (by have := hu3.size; first | omega | (simp at this; omega)); have hU3 : Up R w.heap.size w w3 := upstep (by (repeat (first | assumption | exact Up.refl _ _ _ | refine Up.alloc ?_ (by first | omega | (simp; done) | (simp; omega)) _ | refine Up.setCell ?_ (.inr (by first | omega | (simp; done) | (simp; omega))) _ | refine Up.drew ?_ | refine Up.drewN ?_ _))) (by first | omega | (simp; done) | (simp; omega)) hu3
  go_wp2_with fail; refine (pick_any R _ _ _ (by (first | assumption | exact Rd.keep ‹Rd _ R _› (by (repeat (first | with_reducible assumption | with_reducible exact Below.refl _ _ | ((with_reducible refine Below.alloc ?_ ?_ _); rotate_left; · exact (by first | omega | (simp; done) | (simp; omega))) | ((with_reducible refine Below.setCell ?_ ?_ _); rotate_left; · exact (by first | omega | (simp; done) | (simp; omega))) | with_reducible refine Below.drew ?_ | assumption | exact Below.refl _ _ | refine Below.alloc ?_ (by first | omega | (simp; done) | (simp; omega)) _ | refine Below.setCell ?_ (by first | omega | (simp; done) | (simp; omega)) _ | refine Below.drew ?_))))) (by omega) (by omega) (by omega)).mono ?_; rintro e w4 ⟨v4, rfl, hv4, hw4, hr4, hu4⟩; have hz4 : w.heap.size ≤ w4.heap.size := (by have := hu4.size; first | omega | (simp at this; omega)); have hU4 : Up R w.heap.size w w4 := upstep (by (repeat (first | assumption | exact Up.refl _ _ _ | refine Up.alloc ?_ (by first | omega | (simp; done) | (simp; omega)) _ | refine Up.setCell ?_ (.inr (by first | omega | (simp; done) | (simp; omega))) _ | refine Up.drew ?_ | refine Up.drewN ?_ _))) (by first | omega | (simp; done) | (simp; omega)) hu4
  go_wp2_with fail
  refine (pick_any R (k + 1 + 1 + 1 + 1) _ _ (by (first | assumption | exact Rd.keep ‹Rd _ R _› (by (repeat (first | with_reducible assumption | with_reducible exact Below.refl _ _ | ((with_reducible refine Below.alloc ?_ ?_ _); rotate_left; · exact (by first | omega | (simp; done) | (simp; omega))) | ((with_reducible refine Below.setCell ?_ ?_ _); rotate_left; · exact (by first | omega | (simp; done) | (simp; omega))) | with_reducible refine Below.drew ?_ | assumption | exact Below.refl _ _ | refine Below.alloc ?_ (by first | omega | (simp; done) | (simp; omega)) _ | refine Below.setCell ?_ (by first | omega | (simp; done) | (simp; omega)) _ | refine Below.drew ?_))))) (by omega) (by omega) (by omega)).mono ?_
  rintro e w5 ⟨v5, rfl, hv5, hw5, hr5, hu5⟩
  have Z0 : Blk (w.alloc (.cells #[.int .i64 0, .int .i64 0, .int .i64 0, .int .i64 0, .slice none 0 0, .slice none 0 0, .int .i64 0, .int .i64 0, .int .i64 0, .int .i64 0, .int .i64 0] 29)) w.heap.size #[.int .i64 0, .int .i64 0, .int .i64 0, .int .i64 0, .slice none 0 0, .slice none 0 0, .int .i64 0, .int .i64 0, .int .i64 0, .int .i64 0, .int .i64 0] := Blk.at rfl
  have Z4 := (((Z0.up hu1 Z0.lt hne).up hu2 (Z0.up hu1 Z0.lt hne).lt hne).up hu3 ((Z0.up hu1 Z0.lt hne).up hu2 (Z0.up hu1 Z0.lt hne).lt hne).lt hne).up hu4 (((Z0.up hu1 Z0.lt hne).up hu2 (Z0.up hu1 Z0.lt hne).lt hne).up hu3 ((Z0.up hu1 Z0.lt hne).up hu2 (Z0.up hu1 Z0.lt hne).lt hne).lt hne).lt hne
  have hz4 := Z4.lt
  have hn4 : w4.heap.size ≠ R := by omega
  have hn4' : w4.heap.size + 1 ≠ R := by omega
  have hZs : w.heap.size < ((w4.alloc (.cells #[] 27)).alloc (.cells #[] 27)).heap.size := by simp; omega
  have Z5 := ((Z4.alloc (.cells #[] 27)).alloc (.cells #[] 27)).up hu5 hZs hne
  have W5 : Row w5 w4.heap.size 0 0 bx0 := ((Row.empty bx0 rfl).alloc _).up hu5 (by simp; omega) hn4
  have G5 : Row w5 (w4.heap.size + 1) 0 0 bx0 := (Row.empty bx0 (by simp)).up hu5 (by simp) hn4'
  have hU5 : Up R w.heap.size w w5 := upstep (by (repeat (first | assumption | exact Up.refl _ _ _ | refine Up.alloc ?_ (by first | omega | (simp; done) | (simp; omega)) _ | refine Up.setCell ?_ (.inr (by first | omega | (simp; done) | (simp; omega))) _ | refine Up.drew ?_ | refine Up.drewN ?_ _))) (by first | omega | (simp; done) | (simp; omega)) hu5
  have hz5 := Z5.lt
  have hwl := W5.lt
  have hgl := G5.lt
  clear Z0 Z4 hu1 hu2 hu3 hu4 hu5 hU1 hU2 hU3 hU4 hr1 hr2 hr3 hr4
  go_wp2_with fail
  have M5 : LM w R w5.heap.size w4.heap.size (w4.heap.size + 1) (k + 1 + 1 + 1 + 1 + 1) v1 (10 + v2) (v3 * 100) (v4 * 100 - 500) 0 0 0 0 0 0 0 0 v5 bx0 bx0 (w5.alloc (.cells #[.int .i64 v1, .int .i64 (10 + v2), .int .i64 (v3 * 100), .int .i64 (v4 * 100 - 500), .slice (some ⟨w4.heap.size, 0, none⟩) 0 0, .slice (some ⟨w4.heap.size + 1, 0, none⟩) 0 0, .int .i64 0, .int .i64 0, .int .i64 0, .int .i64 0, .int .i64 v5] 29)) :=
    ⟨hr5.keep ((Below.refl _ _).alloc (by omega) _), hU5.alloc (by omega) _, Blk.at rfl, Z5.alloc _, W5.alloc _, G5.alloc _, hR, hz5, by omega, by omega, by omega, by omega, by omega⟩
  refine (pick_any R (k + 1 + 1 + 1 + 1 + 1) 3 _ M5.rd (by omega) (by omega) (by omega)).mono ?_
  rintro e w6 ⟨n, rfl, hn0, hn3, hr6, hu6⟩
  have M6 := M5.pass hr6 hu6
  clear M5 hr6 hu6 hr5 hU5 Z5 W5 G5 hZs hn4 hn4' hz5 hwl hgl
  generalize w5.heap.size = L at *
  generalize w4.heap.size + 1 = gg0 at *
  generalize w4.heap.size = gw at *
  have hw6 := M6.up.size
  clear hz1 hz2 hz3 hz4
  go_wp2_with fail
  go_loopw [4, 6] (fun xv iv wr => ∃ (j kk gg cg : Nat) (x : Int) (gf : Nat → Bx), xv = .int .i64 x ∧ iv = .int .i64 j ∧ (j : Int) ≤ n ∧ 0 ≤ x ∧ x ≤ 1000 + 3000 * j ∧ k + 6 ≤ kk ∧ kk ≤ k + 6 + 2 * j ∧ (∀ i, i < j → (gf i).sm) ∧ LM w R L gw gg kk v1 (10 + v2) (v3 * 100) (v4 * 100 - 500) 0 0 j cg 0 0 0 0 v5 bx0 gf wr) (fun _ iv _ => (n - intOf iv).toNat)
  case atStart => exact ⟨0, k + 1 + 1 + 1 + 1 + 1 + 1, gg0, 0, v3 * 100, bx0, rfl, rfl, by omega, by omega, by omega, by omega, by omega, fun i hi => absurd hi (Nat.not_lt_zero _), M6⟩
  case round =>
    obtain ⟨j, kk, gg, cg, x, gf, rfl, rfl, hj, hx0, hx1, hk0, hk1, hsm, M7⟩ := hrel
    clear M6
    by_cases hlt : (j : Int) < n
    · go_wp2_with fail
      refine (pick_any R kk 20 _ M7.rd (by omega) (by omega) (by omega)).mono ?_
      rintro e w8 ⟨v8, rfl, hv8, hw8, hr8, hu8⟩
      have M8 := M7.pass hr8 hu8
      clear M7 hr8 hu8
      go_wp2_with fail
      have hX0 : 0 ≤ x + 200 + v8 * 100 := by omega
      have hX1 : x + 200 + v8 * 100 ≤ 3100 + 3000 * j := by omega
      generalize x + 200 + v8 * 100 = X at *
      have M8d := M8.drew
      refine wp_region_cut 13 (by kernel_rfl) (by kernel_rfl) (S := fun W => W.cell? ⟨L, 5, none⟩ = some (.slice (some ⟨gg, 0, none⟩) j cg)) M8d.cells.2.2.2.2.2.1 (fun hHeld => ?_)
      simp only [List.take_succ_cons, List.take_zero]
      (refine wpAnyH_take (i := 0) (v := ?_) rfl (by kernel_rfl) (by kernel_rfl) (by kernel_rfl) (fun _ _ _ h => h) (Or.inl ⟨by rfl, ?_⟩) (by assumption) ?_; rotate_left; · (intro w hSw; (try dsimp only at hSw); go_simp; (try with_reducible rfl))); (try simp only [Act.put, List.setIfInBounds_toArray, List.set_cons_zero, List.set_cons_succ])
      (refine wpAnyH_take (i := 1) (v := ?_) rfl (by kernel_rfl) (by kernel_rfl) (by kernel_rfl) (fun _ _ _ h => h) (Or.inl ⟨by rfl, ?_⟩) (by assumption) ?_; rotate_left; · (intro w hSw; (try dsimp only at hSw); go_simp; (try with_reducible rfl))); (try simp only [Act.put, List.setIfInBounds_toArray, List.set_cons_zero, List.set_cons_succ])
      (refine wpAnyH_take (i := 2) (v := ?_) rfl (by kernel_rfl) (by kernel_rfl) (by kernel_rfl) (fun _ _ _ h => h) (Or.inl ⟨by rfl, ?_⟩) (by assumption) ?_; rotate_left; · (intro w hSw; (try dsimp only at hSw); go_simp; (try with_reducible rfl))); (try simp only [Act.put, List.setIfInBounds_toArray, List.set_cons_zero, List.set_cons_succ])
      (refine wpAnyH_take (i := 3) (v := ?_) rfl (by kernel_rfl) (by kernel_rfl) (by kernel_rfl) (fun _ _ _ h => h) (Or.inl ⟨by rfl, ?_⟩) (by assumption) ?_; rotate_left; · (intro w hSw; (try dsimp only at hSw); go_simp; (try with_reducible rfl))); (try simp only [Act.put, List.setIfInBounds_toArray, List.set_cons_zero, List.set_cons_succ])
      (refine wpAnyH_take (i := 4) (v := ?_) rfl (by kernel_rfl) (by kernel_rfl) (by kernel_rfl) (fun _ _ _ h => h) (Or.inl ⟨by rfl, ?_⟩) (by assumption) ?_; rotate_left; · (intro w hSw; (try dsimp only at hSw); go_simp; (try with_reducible rfl))); (try simp only [Act.put, List.setIfInBounds_toArray, List.set_cons_zero, List.set_cons_succ])
      (refine wpAnyH_take (i := 5) (v := ?_) rfl (by kernel_rfl) (by kernel_rfl) (by kernel_rfl) (fun _ _ _ h => h) (Or.inl ⟨by rfl, ?_⟩) (by assumption) ?_; rotate_left; · (intro w hSw; (try dsimp only at hSw); go_simp; (try with_reducible rfl))); (try simp only [Act.put, List.setIfInBounds_toArray, List.set_cons_zero, List.set_cons_succ])
      (refine wpAnyH_take (i := 6) (v := ?_) rfl (by kernel_rfl) (by kernel_rfl) (by kernel_rfl) (fun _ _ _ h => h) (Or.inl ⟨by rfl, ?_⟩) (by assumption) ?_; rotate_left; · (intro w hSw; (try dsimp only at hSw); go_simp; (try with_reducible rfl))); (try simp only [Act.put, List.setIfInBounds_toArray, List.set_cons_zero, List.set_cons_succ])
      refine wpAnyH_ready (rs := [7]) (by kernel_rfl) (by simp) ?_; refine AllReadyH.cons rfl (fun K hK => ?_) AllReadyH.nil; (try simp only [List.getElem_toArray, List.getElem_cons_succ, List.getElem_cons_zero])
      go_simp
      go_at_call 58
      refine (pick_any R (kk + 1) 20 _ M8d.rd (by omega) (by omega) (by omega)).mono ?_
      rintro e w9 ⟨v9, rfl, hv9, hw9, hr9, hu9⟩
      have M9 := M8d.pass hr9 hu9
      go_wp2_with fail
      refine hK.out _ _ (M9.cells.2.2.2.2.2.1) (fun hHeld => ?_); clear hK K; (try simp only [Act.put, List.setIfInBounds_toArray, List.set_cons_zero, List.set_cons_succ])
      (refine wpAnyH_take (i := 8) (v := ?_) rfl (by kernel_rfl) (by kernel_rfl) (by kernel_rfl) (fun _ _ _ h => h) (Or.inl ⟨by rfl, ?_⟩) (by assumption) ?_; rotate_left; · (intro w hSw; (try dsimp only at hSw); go_simp; (try with_reducible rfl))); (try simp only [Act.put, List.setIfInBounds_toArray, List.set_cons_zero, List.set_cons_succ])
      (refine wpAnyH_take (i := 9) (v := ?_) rfl (by kernel_rfl) (by kernel_rfl) (by kernel_rfl) (fun _ _ _ h => h) (Or.inl ⟨by rfl, ?_⟩) (by assumption) ?_; rotate_left; · (intro w hSw; (try dsimp only at hSw); go_simp; (try with_reducible rfl))); (try simp only [Act.put, List.setIfInBounds_toArray, List.set_cons_zero, List.set_cons_succ])
      (refine wpAnyH_take (i := 10) (v := ?_) rfl (by kernel_rfl) (by kernel_rfl) (by kernel_rfl) (fun _ _ _ h => h) (Or.inl ⟨by rfl, ?_⟩) (by assumption) ?_; rotate_left; · (intro w hSw; (try dsimp only at hSw); go_simp; (try with_reducible rfl))); (try simp only [Act.put, List.setIfInBounds_toArray, List.set_cons_zero, List.set_cons_succ])
      (refine wpAnyH_take (i := 11) (v := ?_) rfl (by kernel_rfl) (by kernel_rfl) (by kernel_rfl) (fun _ _ _ h => h) (Or.inl ⟨by rfl, ?_⟩) (by assumption) ?_; rotate_left; · (intro w hSw; (try dsimp only at hSw); go_simp; (try with_reducible rfl))); (try simp only [Act.put, List.setIfInBounds_toArray, List.set_cons_zero, List.set_cons_succ])
      refine wpAnyH_ready (rs := [12]) (by kernel_rfl) (by simp) ?_; refine AllReadyH.cons rfl (fun K hK => ?_) AllReadyH.nil; (try simp only [List.getElem_toArray, List.getElem_cons_succ, List.getElem_cons_zero])
      go_simp
      refine hK.out _ _ ((M9.alloc _).cells.2.2.2.2.2.1) (fun hHeld => ?_); clear hK K; (try simp only [Act.put, List.setIfInBounds_toArray, List.set_cons_zero, List.set_cons_succ])
      refine wpAnyH_done (by kernel_rfl) ?_ _
      simp only [TailQ, List.drop_succ_cons, List.drop_zero]
      have e9 : IntKind.i64.wrap (IntKind.i64.wrap (X + 1500) + IntKind.i64.wrap (v9 * 100)) = X + 1500 + v9 * 100 := by rw [IntWalk.i64_in (X + 1500) (by omega), IntWalk.i64_in (v9 * 100) (by omega)]; exact IntWalk.i64_in _ (by omega)
      rw [e9]
      have M10 := M9.alloc (.cells #[.int .i64 X, .int .i64 (-3000), .int .i64 (X + 1500 + v9 * 100), .int .i64 3000] 27)
      have hX9 : X + 1500 + v9 * 100 ≤ 20000 := by omega
      refine app_one rfl _ _ rfl gg cg j gf X (-3000) (X + 1500 + v9 * 100) 3000 w9.heap.size 1 rfl M10.gr rfl (Blk.at rfl) (by omega) ?_
      intro g' c' w11 hrow hat hu hlt11
      have q5 := (M10.blk.up hu M10.blk.lt (fun e => M10.n3 e.symm)).cell 5
      have qf := (M10.blk.up hu M10.blk.lt (fun e => M10.n3 e.symm)).frozen 5
      have M11 := M10.gates hrow hat hu
      clear M8 M8d M9 M10 hr9 hu9
      go_wp2
      go_roundw
      case rel => exact ⟨j + 1, kk + 1 + 1, g', c', X, _, rfl, by go_num, by omega, by omega, by omega, by omega, by omega, snoc_all hsm (Bx.sm_of (by omega) (by omega) (by omega) (by omega) (by omega) (by omega) (by omega) (by omega)), M11⟩
      case measure => simp [intOf]; omega
    · obtain rfl : (j : Int) = n := by omega
      go_wp2_with fail
      refine (pick_any R kk 20 _ M7.rd (by omega) (by omega) (by omega)).mono ?_
      rintro e w12 ⟨v12, rfl, hv12, hw12, hr12, hu12⟩
      have M12 := M7.pass hr12 hu12
      clear M7 hr12 hu12
      obtain ⟨_, _, _, _, _, _, q6, q7, q8, q9, _⟩ := M12.cells
      have qf := M12.frozen
      have hX0 : 0 ≤ x + 500 + v12 * 100 := by omega
      have hX1 : x + 500 + v12 * 100 ≤ 20000 := by omega
      go_wp2_with fail
      generalize x + 500 + v12 * 100 = X at *
      have M13 := M12.fin X (-4000) (X + 6000) 4000
      refine (pick_any R (kk + 1) 4 _ M13.rd (by omega) (by omega) (by omega)).mono ?_
      rintro e w14 ⟨m, rfl, hm0, hm4, hr14, hu14⟩
      have M14 := M13.pass hr14 hu14
      clear q6 q7 q8 q9 qf M12 M13 hr14 hu14
      go_wp2_with fail
      go_loopw [7] (fun iv wr => ∃ (i kz gw cw : Nat) (wf : Nat → Bx), iv = .int .i64 i ∧ (i : Int) ≤ m ∧ k + 6 ≤ kz ∧ kz ≤ k + 20 + 4 * i ∧ (∀ t, t < i → (wf t).wk) ∧ LM w R L gw gg kz v1 (10 + v2) (v3 * 100) (v4 * 100 - 500) i cw j cg X (-4000) (X + 6000) 4000 v5 wf gf wr) (fun iv _ => (m - intOf iv).toNat)
      case atStart => exact ⟨0, kk + 1 + 1, gw, 0, bx0, rfl, by omega, by omega, by omega, fun i hi => absurd hi (Nat.not_lt_zero _), M14⟩
      case round =>
        obtain ⟨i, kz, gw, cw, wf, rfl, hi, hk2, hk3, hwsm, M15⟩ := hrel
        clear M14
        by_cases hlt : (i : Int) < m
        · go_wp2_with fail
          refine (pick_any R kz 40 _ M15.rd (by omega) (by omega) (by omega)).mono ?_
          rintro e w16 ⟨v16, rfl, hv16, hw16, hr16, hu16⟩
          have M16 := M15.pass hr16 hu16
          go_wp2_with fail
          refine (pick_any R (kz + 1) 20 _ M16.rd (by omega) (by omega) (by omega)).mono ?_
          rintro e w17 ⟨v17, rfl, hv17, hw17, hr17, hu17⟩
          have M17 := M16.pass hr17 hu17
          go_wp2_with fail
          refine (pick_any R (kz + 1 + 1) 2 _ M17.rd (by omega) (by omega) (by omega)).mono ?_
          rintro e w18 ⟨v18, rfl, hv18, hw18, hr18, hu18⟩
          have M18 := M17.pass hr18 hu18
          clear M15 M16 M17 hr16 hr17 hr18 hu16 hu17 hu18
          obtain ⟨y0, y1⟩ := sgn2_bd hv17 hw17 hv18 hw18
          have hx0 : -2000 ≤ v16 * 400 - 2000 := by omega
          have hx1 : v16 * 400 - 2000 ≤ 14000 := by omega
          go_wp2_with fail
          generalize (1500 + v17 * 100) * (1 - 2 * v18) = Y at *
          generalize v16 * 400 - 2000 = Z at *
          have hV := M18.rd.lt
          have V19 : Blk (w18.alloc (.cells #[.int .i64 Z, .int .i64 Y] 24)).drew w18.heap.size #[.int .i64 Z, .int .i64 Y] := (show Blk (w18.alloc (.cells #[.int .i64 Z, .int .i64 Y] 24)) w18.heap.size #[.int .i64 Z, .int .i64 Y] from Blk.at rfl)
          have M19 := (M18.alloc (.cells #[.int .i64 Z, .int .i64 Y] 24)).drew
          have hVR : w18.heap.size ≠ R := by omega
          refine wp_region_cut 21 (by kernel_rfl) (by kernel_rfl) (S := fun W => W.cell? ⟨L, 4, none⟩ = some (.slice (some ⟨gw, 0, none⟩) i cw) ∧ W.cell? ⟨w18.heap.size, 0, none⟩ = some (.int .i64 Z) ∧ W.cell? ⟨w18.heap.size, 1, none⟩ = some (.int .i64 Y)) ⟨M19.cells.2.2.2.2.1, V19.c2⟩ (fun hHeld => ?_)
          simp only [List.take_succ_cons, List.take_zero]
          (refine wpAnyH_take (i := 0) (v := ?_) rfl (by kernel_rfl) (by kernel_rfl) (by kernel_rfl) (fun _ _ _ h => h) (Or.inl ⟨by rfl, ?_⟩) (by assumption) ?_; rotate_left; · (intro w hSw; (try dsimp only at hSw); go_simp; (try with_reducible rfl))); (try simp only [Act.put, List.setIfInBounds_toArray, List.set_cons_zero, List.set_cons_succ])
          (refine wpAnyH_take (i := 1) (v := ?_) rfl (by kernel_rfl) (by kernel_rfl) (by kernel_rfl) (fun _ _ _ h => h) (Or.inl ⟨by rfl, ?_⟩) (by assumption) ?_; rotate_left; · (intro w hSw; (try dsimp only at hSw); go_simp; (try with_reducible rfl))); (try simp only [Act.put, List.setIfInBounds_toArray, List.set_cons_zero, List.set_cons_succ])
          (refine wpAnyH_take (i := 2) (v := ?_) rfl (by kernel_rfl) (by kernel_rfl) (by kernel_rfl) (fun _ _ _ h => h) (Or.inl ⟨by rfl, ?_⟩) (by assumption) ?_; rotate_left; · (intro w hSw; (try dsimp only at hSw); go_simp; (try with_reducible rfl))); (try simp only [Act.put, List.setIfInBounds_toArray, List.set_cons_zero, List.set_cons_succ])
          (refine wpAnyH_take (i := 3) (v := ?_) rfl (by kernel_rfl) (by kernel_rfl) (by kernel_rfl) (fun _ _ _ h => h) (Or.inl ⟨by rfl, ?_⟩) (by assumption) ?_; rotate_left; · (intro w hSw; (try dsimp only at hSw); go_simp; (try with_reducible rfl))); (try simp only [Act.put, List.setIfInBounds_toArray, List.set_cons_zero, List.set_cons_succ])
          (refine wpAnyH_take (i := 4) (v := ?_) rfl (by kernel_rfl) (by kernel_rfl) (by kernel_rfl) (fun _ _ _ h => h) (Or.inl ⟨by rfl, ?_⟩) (by assumption) ?_; rotate_left; · (intro w hSw; (try dsimp only at hSw); go_simp; (try with_reducible rfl))); (try simp only [Act.put, List.setIfInBounds_toArray, List.set_cons_zero, List.set_cons_succ])
          (refine wpAnyH_take (i := 5) (v := ?_) rfl (by kernel_rfl) (by kernel_rfl) (by kernel_rfl) (fun _ _ _ h => h) (Or.inl ⟨by rfl, ?_⟩) (by assumption) ?_; rotate_left; · (intro w hSw; (try dsimp only at hSw); go_simp; (try with_reducible rfl))); (try simp only [Act.put, List.setIfInBounds_toArray, List.set_cons_zero, List.set_cons_succ])
          (refine wpAnyH_take (i := 6) (v := ?_) rfl (by kernel_rfl) (by kernel_rfl) (by kernel_rfl) (fun _ _ _ h => h) (Or.inl ⟨by rfl, ?_⟩) (by assumption) ?_; rotate_left; · (intro w hSw; (try dsimp only at hSw); go_simp; (try with_reducible rfl))); (try simp only [Act.put, List.setIfInBounds_toArray, List.set_cons_zero, List.set_cons_succ])
          (refine wpAnyH_take (i := 7) (v := ?_) rfl (by kernel_rfl) (by kernel_rfl) (by kernel_rfl) (fun _ _ _ h => h) (Or.inl ⟨by rfl, ?_⟩) (by assumption) ?_; rotate_left; · (intro w hSw; (try dsimp only at hSw); go_simp; (try with_reducible rfl))); (try simp only [Act.put, List.setIfInBounds_toArray, List.set_cons_zero, List.set_cons_succ])
          (refine wpAnyH_take (i := 8) (v := ?_) rfl (by kernel_rfl) (by kernel_rfl) (by kernel_rfl) (fun _ _ _ h => h) (Or.inl ⟨by rfl, ?_⟩) (by assumption) ?_; rotate_left; · (intro w hSw; (try dsimp only at hSw); go_simp; (try with_reducible rfl))); (try simp only [Act.put, List.setIfInBounds_toArray, List.set_cons_zero, List.set_cons_succ])
          (refine wpAnyH_take (i := 9) (v := ?_) rfl (by kernel_rfl) (by kernel_rfl) (by kernel_rfl) (fun _ _ _ h => h) (Or.inl ⟨by rfl, ?_⟩) (by assumption) ?_; rotate_left; · (intro w hSw; (try dsimp only at hSw); go_simp; (try with_reducible rfl))); (try simp only [Act.put, List.setIfInBounds_toArray, List.set_cons_zero, List.set_cons_succ])
          (refine wpAnyH_take (i := 10) (v := ?_) rfl (by kernel_rfl) (by kernel_rfl) (by kernel_rfl) (fun _ _ _ h => h) (Or.inl ⟨by rfl, ?_⟩) (by assumption) ?_; rotate_left; · (intro w hSw; (try dsimp only at hSw); go_simp; (try with_reducible rfl))); (try simp only [Act.put, List.setIfInBounds_toArray, List.set_cons_zero, List.set_cons_succ])
          (refine wpAnyH_take (i := 11) (v := ?_) rfl (by kernel_rfl) (by kernel_rfl) (by kernel_rfl) (fun _ _ _ h => h) (Or.inl ⟨by rfl, ?_⟩) (by assumption) ?_; rotate_left; · (intro w hSw; (try dsimp only at hSw); go_simp; (try with_reducible rfl))); (try simp only [Act.put, List.setIfInBounds_toArray, List.set_cons_zero, List.set_cons_succ])
          (refine wpAnyH_take (i := 15) (v := ?_) rfl (by kernel_rfl) (by kernel_rfl) (by kernel_rfl) (fun _ _ _ h => h) (Or.inl ⟨by rfl, ?_⟩) (by assumption) ?_; rotate_left; · (intro w hSw; (try dsimp only at hSw); go_simp; (try with_reducible rfl))); (try simp only [Act.put, List.setIfInBounds_toArray, List.set_cons_zero, List.set_cons_succ])
          (refine wpAnyH_take (i := 16) (v := ?_) rfl (by kernel_rfl) (by kernel_rfl) (by kernel_rfl) (fun _ _ _ h => h) (Or.inl ⟨by rfl, ?_⟩) (by assumption) ?_; rotate_left; · (intro w hSw; (try dsimp only at hSw); go_simp; (try with_reducible rfl))); (try simp only [Act.put, List.setIfInBounds_toArray, List.set_cons_zero, List.set_cons_succ])
          (refine wpAnyH_take (i := 17) (v := ?_) rfl (by kernel_rfl) (by kernel_rfl) (by kernel_rfl) (fun _ _ _ h => h) (Or.inl ⟨by rfl, ?_⟩) (by assumption) ?_; rotate_left; · (intro w hSw; (try dsimp only at hSw); go_simp; (try with_reducible rfl))); (try simp only [Act.put, List.setIfInBounds_toArray, List.set_cons_zero, List.set_cons_succ])
          refine wpAnyH_ready (rs := [12]) (by kernel_rfl) (by simp) ?_; refine AllReadyH.cons rfl (fun K hK => ?_) AllReadyH.nil; (try simp only [List.getElem_toArray, List.getElem_cons_succ, List.getElem_cons_zero])
          go_simp
          go_at_call 58
          refine (pick_any R (kz + 1 + 1 + 1) 30 _ M19.rd (by omega) (by omega) (by omega)).mono ?_
          rintro e w20 ⟨v20, rfl, hv20, hw20, hr20, hu20⟩
          have M20 := M19.pass hr20 hu20
          have V20 := V19.up hu20 V19.lt hVR
          go_wp2_with fail
          refine hK.out _ _ (⟨M20.cells.2.2.2.2.1, V20.c2⟩) (fun hHeld => ?_); clear hK K; (try simp only [Act.put, List.setIfInBounds_toArray, List.set_cons_zero, List.set_cons_succ])
          (refine wpAnyH_take (i := 13) (v := ?_) rfl (by kernel_rfl) (by kernel_rfl) (by kernel_rfl) (fun _ _ _ h => h) (Or.inl ⟨by rfl, ?_⟩) (by assumption) ?_; rotate_left; · (intro w hSw; (try dsimp only at hSw); go_simp; (try with_reducible rfl))); (try simp only [Act.put, List.setIfInBounds_toArray, List.set_cons_zero, List.set_cons_succ])
          (refine wpAnyH_take (i := 14) (v := ?_) rfl (by kernel_rfl) (by kernel_rfl) (by kernel_rfl) (fun _ _ _ h => h) (Or.inl ⟨by rfl, ?_⟩) (by assumption) ?_; rotate_left; · (intro w hSw; (try dsimp only at hSw); go_simp; (try with_reducible rfl))); (try simp only [Act.put, List.setIfInBounds_toArray, List.set_cons_zero, List.set_cons_succ])
          (refine wpAnyH_take (i := 18) (v := ?_) rfl (by kernel_rfl) (by kernel_rfl) (by kernel_rfl) (fun _ _ _ h => h) (Or.inl ⟨by rfl, ?_⟩) (by assumption) ?_; rotate_left; · (intro w hSw; (try dsimp only at hSw); go_simp; (try with_reducible rfl))); (try simp only [Act.put, List.setIfInBounds_toArray, List.set_cons_zero, List.set_cons_succ])
          (refine wpAnyH_take (i := 19) (v := ?_) rfl (by kernel_rfl) (by kernel_rfl) (by kernel_rfl) (fun _ _ _ h => h) (Or.inl ⟨by rfl, ?_⟩) (by assumption) ?_; rotate_left; · (intro w hSw; (try dsimp only at hSw); go_simp; (try with_reducible rfl))); (try simp only [Act.put, List.setIfInBounds_toArray, List.set_cons_zero, List.set_cons_succ])
          refine wpAnyH_ready (rs := [20]) (by kernel_rfl) (by simp) ?_; refine AllReadyH.cons rfl (fun K hK => ?_) AllReadyH.nil; (try simp only [List.getElem_toArray, List.getElem_cons_succ, List.getElem_cons_zero])
          go_simp
          refine hK.out _ _ (⟨(M20.alloc _).cells.2.2.2.2.1, (V20.alloc _).c2⟩) (fun hHeld => ?_); clear hK K; (try simp only [Act.put, List.setIfInBounds_toArray, List.set_cons_zero, List.set_cons_succ])
          refine wpAnyH_done (by kernel_rfl) ?_ _
          simp only [TailQ, List.drop_succ_cons, List.drop_zero]
          clear hHeld
          have f1 : IntKind.i64.wrap (Y - 500) = Y - 500 := IntWalk.i64_in _ (by omega)
          have f2 : IntKind.i64.wrap (Y + 500) = Y + 500 := IntWalk.i64_in _ (by omega)
          have f3 : IntKind.i64.wrap (IntKind.i64.wrap (Z + 1000) + IntKind.i64.wrap (v20 * 100)) = Z + 1000 + v20 * 100 := by rw [IntWalk.i64_in (Z + 1000) (by omega), IntWalk.i64_in (v20 * 100) (by omega)]; exact IntWalk.i64_in _ (by omega)
          rw [f1, f2, f3]
          have M21 := M20.alloc (.cells #[.int .i64 Z, .int .i64 (Y - 500), .int .i64 (Z + 1000 + v20 * 100), .int .i64 (Y + 500)] 27)
          refine app_one rfl _ _ rfl gw cw i wf Z (Y - 500) (Z + 1000 + v20 * 100) (Y + 500) w20.heap.size 1 rfl M21.wr rfl (Blk.at rfl) (by omega) ?_
          intro g' c' w22 hrow hat hu hlt22
          have q5 := (M21.blk.up hu M21.blk.lt (fun e => M21.n2 e.symm)).cell 4
          have qf := (M21.blk.up hu M21.blk.lt (fun e => M21.n2 e.symm)).frozen 4
          have M22 := M21.walls hrow hat hu
          clear M18 M19 M20 M21 V19 V20 hr20 hu20
          go_wp2
          go_roundw
          case rel => exact ⟨i + 1, kz + 1 + 1 + 1 + 1, g', c', _, by go_num, by omega, by omega, by omega, snoc_all hwsm (Bx.wk_of (by omega) (by omega) (by omega) (by omega) (by omega) (by omega)), M22⟩
          case measure => simp [intOf]; omega
        · obtain rfl : (i : Int) = m := by omega
          go_wp2_with fail
          refine (pick_any R kz 6 _ M15.rd (by omega) (by omega) (by omega)).mono ?_
          rintro e w23 ⟨v23, rfl, hv23, hw23, hr23, hu23⟩
          have M23 := M15.pass hr23 hu23
          clear M15 hr23 hu23
          have q4 := M23.cells.2.2.2.2.1
          have qf := M23.frozen
          by_cases h23 : v23 = 0
          · subst h23
            go_upto_region 19 with (at_builtin; refine app_one rfl _ _ rfl gw cw i wf (X + 7000) (-9000) (X + 8000) 9000 w23.heap.size 1 rfl (M23.alloc _).wr rfl (Blk.at rfl) (by omega) ?_; intro g' c' w25 hrow hat hu hlt25; have q5 := ((M23.alloc _).blk.up hu (M23.alloc _).blk.lt (fun e => M23.n2 e.symm)).cell 4; have qf' := ((M23.alloc _).blk.up hu (M23.alloc _).blk.lt (fun e => M23.n2 e.symm)).frozen 4; have M25 := (M23.alloc _).walls hrow hat hu)
            have hws : ∀ t, t < i + 1 → (snoc wf i ⟨X + 7000, -9000, X + 8000, 9000⟩ t).wk := snoc_all hwsm (Bx.wk_of (by omega) (by omega) (by omega) (by omega) (by omega) (by omega))
            clear q4 qf q5 qf' hrow hat hu M23
            have hfin : Bx.sm ⟨X, -4000, X + 6000, 4000⟩ := Bx.sm_of (by omega) (by omega) (by omega) (by omega) (by omega) (by omega) (by omega) (by omega)
            have hcw := M25.wr.le_cap
            have hcg := M25.gr.le_cap
            have hO := Lib.hid M25.blk
            have hA := Lib.hid M25.res
            have hD := Lib.hid (M25.done #[.int .i64 v1, .int .i64 (10 + v2), .int .i64 (v3 * 100), .int .i64 (v4 * 100 - 500), .slice (some ⟨g', 0, none⟩) (i + 1 : Nat) c', .slice (some ⟨gg, 0, none⟩) j cg, .int .i64 X, .int .i64 (-4000), .int .i64 (X + 6000), .int .i64 4000, .int .i64 v5])
            refine wp_copy (ty := 29) rfl hO.out Try.underlying29 rfl (by kernel_rfl) rfl rfl hA.out rfl (by simp [Value.oneCell']) ?_
            rename_i K hK
            refine hK _ _ (wp_ret ?_)
            refine bodyPost_ret (res_row rfl rfl (hA.out.row _) Try.underlying29 rfl (by kernel_rfl)) rfl ?_
            obtain ⟨hL1, hL2, hL3⟩ := hD.out
            exact ⟨_, _, rfl, hL1, ⟨by simp only; omega, by simp only; omega, by simp only; omega, by simp only; omega, by simp only; omega, by simp only; omega, hfin, by simp only; omega, fun i hi => (hws i hi).1, hsm, hcw, hcg⟩, bxs_mk _ fun i hi => (hws i hi).2, vok_mk (by simp only; omega) (by simp only; omega) (by simp only; omega) (by simp only; omega), ⟨by simp only; omega, by simp only; omega⟩, by omega, by omega, hL2, hL3⟩
          · have h23b : (v23 == 0) = false := by simpa using h23
            clear h23
            go_upto_region 19 with fail
            clear q4 qf
            have hfin : Bx.sm ⟨X, -4000, X + 6000, 4000⟩ := Bx.sm_of (by omega) (by omega) (by omega) (by omega) (by omega) (by omega) (by omega) (by omega)
            have hcw := M23.wr.le_cap
            have hcg := M23.gr.le_cap
            have hO := Lib.hid M23.blk
            have hA := Lib.hid M23.res
            have hD := Lib.hid (M23.done #[.int .i64 v1, .int .i64 (10 + v2), .int .i64 (v3 * 100), .int .i64 (v4 * 100 - 500), .slice (some ⟨gw, 0, none⟩) i cw, .slice (some ⟨gg, 0, none⟩) j cg, .int .i64 X, .int .i64 (-4000), .int .i64 (X + 6000), .int .i64 4000, .int .i64 v5])
            refine wp_copy (ty := 29) rfl hO.out Try.underlying29 rfl (by kernel_rfl) rfl rfl hA.out rfl (by simp [Value.oneCell']) ?_
            rename_i K hK
            refine hK _ _ (wp_ret ?_)
            refine bodyPost_ret (res_row rfl rfl (hA.out.row _) Try.underlying29 rfl (by kernel_rfl)) rfl ?_
            obtain ⟨hL1, hL2, hL3⟩ := hD.out
            exact ⟨_, _, rfl, hL1, ⟨by simp only; omega, by simp only; omega, by simp only; omega, by simp only; omega, by simp only; omega, by simp only; omega, hfin, by simp only; omega, fun i hi => (hwsm i hi).1, hsm, hcw, hcg⟩, bxs_mk _ fun i hi => (hwsm i hi).2, vok_mk (by simp only; omega) (by simp only; omega) (by simp only; omega) (by simp only; omega), ⟨by simp only; omega, by simp only; omega⟩, by omega, by omega, hL2, hL3⟩
theorem lLevel_any (R k : Nat) (w : World) (hr : Rd w R k) (hk : k < 800000) : Calls Try.prog 56 #[.pointer (some ⟨R, 0, none⟩)] w (DrawnLevel 4 60 R k w) :=
  (lLevel_first R k w hr hk).mono fun e w' ⟨l, k', h1, h2, h3, _, _, _, h4, h5, h6, h7⟩ => ⟨l, k', h1, h2, h3, h4, h5, h6, h7⟩
end Go.Proofs.Ytnhjalijnociaaa

/- The levels drawn, seldom bent. -/
set_option linter.unusedVariables false
set_option linter.unusedSimpArgs false
namespace Go.Proofs.Ytnhjalijnociaaa
open Go.RowKit

/-- boxes behind boxes -/
def glue (f : Nat → Bx) (n : Nat) (f2 : Nat → Bx) : Nat → Bx := fun i => if i < n then f i else f2 (i - n)
theorem bvals_glue (f : Nat → Bx) (n : Nat) (f2 : Nat → Bx) (m : Nat) : bvals (glue f n f2) (n + m) = bvals f n ++ bvals f2 m := by
  rw [bvals_add]
  congr 1
  · exact bvals_congr _ fun i hi => by simp [glue, hi]
  · exact bvals_congr _ fun i hi => by
      have h1 : ¬ (n + i < n) := by omega
      have h2 : n + i - n = i := by omega
      simp only [glue, if_neg h1, h2]
theorem glue_all {p : Bx → Prop} {f f2 : Nat → Bx} {n m : Nat} (h : ∀ i, i < n → p (f i)) (h2 : ∀ i, i < m → p (f2 i)) : ∀ i, i < n + m → p (glue f n f2 i) := by
  intro i hi
  by_cases e : i < n
  · simp only [glue, if_pos e]; exact h i e
  · simp only [glue, if_neg e]; exact h2 _ (by omega)
theorem app_row {w : World} {ops : Array Oper} {rest : List Oper} {o : Oper} {a : Act} {Q : Exit → Act → World → Prop} (hgd : o.guard = none) (s x : Operand)
    (ho : o.op = .call { callee := .builtin .append, args := #[s, x], argTypes := #[25, 25] }) (g cap n : Nat) (f : Nat → Bx) (A : Option Addr) (m c : Nat) (f2 : Nat → Bx)
    (hs : a.eval s = .slice (some ⟨g, 0, none⟩) n cap) (hrow : Row w g cap n f) (hx : a.eval x = .slice A m c) (hB : BoxesAt w A m f2) (hn : n + m ≤ 1000)
    (h : ∀ g' cap' w', Row w' g' cap' (n + m) (glue f n f2) → g ≤ g' → Up g w.heap.size w w' → g' < w'.heap.size → wpList Try.prog ops Q rest (a.put o.dst (.slice (some ⟨g', 0, none⟩) (n + m) cap')) w') : wpList Try.prog ops Q (o :: rest) a w := by
  refine app_boxes hgd s x ho g _ n _ hs hrow A m c f2 hx hB (by omega) (Nat.le_of_lt hrow.lt) ?_
  intro v' w' hown hgrow hnil
  have hup : Up g w.heap.size w w' := ⟨hgrow.os, hgrow.tape, hgrow.output, hgrow.size, fun k hk hne => hgrow.block k hk (by simpa [Value.ownBlock] using hne)⟩
  rcases hown.2 with ⟨h', _⟩ | ⟨g', cap', cur, rfl, hb, hg, h1, h2, h3, h4⟩
  · have := hnil.1 h'
    simp at this
  · exact h g' cap' w' (Row.rebase hown (bvals_glue f n f2 m).symm) hb hup (Array.getElem?_eq_some_iff.1 hg).1

/-- a level that is bent: its block, the result's block -/
structure BM (w0 : World) (R k : Nat) (cs : Array Value) (w : World) : Prop where
  rd : Rd w R k
  up : Up R w0.heap.size w0 w
  blk : Blk w w0.heap.size cs
  res : Blk w (w0.heap.size + 1) #[.int .i64 0, .int .i64 0, .int .i64 0, .int .i64 0, .slice none 0 0, .slice none 0 0, .int .i64 0, .int .i64 0, .int .i64 0, .int .i64 0, .int .i64 0]
  hR : R < w0.heap.size
section
variable {w0 w w' : World} {R k : Nat} {cs : Array Value}
theorem BM.alloc (h : BM w0 R k cs w) (o : Obj) : BM w0 R k cs (w.alloc o) := ⟨h.rd.keep ((Below.refl _ _).alloc h.rd.lt o), h.up.alloc h.up.size o, h.blk.alloc o, h.res.alloc o, h.hR⟩
theorem BM.pass {k' : Nat} (h : BM w0 R k cs w) (hr : Rd w' R k') (hu : Up R w.heap.size w w') : BM w0 R k' cs w' := by
  have e1 := h.hR
  exact ⟨hr, h.up.trans (hu.mono h.up.size), h.blk.up hu h.blk.lt (by omega), h.res.up hu h.res.lt (by omega), h.hR⟩
theorem BM.grow {g : Nat} (h : BM w0 R k cs w) (hg : w0.heap.size + 1 < g) (hu : Up g w.heap.size w w') : BM w0 R k cs w' := by
  have e1 := h.hR; have e2 := h.up.size; have e3 := h.rd.lt
  exact ⟨h.rd.keep (hu.under (by omega) (by omega)), h.up.trans (hu.shift (by omega) (by omega)), h.blk.up hu h.blk.lt (by omega), h.res.up hu h.res.lt (by omega), h.hR⟩
theorem BM.set (h : BM w0 R k cs w) (i : Nat) (v : Value) : BM w0 R k (cs.setIfInBounds i v) (w.setCell ⟨w0.heap.size, i, none⟩ v) := by
  have e1 := h.hR
  exact ⟨h.rd.keep (Below.setCell (p := ⟨w0.heap.size, i, none⟩) (Below.refl _ _) (by simp only; omega) _), h.up.setCell (p := ⟨w0.heap.size, i, none⟩) (.inr (Nat.le_refl _)) _, h.blk.set i v, h.res.other (by simp only; omega) _, h.hR⟩
theorem BM.done (h : BM w0 R k cs w) (c : Array Value) : Rd (w.setRow (w0.heap.size + 1) c) R k ∧ Up R w0.heap.size w0 (w.setRow (w0.heap.size + 1) c) := by
  have e1 := h.hR
  exact ⟨h.rd.keep (Below.setRow (Below.refl _ _) (by omega) _), h.up.setRow (Nat.le_succ _) _⟩
theorem Row.row {g cap n : Nat} {f : Nat → Bx} (h : Row w g cap n f) {b : Nat} (hne : g ≠ b) (c : Array Value) : Row (w.setRow b c) g cap n f := h.keep (setRow_other w b g c hne)
end
set_option maxRecDepth 100000 in
set_option maxHeartbeats 1000000 in
theorem lBent_any (R k : Nat) (l : Lv) (w : World) (hr : Rd w R k) (hk : k < 810000) (hl : LvR w R l) (hs : l.sm 4) : Calls Try.prog 59 #[.pointer (some ⟨R, 0, none⟩), .agg #[.int .i64 l.id, .int .i64 l.ticks, .int .i64 l.sx, .int .i64 l.sy, .slice l.wa l.wn l.wc, .slice l.ga l.gn l.gc, .int .i64 l.flx, .int .i64 l.fly, .int .i64 l.fhx, .int .i64 l.fhy, .int .i64 l.bans]] w (DrawnLevel 6 60 R k w) := by
  have hR := hr.lt
  have hne : w.heap.size ≠ R := by omega
  obtain ⟨lid, lticks, lsx, lsy, wa, wn, wc, ga, gn, gc, flx, fly, fhx, fhy, bans, wf, gf⟩ := l
  obtain ⟨s1, s2, s3, s4, s5, s6, s7, s8, s9, s10, s11, s12⟩ := hs
  simp only at s1 s2 s3 s4 s5 s6 s7 s8 s9 s10 s11 s12 ⊢
  go_enter Try.func59, Try.ntmps59
  go_wp2_with fail
  have B0 : BM w R k #[.int .i64 lid, .int .i64 lticks, .int .i64 lsx, .int .i64 lsy, .slice wa wn wc, .slice ga gn gc, .int .i64 flx, .int .i64 fly, .int .i64 fhx, .int .i64 fhy, .int .i64 bans] ((w.alloc (.cells #[.int .i64 lid, .int .i64 lticks, .int .i64 lsx, .int .i64 lsy, .slice wa wn wc, .slice ga gn gc, .int .i64 flx, .int .i64 fly, .int .i64 fhx, .int .i64 fhy, .int .i64 bans] 29)).alloc (.cells #[.int .i64 0, .int .i64 0, .int .i64 0, .int .i64 0, .slice none 0 0, .slice none 0 0, .int .i64 0, .int .i64 0, .int .i64 0, .int .i64 0, .int .i64 0] 29)) :=
    ⟨Rd.keep hr (by (repeat (first | with_reducible assumption | with_reducible exact Below.refl _ _ | ((with_reducible refine Below.alloc ?_ ?_ _); rotate_left; · exact (by first | omega | (simp; done) | (simp; omega))) | ((with_reducible refine Below.setCell ?_ ?_ _); rotate_left; · exact (by first | omega | (simp; done) | (simp; omega))) | with_reducible refine Below.drew ?_ | assumption | exact Below.refl _ _ | refine Below.alloc ?_ (by first | omega | (simp; done) | (simp; omega)) _ | refine Below.setCell ?_ (by first | omega | (simp; done) | (simp; omega)) _ | refine Below.drew ?_))), by (repeat (first | assumption | exact Up.refl _ _ _ | refine Up.alloc ?_ (by first | omega | (simp; done) | (simp; omega)) _ | refine Up.setCell ?_ (.inr (by first | omega | (simp; done) | (simp; omega))) _ | refine Up.drew ?_ | refine Up.drewN ?_ _)), (Blk.at rfl).alloc _, Blk.at (by simp), hR⟩
  refine (pick_any R k 24 _ B0.rd (by omega) (by omega) (by omega)).mono ?_
  rintro e w1 ⟨v, rfl, hv0, hv1, hr1, hu1⟩
  have B1 := B0.pass hr1 hu1
  clear B0 hr1 hu1
  have hz0 := B1.blk.lt
  have hz1 := B1.res.lt
  have hN : w1.heap.size ≠ R := by omega
  obtain ⟨q0, q1, q2, q3, q4, q5, q6, q7, q8, q9, q10⟩ := B1.blk.c11
  have qf := B1.blk.frozen
  by_cases h0 : v = 0
  · subst h0
    go_wp2_with fail
    have Ba := B1.alloc (.cells #[.int .i64 (-1), .int .i64 99, .int .i64 100] 3)
    refine (pick_any R (k + 1) 3 _ Ba.rd (by omega) (by omega) (by omega)).mono ?_
    rintro e w2 ⟨v2, rfl, hv2, hw2, hr2, hu2⟩
    have B2 := Ba.pass hr2 hu2
    have N2 : Blk w2 w1.heap.size #[.int .i64 (-1), .int .i64 99, .int .i64 100] := (Blk.at rfl).up hu2 (by simp) hN
    clear q0 q1 q2 q3 q4 q5 q6 q7 q8 q9 q10 qf B1 Ba hr2 hu2
    have qq := B2.blk.cell 0
    have qf := B2.blk.frozen
    have n0 := N2.cell 0;have n1 := N2.cell 1;have n2 := N2.cell 2
    simp only [List.getElem?_toArray, List.getElem?_cons_zero, List.getElem?_cons_succ] at qq n0 n1 n2
    rcases three_of hv2 hw2 with rfl | rfl | rfl
    · go_upto_region 16 with fail
      have B3 : BM w R (k + 1 + 1) #[.int .i64 (-1), .int .i64 lticks, .int .i64 lsx, .int .i64 lsy, .slice wa wn wc, .slice ga gn gc, .int .i64 flx, .int .i64 fly, .int .i64 fhx, .int .i64 fhy, .int .i64 bans] _ := B2.set 0 (.int .i64 (-1))
      have hO := Lib.hid B3.blk
      have hA := Lib.hid B3.res
      have hD := Lib.hid (B3.done #[.int .i64 (-1), .int .i64 lticks, .int .i64 lsx, .int .i64 lsy, .slice wa wn wc, .slice ga gn gc, .int .i64 flx, .int .i64 fly, .int .i64 fhx, .int .i64 fhy, .int .i64 bans])
      refine wp_copy (ty := 29) rfl hO.out Try.underlying29 rfl (by kernel_rfl) rfl rfl hA.out rfl (by simp [Value.oneCell']) ?_
      rename_i K hK
      refine hK _ _ (wp_ret ?_)
      refine bodyPost_ret (res_row rfl rfl (hA.out.row _) Try.underlying29 rfl (by kernel_rfl)) rfl ?_
      obtain ⟨hL2, hL3⟩ := hD.out
      exact ⟨⟨(-1), lticks, lsx, lsy, wa, wn, wc, ga, gn, gc, flx, fly, fhx, fhy, bans, wf, gf⟩, _, rfl, hl.up hL3, ⟨by simp only; omega, by simp only; omega, by simp only; omega, by simp only; omega, by simp only; omega, by simp only; omega, s7, by simp only; omega, s9, s10, s11, s12⟩, by omega, by omega, hL2, hL3⟩
    · go_upto_region 16 with fail
      have B3 : BM w R (k + 1 + 1) #[.int .i64 99, .int .i64 lticks, .int .i64 lsx, .int .i64 lsy, .slice wa wn wc, .slice ga gn gc, .int .i64 flx, .int .i64 fly, .int .i64 fhx, .int .i64 fhy, .int .i64 bans] _ := B2.set 0 (.int .i64 99)
      have hO := Lib.hid B3.blk
      have hA := Lib.hid B3.res
      have hD := Lib.hid (B3.done #[.int .i64 99, .int .i64 lticks, .int .i64 lsx, .int .i64 lsy, .slice wa wn wc, .slice ga gn gc, .int .i64 flx, .int .i64 fly, .int .i64 fhx, .int .i64 fhy, .int .i64 bans])
      refine wp_copy (ty := 29) rfl hO.out Try.underlying29 rfl (by kernel_rfl) rfl rfl hA.out rfl (by simp [Value.oneCell']) ?_
      rename_i K hK
      refine hK _ _ (wp_ret ?_)
      refine bodyPost_ret (res_row rfl rfl (hA.out.row _) Try.underlying29 rfl (by kernel_rfl)) rfl ?_
      obtain ⟨hL2, hL3⟩ := hD.out
      exact ⟨⟨99, lticks, lsx, lsy, wa, wn, wc, ga, gn, gc, flx, fly, fhx, fhy, bans, wf, gf⟩, _, rfl, hl.up hL3, ⟨by simp only; omega, by simp only; omega, by simp only; omega, by simp only; omega, by simp only; omega, by simp only; omega, s7, by simp only; omega, s9, s10, s11, s12⟩, by omega, by omega, hL2, hL3⟩
    · go_upto_region 16 with fail
      have B3 : BM w R (k + 1 + 1) #[.int .i64 100, .int .i64 lticks, .int .i64 lsx, .int .i64 lsy, .slice wa wn wc, .slice ga gn gc, .int .i64 flx, .int .i64 fly, .int .i64 fhx, .int .i64 fhy, .int .i64 bans] _ := B2.set 0 (.int .i64 100)
      have hO := Lib.hid B3.blk
      have hA := Lib.hid B3.res
      have hD := Lib.hid (B3.done #[.int .i64 100, .int .i64 lticks, .int .i64 lsx, .int .i64 lsy, .slice wa wn wc, .slice ga gn gc, .int .i64 flx, .int .i64 fly, .int .i64 fhx, .int .i64 fhy, .int .i64 bans])
      refine wp_copy (ty := 29) rfl hO.out Try.underlying29 rfl (by kernel_rfl) rfl rfl hA.out rfl (by simp [Value.oneCell']) ?_
      rename_i K hK
      refine hK _ _ (wp_ret ?_)
      refine bodyPost_ret (res_row rfl rfl (hA.out.row _) Try.underlying29 rfl (by kernel_rfl)) rfl ?_
      obtain ⟨hL2, hL3⟩ := hD.out
      exact ⟨⟨100, lticks, lsx, lsy, wa, wn, wc, ga, gn, gc, flx, fly, fhx, fhy, bans, wf, gf⟩, _, rfl, hl.up hL3, ⟨by simp only; omega, by simp only; omega, by simp only; omega, by simp only; omega, by simp only; omega, by simp only; omega, s7, by simp only; omega, s9, s10, s11, s12⟩, by omega, by omega, hL2, hL3⟩
  by_cases h1 : v = 1
  · subst h1
    go_wp2_with fail
    have Ba := B1.alloc (.cells #[.int .i64 0, .int .i64 1, .int .i64 60, .int .i64 61] 3)
    refine (pick_any R (k + 1) 4 _ Ba.rd (by omega) (by omega) (by omega)).mono ?_
    rintro e w2 ⟨v2, rfl, hv2, hw2, hr2, hu2⟩
    have B2 := Ba.pass hr2 hu2
    have N2 : Blk w2 w1.heap.size #[.int .i64 0, .int .i64 1, .int .i64 60, .int .i64 61] := (Blk.at rfl).up hu2 (by simp) hN
    clear q0 q1 q2 q3 q4 q5 q6 q7 q8 q9 q10 qf B1 Ba hr2 hu2
    have qq := B2.blk.cell 1
    have qf := B2.blk.frozen
    have n0 := N2.cell 0;have n1 := N2.cell 1;have n2 := N2.cell 2;have n3 := N2.cell 3
    simp only [List.getElem?_toArray, List.getElem?_cons_zero, List.getElem?_cons_succ] at qq n0 n1 n2 n3
    rcases four_of hv2 hw2 with rfl | rfl | rfl | rfl
    · go_upto_region 16 with fail
      have B3 : BM w R (k + 1 + 1) #[.int .i64 lid, .int .i64 0, .int .i64 lsx, .int .i64 lsy, .slice wa wn wc, .slice ga gn gc, .int .i64 flx, .int .i64 fly, .int .i64 fhx, .int .i64 fhy, .int .i64 bans] _ := B2.set 1 (.int .i64 0)
      have hO := Lib.hid B3.blk
      have hA := Lib.hid B3.res
      have hD := Lib.hid (B3.done #[.int .i64 lid, .int .i64 0, .int .i64 lsx, .int .i64 lsy, .slice wa wn wc, .slice ga gn gc, .int .i64 flx, .int .i64 fly, .int .i64 fhx, .int .i64 fhy, .int .i64 bans])
      refine wp_copy (ty := 29) rfl hO.out Try.underlying29 rfl (by kernel_rfl) rfl rfl hA.out rfl (by simp [Value.oneCell']) ?_
      rename_i K hK
      refine hK _ _ (wp_ret ?_)
      refine bodyPost_ret (res_row rfl rfl (hA.out.row _) Try.underlying29 rfl (by kernel_rfl)) rfl ?_
      obtain ⟨hL2, hL3⟩ := hD.out
      exact ⟨⟨lid, 0, lsx, lsy, wa, wn, wc, ga, gn, gc, flx, fly, fhx, fhy, bans, wf, gf⟩, _, rfl, hl.up hL3, ⟨by simp only; omega, by simp only; omega, by simp only; omega, by simp only; omega, by simp only; omega, by simp only; omega, s7, by simp only; omega, s9, s10, s11, s12⟩, by omega, by omega, hL2, hL3⟩
    · go_upto_region 16 with fail
      have B3 : BM w R (k + 1 + 1) #[.int .i64 lid, .int .i64 1, .int .i64 lsx, .int .i64 lsy, .slice wa wn wc, .slice ga gn gc, .int .i64 flx, .int .i64 fly, .int .i64 fhx, .int .i64 fhy, .int .i64 bans] _ := B2.set 1 (.int .i64 1)
      have hO := Lib.hid B3.blk
      have hA := Lib.hid B3.res
      have hD := Lib.hid (B3.done #[.int .i64 lid, .int .i64 1, .int .i64 lsx, .int .i64 lsy, .slice wa wn wc, .slice ga gn gc, .int .i64 flx, .int .i64 fly, .int .i64 fhx, .int .i64 fhy, .int .i64 bans])
      refine wp_copy (ty := 29) rfl hO.out Try.underlying29 rfl (by kernel_rfl) rfl rfl hA.out rfl (by simp [Value.oneCell']) ?_
      rename_i K hK
      refine hK _ _ (wp_ret ?_)
      refine bodyPost_ret (res_row rfl rfl (hA.out.row _) Try.underlying29 rfl (by kernel_rfl)) rfl ?_
      obtain ⟨hL2, hL3⟩ := hD.out
      exact ⟨⟨lid, 1, lsx, lsy, wa, wn, wc, ga, gn, gc, flx, fly, fhx, fhy, bans, wf, gf⟩, _, rfl, hl.up hL3, ⟨by simp only; omega, by simp only; omega, by simp only; omega, by simp only; omega, by simp only; omega, by simp only; omega, s7, by simp only; omega, s9, s10, s11, s12⟩, by omega, by omega, hL2, hL3⟩
    · go_upto_region 16 with fail
      have B3 : BM w R (k + 1 + 1) #[.int .i64 lid, .int .i64 60, .int .i64 lsx, .int .i64 lsy, .slice wa wn wc, .slice ga gn gc, .int .i64 flx, .int .i64 fly, .int .i64 fhx, .int .i64 fhy, .int .i64 bans] _ := B2.set 1 (.int .i64 60)
      have hO := Lib.hid B3.blk
      have hA := Lib.hid B3.res
      have hD := Lib.hid (B3.done #[.int .i64 lid, .int .i64 60, .int .i64 lsx, .int .i64 lsy, .slice wa wn wc, .slice ga gn gc, .int .i64 flx, .int .i64 fly, .int .i64 fhx, .int .i64 fhy, .int .i64 bans])
      refine wp_copy (ty := 29) rfl hO.out Try.underlying29 rfl (by kernel_rfl) rfl rfl hA.out rfl (by simp [Value.oneCell']) ?_
      rename_i K hK
      refine hK _ _ (wp_ret ?_)
      refine bodyPost_ret (res_row rfl rfl (hA.out.row _) Try.underlying29 rfl (by kernel_rfl)) rfl ?_
      obtain ⟨hL2, hL3⟩ := hD.out
      exact ⟨⟨lid, 60, lsx, lsy, wa, wn, wc, ga, gn, gc, flx, fly, fhx, fhy, bans, wf, gf⟩, _, rfl, hl.up hL3, ⟨by simp only; omega, by simp only; omega, by simp only; omega, by simp only; omega, by simp only; omega, by simp only; omega, s7, by simp only; omega, s9, s10, s11, s12⟩, by omega, by omega, hL2, hL3⟩
    · go_upto_region 16 with fail
      have B3 : BM w R (k + 1 + 1) #[.int .i64 lid, .int .i64 61, .int .i64 lsx, .int .i64 lsy, .slice wa wn wc, .slice ga gn gc, .int .i64 flx, .int .i64 fly, .int .i64 fhx, .int .i64 fhy, .int .i64 bans] _ := B2.set 1 (.int .i64 61)
      have hO := Lib.hid B3.blk
      have hA := Lib.hid B3.res
      have hD := Lib.hid (B3.done #[.int .i64 lid, .int .i64 61, .int .i64 lsx, .int .i64 lsy, .slice wa wn wc, .slice ga gn gc, .int .i64 flx, .int .i64 fly, .int .i64 fhx, .int .i64 fhy, .int .i64 bans])
      refine wp_copy (ty := 29) rfl hO.out Try.underlying29 rfl (by kernel_rfl) rfl rfl hA.out rfl (by simp [Value.oneCell']) ?_
      rename_i K hK
      refine hK _ _ (wp_ret ?_)
      refine bodyPost_ret (res_row rfl rfl (hA.out.row _) Try.underlying29 rfl (by kernel_rfl)) rfl ?_
      obtain ⟨hL2, hL3⟩ := hD.out
      exact ⟨⟨lid, 61, lsx, lsy, wa, wn, wc, ga, gn, gc, flx, fly, fhx, fhy, bans, wf, gf⟩, _, rfl, hl.up hL3, ⟨by simp only; omega, by simp only; omega, by simp only; omega, by simp only; omega, by simp only; omega, by simp only; omega, s7, by simp only; omega, s9, s10, s11, s12⟩, by omega, by omega, hL2, hL3⟩
  by_cases h2 : v = 2
  · subst h2
    go_wp2_with fail
    refine (lVec_any R (k + 1) _ B1.rd (by omega)).mono ?_
    rintro e w2 ⟨x, y, k2, rfl, hx1, hx2, hy1, hy2, hk1, hk2, hr2, hu2⟩
    have B2 := B1.pass hr2 hu2
    clear q0 q1 q2 q3 q4 q5 q6 q7 q8 q9 q10 qf B1 hr2 hu2
    obtain ⟨_, _, q2, q3, _⟩ := B2.blk.c11
    have qf := B2.blk.frozen
    go_upto_region 16 with fail
    have B3 : BM w R k2 #[.int .i64 lid, .int .i64 lticks, .int .i64 x, .int .i64 y, .slice wa wn wc, .slice ga gn gc, .int .i64 flx, .int .i64 fly, .int .i64 fhx, .int .i64 fhy, .int .i64 bans] _ := (B2.set 2 (.int .i64 x)).set 3 (.int .i64 y)
    have hO := Lib.hid B3.blk
    have hA := Lib.hid B3.res
    have hD := Lib.hid (B3.done #[.int .i64 lid, .int .i64 lticks, .int .i64 x, .int .i64 y, .slice wa wn wc, .slice ga gn gc, .int .i64 flx, .int .i64 fly, .int .i64 fhx, .int .i64 fhy, .int .i64 bans])
    refine wp_copy (ty := 29) rfl hO.out Try.underlying29 rfl (by kernel_rfl) rfl rfl hA.out rfl (by simp [Value.oneCell']) ?_
    rename_i K hK
    refine hK _ _ (wp_ret ?_)
    refine bodyPost_ret (res_row rfl rfl (hA.out.row _) Try.underlying29 rfl (by kernel_rfl)) rfl ?_
    obtain ⟨hL2, hL3⟩ := hD.out
    exact ⟨⟨lid, lticks, x, y, wa, wn, wc, ga, gn, gc, flx, fly, fhx, fhy, bans, wf, gf⟩, _, rfl, hl.up hL3, ⟨by simp only; omega, by simp only; omega, by simp only; omega, by simp only; omega, by simp only; omega, by simp only; omega, s7, by simp only; omega, s9, s10, s11, s12⟩, by omega, by omega, hL2, hL3⟩
  by_cases h3 : v = 3
  · subst h3
    have hp := (hl.up (B1.alloc (.cells #[] 27)).up).1.1
    go_wp2_with (at_builtin; refine app_row rfl _ _ rfl w1.heap.size 0 0 bx0 wa wn wc wf rfl (Row.empty bx0 rfl) rfl hp (by omega) ?_; intro g1 c1 w2 hrow2 hge2 hu2 hlt2; simp only [Nat.zero_add] at hrow2 ⊢)
    have B2 := (B1.alloc (.cells #[] 27)).grow hz1 hu2
    have hg1 : g1 ≠ R := by omega
    refine (lBox_any R (k + 1) _ B2.rd (by omega)).mono ?_
    rintro e w3 ⟨x0, x1, x2, x3, k3, rfl, b1, b2, b3, b4, b5, b6, b7, b8, hk1, hk2, hr3, hu3⟩
    have B3 := B2.pass hr3 hu3
    have row3 := hrow2.up hu3 hrow2.lt hg1
    clear B2 hrow2 hr3 hu3 hp
    go_wp2_with fail
    refine (lBox_any R k3 _ B3.rd (by omega)).mono ?_
    rintro e w4 ⟨z0, z1, z2, z3, k4, rfl, c1', c2', c3', c4', c5', c6', c7', c8', hk3, hk4, hr4, hu4⟩
    have B4 := B3.pass hr4 hu4
    have row4 := row3.up hu4 row3.lt hg1
    have hz04 := B4.blk.lt
    clear q0 q1 q2 q3 q4 q5 q6 q7 q8 q9 q10 qf B1 B3 row3 hr4 hu4 hu2
    have h2b : BoxesAt (w4.alloc (.cells #[.int .i64 x0, .int .i64 x1, .int .i64 x2, .int .i64 x3, .int .i64 z0, .int .i64 z1, .int .i64 z2, .int .i64 z3] 27)) (some ⟨w4.heap.size, 0, none⟩) 2 (fun i => if i = 0 then ⟨x0, x1, x2, x3⟩ else ⟨z0, z1, z2, z3⟩) := .inr ⟨w4.heap.size, 0, rfl, by simp, fun i hi => by
      have : i = 0 ∨ i = 1 := by omega
      rcases this with rfl | rfl <;> simp [BoxCells, go_sem]⟩
    have hsm2 : ∀ i, i < 2 → Bx.sm ((fun i => if i = 0 then ⟨x0, x1, x2, x3⟩ else ⟨z0, z1, z2, z3⟩ : Nat → Bx) i) := fun i hi => by
      have : i = 0 ∨ i = 1 := by omega
      rcases this with rfl | rfl
      · exact Bx.sm_of b1 b2 b3 b4 b5 b6 b7 b8
      · exact Bx.sm_of c1' c2' c3' c4' c5' c6' c7' c8'
    generalize (fun i => if i = 0 then ⟨x0, x1, x2, x3⟩ else ⟨z0, z1, z2, z3⟩ : Nat → Bx) = f2 at *
    go_upto_region 16 with (at_builtin; refine app_row rfl _ _ rfl g1 c1 wn _ (some ⟨w4.heap.size, 0, none⟩) 2 2 f2 rfl (row4.alloc _) rfl h2b (by omega) ?_; intro g5 c5 w5 hrow5 hge5 hu5 hlt5; have B5 := (B4.alloc (.cells #[.int .i64 x0, .int .i64 x1, .int .i64 x2, .int .i64 x3, .int .i64 z0, .int .i64 z1, .int .i64 z2, .int .i64 z3] 27)).grow (by omega) hu5; have qq := B5.blk.cell 4; have qf := B5.blk.frozen; simp only [List.getElem?_toArray, List.getElem?_cons_zero, List.getElem?_cons_succ] at qq)
    have B6 : BM w R k4 #[.int .i64 lid, .int .i64 lticks, .int .i64 lsx, .int .i64 lsy, .slice (some ⟨g5, 0, none⟩) (wn + 2) c5, .slice ga gn gc, .int .i64 flx, .int .i64 fly, .int .i64 fhx, .int .i64 fhy, .int .i64 bans] _ := B5.set 4 (.slice (some ⟨g5, 0, none⟩) (wn + 2) c5)
    have row6 := Lib.hid (hrow5.other (p := ⟨w.heap.size, 4, none⟩) (by simp only; omega) (.slice (some ⟨g5, 0, none⟩) (wn + 2) c5))
    have hcap := hrow5.le_cap
    clear qq qf
    have hO := Lib.hid B6.blk
    have hA := Lib.hid B6.res
    have hD := Lib.hid (B6.done #[.int .i64 lid, .int .i64 lticks, .int .i64 lsx, .int .i64 lsy, .slice (some ⟨g5, 0, none⟩) (wn + 2) c5, .slice ga gn gc, .int .i64 flx, .int .i64 fly, .int .i64 fhx, .int .i64 fhy, .int .i64 bans])
    refine wp_copy (ty := 29) rfl hO.out Try.underlying29 rfl (by kernel_rfl) rfl rfl hA.out rfl (by simp [Value.oneCell']) ?_
    rename_i K hK
    refine hK _ _ (wp_ret ?_)
    refine bodyPost_ret (res_row rfl rfl (hA.out.row _) Try.underlying29 rfl (by kernel_rfl)) rfl ?_
    obtain ⟨hL2, hL3⟩ := hD.out
    have hn := row6.out.row (b := w.heap.size + 1) (by omega) #[.int .i64 lid, .int .i64 lticks, .int .i64 lsx, .int .i64 lsy, .slice (some ⟨g5, 0, none⟩) (wn + 2) c5, .slice ga gn gc, .int .i64 flx, .int .i64 fly, .int .i64 fhx, .int .i64 fhy, .int .i64 bans]
    exact ⟨⟨lid, lticks, lsx, lsy, some ⟨g5, 0, none⟩, wn + 2, c5, ga, gn, gc, flx, fly, fhx, fhy, bans, _, gf⟩, _, rfl, ⟨⟨hn.boxes, (hl.up hL3).1.2⟩, fun b o s hb => by
          simp only [Option.some.injEq, Addr.mk.injEq] at hb
          obtain ⟨rfl, _⟩ := hb
          omega, (hl.up hL3).2.2⟩, ⟨by simp only; omega, by simp only; omega, by simp only; omega, by simp only; omega, by simp only; omega, by simp only; omega, s7, by simp only; omega, by have hg := @glue_all Bx.sm bx0 wf 0 wn (fun i hi => absurd hi (Nat.not_lt_zero _)) s9; rw [Nat.zero_add] at hg; exact glue_all hg hsm2, s10, hcap, s12⟩, by omega, by omega, hL2, hL3⟩
  by_cases h4 : v = 4
  · subst h4
    have hp := (hl.up (B1.alloc (.cells #[] 27)).up).1.2
    go_wp2_with (at_builtin; refine app_row rfl _ _ rfl w1.heap.size 0 0 bx0 ga gn gc gf rfl (Row.empty bx0 rfl) rfl hp (by omega) ?_; intro g1 c1 w2 hrow2 hge2 hu2 hlt2; simp only [Nat.zero_add] at hrow2 ⊢)
    have B2 := (B1.alloc (.cells #[] 27)).grow hz1 hu2
    have hg1 : g1 ≠ R := by omega
    refine (lBox_any R (k + 1) _ B2.rd (by omega)).mono ?_
    rintro e w3 ⟨x0, x1, x2, x3, k3, rfl, b1, b2, b3, b4, b5, b6, b7, b8, hk1, hk2, hr3, hu3⟩
    have B3 := B2.pass hr3 hu3
    have row3 := hrow2.up hu3 hrow2.lt hg1
    clear B2 hrow2 hr3 hu3 hp
    go_wp2_with fail
    refine (lBox_any R k3 _ B3.rd (by omega)).mono ?_
    rintro e w4 ⟨z0, z1, z2, z3, k4, rfl, c1', c2', c3', c4', c5', c6', c7', c8', hk3, hk4, hr4, hu4⟩
    have B4 := B3.pass hr4 hu4
    have row4 := row3.up hu4 row3.lt hg1
    have hz04 := B4.blk.lt
    clear q0 q1 q2 q3 q4 q5 q6 q7 q8 q9 q10 qf B1 B3 row3 hr4 hu4 hu2
    have h2b : BoxesAt (w4.alloc (.cells #[.int .i64 x0, .int .i64 x1, .int .i64 x2, .int .i64 x3, .int .i64 z0, .int .i64 z1, .int .i64 z2, .int .i64 z3] 27)) (some ⟨w4.heap.size, 0, none⟩) 2 (fun i => if i = 0 then ⟨x0, x1, x2, x3⟩ else ⟨z0, z1, z2, z3⟩) := .inr ⟨w4.heap.size, 0, rfl, by simp, fun i hi => by
      have : i = 0 ∨ i = 1 := by omega
      rcases this with rfl | rfl <;> simp [BoxCells, go_sem]⟩
    have hsm2 : ∀ i, i < 2 → Bx.sm ((fun i => if i = 0 then ⟨x0, x1, x2, x3⟩ else ⟨z0, z1, z2, z3⟩ : Nat → Bx) i) := fun i hi => by
      have : i = 0 ∨ i = 1 := by omega
      rcases this with rfl | rfl
      · exact Bx.sm_of b1 b2 b3 b4 b5 b6 b7 b8
      · exact Bx.sm_of c1' c2' c3' c4' c5' c6' c7' c8'
    generalize (fun i => if i = 0 then ⟨x0, x1, x2, x3⟩ else ⟨z0, z1, z2, z3⟩ : Nat → Bx) = f2 at *
    go_upto_region 16 with (at_builtin; refine app_row rfl _ _ rfl g1 c1 gn _ (some ⟨w4.heap.size, 0, none⟩) 2 2 f2 rfl (row4.alloc _) rfl h2b (by omega) ?_; intro g5 c5 w5 hrow5 hge5 hu5 hlt5; have B5 := (B4.alloc (.cells #[.int .i64 x0, .int .i64 x1, .int .i64 x2, .int .i64 x3, .int .i64 z0, .int .i64 z1, .int .i64 z2, .int .i64 z3] 27)).grow (by omega) hu5; have qq := B5.blk.cell 5; have qf := B5.blk.frozen; simp only [List.getElem?_toArray, List.getElem?_cons_zero, List.getElem?_cons_succ] at qq)
    have B6 : BM w R k4 #[.int .i64 lid, .int .i64 lticks, .int .i64 lsx, .int .i64 lsy, .slice wa wn wc, .slice (some ⟨g5, 0, none⟩) (gn + 2) c5, .int .i64 flx, .int .i64 fly, .int .i64 fhx, .int .i64 fhy, .int .i64 bans] _ := B5.set 5 (.slice (some ⟨g5, 0, none⟩) (gn + 2) c5)
    have row6 := Lib.hid (hrow5.other (p := ⟨w.heap.size, 5, none⟩) (by simp only; omega) (.slice (some ⟨g5, 0, none⟩) (gn + 2) c5))
    have hcap := hrow5.le_cap
    clear qq qf
    have hO := Lib.hid B6.blk
    have hA := Lib.hid B6.res
    have hD := Lib.hid (B6.done #[.int .i64 lid, .int .i64 lticks, .int .i64 lsx, .int .i64 lsy, .slice wa wn wc, .slice (some ⟨g5, 0, none⟩) (gn + 2) c5, .int .i64 flx, .int .i64 fly, .int .i64 fhx, .int .i64 fhy, .int .i64 bans])
    refine wp_copy (ty := 29) rfl hO.out Try.underlying29 rfl (by kernel_rfl) rfl rfl hA.out rfl (by simp [Value.oneCell']) ?_
    rename_i K hK
    refine hK _ _ (wp_ret ?_)
    refine bodyPost_ret (res_row rfl rfl (hA.out.row _) Try.underlying29 rfl (by kernel_rfl)) rfl ?_
    obtain ⟨hL2, hL3⟩ := hD.out
    have hn := row6.out.row (b := w.heap.size + 1) (by omega) #[.int .i64 lid, .int .i64 lticks, .int .i64 lsx, .int .i64 lsy, .slice wa wn wc, .slice (some ⟨g5, 0, none⟩) (gn + 2) c5, .int .i64 flx, .int .i64 fly, .int .i64 fhx, .int .i64 fhy, .int .i64 bans]
    exact ⟨⟨lid, lticks, lsx, lsy, wa, wn, wc, some ⟨g5, 0, none⟩, gn + 2, c5, flx, fly, fhx, fhy, bans, wf, _⟩, _, rfl, ⟨⟨(hl.up hL3).1.1, hn.boxes⟩, (hl.up hL3).2.1, fun b o s hb => by
          simp only [Option.some.injEq, Addr.mk.injEq] at hb
          obtain ⟨rfl, _⟩ := hb
          omega⟩, ⟨by simp only; omega, by simp only; omega, by simp only; omega, by simp only; omega, by simp only; omega, by simp only; omega, s7, by simp only; omega, s9, by have hg := @glue_all Bx.sm bx0 gf 0 gn (fun i hi => absurd hi (Nat.not_lt_zero _)) s10; rw [Nat.zero_add] at hg; exact glue_all hg hsm2, s11, hcap⟩, by omega, by omega, hL2, hL3⟩
  by_cases h5 : v = 5
  · subst h5
    go_wp2_with fail
    refine (lBox_any R (k + 1) _ B1.rd (by omega)).mono ?_
    rintro e w3 ⟨x0, x1, x2, x3, k3, rfl, b1, b2, b3, b4, b5, b6, b7, b8, hk1, hk2, hr3, hu3⟩
    have B3 := B1.pass hr3 hu3
    clear q0 q1 q2 q3 q4 q5 q6 q7 q8 q9 q10 qf B1 hr3 hu3
    obtain ⟨_, _, _, _, _, _, q6, q7, q8, q9, _⟩ := B3.blk.c11
    have qf := B3.blk.frozen
    have hfin : Bx.sm ⟨x0, x1, x2, x3⟩ := Bx.sm_of b1 b2 b3 b4 b5 b6 b7 b8
    go_upto_region 16 with fail
    have B4 : BM w R k3 #[.int .i64 lid, .int .i64 lticks, .int .i64 lsx, .int .i64 lsy, .slice wa wn wc, .slice ga gn gc, .int .i64 x0, .int .i64 x1, .int .i64 x2, .int .i64 x3, .int .i64 bans] _ := (((B3.set 6 (.int .i64 x0)).set 7 (.int .i64 x1)).set 8 (.int .i64 x2)).set 9 (.int .i64 x3)
    have hO := Lib.hid B4.blk
    have hA := Lib.hid B4.res
    have hD := Lib.hid (B4.done #[.int .i64 lid, .int .i64 lticks, .int .i64 lsx, .int .i64 lsy, .slice wa wn wc, .slice ga gn gc, .int .i64 x0, .int .i64 x1, .int .i64 x2, .int .i64 x3, .int .i64 bans])
    refine wp_copy (ty := 29) rfl hO.out Try.underlying29 rfl (by kernel_rfl) rfl rfl hA.out rfl (by simp [Value.oneCell']) ?_
    rename_i K hK
    refine hK _ _ (wp_ret ?_)
    refine bodyPost_ret (res_row rfl rfl (hA.out.row _) Try.underlying29 rfl (by kernel_rfl)) rfl ?_
    obtain ⟨hL2, hL3⟩ := hD.out
    exact ⟨⟨lid, lticks, lsx, lsy, wa, wn, wc, ga, gn, gc, x0, x1, x2, x3, bans, wf, gf⟩, _, rfl, hl.up hL3, ⟨by simp only; omega, by simp only; omega, by simp only; omega, by simp only; omega, by simp only; omega, by simp only; omega, hfin, by simp only; omega, s9, s10, s11, s12⟩, by omega, by omega, hL2, hL3⟩
  by_cases h6 : v = 6
  · subst h6
    go_wp2_with fail
    refine (pick_any R (k + 1) 6 _ B1.rd (by omega) (by omega) (by omega)).mono ?_
    rintro e w2 ⟨v2, rfl, hv2, hw2, hr2, hu2⟩
    have B2 := B1.pass hr2 hu2
    clear q0 q1 q2 q3 q4 q5 q6 q7 q8 q9 q10 qf B1 hr2 hu2
    obtain ⟨_, _, _, _, _, _, _, _, _, _, q10⟩ := B2.blk.c11
    have qf := B2.blk.frozen
    go_upto_region 16 with fail
    have B3 : BM w R (k + 1 + 1) #[.int .i64 lid, .int .i64 lticks, .int .i64 lsx, .int .i64 lsy, .slice wa wn wc, .slice ga gn gc, .int .i64 flx, .int .i64 fly, .int .i64 fhx, .int .i64 fhy, .int .i64 (v2 - 1)] _ := B2.set 10 (.int .i64 (v2 - 1))
    have hO := Lib.hid B3.blk
    have hA := Lib.hid B3.res
    have hD := Lib.hid (B3.done #[.int .i64 lid, .int .i64 lticks, .int .i64 lsx, .int .i64 lsy, .slice wa wn wc, .slice ga gn gc, .int .i64 flx, .int .i64 fly, .int .i64 fhx, .int .i64 fhy, .int .i64 (v2 - 1)])
    refine wp_copy (ty := 29) rfl hO.out Try.underlying29 rfl (by kernel_rfl) rfl rfl hA.out rfl (by simp [Value.oneCell']) ?_
    rename_i K hK
    refine hK _ _ (wp_ret ?_)
    refine bodyPost_ret (res_row rfl rfl (hA.out.row _) Try.underlying29 rfl (by kernel_rfl)) rfl ?_
    obtain ⟨hL2, hL3⟩ := hD.out
    exact ⟨⟨lid, lticks, lsx, lsy, wa, wn, wc, ga, gn, gc, flx, fly, fhx, fhy, v2 - 1, wf, gf⟩, _, rfl, hl.up hL3, ⟨by simp only; omega, by simp only; omega, by simp only; omega, by simp only; omega, by simp only; omega, by simp only; omega, s7, by simp only; omega, s9, s10, s11, s12⟩, by omega, by omega, hL2, hL3⟩
  have g0 : (v == 0) = false := by simpa using h0
  have g1 : (v == 1) = false := by simpa using h1
  have g2 : (v == 2) = false := by simpa using h2
  have g3 : (v == 3) = false := by simpa using h3
  have g4 : (v == 4) = false := by simpa using h4
  have g5 : (v == 5) = false := by simpa using h5
  have g6 : (v == 6) = false := by simpa using h6
  clear q0 q1 q2 q3 q4 q5 q6 q7 q8 q9 q10 qf h0 h1 h2 h3 h4 h5 h6
  go_upto_region 16 with fail
  have hO := Lib.hid B1.blk
  have hA := Lib.hid B1.res
  have hD := Lib.hid (B1.done #[.int .i64 lid, .int .i64 lticks, .int .i64 lsx, .int .i64 lsy, .slice wa wn wc, .slice ga gn gc, .int .i64 flx, .int .i64 fly, .int .i64 fhx, .int .i64 fhy, .int .i64 bans])
  refine wp_copy (ty := 29) rfl hO.out Try.underlying29 rfl (by kernel_rfl) rfl rfl hA.out rfl (by simp [Value.oneCell']) ?_
  rename_i K hK
  refine hK _ _ (wp_ret ?_)
  refine bodyPost_ret (res_row rfl rfl (hA.out.row _) Try.underlying29 rfl (by kernel_rfl)) rfl ?_
  obtain ⟨hL2, hL3⟩ := hD.out
  exact ⟨⟨lid, lticks, lsx, lsy, wa, wn, wc, ga, gn, gc, flx, fly, fhx, fhy, bans, wf, gf⟩, _, rfl, hl.up hL3, ⟨by simp only; omega, by simp only; omega, by simp only; omega, by simp only; omega, by simp only; omega, by simp only; omega, s7, by simp only; omega, s9, s10, s11, s12⟩, by omega, by omega, hL2, hL3⟩
end Go.Proofs.Ytnhjalijnociaaa

/- The walks of the laws on inputs: FnExactInputOf, FnExactInputCode, FnCodes, FnCodeBack, FnPause, FnCode. -/
import Derived.Test.YtccbjhmjildinaaD
import Derived.Deep.RegionWith
import Derived.Deep.RegionHeld3
namespace Go.Proofs.Ytccbjhmjildinaa
open Go.RowKit

set_option maxHeartbeats 1000000 in
theorem dInputOf (a : Option Addr) (len cap : Nat) (zs : List Int) (w : World) (h : IsRow .u8 w a len cap zs) : Calls Try.prog 27 #[.slice a len cap] w fun e w' => ∃ v : Int, e = .returned (.int .i64 v) ∧ -1 ≤ v ∧ v ≤ 10 ∧ Below w.heap.size w w' := by
  go_enter Try.func27, Try.ntmps27
  go_wp2_with fail; refine (open_any _ _ _ _ _ h).mono ?_; rintro e w1 ⟨R, rfl, hR, hr1, hb1⟩; have hz1 := hb1.size; have hU1 : Up R w.heap.size w w1 := Up.of_below hb1
  go_wp2_with fail; refine (pick_any R _ _ _ (by (first | assumption | exact Rd.keep ‹Rd _ R _› (by (repeat (first | assumption | exact Below.refl _ _ | refine Below.alloc ?_ (by first | omega | (simp; done) | (simp; omega)) _ | refine Below.setCell ?_ (by first | omega | (simp; done) | (simp; omega)) _ | refine Below.drew ?_))))) (by omega) (by omega) (by omega)).mono ?_; rintro e w2 ⟨v2, rfl, hv2, hw2, hr2, hu2⟩; have hz2 : w.heap.size ≤ w2.heap.size := (by have := hu2.size; first | omega | (simp at this; omega)); have hU2 : Up R w.heap.size w w2 := upstep (by (repeat (first | assumption | exact Up.refl _ _ _ | refine Up.alloc ?_ (by first | omega | (simp; done) | (simp; omega)) _ | refine Up.setCell ?_ (.inr (by first | omega | (simp; done) | (simp; omega))) _ | refine Up.drew ?_ | refine Up.drewN ?_ _))) (by first | omega | (simp; done) | (simp; omega)) hu2
  go_wp2
  go_ret
  exact ⟨_, rfl, by omega, by omega, hU2.below hR⟩

set_option maxHeartbeats 1000000 in
theorem dInputValid (a : Option Addr) (len cap : Nat) (zs : List Int) (w : World) (h : IsRow .u8 w a len cap zs) : Calls Try.prog 30 #[.slice a len cap] w fun e w' => ∃ (s p : Int) (b : Bool), e = .returned (.agg #[.int .i64 s, .int .i64 p, .bool b]) ∧ -10 ≤ s ∧ s ≤ 10 ∧ -10 ≤ p ∧ p ≤ 10 ∧ Below w.heap.size w w' := by
  go_enter Try.func30, Try.ntmps30
  go_wp2_with fail; refine (open_any _ _ _ _ _ (h.keep (by (repeat (first | assumption | exact Below.refl _ _ | refine Below.alloc ?_ (by first | omega | (simp; done) | (simp; omega)) _ | refine Below.setCell ?_ (by first | omega | (simp; done) | (simp; omega)) _ | refine Below.drew ?_))))).mono ?_; rintro e w1 ⟨R, rfl, hR0, hr1, hb1⟩; have hR : w.heap.size < R := (by first | omega | (simp at hR0; omega)); obtain ⟨hc1, hf1⟩ := bcell hb1; have hz1 : w.heap.size < w1.heap.size := (by have := hb1.size; first | omega | (simp at this; omega)); have hy1 : w.heap.size < w1.heap.size + 1 := Nat.lt_succ_of_lt hz1; have hU1 : Up R w.heap.size w w1 := upstep (by (repeat (first | assumption | exact Up.refl _ _ _ | refine Up.alloc ?_ (by first | omega | (simp; done) | (simp; omega)) _ | refine Up.setCell ?_ (.inr (by first | omega | (simp; done) | (simp; omega))) _ | refine Up.drew ?_ | refine Up.drewN ?_ _))) (by first | omega | (simp; done) | (simp; omega)) (Up.of_below hb1); have hne : w.heap.size ≠ R := by omega
  go_wp2_with fail; refine (lInput_any R 0 _ hr1 (by omega)).mono ?_
  rintro e w2 ⟨s, p, b, k', rfl, h1, h2, h3, h4, h5, h6, h7, hu2⟩
  obtain ⟨hc2, hf2⟩ := rcell hu2; have hz2 : w.heap.size < w2.heap.size := (by have := hu2.size; first | omega | (simp at this; omega)); have hy2 : w.heap.size < w2.heap.size + 1 := Nat.lt_succ_of_lt hz2; have hU2 : Up R w.heap.size w w2 := upstep (by (repeat (first | assumption | exact Up.refl _ _ _ | refine Up.alloc ?_ (by first | omega | (simp; done) | (simp; omega)) _ | refine Up.setCell ?_ (.inr (by first | omega | (simp; done) | (simp; omega))) _ | refine Up.drew ?_ | refine Up.drewN ?_ _))) (by first | omega | (simp; done) | (simp; omega)) hu2
  go_wp2
  refine bodyPost_ret (by simp [results, Try.results30, go_sem, *]; try rfl) rfl ?_
  exact ⟨_, _, _, rfl, h1, h2, h3, h4, Up.below (R := R) (by (repeat (first | assumption | exact Up.refl _ _ _ | refine Up.alloc ?_ (by first | omega | (simp; done) | (simp; omega)) _ | refine Up.setCell ?_ (.inr (by first | omega | (simp; done) | (simp; omega))) _ | refine Up.drew ?_ | refine Up.drewN ?_ _))) (by omega)⟩

set_option maxHeartbeats 1000000 in
theorem dInputCode (a : Option Addr) (len cap : Nat) (zs : List Int) (w : World) (h : IsRow .u8 w a len cap zs) : Calls Try.prog 39 #[.slice a len cap] w fun e w' => ∃ (s p : Int) (b : Bool), e = .returned (.agg #[.int .i64 s, .int .i64 p, .bool b]) ∧ -10 ≤ s ∧ s ≤ 10 ∧ -10 ≤ p ∧ p ≤ 10 ∧ Below w.heap.size w w' := by
  go_enter Try.func39, Try.ntmps39
  go_wp2_with fail; refine (open_any _ _ _ _ _ (h.keep (by (repeat (first | assumption | exact Below.refl _ _ | refine Below.alloc ?_ (by first | omega | (simp; done) | (simp; omega)) _ | refine Below.setCell ?_ (by first | omega | (simp; done) | (simp; omega)) _ | refine Below.drew ?_))))).mono ?_; rintro e w1 ⟨R, rfl, hR0, hr1, hb1⟩; have hR : w.heap.size < R := (by first | omega | (simp at hR0; omega)); obtain ⟨hc1, hf1⟩ := bcell hb1; have hz1 : w.heap.size < w1.heap.size := (by have := hb1.size; first | omega | (simp at this; omega)); have hy1 : w.heap.size < w1.heap.size + 1 := Nat.lt_succ_of_lt hz1; have hU1 : Up R w.heap.size w w1 := upstep (by (repeat (first | assumption | exact Up.refl _ _ _ | refine Up.alloc ?_ (by first | omega | (simp; done) | (simp; omega)) _ | refine Up.setCell ?_ (.inr (by first | omega | (simp; done) | (simp; omega))) _ | refine Up.drew ?_ | refine Up.drewN ?_ _))) (by first | omega | (simp; done) | (simp; omega)) (Up.of_below hb1); have hne : w.heap.size ≠ R := by omega
  go_wp2_with fail; refine (lInput_any R 0 _ hr1 (by omega)).mono ?_
  rintro e w2 ⟨s, p, b, k', rfl, h1, h2, h3, h4, h5, h6, h7, hu2⟩
  obtain ⟨hc2, hf2⟩ := rcell hu2; have hz2 : w.heap.size < w2.heap.size := (by have := hu2.size; first | omega | (simp at this; omega)); have hy2 : w.heap.size < w2.heap.size + 1 := Nat.lt_succ_of_lt hz2; have hU2 : Up R w.heap.size w w2 := upstep (by (repeat (first | assumption | exact Up.refl _ _ _ | refine Up.alloc ?_ (by first | omega | (simp; done) | (simp; omega)) _ | refine Up.setCell ?_ (.inr (by first | omega | (simp; done) | (simp; omega))) _ | refine Up.drew ?_ | refine Up.drewN ?_ _))) (by first | omega | (simp; done) | (simp; omega)) hu2
  go_wp2
  refine bodyPost_ret (by simp [results, Try.results39, go_sem, *]; try rfl) rfl ?_
  exact ⟨_, _, _, rfl, h1, h2, h3, h4, Up.below (R := R) (by (repeat (first | assumption | exact Up.refl _ _ _ | refine Up.alloc ?_ (by first | omega | (simp; done) | (simp; omega)) _ | refine Up.setCell ?_ (.inr (by first | omega | (simp; done) | (simp; omega))) _ | refine Up.drew ?_ | refine Up.drewN ?_ _))) (by omega)⟩

set_option maxHeartbeats 400000 in
theorem eqInp (s p s' p' : Int) (b b' : Bool) (w : World) (h1 : s = s') (h2 : p = p') (h3 : b = b') : Calls Try.prog 26 #[.agg #[.int .i64 s, .int .i64 p, .bool b], .agg #[.int .i64 s', .int .i64 p', .bool b']] w fun e w' => e = .returned (.bool true) ∧ Below w.heap.size w w' := by
  subst h1 h2 h3
  go_enter Try.func26, Try.ntmps26
  go_wp2
  go_ret
  exact ⟨rfl, by (repeat (first | assumption | exact Below.refl _ _ | refine Below.alloc ?_ (by first | omega | (simp; done) | (simp; omega)) _ | refine Below.setCell ?_ (by first | omega | (simp; done) | (simp; omega)) _ | refine Below.drew ?_))⟩

set_option maxHeartbeats 400000 in
theorem lawInputOf (n : Int) (w : World) (_ : (Lit.int .i64 n).wf = true) : Calls Try.prog 4 #[.int .i64 n] w fun e w' => e = .returned (.bool true) ∧ Below w.heap.size w w' := by
  go_enter Try.func4, Try.ntmps4
  go_wp2_with fail; refine (sInputOf _ _).mono ?_; rintro e w1 ⟨rfl, hb1⟩; obtain ⟨hc1, hf1⟩ := bcell hb1; have hz1 : w.heap.size ≤ w1.heap.size := (by have := hb1.size; first | omega | (simp at this; omega)); have hB1 : Below w.heap.size w w1 := bstep (by (repeat (first | assumption | exact Below.refl _ _ | refine Below.alloc ?_ (by first | omega | (simp; done) | (simp; omega)) _ | refine Below.setCell ?_ (by first | omega | (simp; done) | (simp; omega)) _ | refine Below.drew ?_))) (by first | omega | (simp; done) | (simp; omega)) hb1
  go_wp2_with fail; refine (iInputOf _ _).mono ?_; rintro e w2 ⟨rfl, hb2⟩; obtain ⟨hc2, hf2⟩ := bcell hb2; have hz2 : w.heap.size ≤ w2.heap.size := (by have := hb2.size; first | omega | (simp at this; omega)); have hB2 : Below w.heap.size w w2 := bstep (by (repeat (first | assumption | exact Below.refl _ _ | refine Below.alloc ?_ (by first | omega | (simp; done) | (simp; omega)) _ | refine Below.setCell ?_ (by first | omega | (simp; done) | (simp; omega)) _ | refine Below.drew ?_))) (by first | omega | (simp; done) | (simp; omega)) hb2
  have hz12 : w1.heap.size < w2.heap.size := (by have := hb2.size; first | omega | (simp at this; omega)); have hy12 : w1.heap.size < w2.heap.size + 1 := Nat.lt_succ_of_lt hz12
  go_wp2_with fail; refine (eqInp _ _ _ _ _ _ _ rfl rfl rfl).mono ?_; rintro e w3 ⟨rfl, hb3⟩; obtain ⟨hc3, hf3⟩ := bcell hb3; have hz3 : w.heap.size ≤ w3.heap.size := (by have := hb3.size; first | omega | (simp at this; omega)); have hB3 : Below w.heap.size w w3 := bstep (by (repeat (first | assumption | exact Below.refl _ _ | refine Below.alloc ?_ (by first | omega | (simp; done) | (simp; omega)) _ | refine Below.setCell ?_ (by first | omega | (simp; done) | (simp; omega)) _ | refine Below.drew ?_))) (by first | omega | (simp; done) | (simp; omega)) hb3
  go_wp2
  go_ret
  exact ⟨rfl, by (repeat (first | assumption | exact Below.refl _ _ | refine Below.alloc ?_ (by first | omega | (simp; done) | (simp; omega)) _ | refine Below.setCell ?_ (by first | omega | (simp; done) | (simp; omega)) _ | refine Below.drew ?_))⟩

set_option maxHeartbeats 400000 in
theorem lawInputCode (s p : Int) (b : Bool) (w : World) (_ : (Lit.int .i64 s).wf = true) (_ : (Lit.int .i64 p).wf = true) : Calls Try.prog 6 #[.agg #[.int .i64 s, .int .i64 p, .bool b]] w fun e w' => e = .returned (.bool true) ∧ Below w.heap.size w w' := by
  go_enter Try.func6, Try.ntmps6
  go_wp2_with fail; refine (toInp _ _ _ _).mono ?_; rintro e w1 ⟨rfl, hb1⟩; obtain ⟨hc1, hf1⟩ := bcell hb1; have hz1 : w.heap.size < w1.heap.size := (by have := hb1.size; first | omega | (simp at this; omega)); have hy1 : w.heap.size < w1.heap.size + 1 := Nat.lt_succ_of_lt hz1; have hB1 : Below w.heap.size w w1 := bstep (by (repeat (first | assumption | exact Below.refl _ _ | refine Below.alloc ?_ (by first | omega | (simp; done) | (simp; omega)) _ | refine Below.setCell ?_ (by first | omega | (simp; done) | (simp; omega)) _ | refine Below.drew ?_))) (by first | omega | (simp; done) | (simp; omega)) hb1
  go_wp2_with fail; refine (sInputCode _ _ _ _).mono ?_; rintro e w2 ⟨rfl, hb2⟩; obtain ⟨hc2, hf2⟩ := bcell hb2; have hz2 : w.heap.size < w2.heap.size := (by have := hb2.size; first | omega | (simp at this; omega)); have hy2 : w.heap.size < w2.heap.size + 1 := Nat.lt_succ_of_lt hz2; have hB2 : Below w.heap.size w w2 := bstep (by (repeat (first | assumption | exact Below.refl _ _ | refine Below.alloc ?_ (by first | omega | (simp; done) | (simp; omega)) _ | refine Below.setCell ?_ (by first | omega | (simp; done) | (simp; omega)) _ | refine Below.drew ?_))) (by first | omega | (simp; done) | (simp; omega)) hb2
  go_wp2_with fail; refine (toInp _ _ _ _).mono ?_; rintro e w3 ⟨rfl, hb3⟩; obtain ⟨hc3, hf3⟩ := bcell hb3; have hz3 : w.heap.size < w3.heap.size := (by have := hb3.size; first | omega | (simp at this; omega)); have hy3 : w.heap.size < w3.heap.size + 1 := Nat.lt_succ_of_lt hz3; have hB3 : Below w.heap.size w w3 := bstep (by (repeat (first | assumption | exact Below.refl _ _ | refine Below.alloc ?_ (by first | omega | (simp; done) | (simp; omega)) _ | refine Below.setCell ?_ (by first | omega | (simp; done) | (simp; omega)) _ | refine Below.drew ?_))) (by first | omega | (simp; done) | (simp; omega)) hb3
  go_wp2_with fail; refine (iInputCode _ _ _ _).mono ?_; rintro e w4 ⟨rfl, hb4⟩; obtain ⟨hc4, hf4⟩ := bcell hb4; have hz4 : w.heap.size < w4.heap.size := (by have := hb4.size; first | omega | (simp at this; omega)); have hy4 : w.heap.size < w4.heap.size + 1 := Nat.lt_succ_of_lt hz4; have hB4 : Below w.heap.size w w4 := bstep (by (repeat (first | assumption | exact Below.refl _ _ | refine Below.alloc ?_ (by first | omega | (simp; done) | (simp; omega)) _ | refine Below.setCell ?_ (by first | omega | (simp; done) | (simp; omega)) _ | refine Below.drew ?_))) (by first | omega | (simp; done) | (simp; omega)) hb4
  go_wp2
  go_ret
  exact ⟨rfl, by (repeat (first | assumption | exact Below.refl _ _ | refine Below.alloc ?_ (by first | omega | (simp; done) | (simp; omega)) _ | refine Below.setCell ?_ (by first | omega | (simp; done) | (simp; omega)) _ | refine Below.drew ?_))⟩

theorem inpV_pause {s p : Int} (_h1 : -1 ≤ s) (_h2 : s ≤ 1) (_h3 : 0 ≤ p) (_h4 : p ≤ 2) : inpV s p true = ((s == 0) && (p == 0)) := by
  rw [Bool.eq_iff_iff]
  simp [inpV, inB]
  omega

set_option maxHeartbeats 1000000 in
theorem lawPause (a : Option Addr) (len cap : Nat) (zs : List Int) (w : World) (h : IsRow .u8 w a len cap zs) : Calls Try.prog 8 #[.slice a len cap] w fun e w' => e = .returned (.bool true) ∧ Below w.heap.size w w' := by
  by_cases hl : len ≤ 1048576
  · go_enter Try.func8, Try.ntmps8
    go_wp2_with fail; refine (dInputValid _ _ _ _ _ h).mono ?_
    rintro e w1 ⟨s, p, b, rfl, _, _, _, _, hb1⟩
    obtain ⟨hc1, hf1⟩ := bcell hb1; have hz1 : w.heap.size ≤ w1.heap.size := (by have := hb1.size; first | omega | (simp at this; omega)); have hB1 : Below w.heap.size w w1 := bstep (by (repeat (first | assumption | exact Below.refl _ _ | refine Below.alloc ?_ (by first | omega | (simp; done) | (simp; omega)) _ | refine Below.setCell ?_ (by first | omega | (simp; done) | (simp; omega)) _ | refine Below.drew ?_))) (by first | omega | (simp; done) | (simp; omega)) hb1
    go_wp2_with fail; refine (iInpV _ _ _ _).mono ?_; rintro e w2 ⟨rfl, hb2⟩; obtain ⟨hc2, hf2⟩ := bcell hb2; have hz2 : w.heap.size ≤ w2.heap.size := (by have := hb2.size; first | omega | (simp at this; omega)); have hB2 : Below w.heap.size w w2 := bstep (by (repeat (first | assumption | exact Below.refl _ _ | refine Below.alloc ?_ (by first | omega | (simp; done) | (simp; omega)) _ | refine Below.setCell ?_ (by first | omega | (simp; done) | (simp; omega)) _ | refine Below.drew ?_))) (by first | omega | (simp; done) | (simp; omega)) hb2
    have hz12 : w1.heap.size < w2.heap.size := (by have := hb2.size; first | omega | (simp at this; omega)); have hy12 : w1.heap.size < w2.heap.size + 1 := Nat.lt_succ_of_lt hz12
    go_wp2_with fail; refine (sInpV _ _ _ _).mono ?_; rintro e w3 ⟨rfl, hb3⟩; obtain ⟨hc3, hf3⟩ := bcell hb3; have hz3 : w.heap.size ≤ w3.heap.size := (by have := hb3.size; first | omega | (simp at this; omega)); have hB3 : Below w.heap.size w w3 := bstep (by (repeat (first | assumption | exact Below.refl _ _ | refine Below.alloc ?_ (by first | omega | (simp; done) | (simp; omega)) _ | refine Below.setCell ?_ (by first | omega | (simp; done) | (simp; omega)) _ | refine Below.drew ?_))) (by first | omega | (simp; done) | (simp; omega)) hb3
    have hz13 : w1.heap.size < w3.heap.size := (by have := hb3.size; first | omega | (simp at this; omega)); have hy13 : w1.heap.size < w3.heap.size + 1 := Nat.lt_succ_of_lt hz13
    by_cases hv : inpV s p b = true
    · obtain ⟨g1, g2, g3, g4, g5⟩ := inpV_bd hv
      clear g5
      have gp := Lib.hid (inpV_pause g1 g2 g3 g4)
      by_cases hs : s = 0
      · subst hs
        go_wp2_with fail
        first | (go_region_with (go_at_call 23; refine (iInpV _ _ _ _).mono ?_; rintro e w4 ⟨rfl, hb4⟩; obtain ⟨hc4, hf4⟩ := bcell hb4; have hz4 : w.heap.size ≤ w4.heap.size := (by have := hb4.size; first | omega | (simp at this; omega)); have hB4 : Below w.heap.size w w4 := bstep (by (repeat (first | assumption | exact Below.refl _ _ | refine Below.alloc ?_ (by first | omega | (simp; done) | (simp; omega)) _ | refine Below.setCell ?_ (by first | omega | (simp; done) | (simp; omega)) _ | refine Below.drew ?_))) (by first | omega | (simp; done) | (simp; omega)) hb4; have hz14 : w1.heap.size < w4.heap.size := (by have := hb4.size; first | omega | (simp at this; omega)); have hy14 : w1.heap.size < w4.heap.size + 1 := Nat.lt_succ_of_lt hz14)) | fail
        all_goals go_wp2
        all_goals go_ret
        all_goals exact ⟨ret_bool (by rw [gp.out]; simp), by (repeat (first | assumption | exact Below.refl _ _ | refine Below.alloc ?_ (by first | omega | (simp; done) | (simp; omega)) _ | refine Below.setCell ?_ (by first | omega | (simp; done) | (simp; omega)) _ | refine Below.drew ?_))⟩
      · have hs2 : (s == 0) = false := by simpa using hs
        have hs3 : decide (s = 0) = false := by simpa using hs
        go_wp2_with fail
        first | (go_region_with (go_at_call 23; refine (iInpV _ _ _ _).mono ?_; rintro e w4 ⟨rfl, hb4⟩; obtain ⟨hc4, hf4⟩ := bcell hb4; have hz4 : w.heap.size ≤ w4.heap.size := (by have := hb4.size; first | omega | (simp at this; omega)); have hB4 : Below w.heap.size w w4 := bstep (by (repeat (first | assumption | exact Below.refl _ _ | refine Below.alloc ?_ (by first | omega | (simp; done) | (simp; omega)) _ | refine Below.setCell ?_ (by first | omega | (simp; done) | (simp; omega)) _ | refine Below.drew ?_))) (by first | omega | (simp; done) | (simp; omega)) hb4; have hz14 : w1.heap.size < w4.heap.size := (by have := hb4.size; first | omega | (simp at this; omega)); have hy14 : w1.heap.size < w4.heap.size + 1 := Nat.lt_succ_of_lt hz14)) | fail
        all_goals go_wp2
        all_goals go_ret
        all_goals exact ⟨ret_bool (by rw [gp.out]; simp [hs]), by (repeat (first | assumption | exact Below.refl _ _ | refine Below.alloc ?_ (by first | omega | (simp; done) | (simp; omega)) _ | refine Below.setCell ?_ (by first | omega | (simp; done) | (simp; omega)) _ | refine Below.drew ?_))⟩
    · have hv : inpV s p b = false := by simpa using hv
      go_wp2
      go_ret
      exact ⟨rfl, by (repeat (first | assumption | exact Below.refl _ _ | refine Below.alloc ?_ (by first | omega | (simp; done) | (simp; omega)) _ | refine Below.setCell ?_ (by first | omega | (simp; done) | (simp; omega)) _ | refine Below.drew ?_))⟩
  · go_enter Try.func8, Try.ntmps8
    go_wp2
    go_ret
    exact ⟨rfl, by (repeat (first | assumption | exact Below.refl _ _ | refine Below.alloc ?_ (by first | omega | (simp; done) | (simp; omega)) _ | refine Below.setCell ?_ (by first | omega | (simp; done) | (simp; omega)) _ | refine Below.drew ?_))⟩

theorem io_code {s p : Int} {b : Bool} (h : inpV s p b = true) : ioS (inpC s p b) = s ∧ ioP (inpC s p b) = p ∧ ioB (inpC s p b) = b ∧ inB (inpC s p b) 0 9 = true := by
  obtain ⟨h1, h2, h3, h4, h5⟩ := inpV_bd h
  cases b with
  | true =>
    rw [inpC_pause h, ioS_9, ioP_9, ioB_9]
    obtain ⟨rfl, rfl⟩ := h5 rfl
    exact ⟨rfl, rfl, rfl, inB_yes (by omega) (by omega)⟩
  | false =>
    rw [inpC_go h, ioS_in (by omega) (by omega), ioP_in (by omega) (by omega), ioB_ne (by omega)]
    exact ⟨by omega, by omega, rfl, inB_yes (by omega) (by omega)⟩
theorem code_io {v : Int} (h0 : 0 ≤ v) (h9 : v ≤ 9) : inpV (ioS v) (ioP v) (ioB v) = true ∧ inpC (ioS v) (ioP v) (ioB v) = v := by
  by_cases h : v = 9
  · subst h
    rw [ioS_9, ioP_9, ioB_9]
    have hv : inpV 0 0 true = true := by simp [inpV, inB]
    exact ⟨hv, inpC_pause hv⟩
  · have hv : inpV (v % 3 - 1) (v / 3) false = true := by simp [inpV, inB]; omega
    rw [ioS_in h0 (by omega), ioP_in h0 (by omega), ioB_ne h]
    exact ⟨hv, by rw [inpC_go hv]; omega⟩
theorem inpC_nonneg {s p : Int} {b : Bool} (h : inpV s p b = true) : 0 ≤ inpC s p b := by
  have := io_code h
  exact (inB_true this.2.2.2).1

theorem iInputOf_code {s p : Int} {b : Bool} (h : inpV s p b = true) (w : World) : Calls Try.prog 25 #[.int .i64 (inpC s p b)] w fun e w' => e = .returned (.tuple #[.agg #[.int .i64 s, .int .i64 p, .bool b], .bool true]) ∧ Below w.heap.size w w' := by
  obtain ⟨h1, h2, h3, h4⟩ := io_code h
  have := iInputOf (inpC s p b) w
  rwa [h1, h2, h3, h4] at this

set_option maxHeartbeats 1000000 in
theorem lawCode (a : Option Addr) (len cap : Nat) (zs : List Int) (w : World) (h : IsRow .u8 w a len cap zs) : Calls Try.prog 12 #[.slice a len cap] w fun e w' => e = .returned (.bool true) ∧ Below w.heap.size w w' := by
  by_cases hl : len ≤ 1048576
  · go_enter Try.func12, Try.ntmps12
    go_wp2_with fail; refine (dInputCode _ _ _ _ _ h).mono ?_
    rintro e w1 ⟨s, p, b, rfl, _, _, _, _, hb1⟩
    obtain ⟨hc1, hf1⟩ := bcell hb1; have hz1 : w.heap.size ≤ w1.heap.size := (by have := hb1.size; first | omega | (simp at this; omega)); have hB1 : Below w.heap.size w w1 := bstep (by (repeat (first | assumption | exact Below.refl _ _ | refine Below.alloc ?_ (by first | omega | (simp; done) | (simp; omega)) _ | refine Below.setCell ?_ (by first | omega | (simp; done) | (simp; omega)) _ | refine Below.drew ?_))) (by first | omega | (simp; done) | (simp; omega)) hb1
    go_wp2_with fail; refine (iInputCode _ _ _ _).mono ?_; rintro e w2 ⟨rfl, hb2⟩; obtain ⟨hc2, hf2⟩ := bcell hb2; have hz2 : w.heap.size ≤ w2.heap.size := (by have := hb2.size; first | omega | (simp at this; omega)); have hB2 : Below w.heap.size w w2 := bstep (by (repeat (first | assumption | exact Below.refl _ _ | refine Below.alloc ?_ (by first | omega | (simp; done) | (simp; omega)) _ | refine Below.setCell ?_ (by first | omega | (simp; done) | (simp; omega)) _ | refine Below.drew ?_))) (by first | omega | (simp; done) | (simp; omega)) hb2
    have hz12 : w1.heap.size < w2.heap.size := (by have := hb2.size; first | omega | (simp at this; omega)); have hy12 : w1.heap.size < w2.heap.size + 1 := Nat.lt_succ_of_lt hz12
    go_wp2_with fail; refine (sInputCode _ _ _ _).mono ?_; rintro e w3 ⟨rfl, hb3⟩; obtain ⟨hc3, hf3⟩ := bcell hb3; have hz3 : w.heap.size ≤ w3.heap.size := (by have := hb3.size; first | omega | (simp at this; omega)); have hB3 : Below w.heap.size w w3 := bstep (by (repeat (first | assumption | exact Below.refl _ _ | refine Below.alloc ?_ (by first | omega | (simp; done) | (simp; omega)) _ | refine Below.setCell ?_ (by first | omega | (simp; done) | (simp; omega)) _ | refine Below.drew ?_))) (by first | omega | (simp; done) | (simp; omega)) hb3
    have hz13 : w1.heap.size < w3.heap.size := (by have := hb3.size; first | omega | (simp at this; omega)); have hy13 : w1.heap.size < w3.heap.size + 1 := Nat.lt_succ_of_lt hz13
    by_cases hv : inpV s p b = true
    · have h0 := inpC_nonneg hv
      have hV := Lib.hid hv
      clear hv
      go_wp2_with fail
      refine (iInputOf_code hV.out _).mono ?_
      rintro e w4 ⟨rfl, hb4⟩
      obtain ⟨hc4, hf4⟩ := bcell hb4; have hz4 : w.heap.size ≤ w4.heap.size := (by have := hb4.size; first | omega | (simp at this; omega)); have hB4 : Below w.heap.size w w4 := bstep (by (repeat (first | assumption | exact Below.refl _ _ | refine Below.alloc ?_ (by first | omega | (simp; done) | (simp; omega)) _ | refine Below.setCell ?_ (by first | omega | (simp; done) | (simp; omega)) _ | refine Below.drew ?_))) (by first | omega | (simp; done) | (simp; omega)) hb4
      have hz14 : w1.heap.size < w4.heap.size := (by have := hb4.size; first | omega | (simp at this; omega)); have hy14 : w1.heap.size < w4.heap.size + 1 := Nat.lt_succ_of_lt hz14
      have hv := hV.out
      go_wp2_with fail; refine (iInpV _ _ _ _).mono ?_; rintro e w5 ⟨rfl, hb5⟩; obtain ⟨hc5, hf5⟩ := bcell hb5; have hz5 : w.heap.size ≤ w5.heap.size := (by have := hb5.size; first | omega | (simp at this; omega)); have hB5 : Below w.heap.size w w5 := bstep (by (repeat (first | assumption | exact Below.refl _ _ | refine Below.alloc ?_ (by first | omega | (simp; done) | (simp; omega)) _ | refine Below.setCell ?_ (by first | omega | (simp; done) | (simp; omega)) _ | refine Below.drew ?_))) (by first | omega | (simp; done) | (simp; omega)) hb5
      have hz15 : w1.heap.size < w5.heap.size := (by have := hb5.size; first | omega | (simp at this; omega)); have hy15 : w1.heap.size < w5.heap.size + 1 := Nat.lt_succ_of_lt hz15
      have hz45 : w4.heap.size < w5.heap.size := (by have := hb5.size; first | omega | (simp at this; omega)); have hy45 : w4.heap.size < w5.heap.size + 1 := Nat.lt_succ_of_lt hz45
      go_wp2
      go_ret
      exact ⟨ret_bool (by simp), by (repeat (first | assumption | exact Below.refl _ _ | refine Below.alloc ?_ (by first | omega | (simp; done) | (simp; omega)) _ | refine Below.setCell ?_ (by first | omega | (simp; done) | (simp; omega)) _ | refine Below.drew ?_))⟩
    · have hc : inpC s p b < 0 := by rw [inpC_no (by simpa using hv)]; omega
      go_wp2
      go_ret
      exact ⟨rfl, by (repeat (first | assumption | exact Below.refl _ _ | refine Below.alloc ?_ (by first | omega | (simp; done) | (simp; omega)) _ | refine Below.setCell ?_ (by first | omega | (simp; done) | (simp; omega)) _ | refine Below.drew ?_))⟩
  · go_enter Try.func12, Try.ntmps12
    go_wp2
    go_ret
    exact ⟨rfl, by (repeat (first | assumption | exact Below.refl _ _ | refine Below.alloc ?_ (by first | omega | (simp; done) | (simp; omega)) _ | refine Below.setCell ?_ (by first | omega | (simp; done) | (simp; omega)) _ | refine Below.drew ?_))⟩

set_option maxHeartbeats 1000000 in
theorem lawCodeBack (a : Option Addr) (len cap : Nat) (zs : List Int) (w : World) (h : IsRow .u8 w a len cap zs) : Calls Try.prog 7 #[.slice a len cap] w fun e w' => e = .returned (.bool true) ∧ Below w.heap.size w w' := by
  by_cases hl : len ≤ 1048576
  · go_enter Try.func7, Try.ntmps7
    go_wp2_with fail; refine (dInputOf _ _ _ _ _ h).mono ?_
    rintro e w1 ⟨v, rfl, h1, h2, hb1⟩
    obtain ⟨hc1, hf1⟩ := bcell hb1; have hz1 : w.heap.size ≤ w1.heap.size := (by have := hb1.size; first | omega | (simp at this; omega)); have hB1 : Below w.heap.size w w1 := bstep (by (repeat (first | assumption | exact Below.refl _ _ | refine Below.alloc ?_ (by first | omega | (simp; done) | (simp; omega)) _ | refine Below.setCell ?_ (by first | omega | (simp; done) | (simp; omega)) _ | refine Below.drew ?_))) (by first | omega | (simp; done) | (simp; omega)) hb1
    go_wp2_with fail; refine (iInputOf _ _).mono ?_; rintro e w2 ⟨rfl, hb2⟩; obtain ⟨hc2, hf2⟩ := bcell hb2; have hz2 : w.heap.size ≤ w2.heap.size := (by have := hb2.size; first | omega | (simp at this; omega)); have hB2 : Below w.heap.size w w2 := bstep (by (repeat (first | assumption | exact Below.refl _ _ | refine Below.alloc ?_ (by first | omega | (simp; done) | (simp; omega)) _ | refine Below.setCell ?_ (by first | omega | (simp; done) | (simp; omega)) _ | refine Below.drew ?_))) (by first | omega | (simp; done) | (simp; omega)) hb2
    go_wp2_with fail; refine (sInputOf _ _).mono ?_; rintro e w3 ⟨rfl, hb3⟩; obtain ⟨hc3, hf3⟩ := bcell hb3; have hz3 : w.heap.size ≤ w3.heap.size := (by have := hb3.size; first | omega | (simp at this; omega)); have hB3 : Below w.heap.size w w3 := bstep (by (repeat (first | assumption | exact Below.refl _ _ | refine Below.alloc ?_ (by first | omega | (simp; done) | (simp; omega)) _ | refine Below.setCell ?_ (by first | omega | (simp; done) | (simp; omega)) _ | refine Below.drew ?_))) (by first | omega | (simp; done) | (simp; omega)) hb3
    have hz23 : w2.heap.size < w3.heap.size := (by have := hb3.size; first | omega | (simp at this; omega)); have hy23 : w2.heap.size < w3.heap.size + 1 := Nat.lt_succ_of_lt hz23
    by_cases hv : 0 ≤ v ∧ v ≤ 9
    · have hi : inB v 0 9 = true := inB_yes hv.1 hv.2
      obtain ⟨gv, gc⟩ := code_io hv.1 hv.2
      have gC := Lib.hid gc
      clear gc
      go_wp2_with fail; refine (iInputCode _ _ _ _).mono ?_; rintro e w4 ⟨rfl, hb4⟩; obtain ⟨hc4, hf4⟩ := bcell hb4; have hz4 : w.heap.size ≤ w4.heap.size := (by have := hb4.size; first | omega | (simp at this; omega)); have hB4 : Below w.heap.size w w4 := bstep (by (repeat (first | assumption | exact Below.refl _ _ | refine Below.alloc ?_ (by first | omega | (simp; done) | (simp; omega)) _ | refine Below.setCell ?_ (by first | omega | (simp; done) | (simp; omega)) _ | refine Below.drew ?_))) (by first | omega | (simp; done) | (simp; omega)) hb4
      have hz24 : w2.heap.size < w4.heap.size := (by have := hb4.size; first | omega | (simp at this; omega)); have hy24 : w2.heap.size < w4.heap.size + 1 := Nat.lt_succ_of_lt hz24
      have hcc : (inpC (ioS v) (ioP v) (ioB v) == v) = true := by rw [gC.out]; simp
      go_wp2_with fail; refine (iInpV _ _ _ _).mono ?_; rintro e w5 ⟨rfl, hb5⟩; obtain ⟨hc5, hf5⟩ := bcell hb5; have hz5 : w.heap.size ≤ w5.heap.size := (by have := hb5.size; first | omega | (simp at this; omega)); have hB5 : Below w.heap.size w w5 := bstep (by (repeat (first | assumption | exact Below.refl _ _ | refine Below.alloc ?_ (by first | omega | (simp; done) | (simp; omega)) _ | refine Below.setCell ?_ (by first | omega | (simp; done) | (simp; omega)) _ | refine Below.drew ?_))) (by first | omega | (simp; done) | (simp; omega)) hb5
      go_wp2
      go_ret
      exact ⟨ret_bool (by simp), by (repeat (first | assumption | exact Below.refl _ _ | refine Below.alloc ?_ (by first | omega | (simp; done) | (simp; omega)) _ | refine Below.setCell ?_ (by first | omega | (simp; done) | (simp; omega)) _ | refine Below.drew ?_))⟩
    · have hi : inB v 0 9 = false := inB_no (by omega)
      go_wp2
      go_ret
      exact ⟨rfl, by (repeat (first | assumption | exact Below.refl _ _ | refine Below.alloc ?_ (by first | omega | (simp; done) | (simp; omega)) _ | refine Below.setCell ?_ (by first | omega | (simp; done) | (simp; omega)) _ | refine Below.drew ?_))⟩
  · go_enter Try.func7, Try.ntmps7
    go_wp2
    go_ret
    exact ⟨rfl, by (repeat (first | assumption | exact Below.refl _ _ | refine Below.alloc ?_ (by first | omega | (simp; done) | (simp; omega)) _ | refine Below.setCell ?_ (by first | omega | (simp; done) | (simp; omega)) _ | refine Below.drew ?_))⟩
end Go.Proofs.Ytccbjhmjildinaa

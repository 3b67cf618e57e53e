/- The root and the length of a vector, of the program and of the reference. -/
import Derived.Test.YtgiadgbfeldheaaW
import Derived.Test.YtgiadgbfeldheaaMa
set_option linter.unusedVariables false
namespace Go.Proofs.Ytgiadgbfeldheaa
open Go.RowKit

theorem rt_def_len (x y : Int) : rt (x * x + y * y) = len x y := rfl
theorem len_eq2 (x y : Int) : rt (x * x + y * y) = len x y := rfl
theorem sq_le {c m : Int} (h0 : 0 ≤ c) (h : c ≤ m) : 0 ≤ c * c ∧ c * c ≤ m * m := ⟨Int.mul_nonneg h0 h0, sq_mono h0 h⟩
theorem vok_sq {x y : Int} (h : vokB x y = true) : 0 ≤ x * x + y * y ∧ x * x + y * y ≤ 2000000000000 := by
  simp [vokB, inB] at h
  have h1 := sqn x
  have h2 := sqn y
  have e1 := sq_mono (ab_nn x) (le_ab (m := 1000000) (by omega) (by omega))
  have e2 := sq_mono (ab_nn y) (le_ab (m := 1000000) (by omega) (by omega))
  rw [ab_sq] at e1 e2
  omega
theorem vok_sq1 {x y : Int} (h : vokB x y = true) : (0 ≤ x * x ∧ x * x ≤ 1000000000000) ∧ (0 ≤ y * y ∧ y * y ≤ 1000000000000) := by
  simp [vokB, inB] at h
  have h1 := sqn x
  have h2 := sqn y
  have e1 := sq_mono (ab_nn x) (le_ab (m := 1000000) (by omega) (by omega))
  have e2 := sq_mono (ab_nn y) (le_ab (m := 1000000) (by omega) (by omega))
  rw [ab_sq] at e1 e2
  omega
set_option maxHeartbeats 1000000 in
theorem iRoot (n : Int) (w : World) (h0 : 0 ≤ n) (h1 : n ≤ 4000000000000) : Calls Try.prog 71 #[.int .i64 n] w fun e w' => e = .returned (.int .i64 (rt n)) ∧ w = w' := by
  go_enter Try.func71, Try.ntmps71
  go_wp2
  go_loop [3, 4, 5] (fun a b _ => ∃ x y : Int, a = .int .i64 x ∧ b = .int .i64 y ∧ 0 ≤ x ∧ x < y ∧ y ≤ 2147483648 ∧ x * x ≤ n ∧ n < y * y) (fun a b _ => (intOf b - intOf a).toNat)
  case atStart => exact ⟨0, 2147483648, rfl, rfl, by omega, by omega, by omega, by omega, by omega⟩
  case round =>
    obtain ⟨x, y, rfl, rfl, hx, hxy, hy, hl, hh⟩ := hrel
    have hL := Lib.hid hl
    have hH := Lib.hid hh
    clear hl hh
    by_cases hlt : x + 1 < y
    · have hc1 : x < (x + y) / 2 := by omega
      have hc2 : (x + y) / 2 < y := by omega
      have hcc := sq_le (c := (x + y) / 2) (m := 2147483648) (by omega) (by omega)
      obtain ⟨hc3, hc4⟩ := hcc
      by_cases hm : (x + y) / 2 * ((x + y) / 2) ≤ n
      · go_wp2
        go_round
        case rel => exact ⟨_, y, rfl, rfl, by omega, hc2, hy, hm, hH.out⟩
        case measure => simp [intOf]; omega
      · go_wp2
        go_round
        case rel => exact ⟨x, _, rfl, rfl, hx, hc1, by omega, hL.out, by omega⟩
        case measure => simp [intOf]; omega
    · go_wp2
      go_ret
      have e := hH.out
      rw [show y = x + 1 from by omega] at e
      exact ⟨ret_int (rt_uniq hx hL.out e), rfl⟩
set_option maxHeartbeats 1000000 in
theorem sRoot (n : Int) (w : World) (h0 : 0 ≤ n) (h1 : n ≤ 4000000000000) : Calls Try.prog 75 #[.int .i64 n] w fun e w' => e = .returned (.int .i64 (rt n)) ∧ w = w' := by
  go_enter Try.func75, Try.ntmps75
  go_wp2
  go_loop [3, 4, 5] (fun a b _ => ∃ x y : Int, a = .int .i64 x ∧ b = .int .i64 y ∧ 0 ≤ x ∧ x ≤ y ∧ y ≤ 2000000 ∧ x * x ≤ n ∧ n < (y + 1) * (y + 1)) (fun a b _ => (intOf b - intOf a).toNat)
  case atStart => exact ⟨0, 2000000, rfl, rfl, by omega, by omega, by omega, by omega, by omega⟩
  case round =>
    obtain ⟨x, y, rfl, rfl, hx, hxy, hy, hl, hh⟩ := hrel
    have hL := Lib.hid hl
    have hH := Lib.hid hh
    clear hl hh
    by_cases hlt : x < y
    · have hc1 : x < (x + y + 1) / 2 := by omega
      have hc2 : (x + y + 1) / 2 ≤ y := by omega
      have hcc := sq_le (c := (x + y + 1) / 2) (m := 2147483648) (by omega) (by omega)
      obtain ⟨hc3, hc4⟩ := hcc
      by_cases hm : (x + y + 1) / 2 * ((x + y + 1) / 2) ≤ n
      · go_wp2
        go_round
        case rel => exact ⟨_, y, rfl, rfl, by omega, hc2, hy, hm, hH.out⟩
        case measure => simp [intOf]; omega
      · go_wp2
        go_round
        case rel => exact ⟨x, _, rfl, rfl, hx, by omega, by omega, hL.out, by rw [Int.sub_add_cancel]; omega⟩
        case measure => simp [intOf]; omega
    · obtain rfl : x = y := by omega
      go_wp2
      go_ret
      exact ⟨ret_int (rt_uniq hx hL.out hH.out), rfl⟩
theorem len_eq (x y : Int) : rt (x * x + y * y) = len x y := rfl
set_option maxHeartbeats 1000000 in
theorem iLength (x y : Int) (w : World) : Calls Try.prog 54 #[.agg #[.int .i64 x, .int .i64 y]] w fun e w' => e = .returned (.tuple #[.int .i64 (if vokB x y then len x y else 0), .bool (vokB x y)]) ∧ Below w.heap.size w w' := by
  go_enter Try.func54, Try.ntmps54
  go_wp2_with fail; refine (iVecOk _ _ _).mono ?_; rintro e w1 ⟨rfl, hb1⟩; obtain ⟨hc1, hf1⟩ := bcell hb1; have hz1 : w.heap.size < w1.heap.size := (by have := hb1.size; first | omega | (simp at this; omega)); have hy1 : w.heap.size < w1.heap.size + 1 := Nat.lt_succ_of_lt hz1; have hB1 : Below w.heap.size w w1 := bstep (by (repeat (first | with_reducible assumption | with_reducible exact Below.refl _ _ | ((with_reducible refine Below.alloc ?_ ?_ _); rotate_left; · exact (by first | omega | (simp; done) | (simp; omega))) | ((with_reducible refine Below.setCell ?_ ?_ _); rotate_left; · exact (by first | omega | (simp; done) | (simp; omega))) | with_reducible refine Below.drew ?_ | assumption | exact Below.refl _ _ | refine Below.alloc ?_ (by first | omega | (simp; done) | (simp; omega)) _ | refine Below.setCell ?_ (by first | omega | (simp; done) | (simp; omega)) _ | refine Below.drew ?_))) (by first | omega | (simp; done) | (simp; omega)) hb1
  cases h : vokB x y with
  | false =>
    go_wp2
    all_goals (refine bodyPost_ret (by simp [results, Try.results54, go_sem, *]; try rfl) rfl ?_; exact ⟨rfl, by (repeat (first | with_reducible assumption | with_reducible exact Below.refl _ _ | ((with_reducible refine Below.alloc ?_ ?_ _); rotate_left; · exact (by first | omega | (simp; done) | (simp; omega))) | ((with_reducible refine Below.setCell ?_ ?_ _); rotate_left; · exact (by first | omega | (simp; done) | (simp; omega))) | with_reducible refine Below.drew ?_ | assumption | exact Below.refl _ _ | refine Below.alloc ?_ (by first | omega | (simp; done) | (simp; omega)) _ | refine Below.setCell ?_ (by first | omega | (simp; done) | (simp; omega)) _ | refine Below.drew ?_))⟩)
  | true =>
    have hv := vokB_ok h
    have hs := vok_sq h
    obtain ⟨⟨a1, a2⟩, ⟨a3, a4⟩⟩ := vok_sq1 h
    go_wp2_with fail; refine (iSquare _ _ _ (by omega) (by omega)).mono ?_; rintro e w2 ⟨rfl, hb2⟩; obtain ⟨hc2, hf2⟩ := bcell hb2; have hz2 : w.heap.size < w2.heap.size := (by have := hb2.size; first | omega | (simp at this; omega)); have hy2 : w.heap.size < w2.heap.size + 1 := Nat.lt_succ_of_lt hz2; have hB2 : Below w.heap.size w w2 := bstep (by (repeat (first | with_reducible assumption | with_reducible exact Below.refl _ _ | ((with_reducible refine Below.alloc ?_ ?_ _); rotate_left; · exact (by first | omega | (simp; done) | (simp; omega))) | ((with_reducible refine Below.setCell ?_ ?_ _); rotate_left; · exact (by first | omega | (simp; done) | (simp; omega))) | with_reducible refine Below.drew ?_ | assumption | exact Below.refl _ _ | refine Below.alloc ?_ (by first | omega | (simp; done) | (simp; omega)) _ | refine Below.setCell ?_ (by first | omega | (simp; done) | (simp; omega)) _ | refine Below.drew ?_))) (by first | omega | (simp; done) | (simp; omega)) hb2
    go_wp2_with (go_at_call 71; refine (iRoot _ _ hs.1 (by omega)).mono ?_; rintro e w' ⟨rfl, rfl⟩)
    all_goals (refine bodyPost_ret (by simp [results, Try.results54, go_sem, *]; try rfl) rfl ?_; exact ⟨by rw [len_eq], by (repeat (first | with_reducible assumption | with_reducible exact Below.refl _ _ | ((with_reducible refine Below.alloc ?_ ?_ _); rotate_left; · exact (by first | omega | (simp; done) | (simp; omega))) | ((with_reducible refine Below.setCell ?_ ?_ _); rotate_left; · exact (by first | omega | (simp; done) | (simp; omega))) | with_reducible refine Below.drew ?_ | assumption | exact Below.refl _ _ | refine Below.alloc ?_ (by first | omega | (simp; done) | (simp; omega)) _ | refine Below.setCell ?_ (by first | omega | (simp; done) | (simp; omega)) _ | refine Below.drew ?_))⟩)
set_option maxHeartbeats 1000000 in
theorem sLength (x y : Int) (w : World) (h : vokB x y = true) : Calls Try.prog 57 #[.agg #[.int .i64 x, .int .i64 y]] w fun e w' => e = .returned (.int .i64 (len x y)) ∧ Below w.heap.size w w' := by
  have hv := vokB_ok h
  have hs := vok_sq h
  obtain ⟨⟨a1, a2⟩, ⟨a3, a4⟩⟩ := vok_sq1 h
  go_enter Try.func57, Try.ntmps57
  go_wp2_with (go_at_call 75; refine (sRoot _ _ hs.1 (by omega)).mono ?_; rintro e w' ⟨rfl, rfl⟩)
  go_ret
  exact ⟨ret_int (len_eq2 x y), by (repeat (first | with_reducible assumption | with_reducible exact Below.refl _ _ | ((with_reducible refine Below.alloc ?_ ?_ _); rotate_left; · exact (by first | omega | (simp; done) | (simp; omega))) | ((with_reducible refine Below.setCell ?_ ?_ _); rotate_left; · exact (by first | omega | (simp; done) | (simp; omega))) | with_reducible refine Below.drew ?_ | assumption | exact Below.refl _ _ | refine Below.alloc ?_ (by first | omega | (simp; done) | (simp; omega)) _ | refine Below.setCell ?_ (by first | omega | (simp; done) | (simp; omega)) _ | refine Below.drew ?_))⟩
end Go.Proofs.Ytgiadgbfeldheaa

/- Plain laws: the root, the length of a vector, the clamp; no program in sight. -/
import Derived.WalkKit
import Derived.Test.YtnhjalijnociaaaQab
/- Plain laws: the root, the length of a vector, the clamp; no program in sight. -/
namespace Go.Proofs.Ytnhjalijnociaaa
open Go

/-- the root, counted up -/
def isq : Nat → Nat
  | 0 => 0
  | n + 1 => if (isq n + 1) * (isq n + 1) ≤ n + 1 then isq n + 1 else isq n
theorem isq_spec : ∀ n, isq n * isq n ≤ n ∧ n < (isq n + 1) * (isq n + 1)
  | 0 => by simp [isq]
  | n + 1 => by
    obtain ⟨h1, h2⟩ := isq_spec n
    unfold isq
    split
    · rename_i h
      refine ⟨h, ?_⟩
      have : (isq n + 1 + 1) * (isq n + 1 + 1) = (isq n + 1) * (isq n + 1) + 2 * isq n + 3 := by
        simp only [Nat.add_mul, Nat.mul_add]; omega
      omega
    · rename_i h
      exact ⟨by omega, by omega⟩
/-- the greatest number whose square is at most n -/
def rt (n : Int) : Int := isq n.toNat
theorem rt_nn (n : Int) : 0 ≤ rt n := by unfold rt; omega
theorem rt_spec {n : Int} (h : 0 ≤ n) : rt n * rt n ≤ n ∧ n < (rt n + 1) * (rt n + 1) := by
  obtain ⟨h1, h2⟩ := isq_spec n.toNat
  unfold rt
  refine ⟨?_, ?_⟩
  · have : ((isq n.toNat * isq n.toNat : Nat) : Int) ≤ (n.toNat : Int) := by exact_mod_cast h1
    rw [Int.natCast_mul] at this
    omega
  · have : (n.toNat : Int) < (((isq n.toNat + 1) * (isq n.toNat + 1) : Nat) : Int) := by exact_mod_cast h2
    rw [Int.natCast_mul] at this
    simp only [Int.natCast_add, Int.cast_ofNat_Int] at this
    omega
theorem sq_mono {a b : Int} (h0 : 0 ≤ a) (h : a ≤ b) : a * a ≤ b * b := Int.mul_le_mul h h h0 (by omega)
theorem sq_lt {a b : Int} (h0 : 0 ≤ b) (h : a * a < b * b) : a < b := by
  rcases Int.lt_or_le a b with h1 | h1
  · exact h1
  · have := sq_mono h0 h1
    omega
theorem rt_uniq {n r : Int} (h0 : 0 ≤ r) (h1 : r * r ≤ n) (h2 : n < (r + 1) * (r + 1)) : r = rt n := by
  have hn : 0 ≤ n := by have := Int.mul_nonneg h0 h0; omega
  obtain ⟨k1, k2⟩ := rt_spec hn
  have k0 := rt_nn n
  have a1 : r < rt n + 1 := sq_lt (by omega) (by omega)
  have a2 : rt n < r + 1 := sq_lt (by omega) (by omega)
  omega
theorem rt_mono {a b : Int} (h0 : 0 ≤ a) (h : a ≤ b) : rt a ≤ rt b := by
  obtain ⟨k1, k2⟩ := rt_spec h0
  obtain ⟨j1, j2⟩ := rt_spec (n := b) (by omega)
  have k0 := rt_nn a
  have j0 := rt_nn b
  have := sq_lt (a := rt a) (b := rt b + 1) (by omega) (by omega)
  omega
theorem rt_le {n m : Int} (h0 : 0 ≤ n) (hm : 0 ≤ m) (h : n < (m + 1) * (m + 1)) : rt n ≤ m := by
  obtain ⟨k1, k2⟩ := rt_spec h0
  have := sq_lt (a := rt n) (b := m + 1) (by omega) (by omega)
  omega
theorem rt_ge {n m : Int} (h0 : 0 ≤ n) (_ : 0 ≤ m) (h : m * m ≤ n) : m ≤ rt n := by
  obtain ⟨k1, k2⟩ := rt_spec h0
  have := rt_nn n
  have := sq_lt (a := m) (b := rt n + 1) (by omega) (by omega)
  omega
theorem rt_lt_of {n m : Int} (h0 : 0 ≤ n) (_ : 0 ≤ m) (h : rt n ≤ m) : n < (m + 1) * (m + 1) := by
  obtain ⟨k1, k2⟩ := rt_spec h0
  have k0 := rt_nn n
  have := sq_mono (a := rt n + 1) (b := m + 1) (by omega) (by omega)
  omega
attribute [irreducible] rt

theorem sqn (x : Int) : 0 ≤ x * x := by
  rcases Int.le_total 0 x with h | h
  · exact Int.mul_nonneg h h
  · exact Int.mul_nonneg_of_nonpos_of_nonpos h h
/-- the length of a vector, rounded down -/
def len (x y : Int) : Int := rt (x * x + y * y)
theorem len_nn (x y : Int) : 0 ≤ len x y := rt_nn _
/-- the size of a number -/
def ab (x : Int) : Int := if x < 0 then -x else x
theorem ab_nn (x : Int) : 0 ≤ ab x := by unfold ab; split <;> omega
theorem ab_sq (x : Int) : ab x * ab x = x * x := by
  unfold ab
  split
  · rw [Int.neg_mul_neg]
  · rfl
theorem ab_le {x m : Int} (h : ab x ≤ m) : -m ≤ x ∧ x ≤ m := by
  unfold ab at h
  split at h <;> omega
theorem le_ab {x m : Int} (h1 : -m ≤ x) (h2 : x ≤ m) : ab x ≤ m := by
  unfold ab
  split <;> omega
theorem len_mono {x y a b : Int} (h1 : ab x ≤ ab a) (h2 : ab y ≤ ab b) : len x y ≤ len a b := by
  unfold len
  have e1 := sq_mono (ab_nn x) h1
  have e2 := sq_mono (ab_nn y) h2
  rw [ab_sq, ab_sq] at e1 e2
  exact rt_mono (by have := sqn x; have := sqn y; omega) (by omega)
/-- no coordinate is larger than the length -/
theorem ab_len (x y : Int) : ab x ≤ len x y ∧ ab y ≤ len x y := by
  have hx := sqn x
  have hy := sqn y
  exact ⟨rt_ge (by omega) (ab_nn x) (by rw [ab_sq]; omega), rt_ge (by omega) (ab_nn y) (by rw [ab_sq]; omega)⟩
theorem ab_tdiv {a n : Int} (hn : 0 < n) : ab (a.tdiv n) * n ≤ ab a := by
  have h := Int.mul_tdiv_add_tmod a n
  have h2 : ab (a.tmod n) ≤ ab a ∧ True := ⟨by
    unfold ab
    have := Int.tmod_nonneg n (a := a)
    rcases Int.le_total 0 a with h0 | h0
    · have := Int.tmod_nonneg n h0
      have h3 : a.tmod n ≤ a := by
        have := Int.tdiv_nonneg h0 (Int.le_of_lt hn)
        have := Int.mul_nonneg (Int.le_of_lt hn) this
        omega
      split <;> split <;> omega
    · have h4 := Int.tmod_nonneg n (a := -a) (by omega)
      rw [Int.neg_tmod] at h4
      have h5 : -(a.tmod n) ≤ -a := by
        have := Int.tdiv_nonneg (a := -a) (by omega) (Int.le_of_lt hn)
        rw [Int.neg_tdiv] at this
        have := Int.mul_nonneg (Int.le_of_lt hn) this
        rw [Int.mul_neg] at this
        omega
      split <;> split <;> omega, trivial⟩
  rcases Int.le_total 0 a with h0 | h0
  · have q := Int.tdiv_nonneg h0 (Int.le_of_lt hn)
    have m := Int.tmod_nonneg n h0
    have e1 : ab (a.tdiv n) = a.tdiv n := by unfold ab; split <;> omega
    have e2 : ab a = a := by unfold ab; split <;> omega
    rw [e1, e2, Int.mul_comm]
    omega
  · have q := Int.tdiv_nonneg (a := -a) (by omega) (Int.le_of_lt hn)
    have m := Int.tmod_nonneg n (a := -a) (by omega)
    rw [Int.neg_tdiv] at q
    rw [Int.neg_tmod] at m
    have e1 : ab (a.tdiv n) = -(a.tdiv n) := by unfold ab; split <;> omega
    have e2 : ab a = -a := by unfold ab; split <;> omega
    rw [e1, e2, Int.neg_mul, Int.mul_comm]
    omega
theorem ab_mul {a k : Int} (hk : 0 ≤ k) : ab (a * k) = ab a * k := by
  unfold ab
  rcases Int.lt_or_le a 0 with h | h
  · rw [if_pos h]
    split
    · rw [Int.neg_mul]
    · have h1 := Int.mul_nonneg (a := -a) (b := k) (by omega) hk
      rw [Int.neg_mul] at h1
      rw [Int.neg_mul]
      omega
  · have h1 := Int.mul_nonneg h hk
    rw [if_neg (by omega), if_neg (by omega)]
/-- a number times k, divided by n, k no larger than n, is no larger -/
theorem ab_shrink {a k n : Int} (hk : 0 ≤ k) (hn : 0 < n) (h : k ≤ n) : ab ((a * k).tdiv n) ≤ ab a := by
  have h1 := ab_tdiv (a := a * k) hn
  rw [ab_mul hk] at h1
  have h2 : ab a * k ≤ ab a * n := Int.mul_le_mul_of_nonneg_left h (ab_nn a)
  exact Int.le_of_mul_le_mul_right (by omega) hn
/-- a clamped vector is not longer than the limit -/
theorem clamp_len {x y n : Int} (hn : n = len x y) (h : 2000 < n) : len ((x * 2000).tdiv n) ((y * 2000).tdiv n) ≤ 2000 := by
  have hx := sqn x
  have hy := sqn y
  have h0 : 0 < n := by omega
  obtain ⟨k1, k2⟩ := rt_spec (n := x * x + y * y) (by omega)
  have hne : rt (x * x + y * y) = n := hn.symm
  rw [hne] at k1 k2
  have h1 := ab_tdiv (a := x * 2000) h0
  have h2 := ab_tdiv (a := y * 2000) h0
  rw [ab_mul (by omega)] at h1 h2
  generalize hX : (x * 2000).tdiv n = X at *
  generalize hY : (y * 2000).tdiv n = Y at *
  have b1 := sq_mono (Int.mul_nonneg (ab_nn X) (by omega)) h1
  have b2 := sq_mono (Int.mul_nonneg (ab_nn Y) (by omega)) h2
  have e1 : ab X * n * (ab X * n) = X * X * (n * n) := by rw [← ab_sq X]; ac_rfl
  have e2 : ab Y * n * (ab Y * n) = Y * Y * (n * n) := by rw [← ab_sq Y]; ac_rfl
  have e3 : ab x * 2000 * (ab x * 2000) = x * x * 4000000 := by rw [← ab_sq x]; generalize ab x = a; rw [show a * 2000 * (a * 2000) = a * a * (2000 * 2000) from by ac_rfl]; rfl
  have e4 : ab y * 2000 * (ab y * 2000) = y * y * 4000000 := by rw [← ab_sq y]; generalize ab y = a; rw [show a * 2000 * (a * 2000) = a * a * (2000 * 2000) from by ac_rfl]; rfl
  rw [e1, e3] at b1
  rw [e2, e4] at b2
  have hs : (X * X + Y * Y) * (n * n) ≤ (x * x + y * y) * 4000000 := by rw [Int.add_mul]; omega
  have hn2 : (n + 1) * (n + 1) * 4000000 < 2001 * 2001 * (n * n) := by
    have hp : (n + 1) * (n + 1) = n * n + 2 * n + 1 := by rw [Int.add_mul, Int.mul_add]; omega
    have hq : 2001 * n ≤ n * n := Int.mul_le_mul_of_nonneg_right (by omega) (by omega)
    rw [hp]
    omega
  refine rt_le (by have := sqn X; have := sqn Y; omega) (by omega) ?_
  have : (X * X + Y * Y) * (n * n) < (2000 + 1) * (2000 + 1) * (n * n) := by
    have : (2000 + 1 : Int) * (2000 + 1) = 2001 * 2001 := rfl
    rw [this]
    omega
  exact Int.lt_of_mul_lt_mul_right this (Int.mul_nonneg (by omega) (by omega))
end Go.Proofs.Ytnhjalijnociaaa

/- The root and the length of a vector, of the program and of the reference. -/
set_option linter.unusedVariables false
namespace Go.Proofs.Ytnhjalijnociaaa
open Go.RowKit

theorem rt_def_len (x y : Int) : rt (x * x + y * y) = len x y := rfl
theorem len_eq2 (x y : Int) : rt (x * x + y * y) = len x y := rfl
theorem sq_le {c m : Int} (h0 : 0 ≤ c) (h : c ≤ m) : 0 ≤ c * c ∧ c * c ≤ m * m := ⟨Int.mul_nonneg h0 h0, sq_mono h0 h⟩
theorem vok_sq {x y : Int} (h : vokB x y = true) : 0 ≤ x * x + y * y ∧ x * x + y * y ≤ 2000000000000 := by
  simp [vokB, inB] at h
  have h1 := sqn x
  have h2 := sqn y
  have e1 := sq_mono (ab_nn x) (le_ab (m := 1000000) (by omega) (by omega))
  have e2 := sq_mono (ab_nn y) (le_ab (m := 1000000) (by omega) (by omega))
  rw [ab_sq] at e1 e2
  omega
theorem vok_sq1 {x y : Int} (h : vokB x y = true) : (0 ≤ x * x ∧ x * x ≤ 1000000000000) ∧ (0 ≤ y * y ∧ y * y ≤ 1000000000000) := by
  simp [vokB, inB] at h
  have h1 := sqn x
  have h2 := sqn y
  have e1 := sq_mono (ab_nn x) (le_ab (m := 1000000) (by omega) (by omega))
  have e2 := sq_mono (ab_nn y) (le_ab (m := 1000000) (by omega) (by omega))
  rw [ab_sq] at e1 e2
  omega
set_option maxHeartbeats 1000000 in
theorem iRoot (n : Int) (w : World) (h0 : 0 ≤ n) (h1 : n ≤ 4000000000000) : Calls Try.prog 86 #[.int .i64 n] w fun e w' => e = .returned (.int .i64 (rt n)) ∧ w = w' := by
  go_enter Try.func86, Try.ntmps86
  go_wp2
  go_loop [3, 4, 5] (fun a b _ => ∃ x y : Int, a = .int .i64 x ∧ b = .int .i64 y ∧ 0 ≤ x ∧ x < y ∧ y ≤ 2147483648 ∧ x * x ≤ n ∧ n < y * y) (fun a b _ => (intOf b - intOf a).toNat)
  case atStart => exact ⟨0, 2147483648, rfl, rfl, by omega, by omega, by omega, by omega, by omega⟩
  case round =>
    obtain ⟨x, y, rfl, rfl, hx, hxy, hy, hl, hh⟩ := hrel
    have hL := Lib.hid hl
    have hH := Lib.hid hh
    clear hl hh
    by_cases hlt : x + 1 < y
    · have hc1 : x < (x + y) / 2 := by omega
      have hc2 : (x + y) / 2 < y := by omega
      have hcc := sq_le (c := (x + y) / 2) (m := 2147483648) (by omega) (by omega)
      obtain ⟨hc3, hc4⟩ := hcc
      by_cases hm : (x + y) / 2 * ((x + y) / 2) ≤ n
      · go_wp2
        go_round
        case rel => exact ⟨_, y, rfl, rfl, by omega, hc2, hy, hm, hH.out⟩
        case measure => simp [intOf]; omega
      · go_wp2
        go_round
        case rel => exact ⟨x, _, rfl, rfl, hx, hc1, by omega, hL.out, by omega⟩
        case measure => simp [intOf]; omega
    · go_wp2
      go_ret
      have e := hH.out
      rw [show y = x + 1 from by omega] at e
      exact ⟨ret_int (rt_uniq hx hL.out e), rfl⟩
set_option maxHeartbeats 1000000 in
theorem sRoot (n : Int) (w : World) (h0 : 0 ≤ n) (h1 : n ≤ 4000000000000) : Calls Try.prog 118 #[.int .i64 n] w fun e w' => e = .returned (.int .i64 (rt n)) ∧ w = w' := by
  go_enter Try.func118, Try.ntmps118
  go_wp2
  go_loop [3, 4, 5] (fun a b _ => ∃ x y : Int, a = .int .i64 x ∧ b = .int .i64 y ∧ 0 ≤ x ∧ x ≤ y ∧ y ≤ 2000000 ∧ x * x ≤ n ∧ n < (y + 1) * (y + 1)) (fun a b _ => (intOf b - intOf a).toNat)
  case atStart => exact ⟨0, 2000000, rfl, rfl, by omega, by omega, by omega, by omega, by omega⟩
  case round =>
    obtain ⟨x, y, rfl, rfl, hx, hxy, hy, hl, hh⟩ := hrel
    have hL := Lib.hid hl
    have hH := Lib.hid hh
    clear hl hh
    by_cases hlt : x < y
    · have hc1 : x < (x + y + 1) / 2 := by omega
      have hc2 : (x + y + 1) / 2 ≤ y := by omega
      have hcc := sq_le (c := (x + y + 1) / 2) (m := 2147483648) (by omega) (by omega)
      obtain ⟨hc3, hc4⟩ := hcc
      by_cases hm : (x + y + 1) / 2 * ((x + y + 1) / 2) ≤ n
      · go_wp2
        go_round
        case rel => exact ⟨_, y, rfl, rfl, by omega, hc2, hy, hm, hH.out⟩
        case measure => simp [intOf]; omega
      · go_wp2
        go_round
        case rel => exact ⟨x, _, rfl, rfl, hx, by omega, by omega, hL.out, by rw [Int.sub_add_cancel]; omega⟩
        case measure => simp [intOf]; omega
    · obtain rfl : x = y := by omega
      go_wp2
      go_ret
      exact ⟨ret_int (rt_uniq hx hL.out hH.out), rfl⟩
theorem len_eq (x y : Int) : rt (x * x + y * y) = len x y := rfl
set_option maxHeartbeats 1000000 in
theorem iLength (x y : Int) (w : World) : Calls Try.prog 45 #[.agg #[.int .i64 x, .int .i64 y]] w fun e w' => e = .returned (.tuple #[.int .i64 (if vokB x y then len x y else 0), .bool (vokB x y)]) ∧ Below w.heap.size w w' := by
  go_enter Try.func45, Try.ntmps45
  go_wp2_with fail; refine (iVecOk _ _ _).mono ?_; rintro e w1 ⟨rfl, hb1⟩; obtain ⟨hc1, hf1⟩ := bcell hb1; have hz1 : w.heap.size < w1.heap.size := (by have := hb1.size; first | omega | (simp at this; omega)); have hy1 : w.heap.size < w1.heap.size + 1 := Nat.lt_succ_of_lt hz1; have hB1 : Below w.heap.size w w1 := bstep (by (repeat (first | with_reducible assumption | with_reducible exact Below.refl _ _ | ((with_reducible refine Below.alloc ?_ ?_ _); rotate_left; · exact (by first | omega | (simp; done) | (simp; omega))) | ((with_reducible refine Below.setCell ?_ ?_ _); rotate_left; · exact (by first | omega | (simp; done) | (simp; omega))) | with_reducible refine Below.drew ?_ | assumption | exact Below.refl _ _ | refine Below.alloc ?_ (by first | omega | (simp; done) | (simp; omega)) _ | refine Below.setCell ?_ (by first | omega | (simp; done) | (simp; omega)) _ | refine Below.drew ?_))) (by first | omega | (simp; done) | (simp; omega)) hb1
  cases h : vokB x y with
  | false =>
    go_wp2
    all_goals (refine bodyPost_ret (by simp [results, Try.results45, go_sem, *]; try rfl) rfl ?_; exact ⟨rfl, by (repeat (first | with_reducible assumption | with_reducible exact Below.refl _ _ | ((with_reducible refine Below.alloc ?_ ?_ _); rotate_left; · exact (by first | omega | (simp; done) | (simp; omega))) | ((with_reducible refine Below.setCell ?_ ?_ _); rotate_left; · exact (by first | omega | (simp; done) | (simp; omega))) | with_reducible refine Below.drew ?_ | assumption | exact Below.refl _ _ | refine Below.alloc ?_ (by first | omega | (simp; done) | (simp; omega)) _ | refine Below.setCell ?_ (by first | omega | (simp; done) | (simp; omega)) _ | refine Below.drew ?_))⟩)
  | true =>
    have hv := vokB_ok h
    have hs := vok_sq h
    obtain ⟨⟨a1, a2⟩, ⟨a3, a4⟩⟩ := vok_sq1 h
    go_wp2_with fail; refine (iSquare _ _ _ (by omega) (by omega)).mono ?_; rintro e w2 ⟨rfl, hb2⟩; obtain ⟨hc2, hf2⟩ := bcell hb2; have hz2 : w.heap.size < w2.heap.size := (by have := hb2.size; first | omega | (simp at this; omega)); have hy2 : w.heap.size < w2.heap.size + 1 := Nat.lt_succ_of_lt hz2; have hB2 : Below w.heap.size w w2 := bstep (by (repeat (first | with_reducible assumption | with_reducible exact Below.refl _ _ | ((with_reducible refine Below.alloc ?_ ?_ _); rotate_left; · exact (by first | omega | (simp; done) | (simp; omega))) | ((with_reducible refine Below.setCell ?_ ?_ _); rotate_left; · exact (by first | omega | (simp; done) | (simp; omega))) | with_reducible refine Below.drew ?_ | assumption | exact Below.refl _ _ | refine Below.alloc ?_ (by first | omega | (simp; done) | (simp; omega)) _ | refine Below.setCell ?_ (by first | omega | (simp; done) | (simp; omega)) _ | refine Below.drew ?_))) (by first | omega | (simp; done) | (simp; omega)) hb2
    go_wp2_with (go_at_call 86; refine (iRoot _ _ hs.1 (by omega)).mono ?_; rintro e w' ⟨rfl, rfl⟩)
    all_goals (refine bodyPost_ret (by simp [results, Try.results45, go_sem, *]; try rfl) rfl ?_; exact ⟨by rw [len_eq], by (repeat (first | with_reducible assumption | with_reducible exact Below.refl _ _ | ((with_reducible refine Below.alloc ?_ ?_ _); rotate_left; · exact (by first | omega | (simp; done) | (simp; omega))) | ((with_reducible refine Below.setCell ?_ ?_ _); rotate_left; · exact (by first | omega | (simp; done) | (simp; omega))) | with_reducible refine Below.drew ?_ | assumption | exact Below.refl _ _ | refine Below.alloc ?_ (by first | omega | (simp; done) | (simp; omega)) _ | refine Below.setCell ?_ (by first | omega | (simp; done) | (simp; omega)) _ | refine Below.drew ?_))⟩)
set_option maxHeartbeats 1000000 in
theorem sLength (x y : Int) (w : World) (h : vokB x y = true) : Calls Try.prog 85 #[.agg #[.int .i64 x, .int .i64 y]] w fun e w' => e = .returned (.int .i64 (len x y)) ∧ Below w.heap.size w w' := by
  have hv := vokB_ok h
  have hs := vok_sq h
  obtain ⟨⟨a1, a2⟩, ⟨a3, a4⟩⟩ := vok_sq1 h
  go_enter Try.func85, Try.ntmps85
  go_wp2_with (go_at_call 118; refine (sRoot _ _ hs.1 (by omega)).mono ?_; rintro e w' ⟨rfl, rfl⟩)
  go_ret
  exact ⟨ret_int (len_eq2 x y), by (repeat (first | with_reducible assumption | with_reducible exact Below.refl _ _ | ((with_reducible refine Below.alloc ?_ ?_ _); rotate_left; · exact (by first | omega | (simp; done) | (simp; omega))) | ((with_reducible refine Below.setCell ?_ ?_ _); rotate_left; · exact (by first | omega | (simp; done) | (simp; omega))) | with_reducible refine Below.drew ?_ | assumption | exact Below.refl _ _ | refine Below.alloc ?_ (by first | omega | (simp; done) | (simp; omega)) _ | refine Below.setCell ?_ (by first | omega | (simp; done) | (simp; omega)) _ | refine Below.drew ?_))⟩
end Go.Proofs.Ytnhjalijnociaaa

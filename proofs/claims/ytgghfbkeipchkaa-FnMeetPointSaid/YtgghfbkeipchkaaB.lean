/- The laws on inputs and their numbers: FnExactInputOf, FnCodes, FnExactInputCode, FnCodeBack, FnPause, FnCode. -/
import Derived.Test.YtgghfbkeipchkaaU
namespace Go.Proofs.Ytgghfbkeipchkaa
open Go.RowKit

/-- the input with a number: its steering, its power, whether it pauses -/
def ioS (n : Int) : Int := if 0 ≤ n ∧ n ≤ 8 then n % 3 - 1 else 0
def ioP (n : Int) : Int := if 0 ≤ n ∧ n ≤ 8 then n / 3 else 0
def ioB (n : Int) : Bool := decide (n = 9)
/-- the number of an input -/
def inpC (s p : Int) (b : Bool) : Int := if inpV s p b then (if b then 9 else 3 * p + s + 1) else -1
theorem ioS_9 : ioS 9 = 0 := by decide
theorem ioP_9 : ioP 9 = 0 := by decide
theorem ioB_9 : ioB 9 = true := by decide
theorem ioB_ne {n : Int} (h : n ≠ 9) : ioB n = false := by simp [ioB, h]
theorem ioS_in {n : Int} (h : 0 ≤ n) (h2 : n ≤ 8) : ioS n = n % 3 - 1 := if_pos ⟨h, h2⟩
theorem ioP_in {n : Int} (h : 0 ≤ n) (h2 : n ≤ 8) : ioP n = n / 3 := if_pos ⟨h, h2⟩
theorem ioS_out {n : Int} (h : ¬ (0 ≤ n ∧ n ≤ 8)) : ioS n = 0 := if_neg h
theorem ioP_out {n : Int} (h : ¬ (0 ≤ n ∧ n ≤ 8)) : ioP n = 0 := if_neg h
theorem ret_io {s p s' p' : Int} {b b' k k' : Bool} (h1 : s = s') (h2 : p = p') (h3 : b = b') (h4 : k = k') :
    Ending.returned (.tuple #[.agg #[.int .i64 s, .int .i64 p, .bool b], .bool k]) = .returned (.tuple #[.agg #[.int .i64 s', .int .i64 p', .bool b'], .bool k']) := by rw [h1, h2, h3, h4]
theorem inB_yes {n lo hi : Int} (h : lo ≤ n) (h2 : n ≤ hi) : inB n lo hi = true := by rw [inB_of h]; simpa using h2
theorem inB_no {n lo hi : Int} (h : n < lo ∨ hi < n) : inB n lo hi = false := by
  rcases h with h | h
  · exact inB_lt h
  · by_cases h2 : lo ≤ n
    · rw [inB_of h2]; simp; omega
    · exact inB_lt (by omega)
attribute [irreducible] ioS ioP ioB inpC

set_option maxHeartbeats 400000 in
theorem sInputOf (n : Int) (w : World) : Calls Try.prog 97 #[.int .i64 n] w fun e w' => e = .returned (.tuple #[.agg #[.int .i64 (ioS n), .int .i64 (ioP n), .bool (ioB n)], .bool (inB n 0 9)]) ∧ Below w.heap.size w w' := by
  by_cases h9 : n = 9
  · subst h9
    have k1 : inB 9 0 9 = true := inB_yes (by omega) (by omega)
    go_enter Try.func97, Try.ntmps97
    go_wp2_with (go_at_call 65; refine (sIn _ _ _ _).mono ?_; rintro e w' ⟨rfl, rfl⟩)
    go_returns
    exact ⟨ret_io ioS_9.symm ioP_9.symm ioB_9.symm k1.symm, by (repeat (first | with_reducible assumption | with_reducible exact Below.refl _ _ | ((with_reducible refine Below.alloc ?_ ?_ _); rotate_left; · exact (by first | omega | (simp; done) | (simp; omega))) | ((with_reducible refine Below.setCell ?_ ?_ _); rotate_left; · exact (by first | omega | (simp; done) | (simp; omega))) | with_reducible refine Below.drew ?_ | assumption | exact Below.refl _ _ | refine Below.alloc ?_ (by first | omega | (simp; done) | (simp; omega)) _ | refine Below.setCell ?_ (by first | omega | (simp; done) | (simp; omega)) _ | refine Below.drew ?_))⟩
  · have k9 : (n == 9) = false := by simpa using h9
    by_cases h8 : 0 ≤ n ∧ n ≤ 8
    · obtain ⟨h0, h8⟩ := h8
      have k1 : inB n 0 9 = true := inB_yes (by omega) (by omega)
      go_enter Try.func97, Try.ntmps97
      go_wp2_with (go_at_call 65; refine (sIn _ _ _ _).mono ?_; rintro e w' ⟨rfl, rfl⟩)
      go_returns
      exact ⟨ret_io (ioS_in h0 h8).symm (ioP_in h0 h8).symm (ioB_ne h9).symm k1.symm, by (repeat (first | with_reducible assumption | with_reducible exact Below.refl _ _ | ((with_reducible refine Below.alloc ?_ ?_ _); rotate_left; · exact (by first | omega | (simp; done) | (simp; omega))) | ((with_reducible refine Below.setCell ?_ ?_ _); rotate_left; · exact (by first | omega | (simp; done) | (simp; omega))) | with_reducible refine Below.drew ?_ | assumption | exact Below.refl _ _ | refine Below.alloc ?_ (by first | omega | (simp; done) | (simp; omega)) _ | refine Below.setCell ?_ (by first | omega | (simp; done) | (simp; omega)) _ | refine Below.drew ?_))⟩
    · have k1 : inB n 0 9 = false := inB_no (by omega)
      go_enter Try.func97, Try.ntmps97
      go_wp2_with (go_at_call 65; refine (sIn _ _ _ _).mono ?_; rintro e w' ⟨rfl, rfl⟩)
      go_returns
      exact ⟨ret_io (ioS_out h8).symm (ioP_out h8).symm (ioB_ne h9).symm k1.symm, by (repeat (first | with_reducible assumption | with_reducible exact Below.refl _ _ | ((with_reducible refine Below.alloc ?_ ?_ _); rotate_left; · exact (by first | omega | (simp; done) | (simp; omega))) | ((with_reducible refine Below.setCell ?_ ?_ _); rotate_left; · exact (by first | omega | (simp; done) | (simp; omega))) | with_reducible refine Below.drew ?_ | assumption | exact Below.refl _ _ | refine Below.alloc ?_ (by first | omega | (simp; done) | (simp; omega)) _ | refine Below.setCell ?_ (by first | omega | (simp; done) | (simp; omega)) _ | refine Below.drew ?_))⟩


theorem inpC_no {s p : Int} {b : Bool} (h : inpV s p b = false) : inpC s p b = -1 := by simp [inpC, h]
theorem inpC_pause {s p : Int} (h : inpV s p true = true) : inpC s p true = 9 := by simp [inpC, h]
theorem inpC_go {s p : Int} (h : inpV s p false = true) : inpC s p false = 3 * p + s + 1 := by simp [inpC, h]
theorem inpV_bd {s p : Int} {b : Bool} (h : inpV s p b = true) : -1 ≤ s ∧ s ≤ 1 ∧ 0 ≤ p ∧ p ≤ 2 ∧ (b = true → s = 0 ∧ p = 0) := by
  simp [inpV, inB] at h
  obtain ⟨⟨⟨h1, h2⟩, h3, h4⟩, h5⟩ := h
  exact ⟨h1, h2, h3, h4, fun hb => by simpa [hb] using h5⟩




end Go.Proofs.Ytgghfbkeipchkaa

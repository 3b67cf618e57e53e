/- The laws on inputs and their numbers: FnExactInputOf, FnCodes, FnExactInputCode, FnCodeBack, FnPause, FnCode. -/
import Derived.Test.YtgiadgbfeldheaaU
namespace Go.Proofs.Ytgiadgbfeldheaa
open Go.RowKit

/-- the input with a number: its steering, its power, whether it pauses -/
def ioS (n : Int) : Int := if 0 ≤ n ∧ n ≤ 8 then n % 3 - 1 else 0
def ioP (n : Int) : Int := if 0 ≤ n ∧ n ≤ 8 then n / 3 else 0
def ioB (n : Int) : Bool := decide (n = 9)
/-- the number of an input -/
def inpC (s p : Int) (b : Bool) : Int := if inpV s p b then (if b then 9 else 3 * p + s + 1) else -1
theorem ioS_9 : ioS 9 = 0 := by decide
theorem ioP_9 : ioP 9 = 0 := by decide
theorem ioB_9 : ioB 9 = true := by decide
theorem ioB_ne {n : Int} (h : n ≠ 9) : ioB n = false := by simp [ioB, h]
theorem ioS_in {n : Int} (h : 0 ≤ n) (h2 : n ≤ 8) : ioS n = n % 3 - 1 := if_pos ⟨h, h2⟩
theorem ioP_in {n : Int} (h : 0 ≤ n) (h2 : n ≤ 8) : ioP n = n / 3 := if_pos ⟨h, h2⟩
theorem ioS_out {n : Int} (h : ¬ (0 ≤ n ∧ n ≤ 8)) : ioS n = 0 := if_neg h
theorem ioP_out {n : Int} (h : ¬ (0 ≤ n ∧ n ≤ 8)) : ioP n = 0 := if_neg h
theorem ret_io {s p s' p' : Int} {b b' k k' : Bool} (h1 : s = s') (h2 : p = p') (h3 : b = b') (h4 : k = k') :
    Ending.returned (.tuple #[.agg #[.int .i64 s, .int .i64 p, .bool b], .bool k]) = .returned (.tuple #[.agg #[.int .i64 s', .int .i64 p', .bool b'], .bool k']) := by rw [h1, h2, h3, h4]
theorem inB_yes {n lo hi : Int} (h : lo ≤ n) (h2 : n ≤ hi) : inB n lo hi = true := by rw [inB_of h]; simpa using h2
theorem inB_no {n lo hi : Int} (h : n < lo ∨ hi < n) : inB n lo hi = false := by
  rcases h with h | h
  · exact inB_lt h
  · by_cases h2 : lo ≤ n
    · rw [inB_of h2]; simp; omega
    · exact inB_lt (by omega)
attribute [irreducible] ioS ioP ioB inpC



theorem inpC_no {s p : Int} {b : Bool} (h : inpV s p b = false) : inpC s p b = -1 := by simp [inpC, h]
theorem inpC_pause {s p : Int} (h : inpV s p true = true) : inpC s p true = 9 := by simp [inpC, h]
theorem inpC_go {s p : Int} (h : inpV s p false = true) : inpC s p false = 3 * p + s + 1 := by simp [inpC, h]
theorem inpV_bd {s p : Int} {b : Bool} (h : inpV s p b = true) : -1 ≤ s ∧ s ≤ 1 ∧ 0 ≤ p ∧ p ≤ 2 ∧ (b = true → s = 0 ∧ p = 0) := by
  simp [inpV, inB] at h
  obtain ⟨⟨⟨h1, h2⟩, h3, h4⟩, h5⟩ := h
  exact ⟨h1, h2, h3, h4, fun hb => by simpa [hb] using h5⟩




end Go.Proofs.Ytgiadgbfeldheaa

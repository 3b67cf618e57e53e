/- Contracts of the small functions on inputs: what each returns, for every argument; only new blocks are laid. -/
import Derived.Test.YtgiadgbfeldheaaL
import Derived.WalkKit
import Derived.WalkSpells
import Derived.WalkLawsBesides
import Derived.Handy
namespace Go.Proofs.Ytgiadgbfeldheaa
open Go.RowKit

theorem ret_bool {a b : Bool} (h : a = b) : Ending.returned (.bool a) = .returned (.bool b) := by rw [h]
theorem ret_int {k : IntKind} {a b : Int} (h : a = b) : Ending.returned (.int k a) = .returned (.int k b) := by rw [h]

theorem bcell {W w1 : World} (hb : Below W.heap.size W w1) : (∀ b o, b < W.heap.size → w1.cell? ⟨b, o, none⟩ = W.cell? ⟨b, o, none⟩) ∧ (∀ b o, b < W.heap.size → w1.frozen? ⟨b, o, none⟩ = W.frozen? ⟨b, o, none⟩) :=
  ⟨fun b o h => hb.cell (p := ⟨b, o, none⟩) h, fun b o h => hb.frozen (p := ⟨b, o, none⟩) h⟩
theorem bstep {B : Nat} {w W w1 : World} (h : Below B w W) (hle : B ≤ W.heap.size) (hb : Below W.heap.size W w1) : Below B w w1 := h.trans (hb.mono hle)

/-- in a range -/
def inB (n lo hi : Int) : Bool := decide (lo ≤ n) && decide (n ≤ hi)
theorem inB_of {n lo hi : Int} (h : lo ≤ n) : inB n lo hi = decide (n ≤ hi) := by simp [inB, h]
theorem inB_lt {n lo hi : Int} (h : n < lo) : inB n lo hi = false := by simp [inB]; omega
theorem inB_true {n lo hi : Int} (h : inB n lo hi = true) : lo ≤ n ∧ n ≤ hi := by simpa [inB] using h
theorem inB_false {n lo hi : Int} (h : inB n lo hi = false) : n < lo ∨ hi < n := by
  simp [inB] at h; omega
attribute [irreducible] inB

set_option maxHeartbeats 400000 in
theorem sIn (n lo hi : Int) (w : World) : Calls Try.prog 37 #[.int .i64 n, .int .i64 lo, .int .i64 hi] w fun e w' => e = .returned (.bool (inB n lo hi)) ∧ w = w' := by
  go_enter Try.func37, Try.ntmps37
  go_wp2
  · go_ret; exact ⟨ret_bool (by rw [inB_of ‹_›]), rfl⟩
  · go_ret; exact ⟨ret_bool (by rw [inB_lt ‹_›]), rfl⟩

set_option maxHeartbeats 400000 in
theorem iIn (n lo hi : Int) (w : World) : Calls Try.prog 39 #[.int .i64 n, .int .i64 lo, .int .i64 hi] w fun e w' => e = .returned (.bool (inB n lo hi)) ∧ w = w' := by
  go_enter Try.func39, Try.ntmps39
  go_wp2
  · go_ret; exact ⟨ret_bool (by rw [inB_of ‹_›]), rfl⟩
  · go_ret; exact ⟨ret_bool (by rw [inB_lt ‹_›]), rfl⟩

/-- an input is valid -/
def inpV (s p : Int) (b : Bool) : Bool := inB s (-1) 1 && inB p 0 2 && (!b || (s == 0 && p == 0))

set_option maxHeartbeats 400000 in
theorem sInpV (s p : Int) (b : Bool) (w : World) : Calls Try.prog 19 #[.agg #[.int .i64 s, .int .i64 p, .bool b]] w fun e w' => e = .returned (.bool (inpV s p b)) ∧ Below w.heap.size w w' := by
  go_enter Try.func19, Try.ntmps19
  go_wp2_with (go_at_call 37; refine (sIn _ _ _ _).mono ?_; rintro e w' ⟨rfl, rfl⟩)
  all_goals (go_ret; exact ⟨ret_bool (by rw [Bool.eq_iff_iff]; simp_all [inpV, inB] <;> omega), by go_grown⟩)

set_option maxHeartbeats 400000 in
theorem iInpV (s p : Int) (b : Bool) (w : World) : Calls Try.prog 24 #[.agg #[.int .i64 s, .int .i64 p, .bool b]] w fun e w' => e = .returned (.bool (inpV s p b)) ∧ Below w.heap.size w w' := by
  go_enter Try.func24, Try.ntmps24
  go_wp2_with (go_at_call 39; refine (iIn _ _ _ _).mono ?_; rintro e w' ⟨rfl, rfl⟩)
  all_goals (go_ret; exact ⟨ret_bool (by rw [Bool.eq_iff_iff]; simp_all [inpV, inB] <;> omega), by go_grown⟩)

set_option maxHeartbeats 400000 in
theorem toInp (s p : Int) (b : Bool) (w : World) : Calls Try.prog 9 #[.agg #[.int .i64 s, .int .i64 p, .bool b]] w fun e w' => e = .returned (.agg #[.int .i64 s, .int .i64 p, .bool b]) ∧ Below w.heap.size w w' := by
  go_enter Try.func9, Try.ntmps9
  go_wp2
  go_returns
  exact ⟨rfl, by go_grown⟩

end Go.Proofs.Ytgiadgbfeldheaa

/- Contracts of the hash functions, of the program and of the reference. -/
import Derived.Test.YtgiadgbfeldheaaU
import Derived.Test.YtgiadgbfeldheaaL
namespace Go.Proofs.Ytgiadgbfeldheaa
open Go.RowKit

/-- a slice of n numbers: f gives them -/
def IntsAt (w : World) (a : Option Addr) (n : Nat) (f : Nat → Int) : Prop :=
  n = 0 ∨ ∃ b off, a = some ⟨b, off, none⟩ ∧ b < w.heap.size ∧ ∀ i, i < n → w.cell? ⟨b, off + i, none⟩ = some (.int .i64 (f i))
theorem IntsAt.keep {w w' : World} {a : Option Addr} {n : Nat} {f : Nat → Int} (h : IntsAt w a n f) (hb : Below w.heap.size w w') : IntsAt w' a n f := by
  rcases h with h | ⟨b, off, ha, hlt, hc⟩
  · exact .inl h
  · exact .inr ⟨b, off, ha, Nat.lt_of_lt_of_le hlt hb.size, fun i hi => (hb.cell hlt).trans (hc i hi)⟩

set_option maxHeartbeats 400000 in
theorem iFix (n : Int) (w : World) : Calls Try.prog 91 #[.int .i64 n] w fun e w' => e = .returned (.bool (inB n (-2000000000) 2000000000)) ∧ w = w' := by
  go_enter Try.func91, Try.ntmps91
  go_wp2
  · go_ret; exact ⟨ret_bool (by rw [inB_of ‹_›]), rfl⟩
  · go_ret; exact ⟨ret_bool (by rw [inB_lt ‹_›]), rfl⟩

/-- the first k numbers are in range -/
def okf (f : Nat → Int) : Nat → Bool
  | 0 => true
  | k + 1 => okf f k && inB (f k) (-2000000000) 2000000000
theorem okf_no {f : Nat → Int} {k : Nat} (h : inB (f k) (-2000000000) 2000000000 = false) : ∀ n, k < n → okf f n = false
  | 0, hn => absurd hn (Nat.not_lt_zero _)
  | n + 1, hn => by
    by_cases e : k = n
    · subst e; rw [okf, h, Bool.and_false]
    · rw [okf, okf_no h n (by omega), Bool.false_and]
theorem okf_yes {f : Nat → Int} {k : Nat} (h : okf f k = true) (h2 : inB (f k) (-2000000000) 2000000000 = true) : okf f (k + 1) = true := by rw [okf, h, h2]; rfl
theorem okf_at {f : Nat → Int} : ∀ {n : Nat}, okf f n = true → ∀ i, i < n → inB (f i) (-2000000000) 2000000000 = true
  | 0, _, _, hi => absurd hi (Nat.not_lt_zero _)
  | n + 1, h, i, hi => by
    rw [okf, Bool.and_eq_true] at h
    by_cases e : i = n
    · subst e; exact h.2
    · exact okf_at h.1 i (by omega)




end Go.Proofs.Ytgiadgbfeldheaa

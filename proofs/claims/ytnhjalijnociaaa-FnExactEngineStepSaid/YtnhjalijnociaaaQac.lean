/- Contracts of the hash functions, of the program and of the reference. -/
import Derived.Test.YtnhjalijnociaaaQaa
/- Contracts of the hash functions, of the program and of the reference. -/
namespace Go.Proofs.Ytnhjalijnociaaa
open Go.RowKit

/-- a slice of n numbers: f gives them -/
def IntsAt (w : World) (a : Option Addr) (n : Nat) (f : Nat → Int) : Prop :=
  n = 0 ∨ ∃ b off, a = some ⟨b, off, none⟩ ∧ b < w.heap.size ∧ ∀ i, i < n → w.cell? ⟨b, off + i, none⟩ = some (.int .i64 (f i))
theorem IntsAt.keep {w w' : World} {a : Option Addr} {n : Nat} {f : Nat → Int} (h : IntsAt w a n f) (hb : Below w.heap.size w w') : IntsAt w' a n f := by
  rcases h with h | ⟨b, off, ha, hlt, hc⟩
  · exact .inl h
  · exact .inr ⟨b, off, ha, Nat.lt_of_lt_of_le hlt hb.size, fun i hi => (hb.cell hlt).trans (hc i hi)⟩

set_option maxHeartbeats 400000 in
theorem iFix (n : Int) (w : World) : Calls Try.prog 117 #[.int .i64 n] w fun e w' => e = .returned (.bool (inB n (-2000000000) 2000000000)) ∧ w = w' := by
  go_enter Try.func117, Try.ntmps117
  go_wp2
  · go_ret; exact ⟨ret_bool (by rw [inB_of ‹_›]), rfl⟩
  · go_ret; exact ⟨ret_bool (by rw [inB_lt ‹_›]), rfl⟩

/-- the first k numbers are in range -/
def okf (f : Nat → Int) : Nat → Bool
  | 0 => true
  | k + 1 => okf f k && inB (f k) (-2000000000) 2000000000
theorem okf_no {f : Nat → Int} {k : Nat} (h : inB (f k) (-2000000000) 2000000000 = false) : ∀ n, k < n → okf f n = false
  | 0, hn => absurd hn (Nat.not_lt_zero _)
  | n + 1, hn => by
    by_cases e : k = n
    · subst e; rw [okf, h, Bool.and_false]
    · rw [okf, okf_no h n (by omega), Bool.false_and]
theorem okf_yes {f : Nat → Int} {k : Nat} (h : okf f k = true) (h2 : inB (f k) (-2000000000) 2000000000 = true) : okf f (k + 1) = true := by rw [okf, h, h2]; rfl
theorem okf_at {f : Nat → Int} : ∀ {n : Nat}, okf f n = true → ∀ i, i < n → inB (f i) (-2000000000) 2000000000 = true
  | 0, _, _, hi => absurd hi (Nat.not_lt_zero _)
  | n + 1, h, i, hi => by
    rw [okf, Bool.and_eq_true] at h
    by_cases e : i = n
    · subst e; exact h.2
    · exact okf_at h.1 i (by omega)

set_option maxHeartbeats 400000 in
theorem sStep (h n : Int) (w : World) (h0 : 0 ≤ h) (h1 : h < 1000003) : Calls Try.prog 133 #[.int .i64 h, .int .i64 n] w fun e w' => e = .returned (.int .i64 (hst h n)) ∧ w = w' := by
  have t1 := tmod_lo n
  have t2 := tmod_hi n
  go_enter Try.func133, Try.ntmps133
  go_wp2
  go_ret
  exact ⟨ret_int (hst_eq h n), rfl⟩

set_option maxHeartbeats 400000 in
theorem sHash (h : Int) (a : Option Addr) (n cap : Nat) (f : Nat → Int) (w : World) (h0 : 0 ≤ h) (h1 : h < 1000003) (hn : n ≤ 1099511627776) (hl : IntsAt w a n f) : Calls Try.prog 120 #[.int .i64 h, .slice a n cap] w fun e w' => e = .returned (.int .i64 (hfo f h n)) ∧ w = w' := by
  rcases hl with rfl | ⟨b, off, rfl, hb, hc⟩
  · go_enter Try.func120, Try.ntmps120
    go_wp2
    go_loop [0, 5] (fun v i => v = .int .i64 h ∧ i = .int .i64 0) (fun _ _ => 0)
    case atStart => exact ⟨rfl, rfl⟩
    case round =>
      obtain ⟨rfl, rfl⟩ := hrel
      go_wp2
      go_ret
      exact ⟨rfl, rfl⟩
  · have hc' := Lib.hid hc
    clear hc
    go_enter Try.func120, Try.ntmps120
    go_wp2
    go_loop [0, 5] (fun v i => ∃ k : Nat, k ≤ n ∧ i = .int .i64 k ∧ v = .int .i64 (hfo f h k)) (fun _ i => n - (intOf i).toNat)
    case atStart => exact ⟨0, Nat.zero_le _, rfl, rfl⟩
    case round =>
      obtain ⟨k, hk, rfl, rfl⟩ := hrel
      have b0 := hfo_lo f h0 k
      have b1 := hfo_hi f h1 k
      by_cases hlt : k < n
      · have hcell := hc'.out k hlt
        go_wp2_with fail
        refine (sStep _ _ _ b0 b1).mono ?_
        rintro e w' ⟨rfl, rfl⟩
        go_wp2
        go_round
        case rel => exact ⟨k + 1, by omega, by go_num, rfl⟩
        case measure => simp [intOf]; omega
      · obtain rfl : k = n := by omega
        go_wp2
        go_ret
        exact ⟨rfl, rfl⟩


end Go.Proofs.Ytnhjalijnociaaa

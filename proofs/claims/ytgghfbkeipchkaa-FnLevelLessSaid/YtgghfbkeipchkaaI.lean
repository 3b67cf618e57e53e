/- Contracts: the hasher and what it makes, HashInts, TagOf, TagCheck, of the program and of the reference. -/
import Derived.Test.YtgghfbkeipchkaaH
namespace Go.Proofs.Ytgghfbkeipchkaa
open Go.RowKit

theorem IntsAt.up {w w' : World} {H : Nat} {a : Option Addr} {n : Nat} {f : Nat → Int} (h : IntsAt w a n f) (hb : Up H w.heap.size w w') (hne : ∀ b, a = some b → b.block ≠ H) : IntsAt w' a n f := by
  rcases h with h | ⟨b, off, ha, hlt, hc⟩
  · exact .inl h
  · exact .inr ⟨b, off, ha, Nat.lt_of_lt_of_le hlt hb.size, fun i hi => (hb.cell (p := ⟨b, off + i, none⟩) hlt (hne ⟨b, off, none⟩ ha)).trans (hc i hi)⟩

set_option maxHeartbeats 1000000 in
theorem iNext (H : Nat) (h : Int) (a : Option Addr) (n cap : Nat) (f : Nat → Int) (w : World) (hc0 : w.cell? ⟨H, 0, none⟩ = some (.int .i64 h)) (hf0 : w.frozen? ⟨H, 0, none⟩ = false) (h0 : 0 ≤ h) (h1 : h < 1000003) (hn : n ≤ 1099511627776) (hl : IntsAt w a n f) (hne : ∀ b, a = some b → b.block ≠ H) :
    Calls Try.prog 95 #[.slice a n cap, .pointer (some ⟨H, 0, none⟩)] w fun e w' => e = .returned (.int .i64 (hfo f h n)) ∧ w'.cell? ⟨H, 0, none⟩ = some (.int .i64 (hfo f h n)) ∧ w'.frozen? ⟨H, 0, none⟩ = false ∧ Up H w.heap.size w w' := by
  rcases hl with rfl | ⟨b, off, rfl, hb, hc⟩
  · go_enter Try.func95, Try.ntmps95
    go_wp2
    go_loop [5, 8] (fun _ i => i = .int .i64 0) (fun _ _ => 0)
    case atStart => exact rfl
    case round =>
      obtain rfl := hrel
      go_wp2
      go_ret
      exact ⟨rfl, hc0, hf0, Up.refl _ _ _⟩
  · have hc' := Lib.hid hc
    have hbH : b ≠ H := hne _ rfl
    have hHb : H ≠ b := fun e => hbH e.symm
    clear hc hne
    go_enter Try.func95, Try.ntmps95
    go_wp2
    go_loopw [5, 8] (fun _ i wr => ∃ k : Nat, k ≤ n ∧ i = .int .i64 k ∧ wr.cell? ⟨H, 0, none⟩ = some (.int .i64 (hfo f h k)) ∧ wr.frozen? ⟨H, 0, none⟩ = false ∧ Up H w.heap.size w wr) (fun _ i _ => n - (intOf i).toNat)
    case atStart => exact ⟨0, Nat.zero_le _, rfl, hc0, hf0, Up.refl _ _ _⟩
    case round =>
      obtain ⟨k, hk, rfl, hcr, hfr, hup⟩ := hrel
      have b0 := hfo_lo f h0 k
      have b1 := hfo_hi f h1 k
      have t1 := tmod_lo (f k)
      have t2 := tmod_hi (f k)
      by_cases hlt : k < n
      · have hcell := (hup.cell (p := ⟨b, off + k, none⟩) hb hbH).trans (hc'.out k hlt)
        go_wp2
        go_roundw
        case rel => exact ⟨k + 1, by omega, by go_num, by rw [hfo, ← hst_eq2]; exact World.cell?_setCell_same' _ _ _ (by rw [hcr]; rfl), by rw [World.frozen?_setCell]; exact hfr, hup.setCell (p := ⟨H, 0, none⟩) (.inl rfl) _⟩
        case measure => simp [intOf]; omega
      · obtain rfl : k = n := by omega
        go_wp2
        go_ret
        exact ⟨rfl, hcr, hfr, hup⟩

set_option maxHeartbeats 400000 in
theorem iHasher (w : World) : Calls Try.prog 72 #[] w fun e w' => e = .returned (.func (.func 95) #[] #[.pointer (some ⟨w.heap.size, 0, none⟩)]) ∧ w' = w.alloc (.cells #[.int .i64 17] 3) := by
  have hmf : ∀ (fn : Fn) (first cap : Array Value) (w : World), (Instr.makeFunc fn first cap).run Try.prog w = .ok (.func fn first cap) w := fun _ _ _ _ => rfl
  go_enter Try.func72, Try.ntmps72
  go_wp2
  go_ret
  exact ⟨rfl, rfl⟩


theorem IntsAt.one (W : World) (key : Int) (t : TypeId) : IntsAt (W.alloc (.cells #[.int .i64 key] t)) (some ⟨W.heap.size, 0, none⟩) 1 (fun _ => key) :=
  .inr ⟨_, 0, rfl, by simp, fun i hi => by
    obtain rfl : i = 0 := by omega
    exact World.cell?_alloc_new _ _ _ _⟩

/-- the hash of a list -/
def hashF (f : Nat → Int) (n : Nat) : Int := if okf f n && decide (n ≤ 200) then hfo f 17 n else -1
/-- .. and its tag -/
def tagF (key : Int) (f : Nat → Int) (n : Nat) : Int := if inB key 1 9999 && (okf f n && decide (n ≤ 200)) then hst (hfo f (hst 17 key) n) key else -1
theorem hashF_yes {f : Nat → Int} {n : Nat} (h : (okf f n && decide (n ≤ 200)) = true) : hashF f n = hfo f 17 n := by simp only [hashF, h, if_true]
theorem hashF_no {f : Nat → Int} {n : Nat} (h : (okf f n && decide (n ≤ 200)) = false) : hashF f n = -1 := by simp only [hashF, h]; rfl
theorem tagF_yes {key : Int} {f : Nat → Int} {n : Nat} (hk : inB key 1 9999 = true) (h : (okf f n && decide (n ≤ 200)) = true) : tagF key f n = hst (hfo f (hst 17 key) n) key := by simp only [tagF, h, hk, Bool.true_and, if_true]
theorem tagF_no {key : Int} {f : Nat → Int} {n : Nat} (h : inB key 1 9999 = false ∨ (okf f n && decide (n ≤ 200)) = false) : tagF key f n = -1 := by
  rcases h with h | h
  · simp only [tagF, h, Bool.false_and]; rfl
  · simp only [tagF, h, Bool.and_false]; rfl






end Go.Proofs.Ytgghfbkeipchkaa

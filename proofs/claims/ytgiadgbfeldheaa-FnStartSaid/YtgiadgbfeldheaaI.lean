/- Contracts: the hasher and what it makes, HashInts, TagOf, TagCheck, of the program and of the reference. -/
import Derived.Test.YtgiadgbfeldheaaH
namespace Go.Proofs.Ytgiadgbfeldheaa
open Go.RowKit

theorem IntsAt.up {w w' : World} {H : Nat} {a : Option Addr} {n : Nat} {f : Nat → Int} (h : IntsAt w a n f) (hb : Up H w.heap.size w w') (hne : ∀ b, a = some b → b.block ≠ H) : IntsAt w' a n f := by
  rcases h with h | ⟨b, off, ha, hlt, hc⟩
  · exact .inl h
  · exact .inr ⟨b, off, ha, Nat.lt_of_lt_of_le hlt hb.size, fun i hi => (hb.cell (p := ⟨b, off + i, none⟩) hlt (hne ⟨b, off, none⟩ ha)).trans (hc i hi)⟩




theorem IntsAt.one (W : World) (key : Int) (t : TypeId) : IntsAt (W.alloc (.cells #[.int .i64 key] t)) (some ⟨W.heap.size, 0, none⟩) 1 (fun _ => key) :=
  .inr ⟨_, 0, rfl, by simp, fun i hi => by
    obtain rfl : i = 0 := by omega
    exact World.cell?_alloc_new _ _ _ _⟩

/-- the hash of a list -/
def hashF (f : Nat → Int) (n : Nat) : Int := if okf f n && decide (n ≤ 200) then hfo f 17 n else -1
/-- .. and its tag -/
def tagF (key : Int) (f : Nat → Int) (n : Nat) : Int := if inB key 1 9999 && (okf f n && decide (n ≤ 200)) then hst (hfo f (hst 17 key) n) key else -1
theorem hashF_yes {f : Nat → Int} {n : Nat} (h : (okf f n && decide (n ≤ 200)) = true) : hashF f n = hfo f 17 n := by simp only [hashF, h, if_true]
theorem hashF_no {f : Nat → Int} {n : Nat} (h : (okf f n && decide (n ≤ 200)) = false) : hashF f n = -1 := by simp only [hashF, h]; rfl
theorem tagF_yes {key : Int} {f : Nat → Int} {n : Nat} (hk : inB key 1 9999 = true) (h : (okf f n && decide (n ≤ 200)) = true) : tagF key f n = hst (hfo f (hst 17 key) n) key := by simp only [tagF, h, hk, Bool.true_and, if_true]
theorem tagF_no {key : Int} {f : Nat → Int} {n : Nat} (h : inB key 1 9999 = false ∨ (okf f n && decide (n ≤ 200)) = false) : tagF key f n = -1 := by
  rcases h with h | h
  · simp only [tagF, h, Bool.false_and]; rfl
  · simp only [tagF, h, Bool.and_false]; rfl






end Go.Proofs.Ytgiadgbfeldheaa

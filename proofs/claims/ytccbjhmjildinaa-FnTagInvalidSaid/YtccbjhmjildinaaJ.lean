/- Copies and comparisons of lists of numbers; the lists drawn. -/
import Derived.Test.YtccbjhmjildinaaI
import Derived.Test.YtccbjhmjildinaaD
namespace Go.Proofs.Ytccbjhmjildinaa
open Go.RowKit

theorem ownsRow_lt {w : World} {base : Nat} {e : TypeId} {size : Nat} {g n m cap : Nat} {xs : List Value} (h : w.ownsRow base e size (.slice (some ⟨g, 0, none⟩) m cap) n xs) : g < w.heap.size := by
  rcases h.2 with ⟨h', _⟩ | ⟨g', cap', cur, h', _, hg, _⟩
  · simp at h'
  · simp only [Value.slice.injEq, Option.some.injEq, Addr.mk.injEq, and_true] at h'
    obtain ⟨rfl, _⟩ := h'
    exact (Array.getElem?_eq_some_iff.1 hg).1

set_option maxHeartbeats 1000000 in
theorem eqIS (a a' : Option Addr) (n cap cap' : Nat) (f : Nat → Int) (w : World) (hn : n ≤ 1099511627776) (hl : IntsAt w a n f) (hl' : IntsAt w a' n f) : Calls Try.prog 34 #[.slice a n cap, .slice a' n cap'] w fun e w' => e = .returned (.bool true) ∧ Below w.heap.size w w' := by
  rcases Nat.eq_zero_or_pos n with rfl | hp
  · go_enter Try.func34, Try.ntmps34
    go_wp2
    go_loop [5] (fun i => i = .int .i64 0) (fun _ => 0)
    case atStart => exact rfl
    case round =>
      obtain rfl := hrel
      go_wp2
      go_ret
      exact ⟨rfl, by (repeat (first | assumption | exact Below.refl _ _ | refine Below.alloc ?_ (by first | omega | (simp; done) | (simp; omega)) _ | refine Below.setCell ?_ (by first | omega | (simp; done) | (simp; omega)) _ | refine Below.drew ?_))⟩
  · obtain ⟨b, off, rfl, hb, hc⟩ := hl.resolve_left (by omega)
    obtain ⟨b', off', rfl, hb', hc'⟩ := hl'.resolve_left (by omega)
    have hC := Lib.hid hc
    have hC' := Lib.hid hc'
    clear hc hc' hl hl'
    go_enter Try.func34, Try.ntmps34
    go_wp2
    go_loopw [5] (fun i wr => ∃ k : Nat, k ≤ n ∧ i = .int .i64 k ∧ Below w.heap.size w wr) (fun i _ => n - (intOf i).toNat)
    case atStart => exact ⟨0, Nat.zero_le _, rfl, Below.refl _ _⟩
    case round =>
      obtain ⟨k, hk, rfl, hB⟩ := hrel
      by_cases hlt : k < n
      · have h1 := (hB.cell (p := ⟨b, off + k, none⟩) hb).trans (hC.out k hlt)
        have h2 := (hB.cell (p := ⟨b', off' + k, none⟩) hb').trans (hC'.out k hlt)
        have g1 : (0 : Int) ≤ (k : Int) := by omega
        have g2 : (k : Int) < (n : Int) := by omega
        go_wp2_with fail
        go_quiet (fail)
        go_wp2
        go_roundw
        case rel => exact ⟨k + 1, by omega, by go_num, ⟨hB.os, hB.tape, hB.output, hB.size, hB.block⟩⟩
        case measure => simp [intOf]; omega
      · obtain rfl : k = n := by omega
        go_wp2
        go_ret
        exact ⟨rfl, hB⟩

theorem infoInt : (Try.prog.info? 3).map (fun i => (i.zero, i.size, i.bytes)) = some (some (.int .i64 0), 1, 8) := by kernel_rfl

/-- a new list of the n numbers that f gives -/
def NewInts (n : Nat) (f : Nat → Int) (w : World) (e : Ending) (w' : World) : Prop :=
  ∃ a' cap', e = .returned (.slice a' n cap') ∧ IntsAt w' a' n f ∧ (∀ b, a' = some b → w.heap.size ≤ b.block ∧ b.block < w'.heap.size) ∧ Below w.heap.size w w'

set_option maxHeartbeats 1000000 in
theorem toIS (a : Option Addr) (n cap : Nat) (f : Nat → Int) (w : World) (hn : n ≤ 1048576) (hl : IntsAt w a n f) : Calls Try.prog 32 #[.slice a n cap] w (NewInts n f w) := by
  obtain ⟨i0, hi, hz0, hz1, hz2⟩ := info_parts infoInt
  rcases Nat.eq_zero_or_pos n with rfl | hp
  · go_enter Try.func32, Try.ntmps32
    go_wp2_with (at_make; refine wpList_make_full _ rfl _ _ 38 rfl w.heap.size 3 i0 (.int .i64 0) 1 Try.underlying38 hi hz0 hz1 .i64 .i64 _ _ 0 rfl rfl rfl rfl (by omega) (by unfold maxLen; omega) (Nat.le_refl _) ?_; intro w0 hown0 hgrow0)
    go_loop [4] (fun i => i = .int .i64 0) (fun _ => 0)
    case atStart => exact rfl
    case round =>
      obtain rfl := hrel
      go_wp2
      go_ret
      exact ⟨_, _, rfl, .inl rfl, fun b hb => by cases hb; exact ⟨Nat.le_refl _, ownsRow_lt hown0⟩, (Below.refl _ _).grown hgrow0 (Nat.le_refl _) (fun k h => by cases h)⟩
  · obtain ⟨b, off, rfl, hb, hc⟩ := hl.resolve_left (by omega)
    have hC := Lib.hid hc
    clear hc hl
    go_enter Try.func32, Try.ntmps32
    go_wp2_with (at_make; refine wpList_make_full _ rfl _ _ 38 rfl w.heap.size 3 i0 (.int .i64 0) 1 Try.underlying38 hi hz0 hz1 .i64 .i64 _ _ n rfl rfl rfl rfl (by rw [hz2]; omega) (by unfold maxLen; omega) (Nat.le_refl _) ?_; intro w0 hown0 hgrow0)
    go_loopw [4] (fun i wr => ∃ (k : Nat) (xs : List Value), k ≤ n ∧ i = .int .i64 k ∧ wr.ownsRow w.heap.size 3 1 (.slice (some ⟨w.heap.size, 0, none⟩) n n) n xs ∧ (∀ j, j < k → xs[j]? = some (.int .i64 (f j))) ∧ Below w.heap.size w wr) (fun i _ => n - (intOf i).toNat)
    case atStart => exact ⟨0, _, Nat.zero_le _, rfl, hown0, fun j hj => absurd hj (Nat.not_lt_zero _), (Below.refl _ _).grown hgrow0 (Nat.le_refl _) (fun k h => by cases h)⟩
    case round =>
      obtain ⟨k, xs, hk, rfl, hown, hxs, hB⟩ := hrel
      have hXs := Lib.hid hxs
      clear hxs
      by_cases hlt : k < n
      · have h1 := (hB.cell (p := ⟨b, off + k, none⟩) hb).trans (hC.out k hlt)
        have hlen : xs.length = n := by simpa using hown.1
        obtain ⟨u, hu⟩ : ∃ u, wr.cell? ⟨w.heap.size, k, none⟩ = some u := ⟨xs[k], by rw [hown.cellAt k (by omega)]; exact List.getElem?_eq_getElem (by omega)⟩
        have hfz := hown.frozenAt k
        have hLen := Lib.hid hlen
        clear hlen
        go_wp2
        go_roundw
        case rel =>
          obtain ⟨hst, hgr⟩ := hown.stored k (.int .i64 (f k))
          refine ⟨k + 1, _, by omega, by go_num, hst, ?_, hB.grown hgr hB.size (fun k h => by cases h; exact Nat.le_refl _)⟩
          intro j hj
          by_cases e : j = k
          · subst e; rw [List.getElem?_set_self (by rw [hLen.out]; exact hlt)]
          · rw [List.getElem?_set_ne (fun e' => e e'.symm)]; exact hXs.out j (by omega)
        case measure => simp [intOf]; omega
      · obtain rfl : k = n := by omega
        go_wp2
        go_ret
        exact ⟨_, _, rfl, .inr ⟨_, 0, rfl, ownsRow_lt hown, fun i hi => by rw [Nat.zero_add, hown.cellAt i (by omega)]; exact hXs.out i hi⟩, fun b hb => by cases hb; exact ⟨Nat.le_refl _, ownsRow_lt hown⟩, hB⟩
end Go.Proofs.Ytccbjhmjildinaa

/- Contracts: the hasher and what it makes, HashInts, TagOf, TagCheck, of the program and of the reference. -/
import Derived.Test.YtccbjhmjildinaaH
namespace Go.Proofs.Ytccbjhmjildinaa
open Go.RowKit

theorem IntsAt.up {w w' : World} {H : Nat} {a : Option Addr} {n : Nat} {f : Nat → Int} (h : IntsAt w a n f) (hb : Up H w.heap.size w w') (hne : ∀ b, a = some b → b.block ≠ H) : IntsAt w' a n f := by
  rcases h with h | ⟨b, off, ha, hlt, hc⟩
  · exact .inl h
  · exact .inr ⟨b, off, ha, Nat.lt_of_lt_of_le hlt hb.size, fun i hi => (hb.cell (p := ⟨b, off + i, none⟩) hlt (hne ⟨b, off, none⟩ ha)).trans (hc i hi)⟩

set_option maxHeartbeats 1000000 in
theorem iNext (H : Nat) (h : Int) (a : Option Addr) (n cap : Nat) (f : Nat → Int) (w : World) (hc0 : w.cell? ⟨H, 0, none⟩ = some (.int .i64 h)) (hf0 : w.frozen? ⟨H, 0, none⟩ = false) (h0 : 0 ≤ h) (h1 : h < 1000003) (hn : n ≤ 1099511627776) (hl : IntsAt w a n f) (hne : ∀ b, a = some b → b.block ≠ H) :
    Calls Try.prog 58 #[.slice a n cap, .pointer (some ⟨H, 0, none⟩)] w fun e w' => e = .returned (.int .i64 (hfo f h n)) ∧ w'.cell? ⟨H, 0, none⟩ = some (.int .i64 (hfo f h n)) ∧ w'.frozen? ⟨H, 0, none⟩ = false ∧ Up H w.heap.size w w' := by
  rcases hl with rfl | ⟨b, off, rfl, hb, hc⟩
  · go_enter Try.func58, Try.ntmps58
    go_wp2
    go_loop [5, 8] (fun _ i => i = .int .i64 0) (fun _ _ => 0)
    case atStart => exact rfl
    case round =>
      obtain rfl := hrel
      go_wp2
      go_ret
      exact ⟨rfl, hc0, hf0, Up.refl _ _ _⟩
  · have hc' := Lib.hid hc
    have hbH : b ≠ H := hne _ rfl
    have hHb : H ≠ b := fun e => hbH e.symm
    clear hc hne
    go_enter Try.func58, Try.ntmps58
    go_wp2
    go_loopw [5, 8] (fun _ i wr => ∃ k : Nat, k ≤ n ∧ i = .int .i64 k ∧ wr.cell? ⟨H, 0, none⟩ = some (.int .i64 (hfo f h k)) ∧ wr.frozen? ⟨H, 0, none⟩ = false ∧ Up H w.heap.size w wr) (fun _ i _ => n - (intOf i).toNat)
    case atStart => exact ⟨0, Nat.zero_le _, rfl, hc0, hf0, Up.refl _ _ _⟩
    case round =>
      obtain ⟨k, hk, rfl, hcr, hfr, hup⟩ := hrel
      have b0 := hfo_lo f h0 k
      have b1 := hfo_hi f h1 k
      have t1 := tmod_lo (f k)
      have t2 := tmod_hi (f k)
      by_cases hlt : k < n
      · have hcell := (hup.cell (p := ⟨b, off + k, none⟩) hb hbH).trans (hc'.out k hlt)
        go_wp2
        go_roundw
        case rel => exact ⟨k + 1, by omega, by go_num, by rw [hfo, ← hst_eq2]; exact World.cell?_setCell_same' _ _ _ (by rw [hcr]; rfl), by rw [World.frozen?_setCell]; exact hfr, hup.setCell (p := ⟨H, 0, none⟩) (.inl rfl) _⟩
        case measure => simp [intOf]; omega
      · obtain rfl : k = n := by omega
        go_wp2
        go_ret
        exact ⟨rfl, hcr, hfr, hup⟩

set_option maxHeartbeats 400000 in
theorem iHasher (w : World) : Calls Try.prog 51 #[] w fun e w' => e = .returned (.func (.func 58) #[] #[.pointer (some ⟨w.heap.size, 0, none⟩)]) ∧ w' = w.alloc (.cells #[.int .i64 17] 3) := by
  have hmf : ∀ (fn : Fn) (first cap : Array Value) (w : World), (Instr.makeFunc fn first cap).run Try.prog w = .ok (.func fn first cap) w := fun _ _ _ _ => rfl
  go_enter Try.func51, Try.ntmps51
  go_wp2
  go_ret
  exact ⟨rfl, rfl⟩

set_option maxHeartbeats 400000 in
theorem iList (a : Option Addr) (n cap : Nat) (f : Nat → Int) (w : World) (hn : n ≤ 1099511627776) (hl : IntsAt w a n f) : Calls Try.prog 50 #[.slice a n cap] w fun e w' => e = .returned (.bool (okf f n && decide (n ≤ 200))) ∧ w = w' := by
  by_cases h2 : n ≤ 200
  · go_enter Try.func50, Try.ntmps50
    go_wp2_with (go_at_call 57; refine (iAre _ _ _ _ _ hn hl).mono ?_; rintro e w' ⟨rfl, rfl⟩)
    go_ret
    exact ⟨ret_bool (by simp [h2]), rfl⟩
  · go_enter Try.func50, Try.ntmps50
    go_wp2
    go_ret
    exact ⟨ret_bool (by simp), rfl⟩

theorem IntsAt.one (W : World) (key : Int) (t : TypeId) : IntsAt (W.alloc (.cells #[.int .i64 key] t)) (some ⟨W.heap.size, 0, none⟩) 1 (fun _ => key) :=
  .inr ⟨_, 0, rfl, by simp, fun i hi => by
    obtain rfl : i = 0 := by omega
    exact World.cell?_alloc_new _ _ _ _⟩

/-- the hash of a list -/
def hashF (f : Nat → Int) (n : Nat) : Int := if okf f n && decide (n ≤ 200) then hfo f 17 n else -1
/-- .. and its tag -/
def tagF (key : Int) (f : Nat → Int) (n : Nat) : Int := if inB key 1 9999 && (okf f n && decide (n ≤ 200)) then hst (hfo f (hst 17 key) n) key else -1
theorem hashF_yes {f : Nat → Int} {n : Nat} (h : (okf f n && decide (n ≤ 200)) = true) : hashF f n = hfo f 17 n := by simp only [hashF, h, if_true]
theorem hashF_no {f : Nat → Int} {n : Nat} (h : (okf f n && decide (n ≤ 200)) = false) : hashF f n = -1 := by simp only [hashF, h]; rfl
theorem tagF_yes {key : Int} {f : Nat → Int} {n : Nat} (hk : inB key 1 9999 = true) (h : (okf f n && decide (n ≤ 200)) = true) : tagF key f n = hst (hfo f (hst 17 key) n) key := by simp only [tagF, h, hk, Bool.true_and, if_true]
theorem tagF_no {key : Int} {f : Nat → Int} {n : Nat} (h : inB key 1 9999 = false ∨ (okf f n && decide (n ≤ 200)) = false) : tagF key f n = -1 := by
  rcases h with h | h
  · simp only [tagF, h, Bool.false_and]; rfl
  · simp only [tagF, h, Bool.and_false]; rfl

set_option maxHeartbeats 400000 in
theorem sHashInts (a : Option Addr) (n cap : Nat) (f : Nat → Int) (w : World) (hn : n ≤ 1099511627776) (hl : IntsAt w a n f) : Calls Try.prog 31 #[.slice a n cap] w fun e w' => e = .returned (.int .i64 (hashF f n)) ∧ w = w' := by
  by_cases ho : (okf f n && decide (n ≤ 200)) = true
  · have hh := Lib.hid (hashF_yes ho)
    go_enter Try.func31, Try.ntmps31
    go_wp2_with (first | (go_at_call 48; refine (sList _ _ _ _ _ hn hl).mono ?_; rintro e w' ⟨rfl, rfl⟩) | (go_at_call 49; refine (sHash _ _ _ _ _ _ (by omega) (by omega) hn hl).mono ?_; rintro e w' ⟨rfl, rfl⟩))
    go_ret
    exact ⟨ret_int hh.out.symm, rfl⟩
  · have ho : (okf f n && decide (n ≤ 200)) = false := by simpa using ho
    have hh := Lib.hid (hashF_no ho)
    go_enter Try.func31, Try.ntmps31
    go_wp2_with (go_at_call 48; refine (sList _ _ _ _ _ hn hl).mono ?_; rintro e w' ⟨rfl, rfl⟩)
    go_ret
    exact ⟨ret_int hh.out.symm, rfl⟩

set_option maxHeartbeats 400000 in
theorem iHashInts (a : Option Addr) (n cap : Nat) (f : Nat → Int) (w : World) (hn : n ≤ 1099511627776) (hl : IntsAt w a n f) (hne : ∀ b, a = some b → b.block ≠ w.heap.size) : Calls Try.prog 33 #[.slice a n cap] w fun e w' => e = .returned (.int .i64 (hashF f n)) ∧ Below w.heap.size w w' := by
  by_cases ho : (okf f n && decide (n ≤ 200)) = true
  · have hh := Lib.hid (hashF_yes ho)
    go_enter Try.func33, Try.ntmps33
    go_wp2_with (first | (go_at_call 50; refine (iList _ _ _ _ _ hn hl).mono ?_; rintro e w' ⟨rfl, rfl⟩) | (go_at_call 51; refine (iHasher _).mono ?_; rintro e w' ⟨rfl, rfl⟩))
    refine (iNext w.heap.size _ _ _ _ f _ (World.cell?_alloc_new _ _ _ _) (by simp) (by omega) (by omega) hn (hl.keep (by (repeat (first | assumption | exact Below.refl _ _ | refine Below.alloc ?_ (by first | omega | (simp; done) | (simp; omega)) _ | refine Below.setCell ?_ (by first | omega | (simp; done) | (simp; omega)) _ | refine Below.drew ?_)))) hne).mono ?_
    rintro e w2 ⟨rfl, hc2, hf2, hu2⟩
    go_wp2
    go_ret
    exact ⟨ret_int hh.out.symm, (upstep (R := w.heap.size) (by (repeat (first | assumption | exact Up.refl _ _ _ | refine Up.alloc ?_ (by first | omega | (simp; done) | (simp; omega)) _ | refine Up.setCell ?_ (.inr (by first | omega | (simp; done) | (simp; omega))) _ | refine Up.drew ?_ | refine Up.drewN ?_ _))) (by first | omega | (simp; done) | (simp; omega)) hu2).below (Nat.le_refl _)⟩
  · have ho : (okf f n && decide (n ≤ 200)) = false := by simpa using ho
    have hh := Lib.hid (hashF_no ho)
    go_enter Try.func33, Try.ntmps33
    go_wp2_with (go_at_call 50; refine (iList _ _ _ _ _ hn hl).mono ?_; rintro e w' ⟨rfl, rfl⟩)
    go_ret
    exact ⟨ret_int hh.out.symm, by (repeat (first | assumption | exact Below.refl _ _ | refine Below.alloc ?_ (by first | omega | (simp; done) | (simp; omega)) _ | refine Below.setCell ?_ (by first | omega | (simp; done) | (simp; omega)) _ | refine Below.drew ?_))⟩

set_option maxHeartbeats 400000 in
theorem sTag (key : Int) (a : Option Addr) (n cap : Nat) (f : Nat → Int) (w : World) (hn : n ≤ 1099511627776) (hl : IntsAt w a n f) : Calls Try.prog 52 #[.int .i64 key, .slice a n cap] w fun e w' => e = .returned (.int .i64 (hst (hfo f (hst 17 key) n) key)) ∧ w = w' := by
  go_enter Try.func52, Try.ntmps52
  go_wp2_with fail
  refine (sStep _ _ _ (by omega) (by omega)).mono ?_
  rintro e w' ⟨rfl, rfl⟩
  have b0 := hst_lo 17 key
  have b1 := hst_hi 17 key
  go_wp2_with fail
  refine (sHash _ _ _ _ _ _ b0 b1 hn hl).mono ?_
  rintro e w' ⟨rfl, rfl⟩
  have c0 := hfo_lo f b0 n
  have c1 := hfo_hi f b1 n
  go_wp2_with fail
  refine (sStep _ _ _ c0 c1).mono ?_
  rintro e w' ⟨rfl, rfl⟩
  go_wp2
  go_ret
  exact ⟨rfl, rfl⟩

set_option maxHeartbeats 400000 in
theorem sTagOf (key : Int) (a : Option Addr) (n cap : Nat) (f : Nat → Int) (w : World) (hn : n ≤ 1099511627776) (hl : IntsAt w a n f) : Calls Try.prog 35 #[.int .i64 key, .slice a n cap] w fun e w' => e = .returned (.int .i64 (tagF key f n)) ∧ w = w' := by
  by_cases hk : inB key 1 9999 = true
  · by_cases ho : (okf f n && decide (n ≤ 200)) = true
    · have hh := Lib.hid (tagF_yes hk ho)
      go_enter Try.func35, Try.ntmps35
      go_wp2_with (first | (go_at_call 42; refine (sIn _ _ _ _).mono ?_; rintro e w' ⟨rfl, rfl⟩) | (go_at_call 48; refine (sList _ _ _ _ _ hn hl).mono ?_; rintro e w' ⟨rfl, rfl⟩) | (go_at_call 52; refine (sTag _ _ _ _ _ _ hn hl).mono ?_; rintro e w' ⟨rfl, rfl⟩))
      go_ret
      exact ⟨ret_int hh.out.symm, rfl⟩
    · have ho : (okf f n && decide (n ≤ 200)) = false := by simpa using ho
      have hh := Lib.hid (tagF_no (key := key) (.inr ho))
      go_enter Try.func35, Try.ntmps35
      go_wp2_with (first | (go_at_call 42; refine (sIn _ _ _ _).mono ?_; rintro e w' ⟨rfl, rfl⟩) | (go_at_call 48; refine (sList _ _ _ _ _ hn hl).mono ?_; rintro e w' ⟨rfl, rfl⟩))
      go_ret
      exact ⟨ret_int hh.out.symm, rfl⟩
  · have hk : inB key 1 9999 = false := by simpa using hk
    have hh := Lib.hid (tagF_no (f := f) (n := n) (.inl hk))
    go_enter Try.func35, Try.ntmps35
    go_wp2_with (first | (go_at_call 42; refine (sIn _ _ _ _).mono ?_; rintro e w' ⟨rfl, rfl⟩) | (go_at_call 48; refine (sList _ _ _ _ _ hn hl).mono ?_; rintro e w' ⟨rfl, rfl⟩))
    go_ret
    exact ⟨ret_int hh.out.symm, rfl⟩

set_option maxHeartbeats 400000 in
theorem iTagOf (key : Int) (a : Option Addr) (n cap : Nat) (f : Nat → Int) (w : World) (hn : n ≤ 1099511627776) (hl : IntsAt w a n f) (hne : ∀ b, a = some b → b.block < w.heap.size) : Calls Try.prog 36 #[.int .i64 key, .slice a n cap] w fun e w' => e = .returned (.int .i64 (tagF key f n)) ∧ Below w.heap.size w w' := by
  by_cases hk : inB key 1 9999 = true
  · by_cases ho : (okf f n && decide (n ≤ 200)) = true
    · have hh := Lib.hid (tagF_yes hk ho)
      go_enter Try.func36, Try.ntmps36
      go_wp2_with (first | (go_at_call 43; refine (iIn _ _ _ _).mono ?_; rintro e w' ⟨rfl, rfl⟩) | (go_at_call 50; refine (iList _ _ _ _ _ hn hl).mono ?_; rintro e w' ⟨rfl, rfl⟩) | (go_at_call 51; refine (iHasher _).mono ?_; rintro e w' ⟨rfl, rfl⟩))
      refine (iNext w.heap.size 17 _ _ _ (fun _ => key) _ (by simp) (by simp) (by omega) (by omega) (by omega) (by have := IntsAt.one (w.alloc (.cells #[.int .i64 17] 3)) key 3; simpa using this) (by simp)).mono ?_
      rintro e w2 ⟨rfl, hc2, hf2, hu2⟩
      have hU2 : Up w.heap.size w.heap.size w w2 := upstep (by (repeat (first | assumption | exact Up.refl _ _ _ | refine Up.alloc ?_ (by first | omega | (simp; done) | (simp; omega)) _ | refine Up.setCell ?_ (.inr (by first | omega | (simp; done) | (simp; omega))) _ | refine Up.drew ?_ | refine Up.drewN ?_ _))) (by first | omega | (simp; done) | (simp; omega)) hu2
      have hz2 : w.heap.size < w2.heap.size := (by have := hu2.size; first | omega | (simp at this; omega))
      have b0 := hst_lo 17 key
      have b1 := hst_hi 17 key
      go_wp2_with fail
      refine (iNext w.heap.size (hst 17 key) _ _ _ f _ hc2 hf2 b0 b1 hn (hl.keep (hU2.below (Nat.le_refl _))) (fun b hb e => by have := hne b hb; omega)).mono ?_
      rintro e w3 ⟨rfl, hc3, hf3, hu3⟩
      have hU3 : Up w.heap.size w.heap.size w w3 := upstep (by (repeat (first | assumption | exact Up.refl _ _ _ | refine Up.alloc ?_ (by first | omega | (simp; done) | (simp; omega)) _ | refine Up.setCell ?_ (.inr (by first | omega | (simp; done) | (simp; omega))) _ | refine Up.drew ?_ | refine Up.drewN ?_ _))) (by first | omega | (simp; done) | (simp; omega)) hu3
      have hz3 : w.heap.size < w3.heap.size := (by have := hu3.size; first | omega | (simp at this; omega))
      have c0 := hfo_lo f b0 n
      have c1 := hfo_hi f b1 n
      go_wp2_with fail
      refine (iNext w.heap.size (hfo f (hst 17 key) n) _ _ _ (fun _ => key) _ ((World.cell?_alloc_lt _ _ _ hz3).trans hc3) ((World.frozen?_alloc_past _ _ _ hz3).trans hf3) c0 c1 (by omega) (IntsAt.one w3 key 3) (by simp; omega)).mono ?_
      rintro e w4 ⟨rfl, hc4, hf4, hu4⟩
      have hU4 : Up w.heap.size w.heap.size w w4 := upstep (by (repeat (first | assumption | exact Up.refl _ _ _ | refine Up.alloc ?_ (by first | omega | (simp; done) | (simp; omega)) _ | refine Up.setCell ?_ (.inr (by first | omega | (simp; done) | (simp; omega))) _ | refine Up.drew ?_ | refine Up.drewN ?_ _))) (by first | omega | (simp; done) | (simp; omega)) hu4
      go_wp2
      go_ret
      exact ⟨ret_int hh.out.symm, hU4.below (Nat.le_refl _)⟩
    · have ho : (okf f n && decide (n ≤ 200)) = false := by simpa using ho
      have hh := Lib.hid (tagF_no (key := key) (.inr ho))
      go_enter Try.func36, Try.ntmps36
      go_wp2_with (first | (go_at_call 43; refine (iIn _ _ _ _).mono ?_; rintro e w' ⟨rfl, rfl⟩) | (go_at_call 50; refine (iList _ _ _ _ _ hn hl).mono ?_; rintro e w' ⟨rfl, rfl⟩))
      go_ret
      exact ⟨ret_int hh.out.symm, by (repeat (first | assumption | exact Below.refl _ _ | refine Below.alloc ?_ (by first | omega | (simp; done) | (simp; omega)) _ | refine Below.setCell ?_ (by first | omega | (simp; done) | (simp; omega)) _ | refine Below.drew ?_))⟩
  · have hk : inB key 1 9999 = false := by simpa using hk
    have hh := Lib.hid (tagF_no (f := f) (n := n) (.inl hk))
    go_enter Try.func36, Try.ntmps36
    go_wp2_with (first | (go_at_call 43; refine (iIn _ _ _ _).mono ?_; rintro e w' ⟨rfl, rfl⟩) | (go_at_call 50; refine (iList _ _ _ _ _ hn hl).mono ?_; rintro e w' ⟨rfl, rfl⟩))
    go_ret
    exact ⟨ret_int hh.out.symm, by (repeat (first | assumption | exact Below.refl _ _ | refine Below.alloc ?_ (by first | omega | (simp; done) | (simp; omega)) _ | refine Below.setCell ?_ (by first | omega | (simp; done) | (simp; omega)) _ | refine Below.drew ?_))⟩

set_option maxHeartbeats 400000 in
theorem sTagCheck (key : Int) (a : Option Addr) (n cap : Nat) (f : Nat → Int) (tag : Int) (w : World) (hn : n ≤ 1099511627776) (hl : IntsAt w a n f) : Calls Try.prog 37 #[.int .i64 key, .slice a n cap, .int .i64 tag] w fun e w' => e = .returned (.bool (decide (0 ≤ tag) && decide (tag = tagF key f n))) ∧ w = w' := by
  by_cases h0 : 0 ≤ tag
  · go_enter Try.func37, Try.ntmps37
    go_wp2_with (go_at_call 35; refine (sTagOf _ _ _ _ _ _ hn hl).mono ?_; rintro e w' ⟨rfl, rfl⟩)
    go_ret
    exact ⟨ret_bool (by rw [Bool.eq_iff_iff]; simp [h0]; exact eq_comm), rfl⟩
  · have h0 : tag < 0 := by omega
    go_enter Try.func37, Try.ntmps37
    go_wp2
    go_ret
    exact ⟨ret_bool (by simp; omega), rfl⟩
set_option maxHeartbeats 400000 in
theorem iTagCheck (key : Int) (a : Option Addr) (n cap : Nat) (f : Nat → Int) (tag : Int) (w : World) (hn : n ≤ 1099511627776) (hl : IntsAt w a n f) (hne : ∀ b, a = some b → b.block < w.heap.size) : Calls Try.prog 38 #[.int .i64 key, .slice a n cap, .int .i64 tag] w fun e w' => e = .returned (.bool (decide (0 ≤ tag) && decide (tag = tagF key f n))) ∧ Below w.heap.size w w' := by
  by_cases h0 : 0 ≤ tag
  · go_enter Try.func38, Try.ntmps38
    go_wp2_with (go_at_call 36; refine (iTagOf _ _ _ _ _ _ hn hl hne).mono ?_; rintro e w1 ⟨rfl, hb1⟩)
    go_ret
    exact ⟨ret_bool (by rw [Bool.eq_iff_iff]; simp [h0]), by (repeat (first | assumption | exact Below.refl _ _ | refine Below.alloc ?_ (by first | omega | (simp; done) | (simp; omega)) _ | refine Below.setCell ?_ (by first | omega | (simp; done) | (simp; omega)) _ | refine Below.drew ?_))⟩
  · have h0 : tag < 0 := by omega
    go_enter Try.func38, Try.ntmps38
    go_wp2
    go_ret
    exact ⟨ret_bool (by simp; omega), by (repeat (first | assumption | exact Below.refl _ _ | refine Below.alloc ?_ (by first | omega | (simp; done) | (simp; omega)) _ | refine Below.setCell ?_ (by first | omega | (simp; done) | (simp; omega)) _ | refine Below.drew ?_))⟩
end Go.Proofs.Ytccbjhmjildinaa

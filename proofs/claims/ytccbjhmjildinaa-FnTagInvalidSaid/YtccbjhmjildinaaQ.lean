/- The walks of the laws on hashes. -/
import Derived.Test.YtccbjhmjildinaaR
import Derived.Deep.RegionWith
namespace Go.Proofs.Ytccbjhmjildinaa
open Go.RowKit

/-- a list drawn by a law -/
def ListDrawn (w : World) (e : Ending) (w' : World) : Prop :=
  ∃ (n g cap : Nat) (f : Nat → Int), e = .returned (.slice (some ⟨g, 0, none⟩) n cap) ∧ n ≤ 201 ∧ IntsAt w' (some ⟨g, 0, none⟩) n f ∧ (∀ i, i < n → -1099511627776 ≤ f i ∧ f i ≤ 1099511627776) ∧ (w.heap.size ≤ g ∧ g < w'.heap.size) ∧ Below w.heap.size w w'

set_option maxHeartbeats 400000 in
theorem dHashInts (a : Option Addr) (len cap : Nat) (zs : List Int) (w : World) (h : IsRow .u8 w a len cap zs) : Calls Try.prog 40 #[.slice a len cap] w (ListDrawn w) := by
  go_enter Try.func40, Try.ntmps40
  go_wp2_with fail; refine (open_any _ _ _ _ _ h).mono ?_; rintro e w1 ⟨R, rfl, hR, hr1, hb1⟩; have hz1 := hb1.size; have hU1 : Up R w.heap.size w w1 := Up.of_below hb1
  go_wp2_with fail; refine (lList_any R 0 _ hr1 (by omega)).mono ?_
  rintro e w2 ⟨n, g, c2, f, k', rfl, hn, hI, hf, hg, hk1, hk2, hr2, hu2⟩
  have hz2 : w.heap.size ≤ w2.heap.size := (by have := hu2.size; first | omega | (simp at this; omega)); have hU2 : Up R w.heap.size w w2 := upstep (by (repeat (first | assumption | exact Up.refl _ _ _ | refine Up.alloc ?_ (by first | omega | (simp; done) | (simp; omega)) _ | refine Up.setCell ?_ (.inr (by first | omega | (simp; done) | (simp; omega))) _ | refine Up.drew ?_ | refine Up.drewN ?_ _))) (by first | omega | (simp; done) | (simp; omega)) hu2
  go_wp2
  go_ret
  exact ⟨n, g, c2, f, rfl, hn, hI, hf, ⟨by omega, hg.2⟩, hU2.below hR⟩

theorem IntsAt.pair (W : World) (x y : Int) (t : TypeId) : IntsAt (W.alloc (.cells #[.int .i64 x, .int .i64 y] t)) (some ⟨W.heap.size, 0, none⟩) 2 (two x y) :=
  .inr ⟨_, 0, rfl, by simp, fun i hi => by
    have : i = 0 ∨ i = 1 := by omega
    rcases this with rfl | rfl
    · exact World.cell?_alloc_new _ _ _ _
    · exact World.cell?_alloc_new _ _ _ _⟩

set_option maxHeartbeats 1000000 in
theorem lawHashEmpty (a : Option Addr) (len cap : Nat) (zs : List Int) (w : World) (h : IsRow .u8 w a len cap zs) : Calls Try.prog 14 #[.slice a len cap] w fun e w' => e = .returned (.bool true) ∧ Below w.heap.size w w' := by
  by_cases hl : len ≤ 1048576
  · go_enter Try.func14, Try.ntmps14
    go_wp2_with fail; refine (dHashInts _ _ _ _ _ h).mono ?_
    rintro e w1 ⟨n, g, c1, f, rfl, hn, hI, hf, hg, hb1⟩
    obtain ⟨hc1, hf1⟩ := bcell hb1; have hz1 : w.heap.size ≤ w1.heap.size := (by have := hb1.size; first | omega | (simp at this; omega)); have hB1 : Below w.heap.size w w1 := bstep (by (repeat (first | assumption | exact Below.refl _ _ | refine Below.alloc ?_ (by first | omega | (simp; done) | (simp; omega)) _ | refine Below.setCell ?_ (by first | omega | (simp; done) | (simp; omega)) _ | refine Below.drew ?_))) (by first | omega | (simp; done) | (simp; omega)) hb1
    go_wp2_with fail; refine (iHashInts _ _ _ f _ (by omega) hI (fun b hb => by cases hb; have := hg.2; simp; omega)).mono ?_
    rintro e w2 ⟨rfl, hb2⟩
    obtain ⟨hc2, hf2⟩ := bcell hb2; have hz2 : w.heap.size ≤ w2.heap.size := (by have := hb2.size; first | omega | (simp at this; omega)); have hB2 : Below w.heap.size w w2 := bstep (by (repeat (first | assumption | exact Below.refl _ _ | refine Below.alloc ?_ (by first | omega | (simp; done) | (simp; omega)) _ | refine Below.setCell ?_ (by first | omega | (simp; done) | (simp; omega)) _ | refine Below.drew ?_))) (by first | omega | (simp; done) | (simp; omega)) hb2
    go_wp2_with fail; refine (sHashInts _ _ _ f _ (by omega) (hI.keep hb2)).mono ?_
    rintro e w' ⟨rfl, rfl⟩
    obtain ⟨hbd1, hbd2⟩ := hashF_bd f n
    have h17 := Lib.hid (hashF_zero f)
    go_wp2_with fail; refine (iHashInts _ _ _ f _ (by omega) (.inl rfl) (fun b hb => by cases hb; simp)).mono ?_
    rintro e w3 ⟨rfl, hb3⟩
    obtain ⟨hc3, hf3⟩ := bcell hb3; have hz3 : w.heap.size ≤ w3.heap.size := (by have := hb3.size; first | omega | (simp at this; omega)); have hB3 : Below w.heap.size w w3 := bstep (by (repeat (first | assumption | exact Below.refl _ _ | refine Below.alloc ?_ (by first | omega | (simp; done) | (simp; omega)) _ | refine Below.setCell ?_ (by first | omega | (simp; done) | (simp; omega)) _ | refine Below.drew ?_))) (by first | omega | (simp; done) | (simp; omega)) hb3
    rw [h17.out]
    go_wp2
    go_ret
    exact ⟨ret_bool (by simp), by (repeat (first | assumption | exact Below.refl _ _ | refine Below.alloc ?_ (by first | omega | (simp; done) | (simp; omega)) _ | refine Below.setCell ?_ (by first | omega | (simp; done) | (simp; omega)) _ | refine Below.drew ?_))⟩
  · go_enter Try.func14, Try.ntmps14
    go_wp2
    go_ret
    exact ⟨rfl, by (repeat (first | assumption | exact Below.refl _ _ | refine Below.alloc ?_ (by first | omega | (simp; done) | (simp; omega)) _ | refine Below.setCell ?_ (by first | omega | (simp; done) | (simp; omega)) _ | refine Below.drew ?_))⟩

set_option maxHeartbeats 1000000 in
theorem lawHashOrder (a : Option Addr) (len cap : Nat) (zs : List Int) (a' : Option Addr) (len' cap' : Nat) (zs' : List Int) (w : World) (h : IsRow .u8 w a len cap zs) (_ : IsRow .u8 w a' len' cap' zs') :
    Calls Try.prog 16 #[.slice a len cap, .slice a' len' cap'] w fun e w' => e = .returned (.bool true) ∧ Below w.heap.size w w' := by
  by_cases hl : len ≤ 1048576
  · by_cases hl' : len' ≤ 1048576
    · go_enter Try.func16, Try.ntmps16
      go_wp2_with fail; refine (dHashInts _ _ _ _ _ h).mono ?_
      rintro e w1 ⟨n, g, c1, f, rfl, hn, hI, hf, hg, hb1⟩
      obtain ⟨hc1, hf1⟩ := bcell hb1; have hz1 : w.heap.size ≤ w1.heap.size := (by have := hb1.size; first | omega | (simp at this; omega)); have hB1 : Below w.heap.size w w1 := bstep (by (repeat (first | assumption | exact Below.refl _ _ | refine Below.alloc ?_ (by first | omega | (simp; done) | (simp; omega)) _ | refine Below.setCell ?_ (by first | omega | (simp; done) | (simp; omega)) _ | refine Below.drew ?_))) (by first | omega | (simp; done) | (simp; omega)) hb1
      go_wp2_with fail; refine (iHashInts _ _ _ f _ (by omega) hI (fun b hb => by cases hb; have := hg.2; simp; omega)).mono ?_
      rintro e w2 ⟨rfl, hb2⟩
      obtain ⟨hc2, hf2⟩ := bcell hb2; have hz2 : w.heap.size ≤ w2.heap.size := (by have := hb2.size; first | omega | (simp at this; omega)); have hB2 : Below w.heap.size w w2 := bstep (by (repeat (first | assumption | exact Below.refl _ _ | refine Below.alloc ?_ (by first | omega | (simp; done) | (simp; omega)) _ | refine Below.setCell ?_ (by first | omega | (simp; done) | (simp; omega)) _ | refine Below.drew ?_))) (by first | omega | (simp; done) | (simp; omega)) hb2
      go_wp2_with fail; refine (sHashInts _ _ _ f _ (by omega) (hI.keep hb2)).mono ?_
      rintro e w' ⟨rfl, rfl⟩
      go_wp2_with fail
      refine (iHashInts _ _ _ _ _ (by omega) (IntsAt.pair w2 _ _ _) (fun b hb => by cases hb; simp)).mono ?_
      rintro e w3 ⟨rfl, hb3⟩
      obtain ⟨hc3, hf3⟩ := bcell hb3; have hz3 : w.heap.size ≤ w3.heap.size := (by have := hb3.size; first | omega | (simp at this; omega)); have hB3 : Below w.heap.size w w3 := bstep (by (repeat (first | assumption | exact Below.refl _ _ | refine Below.alloc ?_ (by first | omega | (simp; done) | (simp; omega)) _ | refine Below.setCell ?_ (by first | omega | (simp; done) | (simp; omega)) _ | refine Below.drew ?_))) (by first | omega | (simp; done) | (simp; omega)) hb3
      go_wp2_with fail
      refine (iHashInts _ _ _ _ _ (by omega) (IntsAt.pair w3 _ _ _) (fun b hb => by cases hb; simp)).mono ?_
      rintro e w4 ⟨rfl, hb4⟩
      obtain ⟨hc4, hf4⟩ := bcell hb4; have hz4 : w.heap.size ≤ w4.heap.size := (by have := hb4.size; first | omega | (simp at this; omega)); have hB4 : Below w.heap.size w w4 := bstep (by (repeat (first | assumption | exact Below.refl _ _ | refine Below.alloc ?_ (by first | omega | (simp; done) | (simp; omega)) _ | refine Below.setCell ?_ (by first | omega | (simp; done) | (simp; omega)) _ | refine Below.drew ?_))) (by first | omega | (simp; done) | (simp; omega)) hb4
      have hne := hashF_two (a := (len' : Int) % 500) (b := (len' : Int) % 500 + 1 + (len : Int) % 400) (by omega) (by omega) (by omega) (by omega)
      go_wp2
      go_ret
      exact ⟨ret_bool (by simpa using hne), by (repeat (first | assumption | exact Below.refl _ _ | refine Below.alloc ?_ (by first | omega | (simp; done) | (simp; omega)) _ | refine Below.setCell ?_ (by first | omega | (simp; done) | (simp; omega)) _ | refine Below.drew ?_))⟩
    · go_enter Try.func16, Try.ntmps16
      go_wp2
      go_ret
      exact ⟨rfl, by (repeat (first | assumption | exact Below.refl _ _ | refine Below.alloc ?_ (by first | omega | (simp; done) | (simp; omega)) _ | refine Below.setCell ?_ (by first | omega | (simp; done) | (simp; omega)) _ | refine Below.drew ?_))⟩
  · go_enter Try.func16, Try.ntmps16
    go_wp2
    go_ret
    exact ⟨rfl, by (repeat (first | assumption | exact Below.refl _ _ | refine Below.alloc ?_ (by first | omega | (simp; done) | (simp; omega)) _ | refine Below.setCell ?_ (by first | omega | (simp; done) | (simp; omega)) _ | refine Below.drew ?_))⟩
end Go.Proofs.Ytccbjhmjildinaa

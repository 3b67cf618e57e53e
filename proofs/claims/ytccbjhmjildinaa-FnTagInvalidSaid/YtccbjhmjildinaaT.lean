/- The walks of the laws on tags: FnTagKey, FnTag, FnTagChange, FnTagInvalid. -/
import Derived.Test.YtccbjhmjildinaaS
namespace Go.Proofs.Ytccbjhmjildinaa
open Go.RowKit

/-- a key and a list drawn -/
def KeyListDrawn (w : World) (e : Ending) (w' : World) : Prop :=
  ∃ (key : Int) (n g cap : Nat) (f : Nat → Int), e = .returned (.tuple #[.int .i64 key, .slice (some ⟨g, 0, none⟩) n cap]) ∧ -1000000 ≤ key ∧ key ≤ 1000000 ∧ n ≤ 201 ∧ IntsAt w' (some ⟨g, 0, none⟩) n f ∧ (∀ i, i < n → -1099511627776 ≤ f i ∧ f i ≤ 1099511627776) ∧ (w.heap.size ≤ g ∧ g < w'.heap.size) ∧ Below w.heap.size w w'

set_option maxHeartbeats 400000 in
theorem dTagOf (a : Option Addr) (len cap : Nat) (zs : List Int) (w : World) (h : IsRow .u8 w a len cap zs) : Calls Try.prog 41 #[.slice a len cap] w (KeyListDrawn w) := by
  go_enter Try.func41, Try.ntmps41
  go_wp2_with fail; refine (open_any _ _ _ _ _ h).mono ?_; rintro e w1 ⟨R, rfl, hR, hr1, hb1⟩; have hz1 := hb1.size; have hU1 : Up R w.heap.size w w1 := Up.of_below hb1
  go_wp2_with fail; refine (lKey_any R 0 _ hr1 (by omega)).mono ?_
  rintro e w2 ⟨key, k2, rfl, hk1, hk2, hk3, hk4, hr2, hu2⟩
  have hz2 : w.heap.size ≤ w2.heap.size := (by have := hu2.size; first | omega | (simp at this; omega)); have hU2 : Up R w.heap.size w w2 := upstep (by (repeat (first | assumption | exact Up.refl _ _ _ | refine Up.alloc ?_ (by first | omega | (simp; done) | (simp; omega)) _ | refine Up.setCell ?_ (.inr (by first | omega | (simp; done) | (simp; omega))) _ | refine Up.drew ?_ | refine Up.drewN ?_ _))) (by first | omega | (simp; done) | (simp; omega)) hu2
  go_wp2_with fail; refine (lList_any R k2 _ hr2 (by omega)).mono ?_
  rintro e w3 ⟨n, g, c2, f, k', rfl, hn, hI, hf, hg, hk5, hk6, hr3, hu3⟩
  have hz3 : w.heap.size ≤ w3.heap.size := (by have := hu3.size; first | omega | (simp at this; omega)); have hU3 : Up R w.heap.size w w3 := upstep (by (repeat (first | assumption | exact Up.refl _ _ _ | refine Up.alloc ?_ (by first | omega | (simp; done) | (simp; omega)) _ | refine Up.setCell ?_ (.inr (by first | omega | (simp; done) | (simp; omega))) _ | refine Up.drew ?_ | refine Up.drewN ?_ _))) (by first | omega | (simp; done) | (simp; omega)) hu3
  go_wp2
  go_returns
  exact ⟨key, n, g, c2, f, rfl, hk1, hk2, hn, hI, hf, ⟨by omega, hg.2⟩, hU3.below hR⟩


set_option maxHeartbeats 2000000 in
theorem lawTagInvalid (a : Option Addr) (len cap : Nat) (zs : List Int) (w : World) (h : IsRow .u8 w a len cap zs) : Calls Try.prog 20 #[.slice a len cap] w fun e w' => e = .returned (.bool true) ∧ Below w.heap.size w w' := by
  by_cases hl : len ≤ 1048576
  · go_enter Try.func20, Try.ntmps20
    go_wp2_with fail; refine (dTagOf _ _ _ _ _ h).mono ?_
    rintro e w1 ⟨key, n, g, c1, f, rfl, hk1, hk2, hn, hI, hf, hg, hb1⟩
    obtain ⟨hc1, hf1⟩ := bcell hb1; have hz1 : w.heap.size ≤ w1.heap.size := (by have := hb1.size; first | omega | (simp at this; omega)); have hB1 : Below w.heap.size w w1 := bstep (by (repeat (first | assumption | exact Below.refl _ _ | refine Below.alloc ?_ (by first | omega | (simp; done) | (simp; omega)) _ | refine Below.setCell ?_ (by first | omega | (simp; done) | (simp; omega)) _ | refine Below.drew ?_))) (by first | omega | (simp; done) | (simp; omega)) hb1
    go_wp2_with fail; refine (iTagOf _ _ _ _ f _ (by omega) hI (fun b hb => by cases hb; exact hg.2)).mono ?_
    rintro e w2 ⟨rfl, hb2⟩
    obtain ⟨hc2, hf2⟩ := bcell hb2; have hz2 : w.heap.size ≤ w2.heap.size := (by have := hb2.size; first | omega | (simp at this; omega)); have hB2 : Below w.heap.size w w2 := bstep (by (repeat (first | assumption | exact Below.refl _ _ | refine Below.alloc ?_ (by first | omega | (simp; done) | (simp; omega)) _ | refine Below.setCell ?_ (by first | omega | (simp; done) | (simp; omega)) _ | refine Below.drew ?_))) (by first | omega | (simp; done) | (simp; omega)) hb2
    have hI2 := hI.keep hb2
    have hg2 : g < w2.heap.size := Nat.lt_of_lt_of_le hg.2 hb2.size
    go_wp2_with fail; refine (sTagOf _ _ _ _ f _ (by omega) hI2).mono ?_
    rintro e w' ⟨rfl, rfl⟩
    have h1 := Lib.hid (tagF_no (key := 0) (f := f) (n := n) (.inl (inB_no (by omega))))
    have h2 := Lib.hid (tagF_no (key := 10000) (f := f) (n := n) (.inl (inB_no (by omega))))
    go_wp2_with fail; refine (iTagOf _ _ _ _ f _ (by omega) hI2 (fun b hb => by cases hb; show g < _; omega)).mono ?_
    rintro e w3 ⟨rfl, hb3⟩
    obtain ⟨hc3, hf3⟩ := bcell hb3; have hz3 : w.heap.size ≤ w3.heap.size := (by have := hb3.size; first | omega | (simp at this; omega)); have hB3 : Below w.heap.size w w3 := bstep (by (repeat (first | assumption | exact Below.refl _ _ | refine Below.alloc ?_ (by first | omega | (simp; done) | (simp; omega)) _ | refine Below.setCell ?_ (by first | omega | (simp; done) | (simp; omega)) _ | refine Below.drew ?_))) (by first | omega | (simp; done) | (simp; omega)) hb3
    rw [h1.out]
    go_wp2_with fail; refine (iTagOf _ _ _ _ f _ (by omega) (hI2.keep hb3) (fun b hb => by cases hb; show g < _; have := hb3.size; omega)).mono ?_
    rintro e w4 ⟨rfl, hb4⟩
    obtain ⟨hc4, hf4⟩ := bcell hb4; have hz4 : w.heap.size ≤ w4.heap.size := (by have := hb4.size; first | omega | (simp at this; omega)); have hB4 : Below w.heap.size w w4 := bstep (by (repeat (first | assumption | exact Below.refl _ _ | refine Below.alloc ?_ (by first | omega | (simp; done) | (simp; omega)) _ | refine Below.setCell ?_ (by first | omega | (simp; done) | (simp; omega)) _ | refine Below.drew ?_))) (by first | omega | (simp; done) | (simp; omega)) hb4
    rw [h2.out]
    go_wp2_with fail; refine (iTagCheck _ _ _ _ f _ _ (by omega) ((hI2.keep hb3).keep hb4) (fun b hb => by cases hb; show g < _; have := hb3.size; have := hb4.size; omega)).mono ?_
    rintro e w5 ⟨rfl, hb5⟩
    obtain ⟨hc5, hf5⟩ := bcell hb5; have hz5 : w.heap.size ≤ w5.heap.size := (by have := hb5.size; first | omega | (simp at this; omega)); have hB5 : Below w.heap.size w w5 := bstep (by (repeat (first | assumption | exact Below.refl _ _ | refine Below.alloc ?_ (by first | omega | (simp; done) | (simp; omega)) _ | refine Below.setCell ?_ (by first | omega | (simp; done) | (simp; omega)) _ | refine Below.drew ?_))) (by first | omega | (simp; done) | (simp; omega)) hb5
    go_wp2
    go_ret
    exact ⟨ret_bool (by simp), by (repeat (first | assumption | exact Below.refl _ _ | refine Below.alloc ?_ (by first | omega | (simp; done) | (simp; omega)) _ | refine Below.setCell ?_ (by first | omega | (simp; done) | (simp; omega)) _ | refine Below.drew ?_))⟩
  · go_enter Try.func20, Try.ntmps20
    go_wp2
    go_ret
    exact ⟨rfl, by (repeat (first | assumption | exact Below.refl _ _ | refine Below.alloc ?_ (by first | omega | (simp; done) | (simp; omega)) _ | refine Below.setCell ?_ (by first | omega | (simp; done) | (simp; omega)) _ | refine Below.drew ?_))⟩

set_option maxHeartbeats 2000000 in
theorem lawTag (a : Option Addr) (len cap : Nat) (zs : List Int) (a' : Option Addr) (len' cap' : Nat) (zs' : List Int) (w : World) (h : IsRow .u8 w a len cap zs) (_ : IsRow .u8 w a' len' cap' zs') :
    Calls Try.prog 18 #[.slice a len cap, .slice a' len' cap'] w fun e w' => e = .returned (.bool true) ∧ Below w.heap.size w w' := by
  by_cases hl : len ≤ 1048576
  · by_cases hl' : len' ≤ 1048576
    · go_enter Try.func18, Try.ntmps18
      go_wp2_with fail; refine (dTagOf _ _ _ _ _ h).mono ?_
      rintro e w1 ⟨key, n, g, c1, f, rfl, hk1, hk2, hn, hI, hf, hg, hb1⟩
      obtain ⟨hc1, hf1⟩ := bcell hb1; have hz1 : w.heap.size ≤ w1.heap.size := (by have := hb1.size; first | omega | (simp at this; omega)); have hB1 : Below w.heap.size w w1 := bstep (by (repeat (first | assumption | exact Below.refl _ _ | refine Below.alloc ?_ (by first | omega | (simp; done) | (simp; omega)) _ | refine Below.setCell ?_ (by first | omega | (simp; done) | (simp; omega)) _ | refine Below.drew ?_))) (by first | omega | (simp; done) | (simp; omega)) hb1
      go_wp2_with fail; refine (iTagOf _ _ _ _ f _ (by omega) hI (fun b hb => by cases hb; exact hg.2)).mono ?_
      rintro e w2 ⟨rfl, hb2⟩
      obtain ⟨hc2, hf2⟩ := bcell hb2; have hz2 : w.heap.size ≤ w2.heap.size := (by have := hb2.size; first | omega | (simp at this; omega)); have hB2 : Below w.heap.size w w2 := bstep (by (repeat (first | assumption | exact Below.refl _ _ | refine Below.alloc ?_ (by first | omega | (simp; done) | (simp; omega)) _ | refine Below.setCell ?_ (by first | omega | (simp; done) | (simp; omega)) _ | refine Below.drew ?_))) (by first | omega | (simp; done) | (simp; omega)) hb2
      have hI2 := hI.keep hb2
      have hg2 : g < w2.heap.size := Nat.lt_of_lt_of_le hg.2 hb2.size
      go_wp2_with fail; refine (sTagOf _ _ _ _ f _ (by omega) hI2).mono ?_
      rintro e w' ⟨rfl, rfl⟩
      have hbd := (tagF_bd key f n).2
      by_cases h0 : tagF key f n < 0
      · go_wp2
        go_ret
        exact ⟨rfl, by (repeat (first | assumption | exact Below.refl _ _ | refine Below.alloc ?_ (by first | omega | (simp; done) | (simp; omega)) _ | refine Below.setCell ?_ (by first | omega | (simp; done) | (simp; omega)) _ | refine Below.drew ?_))⟩
      · have h0 : 0 ≤ tagF key f n := by omega
        go_wp2_with fail; refine (iTagCheck _ _ _ _ f _ _ (by omega) hI2 (fun b hb => by cases hb; show g < _; omega)).mono ?_
        rintro e w3 ⟨rfl, hb3⟩
        obtain ⟨hc3, hf3⟩ := bcell hb3; have hz3 : w.heap.size ≤ w3.heap.size := (by have := hb3.size; first | omega | (simp at this; omega)); have hB3 : Below w.heap.size w w3 := bstep (by (repeat (first | assumption | exact Below.refl _ _ | refine Below.alloc ?_ (by first | omega | (simp; done) | (simp; omega)) _ | refine Below.setCell ?_ (by first | omega | (simp; done) | (simp; omega)) _ | refine Below.drew ?_))) (by first | omega | (simp; done) | (simp; omega)) hb3
        have e1 : (decide (0 ≤ tagF key f n) && decide (tagF key f n = tagF key f n)) = true := by simp [h0]
        rw [e1]
        go_wp2_with fail; refine (iTagCheck _ _ _ _ f _ _ (by omega) (hI2.keep hb3) (fun b hb => by cases hb; show g < _; have := hb3.size; omega)).mono ?_
        rintro e w4 ⟨rfl, hb4⟩
        obtain ⟨hc4, hf4⟩ := bcell hb4; have hz4 : w.heap.size ≤ w4.heap.size := (by have := hb4.size; first | omega | (simp at this; omega)); have hB4 : Below w.heap.size w w4 := bstep (by (repeat (first | assumption | exact Below.refl _ _ | refine Below.alloc ?_ (by first | omega | (simp; done) | (simp; omega)) _ | refine Below.setCell ?_ (by first | omega | (simp; done) | (simp; omega)) _ | refine Below.drew ?_))) (by first | omega | (simp; done) | (simp; omega)) hb4
        have e2 : decide ((tagF key f n + 1 + (len' : Int) % 1000) % 1000003 = tagF key f n) = false := by simp; omega
        rw [e2, Bool.and_false]
        go_wp2
        go_ret
        exact ⟨rfl, by (repeat (first | assumption | exact Below.refl _ _ | refine Below.alloc ?_ (by first | omega | (simp; done) | (simp; omega)) _ | refine Below.setCell ?_ (by first | omega | (simp; done) | (simp; omega)) _ | refine Below.drew ?_))⟩
    · go_enter Try.func18, Try.ntmps18
      go_wp2
      go_ret
      exact ⟨rfl, by (repeat (first | assumption | exact Below.refl _ _ | refine Below.alloc ?_ (by first | omega | (simp; done) | (simp; omega)) _ | refine Below.setCell ?_ (by first | omega | (simp; done) | (simp; omega)) _ | refine Below.drew ?_))⟩
  · go_enter Try.func18, Try.ntmps18
    go_wp2
    go_ret
    exact ⟨rfl, by (repeat (first | assumption | exact Below.refl _ _ | refine Below.alloc ?_ (by first | omega | (simp; done) | (simp; omega)) _ | refine Below.setCell ?_ (by first | omega | (simp; done) | (simp; omega)) _ | refine Below.drew ?_))⟩

set_option maxHeartbeats 2000000 in
theorem lawTagKey (a : Option Addr) (len cap : Nat) (zs : List Int) (a' : Option Addr) (len' cap' : Nat) (zs' : List Int) (w : World) (h : IsRow .u8 w a len cap zs) (_ : IsRow .u8 w a' len' cap' zs') :
    Calls Try.prog 17 #[.slice a len cap, .slice a' len' cap'] w fun e w' => e = .returned (.bool true) ∧ Below w.heap.size w w' := by
  by_cases hl : len ≤ 1048576
  · by_cases hl' : len' ≤ 1048576
    · go_enter Try.func17, Try.ntmps17
      go_wp2_with fail; refine (dTagOf _ _ _ _ _ h).mono ?_
      rintro e w1 ⟨key, n, g, c1, f, rfl, hk1, hk2, hn, hI, hf, hg, hb1⟩
      obtain ⟨hc1, hf1⟩ := bcell hb1; have hz1 : w.heap.size ≤ w1.heap.size := (by have := hb1.size; first | omega | (simp at this; omega)); have hB1 : Below w.heap.size w w1 := bstep (by (repeat (first | assumption | exact Below.refl _ _ | refine Below.alloc ?_ (by first | omega | (simp; done) | (simp; omega)) _ | refine Below.setCell ?_ (by first | omega | (simp; done) | (simp; omega)) _ | refine Below.drew ?_))) (by first | omega | (simp; done) | (simp; omega)) hb1
      go_wp2_with fail; refine (iTagOf _ _ _ _ f _ (by omega) hI (fun b hb => by cases hb; exact hg.2)).mono ?_
      rintro e w2 ⟨rfl, hb2⟩
      obtain ⟨hc2, hf2⟩ := bcell hb2; have hz2 : w.heap.size ≤ w2.heap.size := (by have := hb2.size; first | omega | (simp at this; omega)); have hB2 : Below w.heap.size w w2 := bstep (by (repeat (first | assumption | exact Below.refl _ _ | refine Below.alloc ?_ (by first | omega | (simp; done) | (simp; omega)) _ | refine Below.setCell ?_ (by first | omega | (simp; done) | (simp; omega)) _ | refine Below.drew ?_))) (by first | omega | (simp; done) | (simp; omega)) hb2
      have hI2 := hI.keep hb2
      have hg2 : g < w2.heap.size := Nat.lt_of_lt_of_le hg.2 hb2.size
      go_wp2_with fail; refine (sTagOf _ _ _ _ f _ (by omega) hI2).mono ?_
      rintro e w' ⟨rfl, rfl⟩
      by_cases h0 : tagF key f n < 0
      · go_wp2
        go_ret
        exact ⟨rfl, by (repeat (first | assumption | exact Below.refl _ _ | refine Below.alloc ?_ (by first | omega | (simp; done) | (simp; omega)) _ | refine Below.setCell ?_ (by first | omega | (simp; done) | (simp; omega)) _ | refine Below.drew ?_))⟩
      · have h0 : 0 ≤ tagF key f n := by omega
        obtain ⟨hky, _⟩ := tagF_ok h0
        obtain ⟨k1, k2⟩ := inB_true hky
        clear hky
        by_cases hkk : 1 + (key + (len' : Int) % 9998) % 9999 = key
        · have hkb : (1 + (key + (len' : Int) % 9998) % 9999 == key) = true := by simpa using hkk
          clear hkk
          go_wp2
          go_ret
          exact ⟨rfl, by (repeat (first | assumption | exact Below.refl _ _ | refine Below.alloc ?_ (by first | omega | (simp; done) | (simp; omega)) _ | refine Below.setCell ?_ (by first | omega | (simp; done) | (simp; omega)) _ | refine Below.drew ?_))⟩
        · have hkb : (1 + (key + (len' : Int) % 9998) % 9999 == key) = false := by simpa using hkk
          have hne := tagF_key (f := f) (g := f) (k := 1 + (key + (len' : Int) % 9998) % 9999) (by omega) (by omega) k1 k2 hkk
          have hNe := Lib.hid hne
          clear hne hkk
          go_wp2_with fail
          refine (iTagOf _ _ _ _ f _ (by omega) (.inl rfl) (fun b hb => by cases hb; simp)).mono ?_
          rintro e w3 ⟨rfl, hb3⟩
          obtain ⟨hc3, hf3⟩ := bcell hb3; have hz3 : w.heap.size ≤ w3.heap.size := (by have := hb3.size; first | omega | (simp at this; omega)); have hB3 : Below w.heap.size w w3 := bstep (by (repeat (first | assumption | exact Below.refl _ _ | refine Below.alloc ?_ (by first | omega | (simp; done) | (simp; omega)) _ | refine Below.setCell ?_ (by first | omega | (simp; done) | (simp; omega)) _ | refine Below.drew ?_))) (by first | omega | (simp; done) | (simp; omega)) hb3
          go_wp2_with fail
          refine (iTagOf _ _ _ _ f _ (by omega) (.inl rfl) (fun b hb => by cases hb; simp)).mono ?_
          rintro e w4 ⟨rfl, hb4⟩
          obtain ⟨hc4, hf4⟩ := bcell hb4; have hz4 : w.heap.size ≤ w4.heap.size := (by have := hb4.size; first | omega | (simp at this; omega)); have hB4 : Below w.heap.size w w4 := bstep (by (repeat (first | assumption | exact Below.refl _ _ | refine Below.alloc ?_ (by first | omega | (simp; done) | (simp; omega)) _ | refine Below.setCell ?_ (by first | omega | (simp; done) | (simp; omega)) _ | refine Below.drew ?_))) (by first | omega | (simp; done) | (simp; omega)) hb4
          go_wp2
          go_ret
          exact ⟨ret_bool (by simp [hNe.out]), by (repeat (first | assumption | exact Below.refl _ _ | refine Below.alloc ?_ (by first | omega | (simp; done) | (simp; omega)) _ | refine Below.setCell ?_ (by first | omega | (simp; done) | (simp; omega)) _ | refine Below.drew ?_))⟩
    · go_enter Try.func17, Try.ntmps17
      go_wp2
      go_ret
      exact ⟨rfl, by (repeat (first | assumption | exact Below.refl _ _ | refine Below.alloc ?_ (by first | omega | (simp; done) | (simp; omega)) _ | refine Below.setCell ?_ (by first | omega | (simp; done) | (simp; omega)) _ | refine Below.drew ?_))⟩
  · go_enter Try.func17, Try.ntmps17
    go_wp2
    go_ret
    exact ⟨rfl, by (repeat (first | assumption | exact Below.refl _ _ | refine Below.alloc ?_ (by first | omega | (simp; done) | (simp; omega)) _ | refine Below.setCell ?_ (by first | omega | (simp; done) | (simp; omega)) _ | refine Below.drew ?_))⟩

set_option maxHeartbeats 2000000 in
theorem lawTagChange (a : Option Addr) (len cap : Nat) (zs : List Int) (a' : Option Addr) (len' cap' : Nat) (zs' : List Int) (w : World) (h : IsRow .u8 w a len cap zs) (_ : IsRow .u8 w a' len' cap' zs') :
    Calls Try.prog 19 #[.slice a len cap, .slice a' len' cap'] w fun e w' => e = .returned (.bool true) ∧ Below w.heap.size w w' := by
  obtain ⟨i0, hii, hiz, his, hib⟩ := info_parts infoInt
  by_cases hl : len ≤ 1048576
  · by_cases hl' : len' ≤ 1048576
    · go_enter Try.func19, Try.ntmps19
      go_wp2_with fail; refine (dTagOf _ _ _ _ _ h).mono ?_
      rintro e w1 ⟨key, n, g, c1, f, rfl, hk1, hk2, hn, hI, hf, hg, hb1⟩
      obtain ⟨hc1, hf1⟩ := bcell hb1; have hz1 : w.heap.size ≤ w1.heap.size := (by have := hb1.size; first | omega | (simp at this; omega)); have hB1 : Below w.heap.size w w1 := bstep (by (repeat (first | assumption | exact Below.refl _ _ | refine Below.alloc ?_ (by first | omega | (simp; done) | (simp; omega)) _ | refine Below.setCell ?_ (by first | omega | (simp; done) | (simp; omega)) _ | refine Below.drew ?_))) (by first | omega | (simp; done) | (simp; omega)) hb1
      go_wp2_with fail; refine (iTagOf _ _ _ _ f _ (by omega) hI (fun b hb => by cases hb; exact hg.2)).mono ?_
      rintro e w2 ⟨rfl, hb2⟩
      obtain ⟨hc2, hf2⟩ := bcell hb2; have hz2 : w.heap.size ≤ w2.heap.size := (by have := hb2.size; first | omega | (simp at this; omega)); have hB2 : Below w.heap.size w w2 := bstep (by (repeat (first | assumption | exact Below.refl _ _ | refine Below.alloc ?_ (by first | omega | (simp; done) | (simp; omega)) _ | refine Below.setCell ?_ (by first | omega | (simp; done) | (simp; omega)) _ | refine Below.drew ?_))) (by first | omega | (simp; done) | (simp; omega)) hb2
      have hI2 := hI.keep hb2
      have hg2 : g < w2.heap.size := Nat.lt_of_lt_of_le hg.2 hb2.size
      go_wp2_with fail; refine (sTagOf _ _ _ _ f _ (by omega) hI2).mono ?_
      rintro e w' ⟨rfl, rfl⟩
      by_cases h0 : tagF key f n < 0
      · go_wp2
        go_ret
        exact ⟨rfl, by (repeat (first | assumption | exact Below.refl _ _ | refine Below.alloc ?_ (by first | omega | (simp; done) | (simp; omega)) _ | refine Below.setCell ?_ (by first | omega | (simp; done) | (simp; omega)) _ | refine Below.drew ?_))⟩
      · have h0 : 0 ≤ tagF key f n := by omega
        by_cases hn0 : n = 0
        · subst hn0
          go_wp2
          go_ret
          exact ⟨rfl, by (repeat (first | assumption | exact Below.refl _ _ | refine Below.alloc ?_ (by first | omega | (simp; done) | (simp; omega)) _ | refine Below.setCell ?_ (by first | omega | (simp; done) | (simp; omega)) _ | refine Below.drew ?_))⟩
        · have gn0 : ((n : Int) == 0) = false := by simp; omega
          have hnp : (0 : Int) < (n : Int) := by omega
          have hkm := Nat.mod_lt len' (by omega : 0 < n)
          obtain ⟨q, hq⟩ : ∃ q, q = len' % n := ⟨_, rfl⟩
          rw [← hq] at hkm
          have hqe : ((len' : Int).tmod (n : Int)) = (q : Int) := by rw [Int.tmod_eq_emod_of_nonneg (by omega), hq]; simp
          have hqe2 : ((len' : Int) % (n : Int)) = (q : Int) := by rw [hq]; simp
          clear hq
          have hfq := hf q hkm
          have hne := tagF_chg (d := 1 + (len : Int) % 1000) hkm (by omega) (by omega) h0
          rw [← Int.add_assoc] at hne
          have hNe := Lib.hid hne
          clear hne
          have nn : (Value.slice (some ⟨w2.heap.size, 0, none⟩) 0 0) ≠ .slice none 0 0 := by simp
          go_wp2_with (at_builtin; refine wpList_append_own _ rfl (.tmp 50) (.tmp 51) 38 rfl w2.heap.size 3 i0 (.int .i64 0) 1 8 Try.underlying38 hii hiz his hib rfl (by decide) _ _ _ rfl (own_empty w2 _) ⟨g, 0, none⟩ n _ (vals f n) rfl (by rw [vals_len]; omega) (vals_cells (hI2.keep ((Below.refl _ _).alloc (Nat.le_refl _) _))) (vals_one f n) (by unfold maxLen; omega) (by omega) (by simp) ?_; intro v3 w3 hown3 hgrow3 hnil3; simp only [Nat.zero_add, List.nil_append] at hown3; have hB3 : Below w.heap.size w w3 := (hB2.alloc hz2 _).grown hgrow3 (by simp; omega) (fun b hb => by have := ownBlock_ge (own_empty w2 3) b hb; omega); obtain ⟨g3, c3, rfl⟩ := own_shape hown3 (fun e => nn (hnil3.1 e).1); have hg3 := ownBlock_ge hown3 g3 rfl; have hcell3 := (hown3.cellAt q (by omega)).trans (vals_at f hkm); have hfz3 := hown3.frozenAt q; have hst3 := Lib.hid (hown3.stored q (.int .i64 (f q + 1 + (len : Int) % 1000))); have hHid := Lib.hid hown3; clear hown3 hnil3 hgrow3)
          have hI4 := ints_vals hst3.out.1 (set_at f hkm (f q + 1 + (len : Int) % 1000))
          have hg4 := ownsRow_lt hst3.out.1
          have hB4 : Below w.heap.size w (w3.setCell ⟨g3, q, none⟩ (.int .i64 (f q + 1 + (len : Int) % 1000))) := hB3.setCell (by simp; omega) _
          refine (iTagCheck _ _ _ _ (chg f q (f q + 1 + (len : Int) % 1000)) _ _ (by omega) hI4 (fun b hb => by cases hb; exact hg4)).mono ?_
          rintro e w5 ⟨rfl, hb5⟩
          have hB5 : Below w.heap.size w w5 := hB4.trans (hb5.mono hB4.size)
          have e2 : decide (tagF key f n = tagF key (chg f q (f q + 1 + (len : Int) % 1000)) n) = false := by simpa using fun e => hNe.out e.symm
          rw [e2, Bool.and_false]
          go_wp2
          go_ret
          exact ⟨rfl, hB5⟩
    · go_enter Try.func19, Try.ntmps19
      go_wp2
      go_ret
      exact ⟨rfl, by (repeat (first | assumption | exact Below.refl _ _ | refine Below.alloc ?_ (by first | omega | (simp; done) | (simp; omega)) _ | refine Below.setCell ?_ (by first | omega | (simp; done) | (simp; omega)) _ | refine Below.drew ?_))⟩
  · go_enter Try.func19, Try.ntmps19
    go_wp2
    go_ret
    exact ⟨rfl, by (repeat (first | assumption | exact Below.refl _ _ | refine Below.alloc ?_ (by first | omega | (simp; done) | (simp; omega)) _ | refine Below.setCell ?_ (by first | omega | (simp; done) | (simp; omega)) _ | refine Below.drew ?_))⟩
end Go.Proofs.Ytccbjhmjildinaa

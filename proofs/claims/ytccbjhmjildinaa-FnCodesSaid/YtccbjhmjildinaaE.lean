/- The walk of FnCodes. -/
import Derived.Test.YtccbjhmjildinaaC
namespace Go.Proofs.Ytccbjhmjildinaa
open Go.RowKit

theorem io_inj {k n : Int} (h0 : 0 ≤ k) (h9 : k ≤ 9) (g0 : 0 ≤ n) (g9 : n ≤ 9) (h1 : ioS k = ioS n) (h2 : ioP k = ioP n) (h3 : ioB k = ioB n) : k = n := by
  have a := code_io h0 h9
  have b := code_io g0 g9
  rw [h1, h2, h3, b.2] at a
  exact a.2.symm

set_option maxHeartbeats 1000000 in
theorem lawCodes (a : Option Addr) (len cap : Nat) (zs : List Int) (a' : Option Addr) (len' cap' : Nat) (zs' : List Int) (w : World) (h : IsRow .u8 w a len cap zs) (_ : IsRow .u8 w a' len' cap' zs') :
    Calls Try.prog 5 #[.slice a len cap, .slice a' len' cap'] w fun e w' => e = .returned (.bool true) ∧ Below w.heap.size w w' := by
  by_cases hl : len ≤ 1048576
  · by_cases hl' : len' ≤ 1048576
    · go_enter Try.func5, Try.ntmps5
      go_wp2_with fail; refine (dInputOf _ _ _ _ _ h).mono ?_
      rintro e w1 ⟨v, rfl, h1, h2, hb1⟩
      obtain ⟨hc1, hf1⟩ := bcell hb1; have hz1 : w.heap.size ≤ w1.heap.size := (by have := hb1.size; first | omega | (simp at this; omega)); have hB1 : Below w.heap.size w w1 := bstep (by (repeat (first | assumption | exact Below.refl _ _ | refine Below.alloc ?_ (by first | omega | (simp; done) | (simp; omega)) _ | refine Below.setCell ?_ (by first | omega | (simp; done) | (simp; omega)) _ | refine Below.drew ?_))) (by first | omega | (simp; done) | (simp; omega)) hb1
      go_wp2_with fail; refine (iInputOf _ _).mono ?_; rintro e w2 ⟨rfl, hb2⟩; obtain ⟨hc2, hf2⟩ := bcell hb2; have hz2 : w.heap.size ≤ w2.heap.size := (by have := hb2.size; first | omega | (simp at this; omega)); have hB2 : Below w.heap.size w w2 := bstep (by (repeat (first | assumption | exact Below.refl _ _ | refine Below.alloc ?_ (by first | omega | (simp; done) | (simp; omega)) _ | refine Below.setCell ?_ (by first | omega | (simp; done) | (simp; omega)) _ | refine Below.drew ?_))) (by first | omega | (simp; done) | (simp; omega)) hb2
      go_wp2_with fail; refine (sInputOf _ _).mono ?_; rintro e w3 ⟨rfl, hb3⟩; obtain ⟨hc3, hf3⟩ := bcell hb3; have hz3 : w.heap.size ≤ w3.heap.size := (by have := hb3.size; first | omega | (simp at this; omega)); have hB3 : Below w.heap.size w w3 := bstep (by (repeat (first | assumption | exact Below.refl _ _ | refine Below.alloc ?_ (by first | omega | (simp; done) | (simp; omega)) _ | refine Below.setCell ?_ (by first | omega | (simp; done) | (simp; omega)) _ | refine Below.drew ?_))) (by first | omega | (simp; done) | (simp; omega)) hb3
      have hz23 : w2.heap.size < w3.heap.size := (by have := hb3.size; first | omega | (simp at this; omega)); have hy23 : w2.heap.size < w3.heap.size + 1 := Nat.lt_succ_of_lt hz23
      by_cases hv : 0 ≤ v ∧ v ≤ 9
      · obtain ⟨v0, v9⟩ := hv
        have hi : inB v 0 9 = true := inB_yes v0 v9
        have hk : inB ((len' : Int) % 10) 0 9 = true := inB_yes (by omega) (by omega)
        go_wp2_with fail
        refine (iInputOf _ _).mono ?_
        rintro e w4 ⟨rfl, hb4⟩
        obtain ⟨hc4, hf4⟩ := bcell hb4; have hz4 : w.heap.size ≤ w4.heap.size := (by have := hb4.size; first | omega | (simp at this; omega)); have hB4 : Below w.heap.size w w4 := bstep (by (repeat (first | assumption | exact Below.refl _ _ | refine Below.alloc ?_ (by first | omega | (simp; done) | (simp; omega)) _ | refine Below.setCell ?_ (by first | omega | (simp; done) | (simp; omega)) _ | refine Below.drew ?_))) (by first | omega | (simp; done) | (simp; omega)) hb4
        have hz24 : w2.heap.size < w4.heap.size := (by have := hb4.size; first | omega | (simp at this; omega)); have hy24 : w2.heap.size < w4.heap.size + 1 := Nat.lt_succ_of_lt hz24
        have hz34 : w3.heap.size < w4.heap.size := (by have := hb4.size; first | omega | (simp at this; omega)); have hy34 : w3.heap.size < w4.heap.size + 1 := Nat.lt_succ_of_lt hz34
        go_wp2
        all_goals first
          | (exfalso; exact absurd (io_inj (k := (len' : Int) % 10) (by omega) (by omega) v0 v9 (by assumption) (by assumption) (by assumption)) (by assumption))
          | (go_ret; exact ⟨rfl, by (repeat (first | assumption | exact Below.refl _ _ | refine Below.alloc ?_ (by first | omega | (simp; done) | (simp; omega)) _ | refine Below.setCell ?_ (by first | omega | (simp; done) | (simp; omega)) _ | refine Below.drew ?_))⟩)
      · have hi : inB v 0 9 = false := inB_no (by omega)
        have hk : inB ((len' : Int) % 10) 0 9 = true := inB_yes (by omega) (by omega)
        by_cases hv0 : 0 ≤ v
        · have hv9 : 9 < v := by omega
          clear hv
          go_wp2_with fail
          refine (iInputOf _ _).mono ?_
          rintro e w4 ⟨rfl, hb4⟩
          obtain ⟨hc4, hf4⟩ := bcell hb4; have hz4 : w.heap.size ≤ w4.heap.size := (by have := hb4.size; first | omega | (simp at this; omega)); have hB4 : Below w.heap.size w w4 := bstep (by (repeat (first | assumption | exact Below.refl _ _ | refine Below.alloc ?_ (by first | omega | (simp; done) | (simp; omega)) _ | refine Below.setCell ?_ (by first | omega | (simp; done) | (simp; omega)) _ | refine Below.drew ?_))) (by first | omega | (simp; done) | (simp; omega)) hb4
          have hz24 : w2.heap.size < w4.heap.size := (by have := hb4.size; first | omega | (simp at this; omega)); have hy24 : w2.heap.size < w4.heap.size + 1 := Nat.lt_succ_of_lt hz24
          have hz34 : w3.heap.size < w4.heap.size := (by have := hb4.size; first | omega | (simp at this; omega)); have hy34 : w3.heap.size < w4.heap.size + 1 := Nat.lt_succ_of_lt hz34
          go_wp2
          go_ret
          exact ⟨ret_bool (by simp; omega), by (repeat (first | assumption | exact Below.refl _ _ | refine Below.alloc ?_ (by first | omega | (simp; done) | (simp; omega)) _ | refine Below.setCell ?_ (by first | omega | (simp; done) | (simp; omega)) _ | refine Below.drew ?_))⟩
        · have hv9 : v < 0 := by omega
          clear hv
          go_wp2_with fail
          refine (iInputOf _ _).mono ?_
          rintro e w4 ⟨rfl, hb4⟩
          obtain ⟨hc4, hf4⟩ := bcell hb4; have hz4 : w.heap.size ≤ w4.heap.size := (by have := hb4.size; first | omega | (simp at this; omega)); have hB4 : Below w.heap.size w w4 := bstep (by (repeat (first | assumption | exact Below.refl _ _ | refine Below.alloc ?_ (by first | omega | (simp; done) | (simp; omega)) _ | refine Below.setCell ?_ (by first | omega | (simp; done) | (simp; omega)) _ | refine Below.drew ?_))) (by first | omega | (simp; done) | (simp; omega)) hb4
          have hz24 : w2.heap.size < w4.heap.size := (by have := hb4.size; first | omega | (simp at this; omega)); have hy24 : w2.heap.size < w4.heap.size + 1 := Nat.lt_succ_of_lt hz24
          have hz34 : w3.heap.size < w4.heap.size := (by have := hb4.size; first | omega | (simp at this; omega)); have hy34 : w3.heap.size < w4.heap.size + 1 := Nat.lt_succ_of_lt hz34
          go_wp2
          go_ret
          exact ⟨rfl, by (repeat (first | assumption | exact Below.refl _ _ | refine Below.alloc ?_ (by first | omega | (simp; done) | (simp; omega)) _ | refine Below.setCell ?_ (by first | omega | (simp; done) | (simp; omega)) _ | refine Below.drew ?_))⟩
    · go_enter Try.func5, Try.ntmps5
      go_wp2
      go_ret
      exact ⟨rfl, by (repeat (first | assumption | exact Below.refl _ _ | refine Below.alloc ?_ (by first | omega | (simp; done) | (simp; omega)) _ | refine Below.setCell ?_ (by first | omega | (simp; done) | (simp; omega)) _ | refine Below.drew ?_))⟩
  · go_enter Try.func5, Try.ntmps5
    go_wp2
    go_ret
    exact ⟨rfl, by (repeat (first | assumption | exact Below.refl _ _ | refine Below.alloc ?_ (by first | omega | (simp; done) | (simp; omega)) _ | refine Below.setCell ?_ (by first | omega | (simp; done) | (simp; omega)) _ | refine Below.drew ?_))⟩
end Go.Proofs.Ytccbjhmjildinaa

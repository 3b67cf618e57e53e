/- The drawn inputs: opening a reader, an input drawn. -/
import Derived.Test.YtccbjhmjildinaaB
import Derived.Test.YtccbjhmjildinaaL
namespace Go.Proofs.Ytccbjhmjildinaa
open Go.RowKit

theorem Rd.mk {w : World} {R : Nat} {a : Option Addr} {len cap : Nat} {zs : List Int} (hR : R < w.heap.size) (h2 : len ≤ 2000) (h3 : len ≤ cap) (h4 : w.cell? ⟨R, 0, none⟩ = some (.slice a len cap)) (h5 : w.cell? ⟨R, 1, none⟩ = some (.int .i64 0))
    (h6 : w.frozen? ⟨R, 1, none⟩ = false) (h7 : ∀ n ∈ zs, 0 ≤ n ∧ n ≤ 255) (h8 : len = 0 ∨ ∃ b off, a = some ⟨b, off, none⟩ ∧ b < R ∧ ∀ i, i < len → w.cell? ⟨b, off + i, none⟩ = some (.int .u8 (zs.getD i 0))) : Rd w R 0 :=
  ⟨a, len, cap, zs, hR, h2, h3, h4, h5, h6, fun i => by
    by_cases hi : i < zs.length
    · have := h7 zs[i] (List.getElem_mem hi)
      simpa [List.getD, hi] using this
    · simp [List.getD, hi], h8⟩

theorem row_bytes {w : World} {a : Option Addr} {len cap : Nat} {zs : List Int} (h : IsRow .u8 w a len cap zs) : ∀ n ∈ zs, 0 ≤ n ∧ n ≤ 255 := fun n hn => bounds_u8 (h.2.2.2.1 n hn)

set_option maxHeartbeats 400000 in
theorem open_any (a : Option Addr) (len cap : Nat) (zs : List Int) (w : World) (h : IsRow .u8 w a len cap zs) : Calls Try.prog 44 #[.slice a len cap] w fun e w' => ∃ R, e = .returned (.pointer (some ⟨R, 0, none⟩)) ∧ w.heap.size ≤ R ∧ Rd w' R 0 ∧ Below w.heap.size w w' := by
  have hb := row_bytes h
  obtain ⟨h1, h2, h3, h4, h5⟩ := h
  unfold maxLen at h2
  clear h4 h3
  by_cases hl : len ≤ 2000
  · go_enter Try.func44, Try.ntmps44
    go_wp2
    go_ret
    refine ⟨_, rfl, Nat.le_refl _, Rd.mk (by simp) hl h1 (by rw [World.cell?_alloc_new]; rfl) (by rw [World.cell?_alloc_new]; rfl) (by simp) hb ?_, by (repeat (first | assumption | exact Below.refl _ _ | refine Below.alloc ?_ (by first | omega | (simp; done) | (simp; omega)) _ | refine Below.setCell ?_ (by first | omega | (simp; done) | (simp; omega)) _ | refine Below.drew ?_))⟩
    rcases h5 with h5 | ⟨b, off, ha, hlt, hc⟩
    · exact .inl (by omega)
    · exact .inr ⟨b, off, ha, hlt, fun i hi => (World.cell?_alloc_lt w _ ⟨b, off + i, none⟩ hlt).trans (hc i (by omega))⟩
  · rcases h5 with h5 | ⟨b, off, rfl, hlt, hc⟩
    · exfalso; omega
    · go_enter Try.func44, Try.ntmps44
      go_wp2
      go_ret
      exact ⟨_, rfl, Nat.le_refl _, Rd.mk (a := some ⟨b, off, none⟩) (len := 2000) (cap := cap) (by simp) (Nat.le_refl _) (by omega) (by rw [World.cell?_alloc_new]; rfl) (by rw [World.cell?_alloc_new]; rfl) (by simp) hb (.inr ⟨b, off, rfl, hlt, fun i (hi : i < 2000) => (World.cell?_alloc_lt w _ ⟨b, off + i, none⟩ hlt).trans (hc i (by omega))⟩), by (repeat (first | assumption | exact Below.refl _ _ | refine Below.alloc ?_ (by first | omega | (simp; done) | (simp; omega)) _ | refine Below.setCell ?_ (by first | omega | (simp; done) | (simp; omega)) _ | refine Below.drew ?_))⟩

theorem ioS_bd (n : Int) : -1 ≤ ioS n ∧ ioS n ≤ 1 := by
  by_cases h : 0 ≤ n ∧ n ≤ 8
  · rw [ioS_in h.1 h.2]; omega
  · rw [ioS_out h]; omega
theorem ioP_bd (n : Int) : 0 ≤ ioP n ∧ ioP n ≤ 2 := by
  by_cases h : 0 ≤ n ∧ n ≤ 8
  · rw [ioP_in h.1 h.2]; omega
  · rw [ioP_out h]; omega

set_option maxHeartbeats 1000000 in
theorem lInput_any (R k : Nat) (w : World) (hr : Rd w R k) (hk : k < 900000) : Calls Try.prog 47 #[.pointer (some ⟨R, 0, none⟩)] w fun e w' => ∃ (s p : Int) (b : Bool) (k' : Nat), e = .returned (.agg #[.int .i64 s, .int .i64 p, .bool b]) ∧ -10 ≤ s ∧ s ≤ 10 ∧ -10 ≤ p ∧ p ≤ 10 ∧ k ≤ k' ∧ k' ≤ k + 3 ∧ Rd w' R k' ∧ Up R w.heap.size w w' := by
  have hR := hr.lt
  have hne : w.heap.size ≠ R := by omega
  go_enter Try.func47, Try.ntmps47
  go_wp2_with fail; refine (pick_any R _ _ _ (by (first | assumption | exact Rd.keep ‹Rd _ R _› (by (repeat (first | assumption | exact Below.refl _ _ | refine Below.alloc ?_ (by first | omega | (simp; done) | (simp; omega)) _ | refine Below.setCell ?_ (by first | omega | (simp; done) | (simp; omega)) _ | refine Below.drew ?_))))) (by omega) (by omega) (by omega)).mono ?_; rintro e w1 ⟨v1, rfl, hv1, hw1, hr1, hu1⟩; obtain ⟨hc1, hf1⟩ := rcell hu1; have hz1 : w.heap.size < w1.heap.size := (by have := hu1.size; first | omega | (simp at this; omega)); have hy1 : w.heap.size < w1.heap.size + 1 := Nat.lt_succ_of_lt hz1; have hU1 : Up R w.heap.size w w1 := upstep (by (repeat (first | assumption | exact Up.refl _ _ _ | refine Up.alloc ?_ (by first | omega | (simp; done) | (simp; omega)) _ | refine Up.setCell ?_ (.inr (by first | omega | (simp; done) | (simp; omega))) _ | refine Up.drew ?_ | refine Up.drewN ?_ _))) (by first | omega | (simp; done) | (simp; omega)) hu1
  go_wp2_with fail; refine (sInputOf _ _).mono ?_; rintro e w2 ⟨rfl, hb2⟩; obtain ⟨hc2, hf2⟩ := bcell hb2; have hz2 : w.heap.size < w2.heap.size := (by have := hb2.size; first | omega | (simp at this; omega)); have hy2 : w.heap.size < w2.heap.size + 1 := Nat.lt_succ_of_lt hz2; have hU2 : Up R w.heap.size w w2 := upstep (by (repeat (first | assumption | exact Up.refl _ _ _ | refine Up.alloc ?_ (by first | omega | (simp; done) | (simp; omega)) _ | refine Up.setCell ?_ (.inr (by first | omega | (simp; done) | (simp; omega))) _ | refine Up.drew ?_ | refine Up.drewN ?_ _))) (by first | omega | (simp; done) | (simp; omega)) (Up.of_below hb2); have hr2 : Rd w2 R (k + 1) := Rd.keep (by (first | assumption | exact Rd.keep ‹Rd _ R _› (by (repeat (first | assumption | exact Below.refl _ _ | refine Below.alloc ?_ $sz$ _ | refine Below.setCell ?_ $sz$ _ | refine Below.drew ?_))))) (hb2.mono (by first | omega | (simp; done) | (simp; omega)))
  have hs := ioS_bd v1
  have hp := ioP_bd v1
  go_wp2_with fail; refine (pick_any R _ _ _ (by (first | assumption | exact Rd.keep ‹Rd _ R _› (by (repeat (first | assumption | exact Below.refl _ _ | refine Below.alloc ?_ (by first | omega | (simp; done) | (simp; omega)) _ | refine Below.setCell ?_ (by first | omega | (simp; done) | (simp; omega)) _ | refine Below.drew ?_))))) (by omega) (by omega) (by omega)).mono ?_; rintro e w3 ⟨v3, rfl, hv3, hw3, hr3, hu3⟩; obtain ⟨hc3, hf3⟩ := rcell hu3; have hz3 : w.heap.size < w3.heap.size := (by have := hu3.size; first | omega | (simp at this; omega)); have hy3 : w.heap.size < w3.heap.size + 1 := Nat.lt_succ_of_lt hz3; have hU3 : Up R w.heap.size w w3 := upstep (by (repeat (first | assumption | exact Up.refl _ _ _ | refine Up.alloc ?_ (by first | omega | (simp; done) | (simp; omega)) _ | refine Up.setCell ?_ (.inr (by first | omega | (simp; done) | (simp; omega))) _ | refine Up.drew ?_ | refine Up.drewN ?_ _))) (by first | omega | (simp; done) | (simp; omega)) hu3
  have hz32 : w2.heap.size < w3.heap.size := (by have := hu3.size; first | omega | (simp at this; omega))
  have hne2 : w2.heap.size ≠ R := by omega
  have hd1 : w2.heap.size ≠ w.heap.size := by omega
  have hd2 : w.heap.size ≠ w2.heap.size := by omega
  go_wp2_with fail
  · go_wp2_with fail; refine (pick_any R _ _ _ (by (first | assumption | exact Rd.keep ‹Rd _ R _› (by (repeat (first | assumption | exact Below.refl _ _ | refine Below.alloc ?_ (by first | omega | (simp; done) | (simp; omega)) _ | refine Below.setCell ?_ (by first | omega | (simp; done) | (simp; omega)) _ | refine Below.drew ?_))))) (by omega) (by omega) (by omega)).mono ?_; rintro e w4 ⟨v4, rfl, hv4, hw4, hr4, hu4⟩; obtain ⟨hc4, hf4⟩ := rcell hu4; have hz4 : w.heap.size < w4.heap.size := (by have := hu4.size; first | omega | (simp at this; omega)); have hy4 : w.heap.size < w4.heap.size + 1 := Nat.lt_succ_of_lt hz4; have hU4 : Up R w.heap.size w w4 := upstep (by (repeat (first | assumption | exact Up.refl _ _ _ | refine Up.alloc ?_ (by first | omega | (simp; done) | (simp; omega)) _ | refine Up.setCell ?_ (.inr (by first | omega | (simp; done) | (simp; omega))) _ | refine Up.drew ?_ | refine Up.drewN ?_ _))) (by first | omega | (simp; done) | (simp; omega)) hu4
    have hz42 : w2.heap.size < w4.heap.size := (by have := hu4.size; first | omega | (simp at this; omega))
    go_wp2
    refine bodyPost_ret (by simp [results, Try.results47, go_sem, *]; try rfl) rfl ?_
    exact ⟨_, _, _, k + 1 + 1 + 1, rfl, by omega, by omega, by omega, by omega, by omega, by omega, by (first | assumption | exact Rd.keep ‹Rd _ R _› (by (repeat (first | assumption | exact Below.refl _ _ | refine Below.alloc ?_ (by first | omega | (simp; done) | (simp; omega)) _ | refine Below.setCell ?_ (by first | omega | (simp; done) | (simp; omega)) _ | refine Below.drew ?_)))), by (repeat (first | assumption | exact Up.refl _ _ _ | refine Up.alloc ?_ (by first | omega | (simp; done) | (simp; omega)) _ | refine Up.setCell ?_ (.inr (by first | omega | (simp; done) | (simp; omega))) _ | refine Up.drew ?_ | refine Up.drewN ?_ _))⟩
  · go_wp2_with fail; refine (pick_any R _ _ _ (by (first | assumption | exact Rd.keep ‹Rd _ R _› (by (repeat (first | assumption | exact Below.refl _ _ | refine Below.alloc ?_ (by first | omega | (simp; done) | (simp; omega)) _ | refine Below.setCell ?_ (by first | omega | (simp; done) | (simp; omega)) _ | refine Below.drew ?_))))) (by omega) (by omega) (by omega)).mono ?_; rintro e w4 ⟨v4, rfl, hv4, hw4, hr4, hu4⟩; obtain ⟨hc4, hf4⟩ := rcell hu4; have hz4 : w.heap.size < w4.heap.size := (by have := hu4.size; first | omega | (simp at this; omega)); have hy4 : w.heap.size < w4.heap.size + 1 := Nat.lt_succ_of_lt hz4; have hU4 : Up R w.heap.size w w4 := upstep (by (repeat (first | assumption | exact Up.refl _ _ _ | refine Up.alloc ?_ (by first | omega | (simp; done) | (simp; omega)) _ | refine Up.setCell ?_ (.inr (by first | omega | (simp; done) | (simp; omega))) _ | refine Up.drew ?_ | refine Up.drewN ?_ _))) (by first | omega | (simp; done) | (simp; omega)) hu4
    have hz42 : w2.heap.size < w4.heap.size := (by have := hu4.size; first | omega | (simp at this; omega))
    go_wp2
    refine bodyPost_ret (by simp [results, Try.results47, go_sem, *]; try rfl) rfl ?_
    exact ⟨_, _, _, k + 1 + 1 + 1, rfl, by omega, by omega, by omega, by omega, by omega, by omega, by (first | assumption | exact Rd.keep ‹Rd _ R _› (by (repeat (first | assumption | exact Below.refl _ _ | refine Below.alloc ?_ (by first | omega | (simp; done) | (simp; omega)) _ | refine Below.setCell ?_ (by first | omega | (simp; done) | (simp; omega)) _ | refine Below.drew ?_)))), by (repeat (first | assumption | exact Up.refl _ _ _ | refine Up.alloc ?_ (by first | omega | (simp; done) | (simp; omega)) _ | refine Up.setCell ?_ (.inr (by first | omega | (simp; done) | (simp; omega))) _ | refine Up.drew ?_ | refine Up.drewN ?_ _))⟩
  · refine bodyPost_ret (by simp [results, Try.results47, go_sem, *]; try rfl) rfl ?_
    exact ⟨_, _, _, k + 1 + 1, rfl, by omega, by omega, by omega, by omega, by omega, by omega, by (first | assumption | exact Rd.keep ‹Rd _ R _› (by (repeat (first | assumption | exact Below.refl _ _ | refine Below.alloc ?_ (by first | omega | (simp; done) | (simp; omega)) _ | refine Below.setCell ?_ (by first | omega | (simp; done) | (simp; omega)) _ | refine Below.drew ?_)))), by (repeat (first | assumption | exact Up.refl _ _ _ | refine Up.alloc ?_ (by first | omega | (simp; done) | (simp; omega)) _ | refine Up.setCell ?_ (.inr (by first | omega | (simp; done) | (simp; omega))) _ | refine Up.drew ?_ | refine Up.drewN ?_ _))⟩
  · refine bodyPost_ret (by simp [results, Try.results47, go_sem, *]; try rfl) rfl ?_
    exact ⟨_, _, _, k + 1 + 1, rfl, by omega, by omega, by omega, by omega, by omega, by omega, by (first | assumption | exact Rd.keep ‹Rd _ R _› (by (repeat (first | assumption | exact Below.refl _ _ | refine Below.alloc ?_ (by first | omega | (simp; done) | (simp; omega)) _ | refine Below.setCell ?_ (by first | omega | (simp; done) | (simp; omega)) _ | refine Below.drew ?_)))), by (repeat (first | assumption | exact Up.refl _ _ _ | refine Up.alloc ?_ (by first | omega | (simp; done) | (simp; omega)) _ | refine Up.setCell ?_ (.inr (by first | omega | (simp; done) | (simp; omega))) _ | refine Up.drew ?_ | refine Up.drewN ?_ _))⟩
end Go.Proofs.Ytccbjhmjildinaa

/- The drawn inputs: opening a reader, an input drawn. -/
import Derived.Test.YtgiadgbfeldheaaB
import Derived.Test.YtgiadgbfeldheaaL
namespace Go.Proofs.Ytgiadgbfeldheaa
open Go.RowKit

theorem Rd.mk {w : World} {R : Nat} {a : Option Addr} {len cap : Nat} {zs : List Int} (hR : R < w.heap.size) (h2 : len ≤ 2000) (h3 : len ≤ cap) (h4 : w.cell? ⟨R, 0, none⟩ = some (.slice a len cap)) (h5 : w.cell? ⟨R, 1, none⟩ = some (.int .i64 0))
    (h6 : w.frozen? ⟨R, 1, none⟩ = false) (h7 : ∀ n ∈ zs, 0 ≤ n ∧ n ≤ 255) (h8 : len = 0 ∨ ∃ b off, a = some ⟨b, off, none⟩ ∧ b < R ∧ ∀ i, i < len → w.cell? ⟨b, off + i, none⟩ = some (.int .u8 (zs.getD i 0))) : Rd w R 0 :=
  ⟨a, len, cap, zs, hR, h2, h3, h4, h5, h6, fun i => by
    by_cases hi : i < zs.length
    · have := h7 zs[i] (List.getElem_mem hi)
      simpa [List.getD, hi] using this
    · simp [List.getD, hi], h8⟩

theorem row_bytes {w : World} {a : Option Addr} {len cap : Nat} {zs : List Int} (h : IsRow .u8 w a len cap zs) : ∀ n ∈ zs, 0 ≤ n ∧ n ≤ 255 := fun n hn => bounds_u8 (h.2.2.2.1 n hn)

set_option maxHeartbeats 400000 in
theorem open_any (a : Option Addr) (len cap : Nat) (zs : List Int) (w : World) (h : IsRow .u8 w a len cap zs) : Calls Try.prog 43 #[.slice a len cap] w fun e w' => ∃ R, e = .returned (.pointer (some ⟨R, 0, none⟩)) ∧ w.heap.size ≤ R ∧ Rd w' R 0 ∧ Below w.heap.size w w' := by
  have hb := row_bytes h
  obtain ⟨h1, h2, h3, h4, h5⟩ := h
  unfold maxLen at h2
  clear h4 h3
  by_cases hl : len ≤ 2000
  · go_enter Try.func43, Try.ntmps43
    go_wp2
    go_ret
    refine ⟨_, rfl, Nat.le_refl _, Rd.mk (by simp) hl h1 (by rw [World.cell?_alloc_new]; rfl) (by rw [World.cell?_alloc_new]; rfl) (by simp) hb ?_, by (repeat (first | with_reducible assumption | with_reducible exact Below.refl _ _ | ((with_reducible refine Below.alloc ?_ ?_ _); rotate_left; · exact (by first | omega | (simp; done) | (simp; omega))) | ((with_reducible refine Below.setCell ?_ ?_ _); rotate_left; · exact (by first | omega | (simp; done) | (simp; omega))) | with_reducible refine Below.drew ?_ | assumption | exact Below.refl _ _ | refine Below.alloc ?_ (by first | omega | (simp; done) | (simp; omega)) _ | refine Below.setCell ?_ (by first | omega | (simp; done) | (simp; omega)) _ | refine Below.drew ?_))⟩
    rcases h5 with h5 | ⟨b, off, ha, hlt, hc⟩
    · exact .inl (by omega)
    · exact .inr ⟨b, off, ha, hlt, fun i hi => (World.cell?_alloc_lt w _ ⟨b, off + i, none⟩ hlt).trans (hc i (by omega))⟩
  · rcases h5 with h5 | ⟨b, off, rfl, hlt, hc⟩
    · exfalso; omega
    · go_enter Try.func43, Try.ntmps43
      go_wp2
      go_ret
      exact ⟨_, rfl, Nat.le_refl _, Rd.mk (a := some ⟨b, off, none⟩) (len := 2000) (cap := cap) (by simp) (Nat.le_refl _) (by omega) (by rw [World.cell?_alloc_new]; rfl) (by rw [World.cell?_alloc_new]; rfl) (by simp) hb (.inr ⟨b, off, rfl, hlt, fun i (hi : i < 2000) => (World.cell?_alloc_lt w _ ⟨b, off + i, none⟩ hlt).trans (hc i (by omega))⟩), by (repeat (first | with_reducible assumption | with_reducible exact Below.refl _ _ | ((with_reducible refine Below.alloc ?_ ?_ _); rotate_left; · exact (by first | omega | (simp; done) | (simp; omega))) | ((with_reducible refine Below.setCell ?_ ?_ _); rotate_left; · exact (by first | omega | (simp; done) | (simp; omega))) | with_reducible refine Below.drew ?_ | assumption | exact Below.refl _ _ | refine Below.alloc ?_ (by first | omega | (simp; done) | (simp; omega)) _ | refine Below.setCell ?_ (by first | omega | (simp; done) | (simp; omega)) _ | refine Below.drew ?_))⟩

theorem ioS_bd (n : Int) : -1 ≤ ioS n ∧ ioS n ≤ 1 := by
  by_cases h : 0 ≤ n ∧ n ≤ 8
  · rw [ioS_in h.1 h.2]; omega
  · rw [ioS_out h]; omega
theorem ioP_bd (n : Int) : 0 ≤ ioP n ∧ ioP n ≤ 2 := by
  by_cases h : 0 ≤ n ∧ n ≤ 8
  · rw [ioP_in h.1 h.2]; omega
  · rw [ioP_out h]; omega

end Go.Proofs.Ytgiadgbfeldheaa

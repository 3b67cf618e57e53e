/- The drawn inputs: opening a reader, an input drawn. -/
import Derived.Test.YtnhjalijnociaaaQaa
import Derived.StillTail
import Derived.Deep.RegionHeld3
/- The drawn inputs: opening a reader, an input drawn. -/
namespace Go.Proofs.Ytnhjalijnociaaa
open Go.RowKit

theorem Rd.mk {w : World} {R : Nat} {a : Option Addr} {len cap : Nat} {zs : List Int} (hR : R < w.heap.size) (h2 : len ≤ 2000) (h3 : len ≤ cap) (h4 : w.cell? ⟨R, 0, none⟩ = some (.slice a len cap)) (h5 : w.cell? ⟨R, 1, none⟩ = some (.int .i64 0))
    (h6 : w.frozen? ⟨R, 1, none⟩ = false) (h7 : ∀ n ∈ zs, 0 ≤ n ∧ n ≤ 255) (h8 : len = 0 ∨ ∃ b off, a = some ⟨b, off, none⟩ ∧ b < R ∧ ∀ i, i < len → w.cell? ⟨b, off + i, none⟩ = some (.int .u8 (zs.getD i 0))) : Rd w R 0 :=
  ⟨a, len, cap, zs, hR, h2, h3, h4, h5, h6, fun i => by
    by_cases hi : i < zs.length
    · have := h7 zs[i] (List.getElem_mem hi)
      simpa [List.getD, hi] using this
    · simp [List.getD, hi], h8⟩

theorem row_bytes {w : World} {a : Option Addr} {len cap : Nat} {zs : List Int} (h : IsRow .u8 w a len cap zs) : ∀ n ∈ zs, 0 ≤ n ∧ n ≤ 255 := fun n hn => bounds_u8 (h.2.2.2.1 n hn)

set_option maxHeartbeats 400000 in
theorem open_any (a : Option Addr) (len cap : Nat) (zs : List Int) (w : World) (h : IsRow .u8 w a len cap zs) : Calls Try.prog 55 #[.slice a len cap] w fun e w' => ∃ R, e = .returned (.pointer (some ⟨R, 0, none⟩)) ∧ w.heap.size ≤ R ∧ Rd w' R 0 ∧ Below w.heap.size w w' := by
  have hb := row_bytes h
  obtain ⟨h1, h2, h3, h4, h5⟩ := h
  unfold maxLen at h2
  clear h4 h3
  by_cases hl : len ≤ 2000
  · go_enter Try.func55, Try.ntmps55
    go_wp2
    go_ret
    refine ⟨_, rfl, Nat.le_refl _, Rd.mk (by simp) hl h1 (by rw [World.cell?_alloc_new]; rfl) (by rw [World.cell?_alloc_new]; rfl) (by simp) hb ?_, by (repeat (first | with_reducible assumption | with_reducible exact Below.refl _ _ | ((with_reducible refine Below.alloc ?_ ?_ _); rotate_left; · exact (by first | omega | (simp; done) | (simp; omega))) | ((with_reducible refine Below.setCell ?_ ?_ _); rotate_left; · exact (by first | omega | (simp; done) | (simp; omega))) | with_reducible refine Below.drew ?_ | assumption | exact Below.refl _ _ | refine Below.alloc ?_ (by first | omega | (simp; done) | (simp; omega)) _ | refine Below.setCell ?_ (by first | omega | (simp; done) | (simp; omega)) _ | refine Below.drew ?_))⟩
    rcases h5 with h5 | ⟨b, off, ha, hlt, hc⟩
    · exact .inl (by omega)
    · exact .inr ⟨b, off, ha, hlt, fun i hi => (World.cell?_alloc_lt w _ ⟨b, off + i, none⟩ hlt).trans (hc i (by omega))⟩
  · rcases h5 with h5 | ⟨b, off, rfl, hlt, hc⟩
    · exfalso; omega
    · go_enter Try.func55, Try.ntmps55
      go_wp2
      go_ret
      exact ⟨_, rfl, Nat.le_refl _, Rd.mk (a := some ⟨b, off, none⟩) (len := 2000) (cap := cap) (by simp) (Nat.le_refl _) (by omega) (by rw [World.cell?_alloc_new]; rfl) (by rw [World.cell?_alloc_new]; rfl) (by simp) hb (.inr ⟨b, off, rfl, hlt, fun i (hi : i < 2000) => (World.cell?_alloc_lt w _ ⟨b, off + i, none⟩ hlt).trans (hc i (by omega))⟩), by (repeat (first | with_reducible assumption | with_reducible exact Below.refl _ _ | ((with_reducible refine Below.alloc ?_ ?_ _); rotate_left; · exact (by first | omega | (simp; done) | (simp; omega))) | ((with_reducible refine Below.setCell ?_ ?_ _); rotate_left; · exact (by first | omega | (simp; done) | (simp; omega))) | with_reducible refine Below.drew ?_ | assumption | exact Below.refl _ _ | refine Below.alloc ?_ (by first | omega | (simp; done) | (simp; omega)) _ | refine Below.setCell ?_ (by first | omega | (simp; done) | (simp; omega)) _ | refine Below.drew ?_))⟩

theorem ioS_bd (n : Int) : -1 ≤ ioS n ∧ ioS n ≤ 1 := by
  by_cases h : 0 ≤ n ∧ n ≤ 8
  · rw [ioS_in h.1 h.2]; omega
  · rw [ioS_out h]; omega
theorem ioP_bd (n : Int) : 0 ≤ ioP n ∧ ioP n ≤ 2 := by
  by_cases h : 0 ≤ n ∧ n ≤ 8
  · rw [ioP_in h.1 h.2]; omega
  · rw [ioP_out h]; omega

set_option maxHeartbeats 1000000 in
theorem lInput_any (R k : Nat) (w : World) (hr : Rd w R k) (hk : k < 900000) : Calls Try.prog 60 #[.pointer (some ⟨R, 0, none⟩)] w fun e w' => ∃ (s p : Int) (b : Bool) (k' : Nat), e = .returned (.agg #[.int .i64 s, .int .i64 p, .bool b]) ∧ -10 ≤ s ∧ s ≤ 10 ∧ -10 ≤ p ∧ p ≤ 10 ∧ k ≤ k' ∧ k' ≤ k + 3 ∧ Rd w' R k' ∧ Up R w.heap.size w w' := by
  have hR := hr.lt
  have hne : w.heap.size ≠ R := by omega
  go_enter Try.func60, Try.ntmps60
  go_wp2_with fail; refine (pick_any R _ _ _ (by (first | assumption | exact Rd.keep ‹Rd _ R _› (by (repeat (first | with_reducible assumption | with_reducible exact Below.refl _ _ | ((with_reducible refine Below.alloc ?_ ?_ _); rotate_left; · exact (by first | omega | (simp; done) | (simp; omega))) | ((with_reducible refine Below.setCell ?_ ?_ _); rotate_left; · exact (by first | omega | (simp; done) | (simp; omega))) | with_reducible refine Below.drew ?_ | assumption | exact Below.refl _ _ | refine Below.alloc ?_ (by first | omega | (simp; done) | (simp; omega)) _ | refine Below.setCell ?_ (by first | omega | (simp; done) | (simp; omega)) _ | refine Below.drew ?_))))) (by omega) (by omega) (by omega)).mono ?_; rintro e w1 ⟨v1, rfl, hv1, hw1, hr1, hu1⟩; obtain ⟨hc1, hf1⟩ := rcell hu1; have hz1 : w.heap.size < w1.heap.size := (by have := hu1.size; first | omega | (simp at this; omega)); have hy1 : w.heap.size < w1.heap.size + 1 := Nat.lt_succ_of_lt hz1; have hU1 : Up R w.heap.size w w1 := upstep (by (repeat (first | assumption | exact Up.refl _ _ _ | refine Up.alloc ?_ (by first | omega | (simp; done) | (simp; omega)) _ | refine Up.setCell ?_ (.inr (by first | omega | (simp; done) | (simp; omega))) _ | refine Up.drew ?_ | refine Up.drewN ?_ _))) (by first | omega | (simp; done) | (simp; omega)) hu1
  go_wp2_with fail; refine (sInputOf _ _).mono ?_; rintro e w2 ⟨rfl, hb2⟩; obtain ⟨hc2, hf2⟩ := bcell hb2; have hz2 : w.heap.size < w2.heap.size := (by have := hb2.size; first | omega | (simp at this; omega)); have hy2 : w.heap.size < w2.heap.size + 1 := Nat.lt_succ_of_lt hz2; have hU2 : Up R w.heap.size w w2 := upstep (by (repeat (first | assumption | exact Up.refl _ _ _ | refine Up.alloc ?_ (by first | omega | (simp; done) | (simp; omega)) _ | refine Up.setCell ?_ (.inr (by first | omega | (simp; done) | (simp; omega))) _ | refine Up.drew ?_ | refine Up.drewN ?_ _))) (by first | omega | (simp; done) | (simp; omega)) (Up.of_below hb2); have hr2 : Rd w2 R (k + 1) := Rd.keep (by (first | assumption | exact Rd.keep ‹Rd _ R _› (by (repeat (first | with_reducible assumption | with_reducible exact Below.refl _ _ | ((with_reducible refine Below.alloc ?_ ?_ _); rotate_left; · exact (by first | omega | (simp; done) | (simp; omega))) | ((with_reducible refine Below.setCell ?_ ?_ _); rotate_left; · exact (by first | omega | (simp; done) | (simp; omega))) | with_reducible refine Below.drew ?_ | assumption | exact Below.refl _ _ | refine Below.alloc ?_ (by first | omega | (simp; done) | (simp; omega)) _ | refine Below.setCell ?_ (by first | omega | (simp; done) | (simp; omega)) _ | refine Below.drew ?_))))) (hb2.mono (by first | omega | (simp; done) | (simp; omega)))
  have hs := ioS_bd v1
  have hp := ioP_bd v1
  go_wp2_with fail; refine (pick_any R _ _ _ (by (first | assumption | exact Rd.keep ‹Rd _ R _› (by (repeat (first | with_reducible assumption | with_reducible exact Below.refl _ _ | ((with_reducible refine Below.alloc ?_ ?_ _); rotate_left; · exact (by first | omega | (simp; done) | (simp; omega))) | ((with_reducible refine Below.setCell ?_ ?_ _); rotate_left; · exact (by first | omega | (simp; done) | (simp; omega))) | with_reducible refine Below.drew ?_ | assumption | exact Below.refl _ _ | refine Below.alloc ?_ (by first | omega | (simp; done) | (simp; omega)) _ | refine Below.setCell ?_ (by first | omega | (simp; done) | (simp; omega)) _ | refine Below.drew ?_))))) (by omega) (by omega) (by omega)).mono ?_; rintro e w3 ⟨v3, rfl, hv3, hw3, hr3, hu3⟩; obtain ⟨hc3, hf3⟩ := rcell hu3; have hz3 : w.heap.size < w3.heap.size := (by have := hu3.size; first | omega | (simp at this; omega)); have hy3 : w.heap.size < w3.heap.size + 1 := Nat.lt_succ_of_lt hz3; have hU3 : Up R w.heap.size w w3 := upstep (by (repeat (first | assumption | exact Up.refl _ _ _ | refine Up.alloc ?_ (by first | omega | (simp; done) | (simp; omega)) _ | refine Up.setCell ?_ (.inr (by first | omega | (simp; done) | (simp; omega))) _ | refine Up.drew ?_ | refine Up.drewN ?_ _))) (by first | omega | (simp; done) | (simp; omega)) hu3
  have hz32 : w2.heap.size < w3.heap.size := (by have := hu3.size; first | omega | (simp at this; omega))
  have hne2 : w2.heap.size ≠ R := by omega
  have hd1 : w2.heap.size ≠ w.heap.size := by omega
  have hd2 : w.heap.size ≠ w2.heap.size := by omega
  go_wp2_with fail
  · go_wp2_with fail; refine (pick_any R _ _ _ (by (first | assumption | exact Rd.keep ‹Rd _ R _› (by (repeat (first | with_reducible assumption | with_reducible exact Below.refl _ _ | ((with_reducible refine Below.alloc ?_ ?_ _); rotate_left; · exact (by first | omega | (simp; done) | (simp; omega))) | ((with_reducible refine Below.setCell ?_ ?_ _); rotate_left; · exact (by first | omega | (simp; done) | (simp; omega))) | with_reducible refine Below.drew ?_ | assumption | exact Below.refl _ _ | refine Below.alloc ?_ (by first | omega | (simp; done) | (simp; omega)) _ | refine Below.setCell ?_ (by first | omega | (simp; done) | (simp; omega)) _ | refine Below.drew ?_))))) (by omega) (by omega) (by omega)).mono ?_; rintro e w4 ⟨v4, rfl, hv4, hw4, hr4, hu4⟩; obtain ⟨hc4, hf4⟩ := rcell hu4; have hz4 : w.heap.size < w4.heap.size := (by have := hu4.size; first | omega | (simp at this; omega)); have hy4 : w.heap.size < w4.heap.size + 1 := Nat.lt_succ_of_lt hz4; have hU4 : Up R w.heap.size w w4 := upstep (by (repeat (first | assumption | exact Up.refl _ _ _ | refine Up.alloc ?_ (by first | omega | (simp; done) | (simp; omega)) _ | refine Up.setCell ?_ (.inr (by first | omega | (simp; done) | (simp; omega))) _ | refine Up.drew ?_ | refine Up.drewN ?_ _))) (by first | omega | (simp; done) | (simp; omega)) hu4
    have hz42 : w2.heap.size < w4.heap.size := (by have := hu4.size; first | omega | (simp at this; omega))
    go_wp2
    refine bodyPost_ret (by simp [results, Try.results60, go_sem, *]; try rfl) rfl ?_
    exact ⟨_, _, _, k + 1 + 1 + 1, rfl, by omega, by omega, by omega, by omega, by omega, by omega, by (first | assumption | exact Rd.keep ‹Rd _ R _› (by (repeat (first | with_reducible assumption | with_reducible exact Below.refl _ _ | ((with_reducible refine Below.alloc ?_ ?_ _); rotate_left; · exact (by first | omega | (simp; done) | (simp; omega))) | ((with_reducible refine Below.setCell ?_ ?_ _); rotate_left; · exact (by first | omega | (simp; done) | (simp; omega))) | with_reducible refine Below.drew ?_ | assumption | exact Below.refl _ _ | refine Below.alloc ?_ (by first | omega | (simp; done) | (simp; omega)) _ | refine Below.setCell ?_ (by first | omega | (simp; done) | (simp; omega)) _ | refine Below.drew ?_)))), by (repeat (first | assumption | exact Up.refl _ _ _ | refine Up.alloc ?_ (by first | omega | (simp; done) | (simp; omega)) _ | refine Up.setCell ?_ (.inr (by first | omega | (simp; done) | (simp; omega))) _ | refine Up.drew ?_ | refine Up.drewN ?_ _))⟩
  · go_wp2_with fail; refine (pick_any R _ _ _ (by (first | assumption | exact Rd.keep ‹Rd _ R _› (by (repeat (first | with_reducible assumption | with_reducible exact Below.refl _ _ | ((with_reducible refine Below.alloc ?_ ?_ _); rotate_left; · exact (by first | omega | (simp; done) | (simp; omega))) | ((with_reducible refine Below.setCell ?_ ?_ _); rotate_left; · exact (by first | omega | (simp; done) | (simp; omega))) | with_reducible refine Below.drew ?_ | assumption | exact Below.refl _ _ | refine Below.alloc ?_ (by first | omega | (simp; done) | (simp; omega)) _ | refine Below.setCell ?_ (by first | omega | (simp; done) | (simp; omega)) _ | refine Below.drew ?_))))) (by omega) (by omega) (by omega)).mono ?_; rintro e w4 ⟨v4, rfl, hv4, hw4, hr4, hu4⟩; obtain ⟨hc4, hf4⟩ := rcell hu4; have hz4 : w.heap.size < w4.heap.size := (by have := hu4.size; first | omega | (simp at this; omega)); have hy4 : w.heap.size < w4.heap.size + 1 := Nat.lt_succ_of_lt hz4; have hU4 : Up R w.heap.size w w4 := upstep (by (repeat (first | assumption | exact Up.refl _ _ _ | refine Up.alloc ?_ (by first | omega | (simp; done) | (simp; omega)) _ | refine Up.setCell ?_ (.inr (by first | omega | (simp; done) | (simp; omega))) _ | refine Up.drew ?_ | refine Up.drewN ?_ _))) (by first | omega | (simp; done) | (simp; omega)) hu4
    have hz42 : w2.heap.size < w4.heap.size := (by have := hu4.size; first | omega | (simp at this; omega))
    go_wp2
    refine bodyPost_ret (by simp [results, Try.results60, go_sem, *]; try rfl) rfl ?_
    exact ⟨_, _, _, k + 1 + 1 + 1, rfl, by omega, by omega, by omega, by omega, by omega, by omega, by (first | assumption | exact Rd.keep ‹Rd _ R _› (by (repeat (first | with_reducible assumption | with_reducible exact Below.refl _ _ | ((with_reducible refine Below.alloc ?_ ?_ _); rotate_left; · exact (by first | omega | (simp; done) | (simp; omega))) | ((with_reducible refine Below.setCell ?_ ?_ _); rotate_left; · exact (by first | omega | (simp; done) | (simp; omega))) | with_reducible refine Below.drew ?_ | assumption | exact Below.refl _ _ | refine Below.alloc ?_ (by first | omega | (simp; done) | (simp; omega)) _ | refine Below.setCell ?_ (by first | omega | (simp; done) | (simp; omega)) _ | refine Below.drew ?_)))), by (repeat (first | assumption | exact Up.refl _ _ _ | refine Up.alloc ?_ (by first | omega | (simp; done) | (simp; omega)) _ | refine Up.setCell ?_ (.inr (by first | omega | (simp; done) | (simp; omega))) _ | refine Up.drew ?_ | refine Up.drewN ?_ _))⟩
  · refine bodyPost_ret (by simp [results, Try.results60, go_sem, *]; try rfl) rfl ?_
    exact ⟨_, _, _, k + 1 + 1, rfl, by omega, by omega, by omega, by omega, by omega, by omega, by (first | assumption | exact Rd.keep ‹Rd _ R _› (by (repeat (first | with_reducible assumption | with_reducible exact Below.refl _ _ | ((with_reducible refine Below.alloc ?_ ?_ _); rotate_left; · exact (by first | omega | (simp; done) | (simp; omega))) | ((with_reducible refine Below.setCell ?_ ?_ _); rotate_left; · exact (by first | omega | (simp; done) | (simp; omega))) | with_reducible refine Below.drew ?_ | assumption | exact Below.refl _ _ | refine Below.alloc ?_ (by first | omega | (simp; done) | (simp; omega)) _ | refine Below.setCell ?_ (by first | omega | (simp; done) | (simp; omega)) _ | refine Below.drew ?_)))), by (repeat (first | assumption | exact Up.refl _ _ _ | refine Up.alloc ?_ (by first | omega | (simp; done) | (simp; omega)) _ | refine Up.setCell ?_ (.inr (by first | omega | (simp; done) | (simp; omega))) _ | refine Up.drew ?_ | refine Up.drewN ?_ _))⟩
  · refine bodyPost_ret (by simp [results, Try.results60, go_sem, *]; try rfl) rfl ?_
    exact ⟨_, _, _, k + 1 + 1, rfl, by omega, by omega, by omega, by omega, by omega, by omega, by (first | assumption | exact Rd.keep ‹Rd _ R _› (by (repeat (first | with_reducible assumption | with_reducible exact Below.refl _ _ | ((with_reducible refine Below.alloc ?_ ?_ _); rotate_left; · exact (by first | omega | (simp; done) | (simp; omega))) | ((with_reducible refine Below.setCell ?_ ?_ _); rotate_left; · exact (by first | omega | (simp; done) | (simp; omega))) | with_reducible refine Below.drew ?_ | assumption | exact Below.refl _ _ | refine Below.alloc ?_ (by first | omega | (simp; done) | (simp; omega)) _ | refine Below.setCell ?_ (by first | omega | (simp; done) | (simp; omega)) _ | refine Below.drew ?_)))), by (repeat (first | assumption | exact Up.refl _ _ _ | refine Up.alloc ?_ (by first | omega | (simp; done) | (simp; omega)) _ | refine Up.setCell ?_ (.inr (by first | omega | (simp; done) | (simp; omega))) _ | refine Up.drew ?_ | refine Up.drewN ?_ _))⟩
end Go.Proofs.Ytnhjalijnociaaa

/- A region that draws its order and whose last operations come up last in whatever order is drawn: the head is walked under a held condition, the tail in the order of the text. -/
set_option linter.unusedVariables false
namespace Go.Proofs.Ytnhjalijnociaaa
open Go

/-- what is asked behind the head: the tail, in its order -/
def TailQ (P : Program) (l : List Oper) (n : Nat) (Q : Exit → Act → World → Prop) : Exit → Act → World → Prop
  | .normal, a, w => wpList P l.toArray Q (l.drop n) a w
  | e, a, w => Q e a w

theorem upon_tail {P : Program} {l : List Oper} {n : Nat} {Q : Exit → Act → World → Prop} {o : Oper} {a : Act} {K : Act → World → Prop} {r : Result Next} (h : o.upon P a K (TailQ P l n Q) r) : o.upon P a K Q r := by
  cases r with
  | ok m w' =>
    cases m <;> simp only [Oper.upon] at h ⊢ <;>
      first
        | exact h
        | exact Calls.mono h (fun e w'' he => by cases e <;> exact he)
  | halt x w' => cases x <;> simp only [Oper.upon] at h ⊢ <;> exact h
/-- the head's operations: no guard, no edge to a later one -/
def cutB (ops : Array Oper) (n : Nat) : Bool := (List.range n).all fun i => match ops[i]? with
  | some o => o.guard.isNone && o.after.all (fun e => decide (e.on < i))
  | none => false
def doneAt (m n : Nat) : Array Bool := ((List.range m).map fun i => decide (i < n)).toArray
/-- all that the cut asks of the region's text -/
def cutAll (l : List Oper) (n : Nat) : Bool :=
  decide (n < l.length) && cutB l.toArray n && Region.sinkB .any l.toArray n && Region.chainB .any l.toArray n && Region.seqB .any l.toArray (l.drop n).length n (doneAt l.length n)
theorem cutB_spec {ops : Array Oper} {n i : Nat} (h : cutB ops n = true) (hi : i < n) : ∃ o, ops[i]? = some o ∧ o.guard = none ∧ ∀ e ∈ o.after, e.on < i := by
  have h1 := List.all_eq_true.1 h i (List.mem_range.2 hi)
  cases ho : ops[i]? with
  | none => simp [ho] at h1
  | some o =>
    simp only [ho, Bool.and_eq_true, Option.isNone_iff_eq_none] at h1
    exact ⟨o, rfl, h1.1, fun e he => by simpa using Array.all_eq_true_iff_forall_mem.1 h1.2 e he⟩
theorem wpOp_tail {P : Program} {l : List Oper} {n i : Nat} {Q : Exit → Act → World → Prop} {K : Act → World → Prop} {a : Act} {w : World} (hc : cutB l.toArray n = true) (hi : i < n)
    (h : wpOp P (l.take n).toArray (TailQ P l n Q) i K a w) : wpOp P l.toArray Q i K a w := by
  obtain ⟨o, ho, hg, _⟩ := cutB_spec hc hi
  have ho' : (l.take n).toArray[i]? = some o := by simpa [List.getElem?_take, hi] using ho
  have hw : ∀ y, Region.wanted o y = true := fun y => by simp [Region.wanted, hg]
  unfold wpOp at *
  simp only [ho, ho', hw, if_true] at h ⊢
  rcases h with h | ⟨h1, h2⟩
  · exact .inl (upon_tail h)
  · exact .inr ⟨h1, h2⟩
theorem wpAny_of_seqs {P : Program} {ops : Array Oper} {md : Region.Mode} {Q' : Exit → Act → World → Prop} : ∀ (l : List Oper) (k d : Nat) (listed : Array Bool) (a : Act) (w : World), (∀ j, l[j]? = ops[k + j]?) →
    Region.seqB md ops l.length k listed = true → wpList P ops Q' l a w → wpAny P md ops Q' (d + l.length) listed a w
  | [], k, d, listed, a, w, _, hB, h => wpAny_done (by simpa [Region.seqB] using hB) h _
  | o :: l, k, d, listed, a, w, hl, hB, h => by
    have h0 : ops[k]? = some o := by simpa using (hl 0).symm
    simp only [List.length_cons, Region.seqB, Bool.and_eq_true, decide_eq_true_eq] at hB
    rw [List.length_cons, ← Nat.add_assoc]
    refine ⟨fun h1 => (by rw [hB.1] at h1; cases h1), fun i hi => ?_⟩
    rw [hB.1] at hi
    have hik : i = k := by simpa using hi
    subst hik
    have hw : wpOp P ops Q' i (wpList P ops Q' l) a w := by unfold wpOp; simp only [h0]; exact h
    exact wpOp_mono (fun a' w' h' => wpAny_of_seqs l (i + 1) d _ a' w' (fun j => by have := hl (j + 1); simpa [Nat.add_assoc, Nat.add_comm 1 j] using this) hB.2 h') hw
structure CutInv (l : List Oper) (n : Nat) (lh listed : Array Bool) : Prop where
  size : lh.size = n
  inv : HeadInv .any l.toArray n listed
  same : ∀ i, i < n → listed.getD i false = lh.getD i false
theorem CutInv.lsize {l : List Oper} {n : Nat} {lh listed : Array Bool} (h : CutInv l n lh listed) : listed.size = l.length := h.inv.size.trans (by simp)
theorem getD_tf {a : Array Bool} {i : Nat} (h : i < a.size) : a.getD i true = a.getD i false := by simp [h]
theorem ready_cut {l : List Oper} {n j : Nat} {lh listed : Array Bool} (hn : n < l.length) (hc : cutB l.toArray n = true) (hv : CutInv l n lh listed) (hj : j < n) :
    j ∈ Region.ready .any (l.take n).toArray lh ↔ j ∈ Region.ready .any l.toArray listed := by
  obtain ⟨o, ho, _, hlt⟩ := cutB_spec hc hj
  have ho' : (l.take n).toArray[j]? = some o := by simpa [List.getElem?_take, hj] using ho
  have hs := hv.lsize
  rw [mem_ready, mem_ready, ho, ho', getD_tf (a := lh) (by rw [hv.size]; exact hj), getD_tf (a := listed) (by omega), hv.same j hj]
  constructor
  · rintro ⟨h1, o', h2, h3⟩
    cases h2
    exact ⟨h1, o, rfl, fun e he hb => by rw [hv.same _ (by have := hlt e he; omega)]; exact h3 e he hb⟩
  · rintro ⟨h1, o', h2, h3⟩
    cases h2
    exact ⟨h1, o, rfl, fun e he hb => by rw [← hv.same _ (by have := hlt e he; omega)]; exact h3 e he hb⟩
theorem ready_lt {l : List Oper} {n j : Nat} {lh : Array Bool} (h : j ∈ Region.ready .any (l.take n).toArray lh) : j < n := by
  obtain ⟨_, o, ho, _⟩ := mem_ready.1 h
  have := (Array.getElem?_eq_some_iff.1 ho).1
  simp at this
  omega
theorem done_cut {l : List Oper} {n : Nat} {lh listed : Array Bool} (hn : n < l.length) (hc : cutB l.toArray n = true) (hv : CutInv l n lh listed) (h : Region.ready .any (l.take n).toArray lh = []) : listed = doneAt l.length n := by
  have hall : ∀ i, i < n → lh.getD i false = true := by
    intro i
    induction i using Nat.strongRecOn with
    | _ i ih =>
      intro hi
      cases hl : lh.getD i false with
      | true => rfl
      | false =>
        obtain ⟨o, ho, _, hlt⟩ := cutB_spec hc hi
        have ho' : (l.take n).toArray[i]? = some o := by simpa [List.getElem?_take, hi] using ho
        have : i ∈ Region.ready .any (l.take n).toArray lh := mem_ready.2 ⟨by rw [getD_tf (by rw [hv.size]; exact hi)]; exact hl, o, ho', fun e he _ => ih _ (hlt e he) (by have := hlt e he; omega)⟩
        rw [h] at this
        cases this
  have hs := hv.lsize
  refine Array.ext (hs.trans (by simp [doneAt])) fun i h1 h2 => ?_
  have e2 : (doneAt l.length n)[i] = decide (i < n) := by simp [doneAt]
  rw [e2]
  by_cases hi : i < n
  · have := hv.same i hi
    rw [hall i hi] at this
    have h3 : listed.getD i false = listed[i] := by simp [h1]
    rw [← h3, this]
    simp [hi]
  · have := hv.inv.tail i (by omega) (by rw [List.size_toArray]; omega)
    have h3 : listed.getD i true = listed[i] := by simp [h1]
    rw [← h3, this]
    simp [hi]
theorem cut_any {P : Program} {l : List Oper} {n : Nat} {Q : Exit → Act → World → Prop} (hA : cutAll l n = true) : ∀ (f : Nat) (lh listed : Array Bool) (a : Act) (w : World), CutInv l n lh listed →
    wpAny P .any (l.take n).toArray (TailQ P l n Q) f lh a w → wpAny P .any l.toArray Q (f + (l.drop n).length) listed a w := by
  have hA' := hA
  simp only [cutAll, Bool.and_eq_true, decide_eq_true_eq] at hA'
  obtain ⟨⟨⟨⟨hn, hc⟩, hs⟩, hch⟩, hq⟩ := hA'
  have fin : ∀ (d : Nat) (lh listed : Array Bool) (a : Act) (w : World), CutInv l n lh listed → Region.ready .any (l.take n).toArray lh = [] → TailQ P l n Q .normal a w → wpAny P .any l.toArray Q (d + (l.drop n).length) listed a w := by
    intro d lh listed a w hv h hQ
    rw [done_cut hn hc hv h]
    exact wpAny_of_seqs (l.drop n) n d _ a w (fun j => by simp [List.getElem?_drop]) hq hQ
  intro f
  induction f with
  | zero => intro lh listed a w hv h; exact fin 0 lh listed a w hv h.1 h.2
  | succ f ih =>
    intro lh listed a w hv h
    by_cases hr : Region.ready .any (l.take n).toArray lh = []
    · exact fin (f + 1) lh listed a w hv hr (h.1 hr)
    · obtain ⟨i0, hi0⟩ := List.exists_mem_of_ne_nil _ hr
      have hi0n := ready_lt hi0
      have hi0' := (ready_cut hn hc hv hi0n).1 hi0
      rw [show f + 1 + (l.drop n).length = (f + (l.drop n).length) + 1 by omega]
      refine ⟨fun h0 => (by rw [h0] at hi0'; cases hi0'), fun j hj => ?_⟩
      have hjn : j < n := by
        rcases Nat.lt_or_ge j n with h' | h'
        · exact h'
        · exact absurd hj (tail_waits hs hch (by simpa using hn) hv.inv _ i0 rfl hi0n (mem_ready.1 hi0').1 j h')
      have hj' := (ready_cut hn hc hv hjn).2 hj
      refine wpOp_mono (fun a' w' h' => ih (lh.setIfInBounds j true) (listed.setIfInBounds j true) a' w' ?_ h') (wpOp_tail hc hjn (h.2 j hj'))
      refine ⟨by simp [hv.size], hv.inv.set hj hjn, fun i hi => ?_⟩
      by_cases hij : j = i
      · subst hij
        have e1 := hv.lsize
        have e2 := hv.size
        have k1 : j < listed.size := by omega
        have k2 : j < lh.size := by omega
        simp [k1, k2]
      · rw [getD_set_ne false hij, getD_set_ne false hij]
        exact hv.same i hi
/-- THE CUT: the head (n operations) in whatever order, the tail behind it. -/
theorem wp_region_cut {P : Program} {id : Nat} {Q : Exit → Act → World → Prop} {a : Act} {w : World} {l : List Oper} {S : World → Prop} (n : Nat) (hm : P.follows .mixedOrders = true) (hA : cutAll l n = true) (hS : S w.drew)
    (h : S w.drew → wpAnyH P .any (l.take n).toArray (TailQ P l n Q) S n (Array.replicate n false) a w.drew) : (Code.region id l.toArray true).wp P Q a w := by
  refine wp_region_any hm ?_
  have hn : n < l.length := by
    simp only [cutAll, Bool.and_eq_true, decide_eq_true_eq] at hA
    exact hA.1.1.1.1
  have e : l.toArray.size = n + (l.drop n).length := by simp; omega
  rw [e]
  refine cut_any hA n (Array.replicate n false) _ a w.drew ?_ (wpAny_of_held _ _ _ _ (h hS))
  refine ⟨by simp, ⟨by simp; omega, fun j oj _ hl => (by rw [getD_replicate_false] at hl; cases hl), fun t _ ht => getD_in (by simp at ht ⊢; omega) (getD_replicate_false _ _)⟩, fun i hi => by rw [getD_replicate_false, getD_replicate_false]⟩
end Go.Proofs.Ytnhjalijnociaaa

/- A range over a function whose iterator writes blocks of its own: the law of the statement. -/
import Derived.RangeFuncNested
import Derived.RangeFuncLeaves
import Derived.Shelf.Abstract
import Derived.WalkKit
import Derived.OwnWalkIn
import Derived.TacticsInMore
import Derived.LoopNIn
import Derived.LoopIn
set_option linter.unusedVariables false
namespace Go.Proofs.Ytnhjalijnociaaa
open Go Go.RowKit Go.Shelf

/-- the blocks from B on lie as they lay -/
structure SameFrom (B : Nat) (W W' : World) : Prop where
  size : W.heap.size ≤ W'.heap.size
  same : ∀ j, B ≤ j → j < W.heap.size → W'.heap[j]? = W.heap[j]?
/-- an iterator hands out N values and may write what it has laid since its call -/
def GivesN (F : Fence) (n : Nat) (P : Program) (gf : Nat) (enc : Nat → Value) (N : Nat) : Prop :=
  ∀ (l : Nat) (J Jx : Nat → World → Prop) (W : World),
    (∀ k A C, J k A → Below W.heap.size A C → J k C) → (∀ k A C, Jx k A → Below W.heap.size A C → Jx k C) →
    (∀ k A, J k A → k < N → YieldAt F (n - 1) P l #[enc k] A fun e C => (e = .returned (.bool true) ∧ J (k + 1) C ∧ SameFrom W.heap.size A C) ∨ (e = .returned (.bool false) ∧ Jx (k + 1) C)) →
    J 0 W → CallsIn F n P gf #[.func (.yield l) #[] #[]] W fun e W' => (∃ v, e = .returned v) ∧ (J N W' ∨ ∃ k, k ≤ N ∧ Jx k W')
/-- how a round's body may be left -/
def postN (B : Nat) (I X : Nat → World → Prop) (k : Nat) (W : World) : Exit → Act → World → Prop
  | .normal, _, W' => SameFrom B W W' ∧ I k W'
  | .ret, _, W' => SameFrom B W W' ∧ X k W'
  | _, _, _ => False
theorem wpIn_rangeN {F : Fence} {n : Nat} {P : Program} {g : Operand} {p : Tmp} {assign body : Code} {Q : Exit → Act → World → Prop} {a : Act} {w : World} (hro : F.round = none) (h1 : 1 ≤ n) {gf : Nat} {enc : Nat → Value} {N : Nat}
    (hg : a.eval g = .func (.func gf) #[] #[]) (hFg : F.fn gf) (eg : ∀ args w, (callFunc gf args).run P w = .ok (.enter gf args) w) (hseq : GivesN F (n - 1) P gf enc N)
    (I X : Nat → World → Prop) (hI : ∀ k A C, I k A → Below w.heap.size A C → I k C) (hX : ∀ k A C, X k A → Below w.heap.size A C → X k C) (h0 : I 0 w) (Ax : Nat → Act → World → Prop) (hAx : ∀ k a' A C, Ax k a' A → (∀ j, j ≠ w.heap.size + 1 → C.heap[j]? = A.heap[j]?) → Ax k a' C)
    (hassign : ∀ (l k : Nat) (W : World) (K : Act → World → Prop), w.heap.size + 1 < W.heap.size → I k W → (∀ a' W', SameFrom w.heap.size W W' → I k W' → Ax k a' W' → K a' W') → assign.wpIn (F.inRound l) (n - 1 - 1) P (Exit.then K (fun _ _ _ => False)) { tmps := a.tmps.setIfInBounds p (enc k), defers := [] } W)
    (hbody : ∀ (l k : Nat) (a' : Act) (W : World), w.heap.size ≤ l → I k W → Ax k a' W → k < N → body.wpIn (F.inRound l) (n - 1 - 1) P (postN w.heap.size I X (k + 1) W) a' W)
    (hdone : ∀ (D : Nat) (W : World), w.heap.size ≤ D → I N W → W.heap[D]? = some (.deferred (some [])) → Q .normal { a with defers := { target := .collected D, args := #[] } :: a.defers } W)
    (hstop : ∀ (D k : Nat) (W : World), w.heap.size ≤ D → k ≤ N → X k W → W.heap[D]? = some (.deferred (some [])) → Code.ret.wpIn F n P Q { a with defers := { target := .collected D, args := #[] } :: a.defers } W) :
    (Code.rangeFunc g #[p] assign body).wpIn F n P Q a w := by
  refine wpIn_rangeFunc ?_
  intro fn hfn
  rw [hro]
  obtain ⟨rec, hrec⟩ : ∃ rec : LoopState → Option Code → Loop, rec = fun st pe => { state := st, pending := pe, fn, tmps := a.tmps, params := #[p], assign, body, defers := w.heap.size } := ⟨_, rfl⟩
  obtain ⟨V, hV⟩ : ∃ V, (w.alloc (.deferred (some []))).alloc (.loop (rec .ready none)) = V := ⟨_, rfl⟩
  have hB0 : Below w.heap.size w V := by rw [← hV]; exact ((Below.refl _ w).alloc (Nat.le_refl _) _).alloc (by simp) _
  have hVs : V.heap.size = w.heap.size + 2 := by rw [← hV]; simp
  have hVl : V.heap[w.heap.size + 1]? = some (.loop (rec .ready none)) := by
    rw [← hV]
    have := World.alloc_heap_new (w.alloc (.deferred (some []))) (.loop (rec .ready none))
    rwa [World.size_alloc] at this
  have hVd : V.heap[w.heap.size]? = some (.deferred (some [])) := by
    rw [← hV]
    exact (Below.heap_alloc _ _ _ (by simp)).trans (World.alloc_heap_new w _)
  have put : ∀ (W : World) (o o' : Obj), W.heap[w.heap.size + 1]? = some o → o.isCells = false → o.isWalk = false → Below w.heap.size W (W.putObj (w.heap.size + 1) o') := fun W o o' h hc hw =>
    belowK_b (n₀ := w.heap.size) (w := w) (Nat.le_refl _) W _ o o' (by omega) h hc hw
  refine ⟨w.heap.size + 1, [{ target := .collected w.heap.size, args := #[] }], V, { target := .fn (.func gf) #[], args := #[.func (.yield (w.heap.size + 1)) #[] #[]] }, V, gf, #[.func (.yield (w.heap.size + 1)) #[] #[]], V, ?_, ?_, ?_, ?_, fun _ => h1, ?_⟩
  · rw [← hV, hrec]; exact run_enterLoop_outer _ _ _ _ _
  · simp only [resolve, hg]
    simp [go_sem]
  · intro f' hf'
    simp [Target.leads] at hf'
    subst hf'
    exact hFg
  · simp [invoke, go_sem, eg]
  · refine (hseq (w.heap.size + 1) (fun k W => I k W ∧ W.heap[w.heap.size + 1]? = some (.loop (rec .ready none)) ∧ W.heap[w.heap.size]? = some (.deferred (some [])))
      (fun k W => X k W ∧ W.heap[w.heap.size + 1]? = some (.loop (rec .done (some .ret))) ∧ W.heap[w.heap.size]? = some (.deferred (some []))) V
      (fun k A C h hb => ⟨hI k A C h.1 (hb.mono (by omega)), (hb.block _ (by omega)).trans h.2.1, (hb.block _ (by omega)).trans h.2.2⟩)
      (fun k A C h hb => ⟨hX k A C h.1 (hb.mono (by omega)), (hb.block _ (by omega)).trans h.2.1, (hb.block _ (by omega)).trans h.2.2⟩) ?_ ⟨hI 0 _ _ h0 hB0, hVl, hVd⟩).mono ?_
    · rintro k A ⟨hi, hl, hd⟩ hkN
      have hlt0 : w.heap.size + 1 < A.heap.size := (Array.getElem?_eq_some_iff.1 hl).1
      have hy : (Instr.yield (w.heap.size + 1) #[enc k]).run P A = .ok (.round (w.heap.size + 1) fn (a.tmps.setIfInBounds p (enc k)) assign body) A := by
        have := run_yield (P := P) (args := #[enc k]) hl (by rw [hrec]; rfl)
        rw [hrec] at this
        simpa using this
      refine ⟨fn, _, assign, body, hy, roundIn_of_wpIn hfn (hassign _ k A _ hlt0 hi ?_)⟩
      clear hy
      intro a' A1 hsf1 hi1 hax1
      have hl1 := (hsf1.same _ (by omega) hlt0).trans hl
      have hd1 := (hsf1.same _ (Nat.le_refl _) (by omega)).trans hd
      have hlt : w.heap.size + 1 < A1.heap.size := (Array.getElem?_eq_some_iff.1 hl1).1
      refine ⟨_, run_beginRound hl1 (by rw [hrec]), ?_⟩
      obtain ⟨A2, hA2⟩ : ∃ A2, A1.putObj (w.heap.size + 1) (.loop { rec .ready none with state := .busy }) = A2 := ⟨_, rfl⟩
      have hl2 : A2.heap[w.heap.size + 1]? = some (.loop { rec .ready none with state := .busy }) := by rw [← hA2]; exact World.putObj_heap_same hlt
      have hd2 : A2.heap[w.heap.size]? = some (.deferred (some [])) := by rw [← hA2]; exact (World.putObj_heap_other (by omega)).trans hd1
      have hi2 : I k A2 := by rw [← hA2]; exact hI k _ _ hi1 (put A1 _ _ hl1 rfl rfl)
      have hs2 : A2.heap.size = A1.heap.size := by rw [← hA2]; simp [World.putObj]
      have ho1 : ∀ j, j ≠ w.heap.size + 1 → A2.heap[j]? = A1.heap[j]? := fun j hj => by rw [← hA2]; exact World.putObj_heap_other hj
      have hz1 := hsf1.size
      have ho2 : ∀ j, j ≠ w.heap.size + 1 → w.heap.size ≤ j → j < A.heap.size → A2.heap[j]? = A.heap[j]? := fun j hj hj1 hj2 => (ho1 j hj).trans (hsf1.same j hj1 hj2)
      rw [hA2]
      refine wpIn_mono (hbody _ k a' A2 (by omega) hi2 (hAx k a' A1 A2 hax1 ho1) hkN) ?_
      have fin : ∀ (jump : Option Code) (C : World), SameFrom w.heap.size A2 C →
          (Instr.endRound (w.heap.size + 1) jump).run P C = .ok (.bool jump.isNone) (C.putObj (w.heap.size + 1) (.loop (rec (if jump.isNone then .ready else .done) jump))) ∧
          C.heap[w.heap.size + 1]? = some (.loop { rec .ready none with state := .busy }) ∧
          (C.putObj (w.heap.size + 1) (.loop (rec (if jump.isNone then .ready else .done) jump))).heap[w.heap.size + 1]? = some (.loop (rec (if jump.isNone then .ready else .done) jump)) ∧
          (C.putObj (w.heap.size + 1) (.loop (rec (if jump.isNone then .ready else .done) jump))).heap[w.heap.size]? = some (.deferred (some [])) ∧
          SameFrom V.heap.size A (C.putObj (w.heap.size + 1) (.loop (rec (if jump.isNone then .ready else .done) jump))) := fun jump C hs => by
        have hl3 := (hs.same (w.heap.size + 1) (by omega) (by omega)).trans hl2
        have hd3 := (hs.same w.heap.size (Nat.le_refl _) (by omega)).trans hd2
        have hr := run_endRound (P := P) jump hl3
        rw [hrec] at hr
        refine ⟨?_, hl3, World.putObj_heap_same (Array.getElem?_eq_some_iff.1 hl3).1, (World.putObj_heap_other (by omega)).trans hd3, ⟨?_, fun j hj1 hj2 => ?_⟩⟩
        · rw [hrec]; exact hr
        · have := hs.size; simp [World.putObj]; omega
        · exact (World.putObj_heap_other (by omega)).trans ((hs.same j (by omega) (by omega)).trans (ho2 j (by omega) (by omega) (by omega)))
      rintro e a3 C hp
      cases e with
      | normal =>
        obtain ⟨hs, hi3⟩ := hp
        obtain ⟨hr, hl3, hl4, hd4, hsf⟩ := fin none C hs
        exact ⟨_, _, hr, .inl ⟨rfl, ⟨hI _ _ _ hi3 (put C _ _ hl3 rfl rfl), hl4, hd4⟩, hsf⟩⟩
      | ret =>
        obtain ⟨hs, hi3⟩ := hp
        obtain ⟨hr, hl3, hl4, hd4, hsf⟩ := fin (some .ret) C hs
        exact ⟨_, _, hr, .inr ⟨rfl, hX _ _ _ hi3 (put C _ _ hl3 rfl rfl), hl4, hd4⟩⟩
      | exit id => exact hp.elim
      | goto t => exact hp.elim
      | panic ch => exact hp.elim
      | outgrown => exact hp.elim
    · rintro e C ⟨⟨v, rfl⟩, (⟨hi, hl, hd⟩ | ⟨k, hk, hi, hl, hd⟩)⟩
      · exact ⟨none, _, by have := run_endLoop (P := P) hl (by rw [hrec]; simp); rw [hrec] at this; exact this, hdone _ _ (Nat.le_refl _) (hI _ _ _ hi (put C _ _ hl rfl rfl)) ((World.putObj_heap_other (by omega)).trans hd)⟩
      · exact ⟨some .ret, _, by have := run_endLoop (P := P) hl (by rw [hrec]; simp); rw [hrec] at this; exact this, hstop _ k _ (Nat.le_refl _) hk (hX _ _ _ hi (put C _ _ hl rfl rfl)) ((World.putObj_heap_other (by omega)).trans hd)⟩
end Go.Proofs.Ytnhjalijnociaaa

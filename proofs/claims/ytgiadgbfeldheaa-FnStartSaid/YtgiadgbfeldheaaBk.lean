/- The walls linked: slices.Backward at boxes, the list that the program makes of the walls. -/
import Derived.RangeFuncNested
import Derived.RangeFuncLeaves
import Derived.Shelf.Abstract
import Derived.WalkKit
import Derived.OwnWalkIn
import Derived.TacticsInMore
import Derived.LoopNIn
import Derived.LoopIn
import Derived.Test.YtgiadgbfeldheaaG
import Derived.Test.YtgiadgbfeldheaaBq
namespace Go.Proofs.Ytgiadgbfeldheaa
open Go.RowKit Go.Shelf

attribute [local go_sem] Oper.semAt_some

/-- a slice of n boxes below block n₀ -/
def BoxesB (n₀ : Nat) (W : World) (a : Option Addr) (n : Nat) (f : Nat → Bx) : Prop :=
  n = 0 ∨ ∃ b off, a = some ⟨b, off, none⟩ ∧ b < n₀ ∧ ∀ i, i < n → BoxCells W b (off + i * 4) (f i)
theorem BoxesB.keep {n₀ : Nat} {w w' : World} {a : Option Addr} {n : Nat} {f : Nat → Bx} (h : BoxesB n₀ w a n f) (hb : Below n₀ w w') : BoxesB n₀ w' a n f := by
  rcases h with h | ⟨b, off, ha, hlt, hc⟩
  · exact .inl h
  · exact .inr ⟨b, off, ha, hlt, fun i hi => (hc i hi).keep hb hlt⟩
/-- a box as a value; a box with its number, as yield is handed it -/
def Bx.val (b : Bx) : Value := .agg #[.int .i64 b.lx, .int .i64 b.ly, .int .i64 b.hx, .int .i64 b.hy]
def encB (x : Nat × Bx) : Array Value := #[.int .i64 (x.1 : Int), .agg #[.int .i64 x.2.lx, .int .i64 x.2.ly, .int .i64 x.2.hx, .int .i64 x.2.hy]]
/-- what has come when k rounds are over: the last k boxes, backward -/
def bks (f : Nat → Bx) (len k : Nat) : List (Nat × Bx) := (List.range k).map fun j => (len - 1 - j, f (len - 1 - j))
theorem bks_length (f : Nat → Bx) (len k : Nat) : (bks f len k).length = k := by simp [bks]
theorem bks_succ (f : Nat → Bx) {len m : Nat} (h : m + 1 ≤ len) : bks f len (len - m) = bks f len (len - (m + 1)) ++ [(m, f m)] := by
  have e : len - m = (len - (m + 1)) + 1 := by omega
  have e2 : len - 1 - (len - (m + 1)) = m := by omega
  unfold bks
  rw [e, List.range_succ, List.map_append]
  simp only [List.map_cons, List.map_nil, e2]

/-- what a round keeps: the old blocks, and the block of the slice -/
structure KpB (n₀ Bs : Nat) (W W' : World) : Prop where
  be : Below n₀ W W'
  bs : W'.heap[Bs]? = W.heap[Bs]?
theorem KpB.t {n₀ Bs : Nat} {A B C : World} (h : KpB n₀ Bs A B) (k : KpB n₀ Bs B C) : KpB n₀ Bs A C := ⟨h.be.trans k.be, k.bs.trans h.bs⟩
theorem KpB.cell {n₀ Bs : Nat} {A B : World} (h : KpB n₀ Bs A B) {v : Value} (hc : A.cell? ⟨Bs, 0, none⟩ = some v) : B.cell? ⟨Bs, 0, none⟩ = some v := (World.cell?_of_block (w := A) h.bs).trans hc

set_option maxRecDepth 100000 in
set_option maxHeartbeats 2000000 in
theorem back1_in (F : Fence) (n : Nat) (hF : F.fn 85) (hro : F.round = none) (hn : 1 ≤ n) (l Bs n₀ len cap : Nat) (a : Option Addr) (f : Nat → Bx) (hreach : len ≤ 1099511627776) (J Jx : List (Nat × Bx) → World → Prop)
    (hY : ∀ pre x W, J pre W → pre.length < len → YieldAt F (n - 1) Try.prog l (encB x) W fun e W' =>
      (e = .returned (.bool true) ∧ J (pre ++ [x]) W' ∧ KpB n₀ Bs W W') ∨ (e = .returned (.bool false) ∧ Jx (pre ++ [x]) W'))
    (W : World) (hBs : W.cell? ⟨Bs, 0, none⟩ = some (.slice a len cap)) (hc : BoxesB n₀ W a len f) (h0 : J [] W) :
    CallsIn F n Try.prog 85 #[.func (.yield l) #[] #[], .pointer (some ⟨Bs, 0, none⟩)] W fun e W' => (∃ v, e = .returned v) ∧
      ((∃ ys, ys = bks f len len ∧ J ys W') ∨ (∃ pre, (∃ k, k ≤ len ∧ pre = bks f len k) ∧ Jx pre W')) := by
  refine callsIn_of_wp Try.func85 rfl hF ?_ hro
  simp only [Try.ntmps85, List.size_toArray, List.length_cons, List.length_nil, Nat.reduceAdd, Nat.reduceSub, Array.replicate_succ, Array.replicate_zero, List.push_toArray, List.append_toArray, List.nil_append, List.cons_append]
  gi_wp2
  gi_loopw [3] (fun i wr => ∃ m : Nat, m ≤ len ∧ i = .int .i64 ((m : Int) - 1) ∧ J (bks f len (len - m)) wr ∧ KpB n₀ Bs W wr)
    (fun i _ => (intOf i + 1).toNat)
  case atStart => exact ⟨len, Nat.le_refl _, rfl, by rw [Nat.sub_self]; exact h0, ⟨Below.refl _ _, rfl⟩⟩
  case round =>
    obtain ⟨m, hm, rfl, hJs, hK⟩ := hrel
    have hBs' := hK.cell hBs
    cases m with
    | zero =>
      gi_wp2
      go_end0
      exact ⟨⟨_, rfl⟩, .inl ⟨_, rfl, hJs⟩⟩
    | succ m =>
      obtain ⟨b, off, rfl, hb, hcs⟩ := hc.resolve_left (by omega)
      obtain ⟨g0, g1, g2, g3⟩ := hcs m (by omega)
      have e0 := (hK.be.cell (p := ⟨b, off + m * 4, none⟩) hb).trans g0
      have e1 := (hK.be.cell (p := ⟨b, off + m * 4 + 1, none⟩) hb).trans g1
      have e2 := (hK.be.cell (p := ⟨b, off + m * 4 + 2, none⟩) hb).trans g2
      have e3 := (hK.be.cell (p := ⟨b, off + m * 4 + 3, none⟩) hb).trans g3
      clear g0 g1 g2 g3
      obtain ⟨fn, tmps, assign, body, hy, hR⟩ := hY _ (m, f m) wr hJs (by rw [bks_length]; omega)
      dsimp only [encB] at hy
      rw [show ((m + 1 : Nat) : Int) - 1 = (m : Int) from by omega]
      have q1 : (0 : Int) ≤ (m : Int) := by omega
      have q2 : (m : Int) < (len : Int) := by omega
      have hCs := Lib.hid hcs
      have hC := Lib.hid hc
      clear hcs hc
      gi_wp2
      refine hR.mono ?_
      rintro e W3 (⟨rfl, hJ3, hk3⟩ | ⟨rfl, hJx3⟩)
      · gi_wp2
        go_roundw
        case rel => exact ⟨m, by omega, rfl, by rw [bks_succ f hm]; exact hJ3, hK.t hk3⟩
        case measure => simp [intOf]
      · gi_wp2
        refine bodyPost_ret (results_none rfl _ _ _) rfl ?_
        exact ⟨⟨_, rfl⟩, .inr ⟨_, ⟨len - m, by omega, (bks_succ f hm).symm⟩, hJx3⟩⟩

theorem back_stops (F : Fence) (n : Nat) (hF : F.fn 85) (hro : F.round = none) (hn : 1 ≤ n) (Bs n₀ len cap : Nat) (a : Option Addr) (f : Nat → Bx) (hreach : len ≤ 1099511627776) (w : World) (hBs : Bs < w.heap.size) (hn₀ : n₀ ≤ w.heap.size)
    (hc : w.cell? ⟨Bs, 0, none⟩ = some (.slice a len cap)) (hI : BoxesB n₀ w a len f) :
    SeqStopsK F n Try.prog 85 #[.pointer (some ⟨Bs, 0, none⟩)] encB (KpB n₀ Bs) (fun ys => ys = bks f len len) (fun pre => ∃ k, k ≤ len ∧ pre = bks f len k) len w := fun l J Jx W hW _ _ hY h0 =>
  back1_in F n hF hro hn l Bs n₀ len cap a f hreach J Jx hY W ((hW.cell (p := ⟨Bs, 0, none⟩) hBs).trans hc) (hI.keep (hW.mono hn₀)) h0

set_option maxHeartbeats 1000000 in
theorem back_in (F : Fence) (n : Nat) (hF : F.fn 73) (hro : F.round = none) (a : Option Addr) (len cap : Nat) (w : World) :
    CallsIn F n Try.prog 73 #[.slice a len cap] w fun e w' => e = .returned (.func (.func 85) #[] #[.pointer (some ⟨w.heap.size, 0, none⟩)]) ∧ w' = w.alloc (.cells #[.slice a len cap] 39) := by
  refine callsIn_of_wp Try.func73 rfl hF ?_ hro
  simp only [Try.ntmps73, List.size_toArray, List.length_cons, List.length_nil, Nat.reduceAdd, Nat.reduceSub, Array.replicate_succ, Array.replicate_zero, List.push_toArray, List.append_toArray, List.nil_append, List.cons_append]
  gi_wp2
  go_ret
  exact ⟨rfl, rfl⟩

/-- a list of walls, from a pointer on -/
def ChainL (base : Nat) (W : World) : Option Addr → List Bx → Prop
  | p, [] => p = none
  | p, b :: bs => ∃ (g : Nat) (q : Option Addr), p = some ⟨g, 0, none⟩ ∧ base ≤ g ∧ W.heap[g]? = some (.cells #[.int .i64 b.lx, .int .i64 b.ly, .int .i64 b.hx, .int .i64 b.hy, .pointer q] 92 (0, 0)) ∧ ChainL base W q bs
theorem ChainL.mono {base base' : Nat} {W W' : World} (hb : base' ≤ base) (hk : ∀ (g : Nat) (o : Obj), base ≤ g → W.heap[g]? = some o → o.isCells = true → W'.heap[g]? = some o) : ∀ {p : Option Addr} {bs : List Bx}, ChainL base W p bs → ChainL base' W' p bs
  | _, [], h => h
  | _, _ :: _, ⟨g, v', h1, h2, h3, h4⟩ => ⟨g, v', h1, Nat.le_trans hb h2, hk g _ h2 h3 rfl, h4.mono hb hk⟩
theorem bks_all (f : Nat → Bx) (len : Nat) : (bks f len len).reverse.map (·.2) = (List.range len).map f := by
  unfold bks
  apply List.ext_getElem
  · simp
  · intro i h1 h2
    have hi : i < len := by simpa using h2
    simp only [List.map_reverse, List.map_map, List.getElem_reverse, List.getElem_map, List.getElem_range, List.length_map, List.length_range, Function.comp_apply]
    congr 1
    omega
theorem heap_put {W : World} {l k : Nat} {o' : Obj} (h : k ≠ l) : (W.putObj l o').heap[k]? = W.heap[k]? := by
  simp [World.putObj, Ne.symm h]

/-- the walls linked -/
def LinkedBoxes (n : Nat) (f : Nat → Bx) (w : World) (e : Ending) (w' : World) : Prop :=
  ∃ q, e = .returned (.pointer q) ∧ ChainL w.heap.size w' q ((List.range n).map f) ∧ Below w.heap.size w w'
/-- .. so far -/
def LinkedI (B : Nat) (pre : List (Nat × Bx)) (W : World) : Prop := B + 2 ≤ W.heap.size ∧ ∃ q, Boxed W B 89 (.pointer q) ∧ ChainL (B + 1) W q (pre.reverse.map (·.2))
theorem linkedI_own (B : Nat) : Own (LinkedI B) := fun s X Y row hs hg hr => by
  obtain ⟨h0, q, h1, h2⟩ := hs
  refine ⟨Nat.le_trans h0 hg.size, q, boxed_own B _ (fun (_ : Unit) => .pointer q) () X Y row h1 hg hr, h2.mono (Nat.le_refl _) fun g o _ hgo hc => ?_⟩
  refine (hg.block g (Array.getElem?_eq_some_iff.1 hgo).1 (fun e => ?_)).trans hgo
  obtain ⟨o', ho', hc'⟩ := hr g e.symm
  rw [hgo] at ho'
  cases ho'
  rw [hc] at hc'
  cases hc'

set_option maxRecDepth 100000 in
set_option maxHeartbeats 4000000 in
theorem linked_in (F : Fence) (n : Nat) (hL : F.fn 55) (hF : F.fn 73) (hF1 : F.fn 85) (hro : F.round = none) (hn : 6 ≤ n) (a : Option Addr) (len cap : Nat) (f : Nat → Bx) (hreach : len ≤ 1099511627776) (w : World) (hI : BoxesAt w a len f) :
    CallsIn F n Try.prog 55 #[.slice a len cap] w (LinkedBoxes len f w) := by
  have h1 : 1 ≤ n := by omega
  refine callsIn_of_wp_marks Try.func55 rfl hL ?_ hro
  simp only [Try.ntmps55, List.size_toArray, List.length_cons, List.length_nil, Nat.reduceAdd, Nat.reduceSub, Array.replicate_succ, Array.replicate_zero, List.push_toArray, List.append_toArray, List.nil_append, List.cons_append]
  gi_wp2_with (gi_at_call 73; refine (back_in F (n - 1) hF hro _ _ _ _).mono ?_; rintro e w' ⟨rfl, rfl⟩)
  have bS := (Boxed.new w 89 (.pointer none)).alloc (.cells #[.slice a len cap] 39)
  have bA := Boxed.new (w.alloc (.cells #[.pointer none] 89)) 39 (.slice a len cap)
  simp only [World.size_alloc] at bA
  have hB0 : Below w.heap.size w ((w.alloc (.cells #[.pointer none] 89)).alloc (.cells #[.slice a len cap] 39)) := ((Below.refl _ w).alloc (Nat.le_refl _) _).alloc (by simp) _
  have hsz : ((w.alloc (.cells #[.pointer none] 89)).alloc (.cells #[.slice a len cap] 39)).heap.size = w.heap.size + 2 := by simp
  obtain ⟨W0, hW0⟩ : ∃ W0, (w.alloc (.cells #[.pointer none] 89)).alloc (.cells #[.slice a len cap] 39) = W0 := ⟨_, rfl⟩
  rw [hW0] at bS bA hB0 hsz ⊢
  clear hW0
  refine wpIn_rangeFunc_ownH hro h1 (gf := 85) (lb := #[.pointer (some ⟨w.heap.size + 1, 0, none⟩)]) rfl hF1 (enters_of Try.func85 (by kernel_rfl) rfl)
    (back_stops F (n - 1) hF1 hro (by omega) (w.heap.size + 1) w.heap.size len cap a f hreach W0 (by omega) (by omega) bA.cell (BoxesB.keep hI hB0)) KpB.t (fun W l o o' hl ho hc hw => ⟨belowK_b (n₀ := w.heap.size) (w := W0) (by omega) W l o o' hl ho hc hw, heap_put (by omega)⟩) (Below.refl _ _) (fun _ => rfl)
    (fun pre W => LinkedI w.heap.size pre W ∧ Below w.heap.size w W)
    (fun _ _ _ => False)
    (OwnFrom.and (Own.from (linkedI_own _) _) (ownFrom_below (Nat.le_refl _) (by omega)))
    (fun _ _ _ _ _ hs _ _ => hs)
    ⟨⟨by omega, none, bS, rfl⟩, hB0⟩
    (fun x a' W => ∃ Bx, w.heap.size + 1 < Bx ∧ W.heap[Bx]? = some (.cells #[.int .i64 x.2.lx, .int .i64 x.2.ly, .int .i64 x.2.hx, .int .i64 x.2.hy] 41 (0, 0)) ∧ a' = { tmps := #[.slice a len cap, undef, .pointer none, .pointer (some ⟨w.heap.size, 0, none⟩), undef, .pointer (some ⟨Bx, 0, none⟩), .slice a len cap, .func (.func 85) #[] #[.pointer (some ⟨w.heap.size + 1, 0, none⟩)], .int .i64 (x.1 : Int), .agg #[.int .i64 x.2.lx, .int .i64 x.2.ly, .int .i64 x.2.hx, .int .i64 x.2.hy], undef, undef, undef, undef, undef], defers := [] })
    (fun x a' _ X Y row hs hg hr => by
      obtain ⟨Bx, h1, h2, h3⟩ := hs
      refine ⟨Bx, h1, (hg.block Bx (Array.getElem?_eq_some_iff.1 h2).1 (fun e => ?_)).trans h2, h3⟩
      obtain ⟨_, o', ho', hc'⟩ := hr Bx e.symm
      rw [h2] at ho'
      cases ho'
      cases hc')
    ?assign ?body ?done ?stop
  case assign =>
    rintro l pre x W K ⟨hLi, hB⟩ hK
    obtain ⟨h2, q, bx, hch⟩ := hLi
    have hlt := bx.lt
    have hs := hB.size
    dsimp only [encB]
    gi_wp2
    exact hK _ _ ((KeepsOthers.alloc _ _).from _) ⟨(Below.refl _ W).alloc hB.size _, Below.heap_alloc _ _ _ (by omega)⟩ ⟨⟨by simp; omega, q, bx.alloc _, hch.mono (Nat.le_refl _) fun g o _ ho _ => (Below.heap_alloc _ _ _ (Array.getElem?_eq_some_iff.1 ho).1).trans ho⟩, hB.alloc hB.size _⟩ ⟨W.heap.size, by omega, World.alloc_heap_new _ _, rfl⟩
  case body =>
    rintro l pre x a' W hl ⟨r, hr⟩ ⟨⟨h2, q, bx, hch⟩, hB⟩ ⟨Bx, hBx, hX, rfl⟩ hlt
    have hXl := (Array.getElem?_eq_some_iff.1 hX).1
    have c0 : W.cell? ⟨Bx, 0, none⟩ = some (.int .i64 x.2.lx) := by simp [World.cell?, hX]
    have c1 : W.cell? ⟨Bx, 1, none⟩ = some (.int .i64 x.2.ly) := by simp [World.cell?, hX]
    have c2 : W.cell? ⟨Bx, 2, none⟩ = some (.int .i64 x.2.hx) := by simp [World.cell?, hX]
    have c3 : W.cell? ⟨Bx, 3, none⟩ = some (.int .i64 x.2.hy) := by simp [World.cell?, hX]
    have cS := bx.cell
    have fS := bx.frozen
    have hlS := bx.lt
    have hX' := Lib.hid hX
    have hR' := Lib.hid hr
    clear hX hr
    gi_wp2
    have hkeep : ∀ (g : Nat) (o u : Obj), w.heap.size + 1 ≤ g → W.heap[g]? = some o → ((W.setCell ⟨w.heap.size, 0, none⟩ (.pointer (some ⟨W.heap.size, 0, none⟩))).alloc u).heap[g]? = some o := fun g o u hg ho => by
      have hlt := (Array.getElem?_eq_some_iff.1 ho).1
      exact ((Below.heap_alloc _ _ _ (by simpa using hlt)).trans (Below.heap_setCell _ _ _ _ (by dsimp only; omega))).trans ho
    refine ⟨((KeepsOthers.setCell _ _ _).trans (KeepsOthers.alloc _ _)).from _, ⟨((Below.refl _ W).setCell (p := ⟨w.heap.size, 0, none⟩) (Nat.le_refl _) _).alloc (by simp; omega) _, ?_⟩, ⟨by simp; omega, some ⟨W.heap.size, 0, none⟩, (bx.set _).alloc _, ?_⟩, (hB.setCell (p := ⟨w.heap.size, 0, none⟩) (Nat.le_refl _) _).alloc (by simp; omega) _⟩
    · exact (Below.heap_alloc _ _ _ (by simp; omega)).trans (Below.heap_setCell _ _ _ _ (by dsimp only; omega))
    · rw [List.reverse_append]
      exact ⟨W.heap.size, q, rfl, by omega, by simpa using World.alloc_heap_new (W.setCell ⟨w.heap.size, 0, none⟩ (.pointer (some ⟨W.heap.size, 0, none⟩))) (.cells #[.int .i64 x.2.lx, .int .i64 x.2.ly, .int .i64 x.2.hx, .int .i64 x.2.hy, .pointer q] 92), hch.mono (Nat.le_refl _) fun g o hg ho _ => hkeep g o _ hg ho⟩
  case done =>
    rintro D ys W hD rfl ⟨⟨h2, q, bx, hch⟩, hB⟩ hK
    have cS := bx.cell
    gi_wp2
    refine ⟨by simp, .inl ⟨_, _, rfl, run_takeDeferred hK, ?_⟩⟩
    refine ⟨_, results_tmp rfl _ _ _, ⟨q, rfl, ?_, hB.trans (belowK_b (w := w) (Nat.le_refl _) W D _ _ (by omega) hK rfl rfl)⟩⟩
    rw [bks_all] at hch
    refine hch.mono (by omega) fun g o _ hg hc => ?_
    rw [heap_put (fun e => by subst e; rw [hK] at hg; cases hg; cases hc)]
    exact hg
  case stop =>
    rintro D c pre W hD _ h _
    exact h.elim
end Go.Proofs.Ytgiadgbfeldheaa

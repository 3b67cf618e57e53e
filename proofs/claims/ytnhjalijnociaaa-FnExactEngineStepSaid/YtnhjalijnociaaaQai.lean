/- The walls linked: slices.Backward at boxes, the list that the program makes of the walls. -/
import Derived.RangeFuncNested
import Derived.RangeFuncLeaves
import Derived.Shelf.Abstract
import Derived.WalkKit
import Derived.OwnWalkIn
import Derived.TacticsInMore
import Derived.LoopNIn
import Derived.LoopIn
import Derived.Test.YtnhjalijnociaaaQab
import Derived.Test.YtnhjalijnociaaaQad
import Derived.Deep.LoopGhost
import Derived.Test.YtnhjalijnociaaaQae
/- The walls linked: slices.Backward at boxes, the list that the program makes of the walls. -/
namespace Go.Proofs.Ytnhjalijnociaaa
open Go.RowKit Go.Shelf

attribute [local go_sem] Oper.semAt_some

/-- a slice of n boxes below block n₀ -/
def BoxesB (n₀ : Nat) (W : World) (a : Option Addr) (n : Nat) (f : Nat → Bx) : Prop :=
  n = 0 ∨ ∃ b off, a = some ⟨b, off, none⟩ ∧ b < n₀ ∧ ∀ i, i < n → BoxCells W b (off + i * 4) (f i)
theorem BoxesB.keep {n₀ : Nat} {w w' : World} {a : Option Addr} {n : Nat} {f : Nat → Bx} (h : BoxesB n₀ w a n f) (hb : Below n₀ w w') : BoxesB n₀ w' a n f := by
  rcases h with h | ⟨b, off, ha, hlt, hc⟩
  · exact .inl h
  · exact .inr ⟨b, off, ha, hlt, fun i hi => (hc i hi).keep hb hlt⟩
/-- a box as a value; a box with its number, as yield is handed it -/
def Bx.val (b : Bx) : Value := .agg #[.int .i64 b.lx, .int .i64 b.ly, .int .i64 b.hx, .int .i64 b.hy]
def encB (x : Nat × Bx) : Array Value := #[.int .i64 (x.1 : Int), .agg #[.int .i64 x.2.lx, .int .i64 x.2.ly, .int .i64 x.2.hx, .int .i64 x.2.hy]]
/-- what has come when k rounds are over: the last k boxes, backward -/
def bks (f : Nat → Bx) (len k : Nat) : List (Nat × Bx) := (List.range k).map fun j => (len - 1 - j, f (len - 1 - j))
theorem bks_length (f : Nat → Bx) (len k : Nat) : (bks f len k).length = k := by simp [bks]
theorem bks_succ (f : Nat → Bx) {len m : Nat} (h : m + 1 ≤ len) : bks f len (len - m) = bks f len (len - (m + 1)) ++ [(m, f m)] := by
  have e : len - m = (len - (m + 1)) + 1 := by omega
  have e2 : len - 1 - (len - (m + 1)) = m := by omega
  unfold bks
  rw [e, List.range_succ, List.map_append]
  simp only [List.map_cons, List.map_nil, e2]

/-- what a round keeps: the old blocks, and the block of the slice -/
structure KpB (n₀ Bs : Nat) (W W' : World) : Prop where
  be : Below n₀ W W'
  bs : W'.heap[Bs]? = W.heap[Bs]?
theorem KpB.t {n₀ Bs : Nat} {A B C : World} (h : KpB n₀ Bs A B) (k : KpB n₀ Bs B C) : KpB n₀ Bs A C := ⟨h.be.trans k.be, k.bs.trans h.bs⟩
theorem KpB.cell {n₀ Bs : Nat} {A B : World} (h : KpB n₀ Bs A B) {v : Value} (hc : A.cell? ⟨Bs, 0, none⟩ = some v) : B.cell? ⟨Bs, 0, none⟩ = some v := (World.cell?_of_block (w := A) h.bs).trans hc

set_option maxRecDepth 100000 in
set_option maxHeartbeats 2000000 in
theorem back1_in (F : Fence) (n : Nat) (hF : F.fn 141) (hro : F.round = none) (hn : 1 ≤ n) (l Bs n₀ len cap : Nat) (a : Option Addr) (f : Nat → Bx) (hreach : len ≤ 1099511627776) (J Jx : List (Nat × Bx) → World → Prop)
    (hY : ∀ pre x W, J pre W → pre.length < len → YieldAt F (n - 1) Try.prog l (encB x) W fun e W' =>
      (e = .returned (.bool true) ∧ J (pre ++ [x]) W' ∧ KpB n₀ Bs W W') ∨ (e = .returned (.bool false) ∧ Jx (pre ++ [x]) W'))
    (W : World) (hBs : W.cell? ⟨Bs, 0, none⟩ = some (.slice a len cap)) (hc : BoxesB n₀ W a len f) (h0 : J [] W) :
    CallsIn F n Try.prog 141 #[.func (.yield l) #[] #[], .pointer (some ⟨Bs, 0, none⟩)] W fun e W' => (∃ v, e = .returned v) ∧
      ((∃ ys, ys = bks f len len ∧ J ys W') ∨ (∃ pre, (∃ k, k ≤ len ∧ pre = bks f len k) ∧ Jx pre W')) := by
  refine callsIn_of_wp Try.func141 rfl hF ?_ hro
  simp only [Try.ntmps141, List.size_toArray, List.length_cons, List.length_nil, Nat.reduceAdd, Nat.reduceSub, Array.replicate_succ, Array.replicate_zero, List.push_toArray, List.append_toArray, List.nil_append, List.cons_append]
  gi_wp2
  gi_loopw [3] (fun i wr => ∃ m : Nat, m ≤ len ∧ i = .int .i64 ((m : Int) - 1) ∧ J (bks f len (len - m)) wr ∧ KpB n₀ Bs W wr)
    (fun i _ => (intOf i + 1).toNat)
  case atStart => exact ⟨len, Nat.le_refl _, rfl, by rw [Nat.sub_self]; exact h0, ⟨Below.refl _ _, rfl⟩⟩
  case round =>
    obtain ⟨m, hm, rfl, hJs, hK⟩ := hrel
    have hBs' := hK.cell hBs
    cases m with
    | zero =>
      gi_wp2
      go_end0
      exact ⟨⟨_, rfl⟩, .inl ⟨_, rfl, hJs⟩⟩
    | succ m =>
      obtain ⟨b, off, rfl, hb, hcs⟩ := hc.resolve_left (by omega)
      obtain ⟨g0, g1, g2, g3⟩ := hcs m (by omega)
      have e0 := (hK.be.cell (p := ⟨b, off + m * 4, none⟩) hb).trans g0
      have e1 := (hK.be.cell (p := ⟨b, off + m * 4 + 1, none⟩) hb).trans g1
      have e2 := (hK.be.cell (p := ⟨b, off + m * 4 + 2, none⟩) hb).trans g2
      have e3 := (hK.be.cell (p := ⟨b, off + m * 4 + 3, none⟩) hb).trans g3
      clear g0 g1 g2 g3
      obtain ⟨fn, tmps, assign, body, hy, hR⟩ := hY _ (m, f m) wr hJs (by rw [bks_length]; omega)
      dsimp only [encB] at hy
      rw [show ((m + 1 : Nat) : Int) - 1 = (m : Int) from by omega]
      have q1 : (0 : Int) ≤ (m : Int) := by omega
      have q2 : (m : Int) < (len : Int) := by omega
      have hCs := Lib.hid hcs
      have hC := Lib.hid hc
      clear hcs hc
      gi_wp2
      refine hR.mono ?_
      rintro e W3 (⟨rfl, hJ3, hk3⟩ | ⟨rfl, hJx3⟩)
      · gi_wp2
        go_roundw
        case rel => exact ⟨m, by omega, rfl, by rw [bks_succ f hm]; exact hJ3, hK.t hk3⟩
        case measure => simp [intOf]
      · gi_wp2
        refine bodyPost_ret (results_none rfl _ _ _) rfl ?_
        exact ⟨⟨_, rfl⟩, .inr ⟨_, ⟨len - m, by omega, (bks_succ f hm).symm⟩, hJx3⟩⟩

theorem back_stops (F : Fence) (n : Nat) (hF : F.fn 141) (hro : F.round = none) (hn : 1 ≤ n) (Bs n₀ len cap : Nat) (a : Option Addr) (f : Nat → Bx) (hreach : len ≤ 1099511627776) (w : World) (hBs : Bs < w.heap.size) (hn₀ : n₀ ≤ w.heap.size)
    (hc : w.cell? ⟨Bs, 0, none⟩ = some (.slice a len cap)) (hI : BoxesB n₀ w a len f) :
    SeqStopsK F n Try.prog 141 #[.pointer (some ⟨Bs, 0, none⟩)] encB (KpB n₀ Bs) (fun ys => ys = bks f len len) (fun pre => ∃ k, k ≤ len ∧ pre = bks f len k) len w := fun l J Jx W hW _ _ hY h0 =>
  back1_in F n hF hro hn l Bs n₀ len cap a f hreach J Jx hY W ((hW.cell (p := ⟨Bs, 0, none⟩) hBs).trans hc) (hI.keep (hW.mono hn₀)) h0

set_option maxHeartbeats 1000000 in
theorem back_in (F : Fence) (n : Nat) (hF : F.fn 130) (hro : F.round = none) (a : Option Addr) (len cap : Nat) (w : World) :
    CallsIn F n Try.prog 130 #[.slice a len cap] w fun e w' => e = .returned (.func (.func 141) #[] #[.pointer (some ⟨w.heap.size, 0, none⟩)]) ∧ w' = w.alloc (.cells #[.slice a len cap] 25) := by
  refine callsIn_of_wp Try.func130 rfl hF ?_ hro
  simp only [Try.ntmps130, List.size_toArray, List.length_cons, List.length_nil, Nat.reduceAdd, Nat.reduceSub, Array.replicate_succ, Array.replicate_zero, List.push_toArray, List.append_toArray, List.nil_append, List.cons_append]
  gi_wp2
  go_ret
  exact ⟨rfl, rfl⟩

/-- a list of walls, from a pointer on -/
def ChainL (base : Nat) (W : World) : Option Addr → List Bx → Prop
  | p, [] => p = none
  | p, b :: bs => ∃ (g : Nat) (q : Option Addr), p = some ⟨g, 0, none⟩ ∧ base ≤ g ∧ W.heap[g]? = some (.cells #[.int .i64 b.lx, .int .i64 b.ly, .int .i64 b.hx, .int .i64 b.hy, .pointer q] 132 (0, 0)) ∧ ChainL base W q bs
theorem ChainL.mono {base base' : Nat} {W W' : World} (hb : base' ≤ base) (hk : ∀ (g : Nat) (o : Obj), base ≤ g → W.heap[g]? = some o → o.isCells = true → W'.heap[g]? = some o) : ∀ {p : Option Addr} {bs : List Bx}, ChainL base W p bs → ChainL base' W' p bs
  | _, [], h => h
  | _, _ :: _, ⟨g, v', h1, h2, h3, h4⟩ => ⟨g, v', h1, Nat.le_trans hb h2, hk g _ h2 h3 rfl, h4.mono hb hk⟩
theorem bks_all (f : Nat → Bx) (len : Nat) : (bks f len len).reverse.map (·.2) = (List.range len).map f := by
  unfold bks
  apply List.ext_getElem
  · simp
  · intro i h1 h2
    have hi : i < len := by simpa using h2
    simp only [List.map_reverse, List.map_map, List.getElem_reverse, List.getElem_map, List.getElem_range, List.length_map, List.length_range, Function.comp_apply]
    congr 1
    omega
theorem heap_put {W : World} {l k : Nat} {o' : Obj} (h : k ≠ l) : (W.putObj l o').heap[k]? = W.heap[k]? := by
  simp [World.putObj, Ne.symm h]

/-- the walls linked -/
def LinkedBoxes (n : Nat) (f : Nat → Bx) (w : World) (e : Ending) (w' : World) : Prop :=
  ∃ q, e = .returned (.pointer q) ∧ ChainL w.heap.size w' q ((List.range n).map f) ∧ Below w.heap.size w w'
/-- .. so far -/
def LinkedI (B : Nat) (pre : List (Nat × Bx)) (W : World) : Prop := B + 2 ≤ W.heap.size ∧ ∃ q, Boxed W B 129 (.pointer q) ∧ ChainL (B + 1) W q (pre.reverse.map (·.2))
theorem linkedI_own (B : Nat) : Own (LinkedI B) := fun s X Y row hs hg hr => by
  obtain ⟨h0, q, h1, h2⟩ := hs
  refine ⟨Nat.le_trans h0 hg.size, q, boxed_own B _ (fun (_ : Unit) => .pointer q) () X Y row h1 hg hr, h2.mono (Nat.le_refl _) fun g o _ hgo hc => ?_⟩
  refine (hg.block g (Array.getElem?_eq_some_iff.1 hgo).1 (fun e => ?_)).trans hgo
  obtain ⟨o', ho', hc'⟩ := hr g e.symm
  rw [hgo] at ho'
  cases ho'
  rw [hc] at hc'
  cases hc'

set_option maxRecDepth 100000 in
set_option maxHeartbeats 4000000 in
theorem linked_in (F : Fence) (n : Nat) (hL : F.fn 113) (hF : F.fn 130) (hF1 : F.fn 141) (hro : F.round = none) (hn : 6 ≤ n) (a : Option Addr) (len cap : Nat) (f : Nat → Bx) (hreach : len ≤ 1099511627776) (w : World) (hI : BoxesAt w a len f) :
    CallsIn F n Try.prog 113 #[.slice a len cap] w (LinkedBoxes len f w) := by
  have h1 : 1 ≤ n := by omega
  refine callsIn_of_wp_marks Try.func113 rfl hL ?_ hro
  simp only [Try.ntmps113, List.size_toArray, List.length_cons, List.length_nil, Nat.reduceAdd, Nat.reduceSub, Array.replicate_succ, Array.replicate_zero, List.push_toArray, List.append_toArray, List.nil_append, List.cons_append]
  gi_wp2_with (gi_at_call 130; refine (back_in F (n - 1) hF hro _ _ _ _).mono ?_; rintro e w' ⟨rfl, rfl⟩)
  have bS := (Boxed.new w 129 (.pointer none)).alloc (.cells #[.slice a len cap] 25)
  have bA := Boxed.new (w.alloc (.cells #[.pointer none] 129)) 25 (.slice a len cap)
  simp only [World.size_alloc] at bA
  have hB0 : Below w.heap.size w ((w.alloc (.cells #[.pointer none] 129)).alloc (.cells #[.slice a len cap] 25)) := ((Below.refl _ w).alloc (Nat.le_refl _) _).alloc (by simp) _
  have hsz : ((w.alloc (.cells #[.pointer none] 129)).alloc (.cells #[.slice a len cap] 25)).heap.size = w.heap.size + 2 := by simp
  obtain ⟨W0, hW0⟩ : ∃ W0, (w.alloc (.cells #[.pointer none] 129)).alloc (.cells #[.slice a len cap] 25) = W0 := ⟨_, rfl⟩
  rw [hW0] at bS bA hB0 hsz ⊢
  clear hW0
  refine wpIn_rangeFunc_ownH hro h1 (gf := 141) (lb := #[.pointer (some ⟨w.heap.size + 1, 0, none⟩)]) rfl hF1 (enters_of Try.func141 (by kernel_rfl) rfl)
    (back_stops F (n - 1) hF1 hro (by omega) (w.heap.size + 1) w.heap.size len cap a f hreach W0 (by omega) (by omega) bA.cell (BoxesB.keep hI hB0)) KpB.t (fun W l o o' hl ho hc hw => ⟨belowK_b (n₀ := w.heap.size) (w := W0) (by omega) W l o o' hl ho hc hw, heap_put (by omega)⟩) (Below.refl _ _) (fun _ => rfl)
    (fun pre W => LinkedI w.heap.size pre W ∧ Below w.heap.size w W)
    (fun _ _ _ => False)
    (OwnFrom.and (Own.from (linkedI_own _) _) (ownFrom_below (Nat.le_refl _) (by omega)))
    (fun _ _ _ _ _ hs _ _ => hs)
    ⟨⟨by omega, none, bS, rfl⟩, hB0⟩
    (fun x a' W => ∃ Bx, w.heap.size + 1 < Bx ∧ W.heap[Bx]? = some (.cells #[.int .i64 x.2.lx, .int .i64 x.2.ly, .int .i64 x.2.hx, .int .i64 x.2.hy] 27 (0, 0)) ∧ a' = { tmps := #[.slice a len cap, undef, .pointer none, .pointer (some ⟨w.heap.size, 0, none⟩), undef, .pointer (some ⟨Bx, 0, none⟩), .slice a len cap, .func (.func 141) #[] #[.pointer (some ⟨w.heap.size + 1, 0, none⟩)], .int .i64 (x.1 : Int), .agg #[.int .i64 x.2.lx, .int .i64 x.2.ly, .int .i64 x.2.hx, .int .i64 x.2.hy], undef, undef, undef, undef, undef], defers := [] })
    (fun x a' _ X Y row hs hg hr => by
      obtain ⟨Bx, h1, h2, h3⟩ := hs
      refine ⟨Bx, h1, (hg.block Bx (Array.getElem?_eq_some_iff.1 h2).1 (fun e => ?_)).trans h2, h3⟩
      obtain ⟨_, o', ho', hc'⟩ := hr Bx e.symm
      rw [h2] at ho'
      cases ho'
      cases hc')
    ?assign ?body ?done ?stop
  case assign =>
    rintro l pre x W K ⟨hLi, hB⟩ hK
    obtain ⟨h2, q, bx, hch⟩ := hLi
    have hlt := bx.lt
    have hs := hB.size
    dsimp only [encB]
    gi_wp2
    exact hK _ _ ((KeepsOthers.alloc _ _).from _) ⟨(Below.refl _ W).alloc hB.size _, Below.heap_alloc _ _ _ (by omega)⟩ ⟨⟨by simp; omega, q, bx.alloc _, hch.mono (Nat.le_refl _) fun g o _ ho _ => (Below.heap_alloc _ _ _ (Array.getElem?_eq_some_iff.1 ho).1).trans ho⟩, hB.alloc hB.size _⟩ ⟨W.heap.size, by omega, World.alloc_heap_new _ _, rfl⟩
  case body =>
    rintro l pre x a' W hl ⟨r, hr⟩ ⟨⟨h2, q, bx, hch⟩, hB⟩ ⟨Bx, hBx, hX, rfl⟩ hlt
    have hXl := (Array.getElem?_eq_some_iff.1 hX).1
    have c0 : W.cell? ⟨Bx, 0, none⟩ = some (.int .i64 x.2.lx) := by simp [World.cell?, hX]
    have c1 : W.cell? ⟨Bx, 1, none⟩ = some (.int .i64 x.2.ly) := by simp [World.cell?, hX]
    have c2 : W.cell? ⟨Bx, 2, none⟩ = some (.int .i64 x.2.hx) := by simp [World.cell?, hX]
    have c3 : W.cell? ⟨Bx, 3, none⟩ = some (.int .i64 x.2.hy) := by simp [World.cell?, hX]
    have cS := bx.cell
    have fS := bx.frozen
    have hlS := bx.lt
    have hX' := Lib.hid hX
    have hR' := Lib.hid hr
    clear hX hr
    gi_wp2
    have hkeep : ∀ (g : Nat) (o u : Obj), w.heap.size + 1 ≤ g → W.heap[g]? = some o → ((W.setCell ⟨w.heap.size, 0, none⟩ (.pointer (some ⟨W.heap.size, 0, none⟩))).alloc u).heap[g]? = some o := fun g o u hg ho => by
      have hlt := (Array.getElem?_eq_some_iff.1 ho).1
      exact ((Below.heap_alloc _ _ _ (by simpa using hlt)).trans (Below.heap_setCell _ _ _ _ (by dsimp only; omega))).trans ho
    refine ⟨((KeepsOthers.setCell _ _ _).trans (KeepsOthers.alloc _ _)).from _, ⟨((Below.refl _ W).setCell (p := ⟨w.heap.size, 0, none⟩) (Nat.le_refl _) _).alloc (by simp; omega) _, ?_⟩, ⟨by simp; omega, some ⟨W.heap.size, 0, none⟩, (bx.set _).alloc _, ?_⟩, (hB.setCell (p := ⟨w.heap.size, 0, none⟩) (Nat.le_refl _) _).alloc (by simp; omega) _⟩
    · exact (Below.heap_alloc _ _ _ (by simp; omega)).trans (Below.heap_setCell _ _ _ _ (by dsimp only; omega))
    · rw [List.reverse_append]
      exact ⟨W.heap.size, q, rfl, by omega, by simpa using World.alloc_heap_new (W.setCell ⟨w.heap.size, 0, none⟩ (.pointer (some ⟨W.heap.size, 0, none⟩))) (.cells #[.int .i64 x.2.lx, .int .i64 x.2.ly, .int .i64 x.2.hx, .int .i64 x.2.hy, .pointer q] 132), hch.mono (Nat.le_refl _) fun g o hg ho _ => hkeep g o _ hg ho⟩
  case done =>
    rintro D ys W hD rfl ⟨⟨h2, q, bx, hch⟩, hB⟩ hK
    have cS := bx.cell
    gi_wp2
    refine ⟨by simp, .inl ⟨_, _, rfl, run_takeDeferred hK, ?_⟩⟩
    refine ⟨_, results_tmp rfl _ _ _, ⟨q, rfl, ?_, hB.trans (belowK_b (w := w) (Nat.le_refl _) W D _ _ (by omega) hK rfl rfl)⟩⟩
    rw [bks_all] at hch
    refine hch.mono (by omega) fun g o _ hg hc => ?_
    rw [heap_put (fun e => by subst e; rw [hK] at hg; cases hg; cases hc)]
    exact hg
  case stop =>
    rintro D c pre W hD _ h _
    exact h.elim
end Go.Proofs.Ytnhjalijnociaaa

/- The program's free: whether the car is free at a point. -/
namespace Go.Proofs.Ytnhjalijnociaaa
open Go.RowKit Go.Shelf

theorem linked_any (a : Option Addr) (len cap : Nat) (f : Nat → Bx) (hreach : len ≤ 1099511627776) (w : World) (hI : BoxesAt w a len f) : Calls Try.prog 113 #[.slice a len cap] w (LinkedBoxes len f w) :=
  callsIn_wide.1 (linked_in Fence.wide 6 trivial trivial trivial rfl (Nat.le_refl _) a len cap f hreach w hI)
/-- the boxes from the k-th on, m of them -/
def dr (f : Nat → Bx) : Nat → Nat → List Bx
  | _, 0 => []
  | k, m + 1 => f k :: dr f (k + 1) m
theorem dr_eq (f : Nat → Bx) : ∀ m k, (List.range m).map (fun j => f (k + j)) = dr f k m
  | 0, _ => rfl
  | m + 1, k => by
    rw [List.range_succ_eq_map, List.map_cons, List.map_map, dr, ← dr_eq f m (k + 1)]
    congr 1
    apply List.map_congr_left
    intro j _
    show f (k + (j + 1)) = f (k + 1 + j)
    congr 1
    omega
theorem dr_all (f : Nat → Bx) (n : Nat) : (List.range n).map f = dr f 0 n := by
  rw [← dr_eq f n 0]
  apply List.map_congr_left
  intro j _
  rw [Nat.zero_add]
theorem ChainL.below {base : Nat} {W W' : World} {p : Option Addr} {bs : List Bx} (h : ChainL base W p bs) (hb : Below W.heap.size W W') : ChainL base W' p bs :=
  h.mono (Nat.le_refl _) fun g _ _ ho _ => (hb.block g (Array.getElem?_eq_some_iff.1 ho).1).trans ho

set_option maxRecDepth 100000 in
set_option maxHeartbeats 2000000 in
theorem iFree (l : Lv) (x y : Int) (w : World) (hn : l.wn ≤ 1099511627776) (hl : BoxesAt w l.wa l.wn l.wf) (hv : bxsB l.wf l.wn = true) (hx1 : -3000000 ≤ x) (hx2 : x ≤ 3000000) (hy1 : -3000000 ≤ y) (hy2 : y ≤ 3000000) : Calls Try.prog 76 #[.agg #[.int .i64 l.id, .int .i64 l.ticks, .int .i64 l.sx, .int .i64 l.sy, .slice l.wa l.wn l.wc, .slice l.ga l.gn l.gc, .int .i64 l.flx, .int .i64 l.fly, .int .i64 l.fhx, .int .i64 l.fhy, .int .i64 l.bans], .agg #[.int .i64 x, .int .i64 y]] w fun e w' => e = .returned (.bool (frB l.wf x y l.wn)) ∧ Below w.heap.size w w' := by
  obtain ⟨lid, lticks, lsx, lsy, wa, wn, wc, ga, gn, gc, flx, fly, fhx, fhy, bans, wf, gf⟩ := l
  simp only at hn hl hv ⊢
  go_enter Try.func76, Try.ntmps76
  go_wp2_with fail
  refine (linked_any _ _ _ wf hn _ (hl.keep (by (repeat (first | with_reducible assumption | with_reducible exact Below.refl _ _ | ((with_reducible refine Below.alloc ?_ ?_ _); rotate_left; · exact (by first | omega | (simp; done) | (simp; omega))) | ((with_reducible refine Below.setCell ?_ ?_ _); rotate_left; · exact (by first | omega | (simp; done) | (simp; omega))) | with_reducible refine Below.drew ?_ | assumption | exact Below.refl _ _ | refine Below.alloc ?_ (by first | omega | (simp; done) | (simp; omega)) _ | refine Below.setCell ?_ (by first | omega | (simp; done) | (simp; omega)) _ | refine Below.drew ?_))))).mono ?_
  rintro e w1 ⟨q, rfl, hch, hb1⟩
  obtain ⟨hc1, hf1⟩ := bcell hb1
  have hv0 : w1.cell? ⟨w.heap.size + 1, 0, none⟩ = some (.int .i64 x) := (hb1.cell (p := ⟨w.heap.size + 1, 0, none⟩) (by simp)).trans (by simp)
  have hv1 : w1.cell? ⟨w.heap.size + 1, 1, none⟩ = some (.int .i64 y) := (hb1.cell (p := ⟨w.heap.size + 1, 1, none⟩) (by simp)).trans (by simp)
  have hB1 : Below w.heap.size w w1 := bstep (by (repeat (first | with_reducible assumption | with_reducible exact Below.refl _ _ | ((with_reducible refine Below.alloc ?_ ?_ _); rotate_left; · exact (by first | omega | (simp; done) | (simp; omega))) | ((with_reducible refine Below.setCell ?_ ?_ _); rotate_left; · exact (by first | omega | (simp; done) | (simp; omega))) | with_reducible refine Below.drew ?_ | assumption | exact Below.refl _ _ | refine Below.alloc ?_ (by first | omega | (simp; done) | (simp; omega)) _ | refine Below.setCell ?_ (by first | omega | (simp; done) | (simp; omega)) _ | refine Below.drew ?_))) (by first | omega | (simp; done) | (simp; omega)) hb1
  have hz1 : w.heap.size + 2 ≤ w1.heap.size := by have := hb1.size; simp at this; omega
  rw [dr_all] at hch
  have hch : ChainL (w.heap.size + 2) w1 q (dr wf 0 wn) := by simpa using hch
  clear hc1 hf1 hb1
  have hV := Lib.hid hv
  clear hv
  go_wp2_with fail
  go_loopg [5] wn (fun m u wr => ∃ p, u = .pointer p ∧ m ≤ wn ∧ ChainL (w.heap.size + 2) wr p (dr wf (wn - m) m) ∧ frB wf x y (wn - m) = true ∧ wr.cell? ⟨w.heap.size + 1, 0, none⟩ = some (.int .i64 x) ∧ wr.cell? ⟨w.heap.size + 1, 1, none⟩ = some (.int .i64 y) ∧ w.heap.size + 2 ≤ wr.heap.size ∧ Below w.heap.size w wr)
  case atStart => exact ⟨q, rfl, Nat.le_refl _, by rw [Nat.sub_self]; exact hch, by rw [Nat.sub_self]; rfl, hv0, hv1, hz1, hB1⟩
  case round =>
    obtain ⟨p, rfl, hm, hc, hfr, hv0, hv1, hsz, hB⟩ := hrel
    have hFr := Lib.hid hfr
    clear hfr
    cases gk with
    | zero =>
      obtain rfl : p = none := hc
      go_wp2
      go_ret
      exact ⟨ret_bool (by have := hFr.out; rw [Nat.sub_zero] at this; exact this.symm), hB⟩
    | succ m =>
      obtain ⟨g, q', rfl, hg, hX, hc'⟩ := hc
      have ek : wn - m = (wn - (m + 1)) + 1 := by omega
      rw [← ek] at hc'
      have hlt : wn - (m + 1) < wn := by omega
      generalize wn - (m + 1) = k at *
      have hgl := (Array.getElem?_eq_some_iff.1 hX).1
      have c0 : wr.cell? ⟨g, 0, none⟩ = some (.int .i64 (wf k).lx) := by simp [World.cell?, hX]
      have c1 : wr.cell? ⟨g, 1, none⟩ = some (.int .i64 (wf k).ly) := by simp [World.cell?, hX]
      have c2 : wr.cell? ⟨g, 2, none⟩ = some (.int .i64 (wf k).hx) := by simp [World.cell?, hX]
      have c3 : wr.cell? ⟨g, 3, none⟩ = some (.int .i64 (wf k).hy) := by simp [World.cell?, hX]
      have c4 : wr.cell? ⟨g, 4, none⟩ = some (.pointer q') := by simp [World.cell?, hX]
      have hok := Lib.hid (bxsB_at hV.out k hlt)
      have hEk := Lib.hid ek
      clear hX ek
      go_wp2_with fail
      go_still_tail 5, (by kernel_rfl)
      go_wp2_with fail
      refine (iTouches (wf k).lx (wf k).ly (wf k).hx (wf k).hy x y 500 _ ((Bx.ok_eq _).symm.trans hok.out) hx1 hx2 hy1 hy2 (by omega) (by omega)).mono ?_
      rintro e w2 ⟨rfl, hb2⟩
      have hz2 : wr.heap.size ≤ w2.heap.size := hb2.size
      have c4' : w2.cell? ⟨g, 4, none⟩ = some (.pointer q') := (hb2.cell (p := ⟨g, 4, none⟩) hgl).trans c4
      cases ht : tcB (wf k).lx (wf k).ly (wf k).hx (wf k).hy x y 500 with
      | true =>
        go_wp2
        go_ret
        exact ⟨ret_bool (frB_no (Bx.far_t ht) _ hlt).symm, (Below.drew hB).trans (hb2.mono hB.size)⟩
      | false =>
        go_wp2
        go_roundg m
        case measure => omega
        case rel => exact ⟨q', rfl, by omega, ChainL.mono (W := wr) (W' := w2) (Nat.le_refl _) (fun g _ _ ho _ => (hb2.block g (Array.getElem?_eq_some_iff.1 ho).1).trans ho) hc', by rw [hEk.out]; exact frB_yes hFr.out (Bx.far_f ht), (hb2.cell (p := ⟨w.heap.size + 1, 0, none⟩) (by simp; omega)).trans hv0, (hb2.cell (p := ⟨w.heap.size + 1, 1, none⟩) (by simp; omega)).trans hv1, by omega, (Below.drew hB).trans (hb2.mono hB.size)⟩
end Go.Proofs.Ytnhjalijnociaaa

/- The reference's functions on levels: whether a level is valid, whether the car is free, what is forbidden. -/
namespace Go.Proofs.Ytnhjalijnociaaa
open Go.RowKit

set_option maxRecDepth 100000 in
set_option maxHeartbeats 1000000 in
theorem sBoxes (a : Option Addr) (n c : Nat) (f : Nat → Bx) (w : World) (hn : n ≤ 1099511627776) (hl : BoxesAt w a n f) : Calls Try.prog 94 #[.slice a n c] w fun e w' => e = .returned (.bool (bxsB f n)) ∧ Below w.heap.size w w' := by
  go_enter Try.func94, Try.ntmps94
  go_wp2
  go_loopw [3] (fun i wr => ∃ k : Nat, k ≤ n ∧ i = .int .i64 k ∧ bxsB f k = true ∧ Below w.heap.size w wr) (fun i _ => n - (intOf i).toNat)
  case atStart => exact ⟨0, Nat.zero_le _, rfl, rfl, Below.refl _ _⟩
  case round =>
    obtain ⟨k, hk, rfl, hfr, hB⟩ := hrel
    have hFr := Lib.hid hfr
    clear hfr
    by_cases hlt : k < n
    · obtain ⟨b, off, rfl, hbl, hcs⟩ := hl.resolve_left (by omega)
      obtain ⟨g0, g1, g2, g3⟩ := hcs k hlt
      have e0 := (hB.cell (p := ⟨b, off + k * 4, none⟩) hbl).trans g0
      have e1 := (hB.cell (p := ⟨b, off + k * 4 + 1, none⟩) hbl).trans g1
      have e2 := (hB.cell (p := ⟨b, off + k * 4 + 2, none⟩) hbl).trans g2
      have e3 := (hB.cell (p := ⟨b, off + k * 4 + 3, none⟩) hbl).trans g3
      clear g0 g1 g2 g3
      have q1 : (0 : Int) ≤ (k : Int) := by omega
      have q2 : (k : Int) < (n : Int) := by omega
      have hL := Lib.hid hl
      have hCs := Lib.hid hcs
      clear hcs hl
      go_wp2_with fail
      refine (sBoxValid (f k).lx (f k).ly (f k).hx (f k).hy _).mono ?_
      rintro e w1 ⟨rfl, hb1⟩
      cases ht : bxB (f k).lx (f k).ly (f k).hx (f k).hy with
      | false =>
        go_wp2
        go_ret
        exact ⟨ret_bool (bxsB_no ((Bx.ok_eq _).trans ht) _ hlt).symm, hB.trans (hb1.mono hB.size)⟩
      | true =>
        go_wp2
        go_roundw
        case rel => exact ⟨k + 1, by omega, by go_num, bxsB_yes hFr.out ((Bx.ok_eq _).trans ht), hB.trans (hb1.mono hB.size)⟩
        case measure => simp [intOf]; omega
    · obtain rfl : k = n := by omega
      go_wp2
      go_ret
      exact ⟨ret_bool hFr.out.symm, hB⟩
set_option maxRecDepth 100000 in
set_option maxHeartbeats 2000000 in
theorem sLevelValid (l : Lv) (w : World) (hn1 : l.wn ≤ 1099511627776) (hn2 : l.gn ≤ 1099511627776) (hl : LvAt w l) : Calls Try.prog 52 #[.agg #[.int .i64 l.id, .int .i64 l.ticks, .int .i64 l.sx, .int .i64 l.sy, .slice l.wa l.wn l.wc, .slice l.ga l.gn l.gc, .int .i64 l.flx, .int .i64 l.fly, .int .i64 l.fhx, .int .i64 l.fhy, .int .i64 l.bans]] w fun e w' => e = .returned (.bool l.ok) ∧ Below w.heap.size w w' := by
  obtain ⟨hw, hg⟩ := hl
  cases h1 : inB l.id 0 99 with
  | false =>
    go_enter Try.func52, Try.ntmps52
    go_wp2_with (go_at_call 79; refine (sIn _ _ _ _).mono ?_; rintro e w' ⟨rfl, rfl⟩)
    go_ret
    exact ⟨ret_bool (by simp [Lv.ok, h1]), by (repeat (first | with_reducible assumption | with_reducible exact Below.refl _ _ | ((with_reducible refine Below.alloc ?_ ?_ _); rotate_left; · exact (by first | omega | (simp; done) | (simp; omega))) | ((with_reducible refine Below.setCell ?_ ?_ _); rotate_left; · exact (by first | omega | (simp; done) | (simp; omega))) | with_reducible refine Below.drew ?_ | assumption | exact Below.refl _ _ | refine Below.alloc ?_ (by first | omega | (simp; done) | (simp; omega)) _ | refine Below.setCell ?_ (by first | omega | (simp; done) | (simp; omega)) _ | refine Below.drew ?_))⟩
  | true =>
  cases h2 : inB l.ticks 1 60 with
  | false =>
    go_enter Try.func52, Try.ntmps52
    go_wp2_with (go_at_call 79; refine (sIn _ _ _ _).mono ?_; rintro e w' ⟨rfl, rfl⟩)
    go_ret
    exact ⟨ret_bool (by simp [Lv.ok, h2]), by (repeat (first | with_reducible assumption | with_reducible exact Below.refl _ _ | ((with_reducible refine Below.alloc ?_ ?_ _); rotate_left; · exact (by first | omega | (simp; done) | (simp; omega))) | ((with_reducible refine Below.setCell ?_ ?_ _); rotate_left; · exact (by first | omega | (simp; done) | (simp; omega))) | with_reducible refine Below.drew ?_ | assumption | exact Below.refl _ _ | refine Below.alloc ?_ (by first | omega | (simp; done) | (simp; omega)) _ | refine Below.setCell ?_ (by first | omega | (simp; done) | (simp; omega)) _ | refine Below.drew ?_))⟩
  | true =>
  go_enter Try.func52, Try.ntmps52
  go_wp2_with first | (go_at_call 79; refine (sIn _ _ _ _).mono ?_; rintro e w' ⟨rfl, rfl⟩) | fail
  refine (sVecOk _ _ _).mono ?_
  rintro e w1 ⟨rfl, hb1⟩; obtain ⟨hc1, hf1⟩ := bcell hb1; have hz1 : w.heap.size < w1.heap.size := (by have := hb1.size; first | omega | (simp at this; omega)); have hy1 : w.heap.size < w1.heap.size + 1 := Nat.lt_succ_of_lt hz1; have hB1 : Below w.heap.size w w1 := bstep (by (repeat (first | with_reducible assumption | with_reducible exact Below.refl _ _ | ((with_reducible refine Below.alloc ?_ ?_ _); rotate_left; · exact (by first | omega | (simp; done) | (simp; omega))) | ((with_reducible refine Below.setCell ?_ ?_ _); rotate_left; · exact (by first | omega | (simp; done) | (simp; omega))) | with_reducible refine Below.drew ?_ | assumption | exact Below.refl _ _ | refine Below.alloc ?_ (by first | omega | (simp; done) | (simp; omega)) _ | refine Below.setCell ?_ (by first | omega | (simp; done) | (simp; omega)) _ | refine Below.drew ?_))) (by first | omega | (simp; done) | (simp; omega)) hb1
  cases h3 : vokB l.sx l.sy with
  | false =>
    go_wp2
    go_ret
    exact ⟨ret_bool (by simp [Lv.ok, h3]), by (repeat (first | with_reducible assumption | with_reducible exact Below.refl _ _ | ((with_reducible refine Below.alloc ?_ ?_ _); rotate_left; · exact (by first | omega | (simp; done) | (simp; omega))) | ((with_reducible refine Below.setCell ?_ ?_ _); rotate_left; · exact (by first | omega | (simp; done) | (simp; omega))) | with_reducible refine Below.drew ?_ | assumption | exact Below.refl _ _ | refine Below.alloc ?_ (by first | omega | (simp; done) | (simp; omega)) _ | refine Below.setCell ?_ (by first | omega | (simp; done) | (simp; omega)) _ | refine Below.drew ?_))⟩
  | true =>
  by_cases h4 : l.wn ≤ 4
  case neg =>
    go_wp2
    go_ret
    exact ⟨ret_bool (by simp [Lv.ok, h4]), by (repeat (first | with_reducible assumption | with_reducible exact Below.refl _ _ | ((with_reducible refine Below.alloc ?_ ?_ _); rotate_left; · exact (by first | omega | (simp; done) | (simp; omega))) | ((with_reducible refine Below.setCell ?_ ?_ _); rotate_left; · exact (by first | omega | (simp; done) | (simp; omega))) | with_reducible refine Below.drew ?_ | assumption | exact Below.refl _ _ | refine Below.alloc ?_ (by first | omega | (simp; done) | (simp; omega)) _ | refine Below.setCell ?_ (by first | omega | (simp; done) | (simp; omega)) _ | refine Below.drew ?_))⟩
  have d4 : decide ((l.wn : Int) ≤ 4) = true := by simp; omega
  go_wp2_with fail; refine (sBoxes _ _ _ l.wf _ hn1 (hw.keep hB1)).mono ?_; rintro e w2 ⟨rfl, hb2⟩; obtain ⟨hc2, hf2⟩ := bcell hb2; have hz2 : w.heap.size < w2.heap.size := (by have := hb2.size; first | omega | (simp at this; omega)); have hy2 : w.heap.size < w2.heap.size + 1 := Nat.lt_succ_of_lt hz2; have hB2 : Below w.heap.size w w2 := bstep (by (repeat (first | with_reducible assumption | with_reducible exact Below.refl _ _ | ((with_reducible refine Below.alloc ?_ ?_ _); rotate_left; · exact (by first | omega | (simp; done) | (simp; omega))) | ((with_reducible refine Below.setCell ?_ ?_ _); rotate_left; · exact (by first | omega | (simp; done) | (simp; omega))) | with_reducible refine Below.drew ?_ | assumption | exact Below.refl _ _ | refine Below.alloc ?_ (by first | omega | (simp; done) | (simp; omega)) _ | refine Below.setCell ?_ (by first | omega | (simp; done) | (simp; omega)) _ | refine Below.drew ?_))) (by first | omega | (simp; done) | (simp; omega)) hb2
  cases h5 : bxsB l.wf l.wn with
  | false =>
    go_wp2
    go_ret
    exact ⟨ret_bool (by simp [Lv.ok, h5]), by (repeat (first | with_reducible assumption | with_reducible exact Below.refl _ _ | ((with_reducible refine Below.alloc ?_ ?_ _); rotate_left; · exact (by first | omega | (simp; done) | (simp; omega))) | ((with_reducible refine Below.setCell ?_ ?_ _); rotate_left; · exact (by first | omega | (simp; done) | (simp; omega))) | with_reducible refine Below.drew ?_ | assumption | exact Below.refl _ _ | refine Below.alloc ?_ (by first | omega | (simp; done) | (simp; omega)) _ | refine Below.setCell ?_ (by first | omega | (simp; done) | (simp; omega)) _ | refine Below.drew ?_))⟩
  | true =>
  by_cases h6 : l.gn ≤ 3
  case neg =>
    go_wp2
    go_ret
    exact ⟨ret_bool (by simp [Lv.ok, h6]), by (repeat (first | with_reducible assumption | with_reducible exact Below.refl _ _ | ((with_reducible refine Below.alloc ?_ ?_ _); rotate_left; · exact (by first | omega | (simp; done) | (simp; omega))) | ((with_reducible refine Below.setCell ?_ ?_ _); rotate_left; · exact (by first | omega | (simp; done) | (simp; omega))) | with_reducible refine Below.drew ?_ | assumption | exact Below.refl _ _ | refine Below.alloc ?_ (by first | omega | (simp; done) | (simp; omega)) _ | refine Below.setCell ?_ (by first | omega | (simp; done) | (simp; omega)) _ | refine Below.drew ?_))⟩
  have d6 : decide ((l.gn : Int) ≤ 3) = true := by simp; omega
  go_wp2_with fail; refine (sBoxes _ _ _ l.gf _ hn2 (hg.keep hB2)).mono ?_; rintro e w3 ⟨rfl, hb3⟩; obtain ⟨hc3, hf3⟩ := bcell hb3; have hz3 : w.heap.size < w3.heap.size := (by have := hb3.size; first | omega | (simp at this; omega)); have hy3 : w.heap.size < w3.heap.size + 1 := Nat.lt_succ_of_lt hz3; have hB3 : Below w.heap.size w w3 := bstep (by (repeat (first | with_reducible assumption | with_reducible exact Below.refl _ _ | ((with_reducible refine Below.alloc ?_ ?_ _); rotate_left; · exact (by first | omega | (simp; done) | (simp; omega))) | ((with_reducible refine Below.setCell ?_ ?_ _); rotate_left; · exact (by first | omega | (simp; done) | (simp; omega))) | with_reducible refine Below.drew ?_ | assumption | exact Below.refl _ _ | refine Below.alloc ?_ (by first | omega | (simp; done) | (simp; omega)) _ | refine Below.setCell ?_ (by first | omega | (simp; done) | (simp; omega)) _ | refine Below.drew ?_))) (by first | omega | (simp; done) | (simp; omega)) hb3
  cases h7 : bxsB l.gf l.gn with
  | false =>
    go_wp2
    go_ret
    exact ⟨ret_bool (by simp [Lv.ok, h7]), by (repeat (first | with_reducible assumption | with_reducible exact Below.refl _ _ | ((with_reducible refine Below.alloc ?_ ?_ _); rotate_left; · exact (by first | omega | (simp; done) | (simp; omega))) | ((with_reducible refine Below.setCell ?_ ?_ _); rotate_left; · exact (by first | omega | (simp; done) | (simp; omega))) | with_reducible refine Below.drew ?_ | assumption | exact Below.refl _ _ | refine Below.alloc ?_ (by first | omega | (simp; done) | (simp; omega)) _ | refine Below.setCell ?_ (by first | omega | (simp; done) | (simp; omega)) _ | refine Below.drew ?_))⟩
  | true =>
  go_wp2_with fail; refine (sBoxValid _ _ _ _ _).mono ?_; rintro e w4 ⟨rfl, hb4⟩; obtain ⟨hc4, hf4⟩ := bcell hb4; have hz4 : w.heap.size < w4.heap.size := (by have := hb4.size; first | omega | (simp at this; omega)); have hy4 : w.heap.size < w4.heap.size + 1 := Nat.lt_succ_of_lt hz4; have hB4 : Below w.heap.size w w4 := bstep (by (repeat (first | with_reducible assumption | with_reducible exact Below.refl _ _ | ((with_reducible refine Below.alloc ?_ ?_ _); rotate_left; · exact (by first | omega | (simp; done) | (simp; omega))) | ((with_reducible refine Below.setCell ?_ ?_ _); rotate_left; · exact (by first | omega | (simp; done) | (simp; omega))) | with_reducible refine Below.drew ?_ | assumption | exact Below.refl _ _ | refine Below.alloc ?_ (by first | omega | (simp; done) | (simp; omega)) _ | refine Below.setCell ?_ (by first | omega | (simp; done) | (simp; omega)) _ | refine Below.drew ?_))) (by first | omega | (simp; done) | (simp; omega)) hb4
  cases h8 : bxB l.flx l.fly l.fhx l.fhy with
  | false =>
    go_wp2
    go_ret
    exact ⟨ret_bool (by simp [Lv.ok, h8]), by (repeat (first | with_reducible assumption | with_reducible exact Below.refl _ _ | ((with_reducible refine Below.alloc ?_ ?_ _); rotate_left; · exact (by first | omega | (simp; done) | (simp; omega))) | ((with_reducible refine Below.setCell ?_ ?_ _); rotate_left; · exact (by first | omega | (simp; done) | (simp; omega))) | with_reducible refine Below.drew ?_ | assumption | exact Below.refl _ _ | refine Below.alloc ?_ (by first | omega | (simp; done) | (simp; omega)) _ | refine Below.setCell ?_ (by first | omega | (simp; done) | (simp; omega)) _ | refine Below.drew ?_))⟩
  | true =>
  cases h9 : inB l.bans 0 3 with
  | false =>
    go_wp2_with (go_at_call 79; refine (sIn _ _ _ _).mono ?_; rintro e w' ⟨rfl, rfl⟩)
    go_ret
    exact ⟨ret_bool (by simp [Lv.ok, h9]), by (repeat (first | with_reducible assumption | with_reducible exact Below.refl _ _ | ((with_reducible refine Below.alloc ?_ ?_ _); rotate_left; · exact (by first | omega | (simp; done) | (simp; omega))) | ((with_reducible refine Below.setCell ?_ ?_ _); rotate_left; · exact (by first | omega | (simp; done) | (simp; omega))) | with_reducible refine Below.drew ?_ | assumption | exact Below.refl _ _ | refine Below.alloc ?_ (by first | omega | (simp; done) | (simp; omega)) _ | refine Below.setCell ?_ (by first | omega | (simp; done) | (simp; omega)) _ | refine Below.drew ?_))⟩
  | true =>
  have hv := vokB_ok h3
  go_wp2_with first | (go_at_call 79; refine (sIn _ _ _ _).mono ?_; rintro e w' ⟨rfl, rfl⟩) | fail
  refine (sFree l l.sx l.sy _ hn1 (hw.keep hB4) h5 (by omega) (by omega) (by omega) (by omega)).mono ?_
  rintro e w5 ⟨rfl, hb5⟩; obtain ⟨hc5, hf5⟩ := bcell hb5; have hz5 : w.heap.size < w5.heap.size := (by have := hb5.size; first | omega | (simp at this; omega)); have hy5 : w.heap.size < w5.heap.size + 1 := Nat.lt_succ_of_lt hz5; have hB5 : Below w.heap.size w w5 := bstep (by (repeat (first | with_reducible assumption | with_reducible exact Below.refl _ _ | ((with_reducible refine Below.alloc ?_ ?_ _); rotate_left; · exact (by first | omega | (simp; done) | (simp; omega))) | ((with_reducible refine Below.setCell ?_ ?_ _); rotate_left; · exact (by first | omega | (simp; done) | (simp; omega))) | with_reducible refine Below.drew ?_ | assumption | exact Below.refl _ _ | refine Below.alloc ?_ (by first | omega | (simp; done) | (simp; omega)) _ | refine Below.setCell ?_ (by first | omega | (simp; done) | (simp; omega)) _ | refine Below.drew ?_))) (by first | omega | (simp; done) | (simp; omega)) hb5
  go_wp2
  go_ret
  exact ⟨ret_bool (by simp [Lv.ok, h1, h2, h3, h4, h5, h6, h7, h8, h9]), by (repeat (first | with_reducible assumption | with_reducible exact Below.refl _ _ | ((with_reducible refine Below.alloc ?_ ?_ _); rotate_left; · exact (by first | omega | (simp; done) | (simp; omega))) | ((with_reducible refine Below.setCell ?_ ?_ _); rotate_left; · exact (by first | omega | (simp; done) | (simp; omega))) | with_reducible refine Below.drew ?_ | assumption | exact Below.refl _ _ | refine Below.alloc ?_ (by first | omega | (simp; done) | (simp; omega)) _ | refine Below.setCell ?_ (by first | omega | (simp; done) | (simp; omega)) _ | refine Below.drew ?_))⟩
end Go.Proofs.Ytnhjalijnociaaa

/- The program's functions on levels: whether a level is valid, whether the car is free, what is forbidden; and the reference's. -/
namespace Go.Proofs.Ytnhjalijnociaaa
open Go.RowKit
attribute [local go_sem] BelW.cell_eq nl1 nl2 nl3 nl4 nl5 nl6 nl7 nl8 nl9 nl10 nl11

theorem bxsB_congr {f g : Nat → Bx} : ∀ n, (∀ i, i < n → f i = g i) → bxsB f n = bxsB g n
  | 0, _ => rfl
  | n + 1, h => by rw [bxsB, bxsB, bxsB_congr n (fun i hi => h i (by omega)), h n (by omega)]
theorem bxsB_add (f : Nat → Bx) (n : Nat) : ∀ m, bxsB f (n + m) = (bxsB f n && bxsB (fun i => f (n + i)) m)
  | 0 => by simp [bxsB]
  | m + 1 => by rw [← Nat.add_assoc, bxsB, bxsB_add f n m, bxsB, Bool.and_assoc]
theorem allB_ok (l : Lv) : bxsB (allB l.wf l.gf l.wn l.gn ⟨l.flx, l.fly, l.fhx, l.fhy⟩) (l.wn + l.gn + 1) = ((bxsB l.wf l.wn && bxsB l.gf l.gn) && bxB l.flx l.fly l.fhx l.fhy) := by
  have h1 : ¬ (l.wn + l.gn < l.wn) := by omega
  have h2 : ¬ (l.wn + l.gn < l.wn + l.gn) := by omega
  rw [bxsB, bxsB_add, bxsB_congr (g := l.wf) l.wn (fun i hi => by simp [allB, hi]), bxsB_congr (g := l.gf) l.gn (fun i hi => by
    have h3 : ¬ (l.wn + i < l.wn) := by omega
    have h4 : l.wn + i < l.wn + l.gn := by omega
    have h5 : l.wn + i - l.wn = i := by omega
    simp [allB, h3, h4, h5]), Bx.ok_eq]
  simp only [allB, if_neg h1, if_neg h2]

set_option maxRecDepth 100000 in
set_option maxHeartbeats 2000000 in
theorem iLevelValid (l : Lv) (w : World) (hl : LvAt w l) : Calls Try.prog 75 #[.agg #[.int .i64 l.id, .int .i64 l.ticks, .int .i64 l.sx, .int .i64 l.sy, .slice l.wa l.wn l.wc, .slice l.ga l.gn l.gc, .int .i64 l.flx, .int .i64 l.fly, .int .i64 l.fhx, .int .i64 l.fhy, .int .i64 l.bans]] w fun e w' => e = .returned (.bool l.ok) ∧ Below w.heap.size w w' := by
  cases h1 : inB l.id 0 99 with
  | false =>
    go_enter Try.func75, Try.ntmps75
    go_wp2_with (go_at_call 102; refine (iIn _ _ _ _).mono ?_; rintro e w' ⟨rfl, rfl⟩)
    go_ret
    exact ⟨ret_bool (by simp [Lv.ok, h1]), by (repeat (first | with_reducible assumption | with_reducible exact Below.refl _ _ | ((with_reducible refine Below.alloc ?_ ?_ _); rotate_left; · exact (by first | omega | (simp; done) | (simp; omega))) | ((with_reducible refine Below.setCell ?_ ?_ _); rotate_left; · exact (by first | omega | (simp; done) | (simp; omega))) | with_reducible refine Below.drew ?_ | assumption | exact Below.refl _ _ | refine Below.alloc ?_ (by first | omega | (simp; done) | (simp; omega)) _ | refine Below.setCell ?_ (by first | omega | (simp; done) | (simp; omega)) _ | refine Below.drew ?_))⟩
  | true =>
  cases h2 : inB l.ticks 1 60 with
  | false =>
    go_enter Try.func75, Try.ntmps75
    go_wp2_with (go_at_call 102; refine (iIn _ _ _ _).mono ?_; rintro e w' ⟨rfl, rfl⟩)
    go_ret
    exact ⟨ret_bool (by simp [Lv.ok, h2]), by (repeat (first | with_reducible assumption | with_reducible exact Below.refl _ _ | ((with_reducible refine Below.alloc ?_ ?_ _); rotate_left; · exact (by first | omega | (simp; done) | (simp; omega))) | ((with_reducible refine Below.setCell ?_ ?_ _); rotate_left; · exact (by first | omega | (simp; done) | (simp; omega))) | with_reducible refine Below.drew ?_ | assumption | exact Below.refl _ _ | refine Below.alloc ?_ (by first | omega | (simp; done) | (simp; omega)) _ | refine Below.setCell ?_ (by first | omega | (simp; done) | (simp; omega)) _ | refine Below.drew ?_))⟩
  | true =>
  go_enter Try.func75, Try.ntmps75
  go_wp2_with first | (go_at_call 102; refine (iIn _ _ _ _).mono ?_; rintro e w' ⟨rfl, rfl⟩) | fail
  refine (iVecOk _ _ _).mono ?_
  rintro e w1 ⟨rfl, hb1⟩; obtain ⟨hc1, hf1⟩ := bcell hb1; have hz1 : w.heap.size < w1.heap.size := (by have := hb1.size; first | omega | (simp at this; omega)); have hy1 : w.heap.size < w1.heap.size + 1 := Nat.lt_succ_of_lt hz1; have hB1 : Below w.heap.size w w1 := bstep (by (repeat (first | with_reducible assumption | with_reducible exact Below.refl _ _ | ((with_reducible refine Below.alloc ?_ ?_ _); rotate_left; · exact (by first | omega | (simp; done) | (simp; omega))) | ((with_reducible refine Below.setCell ?_ ?_ _); rotate_left; · exact (by first | omega | (simp; done) | (simp; omega))) | with_reducible refine Below.drew ?_ | assumption | exact Below.refl _ _ | refine Below.alloc ?_ (by first | omega | (simp; done) | (simp; omega)) _ | refine Below.setCell ?_ (by first | omega | (simp; done) | (simp; omega)) _ | refine Below.drew ?_))) (by first | omega | (simp; done) | (simp; omega)) hb1
  cases h3 : vokB l.sx l.sy with
  | false =>
    go_wp2
    go_ret
    exact ⟨ret_bool (by simp [Lv.ok, h3]), by (repeat (first | with_reducible assumption | with_reducible exact Below.refl _ _ | ((with_reducible refine Below.alloc ?_ ?_ _); rotate_left; · exact (by first | omega | (simp; done) | (simp; omega))) | ((with_reducible refine Below.setCell ?_ ?_ _); rotate_left; · exact (by first | omega | (simp; done) | (simp; omega))) | with_reducible refine Below.drew ?_ | assumption | exact Below.refl _ _ | refine Below.alloc ?_ (by first | omega | (simp; done) | (simp; omega)) _ | refine Below.setCell ?_ (by first | omega | (simp; done) | (simp; omega)) _ | refine Below.drew ?_))⟩
  | true =>
  cases h9 : inB l.bans 0 3 with
  | false =>
    go_wp2_with (go_at_call 102; refine (iIn _ _ _ _).mono ?_; rintro e w' ⟨rfl, rfl⟩)
    go_ret
    exact ⟨ret_bool (by simp [Lv.ok, h9]), by (repeat (first | with_reducible assumption | with_reducible exact Below.refl _ _ | ((with_reducible refine Below.alloc ?_ ?_ _); rotate_left; · exact (by first | omega | (simp; done) | (simp; omega))) | ((with_reducible refine Below.setCell ?_ ?_ _); rotate_left; · exact (by first | omega | (simp; done) | (simp; omega))) | with_reducible refine Below.drew ?_ | assumption | exact Below.refl _ _ | refine Below.alloc ?_ (by first | omega | (simp; done) | (simp; omega)) _ | refine Below.setCell ?_ (by first | omega | (simp; done) | (simp; omega)) _ | refine Below.drew ?_))⟩
  | true =>
  by_cases h4 : l.wn ≤ 4
  case neg =>
    have d4 : decide (4 < (l.wn : Int)) = true := by simp; omega
    go_wp2_with (go_at_call 102; refine (iIn _ _ _ _).mono ?_; rintro e w' ⟨rfl, rfl⟩)
    go_ret
    exact ⟨ret_bool (by simp [Lv.ok, h4]), by (repeat (first | with_reducible assumption | with_reducible exact Below.refl _ _ | ((with_reducible refine Below.alloc ?_ ?_ _); rotate_left; · exact (by first | omega | (simp; done) | (simp; omega))) | ((with_reducible refine Below.setCell ?_ ?_ _); rotate_left; · exact (by first | omega | (simp; done) | (simp; omega))) | with_reducible refine Below.drew ?_ | assumption | exact Below.refl _ _ | refine Below.alloc ?_ (by first | omega | (simp; done) | (simp; omega)) _ | refine Below.setCell ?_ (by first | omega | (simp; done) | (simp; omega)) _ | refine Below.drew ?_))⟩
  have d4 : decide (4 < (l.wn : Int)) = false := by simp; omega
  by_cases h6 : l.gn ≤ 3
  case neg =>
    have d6 : decide (3 < (l.gn : Int)) = true := by simp; omega
    go_wp2_with (go_at_call 102; refine (iIn _ _ _ _).mono ?_; rintro e w' ⟨rfl, rfl⟩)
    go_ret
    exact ⟨ret_bool (by simp [Lv.ok, h6]), by (repeat (first | with_reducible assumption | with_reducible exact Below.refl _ _ | ((with_reducible refine Below.alloc ?_ ?_ _); rotate_left; · exact (by first | omega | (simp; done) | (simp; omega))) | ((with_reducible refine Below.setCell ?_ ?_ _); rotate_left; · exact (by first | omega | (simp; done) | (simp; omega))) | with_reducible refine Below.drew ?_ | assumption | exact Below.refl _ _ | refine Below.alloc ?_ (by first | omega | (simp; done) | (simp; omega)) _ | refine Below.setCell ?_ (by first | omega | (simp; done) | (simp; omega)) _ | refine Below.drew ?_))⟩
  have d6 : decide (3 < (l.gn : Int)) = false := by simp; omega
  go_wp2_with first | (go_at_call 102; refine (iIn _ _ _ _).mono ?_; rintro e w' ⟨rfl, rfl⟩) | fail
  refine (iBoxes l _ (hl.keep hB1) (by omega) (by omega)).mono ?_
  rintro e w2 ⟨g, cap, rfl, hbx, hg1, hg2, hb2⟩
  obtain ⟨hc2, hf2⟩ := bcell hb2; have hz2 : w.heap.size ≤ w2.heap.size := (by have := hb2.size; first | omega | (simp at this; omega)); have hB2 : Below w.heap.size w w2 := bstep (by (repeat (first | with_reducible assumption | with_reducible exact Below.refl _ _ | ((with_reducible refine Below.alloc ?_ ?_ _); rotate_left; · exact (by first | omega | (simp; done) | (simp; omega))) | ((with_reducible refine Below.setCell ?_ ?_ _); rotate_left; · exact (by first | omega | (simp; done) | (simp; omega))) | with_reducible refine Below.drew ?_ | assumption | exact Below.refl _ _ | refine Below.alloc ?_ (by first | omega | (simp; done) | (simp; omega)) _ | refine Below.setCell ?_ (by first | omega | (simp; done) | (simp; omega)) _ | refine Below.drew ?_))) (by first | omega | (simp; done) | (simp; omega)) hb2
  have hz2 : w.heap.size < w2.heap.size := Nat.lt_of_lt_of_le hz1 hb2.size
  go_wp2_with fail; refine (contains_any _ _ _ _ _ (by omega) hbx).mono ?_; rintro e w3 ⟨rfl, hb3⟩; obtain ⟨hc3, hf3⟩ := bcell hb3; have hz3 : w.heap.size < w3.heap.size := (by have := hb3.size; first | omega | (simp at this; omega)); have hy3 : w.heap.size < w3.heap.size + 1 := Nat.lt_succ_of_lt hz3; have hB3 : Below w.heap.size w w3 := bstep (by (repeat (first | with_reducible assumption | with_reducible exact Below.refl _ _ | ((with_reducible refine Below.alloc ?_ ?_ _); rotate_left; · exact (by first | omega | (simp; done) | (simp; omega))) | ((with_reducible refine Below.setCell ?_ ?_ _); rotate_left; · exact (by first | omega | (simp; done) | (simp; omega))) | with_reducible refine Below.drew ?_ | assumption | exact Below.refl _ _ | refine Below.alloc ?_ (by first | omega | (simp; done) | (simp; omega)) _ | refine Below.setCell ?_ (by first | omega | (simp; done) | (simp; omega)) _ | refine Below.drew ?_))) (by first | omega | (simp; done) | (simp; omega)) hb3
  rw [allB_ok]
  cases h5 : bxsB l.wf l.wn with
  | false =>
    go_wp2
    go_ret
    exact ⟨ret_bool (by simp [Lv.ok, h5]), by (repeat (first | with_reducible assumption | with_reducible exact Below.refl _ _ | ((with_reducible refine Below.alloc ?_ ?_ _); rotate_left; · exact (by first | omega | (simp; done) | (simp; omega))) | ((with_reducible refine Below.setCell ?_ ?_ _); rotate_left; · exact (by first | omega | (simp; done) | (simp; omega))) | with_reducible refine Below.drew ?_ | assumption | exact Below.refl _ _ | refine Below.alloc ?_ (by first | omega | (simp; done) | (simp; omega)) _ | refine Below.setCell ?_ (by first | omega | (simp; done) | (simp; omega)) _ | refine Below.drew ?_))⟩
  | true =>
  cases h7 : bxsB l.gf l.gn with
  | false =>
    go_wp2
    go_ret
    exact ⟨ret_bool (by simp [Lv.ok, h7]), by (repeat (first | with_reducible assumption | with_reducible exact Below.refl _ _ | ((with_reducible refine Below.alloc ?_ ?_ _); rotate_left; · exact (by first | omega | (simp; done) | (simp; omega))) | ((with_reducible refine Below.setCell ?_ ?_ _); rotate_left; · exact (by first | omega | (simp; done) | (simp; omega))) | with_reducible refine Below.drew ?_ | assumption | exact Below.refl _ _ | refine Below.alloc ?_ (by first | omega | (simp; done) | (simp; omega)) _ | refine Below.setCell ?_ (by first | omega | (simp; done) | (simp; omega)) _ | refine Below.drew ?_))⟩
  | true =>
  cases h8 : bxB l.flx l.fly l.fhx l.fhy with
  | false =>
    go_wp2
    go_ret
    exact ⟨ret_bool (by simp [Lv.ok, h8]), by (repeat (first | with_reducible assumption | with_reducible exact Below.refl _ _ | ((with_reducible refine Below.alloc ?_ ?_ _); rotate_left; · exact (by first | omega | (simp; done) | (simp; omega))) | ((with_reducible refine Below.setCell ?_ ?_ _); rotate_left; · exact (by first | omega | (simp; done) | (simp; omega))) | with_reducible refine Below.drew ?_ | assumption | exact Below.refl _ _ | refine Below.alloc ?_ (by first | omega | (simp; done) | (simp; omega)) _ | refine Below.setCell ?_ (by first | omega | (simp; done) | (simp; omega)) _ | refine Below.drew ?_))⟩
  | true =>
  have hv := vokB_ok h3
  go_wp2_with fail
  refine (iFree l l.sx l.sy _ (by omega) (hl.1.keep hB3) h5 (by omega) (by omega) (by omega) (by omega)).mono ?_
  rintro e w4 ⟨rfl, hb4⟩; obtain ⟨hc4, hf4⟩ := bcell hb4; have hz4 : w.heap.size < w4.heap.size := (by have := hb4.size; first | omega | (simp at this; omega)); have hy4 : w.heap.size < w4.heap.size + 1 := Nat.lt_succ_of_lt hz4; have hB4 : Below w.heap.size w w4 := bstep (by (repeat (first | with_reducible assumption | with_reducible exact Below.refl _ _ | ((with_reducible refine Below.alloc ?_ ?_ _); rotate_left; · exact (by first | omega | (simp; done) | (simp; omega))) | ((with_reducible refine Below.setCell ?_ ?_ _); rotate_left; · exact (by first | omega | (simp; done) | (simp; omega))) | with_reducible refine Below.drew ?_ | assumption | exact Below.refl _ _ | refine Below.alloc ?_ (by first | omega | (simp; done) | (simp; omega)) _ | refine Below.setCell ?_ (by first | omega | (simp; done) | (simp; omega)) _ | refine Below.drew ?_))) (by first | omega | (simp; done) | (simp; omega)) hb4
  go_wp2
  go_ret
  exact ⟨ret_bool (by simp [Lv.ok, h1, h2, h3, h4, h5, h6, h7, h8, h9]), by (repeat (first | with_reducible assumption | with_reducible exact Below.refl _ _ | ((with_reducible refine Below.alloc ?_ ?_ _); rotate_left; · exact (by first | omega | (simp; done) | (simp; omega))) | ((with_reducible refine Below.setCell ?_ ?_ _); rotate_left; · exact (by first | omega | (simp; done) | (simp; omega))) | with_reducible refine Below.drew ?_ | assumption | exact Below.refl _ _ | refine Below.alloc ?_ (by first | omega | (simp; done) | (simp; omega)) _ | refine Below.setCell ?_ (by first | omega | (simp; done) | (simp; omega)) _ | refine Below.drew ?_))⟩
end Go.Proofs.Ytnhjalijnociaaa

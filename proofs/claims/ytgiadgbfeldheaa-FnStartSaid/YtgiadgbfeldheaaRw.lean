/- Rows of boxes that a function grows; a level under way in memory. -/
import Derived.Test.YtgiadgbfeldheaaCc
import Derived.Test.YtgiadgbfeldheaaBl
set_option linter.unusedVariables false
namespace Go.Proofs.Ytgiadgbfeldheaa
open Go.RowKit

theorem Up.shift {R B g H : Nat} {w w' : World} (h : Up g H w w') (hg : B ≤ g) (hH : B ≤ H) : Up R B w w' := ⟨h.os, h.tape, h.output, h.size, fun k hk hr => h.block k (by omega) (by omega)⟩
theorem Up.under {B g H : Nat} {w w' : World} (h : Up g H w w') (hg : B ≤ g) (hH : B ≤ H) : Below B w w' := ⟨h.os, h.tape, h.output, h.size, fun k hk => h.block k (by omega) (by omega)⟩

/-- a row of n boxes that block g holds -/
def Row (w : World) (g cap n : Nat) (f : Nat → Bx) : Prop := w.ownsRow g 41 4 (.slice (some ⟨g, 0, none⟩) n cap) n (bvals f n)
section
variable {w w' : World} {g cap n : Nat} {f : Nat → Bx}
theorem Row.raw (h : Row w g cap n f) : ∃ cur, w.heap[g]? = some (.cells cur 41 (0, 0)) ∧ n ≤ cap ∧ cap ≤ maxLen ∧ cur.size = cap * 4 ∧ cur.toList.take (n * 4) = bvals f n := by
  rcases h.2 with ⟨h', _⟩ | ⟨g', cap', cur, h', hb, hg, h1, h2, h3, h4⟩
  · simp at h'
  · simp only [Value.slice.injEq, Option.some.injEq, Addr.mk.injEq, and_true, true_and] at h'
    obtain ⟨rfl, rfl⟩ := h'
    exact ⟨cur, hg, h1, h2, h3, h4⟩
theorem Row.of {cur : Array Value} (hg : w.heap[g]? = some (.cells cur 41 (0, 0))) (h1 : n ≤ cap) (h2 : cap ≤ maxLen) (h3 : cur.size = cap * 4) (h4 : cur.toList.take (n * 4) = bvals f n) : Row w g cap n f :=
  ⟨bvals_len f n, .inr ⟨g, cap, cur, rfl, Nat.le_refl _, hg, h1, h2, h3, h4⟩⟩
theorem Row.keep (h : Row w g cap n f) (e : w'.heap[g]? = w.heap[g]?) : Row w' g cap n f := by
  obtain ⟨cur, hg, h1, h2, h3, h4⟩ := h.raw
  exact Row.of (e.trans hg) h1 h2 h3 h4
theorem Row.lt (h : Row w g cap n f) : g < w.heap.size := by
  obtain ⟨cur, hg, _⟩ := h.raw
  exact (Array.getElem?_eq_some_iff.1 hg).1
theorem Row.le_cap (h : Row w g cap n f) : n ≤ cap := by
  obtain ⟨cur, _, h1, _⟩ := h.raw
  exact h1
theorem Row.up {R B : Nat} (h : Row w g cap n f) (hu : Up R B w w') (hlt : g < B) (hne : g ≠ R) : Row w' g cap n f := h.keep (hu.block g hlt hne)
theorem Row.below {B : Nat} (h : Row w g cap n f) (hb : Below B w w') (hlt : g < B) : Row w' g cap n f := h.keep (hb.block g hlt)
theorem Row.alloc (h : Row w g cap n f) (o : Obj) : Row (w.alloc o) g cap n f := h.below ((Below.refl w.heap.size w).alloc (Nat.le_refl _) o) h.lt
theorem Row.other (h : Row w g cap n f) {p : Addr} (hne : g ≠ p.block) (v : Value) : Row (w.setCell p v) g cap n f := h.keep (heap_setCell_other w p g v hne)
theorem Row.boxes (h : Row w g cap n f) : BoxesAt w (some ⟨g, 0, none⟩) n f := boxes_own h
theorem Row.rebase {base : Nat} {xs : List Value} (h : w.ownsRow base 41 4 (.slice (some ⟨g, 0, none⟩) n cap) n xs) (e : xs = bvals f n) : Row w g cap n f := by
  subst e
  rcases h.2 with ⟨h', _⟩ | ⟨g', cap', cur, h', hb, hg, h1, h2, h3, h4⟩
  · simp at h'
  · simp only [Value.slice.injEq, Option.some.injEq, Addr.mk.injEq, and_true, true_and] at h'
    obtain ⟨rfl, rfl⟩ := h'
    exact Row.of hg h1 h2 h3 h4
theorem Row.empty (f : Nat → Bx) (hg : w.heap.size = g) : Row (w.alloc (.cells #[] 41)) g 0 0 f := by
  subst hg
  exact Row.of (heap_alloc_new w _) (Nat.le_refl _) (Nat.zero_le _) rfl rfl
end
/-- one box more -/
def snoc (f : Nat → Bx) (n : Nat) (b : Bx) : Nat → Bx := fun i => if i = n then b else f i
theorem bvals_snoc (f : Nat → Bx) (n : Nat) (b : Bx) : bvals (snoc f n b) (n + 1) = bvals f n ++ b.cells := by
  rw [bvals, bvals_congr n fun i hi => by simp only [snoc]; rw [if_neg (by omega)]]
  simp [snoc]
theorem snoc_all {p : Bx → Prop} {f : Nat → Bx} {n : Nat} {b : Bx} (h : ∀ i, i < n → p (f i)) (hb : p b) : ∀ i, i < n + 1 → p (snoc f n b i) := by
  intro i hi
  by_cases e : i = n
  · simp [snoc, e, hb]
  · simp only [snoc, if_neg e]
    exact h i (by omega)
set_option maxRecDepth 100000 in
theorem app_one {w : World} {ops : Array Oper} {rest : List Oper} {o : Oper} {a : Act} {Q : Exit → Act → World → Prop} (hgd : o.guard = none) (s x : Operand)
    (ho : o.op = .call { callee := .builtin .append, args := #[s, x], argTypes := #[39, 39] }) (g cap n : Nat) (f : Nat → Bx) (b0 b1 b2 b3 : Int) (X c : Nat)
    (hs : a.eval s = .slice (some ⟨g, 0, none⟩) n cap) (hrow : Row w g cap n f) (hx : a.eval x = .slice (some ⟨X, 0, none⟩) 1 c) (hX : Blk w X #[.int .i64 b0, .int .i64 b1, .int .i64 b2, .int .i64 b3]) (hn : n ≤ 1000)
    (h : ∀ g' cap' w', Row w' g' cap' (n + 1) (snoc f n ⟨b0, b1, b2, b3⟩) → (g' = g ∨ g' = w.heap.size) → Up g w.heap.size w w' → g' < w'.heap.size → wpList Try.prog ops Q rest (a.put o.dst (.slice (some ⟨g', 0, none⟩) (n + 1) cap')) w') : wpList Try.prog ops Q (o :: rest) a w := by
  obtain ⟨i0, hii, hiz, his, hib⟩ := info_parts infoBox
  obtain ⟨t0, hX⟩ := hX
  refine wpList_append_lies w hgd s x _ ho g 41 i0 _ 4 32 Try.underlying39 hii hiz his hib rfl (by decide) _ n _ hs hrow ⟨X, 0, none⟩ 1 c (Bx.cells ⟨b0, b1, b2, b3⟩) hx rfl (fun j u hu => World.news_of_block hX j u hu) ?_ (by decide) (by unfold maxLen; omega) (by omega) (Nat.le_of_lt hrow.lt) _ rfl ?_
  · intro u hu
    simp only [Bx.cells, List.mem_cons, List.not_mem_nil, or_false] at hu
    rcases hu with rfl | rfl | rfl | rfl <;> rfl
  · intro g' cap' w' hown hgrow hat hlt
    refine h g' cap' w' (Row.rebase hown (bvals_snoc _ _ _).symm) ?_ ⟨hgrow.os, hgrow.tape, hgrow.output, hgrow.size, fun k hk hne => hgrow.block k hk (by simpa [Value.ownBlock] using hne)⟩ hlt
    rcases hat with hat | hat
    · exact .inl (by simpa [Value.ownBlock] using hat.symm)
    · exact .inr hat

/-- a level under way: block L its cells, gw and gg its rows -/
structure LM (w0 : World) (R L gw gg k : Nat) (a0 a1 a2 a3 : Int) (nw cw ng cg : Nat) (f0 f1 f2 f3 bn : Int) (wf gf : Nat → Bx) (w : World) : Prop where
  rd : Rd w R k
  up : Up R w0.heap.size w0 w
  blk : Blk w L #[.int .i64 a0, .int .i64 a1, .int .i64 a2, .int .i64 a3, .slice (some ⟨gw, 0, none⟩) nw cw, .slice (some ⟨gg, 0, none⟩) ng cg, .int .i64 f0, .int .i64 f1, .int .i64 f2, .int .i64 f3, .int .i64 bn]
  res : Blk w w0.heap.size #[.int .i64 0, .int .i64 0, .int .i64 0, .int .i64 0, .slice none 0 0, .slice none 0 0, .int .i64 0, .int .i64 0, .int .i64 0, .int .i64 0, .int .i64 0]
  wr : Row w gw cw nw wf
  gr : Row w gg cg ng gf
  hR : R < w0.heap.size
  hL : w0.heap.size < L
  hw : w0.heap.size < gw
  hg : w0.heap.size < gg
  n1 : gw ≠ gg
  n2 : gw ≠ L
  n3 : gg ≠ L
section
variable {w0 w w' : World} {R L gw gg k : Nat} {a0 a1 a2 a3 : Int} {nw cw ng cg : Nat} {f0 f1 f2 f3 bn : Int} {wf gf : Nat → Bx}
theorem LM.alloc (h : LM w0 R L gw gg k a0 a1 a2 a3 nw cw ng cg f0 f1 f2 f3 bn wf gf w) (o : Obj) : LM w0 R L gw gg k a0 a1 a2 a3 nw cw ng cg f0 f1 f2 f3 bn wf gf (w.alloc o) :=
  ⟨h.rd.keep ((Below.refl _ _).alloc h.rd.lt o), h.up.alloc h.up.size o, h.blk.alloc o, h.res.alloc o, h.wr.alloc o, h.gr.alloc o, h.hR, h.hL, h.hw, h.hg, h.n1, h.n2, h.n3⟩
theorem LM.drew (h : LM w0 R L gw gg k a0 a1 a2 a3 nw cw ng cg f0 f1 f2 f3 bn wf gf w) : LM w0 R L gw gg k a0 a1 a2 a3 nw cw ng cg f0 f1 f2 f3 bn wf gf w.drew :=
  ⟨h.rd, h.up.drew, h.blk, h.res, h.wr, h.gr, h.hR, h.hL, h.hw, h.hg, h.n1, h.n2, h.n3⟩
theorem LM.pass {k' : Nat} (h : LM w0 R L gw gg k a0 a1 a2 a3 nw cw ng cg f0 f1 f2 f3 bn wf gf w) (hr : Rd w' R k') (hu : Up R w.heap.size w w') : LM w0 R L gw gg k' a0 a1 a2 a3 nw cw ng cg f0 f1 f2 f3 bn wf gf w' := by
  have e1 := h.hR; have e2 := h.hL; have e3 := h.hw; have e4 := h.hg
  exact ⟨hr, h.up.trans (hu.mono h.up.size), h.blk.up hu h.blk.lt (by omega), h.res.up hu h.res.lt (by omega), h.wr.up hu h.wr.lt (by omega), h.gr.up hu h.gr.lt (by omega), h.hR, h.hL, h.hw, h.hg, h.n1, h.n2, h.n3⟩
theorem LM.cells (h : LM w0 R L gw gg k a0 a1 a2 a3 nw cw ng cg f0 f1 f2 f3 bn wf gf w) : w.cell? ⟨L, 0, none⟩ = some (.int .i64 a0) ∧ w.cell? ⟨L, 1, none⟩ = some (.int .i64 a1) ∧ w.cell? ⟨L, 2, none⟩ = some (.int .i64 a2) ∧ w.cell? ⟨L, 3, none⟩ = some (.int .i64 a3) ∧ w.cell? ⟨L, 4, none⟩ = some (.slice (some ⟨gw, 0, none⟩) nw cw) ∧ w.cell? ⟨L, 5, none⟩ = some (.slice (some ⟨gg, 0, none⟩) ng cg) ∧ w.cell? ⟨L, 6, none⟩ = some (.int .i64 f0) ∧ w.cell? ⟨L, 7, none⟩ = some (.int .i64 f1) ∧ w.cell? ⟨L, 8, none⟩ = some (.int .i64 f2) ∧ w.cell? ⟨L, 9, none⟩ = some (.int .i64 f3) ∧ w.cell? ⟨L, 10, none⟩ = some (.int .i64 bn) := h.blk.c11
theorem LM.frozen (h : LM w0 R L gw gg k a0 a1 a2 a3 nw cw ng cg f0 f1 f2 f3 bn wf gf w) (i : Nat) : w.frozen? ⟨L, i, none⟩ = false := h.blk.frozen i
theorem LM.gates {g' c' n' : Nat} {gf' : Nat → Bx} (h : LM w0 R L gw gg k a0 a1 a2 a3 nw cw ng cg f0 f1 f2 f3 bn wf gf w) (hrow : Row w' g' c' n' gf') (hat : g' = gg ∨ g' = w.heap.size) (hu : Up gg w.heap.size w w') :
    LM w0 R L gw g' k a0 a1 a2 a3 nw cw n' c' f0 f1 f2 f3 bn wf gf' (w'.setCell ⟨L, 5, none⟩ (.slice (some ⟨g', 0, none⟩) n' c')) := by
  have e1 := h.hR; have e2 := h.hL; have e3 := h.hw; have e4 := h.hg; have e5 := h.up.size; have e6 := h.n1; have e7 := h.n2; have e8 := h.n3
  have e9 := h.blk.lt; have e10 := h.wr.lt; have e11 := h.gr.lt
  have hgL : g' ≠ L := by omega
  have hB : Below (R + 1) w (w'.setCell ⟨L, 5, none⟩ (.slice (some ⟨g', 0, none⟩) n' c')) := Below.setCell (p := ⟨L, 5, none⟩) (hu.under (by omega) (by omega)) (by simp only; omega) _
  have hb := (h.blk.up hu h.blk.lt (fun e => h.n3 e.symm)).s11_5 (.slice (some ⟨g', 0, none⟩) n' c')
  refine ⟨h.rd.keep hB, (h.up.trans (hu.shift (by omega) (by omega))).setCell (p := ⟨L, 5, none⟩) (.inr (by simp only; omega)) _, hb, (h.res.up hu h.res.lt (by omega)).other (by simp only; omega) _, (h.wr.up hu h.wr.lt (by omega)).other (by simp only; omega) _, hrow.other (by simp only; omega) _, h.hR, h.hL, h.hw, by omega, by omega, by omega, by omega⟩
theorem LM.walls {g' c' n' : Nat} {wf' : Nat → Bx} (h : LM w0 R L gw gg k a0 a1 a2 a3 nw cw ng cg f0 f1 f2 f3 bn wf gf w) (hrow : Row w' g' c' n' wf') (hat : g' = gw ∨ g' = w.heap.size) (hu : Up gw w.heap.size w w') :
    LM w0 R L g' gg k a0 a1 a2 a3 n' c' ng cg f0 f1 f2 f3 bn wf' gf (w'.setCell ⟨L, 4, none⟩ (.slice (some ⟨g', 0, none⟩) n' c')) := by
  have e1 := h.hR; have e2 := h.hL; have e3 := h.hw; have e4 := h.hg; have e5 := h.up.size; have e6 := h.n1; have e7 := h.n2; have e8 := h.n3
  have e9 := h.blk.lt; have e10 := h.wr.lt; have e11 := h.gr.lt
  have hgL : g' ≠ L := by omega
  have hB : Below (R + 1) w (w'.setCell ⟨L, 4, none⟩ (.slice (some ⟨g', 0, none⟩) n' c')) := Below.setCell (p := ⟨L, 4, none⟩) (hu.under (by omega) (by omega)) (by simp only; omega) _
  have hb := (h.blk.up hu h.blk.lt (fun e => h.n2 e.symm)).s11_4 (.slice (some ⟨g', 0, none⟩) n' c')
  refine ⟨h.rd.keep hB, (h.up.trans (hu.shift (by omega) (by omega))).setCell (p := ⟨L, 4, none⟩) (.inr (by simp only; omega)) _, hb, (h.res.up hu h.res.lt (by omega)).other (by simp only; omega) _, hrow.other (by simp only; omega) _, (h.gr.up hu h.gr.lt (by omega)).other (by simp only; omega) _, h.hR, h.hL, by omega, h.hg, by omega, by omega, h.n3⟩
theorem LM.fin (h : LM w0 R L gw gg k a0 a1 a2 a3 nw cw ng cg f0 f1 f2 f3 bn wf gf w) (x0 x1 x2 x3 : Int) :
    LM w0 R L gw gg k a0 a1 a2 a3 nw cw ng cg x0 x1 x2 x3 bn wf gf ((((w.setCell ⟨L, 6, none⟩ (.int .i64 x0)).setCell ⟨L, 7, none⟩ (.int .i64 x1)).setCell ⟨L, 8, none⟩ (.int .i64 x2)).setCell ⟨L, 9, none⟩ (.int .i64 x3)) := by
  have e1 := h.hR; have e2 := h.hL; have e5 := h.up.size; have e6 := h.n1; have e7 := h.n2; have e8 := h.n3
  refine ⟨h.rd.keep ?_, ?_, (((h.blk.s11_6 _).s11_7 _).s11_8 _).s11_9 _, ?_, ?_, ?_, h.hR, h.hL, h.hw, h.hg, h.n1, h.n2, h.n3⟩
  · exact Below.setCell (p := ⟨L, 9, none⟩) (Below.setCell (p := ⟨L, 8, none⟩) (Below.setCell (p := ⟨L, 7, none⟩) (Below.setCell (p := ⟨L, 6, none⟩) (Below.refl _ _) (by simp only; omega) _) (by simp only; omega) _) (by simp only; omega) _) (by simp only; omega) _
  · exact (((h.up.setCell (p := ⟨L, 6, none⟩) (.inr (by simp only; omega)) _).setCell (p := ⟨L, 7, none⟩) (.inr (by simp only; omega)) _).setCell (p := ⟨L, 8, none⟩) (.inr (by simp only; omega)) _).setCell (p := ⟨L, 9, none⟩) (.inr (by simp only; omega)) _
  · exact (((h.res.other (by simp only; omega) _).other (by simp only; omega) _).other (by simp only; omega) _).other (by simp only; omega) _
  · exact (((h.wr.other (by simp only; omega) _).other (by simp only; omega) _).other (by simp only; omega) _).other (by simp only; omega) _
  · exact (((h.gr.other (by simp only; omega) _).other (by simp only; omega) _).other (by simp only; omega) _).other (by simp only; omega) _
end
/-- a level in memory, its rows behind the reader's block -/
def LvR (w : World) (R : Nat) (l : Lv) : Prop := LvAt w l ∧ (∀ b o s, l.wa = some ⟨b, o, s⟩ → R < b) ∧ (∀ b o s, l.ga = some ⟨b, o, s⟩ → R < b)
theorem boxes_up {w w' : World} {R B n : Nat} {a : Option Addr} {f : Nat → Bx} (h : BoxesAt w a n f) (hn : ∀ b o s, a = some ⟨b, o, s⟩ → b ≠ R) (hu : Up R w.heap.size w w') : BoxesAt w' a n f := by
  rcases h with h | ⟨b, off, ha, hlt, hc⟩
  · exact .inl h
  · have hne := hn _ _ _ ha
    refine .inr ⟨b, off, ha, Nat.lt_of_lt_of_le hlt hu.size, fun i hi => ?_⟩
    obtain ⟨h0, h1, h2, h3⟩ := hc i hi
    exact ⟨(hu.cell (p := ⟨b, off + i * 4, none⟩) hlt hne).trans h0, (hu.cell (p := ⟨b, off + i * 4 + 1, none⟩) hlt hne).trans h1, (hu.cell (p := ⟨b, off + i * 4 + 2, none⟩) hlt hne).trans h2, (hu.cell (p := ⟨b, off + i * 4 + 3, none⟩) hlt hne).trans h3⟩
theorem LvR.up {w w' : World} {R : Nat} {l : Lv} (h : LvR w R l) (hu : Up R w.heap.size w w') : LvR w' R l := ⟨⟨boxes_up (B := 0) h.1.1 (fun b o s hb => Nat.ne_of_gt (h.2.1 b o s hb)) hu, boxes_up (B := 0) h.1.2 (fun b o s hb => Nat.ne_of_gt (h.2.2 b o s hb)) hu⟩, h.2⟩
theorem LvR.set {w w' : World} {R A : Nat} {l : Lv} (h : LvR w R l) (hu : Up A w.heap.size w w') (hA : A ≤ R) : LvR w' R l := ⟨⟨boxes_up (B := 0) h.1.1 (fun b o s hb => by have := h.2.1 b o s hb; omega) hu, boxes_up (B := 0) h.1.2 (fun b o s hb => by have := h.2.2 b o s hb; omega) hu⟩, h.2⟩
theorem LvR.below {w w' : World} {R : Nat} {l : Lv} (h : LvR w R l) (hu : Below w.heap.size w w') : LvR w' R l := ⟨h.1.keep hu, h.2⟩
theorem LM.done {w0 w : World} {R L gw gg k : Nat} {a0 a1 a2 a3 : Int} {nw cw ng cg : Nat} {f0 f1 f2 f3 bn : Int} {wf gf : Nat → Bx} (h : LM w0 R L gw gg k a0 a1 a2 a3 nw cw ng cg f0 f1 f2 f3 bn wf gf w) (c : Array Value) :
    LvR (w.setRow w0.heap.size c) R ⟨a0, a1, a2, a3, some ⟨gw, 0, none⟩, nw, cw, some ⟨gg, 0, none⟩, ng, cg, f0, f1, f2, f3, bn, wf, gf⟩ ∧ Rd (w.setRow w0.heap.size c) R k ∧ Up R w0.heap.size w0 (w.setRow w0.heap.size c) := by
  have e1 := h.hR; have e3 := h.hw; have e4 := h.hg
  refine ⟨⟨⟨(h.wr.keep (setRow_other w w0.heap.size gw c (by omega))).boxes, (h.gr.keep (setRow_other w w0.heap.size gg c (by omega))).boxes⟩, ?_, ?_⟩, h.rd.keep (Below.setRow (Below.refl _ _) (by omega) _), h.up.setRow (Nat.le_refl _) _⟩
  · intro b o s hb
    simp only [Option.some.injEq, Addr.mk.injEq] at hb
    obtain ⟨rfl, _⟩ := hb
    omega
  · intro b o s hb
    simp only [Option.some.injEq, Addr.mk.injEq] at hb
    obtain ⟨rfl, _⟩ := hb
    omega
/-- a box that is not large -/
def Bx.sm (b : Bx) : Prop := (-1010000 ≤ b.lx ∧ b.lx ≤ 1010000) ∧ (-1010000 ≤ b.ly ∧ b.ly ≤ 1010000) ∧ (-1010000 ≤ b.hx ∧ b.hx ≤ 1010000) ∧ (-1010000 ≤ b.hy ∧ b.hy ≤ 1010000)
theorem Bx.sm_of {a b c d : Int} (h1 : -1010000 ≤ a) (h2 : a ≤ 1010000) (h3 : -1010000 ≤ b) (h4 : b ≤ 1010000) (h5 : -1010000 ≤ c) (h6 : c ≤ 1010000) (h7 : -1010000 ≤ d) (h8 : d ≤ 1010000) : Bx.sm ⟨a, b, c, d⟩ := ⟨⟨h1, h2⟩, ⟨h3, h4⟩, ⟨h5, h6⟩, ⟨h7, h8⟩⟩
/-- a level that is not large -/
structure Lv.sm (l : Lv) (n : Nat) : Prop where
  wn : l.wn ≤ n
  gn : l.gn ≤ n
  id : -10 ≤ l.id ∧ l.id ≤ 200
  ticks : -10 ≤ l.ticks ∧ l.ticks ≤ 200
  sx : -1010000 ≤ l.sx ∧ l.sx ≤ 1010000
  sy : -1010000 ≤ l.sy ∧ l.sy ≤ 1010000
  fin : Bx.sm ⟨l.flx, l.fly, l.fhx, l.fhy⟩
  bans : -10 ≤ l.bans ∧ l.bans ≤ 10
  walls : ∀ i, i < l.wn → (l.wf i).sm
  gates : ∀ i, i < l.gn → (l.gf i).sm
  wcap : l.wn ≤ l.wc
  gcap : l.gn ≤ l.gc
/-- a level drawn -/
def DrawnLevel (n c R k : Nat) (w : World) (e : Ending) (w' : World) : Prop :=
  ∃ (l : Lv) (k' : Nat), e = .returned (.agg #[.int .i64 l.id, .int .i64 l.ticks, .int .i64 l.sx, .int .i64 l.sy, .slice l.wa l.wn l.wc, .slice l.ga l.gn l.gc, .int .i64 l.flx, .int .i64 l.fly, .int .i64 l.fhx, .int .i64 l.fhy, .int .i64 l.bans]) ∧ LvR w' R l ∧ l.sm n ∧ k ≤ k' ∧ k' ≤ k + c ∧ Rd w' R k' ∧ Up R w.heap.size w w'
end Go.Proofs.Ytgiadgbfeldheaa
